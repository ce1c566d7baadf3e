/- A store into an element of a slice that owns its row. -/
import Derived.Test.YticclennllklpaaDoorK2
import Derived.Test.YticclennllklpaaDoorK8
import Derived.Test.YticclennllklpaaDoorRows
import Derived.Test.YticclennllklpaaDoorK4
import Derived.ProofKit
import Derived.OpenShut
import Derived.LaidMore
import Derived.Lay
import Derived.Stop.Joined
set_option linter.all false
/- A store into an element of a slice that owns its row. -/
namespace Go.Own
open Go Go.RowKit
section
variable {P : Program} {ops : Array Oper} {Q : Exit → Act → World → Prop} {rest : List Oper} {a : Act} {E w : World} {X A R : Fr} {d : Option Tmp} {ty : TypeId} {pos : String} {aft : Array Edge} {g : Option (Nat × Bool)}
/-- A store into an element of a slice that owns its row. -/
theorem own_storeSlW {t e : TypeId} {x y : Operand} {v : Value} {b i n cap sz : Nat} {xs : List Value} (hO : Own E w X) (hw : Region.wanted ⟨d, .store t x y, ty, pos, aft, g⟩ (yielded ops a.tmps) = true)
    (hx : a.eval x = .pointer (some ⟨b, i * sz, none⟩)) (hy : a.eval y = v) (hv : Sl e sz (some ⟨b, 0, none⟩) n cap xs A) [hp : Pick X A R] (hi : i < n) (hsz : v.cells.toList.length = sz)
    (hs : (sizeOf t).run P w = .ok v.cells.size w) (h1 : ∀ u ∈ v.cells.toList, u.oneCell' = true)
    (next : ∀ w1 A', Sl e sz (some ⟨b, 0, none⟩) n cap (xs.take (i * sz) ++ v.cells.toList ++ xs.drop (i * sz + sz)) A' → Own E w1 (A' ++ R) → wpList P ops Q rest (a.put d undef) w1) :
    wpList P ops Q (⟨d, .store t x y, ty, pos, aft, g⟩ :: rest) a w := by
  obtain ⟨hl, hc, hm, h4⟩ := hv
  rcases h4 with ⟨h, _, _⟩ | ⟨b', tl, hb, hlen, rfl⟩
  · cases h
  · cases hb
    have hO1 := hO.perm hp.perm
    have hbd : (i + 1) * sz ≤ n * sz := Nat.mul_le_mul_right _ hi
    have hbe : (i + 1) * sz = i * sz + sz := Nat.succ_mul i sz
    have hvs : v.cells.size = sz := by rw [← hsz, Array.length_toList]
    refine own_store (v := v) (b := b) (off := i * sz) (cs := (xs ++ tl).toArray) (e := e) hO1 hw hx hy hs h1 (by rw [hvs]; show i * sz + sz ≤ (xs ++ tl).toArray.size; rw [List.size_toArray, hlen]; have := Nat.mul_le_mul_right sz hc; omega) fun w1 hO2 => ?_
    have hpre : (xs.take (i * sz)).length = i * sz := by rw [List.length_take]; omega
    have hsp : splice (xs ++ tl).toArray (i * sz) v.cells.toList = (xs.take (i * sz) ++ v.cells.toList ++ xs.drop (i * sz + sz) ++ tl).toArray := by
      have := splice_append v.cells.toList (xs.take (i * sz)) (xs.drop (i * sz) ++ tl) (by rw [List.length_append, List.length_drop]; omega)
      rw [← List.append_assoc, List.take_append_drop, hpre] at this
      rw [this, hsz, List.drop_append_of_le_length (by rw [List.length_drop]; omega), List.drop_drop]
      simp only [List.append_assoc]
    rw [hsp] at hO2
    refine next w1 _ ⟨?_, hc, hm, .inr ⟨b, tl, rfl, ?_, rfl⟩⟩ hO2
    · simp only [List.length_append, List.length_take, List.length_drop]; omega
    · rw [← hlen]
      simp only [List.length_append, List.length_take, List.length_drop]; omega
end
end Go.Own

/- Layer 9: MethodPlays. -/
namespace Go.Proofs.YticclennllklpaaDoor
open Go Go.RowKit Go.Own Go.Dt

set_option maxRecDepth 100000 in
set_option maxHeartbeats 16000000 in
theorem methodPlays (E w : World) (X R I : Fr) (sa : Option Addr) (ca : Nat) (L : List OpB) (hL0 : OpsAtB E I sa L) (hwf : ∀ o ∈ L, o.y.d.wf) (hll : L.length ≤ 1954687338268) (hG : MaxL E I) (hO : Own E w X) [hp : Pick X I R] :
    Calls Tryd.prog 5 #[.slice sa L.length ca] w fun e w' => e = .returned (.bool true) ∧ Own E w' (I ++ R) := by
  replace hO := hO.perm hp.perm
  clear hp
  have HLL := Lib.hid hll
  clear hll
  go_enter Tryd.func5, Tryd.ntmps5
  go_wp2_with fail
  refine (newPlain E _ _ hO).mono ?_
  clear hO
  rintro e w1 ⟨p, rfl, hO⟩
  go_wp2_with fail
  refine (all9 E _ _ hO).mono ?_
  clear hO
  rintro e w2 ⟨kb, rfl, hO⟩
  go_wp2_with fail
  refine (playsP E _ _ R (plainF p none 0 0) (pt kb (.cells #[.int .i64 1, .int .i64 2, .int .i64 3] 3 (0, 0))) I p 0 _ 3 (sl_three (E := E) kb) sa ca L hL0 hwf (by have := HLL.out; unfold CP; omega) ⟨[], PlainAt.new E p, rfl, Nat.le_refl _⟩ hG (hO.as (plainF p none 0 0 ++ (pt kb (.cells #[.int .i64 1, .int .i64 2, .int .i64 3] 3 (0, 0)) ++ (I ++ R))))).mono ?_
  clear hO
  rintro e w3 ⟨A, so, co, os, SL, rfl, hL, hA, hO⟩
  replace hO : Own E w3 (SL ++ (A ++ (I ++ R))) := hO.as _
  have hc1 : 0 + L.length + 1 < CP := by have := HLL.out; unfold CP; omega
  have hc2 : 0 + L.length + 1 + 1 < CP := by have := HLL.out; unfold CP; omega
  go_wp2_with fail
  refine (mEntP E _ _ (SL ++ (I ++ R)) A p (0 + L.length + 1) (esO os) hc1 hA (hO.as (A ++ (SL ++ (I ++ R))))).mono ?_
  clear hO hA
  rintro e w4 ⟨A, so1, co1, os1, SO1, FO1, rfl, hes1, hL1, hA, hO⟩
  have hn1 : os1.length ≤ 2000000000000 := by
    have h1 := congrArg List.length hes1
    have h2 := hA.le
    rw [esO_len] at h1
    have := HLL.out
    omega
  have hS1 := hL1.row
  have HN1 := Lib.hid hn1
  clear hes1 hL1 hn1
  go_wp2_with fail
  have hO1 := hO
  have hS2 := hS1
  clear hO hS1
  go_loopw [7] (fun i wr => ∃ (j : Nat) (xs : List Value) (SO : Fr), i = .int .i64 (j : Int) ∧ j ≤ os1.length ∧ Sl 32 5 so1 os1.length co1 xs SO ∧ Own E wr (SO ++ (FO1 ++ (A ++ (SL ++ (I ++ R)))))) (fun i _ => os1.length - (intOf i).toNat)
  case atStart => exact ⟨0, _, _, rfl, Nat.zero_le _, hS2, hO1⟩
  case round =>
    clear hO1 hS2
    obtain ⟨j, xs, SO, rfl, hj, hS, hO⟩ := hrel
    have hn1 := HN1.out
    by_cases hlt : j < os1.length
    · have hj1 : (j : Int) < os1.length := by omega
      have g2 : (0 : Int) ≤ (j : Int) := by omega
      have hw0 : IntKind.i64.wrap ((j : Int) + 1) = (j : Int) + 1 := wi_1 j (by omega)
      have hw1 : wrap64 ((j : Int) + 1) = (j : Int) + 1 := w64_1 j (by omega)
      obtain ⟨sb, rfl⟩ := sl_some9 hS (by omega)
      have HLT := Lib.hid hlt
      clear hlt hj hn1
      go_wp2_with (first | (refine at_store (t := 32) ?_; go_must (refine own_storeSlW (e := 32) (sz := 5) (i := j) (v := .agg #[.int .i64 0, .int .i64 0, .string ByteArray.empty, .slice none 0 0, .int .i64 (-7)]) hO ?_ ?_ ?_ hS ?_ ?_ ?_ ?_ ?_; (· rfl); (· ((conv => lhs; whnf); try exact rfl)); (· rfl); (· exact HLT.out); (· rfl); (· kernel_rfl); (· intro u hu; simp [Value.cells] at hu; rcases hu with rfl | rfl | rfl | rfl | rfl <;> rfl); clear hO; intro w5 SO2 hS2 hO; simp only [Act.put, List.setIfInBounds_toArray, List.set_cons_zero, List.set_cons_succ])))
      have hlt := HLT.out
      go_roundw
      case rel => exact ⟨j + 1, _, SO2, by go_num, hlt, hS2, hO⟩
      case measure => (clear hw0 hw1; simp [intOf]; omega)
    · obtain rfl : j = os1.length := Nat.le_antisymm hj (Nat.le_of_not_lt hlt)
      have hjj : ¬ (os1.length : Int) < os1.length := by omega
      replace hO : Own E wr (A ++ (SL ++ (I ++ R))) := hO.as _
      clear hj hlt hn1 hS
      go_wp2_with fail
      refine (mEntP E _ _ (SL ++ (I ++ R)) A p (0 + L.length + 1 + 1) (esO os) hc2 hA hO).mono ?_
      clear hO
      have hle := hA.le
      have hes := hA.es
      have HLE := Lib.hid (show (esO os).length ≤ 4000000000000 by have := HLL.out; omega)
      have HOK := Lib.hid (show ∀ e ∈ esO os, e.d.ok = true from fun e he => (hes.ok e he).1)
      clear hA hle hes
      rintro e w4 ⟨A2, so1, co1, os1, SO1, FO1, rfl, hes1, hL1, hA, hO⟩
      have hlen1 : os1.length = os.length := by have := congrArg List.length hes1; rwa [esO_len, esO_len] at this
      have hE1 : EntsAt E ((SO1 ++ FO1) ++ (SL ++ I)) so1 (esO os) := by rw [← hes1]; exact hL1.ents.of (.refl _)
      have hE2 : EntsAt E ((SO1 ++ FO1) ++ (SL ++ I)) so (esO os) := hL.ents.of List.perm_append_comm
      have hel : os.length = (esO os).length := (esO_len os).symm
      have HEL := Lib.hid hel
      rw [hlen1]
      clear hes1 hL1 hlen1 hel
      go_wp2_with fail
      rw [HEL.out]
      refine (refSameAll E _ _ (A2 ++ R) ((SO1 ++ FO1) ++ (SL ++ I)) so1 so co1 co (esO os) (esO os) HLE.out HOK.out HOK.out hE1 hE2 (hO.as (((SO1 ++ FO1) ++ (SL ++ I)) ++ (A2 ++ R)))).mono ?_
      rw [decide_eq_true rfl]
      clear hO hE1 hE2
      rintro e w6 ⟨rfl, hO⟩
      go_wp2_with (go_at_call 18; refine (pPages _ _).mono ?_; rintro e w7 ⟨rfl, rfl⟩)
      refine (awake9 E _ _ R I hG (hO.as (I ++ R))).mono ?_
      clear hO
      rintro e w8 ⟨rfl, hO⟩
      go_wp2_with fail
      go_ret
      exact ⟨rfl, hO⟩
end Go.Proofs.YticclennllklpaaDoor

/- Layer 9: what the tied cards share: the builder with the world's shape handed on; MaxLen's cell. -/
namespace Go.Proofs.YticclennllklpaaDoor.glue9
open Go Go.ChangeShapes Go.WideShapes Go.ChangeAt Go.RowKit

theorem own : ownKnob Tryd.prog.godebug = none := by kernel_rfl
theorem laidOut : laidOutB Tryd.prog = true := by kernel_rfl

/-- The builder, the world's shape handed on. -/
theorem handed_sh {H : Type} {enc : TypeId × Value → H} {a : Assume} {C : Checked} {os : Os} {f : FuncId} {fn : Func} {s : ChangeSpec} {conds : List PathCond} {apart fresh handsOn again : Bool} {X : World → Array Value → Prop}
    (own : ownKnob C.prog.godebug = none) (started : os.Started) (noInit : C.prog.inits.idxOf? f = none) (hfn : C.prog.funcs[f]? = some fn)
    (witness : ∃ (w : World) (tape : Tape) (i : Input), w.os = os ∧ (w.forCall tape i).Shaped C.prog ∧ i.vars = [] ∧ Input.okWide C.prog (w.forCall tape i) .any w.heap.size f i ∧
      ((s.pre enc C.prog fn conds apart (w.forCall tape i).memory i.args ∧ X (w.forCall tape i).memory i.args) ∧ sizedMet enc C.prog fn (OpenSpec.ofChange s) apart (w.forCall tape i).memory i.args) ∧ a.holds C.prog (lone (Frame.enter C.prog f i.args .normal) [] (w.forCall tape i)))
    (contract : ∀ (W : World) (base : Nat) (args : Array Value) (ds gs : List (DataW H)) (before : List MemPlace), W.ShapedOpen C.prog →
      (∀ (j : Nat) t v, fn.params[j]? = some t → args[j]? = some v → Value.okWide C.prog W .any base t v) →
      DataW.Whole enc C.prog fn.params.toList s.vars apart W args.toList ds gs before →
      conds.all (PathCond.test C.prog ⟨fn.params.toList, ds, s.plain.varTypes C.prog, gs⟩) = true →
      (DataW.weightsEach C.prog (fn.params.toList ++ s.plain.varTypes C.prog) (ds ++ gs)).all (· ≤ reachBytes) = true →
      Calls C.prog f args W fun e W' => ∃ v, e = .returned v ∧ s.post enc C.prog fn apart fresh handsOn again W args v W') :
    ReturnsInHanded a C os f .any (fun w args => (s.pre enc C.prog fn conds apart w args ∧ X w args) ∧ sizedMet enc C.prog fn (OpenSpec.ofChange s) apart w args) (s.post enc C.prog fn apart fresh handsOn again) := by
  refine returnsInHanded_of_calls own started noInit witness ?_
  intro w tape i _ hsh _ hok hpre _
  obtain ⟨_, _, _, fn', hfn', _, _, _, _, hval⟩ := hok
  have e : fn' = fn := Option.some.inj (hfn'.symm.trans hfn)
  subst e
  obtain ⟨⟨⟨ds, gs, before, hw, hc⟩, _⟩, hz⟩ := hpre
  have hw' := DataW.Whole.of_heap (w' := w.forCall tape i) (by rfl) hw
  refine (contract (w.forCall tape i) w.heap.size i.args ds gs before hsh hval hw' hc (hz.weights hw)).mono fun e W' ⟨v, he, hp⟩ => ?_
  subst he
  exact ChangeSpec.post_blind hp

set_option maxRecDepth 100000 in
theorem maxL_old {W : World} (h : W.ShapedOpen Tryd.prog) : MaxL W (Go.Own.oldFr W) := by
  obtain ⟨cs, hc, hn, hb⟩ := h.1 0 #[.int .i64 0] 3 (Nat.le_of_ble_eq_true (by kernel_rfl)) (by kernel_rfl)
  obtain ⟨ts, h1, h2, h3⟩ := hb (by kernel_rfl)
  have ht : ts = [3] := Option.some.inj (h1.symm.trans (by kernel_rfl))
  subst ht
  have hv : cs.size = 1 := hn
  obtain ⟨u, hu, hk⟩ := h3 0 cs[0] (by simp [hv])
  have hu' : 3 = u := by simpa using hu
  subst hu'
  clear hu
  have hk' : ∃ m, cs[0] = .int .i64 m := by
    unfold Cell.ok at hk
    rw [Tryd.underlying3] at hk
    revert hk
    cases cs[0] <;> simp
    intro h _
    exact h
  obtain ⟨m, hm⟩ := hk'
  refine ⟨m, fun Y w hO => ?_⟩
  have hmem : (0, Obj.cells cs 3) ∈ Go.Own.oldFr W := Go.Own.oldFr_mem hc
  have hg := hO.mem _ (List.mem_append_left _ hmem)
  simp [World.cell?, hg, hv, hm]
theorem laid_met (os : Os) (args : Array Value) : laidMetH Tryd.prog Rows.methodTurnsRow.laid ((World.laidAll Tryd.prog os Rows.methodTurnsRow.laid).forCall (fun _ _ => 0) ⟨#[], args, []⟩).memory := by
  rw [MakeChecks.laidMetH_plain _ _ _ (by kernel_rfl)]
  exact laidMet_laidAll _ (by kernel_rfl) (by kernel_rfl)
theorem shaped (os : Os) (args : Array Value) : ((World.laidAll Tryd.prog os Rows.methodTurnsRow.laid).forCall (fun _ _ => 0) ⟨#[], args, []⟩).Shaped Tryd.prog := World.shaped_of_ZipB (by kernel_rfl) (by kernel_rfl)
end Go.Proofs.YticclennllklpaaDoor.glue9
