/- Heap: Get. -/
import Derived.Test.YtkfkcloefgfkaaaGreatK10
set_option linter.all false
/- Heap: Get. -/
namespace Go.Proofs.YtkfkcloefgfkaaaGreat
open Go Go.RowKit Go.Own Go.Dk

def HGetP (E : World) (s d a N h root : Nat) (st0 st : SSt) (hs : Hs) (tid : Int) (R : Fr) (e : Ending) (w' : World) : Prop :=
  ∃ A', Going s d a N st0 st A' ∧ Own E w' (heapF h a root ++ (A' ++ R)) ∧
    ((∃ (j k : Nat) (hj : j < hs.length) (hk : k < hs[j].2.length), Holds hs tid j k ∧ e = .returned (.tuple #[.string hs[j].2[k].row, .bool ((hs[j].2[k].st : Int) == 1), .int .i64 0])) ∨
     ((∀ j k, ¬ Holds hs tid j k) ∧ e = .returned (.tuple #[.string .empty, .bool false, .int .i64 3])))
theorem tmod64 {tid : Int} {p k : Nat} (h : tid = ((p * 64 + k : Nat) : Int)) (hk : k < 64) : Int.tmod tid 64 = (k : Int) := by
  subst h
  rw [Int.tmod_eq_emod_of_nonneg (by omega)]
  omega
set_option maxRecDepth 100000 in
set_option maxHeartbeats 16000000 in
theorem hGet (E w : World) (X R A : Fr) (s d a N h : Nat) (st0 st : SSt) (root : Nat) (hr : root < 16) (hs : Hs) (hI : HInv st root hs) (tid : Int) (htb : tid < 9223372036854775808) (hA : Going s d a N st0 st A) (hN : N ≤ 8796000000000) (hO : Own E w X) [hp : Pick X (heapF h a root ++ A) R] :
    Calls Tryz.prog 16 #[.pointer (some ⟨h, 0, none⟩), .int .i64 tid] w (HGetP E s d a N h root st0 st hs tid R) := by
  replace hO : Own E w (heapF h a root ++ (A ++ R)) := by have := hO.perm hp.perm; rwa [List.append_assoc] at this
  clear hp
  generalize hpost : HGetP E s d a N h root st0 st hs tid R = POST
  have HPOST := Lib.hid hpost
  clear hpost
  go_enter Tryz.func16, Tryz.ntmps16
  go_wp2_with fail
  refine (hAt E _ _ _ A s d a N h st0 st root hr hs hI tid htb hA hN hO).mono ?_
  clear hO hA
  rintro e w1 (⟨j, k, hj, sa, cap, S, A, hh, rfl, hS, hA, hO⟩ | ⟨hno, rfl, A, hA, hO⟩)
  rotate_left
  · have HNO := Lib.hid hno
    clear hno
    go_wp2_with fail
    go_ret3
    rw [← HPOST.out]
    exact ⟨A, hA, hO, .inr ⟨HNO.out, rfl⟩⟩
  · obtain ⟨hj', hk, h64, ht, hs0⟩ := hh
    have hrm := tmod64 ht h64
    have HH := Lib.hid (show Holds hs tid j k from ⟨hj', hk, h64, ht, hs0⟩)
    obtain ⟨sb, rfl⟩ := sl_some4 hS (Nat.lt_of_le_of_lt (Nat.zero_le _) hk)
    have hsc := slot_at hS hO hk
    have hlen : k < hs[j].2.length := hk
    have hki : (k : Int) < hs[j].2.length := by omega
    have hk0 : (0 : Int) ≤ k := by omega
    have HJ := Lib.hid (show ∃ (hj : j < hs.length), k < hs[j].2.length from ⟨hj, hk⟩)
    obtain ⟨x, hx⟩ : ∃ x, hs[j].2[k] = x := ⟨_, rfl⟩
    have HX := Lib.hid (show ∀ (hj : j < hs.length) (hk : k < hs[j].2.length), hs[j].2[k] = x from fun _ _ => hx)
    rw [hx] at hsc
    have HSC := Lib.hid hsc
    clear hsc hx hs0 ht hk
    generalize hs[j].2.length = n at hki hlen hS ⊢
    generalize hs[j].1 = p
    go_wp2_with (first | (refine at_load (t := 115) ?_; go_must (refine own_loadC (ad := ⟨sb, k * 2, none⟩) (cs := [.int .i64 x.st, .string x.row]) ?_ HSC.out ?_ ?_ ?_ ?_; (· rfl); (· ((conv => lhs; whnf); try exact rfl)); (· simp; done); (· simp; done); simp only [Act.put, List.setIfInBounds_toArray, List.set_cons_zero, List.set_cons_succ])) | (refine at_alloc ?_; go_must (refine own_alloc (z := ?_) hO ?_ ?_ ?_; rotate_left; (· rfl); (· exact zeroSlot _); clear hO; (try clear hF); intro q _ hO; (try simp only [Value.cells] at hO); ((try simp only [List.nil_append, List.append_nil] at hO); have hF := Own.cells hO; simp only [cellsOf_append, cellsOf_pt] at hF); simp only [Act.put, List.setIfInBounds_toArray, List.set_cons_zero, List.set_cons_succ])) | (refine own_store (v := ?_) (off := 0) (b := q) hO ?_ ?_ ?_ ?_ ?_ ?_ ?_; rotate_left; (· rfl); (· ((conv => lhs; whnf); try exact rfl)); (· ((conv => lhs; whnf); try exact rfl)); (· simp [Value.cells]); (· simp [Value.cells, Value.oneCell']); (· simp [Value.cells]); clear hO; (try clear hF); intro _ hO; (try simp only [splice, Value.cells] at hO); ((try simp only [List.nil_append, List.append_nil] at hO); have hF := Own.cells hO; simp only [cellsOf_append, cellsOf_pt] at hF); simp only [Act.put, List.setIfInBounds_toArray, List.set_cons_zero, List.set_cons_succ]))
    (try simp only [splice, Value.cells, List.setIfInBounds_toArray, List.set_cons_zero, List.set_cons_succ] at hO)
    have hF := Own.cells hO; simp only [cellsOf_append, cellsOf_pt] at hF
    (try (go_wp2_with fail))
    refine region_sch (fun w' => Own E w' (pt q (.cells #[.int .i64 x.st, .string x.row] 115 (0, 0)))) (.look 0 (.look 1 (.look 2 (.look 3 (.look 4 (.look 5 (.look 6 (.look 7 .done)))))))) (by kernel_rfl) (by kernel_rfl) (fun _ _ d _ _ h => by cases d <;> exact h) ?_ ?_
    · exact hO.drew.as _
    replace hO := hO.drew
    generalize World.drew _ = wdr at hO ⊢
    first | (refine sch_look (o := ?_) (v := ?_) ?_ ?_ ?_ ?_; rotate_left 2; (· ((conv => lhs; whnf); try exact rfl)); (· rfl); (· intro w' hO'; (have hF' := Own.cells hO'; simp only [cellsOf_append, cellsOf_pt] at hF'); go_simp; (try exact rfl)); simp only [Act.put, List.setIfInBounds_toArray, List.set_cons_zero, List.set_cons_succ]) | (refine sch_pass (o := ?_) ?_ ?_ ?_; rotate_left; (· ((conv => lhs; whnf); try exact rfl)); (· rfl); simp only [Act.put, List.setIfInBounds_toArray, List.set_cons_zero, List.set_cons_succ]) | (refine sch_look (o := ?_) (v := .agg ?_) ?_ ?_ ?_ ?_; rotate_left 2; (· ((conv => lhs; whnf); try exact rfl)); (· rfl); (· intro w' hO'; refine run_opLoadS (b := ?_) (cs := ?_) (e := ?_) (f := ?_) hO' ?_ ?_ ?_ ?_; rotate_left 4; (· exact rfl); (· exact inferInstance); (· simp; done); (· simp; done)); simp only [Act.put, List.setIfInBounds_toArray, List.set_cons_zero, List.set_cons_succ])
    first | (refine sch_look (o := ?_) (v := ?_) ?_ ?_ ?_ ?_; rotate_left 2; (· ((conv => lhs; whnf); try exact rfl)); (· rfl); (· intro w' hO'; (have hF' := Own.cells hO'; simp only [cellsOf_append, cellsOf_pt] at hF'); go_simp; (try exact rfl)); simp only [Act.put, List.setIfInBounds_toArray, List.set_cons_zero, List.set_cons_succ]) | (refine sch_pass (o := ?_) ?_ ?_ ?_; rotate_left; (· ((conv => lhs; whnf); try exact rfl)); (· rfl); simp only [Act.put, List.setIfInBounds_toArray, List.set_cons_zero, List.set_cons_succ]) | (refine sch_look (o := ?_) (v := .agg ?_) ?_ ?_ ?_ ?_; rotate_left 2; (· ((conv => lhs; whnf); try exact rfl)); (· rfl); (· intro w' hO'; refine run_opLoadS (b := ?_) (cs := ?_) (e := ?_) (f := ?_) hO' ?_ ?_ ?_ ?_; rotate_left 4; (· exact rfl); (· exact inferInstance); (· simp; done); (· simp; done)); simp only [Act.put, List.setIfInBounds_toArray, List.set_cons_zero, List.set_cons_succ])
    first | (refine sch_look (o := ?_) (v := ?_) ?_ ?_ ?_ ?_; rotate_left 2; (· ((conv => lhs; whnf); try exact rfl)); (· rfl); (· intro w' hO'; (have hF' := Own.cells hO'; simp only [cellsOf_append, cellsOf_pt] at hF'); go_simp; (try exact rfl)); simp only [Act.put, List.setIfInBounds_toArray, List.set_cons_zero, List.set_cons_succ]) | (refine sch_pass (o := ?_) ?_ ?_ ?_; rotate_left; (· ((conv => lhs; whnf); try exact rfl)); (· rfl); simp only [Act.put, List.setIfInBounds_toArray, List.set_cons_zero, List.set_cons_succ]) | (refine sch_look (o := ?_) (v := .agg ?_) ?_ ?_ ?_ ?_; rotate_left 2; (· ((conv => lhs; whnf); try exact rfl)); (· rfl); (· intro w' hO'; refine run_opLoadS (b := ?_) (cs := ?_) (e := ?_) (f := ?_) hO' ?_ ?_ ?_ ?_; rotate_left 4; (· exact rfl); (· exact inferInstance); (· simp; done); (· simp; done)); simp only [Act.put, List.setIfInBounds_toArray, List.set_cons_zero, List.set_cons_succ])
    first | (refine sch_look (o := ?_) (v := ?_) ?_ ?_ ?_ ?_; rotate_left 2; (· ((conv => lhs; whnf); try exact rfl)); (· rfl); (· intro w' hO'; (have hF' := Own.cells hO'; simp only [cellsOf_append, cellsOf_pt] at hF'); go_simp; (try exact rfl)); simp only [Act.put, List.setIfInBounds_toArray, List.set_cons_zero, List.set_cons_succ]) | (refine sch_pass (o := ?_) ?_ ?_ ?_; rotate_left; (· ((conv => lhs; whnf); try exact rfl)); (· rfl); simp only [Act.put, List.setIfInBounds_toArray, List.set_cons_zero, List.set_cons_succ]) | (refine sch_look (o := ?_) (v := .agg ?_) ?_ ?_ ?_ ?_; rotate_left 2; (· ((conv => lhs; whnf); try exact rfl)); (· rfl); (· intro w' hO'; refine run_opLoadS (b := ?_) (cs := ?_) (e := ?_) (f := ?_) hO' ?_ ?_ ?_ ?_; rotate_left 4; (· exact rfl); (· exact inferInstance); (· simp; done); (· simp; done)); simp only [Act.put, List.setIfInBounds_toArray, List.set_cons_zero, List.set_cons_succ])
    first | (refine sch_look (o := ?_) (v := ?_) ?_ ?_ ?_ ?_; rotate_left 2; (· ((conv => lhs; whnf); try exact rfl)); (· rfl); (· intro w' hO'; (have hF' := Own.cells hO'; simp only [cellsOf_append, cellsOf_pt] at hF'); go_simp; (try exact rfl)); simp only [Act.put, List.setIfInBounds_toArray, List.set_cons_zero, List.set_cons_succ]) | (refine sch_pass (o := ?_) ?_ ?_ ?_; rotate_left; (· ((conv => lhs; whnf); try exact rfl)); (· rfl); simp only [Act.put, List.setIfInBounds_toArray, List.set_cons_zero, List.set_cons_succ]) | (refine sch_look (o := ?_) (v := .agg ?_) ?_ ?_ ?_ ?_; rotate_left 2; (· ((conv => lhs; whnf); try exact rfl)); (· rfl); (· intro w' hO'; refine run_opLoadS (b := ?_) (cs := ?_) (e := ?_) (f := ?_) hO' ?_ ?_ ?_ ?_; rotate_left 4; (· exact rfl); (· exact inferInstance); (· simp; done); (· simp; done)); simp only [Act.put, List.setIfInBounds_toArray, List.set_cons_zero, List.set_cons_succ])
    first | (refine sch_look (o := ?_) (v := ?_) ?_ ?_ ?_ ?_; rotate_left 2; (· ((conv => lhs; whnf); try exact rfl)); (· rfl); (· intro w' hO'; (have hF' := Own.cells hO'; simp only [cellsOf_append, cellsOf_pt] at hF'); go_simp; (try exact rfl)); simp only [Act.put, List.setIfInBounds_toArray, List.set_cons_zero, List.set_cons_succ]) | (refine sch_pass (o := ?_) ?_ ?_ ?_; rotate_left; (· ((conv => lhs; whnf); try exact rfl)); (· rfl); simp only [Act.put, List.setIfInBounds_toArray, List.set_cons_zero, List.set_cons_succ]) | (refine sch_look (o := ?_) (v := .agg ?_) ?_ ?_ ?_ ?_; rotate_left 2; (· ((conv => lhs; whnf); try exact rfl)); (· rfl); (· intro w' hO'; refine run_opLoadS (b := ?_) (cs := ?_) (e := ?_) (f := ?_) hO' ?_ ?_ ?_ ?_; rotate_left 4; (· exact rfl); (· exact inferInstance); (· simp; done); (· simp; done)); simp only [Act.put, List.setIfInBounds_toArray, List.set_cons_zero, List.set_cons_succ])
    first | (refine sch_look (o := ?_) (v := ?_) ?_ ?_ ?_ ?_; rotate_left 2; (· ((conv => lhs; whnf); try exact rfl)); (· rfl); (· intro w' hO'; (have hF' := Own.cells hO'; simp only [cellsOf_append, cellsOf_pt] at hF'); go_simp; (try exact rfl)); simp only [Act.put, List.setIfInBounds_toArray, List.set_cons_zero, List.set_cons_succ]) | (refine sch_pass (o := ?_) ?_ ?_ ?_; rotate_left; (· ((conv => lhs; whnf); try exact rfl)); (· rfl); simp only [Act.put, List.setIfInBounds_toArray, List.set_cons_zero, List.set_cons_succ]) | (refine sch_look (o := ?_) (v := .agg ?_) ?_ ?_ ?_ ?_; rotate_left 2; (· ((conv => lhs; whnf); try exact rfl)); (· rfl); (· intro w' hO'; refine run_opLoadS (b := ?_) (cs := ?_) (e := ?_) (f := ?_) hO' ?_ ?_ ?_ ?_; rotate_left 4; (· exact rfl); (· exact inferInstance); (· simp; done); (· simp; done)); simp only [Act.put, List.setIfInBounds_toArray, List.set_cons_zero, List.set_cons_succ])
    first | (refine sch_look (o := ?_) (v := ?_) ?_ ?_ ?_ ?_; rotate_left 2; (· ((conv => lhs; whnf); try exact rfl)); (· rfl); (· intro w' hO'; (have hF' := Own.cells hO'; simp only [cellsOf_append, cellsOf_pt] at hF'); go_simp; (try exact rfl)); simp only [Act.put, List.setIfInBounds_toArray, List.set_cons_zero, List.set_cons_succ]) | (refine sch_pass (o := ?_) ?_ ?_ ?_; rotate_left; (· ((conv => lhs; whnf); try exact rfl)); (· rfl); simp only [Act.put, List.setIfInBounds_toArray, List.set_cons_zero, List.set_cons_succ]) | (refine sch_look (o := ?_) (v := .agg ?_) ?_ ?_ ?_ ?_; rotate_left 2; (· ((conv => lhs; whnf); try exact rfl)); (· rfl); (· intro w' hO'; refine run_opLoadS (b := ?_) (cs := ?_) (e := ?_) (f := ?_) hO' ?_ ?_ ?_ ?_; rotate_left 4; (· exact rfl); (· exact inferInstance); (· simp; done); (· simp; done)); simp only [Act.put, List.setIfInBounds_toArray, List.set_cons_zero, List.set_cons_succ])
    refine sch_done ?_
    go_wp2_with fail
    go_ret3
    rw [← HPOST.out]
    obtain ⟨hj2, hk2⟩ := HJ.out
    refine ⟨A, hA, hO.as _, .inl ⟨j, k, hj2, hk2, HH.out, ?_⟩⟩
    rw [HX.out hj2 hk2]
    rfl
end Go.Proofs.YtkfkcloefgfkaaaGreat

/- Heap: becomes, Kill, Free. -/
namespace Go.Own
open Go Go.RowKit
section
variable {P : Program} {ops : Array Oper} {Q : Exit → Act → World → Prop} {rest : List Oper} {a : Act} {E w : World} {X A R : Fr} {d : Option Tmp} {ty : TypeId} {pos : String} {aft : Array Edge} {g : Option (Nat × Bool)}
/-- A store of one cell into the row of a slice. -/
theorem own_storeSlC {t e : TypeId} {x y : Operand} {v : Value} {b q n cap sz : Nat} {xs : List Value} (hO : Own E w X) (hw : Region.wanted ⟨d, .store t x y, ty, pos, aft, g⟩ (yielded ops a.tmps) = true)
    (hx : a.eval x = .pointer (some ⟨b, q, none⟩)) (hy : a.eval y = v) (hv : Sl e sz (some ⟨b, 0, none⟩) n cap xs A) [hp : Pick X A R] (hq : q < xs.length) (hc : v.cells = #[v])
    (hs : (sizeOf t).run P w = .ok 1 w) (h1 : v.oneCell' = true)
    (next : ∀ w1 A', Sl e sz (some ⟨b, 0, none⟩) n cap (xs.set q v) A' → Own E w1 (A' ++ R) → wpList P ops Q rest (a.put d undef) w1) :
    wpList P ops Q (⟨d, .store t x y, ty, pos, aft, g⟩ :: rest) a w := by
  obtain ⟨hl, hcp, hm, h4⟩ := hv
  rcases h4 with ⟨h, _, _⟩ | ⟨b', tl, hb, hlen, rfl⟩
  · cases h
  · cases hb
    have hO1 := hO.perm hp.perm
    refine own_store (v := v) (b := b) (off := q) (cs := (xs ++ tl).toArray) (e := e) hO1 hw hx hy (by rw [hc]; exact hs) (by rw [hc]; intro u hu; simp at hu; subst hu; exact h1) (by rw [hc]; show q + 1 ≤ (xs ++ tl).toArray.size; rw [List.size_toArray, List.length_append]; omega) fun w1 hO2 => ?_
    rw [hc] at hO2
    have hsp : splice (xs ++ tl).toArray q (#[v] : Array Value).toList = (xs.set q v ++ tl).toArray := by
      show (xs ++ tl).toArray.setIfInBounds q v = _
      rw [List.setIfInBounds_toArray, List.set_append_left _ _ hq]
    rw [hsp] at hO2
    exact next w1 _ ⟨by rw [List.length_set]; exact hl, hcp, hm, .inr ⟨b, tl, rfl, by rw [← hlen, List.length_append, List.length_append, List.length_set], rfl⟩⟩ hO2
end
end Go.Own
namespace Go.Dk
open Go.Own Go.RowKit
theorem slV_cut {l : List Slot} {k : Nat} (h : k < l.length) : ∃ pre post : List Value, slV l = pre ++ slotV l[k] ++ post ∧ pre.length = k * 2 ∧ ∀ x, slV (l.set k x) = pre ++ slotV x ++ post := by
  have e : l = l.take k ++ (l[k] :: l.drop (k + 1)) := by rw [← List.drop_eq_getElem_cons h, List.take_append_drop]
  refine ⟨slV (l.take k), slV (l.drop (k + 1)), ?_, by rw [slV_length, List.length_take, Nat.min_eq_left (Nat.le_of_lt h)], fun x => ?_⟩
  · conv => lhs; rw [e]
    rw [slV_app, List.append_assoc]
    rfl
  · rw [List.set_eq_take_append_cons_drop, if_pos h, slV_app, List.append_assoc]
    rfl
theorem slV_lt {l : List Slot} {k : Nat} (h : k < l.length) : k * 2 < (slV l).length := by rw [slV_length]; omega
theorem slV_lt2 {l : List Slot} {x : Slot} {k : Nat} (h : k < l.length) : k * 2 + 1 < (slV (l.set k x)).length := by rw [slV_length, List.length_set]; omega
theorem slV_set0 {l : List Slot} {k : Nat} (h : k < l.length) (s : Nat) : (slV l).set (k * 2) (.int .i64 s) = slV (l.set k ⟨s, l[k].row⟩) := by
  obtain ⟨pre, post, h1, h2, h3⟩ := slV_cut h
  rw [h3, h1, List.append_assoc, List.append_assoc, ← h2, List.set_append_right _ _ (Nat.le_refl _), Nat.sub_self]
  rfl
theorem slV_set1 {l : List Slot} {k : Nat} (h : k < l.length) (r : ByteArray) : (slV l).set (k * 2 + 1) (.string r) = slV (l.set k ⟨l[k].st, r⟩) := by
  obtain ⟨pre, post, h1, h2, h3⟩ := slV_cut h
  rw [h3, h1, List.append_assoc, List.append_assoc, ← h2, List.set_append_right _ _ (Nat.le_succ _), show pre.length.succ - pre.length = 1 by omega]
  rfl
end Go.Dk
namespace Go.Proofs.YtkfkcloefgfkaaaGreat
open Go Go.RowKit Go.Own Go.Dk

theorem slotsB_set {l : List Slot} {k : Nat} (h : k < l.length) {x : Slot} (hx : x.row.size ≤ l[k].row.size) : (slotsB (l.set k x)).length ≤ (slotsB l).length := by
  have e : l = l.take k ++ (l[k] :: l.drop (k + 1)) := by rw [← List.drop_eq_getElem_cons h, List.take_append_drop]
  rw [List.set_eq_take_append_cons_drop, if_pos h]
  conv => rhs; rw [e]
  rw [slotsB_app, slotsB_app, slotsB_cons, slotsB_cons]
  simp only [List.length_append, slotB_len]
  omega
theorem pg_set {next : Nat} {l : List Slot} {k : Nat} (hp : PgOk next l) (h : k < l.length) {x : Slot} (hx : x.row.size ≤ l[k].row.size) (hs : x.st ≤ 2) : PgOk next (l.set k x) := by
  refine ⟨hp.nx, by rw [List.length_set]; exact hp.len, ?_, fun y hy => ?_⟩
  · have h1 := hp.fit
    have h2 := slotsB_set h hx
    rw [pagP_len] at h1 ⊢
    omega
  · rcases List.mem_or_eq_of_mem_set hy with hy | rfl
    · exact hp.ok y hy
    · exact ⟨hs, Nat.le_trans hx (hp.ok _ (List.getElem_mem h)).2⟩
/-- What a slot becomes. -/
def becS (x : Slot) (to : Nat) : Slot := ⟨to, if to = 0 then .empty else x.row⟩
def HBecP (E : World) (s d a N h root : Nat) (st0 st : SSt) (hs : Hs) (tid : Int) (fr to : Nat) (R : Fr) (e : Ending) (w' : World) : Prop :=
  (∃ (j k : Nat) (hj : j < hs.length) (hk : k < hs[j].2.length) (A' : Fr), Holds hs tid j k ∧ hs[j].2[k].st = fr ∧ e = .returned (.int .i64 0) ∧ HInv (st.lay hs[j].1 (pageB (nxt hs (j + 1)) (hs[j].2.set k (becS hs[j].2[k] to)))) root (hs.set j (hs[j].1, hs[j].2.set k (becS hs[j].2[k] to))) ∧
    Going s d a N st0 (st.lay hs[j].1 (pageB (nxt hs (j + 1)) (hs[j].2.set k (becS hs[j].2[k] to)))) A' ∧ Own E w' (heapF h a root ++ (A' ++ R))) ∨
  ((∀ j k (hj : j < hs.length) (hk : k < hs[j].2.length), Holds hs tid j k → hs[j].2[k].st ≠ fr) ∧ e = .returned (.int .i64 3) ∧ ∃ A', Going s d a N st0 st A' ∧ Own E w' (heapF h a root ++ (A' ++ R)))
theorem Holds.uniq {st : SSt} {root : Nat} {hs : Hs} (hI : HInv st root hs) {tid : Int} {j k j' k' : Nat} (h1 : Holds hs tid j k) (h2 : Holds hs tid j' k') : j = j' ∧ k = k' := by
  obtain ⟨hj, hk, h64, ht, _⟩ := h1
  obtain ⟨hj', hk', h64', ht', _⟩ := h2
  have e : hs[j].1 = hs[j'].1 := by omega
  have ej : j = j' := by
    by_cases h : j = j'
    · exact h
    · exact absurd e (hI.ne hj hj' h)
  subst ej
  exact ⟨rfl, by omega⟩
set_option maxRecDepth 100000 in
set_option maxHeartbeats 16000000 in
theorem hBecomes (E w : World) (X R A : Fr) (s d a N h : Nat) (st0 st : SSt) (root : Nat) (hr : root < 16) (hs : Hs) (hI : HInv st root hs) (tid : Int) (htb : tid < 9223372036854775808) (fr to : Nat) (hfr : fr ≤ 2) (hto : to ≤ 2) (hA : Going s d a N st0 st A) (hN : N ≤ 8796000000000) (hO : Own E w X) [hp : Pick X (heapF h a root ++ A) R] :
    Calls Tryz.prog 97 #[.pointer (some ⟨h, 0, none⟩), .int .i64 tid, .int .i64 fr, .int .i64 to] w (HBecP E s d a N h root st0 st hs tid fr to R) := by
  replace hO : Own E w (heapF h a root ++ (A ++ R)) := by have := hO.perm hp.perm; rwa [List.append_assoc] at this
  clear hp
  generalize hpost : HBecP E s d a N h root st0 st hs tid fr to R = POST
  have HPOST := Lib.hid hpost
  clear hpost
  go_enter Tryz.func97, Tryz.ntmps97
  go_wp2_with fail
  refine (hAt E _ _ _ A s d a N h st0 st root hr hs hI tid htb hA hN hO).mono ?_
  clear hO hA
  rintro e w1 (⟨j, k, hj, sa, cap, S, A, hh, he, hS, hA, hO⟩ | ⟨hno, rfl, A, hA, hO⟩)
  rotate_left
  · have HNO := Lib.hid hno
    clear hno
    go_wp2_with fail
    rw [← HPOST.out]
    exact .inr ⟨fun j k _ _ hh => absurd hh (HNO.out j k), rfl, A, hA, hO⟩
  · have hh0 := hh
    obtain ⟨hj', hk', h64, ht', hs0'⟩ := hh
    have hk : k < (hs[j]'hj).2.length := hk'
    have hs0 : ((hs[j]'hj).2[k]'hk).st ≠ 0 := hs0'
    have ht : tid = (((hs[j]'hj).1 * 64 + k : Nat) : Int) := ht'
    clear hs0' hk' ht' hj'
    obtain ⟨b1, b2, b3, b4⟩ := (hch_at hI.ch).2 j hj
    have hrm := tmod64 ht h64
    have HH := Lib.hid hh0
    have HI := Lib.hid hI
    obtain ⟨sb, rfl⟩ := sl_some4 hS (Nat.lt_of_le_of_lt (Nat.zero_le _) hk)
    have hsc := slot_at hS hO hk 0 _ rfl
    rw [add_lit, Nat.add_zero] at hsc
    have hki : (k : Int) < hs[j].2.length := by omega
    have hk0 : (0 : Int) ≤ k := by omega
    have HJ := Lib.hid hj
    have HK := Lib.hid hk
    have hst2 := (b4.ok _ (List.getElem_mem hk)).1
    by_cases hst : hs[j].2[k].st = fr
    rotate_left
    · have hne : ¬ ((hs[j].2[k].st : Nat) : Int) = (fr : Int) := by omega
      have HNE := Lib.hid hst
      clear hst hs0 ht hh0 b3
      generalize hs[j].2[k].st = z at hsc hne
      subst he
      go_wp2_with fail
      rw [← HPOST.out]
      refine .inr ⟨fun j' k' hj2 hk2 hh2 => ?_, rfl, A, hA, hO.as _⟩
      obtain ⟨rfl, rfl⟩ := hh2.uniq HI.out HH.out
      exact HNE.out
    · have hpg : PgOk (nxt hs (j + 1)) (hs[j].2.set k (becS hs[j].2[k] to)) := pg_set b4 hk (by unfold becS; split; exact Nat.zero_le _; exact Nat.le_refl _) hto
      have hinv := hI.lay hj hpg
      have HINV := Lib.hid (show ∀ (hj : j < hs.length) (hk : k < hs[j].2.length), HInv (st.lay hs[j].1 (pageB (nxt hs (j + 1)) (hs[j].2.set k (becS hs[j].2[k] to)))) root (hs.set j (hs[j].1, hs[j].2.set k (becS hs[j].2[k] to))) from fun _ _ => hinv)
      have HST := Lib.hid (show ∀ (hj : j < hs.length) (hk : k < hs[j].2.length), hs[j].2[k].st = fr from fun _ _ => hst)
      replace hsc : w1.cell? ⟨sb, k * 2, none⟩ = some (.int .i64 (fr : Int)) := by rw [hsc]; exact congrArg (fun n : Nat => some (Value.int .i64 (n : Int))) hst
      obtain ⟨p, hp⟩ : ∃ p, hs[j].1 = p := ⟨_, rfl⟩
      obtain ⟨q, hq⟩ : ∃ q, nxt hs (j + 1) = q := ⟨_, rfl⟩
      obtain ⟨l, hl⟩ : ∃ l, hs[j].2 = l := ⟨_, rfl⟩
      obtain ⟨x, hx⟩ : ∃ x, hs[j].2[k] = x := ⟨_, rfl⟩
      have HP := Lib.hid (show ∀ (hj : j < hs.length) (hk : k < hs[j].2.length), hs[j].1 = p ∧ nxt hs (j + 1) = q ∧ hs[j].2.set k (becS hs[j].2[k] to) = l.set k (becS x to) from fun _ _ => ⟨hp, hq, by subst hx; subst hl; rfl⟩)
      have hkl : k < l.length := by subst hl; exact hk
      have hs0' : (slV l).set (k * 2) (.int .i64 to) = slV (l.set k ⟨to, x.row⟩) := by subst hx; subst hl; exact slV_set0 hk to
      have hs1' : (slV (l.set k ⟨to, x.row⟩)).set (k * 2 + 1) (.string .empty) = slV (l.set k ⟨to, .empty⟩) := by
        have h1 := slV_set1 (l := l.set k ⟨to, x.row⟩) (k := k) (by rw [List.length_set]; exact hkl) .empty
        rwa [List.getElem_set_self, List.set_set] at h1
      replace hpg : PgOk q (l.set k (becS x to)) := by subst hx; subst hl; subst hq; exact hpg
      replace hS : Sl 115 2 (some ⟨sb, 0, none⟩) l.length cap (slV l) S := by subst hl; exact hS
      replace hki : (k : Int) < l.length := by omega
      have HQ0 := Lib.hid (slV_lt hkl)
      have HQ1 := Lib.hid (slV_lt2 (x := ⟨to, x.row⟩) hkl)
      replace he : e = .returned (.tuple #[.int .i64 p, .int .i64 q, .slice (some ⟨sb, 0, none⟩) l.length cap, .int .i64 0]) := by subst hp; subst hq; subst hl; exact he
      subst he
      replace b2 : st.has p := by subst hp; exact b2
      have HS0 := Lib.hid hs0'
      have HS1 := Lib.hid hs1'
      have HPG := Lib.hid hpg
      have HKL := Lib.hid hkl
      clear hx hp hq hl hst hs0 ht hh0 b3 b1 b4 hinv hpg hs0' hs1'
      by_cases hz : to = 0
      · subst hz
        have hbe : becS x 0 = ⟨0, .empty⟩ := rfl
        rw [hbe] at HPG HP
        clear hbe
        go_wp2_with (first | (refine at_store (t := 3) ?_; go_must (refine own_storeSlC (e := 115) (sz := 2) (q := k * 2) (v := .int .i64 0) hO ?_ ?_ ?_ hS ?_ ?_ ?_ ?_ ?_; (· rfl); (· ((conv => lhs; whnf); try exact rfl)); (· rfl); (· exact HQ0.out); (· rfl); (· kernel_rfl); (· rfl); clear hO; intro _ S2 hS2 hO; (replace hS2 : Sl 115 2 (some ⟨sb, 0, none⟩) l.length cap (slV (l.set k ⟨0, x.row⟩)) S2 := by rw [← HS0.out]; exact hS2); simp only [Act.put, List.setIfInBounds_toArray, List.set_cons_zero, List.set_cons_succ])) | (refine at_store (t := 9) ?_; refine Stop.go ?_))
        refine ⟨?_⟩
        refine own_storeSlC (e := 115) (sz := 2) (q := k * 2 + 1) (v := .string .empty) hO ?_ ?_ ?_ hS2 ?_ ?_ ?_ ?_ ?_
        · rfl
        · ((conv => lhs; whnf); try exact rfl)
        · rfl
        · exact HQ1.out
        · rfl
        · kernel_rfl
        · rfl
        clear hO
        intro _ S3 hS3 hO
        rw [HS1.out] at hS3
        simp only [Act.put, List.setIfInBounds_toArray, List.set_cons_zero, List.set_cons_succ]
        have hS4 : Sl 115 2 (some ⟨sb, 0, none⟩) (l.set k ⟨0, .empty⟩).length cap (slV (l.set k ⟨0, .empty⟩)) S3 := by
          rw [List.length_set]
          exact hS3
        go_wp2_with fail
        rw [show l.length = (l.set k ⟨0, .empty⟩).length by rw [List.length_set]]
        refine (hWrite E _ _ _ A S3 s d a N h st0 st root p q (l.set k ⟨0, .empty⟩) (some ⟨sb, 0, none⟩) cap b2 HPG.out hS4 hA hN hO).mono ?_
        clear hO hA
        rintro e w5 ⟨A, rfl, hA, hO⟩
        go_wp2_with fail
        rw [← HPOST.out]
        refine .inl ⟨j, k, HJ.out, HK.out, A, HH.out, HST.out _ _, rfl, HINV.out _ _, ?_, hO.as _⟩
        obtain ⟨e1, e2, e3⟩ := HP.out HJ.out HK.out
        rw [e1, e2, e3]
        exact hA
      · have hz1 : ¬ (to : Int) = 0 := by omega
        have hbe : becS x to = ⟨to, x.row⟩ := by unfold becS; rw [if_neg hz]
        rw [hbe] at HPG HP
        clear hz hbe
        go_wp2_with (first | (refine at_store (t := 3) ?_; go_must (refine own_storeSlC (e := 115) (sz := 2) (q := k * 2) (v := .int .i64 to) hO ?_ ?_ ?_ hS ?_ ?_ ?_ ?_ ?_; (· rfl); (· ((conv => lhs; whnf); try exact rfl)); (· rfl); (· exact HQ0.out); (· rfl); (· kernel_rfl); (· rfl); clear hO; intro _ S3 hS3 hO; simp only [Act.put, List.setIfInBounds_toArray, List.set_cons_zero, List.set_cons_succ])))
        rw [HS0.out] at hS3
        have hS4 : Sl 115 2 (some ⟨sb, 0, none⟩) (l.set k ⟨to, x.row⟩).length cap (slV (l.set k ⟨to, x.row⟩)) S3 := by
          rw [List.length_set]
          exact hS3
        rw [show l.length = (l.set k ⟨to, x.row⟩).length by rw [List.length_set]]
        refine (hWrite E _ _ _ A S3 s d a N h st0 st root p q (l.set k ⟨to, x.row⟩) (some ⟨sb, 0, none⟩) cap b2 HPG.out hS4 hA hN hO).mono ?_
        clear hO hA
        rintro e w5 ⟨A, rfl, hA, hO⟩
        go_wp2_with fail
        rw [← HPOST.out]
        refine .inl ⟨j, k, HJ.out, HK.out, A, HH.out, HST.out _ _, rfl, HINV.out _ _, ?_, hO.as _⟩
        obtain ⟨e1, e2, e3⟩ := HP.out HJ.out HK.out
        rw [e1, e2, e3]
        exact hA
set_option maxRecDepth 100000 in
set_option maxHeartbeats 16000000 in
theorem hKill (E w : World) (X R A : Fr) (s d a N h : Nat) (st0 st : SSt) (root : Nat) (hr : root < 16) (hs : Hs) (hI : HInv st root hs) (tid : Int) (htb : tid < 9223372036854775808) (hA : Going s d a N st0 st A) (hN : N ≤ 8796000000000) (hO : Own E w X) [hp : Pick X (heapF h a root ++ A) R] :
    Calls Tryz.prog 41 #[.pointer (some ⟨h, 0, none⟩), .int .i64 tid] w (HBecP E s d a N h root st0 st hs tid 1 2 R) := by
  generalize hpost : HBecP E s d a N h root st0 st hs tid 1 2 R = POST
  have HPOST := Lib.hid hpost
  clear hpost
  go_enter Tryz.func41, Tryz.ntmps41
  go_wp2_with fail
  refine (hBecomes E _ _ R A s d a N h st0 st root hr hs hI tid htb 1 2 (by decide) (by decide) hA hN hO).mono ?_
  intro e w1 he
  have hv : ∃ z : Int, e = .returned (.int .i64 z) := by
    rcases he with ⟨_, _, _, _, _, _, _, h, _⟩ | ⟨_, h, _⟩ <;> exact ⟨_, h⟩
  obtain ⟨z, rfl⟩ := hv
  rw [HPOST.out] at he
  have HE := Lib.hid he
  clear he
  go_wp2_with fail
  exact HE.out
set_option maxRecDepth 100000 in
set_option maxHeartbeats 16000000 in
theorem hFree (E w : World) (X R A : Fr) (s d a N h : Nat) (st0 st : SSt) (root : Nat) (hr : root < 16) (hs : Hs) (hI : HInv st root hs) (tid : Int) (htb : tid < 9223372036854775808) (hA : Going s d a N st0 st A) (hN : N ≤ 8796000000000) (hO : Own E w X) [hp : Pick X (heapF h a root ++ A) R] :
    Calls Tryz.prog 49 #[.pointer (some ⟨h, 0, none⟩), .int .i64 tid] w (HBecP E s d a N h root st0 st hs tid 2 0 R) := by
  generalize hpost : HBecP E s d a N h root st0 st hs tid 2 0 R = POST
  have HPOST := Lib.hid hpost
  clear hpost
  go_enter Tryz.func49, Tryz.ntmps49
  go_wp2_with fail
  refine (hBecomes E _ _ R A s d a N h st0 st root hr hs hI tid htb 2 0 (by decide) (by decide) hA hN hO).mono ?_
  intro e w1 he
  have hv : ∃ z : Int, e = .returned (.int .i64 z) := by
    rcases he with ⟨_, _, _, _, _, _, _, h, _⟩ | ⟨_, h, _⟩ <;> exact ⟨_, h⟩
  obtain ⟨z, rfl⟩ := hv
  rw [HPOST.out] at he
  have HE := Lib.hid he
  clear he
  go_wp2_with fail
  exact HE.out
end Go.Proofs.YtkfkcloefgfkaaaGreat

/- Heap: those's closure. -/
namespace Go.Proofs.YtkfkcloefgfkaaaGreat
open Go Go.RowKit Go.Own Go.Dk

/-- The addresses of a page's first slots for which something is so. -/
def fst7 (f : Nat → Bool) (l : List Slot) (k : Nat) : Bool := match l[k]? with | some x => f x.st | none => false
def tidsP (f : Nat → Bool) (p : Nat) (l : List Slot) (j : Nat) : List Int := ((List.range j).filter (fst7 f l)).map fun k => ((p * 64 + k : Nat) : Int)
theorem tidsP_succ (f : Nat → Bool) (p : Nat) (l : List Slot) (j : Nat) (h : j < l.length) : tidsP f p l (j + 1) = if f l[j].st then tidsP f p l j ++ [((p * 64 + j : Nat) : Int)] else tidsP f p l j := by
  unfold tidsP
  have e : fst7 f l j = f l[j].st := by unfold fst7; rw [List.getElem?_eq_getElem h]
  rw [List.range_succ, List.filter_append]
  cases hf : f l[j].st with
  | true =>
    rw [List.filter_cons_of_pos (by rw [e]; exact hf), List.filter_nil, List.map_append]
    rfl
  | false =>
    rw [List.filter_cons_of_neg (by rw [e, hf]; decide), List.filter_nil, List.append_nil]
    rfl
theorem tidsP_le (f : Nat → Bool) (p : Nat) (l : List Slot) (j : Nat) : (tidsP f p l j).length ≤ j := by
  unfold tidsP
  rw [List.length_map]
  exact Nat.le_trans (List.length_filter_le _ _) (by rw [List.length_range]; exact Nat.le_refl _)
def tidsZ (ib ob g : Nat) (v : Value) : Fr := pt ib (.cells #[.func (.func g) #[] #[]] 155 (0, 0)) ++ pt ob (.cells #[v] 47 (0, 0))
theorem sl_snoc {e : TypeId} {a : Option Addr} {c : Nat} {xs : List Int} {v : Int} {ys : List Value} {A : Fr} (h : Sl e 1 a (xs.length + 1) c (xs.map (Value.int .i64) ++ ys) A) (hy : ys = [Value.int .i64 v]) : Sl e 1 a (xs ++ [v]).length c ((xs ++ [v]).map (Value.int .i64)) A := by
  subst hy
  rw [List.length_append, List.map_append]
  exact h
def Those1P (E : World) (ib ob g k : Nat) (f : Nat → Bool) (l : List Slot) (out : List Int) (R : Fr) (e : Ending) (w' : World) : Prop :=
  e = .returned (.bool true) ∧ ∃ so co SO, Sl 3 1 so (out ++ tidsP f k l l.length).length co ((out ++ tidsP f k l l.length).map (Value.int .i64)) SO ∧ Own E w' (tidsZ ib ob g (.slice so (out ++ tidsP f k l l.length).length co) ++ (SO ++ R))
set_option maxRecDepth 100000 in
set_option maxHeartbeats 16000000 in
theorem hThose1 (E w : World) (R S SO : Fr) (ib ob g k next : Nat) (f : Nat → Bool) (eg : ∀ args w, (callFunc g args).run Tryz.prog w = .ok (.enter g args) w) (hg : ∀ (st : Nat) (w : World), Calls Tryz.prog g #[.int .i64 st] w fun e w' => e = .returned (.bool (f st)) ∧ w = w') (l : List Slot) (sa so : Option Addr) (cap co : Nat) (out : List Int) (hk : k < 4096) (hl : l.length ≤ 64) (hol : out.length ≤ 262144) (hS : Sl 115 2 sa l.length cap (slV l) S) (hSO : Sl 3 1 so out.length co (out.map (Value.int .i64)) SO)
    (hO : Own E w (tidsZ ib ob g (.slice so out.length co) ++ (SO ++ (S ++ R)))) :
    Calls Tryz.prog 137 #[.int .i64 k, .int .i64 next, .slice sa l.length cap, .pointer (some ⟨ib, 0, none⟩), .pointer (some ⟨ob, 0, none⟩)] w (Those1P E ib ob g k f l out R) := by
  generalize hpost : Those1P E ib ob g k f l out R = POST
  have HPOST := Lib.hid hpost
  clear hpost
  go_enter Tryz.func137, Tryz.ntmps137
  go_wp2_with fail
  have hO1 := hO
  have HG := Lib.hid hg
  clear hO hg
  go_loopw [13] (fun s13 wr => ∃ (j co : Nat) (so : Option Addr) (SO : Fr), s13 = .int .i64 j ∧ j ≤ l.length ∧ Sl 3 1 so (out ++ tidsP f k l j).length co ((out ++ tidsP f k l j).map (Value.int .i64)) SO ∧ Own E wr (tidsZ ib ob g (.slice so (out ++ tidsP f k l j).length co) ++ (SO ++ (S ++ R)))) (fun s13 _ => l.length - (intOf s13).toNat)
  case atStart => exact ⟨0, co, so, SO, rfl, Nat.zero_le _, by rw [show out ++ tidsP f k l 0 = out from List.append_nil _]; exact hSO, by rw [show out ++ tidsP f k l 0 = out from List.append_nil _]; exact hO1⟩
  case round =>
    clear hO1 hSO
    obtain ⟨j, co, so, SO, rfl, hj, hSO, hO⟩ := hrel
    by_cases hlt : j < l.length
    · have hj1 : (j : Int) < l.length := by omega
      have hj2 : (0 : Int) ≤ j := by omega
      obtain ⟨sb, rfl⟩ := sl_some4 hS (Nat.lt_of_le_of_lt (Nat.zero_le _) hlt)
      have hsc := slot_at hS hO hlt
      have hsu := tidsP_succ f k l j hlt
      have hle := tidsP_le f k l j
      obtain ⟨x, hx⟩ : ∃ x, l[j] = x := ⟨_, rfl⟩
      rw [hx] at hsc hsu
      have HSC := Lib.hid hsc
      have HSU := Lib.hid hsu
      have HLT := Lib.hid hlt
      have hol2 : (out ++ tidsP f k l j).length ≤ 262208 := by rw [List.length_append]; omega
      generalize ho2 : out ++ tidsP f k l j = o2 at hSO hO hol2
      have HO2 := Lib.hid ho2
      clear ho2
      have hj6 : j < 1000000 := by omega
      have hwj := w64_add j 1 (by decide) (by decide) hj6
      have hwk := wi_add j 1 (by decide) (by decide) hj6
      have hw1 : wrap64 ((k : Int) * 64) = (k : Int) * 64 := by unfold wrap64; omega
      have hw2 : wrap64 ((k : Int) * 64 + j) = (k : Int) * 64 + j := by unfold wrap64; omega
      clear hx hsc hsu hlt hle
      unfold tidsZ at hO
      ((try simp only [List.nil_append, List.append_nil] at hO); have hF := Own.cells hO; simp only [cellsOf_append, cellsOf_pt] at hF)
      cases hfx : f x.st with
      | false =>
        go_wp2_with (first | (refine at_load (t := 115) ?_; go_must (refine own_loadC (ad := ⟨sb, j * 2, none⟩) (cs := [.int .i64 x.st, .string x.row]) ?_ HSC.out ?_ ?_ ?_ ?_; (· rfl); (· ((conv => lhs; whnf); try exact rfl)); (· simp; done); (· simp; done); simp only [Act.put, List.setIfInBounds_toArray, List.set_cons_zero, List.set_cons_succ])) | (refine at_alloc ?_; go_must (refine own_alloc (z := ?_) hO ?_ ?_ ?_; rotate_left; (· rfl); (· exact zeroSlot _); clear hO; (try clear hF); intro q _ hO; (try simp only [Value.cells] at hO); ((try simp only [List.nil_append, List.append_nil] at hO); have hF := Own.cells hO; simp only [cellsOf_append, cellsOf_pt] at hF); simp only [Act.put, List.setIfInBounds_toArray, List.set_cons_zero, List.set_cons_succ])) | (refine own_store (v := ?_) (off := 0) (b := q) hO ?_ ?_ ?_ ?_ ?_ ?_ ?_; rotate_left; (· rfl); (· ((conv => lhs; whnf); try exact rfl)); (· ((conv => lhs; whnf); try exact rfl)); (· simp [Value.cells]); (· simp [Value.cells, Value.oneCell']); (· simp [Value.cells]); clear hO; (try clear hF); intro _ hO; (try simp only [splice, Value.cells] at hO); ((try simp only [List.nil_append, List.append_nil] at hO); have hF := Own.cells hO; simp only [cellsOf_append, cellsOf_pt] at hF); simp only [Act.put, List.setIfInBounds_toArray, List.set_cons_zero, List.set_cons_succ]) | (go_at_fn g; refine (HG.out x.st _).mono ?_; rintro e w3 ⟨rfl, rfl⟩; rw [hfx]))
        (try simp only [splice, Value.cells, List.setIfInBounds_toArray, List.set_cons_zero, List.set_cons_succ] at hO)
        go_roundw
        case rel =>
          refine ⟨j + 1, co, so, SO, by go_num, HLT.out, ?_, ?_⟩
          · rw [HSU.out, if_neg (by rw [hfx]; decide), HO2.out]; exact hSO
          · rw [HSU.out, if_neg (by rw [hfx]; decide), HO2.out]
            unfold tidsZ
            exact hO.as _
        case measure => have := HLT.out; simp [intOf]; omega
      | true =>
        have hSO0 := hSO
        go_wp2_with (first | (refine at_load (t := 115) ?_; go_must (refine own_loadC (ad := ⟨sb, j * 2, none⟩) (cs := [.int .i64 x.st, .string x.row]) ?_ HSC.out ?_ ?_ ?_ ?_; (· rfl); (· ((conv => lhs; whnf); try exact rfl)); (· simp; done); (· simp; done); simp only [Act.put, List.setIfInBounds_toArray, List.set_cons_zero, List.set_cons_succ])) | (refine at_alloc ?_; go_must (refine own_alloc (z := ?_) hO ?_ ?_ ?_; rotate_left; (· rfl); (· exact zeroSlot _); clear hO; (try clear hF); intro q _ hO; (try simp only [Value.cells] at hO); ((try simp only [List.nil_append, List.append_nil] at hO); have hF := Own.cells hO; simp only [cellsOf_append, cellsOf_pt] at hF); simp only [Act.put, List.setIfInBounds_toArray, List.set_cons_zero, List.set_cons_succ])) | (refine own_store (v := ?_) (off := 0) (b := q) hO ?_ ?_ ?_ ?_ ?_ ?_ ?_; rotate_left; (· rfl); (· ((conv => lhs; whnf); try exact rfl)); (· ((conv => lhs; whnf); try exact rfl)); (· simp [Value.cells]); (· simp [Value.cells, Value.oneCell']); (· simp [Value.cells]); clear hO; (try clear hF); intro _ hO; (try simp only [splice, Value.cells] at hO); ((try simp only [List.nil_append, List.append_nil] at hO); have hF := Own.cells hO; simp only [cellsOf_append, cellsOf_pt] at hF); simp only [Act.put, List.setIfInBounds_toArray, List.set_cons_zero, List.set_cons_succ]) | (go_at_fn g; refine (HG.out x.st _).mono ?_; rintro e w3 ⟨rfl, rfl⟩; rw [hfx]) | (refine at_bs ?_; go_must (refine own_build1 (v := ?_) sltInts hO ?_ ?_ ?_ ?_ ?_ ?_; rotate_left; (· rfl); (· ((conv => lhs; whnf); try exact rfl)); (· rfl); (· decide); (· decide); clear hO; (try clear hF); intro bs _ hO; (try simp only [Value.cells] at hO); ((try simp only [List.nil_append, List.append_nil] at hO); have hF := Own.cells hO; simp only [cellsOf_append, cellsOf_pt] at hF); simp only [Act.put, List.setIfInBounds_toArray, List.set_cons_zero, List.set_cons_succ])) | (refine at_append ?_; go_must (refine own_append_elem (b1 := ?_) (cs := ?_) (e1 := ?_) (f1 := ?_) sltInts hO ?_ ?_ ?_ hSO0 ?_ ?_ ?_ ?_ ?_ ?_ ?_; rotate_left 4; (· rfl); (· rfl); (· rfl); (· exact inferInstance); (· rfl); (· intro u hu; simp at hu; subst hu; rfl); (· first | omega | (simp only [maxLen]; omega)); (· decide); (· first | omega | (simp only [maxLen]; omega)); clear hO; (try clear hF); intro _ _ _ _ hS hO; ((try simp only [List.nil_append, List.append_nil] at hO); have hF := Own.cells hO; simp only [cellsOf_append, cellsOf_pt] at hF); simp only [Act.put, List.setIfInBounds_toArray, List.set_cons_zero, List.set_cons_succ])) | (refine own_store (v := ?_) (off := 0) (b := ob) hO ?_ ?_ ?_ ?_ ?_ ?_ ?_; rotate_left; (· rfl); (· ((conv => lhs; whnf); try exact rfl)); (· ((conv => lhs; whnf); try exact rfl)); (· simp [Value.cells]); (· simp [Value.cells, Value.oneCell']); (· simp [Value.cells]); clear hO; (try clear hF); intro _ hO; (try simp only [splice, Value.cells] at hO); ((try simp only [List.nil_append, List.append_nil] at hO); have hF := Own.cells hO; simp only [cellsOf_append, cellsOf_pt] at hF); simp only [Act.put, List.setIfInBounds_toArray, List.set_cons_zero, List.set_cons_succ]))
        (try simp only [splice, Value.cells, List.setIfInBounds_toArray, List.set_cons_zero, List.set_cons_succ] at hO)
        have hlen1 : (o2 ++ [(k : Int) * 64 + j]).length = o2.length + 1 := by simp
        have hcast : ((k * 64 + j : Nat) : Int) = (k : Int) * 64 + j := by omega
        go_roundw
        case rel =>
          have heq : out ++ tidsP f k l (j + 1) = o2 ++ [(k : Int) * 64 + j] := by rw [HSU.out, if_pos hfx, ← List.append_assoc, HO2.out, hcast]
          have hS2 := sl_snoc hS rfl
          rw [← hlen1] at hO
          rw [← heq] at hS2 hO
          exact ⟨j + 1, _, _, _, by go_num, HLT.out, hS2, by unfold tidsZ; exact hO.as _⟩
        case measure => have := HLT.out; simp [intOf]; omega
    · obtain rfl : j = l.length := Nat.le_antisymm hj (Nat.le_of_not_lt hlt)
      have hjj : ¬ (l.length : Int) < l.length := by omega
      clear hj hlt
      go_wp2_with fail
      rw [← HPOST.out]
      exact ⟨rfl, so, co, SO, hSO, hO.as _⟩
end Go.Proofs.YtkfkcloefgfkaaaGreat

/- Heap: those, Tids, Dead, Pages. -/
namespace Go.Proofs.YtkfkcloefgfkaaaGreat
open Go Go.RowKit Go.Own Go.Dk

def allT (f : Nat → Bool) (hs : Hs) : List Int := hs.flatMap fun x => tidsP f x.1 x.2 x.2.length
theorem allT_succ (f : Nat → Bool) (hs : Hs) (j : Nat) (h : j < hs.length) : allT f (hs.take (j + 1)) = allT f (hs.take j) ++ tidsP f hs[j].1 hs[j].2 hs[j].2.length := by
  unfold allT
  rw [List.take_succ_eq_append_getElem h, List.flatMap_append]
  simp
theorem allT_le {f : Nat → Bool} : ∀ {hs : Hs}, (∀ x ∈ hs, x.2.length ≤ 64) → (allT f hs).length ≤ hs.length * 64
  | [], _ => Nat.le_refl _
  | x :: r, h => by
    have h1 := allT_le (f := f) fun y hy => h y (List.mem_cons_of_mem x hy)
    have h2 := h x (by simp)
    have h3 := tidsP_le f x.1 x.2 x.2.length
    show (tidsP f x.1 x.2 x.2.length ++ allT f r).length ≤ _
    rw [List.length_append, List.length_cons]
    omega
def HTidsP (E : World) (s d a N h root : Nat) (st0 st : SSt) (out : List Int) (R : Fr) (e : Ending) (w' : World) : Prop :=
  ∃ (so : Option Addr) (co : Nat) (SO A' : Fr), e = .returned (.slice so (srt out).length co) ∧ Sl 3 1 so (srt out).length co ((srt out).map (Value.int .i64)) SO ∧ Going s d a N st0 st A' ∧ Own E w' (SO ++ (heapF h a root ++ (A' ++ R)))
set_option maxRecDepth 100000 in
set_option maxHeartbeats 16000000 in
theorem hThose (E w : World) (X R A : Fr) (s d a N h : Nat) (st0 st : SSt) (root : Nat) (hr : root < 16) (hs : Hs) (hI : HInv st root hs) (g : FuncId) (f : Nat → Bool) (eg : ∀ args w, (callFunc g args).run Tryz.prog w = .ok (.enter g args) w) (hg : ∀ (st : Nat) (w : World), Calls Tryz.prog g #[.int .i64 st] w fun e w' => e = .returned (.bool (f st)) ∧ w = w') (hA : Going s d a N st0 st A) (hN : N ≤ 8796000000000) (hO : Own E w X) [hp : Pick X (heapF h a root ++ A) R] :
    Calls Tryz.prog 98 #[.pointer (some ⟨h, 0, none⟩), .func (.func g) #[] #[]] w (HTidsP E s d a N h root st0 st (allT f hs) R) := by
  replace hO : Own E w (heapF h a root ++ (A ++ R)) := by have := hO.perm hp.perm; rwa [List.append_assoc] at this
  clear hp
  generalize hpost : HTidsP E s d a N h root st0 st (allT f hs) R = POST
  have HPOST := Lib.hid hpost
  clear hpost
  obtain ⟨v1, v2, v3⟩ := hA.view
  have hlen := hI.len
  obtain ⟨hF0, hat⟩ := hch_at hI.ch
  have h64 : ∀ x ∈ hs, x.2.length ≤ 64 := fun x hx => by
    obtain ⟨i, hi, rfl⟩ := List.mem_iff_getElem.1 hx
    exact (hat i hi).2.2.2.len
  go_enter Tryz.func98, Tryz.ntmps98
  go_wp2_with (first | (refine at_box ?_; go_must (refine own_box (v := ?_) hO ?_ ?_ ?_; rotate_left; (· rfl); (· ((conv => lhs; whnf); try exact rfl)); clear hO; (try clear hF); intro ib _ hO; (try simp only [Value.cells] at hO); ((try simp only [List.nil_append, List.append_nil] at hO); have hF := Own.cells hO; simp only [cellsOf_append, cellsOf_pt] at hF); simp only [Act.put, List.setIfInBounds_toArray, List.set_cons_zero, List.set_cons_succ])) | (refine at_alloc ?_; go_must (refine own_alloc (z := .slice none 0 0) hO ?_ ?_ ?_; (· rfl); (· kernel_rfl); clear hO; (try clear hF); intro ob _ hO; (try simp only [Value.cells] at hO); ((try simp only [List.nil_append, List.append_nil] at hO); have hF := Own.cells hO; simp only [cellsOf_append, cellsOf_pt] at hF); simp only [Act.put, List.setIfInBounds_toArray, List.set_cons_zero, List.set_cons_succ])))
  have eg2 : ∀ args w, (callFunc 137 args).run Tryz.prog w = .ok (.enter 137 args) w := enters_of Tryz.func137 (by kernel_rfl) rfl
  have step : ∀ (j : Nat) (hj : j < hs.length) (w : World) (A Z S : Fr) (sa : Option Addr) (cap : Nat), (∃ (so : Option Addr) (co : Nat) (SO : Fr), Z = tidsZ ib ob g (.slice so (allT f (hs.take j)).length co) ++ SO ∧ Sl 3 1 so (allT f (hs.take j)).length co ((allT f (hs.take j)).map (Value.int .i64)) SO) → Going s d a N st0 st A → Sl 115 2 sa hs[j].2.length cap (slV hs[j].2) S → Own E w (heapF h a root ++ (A ++ (Z ++ (S ++ R)))) →
      Calls Tryz.prog 137 (#[.int .i64 hs[j].1, .int .i64 (nxt hs (j + 1)), .slice sa hs[j].2.length cap] ++ #[.pointer (some ⟨ib, 0, none⟩), .pointer (some ⟨ob, 0, none⟩)]) w fun e w' => (e = .returned (.bool true) ∧ ∃ A' Z', (∃ (so : Option Addr) (co : Nat) (SO : Fr), Z' = tidsZ ib ob g (.slice so (allT f (hs.take (j + 1))).length co) ++ SO ∧ Sl 3 1 so (allT f (hs.take (j + 1))).length co ((allT f (hs.take (j + 1))).map (Value.int .i64)) SO) ∧ Going s d a N st0 st A' ∧ Own E w' (heapF h a root ++ (A' ++ (Z' ++ R)))) ∨
        (e = .returned (.bool false) ∧ ∃ Q, False ∧ Own E w' (heapF h a root ++ (Q ++ R))) := by
    rintro j hj w A Z S sa cap ⟨so, co, SO, rfl, hSO⟩ hA hS hO
    have hkb : hs[j].1 < 4096 := by have h5 : ((hs[j].1 : Nat) : Int) ≤ st.T := (hat j hj).2.1.2.1; omega
    have hle : (allT f (hs.take j)).length ≤ 262144 := by
      have := allT_le (f := f) (hs := hs.take j) fun x hx => h64 x (List.mem_of_mem_take hx)
      rw [List.length_take] at this
      omega
    refine (hThose1 E w (heapF h a root ++ (A ++ R)) S SO ib ob g hs[j].1 (nxt hs (j + 1)) f eg hg hs[j].2 sa so cap co _ hkb (h64 _ (List.getElem_mem hj)) hle hS hSO (hO.as _)).mono ?_
    rintro e w' ⟨rfl, so, co, SO, hSO, hO⟩
    rw [← allT_succ f hs j hj] at hSO hO
    exact .inl ⟨rfl, A, _, ⟨so, co, SO, rfl, hSO⟩, hA, hO.as _⟩
  have hO9 : Own E _ (heapF h a root ++ (A ++ ((tidsZ ib ob g (.slice none (allT f (hs.take 0)).length 0) ++ []) ++ R))) := hO.as (heapF h a root ++ (A ++ (((pt ib (.cells #[.func (.func g) #[] #[]] 155 (0, 0)) ++ pt ob (.cells #[.slice none 0 0] 47 (0, 0))) ++ []) ++ R)))
  refine (hEach E _ _ R A _ s d a N h st0 st root hr hs hI.ch (by omega) 137 _ eg2 (fun j Z => ∃ (so : Option Addr) (co : Nat) (SO : Fr), Z = tidsZ ib ob g (.slice so (allT f (hs.take j)).length co) ++ SO ∧ Sl 3 1 so (allT f (hs.take j)).length co ((allT f (hs.take j)).map (Value.int .i64)) SO) (fun _ _ => False) ⟨none, 0, [], rfl, Sl.nil _ _⟩ step hA hN hO9).mono ?_
  clear hO hO9 hA step hF0
  have hle2 : (allT f hs).length ≤ 262144 := by
    have := allT_le (f := f) h64
    omega
  rintro e w3 ⟨rfl, ⟨A, Z, ⟨so, co, SO, rfl, hSO⟩, hA, hO⟩ | ⟨j, Q, _, hf, _⟩⟩
  rotate_left
  · exact hf.elim
  rw [List.take_length] at hSO hO
  generalize allT f hs = out at hSO hO hle2 HPOST
  clear hat h64 hlen hI
  unfold tidsZ at hO
  ((try simp only [List.nil_append, List.append_nil] at hO); have hF := Own.cells hO; simp only [cellsOf_append, cellsOf_pt] at hF)
  go_wp2_with fail
  refine (sortI E _ _ _ SO so co out hSO (by omega) hO).mono ?_
  clear hO hF hSO
  rintro e w4 ⟨rfl, SO, hSO, hO⟩
  ((try simp only [List.nil_append, List.append_nil] at hO); have hF := Own.cells hO; simp only [cellsOf_append, cellsOf_pt] at hF)
  go_wp2_with fail
  rw [← HPOST.out]
  exact ⟨so, co, SO, A, by rw [srt_length]; rfl, by rw [srt_length]; exact hSO, hA, hO.as _⟩
theorem isTids (st : Nat) (w : World) : Calls Tryz.prog 99 #[.int .i64 st] w fun e w' => e = .returned (.bool (st != 0)) ∧ w = w' := by
  by_cases h : st = 0
  · subst h
    go_enter Tryz.func99, Tryz.ntmps99
    go_wp2
    go_ret
    exact ⟨rfl, rfl⟩
  · have h1 : ¬ (st : Int) = 0 := by omega
    have h2 : (st != 0) = true := by simpa using h
    rw [h2]
    clear h2 h
    go_enter Tryz.func99, Tryz.ntmps99
    go_wp2
    go_ret
    exact ⟨by first | rfl | (simp [h1]; done) | (simp; omega), rfl⟩
theorem isDead (st : Nat) (w : World) : Calls Tryz.prog 100 #[.int .i64 st] w fun e w' => e = .returned (.bool (st == 2)) ∧ w = w' := by
  by_cases h : st = 2
  · subst h
    go_enter Tryz.func100, Tryz.ntmps100
    go_wp2
    go_ret
    exact ⟨rfl, rfl⟩
  · have h1 : ¬ (st : Int) = 2 := by omega
    have h2 : (st == 2) = false := by simpa using h
    rw [h2]
    clear h2 h
    go_enter Tryz.func100, Tryz.ntmps100
    go_wp2
    go_ret
    exact ⟨by first | rfl | (simp [h1]; done) | (simp; omega), rfl⟩
set_option maxRecDepth 100000 in
set_option maxHeartbeats 16000000 in
theorem hTids (E w : World) (X R A : Fr) (s d a N h : Nat) (st0 st : SSt) (root : Nat) (hr : root < 16) (hs : Hs) (hI : HInv st root hs) (hA : Going s d a N st0 st A) (hN : N ≤ 8796000000000) (hO : Own E w X) [hp : Pick X (heapF h a root ++ A) R] :
    Calls Tryz.prog 42 #[.pointer (some ⟨h, 0, none⟩)] w (HTidsP E s d a N h root st0 st (allT (· != 0) hs) R) := by
  generalize hpost : HTidsP E s d a N h root st0 st (allT (· != 0) hs) R = POST
  have HPOST := Lib.hid hpost
  clear hpost
  have eg : ∀ args w, (callFunc 99 args).run Tryz.prog w = .ok (.enter 99 args) w := enters_of Tryz.func99 (by kernel_rfl) rfl
  go_enter Tryz.func42, Tryz.ntmps42
  go_wp2_with fail
  refine (hThose E _ _ R A s d a N h st0 st root hr hs hI 99 (· != 0) eg isTids hA hN hO).mono ?_
  rintro e w1 ⟨so, co, SO, A, rfl, hSO, hA, hO⟩
  go_wp2_with fail
  rw [← HPOST.out]
  exact ⟨so, co, SO, A, rfl, hSO, hA, hO⟩
set_option maxRecDepth 100000 in
set_option maxHeartbeats 16000000 in
theorem hDead (E w : World) (X R A : Fr) (s d a N h : Nat) (st0 st : SSt) (root : Nat) (hr : root < 16) (hs : Hs) (hI : HInv st root hs) (hA : Going s d a N st0 st A) (hN : N ≤ 8796000000000) (hO : Own E w X) [hp : Pick X (heapF h a root ++ A) R] :
    Calls Tryz.prog 43 #[.pointer (some ⟨h, 0, none⟩)] w (HTidsP E s d a N h root st0 st (allT (· == 2) hs) R) := by
  generalize hpost : HTidsP E s d a N h root st0 st (allT (· == 2) hs) R = POST
  have HPOST := Lib.hid hpost
  clear hpost
  have eg : ∀ args w, (callFunc 100 args).run Tryz.prog w = .ok (.enter 100 args) w := enters_of Tryz.func100 (by kernel_rfl) rfl
  go_enter Tryz.func43, Tryz.ntmps43
  go_wp2_with fail
  refine (hThose E _ _ R A s d a N h st0 st root hr hs hI 100 (· == 2) eg isDead hA hN hO).mono ?_
  rintro e w1 ⟨so, co, SO, A, rfl, hSO, hA, hO⟩
  go_wp2_with fail
  rw [← HPOST.out]
  exact ⟨so, co, SO, A, rfl, hSO, hA, hO⟩
end Go.Proofs.YtkfkcloefgfkaaaGreat

/- Heap: Pages. -/
namespace Go.Proofs.YtkfkcloefgfkaaaGreat
open Go Go.RowKit Go.Own Go.Dk

def Pg1P (E : World) (ob k : Nat) (out : List Int) (R : Fr) (e : Ending) (w' : World) : Prop :=
  e = .returned (.bool true) ∧ ∃ (so : Option Addr) (co : Nat) (SO : Fr), Sl 3 1 so (out ++ [(k : Int)]).length co ((out ++ [(k : Int)]).map (Value.int .i64)) SO ∧ Own E w' (pt ob (.cells #[.slice so (out ++ [(k : Int)]).length co] 47 (0, 0)) ++ (SO ++ R))
set_option maxRecDepth 100000 in
set_option maxHeartbeats 16000000 in
theorem hPages1 (E w : World) (R SO : Fr) (ob k next n cap : Nat) (sa : Option Addr) (so : Option Addr) (co : Nat) (out : List Int) (hol : out.length ≤ 4096) (hSO : Sl 3 1 so out.length co (out.map (Value.int .i64)) SO) (hO : Own E w (pt ob (.cells #[.slice so out.length co] 47 (0, 0)) ++ (SO ++ R))) :
    Calls Tryz.prog 67 #[.int .i64 k, .int .i64 next, .slice sa n cap, .pointer (some ⟨ob, 0, none⟩)] w (Pg1P E ob k out R) := by
  generalize hpost : Pg1P E ob k out R = POST
  have HPOST := Lib.hid hpost
  clear hpost
  have hSO0 := hSO
  go_enter Tryz.func67, Tryz.ntmps67
  have hF := Own.cells hO; simp only [cellsOf_append, cellsOf_pt] at hF
  go_wp2_with (first | (refine at_bs ?_; go_must (refine own_build1 (v := ?_) sltInts hO ?_ ?_ ?_ ?_ ?_ ?_; rotate_left; (· rfl); (· ((conv => lhs; whnf); try exact rfl)); (· rfl); (· decide); (· decide); clear hO; (try clear hF); intro bs _ hO; (try simp only [Value.cells] at hO); ((try simp only [List.nil_append, List.append_nil] at hO); have hF := Own.cells hO; simp only [cellsOf_append, cellsOf_pt] at hF); simp only [Act.put, List.setIfInBounds_toArray, List.set_cons_zero, List.set_cons_succ])) | (refine at_append ?_; go_must (refine own_append_elem (b1 := ?_) (cs := ?_) (e1 := ?_) (f1 := ?_) sltInts hO ?_ ?_ ?_ hSO0 ?_ ?_ ?_ ?_ ?_ ?_ ?_; rotate_left 4; (· rfl); (· rfl); (· rfl); (· exact inferInstance); (· rfl); (· intro u hu; simp at hu; subst hu; rfl); (· first | omega | (simp only [maxLen]; omega)); (· decide); (· first | omega | (simp only [maxLen]; omega)); clear hO; (try clear hF); intro _ _ _ _ hS hO; ((try simp only [List.nil_append, List.append_nil] at hO); have hF := Own.cells hO; simp only [cellsOf_append, cellsOf_pt] at hF); simp only [Act.put, List.setIfInBounds_toArray, List.set_cons_zero, List.set_cons_succ])) | (refine own_store (v := ?_) (off := 0) (b := ob) hO ?_ ?_ ?_ ?_ ?_ ?_ ?_; rotate_left; (· rfl); (· ((conv => lhs; whnf); try exact rfl)); (· ((conv => lhs; whnf); try exact rfl)); (· simp [Value.cells]); (· simp [Value.cells, Value.oneCell']); (· simp [Value.cells]); clear hO; (try clear hF); intro _ hO; (try simp only [splice, Value.cells] at hO); ((try simp only [List.nil_append, List.append_nil] at hO); have hF := Own.cells hO; simp only [cellsOf_append, cellsOf_pt] at hF); simp only [Act.put, List.setIfInBounds_toArray, List.set_cons_zero, List.set_cons_succ]))
  (try simp only [splice, Value.cells, List.setIfInBounds_toArray, List.set_cons_zero, List.set_cons_succ] at hO)
  have hlen1 : (out ++ [(k : Int)]).length = out.length + 1 := by simp
  have hS2 := sl_snoc hS rfl
  rw [← hlen1] at hO
  rw [← HPOST.out]
  exact ⟨rfl, _, _, _, hS2, hO.as _⟩
set_option maxRecDepth 100000 in
set_option maxHeartbeats 16000000 in
theorem hPages (E w : World) (X R A : Fr) (s d a N h : Nat) (st0 st : SSt) (root : Nat) (hr : root < 16) (hs : Hs) (hI : HInv st root hs) (hA : Going s d a N st0 st A) (hN : N ≤ 8796000000000) (hO : Own E w X) [hp : Pick X (heapF h a root ++ A) R] :
    Calls Tryz.prog 18 #[.pointer (some ⟨h, 0, none⟩)] w (HTidsP E s d a N h root st0 st (hs.map fun x => (x.1 : Int)) R) := by
  replace hO : Own E w (heapF h a root ++ (A ++ R)) := by have := hO.perm hp.perm; rwa [List.append_assoc] at this
  clear hp
  generalize hpost : HTidsP E s d a N h root st0 st (hs.map fun x => (x.1 : Int)) R = POST
  have HPOST := Lib.hid hpost
  clear hpost
  obtain ⟨v1, v2, v3⟩ := hA.view
  have hlen := hI.len
  go_enter Tryz.func18, Tryz.ntmps18
  go_wp2_with (first | (refine at_alloc ?_; go_must (refine own_alloc (z := .slice none 0 0) hO ?_ ?_ ?_; (· rfl); (· kernel_rfl); clear hO; (try clear hF); intro ob _ hO; (try simp only [Value.cells] at hO); ((try simp only [List.nil_append, List.append_nil] at hO); have hF := Own.cells hO; simp only [cellsOf_append, cellsOf_pt] at hF); simp only [Act.put, List.setIfInBounds_toArray, List.set_cons_zero, List.set_cons_succ])))
  have eg2 : ∀ args w, (callFunc 67 args).run Tryz.prog w = .ok (.enter 67 args) w := enters_of Tryz.func67 (by kernel_rfl) rfl
  have step : ∀ (j : Nat) (hj : j < hs.length) (w : World) (A Z S : Fr) (sa : Option Addr) (cap : Nat), (∃ (so : Option Addr) (co : Nat) (SO : Fr), Z = pt ob (.cells #[.slice so ((hs.take j).map fun x => (x.1 : Int)).length co] 47 (0, 0)) ++ SO ∧ Sl 3 1 so ((hs.take j).map fun x => (x.1 : Int)).length co (((hs.take j).map fun x => (x.1 : Int)).map (Value.int .i64)) SO) → Going s d a N st0 st A → Sl 115 2 sa hs[j].2.length cap (slV hs[j].2) S → Own E w (heapF h a root ++ (A ++ (Z ++ (S ++ R)))) →
      Calls Tryz.prog 67 (#[.int .i64 hs[j].1, .int .i64 (nxt hs (j + 1)), .slice sa hs[j].2.length cap] ++ #[.pointer (some ⟨ob, 0, none⟩)]) w fun e w' => (e = .returned (.bool true) ∧ ∃ A' Z', (∃ (so : Option Addr) (co : Nat) (SO : Fr), Z' = pt ob (.cells #[.slice so ((hs.take (j + 1)).map fun x => (x.1 : Int)).length co] 47 (0, 0)) ++ SO ∧ Sl 3 1 so ((hs.take (j + 1)).map fun x => (x.1 : Int)).length co (((hs.take (j + 1)).map fun x => (x.1 : Int)).map (Value.int .i64)) SO) ∧ Going s d a N st0 st A' ∧ Own E w' (heapF h a root ++ (A' ++ (Z' ++ R)))) ∨
        (e = .returned (.bool false) ∧ ∃ Q, False ∧ Own E w' (heapF h a root ++ (Q ++ R))) := by
    rintro j hj w A Z S sa cap ⟨so, co, SO, rfl, hSO⟩ hA hS hO
    have hle : ((hs.take j).map fun x => (x.1 : Int)).length ≤ 4096 := by rw [List.length_map, List.length_take]; omega
    refine (hPages1 E w (heapF h a root ++ (A ++ R)) SO ob hs[j].1 (nxt hs (j + 1)) hs[j].2.length cap sa so co _ hle hSO (hO.as _)).mono ?_
    rintro e w' ⟨rfl, so, co, SO, hSO, hO⟩
    have e1 : ((hs.take j).map fun x => (x.1 : Int)) ++ [(hs[j].1 : Int)] = (hs.take (j + 1)).map fun x => (x.1 : Int) := by
      rw [List.take_succ_eq_append_getElem hj, List.map_append]
      rfl
    rw [e1] at hSO hO
    exact .inl ⟨rfl, A, _, ⟨so, co, SO, rfl, hSO⟩, hA, hO.as _⟩
  have hO9 : Own E _ (heapF h a root ++ (A ++ ((pt ob (.cells #[.slice none ((hs.take 0).map fun x => (x.1 : Int)).length 0] 47 (0, 0)) ++ []) ++ R))) := hO.as (heapF h a root ++ (A ++ ((pt ob (.cells #[.slice none 0 0] 47 (0, 0)) ++ []) ++ R)))
  refine (hEach E _ _ R A _ s d a N h st0 st root hr hs hI.ch (by omega) 67 _ eg2 (fun j Z => ∃ (so : Option Addr) (co : Nat) (SO : Fr), Z = pt ob (.cells #[.slice so ((hs.take j).map fun x => (x.1 : Int)).length co] 47 (0, 0)) ++ SO ∧ Sl 3 1 so ((hs.take j).map fun x => (x.1 : Int)).length co (((hs.take j).map fun x => (x.1 : Int)).map (Value.int .i64)) SO) (fun _ _ => False) ⟨none, 0, [], rfl, Sl.nil _ _⟩ step hA hN hO9).mono ?_
  clear hO hO9 hA step
  have hle2 : (hs.map fun x => (x.1 : Int)).length ≤ 262144 := by rw [List.length_map]; omega
  rintro e w3 ⟨rfl, ⟨A, Z, ⟨so, co, SO, rfl, hSO⟩, hA, hO⟩ | ⟨j, Q, _, hf, _⟩⟩
  rotate_left
  · exact hf.elim
  rw [List.take_length] at hSO hO
  generalize (hs.map fun x => (x.1 : Int)) = out at hSO hO hle2 HPOST
  clear hlen hI
  ((try simp only [List.nil_append, List.append_nil] at hO); have hF := Own.cells hO; simp only [cellsOf_append, cellsOf_pt] at hF)
  go_wp2_with fail
  refine (sortI E _ _ _ SO so co out hSO (by omega) hO).mono ?_
  clear hO hF hSO
  rintro e w4 ⟨rfl, SO, hSO, hO⟩
  ((try simp only [List.nil_append, List.append_nil] at hO); have hF := Own.cells hO; simp only [cellsOf_append, cellsOf_pt] at hF)
  go_wp2_with fail
  rw [← HPOST.out]
  exact ⟨so, co, SO, A, by rw [srt_length]; rfl, by rw [srt_length]; exact hSO, hA, hO.as _⟩
end Go.Proofs.YtkfkcloefgfkaaaGreat

/- Heap: the rows of a heap as one plain list. -/
namespace Go.Proofs.YtkfkcloefgfkaaaGreat
open Go Go.RowKit Go.Own Go.Dk

abbrev Cell := Nat × Slot
def one (t : Nat) (x : Slot) : List Cell := if x.st = 0 then [] else [(t, x)]
def cellsP (p : Nat) : Nat → List Slot → List Cell
  | _, [] => []
  | k, x :: r => one (p * 64 + k) x ++ cellsP p (k + 1) r
def W (hs : Hs) : List Cell := hs.flatMap fun x => cellsP x.1 0 x.2
theorem cellsP_app (p : Nat) : ∀ (k : Nat) (a b : List Slot), cellsP p k (a ++ b) = cellsP p k a ++ cellsP p (k + a.length) b
  | _, [], _ => rfl
  | k, x :: a, b => by
    show one _ x ++ cellsP p (k + 1) (a ++ b) = (one _ x ++ cellsP p (k + 1) a) ++ cellsP p (k + (a.length + 1)) b
    rw [cellsP_app p (k + 1) a b, List.append_assoc, show k + 1 + a.length = k + (a.length + 1) by omega]
theorem cellsP_set (p : Nat) (l : List Slot) (k : Nat) (h : k < l.length) : ∃ C D, (∀ x, cellsP p 0 (l.set k x) = C ++ (one (p * 64 + k) x ++ D)) ∧ cellsP p 0 l = C ++ (one (p * 64 + k) l[k] ++ D) := by
  have key : ∀ x, cellsP p 0 (l.set k x) = cellsP p 0 (l.take k) ++ (one (p * 64 + k) x ++ cellsP p (k + 1) (l.drop (k + 1))) := fun x => by
    rw [List.set_eq_take_append_cons_drop, if_pos h, cellsP_app, List.length_take, Nat.min_eq_left (Nat.le_of_lt h), Nat.zero_add]
    rfl
  refine ⟨_, _, key, ?_⟩
  rw [← key, List.set_getElem_self]
theorem W_set (hs : Hs) (j : Nat) (h : j < hs.length) : ∃ A B, (∀ l, W (hs.set j ((hs[j]'h).1, l)) = A ++ (cellsP (hs[j]'h).1 0 l ++ B)) ∧ W hs = A ++ (cellsP (hs[j]'h).1 0 (hs[j]'h).2 ++ B) := by
  have key : ∀ l, W (hs.set j ((hs[j]'h).1, l)) = W (hs.take j) ++ (cellsP (hs[j]'h).1 0 l ++ W (hs.drop (j + 1))) := fun l => by
    rw [List.set_eq_take_append_cons_drop, if_pos h]
    unfold W
    rw [List.flatMap_append, List.flatMap_cons]
  refine ⟨_, _, key, ?_⟩
  rw [← key]
  show W hs = W (hs.set j (hs[j]'h))
  rw [List.set_getElem_self]
/-- Where a cell comes from. -/
theorem mem_one {c : Cell} {t : Nat} {x : Slot} : c ∈ one t x ↔ c = (t, x) ∧ x.st ≠ 0 := by
  unfold one
  by_cases h : x.st = 0
  · rw [if_pos h]; simp [h]
  · rw [if_neg h]; simp [h]
theorem mem_cellsP {p : Nat} {c : Cell} : ∀ {k : Nat} {l : List Slot}, c ∈ cellsP p k l ↔ ∃ (i : Nat) (hi : i < l.length), c = (p * 64 + (k + i), l[i]'hi) ∧ (l[i]'hi).st ≠ 0
  | k, [] => ⟨fun h => (nomatch h), fun ⟨i, hi, _⟩ => absurd hi (Nat.not_lt_zero i)⟩
  | k, x :: r => by
    show c ∈ one _ x ++ cellsP p (k + 1) r ↔ _
    rw [List.mem_append, mem_one, mem_cellsP]
    constructor
    · rintro (⟨h1, h2⟩ | ⟨i, hi, h1, h2⟩)
      · exact ⟨0, Nat.succ_pos _, h1, h2⟩
      · exact ⟨i + 1, Nat.succ_lt_succ hi, by rw [h1, show k + 1 + i = k + (i + 1) by omega]; rfl, h2⟩
    · rintro ⟨i, hi, h1, h2⟩
      cases i with
      | zero => exact .inl ⟨h1, h2⟩
      | succ i => exact .inr ⟨i, Nat.lt_of_succ_lt_succ hi, by rw [h1, show k + 1 + i = k + (i + 1) by omega]; rfl, h2⟩
theorem mem_W {hs : Hs} {c : Cell} : c ∈ W hs ↔ ∃ (j k : Nat) (hj : j < hs.length) (hk : k < (hs[j]'hj).2.length), c = ((hs[j]'hj).1 * 64 + k, (hs[j]'hj).2[k]'hk) ∧ ((hs[j]'hj).2[k]'hk).st ≠ 0 := by
  unfold W
  rw [List.mem_flatMap]
  constructor
  · rintro ⟨x, hx, hc⟩
    obtain ⟨j, hj, rfl⟩ := List.mem_iff_getElem.1 hx
    obtain ⟨k, hk, h1, h2⟩ := mem_cellsP.1 hc
    rw [Nat.zero_add] at h1
    exact ⟨j, k, hj, hk, h1, h2⟩
  · rintro ⟨j, k, hj, hk, h1, h2⟩
    exact ⟨_, List.getElem_mem hj, mem_cellsP.2 ⟨k, hk, by rw [Nat.zero_add]; exact h1, h2⟩⟩
theorem HInv.at64 {st : SSt} {root : Nat} {hs : Hs} (h : HInv st root hs) {j : Nat} (hj : j < hs.length) : (hs[j]'hj).2.length ≤ 64 ∧ 1 ≤ (hs[j]'hj).1 ∧ (hs[j]'hj).1 ≤ st.T := by
  obtain ⟨a1, a2, _, a4⟩ := (hch_at h.ch).2 j hj
  have h1 : (((hs[j]'hj).1 : Nat) : Int) ≤ st.T := a2.2.1
  exact ⟨a4.len, Nat.pos_of_ne_zero a1, by omega⟩
theorem Holds.mem {hs : Hs} {tid : Int} {j k : Nat} (h : Holds hs tid j k) (hj : j < hs.length) (hk : k < (hs[j]'hj).2.length) : ∃ t : Nat, tid = t ∧ (t, (hs[j]'hj).2[k]'hk) ∈ W hs := by
  obtain ⟨_, _, h64, ht, hn⟩ := h
  exact ⟨_, ht, mem_W.2 ⟨j, k, hj, hk, rfl, hn⟩⟩
theorem Holds.of {st : SSt} {root : Nat} {hs : Hs} (hI : HInv st root hs) {t : Nat} {x : Slot} (h : (t, x) ∈ W hs) : ∃ (j k : Nat) (hj : j < hs.length) (hk : k < (hs[j]'hj).2.length), Holds hs t j k ∧ (hs[j]'hj).2[k]'hk = x := by
  obtain ⟨j, k, hj, hk, h1, h2⟩ := mem_W.1 h
  have h64 := hI.at64 hj
  cases h1
  exact ⟨j, k, hj, hk, ⟨hj, hk, by omega, rfl, h2⟩, rfl⟩
/-- An address holds one row. -/
theorem W_uniq {st : SSt} {root : Nat} {hs : Hs} (hI : HInv st root hs) {t : Nat} {x y : Slot} (hx : (t, x) ∈ W hs) (hy : (t, y) ∈ W hs) : x = y := by
  obtain ⟨j, k, hj, hk, h1, h2⟩ := Holds.of hI hx
  obtain ⟨j', k', hj', hk', h1', h2'⟩ := Holds.of hI hy
  obtain ⟨rfl, rfl⟩ := Holds.uniq hI h1 h1'
  exact h2.symm.trans h2'
theorem W_bd {st : SSt} {root : Nat} {hs : Hs} (hI : HInv st root hs) {t : Nat} {x : Slot} (hx : (t, x) ∈ W hs) : 64 ≤ t ∧ t < 64 * (st.T + 1) ∧ x.st ≠ 0 ∧ x.st ≤ 2 := by
  obtain ⟨j, k, hj, hk, h1, h2⟩ := mem_W.1 hx
  have h64 := hI.at64 hj
  cases h1
  exact ⟨by omega, by omega, h2, (((hch_at hI.ch).2 j hj).2.2.2.ok _ (List.getElem_mem hk)).1⟩
/-- What Tids and Dead tell. -/
theorem cellsP_T (f : Nat → Bool) (hf : f 0 = false) (p : Nat) (l : List Slot) : tidsP f p l l.length = ((cellsP p 0 l).filter fun c => f c.2.st).map fun c => (c.1 : Int) := by
  have key : ∀ n (h : n ≤ l.length), tidsP f p l n = ((cellsP p 0 (l.take n)).filter fun c => f c.2.st).map fun c => (c.1 : Int) := by
    intro n
    induction n with
    | zero => intro _; rfl
    | succ n ih =>
      intro h
      rw [tidsP_succ f p l n h, List.take_succ_eq_append_getElem h, cellsP_app, List.filter_append, List.map_append, ← ih (by omega), List.length_take, Nat.min_eq_left (by omega), Nat.zero_add]
      show _ = _ ++ ((one (p * 64 + n) l[n] ++ []).filter _).map _
      rw [List.append_nil]
      unfold one
      by_cases h0 : (l[n]).st = 0
      · rw [if_pos h0, h0, hf, if_neg (by decide)]
        exact (List.append_nil _).symm
      · rw [if_neg h0]
        cases hc : f (l[n]).st with
        | true => rw [if_pos rfl, List.filter_cons_of_pos (by exact hc)]; rfl
        | false => rw [if_neg (by decide), List.filter_cons_of_neg (by simp [hc])]; exact (List.append_nil _).symm
  rw [key _ (Nat.le_refl _), List.take_length]
theorem allT_W (f : Nat → Bool) (hf : f 0 = false) (hs : Hs) : allT f hs = ((W hs).filter fun c => f c.2.st).map fun c => (c.1 : Int) := by
  induction hs with
  | nil => rfl
  | cons x r ih =>
    show tidsP f x.1 x.2 x.2.length ++ allT f r = (((cellsP x.1 0 x.2) ++ W r).filter _).map _
    rw [List.filter_append, List.map_append, ← ih, cellsP_T f hf]
theorem perm_mid {α : Type} (A B C D M : List α) : (A ++ ((C ++ (M ++ D)) ++ B)).Perm (M ++ (A ++ ((C ++ D) ++ B))) := by
  have h1 : (C ++ (M ++ D)).Perm (M ++ (C ++ D)) := by
    rw [← List.append_assoc, ← List.append_assoc]
    exact List.Perm.append_right D List.perm_append_comm
  have h2 : (A ++ ((C ++ (M ++ D)) ++ B)).Perm (A ++ ((M ++ (C ++ D)) ++ B)) := List.Perm.append_left A (List.Perm.append_right B h1)
  refine h2.trans ?_
  rw [List.append_assoc, ← List.append_assoc, ← List.append_assoc M]
  exact List.Perm.append_right _ List.perm_append_comm
/-- A cell changes. -/
theorem W_becomes {hs : Hs} {j k : Nat} (hj : j < hs.length) (hk : k < (hs[j]'hj).2.length) : ∃ Z, (W hs).Perm (one ((hs[j]'hj).1 * 64 + k) ((hs[j]'hj).2[k]'hk) ++ Z) ∧ ∀ x, (W (hs.set j ((hs[j]'hj).1, (hs[j]'hj).2.set k x))).Perm (one ((hs[j]'hj).1 * 64 + k) x ++ Z) := by
  obtain ⟨A, B, h1, h2⟩ := W_set hs j hj
  obtain ⟨C, D, h3, h4⟩ := cellsP_set (hs[j]'hj).1 (hs[j]'hj).2 k hk
  refine ⟨A ++ ((C ++ D) ++ B), ?_, fun x => ?_⟩
  · rw [h2, h4]; exact perm_mid _ _ _ _ _
  · rw [h1, h3]; exact perm_mid _ _ _ _ _
/-- A row is put somewhere. -/
theorem W_room {hs : Hs} {j : Nat} (hj : j < hs.length) (row : ByteArray) : (W (hs.set j ((hs[j]'hj).1, roomL (hs[j]'hj).2 row))).Perm (((hs[j]'hj).1 * 64 + freeAt (hs[j]'hj).2, ⟨1, row⟩) :: W hs) := by
  unfold roomL
  by_cases h : freeAt (hs[j]'hj).2 < (hs[j]'hj).2.length
  · rw [if_pos h]
    obtain ⟨Z, h1, h2⟩ := W_becomes hj h
    have h0 : ((hs[j]'hj).2[freeAt (hs[j]'hj).2]'h).st = 0 := by
      have := List.findIdx_getElem (p := fun x : Slot => x.st == 0) (xs := (hs[j]'hj).2) (w := h)
      exact eq_of_beq this
    unfold one at h1
    rw [if_pos h0, List.nil_append] at h1
    exact (h2 _).trans (List.Perm.cons _ h1.symm)
  · rw [if_neg h]
    obtain ⟨A, B, h1, h2⟩ := W_set hs j hj
    have e : freeAt (hs[j]'hj).2 = (hs[j]'hj).2.length := by have := freeAt_le (hs[j]'hj).2; omega
    rw [h1, h2, cellsP_app, e, Nat.zero_add]
    have := perm_mid A B (cellsP (hs[j]'hj).1 0 (hs[j]'hj).2) [] [((hs[j]'hj).1 * 64 + (hs[j]'hj).2.length, (⟨1, row⟩ : Slot))]
    rw [List.append_nil, List.append_nil] at this
    exact this
/-- Whatever an insertion does. -/
theorem InsR.wp {st st' : SSt} {root : Nat} {hs hs' : Hs} {row : ByteArray} {tid : Nat} (hI : HInv st root hs) (hI' : HInv st' root hs') (h : InsR st root hs row tid st' hs') : (W hs').Perm ((tid, ⟨1, row⟩) :: W hs) ∧ (∀ x, (tid, x) ∉ W hs) ∧ 64 ≤ tid ∧ tid < 64 * (st'.T + 1) := by
  have hp : (W hs').Perm ((tid, ⟨1, row⟩) :: W hs) := by
    rcases h with ⟨j, hj, _, rfl, rfl, _⟩ | ⟨k, st1, rfl, rfl, _⟩
    · exact W_room hj row
    · exact List.Perm.refl _
  have hm : (tid, (⟨1, row⟩ : Slot)) ∈ W hs' := hp.mem_iff.2 (List.mem_cons_self ..)
  have hb := W_bd hI' hm
  refine ⟨hp, fun x hx => ?_, hb.1, hb.2.1⟩
  rcases h with ⟨j, hj, hf, rfl, rfl, _⟩ | ⟨k, st1, rfl, rfl, ha, _⟩
  · obtain ⟨j', k', hj', hk', h1, h2⟩ := mem_W.1 hx
    have h64 := hI.at64 hj'
    have hfa := hf.1
    have e1 : (hs[j]'hj).1 * 64 + freeAt (hs[j]'hj).2 = (hs[j']'hj').1 * 64 + k' := congrArg Prod.fst h1
    have e2 : (hs[j]'hj).1 = (hs[j']'hj').1 := by omega
    have e3 : j = j' := by
      by_cases h : j = j'
      · exact h
      · exact absurd e2 (hI.ne hj hj' h)
    subst e3
    have e4 : k' = freeAt (hs[j]'hj).2 := by omega
    subst e4
    have := List.findIdx_getElem (p := fun x : Slot => x.st == 0) (xs := (hs[j]'hj).2) (w := hk')
    exact h2 (eq_of_beq this)
  · obtain ⟨j', k', hj', hk', h1, h2⟩ := mem_W.1 hx
    have h64 := hI.at64 hj'
    have e1 : k * 64 = (hs[j']'hj').1 * 64 + k' := congrArg Prod.fst h1
    have e2 : k = (hs[j']'hj').1 := by omega
    have hnd := hI'.nd
    rw [List.map_cons, List.nodup_cons] at hnd
    exact hnd.1 (List.mem_map.2 ⟨_, List.getElem_mem hj', e2.symm⟩)
end Go.Proofs.YtkfkcloefgfkaaaGreat

/- Heap: what the calls tell, in terms of the rows. -/
namespace Go.Dk
open Go Go.RowKit Go.Own
theorem results_tmp4 {fn : Func} {t u v y : Tmp} (h : fn.results = #[.tmp t, .tmp u, .tmp v, .tmp y]) (tmps : Array Value) (P : Program) (w : World) :
    (results fn tmps).run P w = .ok (.tuple #[tmps.getD t undef, tmps.getD u undef, tmps.getD v undef, tmps.getD y undef]) w := by
  simp [results, h]
end Go.Dk
namespace Go.Proofs.YtkfkcloefgfkaaaGreat
open Go Go.RowKit Go.Own Go.Dk

def InsOk (E : World) (s d a N h root : Nat) (st0 st : SSt) (hs : Hs) (row : ByteArray) (R : Fr) (e : Ending) (w' : World) : Prop :=
  ∃ (tid : Nat) (st' : SSt) (hs' : Hs) (A' : Fr), e = .returned (.tuple #[.int .i64 tid, .int .i64 0]) ∧ InsR st root hs row tid st' hs' ∧ HInv st' root hs' ∧ st'.T ≤ st.T + 1 ∧ Going s d a N st0 st' A' ∧ Own E w' (heapF h a root ++ (A' ++ R))
theorem InsR.T {st st' : SSt} {root : Nat} {hs hs' : Hs} {row : ByteArray} {tid : Nat} (h : InsR st root hs row tid st' hs') : st'.T ≤ st.T + 1 := by
  rcases h with ⟨j, hj, _, _, _, h, _⟩ | ⟨k, st1, _, _, ha, h, _⟩
  · omega
  · have := ha.1
    rcases this with ⟨_, h'⟩ | ⟨_, _, h', _⟩ <;> omega
theorem HInsP.ok {E : World} {s d a N h root : Nat} {st0 st : SSt} {hs : Hs} {row : ByteArray} {R : Fr} {e : Ending} {w' : World} (he : HInsP E s d a N h root st0 st hs row R e w') (h1 : 0 < row.size) (h2 : row.size ≤ 400) (hT : st.T < 4095) : InsOk E s d a N h root st0 st hs row R e w' := by
  rcases he with ⟨h, _⟩ | ⟨_, tid, st', hs', A', h3, h4, h5, h6, h7⟩ | ⟨_, _, h, _⟩
  · omega
  · exact ⟨tid, st', hs', A', h5, h3, h4, h3.T, h6, h7⟩
  · omega
theorem HInsP.no {E : World} {s d a N h root : Nat} {st0 st : SSt} {hs : Hs} {row : ByteArray} {R : Fr} {e : Ending} {w' : World} (he : HInsP E s d a N h root st0 st hs row R e w') (h1 : row.size = 0 ∨ 400 < row.size) : e = .returned (.tuple #[.int .i64 0, .int .i64 70]) ∧ ∃ A', Going s d a N st0 st A' ∧ Own E w' (heapF h a root ++ (A' ++ R)) := by
  rcases he with ⟨_, h⟩ | ⟨h, _⟩ | ⟨h, _⟩
  · exact h
  · omega
  · omega
theorem HGetP.ok {E : World} {s d a N h root : Nat} {st0 st : SSt} {hs : Hs} {R : Fr} {e : Ending} {w' : World} {t : Nat} {x : Slot} (he : HGetP E s d a N h root st0 st hs t R e w') (hI : HInv st root hs) (hx : (t, x) ∈ W hs) : e = .returned (.tuple #[.string x.row, .bool ((x.st : Int) == 1), .int .i64 0]) ∧ ∃ A', Going s d a N st0 st A' ∧ Own E w' (heapF h a root ++ (A' ++ R)) := by
  obtain ⟨A', hA, hO, ⟨j, k, hj, hk, h1, rfl⟩ | ⟨h1, _⟩⟩ := he
  · obtain ⟨t', h2, h3⟩ := h1.mem hj hk
    obtain rfl : t = t' := by omega
    rw [W_uniq hI hx h3]
    exact ⟨rfl, A', hA, hO⟩
  · obtain ⟨j, k, _, _, h2, _⟩ := Holds.of hI hx
    exact absurd h2 (h1 j k)
theorem HGetP.no {E : World} {s d a N h root : Nat} {st0 st : SSt} {hs : Hs} {R : Fr} {e : Ending} {w' : World} {tid : Int} (he : HGetP E s d a N h root st0 st hs tid R e w') (hx : ∀ (t : Nat) x, tid = t → (t, x) ∉ W hs) : e = .returned (.tuple #[.string .empty, .bool false, .int .i64 3]) ∧ ∃ A', Going s d a N st0 st A' ∧ Own E w' (heapF h a root ++ (A' ++ R)) := by
  obtain ⟨A', hA, hO, ⟨j, k, hj, hk, h1, rfl⟩ | ⟨h1, rfl⟩⟩ := he
  · obtain ⟨t', h2, h3⟩ := h1.mem hj hk
    exact absurd h3 (hx t' _ h2)
  · exact ⟨rfl, A', hA, hO⟩
def BecOk (E : World) (s d a N h root : Nat) (st0 st : SSt) (hs : Hs) (t : Nat) (x : Slot) (to : Nat) (R : Fr) (e : Ending) (w' : World) : Prop :=
  ∃ (st' : SSt) (hs' : Hs) (A' : Fr), e = .returned (.int .i64 0) ∧ HInv st' root hs' ∧ st'.T = st.T ∧ st'.c = st.c ∧ st'.rt = st.rt ∧ hs'.map (·.1) = hs.map (·.1) ∧ (∃ Z, (W hs).Perm ((t, x) :: Z) ∧ (W hs').Perm (one t (becS x to) ++ Z)) ∧ Going s d a N st0 st' A' ∧ Own E w' (heapF h a root ++ (A' ++ R))
theorem HBecP.ok {E : World} {s d a N h root : Nat} {st0 st : SSt} {hs : Hs} {R : Fr} {e : Ending} {w' : World} {t : Nat} {x : Slot} {fr to : Nat} (he : HBecP E s d a N h root st0 st hs t fr to R e w') (hI : HInv st root hs) (hx : (t, x) ∈ W hs) (hf : x.st = fr) (hf0 : fr ≠ 0) : BecOk E s d a N h root st0 st hs t x to R e w' := by
  obtain ⟨j0, k0, hj0, hk0, h2, h3⟩ := Holds.of hI hx
  rcases he with ⟨j, k, hj, hk, A', h1, h4, rfl, h5, h6, h7⟩ | ⟨h1, _⟩
  · obtain ⟨rfl, rfl⟩ := Holds.uniq hI h1 h2
    refine ⟨_, _, A', rfl, h5, rfl, rfl, rfl, pages_set hs j _ fun _ => rfl, ?_, h6, h7⟩
    obtain ⟨Z, z1, z2⟩ := W_becomes hj hk
    obtain ⟨_, _, _, ht, _⟩ := h1
    have et : t = (hs[j]'hj).1 * 64 + k := by omega
    refine ⟨Z, ?_, ?_⟩
    · rw [et, ← h3]
      unfold one at z1
      rw [if_neg (by omega)] at z1
      exact z1
    · rw [et, ← h3]
      exact z2 _
  · exact absurd (by rw [h3]; exact hf) (h1 j0 k0 hj0 hk0 h2)
theorem HBecP.no {E : World} {s d a N h root : Nat} {st0 st : SSt} {hs : Hs} {R : Fr} {e : Ending} {w' : World} {tid : Int} {fr to : Nat} (he : HBecP E s d a N h root st0 st hs tid fr to R e w') (hx : ∀ (t : Nat) x, tid = t → (t, x) ∈ W hs → x.st ≠ fr) : e = .returned (.int .i64 3) ∧ ∃ A', Going s d a N st0 st A' ∧ Own E w' (heapF h a root ++ (A' ++ R)) := by
  rcases he with ⟨j, k, hj, hk, A', h1, h4, _⟩ | ⟨_, h⟩
  · obtain ⟨t', h2, h3⟩ := h1.mem hj hk
    exact absurd h4 (hx t' _ h2 h3)
  · exact h
end Go.Proofs.YtkfkcloefgfkaaaGreat

/- The document's heap: rows in a list. -/
namespace Go.Proofs.YtkfkcloefgfkaaaGreat
open Go Go.RowKit Go.Own Go.Dk

structure Rw where
  tid : Int
  row : ByteArray
  lives : Bool
def rwV (x : Rw) : List Value := [.int .i64 x.tid, .string x.row, .bool x.lives]
def rwsV (l : List Rw) : List Value := l.flatMap rwV
theorem rwsV_length (l : List Rw) : (rwsV l).length = l.length * 3 := by
  induction l with
  | nil => rfl
  | cons x l ih => rw [rwsV, List.flatMap_cons, List.length_append, List.length_cons]; show 3 + (rwsV l).length = _; omega
theorem rwsV_app (a b : List Rw) : rwsV (a ++ b) = rwsV a ++ rwsV b := by simp [rwsV]
theorem rwsV_at (l : List Rw) : ∀ (j : Nat) (hj : j < l.length) (i : Nat), i < 3 → (rwsV l)[j * 3 + i]? = (rwV (l[j]'hj))[i]? := by
  induction l with
  | nil => intro j hj; exact absurd hj (Nat.not_lt_zero j)
  | cons x l ih =>
    intro j hj i hi
    show (rwV x ++ rwsV l)[j * 3 + i]? = _
    cases j with
    | zero => rw [Nat.zero_mul, Nat.zero_add, List.getElem?_append_left (show i < (rwV x).length from hi)]; rfl
    | succ j =>
      have e : (j + 1) * 3 + i = (rwV x).length + (j * 3 + i) := by show _ = 3 + _; omega
      rw [e, List.getElem?_append_right (Nat.le_add_right _ _), Nat.add_sub_cancel_left]
      exact ih j (Nat.lt_of_succ_lt_succ hj) i hi
theorem rw_cells {E w : World} {X R S : Fr} {sb n cap : Nat} {l : List Rw} (hS : Sl 90 3 (some ⟨sb, 0, none⟩) n cap (rwsV l) S) (hO : Own E w X) [hp : Pick X S R] {j : Nat} (hj : j < l.length) :
    w.cell? ⟨sb, j * 3, none⟩ = some (.int .i64 (l[j]'hj).tid) ∧ w.cell? ⟨sb, j * 3 + 1, none⟩ = some (.string (l[j]'hj).row) ∧ w.cell? ⟨sb, j * 3 + 2, none⟩ = some (.bool (l[j]'hj).lives) := by
  have key : ∀ i, i < 3 → w.cell? ⟨sb, j * 3 + i, none⟩ = (rwV (l[j]'hj))[i]? := fun i hi => by
    have hlt : j * 3 + i < (rwsV l).length := by rw [rwsV_length]; omega
    have := hS.cell hO ⟨sb, 0, none⟩ rfl (j * 3 + i) hlt
    rw [add_lit, Nat.zero_add] at this
    rw [this, ← List.getElem?_eq_getElem hlt, rwsV_at l j hj i hi]
  exact ⟨key 0 (by decide), key 1 (by decide), key 2 (by decide)⟩
def FindP (l : List Rw) (tid : Int) (k : Int) : Prop := (k = -1 ∧ ∀ x ∈ l, x.tid ≠ tid) ∨ (∃ (i : Nat) (hi : i < l.length), k = i ∧ (l[i]'hi).tid = tid)
set_option maxRecDepth 100000 in
set_option maxHeartbeats 16000000 in
theorem find7 (E w : World) (X R S : Fr) (sa : Option Addr) (cap : Nat) (l : List Rw) (tid : Int) (hl : l.length ≤ 100000) (hS : Sl 90 3 sa l.length cap (rwsV l) S) (hO : Own E w X) [hp : Pick X S R] :
    Calls Tryz.prog 46 #[.slice sa l.length cap, .int .i64 tid] w fun e w' => (∃ k, FindP l tid k ∧ e = .returned (.int .i64 k)) ∧ w = w' := by
  replace hO := hO.perm hp.perm
  clear hp
  go_enter Tryz.func46, Tryz.ntmps46
  go_wp2_with fail
  go_loopw [5] (fun i wr => ∃ k : Nat, i = .int .i64 k ∧ k ≤ l.length ∧ (∀ (j : Nat) (hj : j < l.length), j < k → (l[j]'hj).tid ≠ tid) ∧ w = wr) (fun i _ => l.length - (intOf i).toNat)
  case atStart => exact ⟨0, rfl, Nat.zero_le _, fun j _ h => absurd h (Nat.not_lt_zero j), rfl⟩
  case round =>
    obtain ⟨k, rfl, hk, hb, rfl⟩ := hrel
    have HB := Lib.hid hb
    clear hb
    by_cases hlt : k < l.length
    · have h1 : (k : Int) < l.length := by omega
      have h2 : (0 : Int) ≤ k := by omega
      obtain ⟨sb, rfl⟩ := sl_some4 hS (by omega)
      obtain ⟨hc, -, -⟩ := rw_cells hS hO hlt
      obtain ⟨t, ht⟩ : ∃ t, (l[k]'hlt).tid = t := ⟨_, rfl⟩
      rw [ht] at hc
      have HT := Lib.hid ht
      have HL := Lib.hid hlt
      clear ht
      by_cases he : t = tid
      · have h3 : (t == tid) = true := beq_iff_eq.2 he
        have HE := Lib.hid he
        clear he
        go_wp2_with fail
        go_ret
        exact ⟨⟨k, .inr ⟨k, HL.out, rfl, HT.out.trans HE.out⟩, rfl⟩, rfl⟩
      · have h3 : (t == tid) = false := beq_eq_false_iff_ne.2 he
        have HE := Lib.hid he
        clear he
        go_wp2_with fail

        go_roundw
        case rel =>
          refine ⟨k + 1, by go_num, by omega, fun j hj hjk => ?_, trivial⟩
          by_cases hjk2 : j = k
          · subst hjk2
            rw [HT.out]; exact HE.out
          · exact HB.out j hj (by omega)
        case measure => simp [intOf]; omega
    · have h1 : ¬ (k : Int) < l.length := by omega
      have hkk : k = l.length := by omega
      have HK := Lib.hid hkk
      clear hkk hlt
      go_wp2_with fail
      go_ret
      refine ⟨⟨-1, .inl ⟨rfl, fun x hx => ?_⟩, rfl⟩, rfl⟩
      obtain ⟨j, hj, rfl⟩ := List.mem_iff_getElem.1 hx
      exact HB.out j hj (by rw [HK.out]; exact hj)
end Go.Proofs.YtkfkcloefgfkaaaGreat

/- The document's heap: pick, without, tids, ints. -/
namespace Go.Proofs.YtkfkcloefgfkaaaGreat
open Go Go.RowKit Go.Own Go.Dk

theorem sltRows7 : SlT Tryz.prog 33 90 3 32 (.agg #[.int .i64 0, .string .empty, .bool false]) := ⟨by kernel_rfl, by kernel_rfl, rfl⟩
def pickR (l : List Rw) (n : Int) : Int := if h : 0 ≤ n ∧ n < l.length then (l[n.toNat]'(by omega)).tid else n
set_option maxRecDepth 100000 in
set_option maxHeartbeats 16000000 in
theorem pick7 (E w : World) (X R S : Fr) (sa : Option Addr) (cap : Nat) (l : List Rw) (n : Int) (hS : Sl 90 3 sa l.length cap (rwsV l) S) (hO : Own E w X) [hp : Pick X S R] :
    Calls Tryz.prog 45 #[.slice sa l.length cap, .int .i64 n] w fun e w' => e = .returned (.int .i64 (pickR l n)) ∧ w = w' := by
  replace hO := hO.perm hp.perm
  clear hp
  generalize hz : pickR l n = z
  unfold pickR at hz
  by_cases h1 : 0 ≤ n
  · by_cases h2 : n < l.length
    · rw [dif_pos ⟨h1, h2⟩] at hz
      obtain ⟨k, rfl⟩ : ∃ k : Nat, n = k := ⟨n.toNat, by omega⟩
      obtain ⟨sb, rfl⟩ := sl_some4 hS (by omega)
      obtain ⟨hc, -, -⟩ := rw_cells hS hO (show k < l.length by omega)
      rw [show (l[k]'(by omega)).tid = z from hz] at hc
      clear hz
      go_enter Tryz.func45, Tryz.ntmps45
      go_wp2_with fail
      go_ret
      exact ⟨rfl, rfl⟩
    · rw [dif_neg fun h => h2 h.2] at hz
      subst hz
      go_enter Tryz.func45, Tryz.ntmps45
      go_wp2_with fail
      go_ret
      exact ⟨rfl, rfl⟩
  · rw [dif_neg fun h => h1 h.1] at hz
    subst hz
    go_enter Tryz.func45, Tryz.ntmps45
    go_wp2_with fail
    go_ret
    exact ⟨rfl, rfl⟩
end Go.Proofs.YtkfkcloefgfkaaaGreat

/- The document's heap: without. -/
namespace Go.Proofs.YtkfkcloefgfkaaaGreat
open Go Go.RowKit Go.Own Go.Dk

theorem rw_at {E w : World} {X R S : Fr} {sb n cap : Nat} {l : List Rw} (hS : Sl 90 3 (some ⟨sb, 0, none⟩) n cap (rwsV l) S) (hO : Own E w X) [hp : Pick X S R] {j : Nat} (hj : j < l.length) :
    ∀ i v, (rwV (l[j]'hj))[i]? = some v → w.cell? ((⟨sb, j * 3, none⟩ : Addr).add i) = some v := by
  intro i v hi
  have hil : i < 3 := (List.getElem?_eq_some_iff.1 hi).1
  have hlt : j * 3 + i < (rwsV l).length := by rw [rwsV_length]; omega
  have := hS.cell hO ⟨sb, 0, none⟩ rfl (j * 3 + i) hlt
  rw [add_lit, Nat.zero_add] at this
  rw [add_lit, this, ← List.getElem?_eq_getElem hlt, rwsV_at l j hj i hil, hi]
def woR (l : List Rw) (tid : Int) : List Rw := l.filter fun x => x.tid != tid
theorem woR_succ (l : List Rw) (tid : Int) (j : Nat) (hj : j < l.length) : woR (l.take (j + 1)) tid = woR (l.take j) tid ++ (if (l[j]'hj).tid != tid then [l[j]'hj] else []) := by
  unfold woR
  rw [List.take_succ_eq_append_getElem hj, List.filter_append]
  congr 1
  rw [List.filter_cons, List.filter_nil]
theorem woR_le (l : List Rw) (tid : Int) : (woR l tid).length ≤ l.length := List.length_filter_le _ _
set_option maxRecDepth 100000 in
set_option maxHeartbeats 16000000 in
theorem without7 (E w : World) (X R S : Fr) (sa : Option Addr) (cap : Nat) (l : List Rw) (tid : Int) (hl : l.length ≤ 100000) (hS : Sl 90 3 sa l.length cap (rwsV l) S) (hO : Own E w X) [hp : Pick X S R] :
    Calls Tryz.prog 48 #[.slice sa l.length cap, .int .i64 tid] w fun e w' => ∃ so co SO, e = .returned (.slice so (woR l tid).length co) ∧ Sl 90 3 so (woR l tid).length co (rwsV (woR l tid)) SO ∧ Own E w' (SO ++ (S ++ R)) := by
  replace hO := hO.perm hp.perm
  clear hp
  go_enter Tryz.func48, Tryz.ntmps48
  go_wp2_with fail
  have hO1 := hO
  clear hO
  go_loopw [5, 6] (fun o i wr => ∃ (k : Nat) (so : Option Addr) (co : Nat) (SO : Fr), i = .int .i64 k ∧ k ≤ l.length ∧ o = .slice so (woR (l.take k) tid).length co ∧ Sl 90 3 so (woR (l.take k) tid).length co (rwsV (woR (l.take k) tid)) SO ∧ Own E wr (SO ++ (S ++ R))) (fun _ i _ => l.length - (intOf i).toNat)
  case atStart => exact ⟨0, none, 0, [], rfl, Nat.zero_le _, rfl, Sl.nil _ _, hO1⟩
  case round =>
    clear hO1
    obtain ⟨k, so, co, SO, rfl, hk, rfl, hSO, hO⟩ := hrel
    by_cases hlt : k < l.length
    · have h1 : (k : Int) < l.length := by omega
      have h2 : (0 : Int) ≤ k := by omega
      obtain ⟨sb, rfl⟩ := sl_some4 hS (by omega)
      have hsc := rw_at hS hO hlt
      obtain ⟨hc, -, -⟩ := rw_cells hS hO hlt
      have hsu := woR_succ l tid k hlt
      have hle : (woR (l.take k) tid).length ≤ 100000 := by
        have := woR_le (l.take k) tid
        rw [List.length_take] at this
        omega
      obtain ⟨x, hx⟩ : ∃ x, l[k]'hlt = x := ⟨_, rfl⟩
      rw [hx] at hsc hc hsu
      obtain ⟨t, r, b⟩ := x
      have HSC := Lib.hid hsc
      have HSU := Lib.hid hsu
      have HL := Lib.hid hlt
      clear hsc hsu hx hk
      obtain ⟨q, hq⟩ : ∃ q, woR (l.take k) tid = q := ⟨_, rfl⟩
      rw [hq] at hSO hle HSU ⊢
      clear hq
      by_cases he : t = tid
      · have h3 : (t == tid) = true := beq_iff_eq.2 he
        have h4 : (t != tid) = false := by rw [bne, h3]; rfl
        have HE := Lib.hid h4
        clear he
        go_wp2_with fail
        go_roundw
        case rel =>
          have e := HSU.out
          rw [HE.out, if_neg (by decide), List.append_nil] at e
          refine ⟨k + 1, so, co, SO, by go_num, by omega, by rw [e], ?_, hO⟩
          rw [e]; exact hSO
        case measure => simp [intOf]; omega
      · have h3 : (t == tid) = false := beq_eq_false_iff_ne.2 he
        have h4 : (t != tid) = true := by rw [bne, h3]; rfl
        have HE := Lib.hid h4
        clear he
        go_wp2_with (first | (refine at_load (t := 90) ?_; go_must (refine own_loadC (ad := ⟨sb, k * 3, none⟩) (cs := [.int .i64 t, .string r, .bool b]) ?_ HSC.out ?_ ?_ ?_ ?_; (· rfl); (· ((conv => lhs; whnf); try exact rfl)); (· simp; done); (· simp; done); simp only [Act.put, List.setIfInBounds_toArray, List.set_cons_zero, List.set_cons_succ])) | (refine at_bs ?_; go_must (refine own_build1 (v := ?_) sltRows7 hO ?_ ?_ ?_ ?_ ?_ ?_; rotate_left; (· rfl); (· ((conv => lhs; whnf); try exact rfl)); (· rfl); (· decide); (· decide); clear hO; (try clear hF); intro bs _ hO; (try simp only [Value.cells] at hO); ((try simp only [List.nil_append, List.append_nil] at hO); have hF := Own.cells hO; simp only [cellsOf_append, cellsOf_pt] at hF); simp only [Act.put, List.setIfInBounds_toArray, List.set_cons_zero, List.set_cons_succ])) | (refine at_append ?_; go_must (refine own_append_elem (b1 := ?_) (cs := ?_) (e1 := ?_) (f1 := ?_) sltRows7 hO ?_ ?_ ?_ hSO ?_ ?_ ?_ ?_ ?_ ?_ ?_; rotate_left 4; (· rfl); (· rfl); (· rfl); (· exact inferInstance); (· rfl); (· intro u hu; simp at hu; rcases hu with rfl | rfl | rfl <;> rfl); (· first | omega | (simp only [maxLen]; omega)); (· decide); (· first | omega | (simp only [maxLen]; omega)); clear hO; (try clear hF); intro so3 co3 SO3 w4 hS3 hO; ((try simp only [List.nil_append, List.append_nil] at hO); have hF := Own.cells hO; simp only [cellsOf_append, cellsOf_pt] at hF); simp only [Act.put, List.setIfInBounds_toArray, List.set_cons_zero, List.set_cons_succ])))
        go_roundw
        case rel =>
          have e := HSU.out
          rw [HE.out, if_pos rfl] at e
          refine ⟨k + 1, so3, co3, SO3, by go_num, by omega, ?_, ?_, hO.as _⟩
          · rw [e, List.length_append]; rfl
          · rw [e, rwsV_app, List.length_append]; exact hS3
        case measure => simp [intOf]; omega
    · have h1 : ¬ (l.length : Int) < l.length := by omega
      obtain rfl : k = l.length := by omega
      rw [List.take_length] at hSO ⊢
      go_wp2_with fail
      go_ret
      exact ⟨so, co, rfl, SO, hSO, hO⟩
end Go.Proofs.YtkfkcloefgfkaaaGreat

/- The document's heap: tids, ints. -/
namespace Go.Proofs.YtkfkcloefgfkaaaGreat
open Go Go.RowKit Go.Own Go.Dk

theorem int_cell {E w : World} {X R S : Fr} {sb n cap : Nat} {l : List Int} (hS : Sl 3 1 (some ⟨sb, 0, none⟩) n cap (l.map (Value.int .i64)) S) (hO : Own E w X) [hp : Pick X S R] {j : Nat} (hj : j < l.length) : w.cell? ⟨sb, j, none⟩ = some (.int .i64 (l[j]'hj)) := by
  have hlt : j < (l.map (Value.int .i64)).length := by rw [List.length_map]; exact hj
  have := hS.cell hO ⟨sb, 0, none⟩ rfl j hlt
  rw [add_lit, Nat.zero_add, List.getElem_map] at this
  exact this
set_option maxRecDepth 100000 in
set_option maxHeartbeats 16000000 in
theorem ints7 (E w : World) (X R SA SB : Fr) (sa sb : Option Addr) (ca cb : Nat) (l : List Int) (hl : l.length ≤ 1000000) (hA : Sl 3 1 sa l.length ca (l.map (Value.int .i64)) SA) (hB : Sl 3 1 sb l.length cb (l.map (Value.int .i64)) SB) (hO : Own E w X) [hp : Pick X (SA ++ SB) R] :
    Calls Tryz.prog 63 #[.slice sa l.length ca, .slice sb l.length cb] w fun e w' => e = .returned (.bool true) ∧ Own E w' (SA ++ (SB ++ R)) := by
  replace hO : Own E w (SA ++ (SB ++ R)) := by have := hO.perm hp.perm; rwa [List.append_assoc] at this
  clear hp
  have hnn : ((l.length : Int) != l.length) = false := by rw [bne_self_eq_false]
  go_enter Tryz.func63, Tryz.ntmps63
  go_wp2_with fail
  clear hnn
  have hO1 := hO
  clear hO
  go_loopw [5] (fun i wr => ∃ k : Nat, i = .int .i64 k ∧ k ≤ l.length ∧ Own E wr (SA ++ (SB ++ R))) (fun i _ => l.length - (intOf i).toNat)
  case atStart => exact ⟨0, rfl, Nat.zero_le _, hO1⟩
  case round =>
    clear hO1
    obtain ⟨k, rfl, hk, hO⟩ := hrel
    by_cases hlt : k < l.length
    · have h1 : (k : Int) < l.length := by omega
      have h2 : (0 : Int) ≤ k := by omega
      obtain ⟨ba, rfl⟩ := sl_some4 hA (by omega)
      obtain ⟨bb, rfl⟩ := sl_some4 hB (by omega)
      obtain ⟨v, hv⟩ : ∃ v, l[k]'hlt = v := ⟨_, rfl⟩
      have hc1 : ∀ w', Own E w' (SA ++ SB) → w'.cell? ⟨ba, k, none⟩ = some (.int .i64 v) := fun w' h => hv ▸ int_cell hA h hlt
      have hc2 : ∀ w', Own E w' (SA ++ SB) → w'.cell? ⟨bb, k, none⟩ = some (.int .i64 v) := fun w' h => hv ▸ int_cell hB h hlt
      have C1 := Lib.hid hc1
      have C2 := Lib.hid hc2
      have hvv : (v != v) = false := bne_self_eq_false v
      have HL := Lib.hid hlt
      clear hv hc1 hc2
      go_wp2_with fail
      (try (go_wp2_with fail))
      refine region_sch (fun w' => Own E w' (SA ++ SB)) (.look 0 (.look 1 (.look 2 (.look 3 (.look 4 (.look 5 (.look 6 (.look 7 (.look 8 .done))))))))) (by kernel_rfl) (by kernel_rfl) (fun _ _ d _ _ h => by cases d <;> exact h) ?_ ?_
      · exact hO.drew.as _
      replace hO := hO.drew
      generalize World.drew _ = wdr at hO ⊢
      first | (refine sch_look (o := ?_) (v := ?_) ?_ ?_ ?_ ?_; rotate_left 2; (· ((conv => lhs; whnf); try exact rfl)); (· rfl); (· intro w' hO'; have c1 := C1.out w' hO'; have c2 := C2.out w' hO'; go_simp; (try exact rfl)); simp only [Act.put, List.setIfInBounds_toArray, List.set_cons_zero, List.set_cons_succ]) | (refine sch_pass (o := ?_) ?_ ?_ ?_; rotate_left; (· ((conv => lhs; whnf); try exact rfl)); (· rfl); simp only [Act.put, List.setIfInBounds_toArray, List.set_cons_zero, List.set_cons_succ]) | (refine sch_look (o := ?_) (v := .agg ?_) ?_ ?_ ?_ ?_; rotate_left 2; (· ((conv => lhs; whnf); try exact rfl)); (· rfl); (· intro w' hO'; refine run_opLoadS (b := ?_) (cs := ?_) (e := ?_) (f := ?_) hO' ?_ ?_ ?_ ?_; rotate_left 4; (· exact rfl); (· exact inferInstance); (· simp; done); (· simp; done)); simp only [Act.put, List.setIfInBounds_toArray, List.set_cons_zero, List.set_cons_succ])
      first | (refine sch_look (o := ?_) (v := ?_) ?_ ?_ ?_ ?_; rotate_left 2; (· ((conv => lhs; whnf); try exact rfl)); (· rfl); (· intro w' hO'; have c1 := C1.out w' hO'; have c2 := C2.out w' hO'; go_simp; (try exact rfl)); simp only [Act.put, List.setIfInBounds_toArray, List.set_cons_zero, List.set_cons_succ]) | (refine sch_pass (o := ?_) ?_ ?_ ?_; rotate_left; (· ((conv => lhs; whnf); try exact rfl)); (· rfl); simp only [Act.put, List.setIfInBounds_toArray, List.set_cons_zero, List.set_cons_succ]) | (refine sch_look (o := ?_) (v := .agg ?_) ?_ ?_ ?_ ?_; rotate_left 2; (· ((conv => lhs; whnf); try exact rfl)); (· rfl); (· intro w' hO'; refine run_opLoadS (b := ?_) (cs := ?_) (e := ?_) (f := ?_) hO' ?_ ?_ ?_ ?_; rotate_left 4; (· exact rfl); (· exact inferInstance); (· simp; done); (· simp; done)); simp only [Act.put, List.setIfInBounds_toArray, List.set_cons_zero, List.set_cons_succ])
      first | (refine sch_look (o := ?_) (v := ?_) ?_ ?_ ?_ ?_; rotate_left 2; (· ((conv => lhs; whnf); try exact rfl)); (· rfl); (· intro w' hO'; have c1 := C1.out w' hO'; have c2 := C2.out w' hO'; go_simp; (try exact rfl)); simp only [Act.put, List.setIfInBounds_toArray, List.set_cons_zero, List.set_cons_succ]) | (refine sch_pass (o := ?_) ?_ ?_ ?_; rotate_left; (· ((conv => lhs; whnf); try exact rfl)); (· rfl); simp only [Act.put, List.setIfInBounds_toArray, List.set_cons_zero, List.set_cons_succ]) | (refine sch_look (o := ?_) (v := .agg ?_) ?_ ?_ ?_ ?_; rotate_left 2; (· ((conv => lhs; whnf); try exact rfl)); (· rfl); (· intro w' hO'; refine run_opLoadS (b := ?_) (cs := ?_) (e := ?_) (f := ?_) hO' ?_ ?_ ?_ ?_; rotate_left 4; (· exact rfl); (· exact inferInstance); (· simp; done); (· simp; done)); simp only [Act.put, List.setIfInBounds_toArray, List.set_cons_zero, List.set_cons_succ])
      first | (refine sch_look (o := ?_) (v := ?_) ?_ ?_ ?_ ?_; rotate_left 2; (· ((conv => lhs; whnf); try exact rfl)); (· rfl); (· intro w' hO'; have c1 := C1.out w' hO'; have c2 := C2.out w' hO'; go_simp; (try exact rfl)); simp only [Act.put, List.setIfInBounds_toArray, List.set_cons_zero, List.set_cons_succ]) | (refine sch_pass (o := ?_) ?_ ?_ ?_; rotate_left; (· ((conv => lhs; whnf); try exact rfl)); (· rfl); simp only [Act.put, List.setIfInBounds_toArray, List.set_cons_zero, List.set_cons_succ]) | (refine sch_look (o := ?_) (v := .agg ?_) ?_ ?_ ?_ ?_; rotate_left 2; (· ((conv => lhs; whnf); try exact rfl)); (· rfl); (· intro w' hO'; refine run_opLoadS (b := ?_) (cs := ?_) (e := ?_) (f := ?_) hO' ?_ ?_ ?_ ?_; rotate_left 4; (· exact rfl); (· exact inferInstance); (· simp; done); (· simp; done)); simp only [Act.put, List.setIfInBounds_toArray, List.set_cons_zero, List.set_cons_succ])
      first | (refine sch_look (o := ?_) (v := ?_) ?_ ?_ ?_ ?_; rotate_left 2; (· ((conv => lhs; whnf); try exact rfl)); (· rfl); (· intro w' hO'; have c1 := C1.out w' hO'; have c2 := C2.out w' hO'; go_simp; (try exact rfl)); simp only [Act.put, List.setIfInBounds_toArray, List.set_cons_zero, List.set_cons_succ]) | (refine sch_pass (o := ?_) ?_ ?_ ?_; rotate_left; (· ((conv => lhs; whnf); try exact rfl)); (· rfl); simp only [Act.put, List.setIfInBounds_toArray, List.set_cons_zero, List.set_cons_succ]) | (refine sch_look (o := ?_) (v := .agg ?_) ?_ ?_ ?_ ?_; rotate_left 2; (· ((conv => lhs; whnf); try exact rfl)); (· rfl); (· intro w' hO'; refine run_opLoadS (b := ?_) (cs := ?_) (e := ?_) (f := ?_) hO' ?_ ?_ ?_ ?_; rotate_left 4; (· exact rfl); (· exact inferInstance); (· simp; done); (· simp; done)); simp only [Act.put, List.setIfInBounds_toArray, List.set_cons_zero, List.set_cons_succ])
      first | (refine sch_look (o := ?_) (v := ?_) ?_ ?_ ?_ ?_; rotate_left 2; (· ((conv => lhs; whnf); try exact rfl)); (· rfl); (· intro w' hO'; have c1 := C1.out w' hO'; have c2 := C2.out w' hO'; go_simp; (try exact rfl)); simp only [Act.put, List.setIfInBounds_toArray, List.set_cons_zero, List.set_cons_succ]) | (refine sch_pass (o := ?_) ?_ ?_ ?_; rotate_left; (· ((conv => lhs; whnf); try exact rfl)); (· rfl); simp only [Act.put, List.setIfInBounds_toArray, List.set_cons_zero, List.set_cons_succ]) | (refine sch_look (o := ?_) (v := .agg ?_) ?_ ?_ ?_ ?_; rotate_left 2; (· ((conv => lhs; whnf); try exact rfl)); (· rfl); (· intro w' hO'; refine run_opLoadS (b := ?_) (cs := ?_) (e := ?_) (f := ?_) hO' ?_ ?_ ?_ ?_; rotate_left 4; (· exact rfl); (· exact inferInstance); (· simp; done); (· simp; done)); simp only [Act.put, List.setIfInBounds_toArray, List.set_cons_zero, List.set_cons_succ])
      first | (refine sch_look (o := ?_) (v := ?_) ?_ ?_ ?_ ?_; rotate_left 2; (· ((conv => lhs; whnf); try exact rfl)); (· rfl); (· intro w' hO'; have c1 := C1.out w' hO'; have c2 := C2.out w' hO'; go_simp; (try exact rfl)); simp only [Act.put, List.setIfInBounds_toArray, List.set_cons_zero, List.set_cons_succ]) | (refine sch_pass (o := ?_) ?_ ?_ ?_; rotate_left; (· ((conv => lhs; whnf); try exact rfl)); (· rfl); simp only [Act.put, List.setIfInBounds_toArray, List.set_cons_zero, List.set_cons_succ]) | (refine sch_look (o := ?_) (v := .agg ?_) ?_ ?_ ?_ ?_; rotate_left 2; (· ((conv => lhs; whnf); try exact rfl)); (· rfl); (· intro w' hO'; refine run_opLoadS (b := ?_) (cs := ?_) (e := ?_) (f := ?_) hO' ?_ ?_ ?_ ?_; rotate_left 4; (· exact rfl); (· exact inferInstance); (· simp; done); (· simp; done)); simp only [Act.put, List.setIfInBounds_toArray, List.set_cons_zero, List.set_cons_succ])
      first | (refine sch_look (o := ?_) (v := ?_) ?_ ?_ ?_ ?_; rotate_left 2; (· ((conv => lhs; whnf); try exact rfl)); (· rfl); (· intro w' hO'; have c1 := C1.out w' hO'; have c2 := C2.out w' hO'; go_simp; (try exact rfl)); simp only [Act.put, List.setIfInBounds_toArray, List.set_cons_zero, List.set_cons_succ]) | (refine sch_pass (o := ?_) ?_ ?_ ?_; rotate_left; (· ((conv => lhs; whnf); try exact rfl)); (· rfl); simp only [Act.put, List.setIfInBounds_toArray, List.set_cons_zero, List.set_cons_succ]) | (refine sch_look (o := ?_) (v := .agg ?_) ?_ ?_ ?_ ?_; rotate_left 2; (· ((conv => lhs; whnf); try exact rfl)); (· rfl); (· intro w' hO'; refine run_opLoadS (b := ?_) (cs := ?_) (e := ?_) (f := ?_) hO' ?_ ?_ ?_ ?_; rotate_left 4; (· exact rfl); (· exact inferInstance); (· simp; done); (· simp; done)); simp only [Act.put, List.setIfInBounds_toArray, List.set_cons_zero, List.set_cons_succ])
      first | (refine sch_look (o := ?_) (v := ?_) ?_ ?_ ?_ ?_; rotate_left 2; (· ((conv => lhs; whnf); try exact rfl)); (· rfl); (· intro w' hO'; have c1 := C1.out w' hO'; have c2 := C2.out w' hO'; go_simp; (try exact rfl)); simp only [Act.put, List.setIfInBounds_toArray, List.set_cons_zero, List.set_cons_succ]) | (refine sch_pass (o := ?_) ?_ ?_ ?_; rotate_left; (· ((conv => lhs; whnf); try exact rfl)); (· rfl); simp only [Act.put, List.setIfInBounds_toArray, List.set_cons_zero, List.set_cons_succ]) | (refine sch_look (o := ?_) (v := .agg ?_) ?_ ?_ ?_ ?_; rotate_left 2; (· ((conv => lhs; whnf); try exact rfl)); (· rfl); (· intro w' hO'; refine run_opLoadS (b := ?_) (cs := ?_) (e := ?_) (f := ?_) hO' ?_ ?_ ?_ ?_; rotate_left 4; (· exact rfl); (· exact inferInstance); (· simp; done); (· simp; done)); simp only [Act.put, List.setIfInBounds_toArray, List.set_cons_zero, List.set_cons_succ])
      refine sch_done ?_
      go_wp2_with fail
      go_roundw
      case rel => exact ⟨k + 1, by go_num, by have := HL.out; omega, hO.as _⟩
      case measure => have := HL.out; simp [intOf]; omega
    · obtain rfl : k = l.length := by omega
      have h1 : ¬ (l.length : Int) < l.length := by omega
      go_wp2_with fail
      go_ret
      exact ⟨rfl, hO⟩
end Go.Proofs.YtkfkcloefgfkaaaGreat

/- The document's heap: tids. -/
namespace Go.Proofs.YtkfkcloefgfkaaaGreat
open Go Go.RowKit Go.Own Go.Dk

def tidR (l : List Rw) (dead : Bool) : List Int := (l.filter fun x => !dead || !x.lives).map fun x => x.tid
theorem tidR_succ (l : List Rw) (dead : Bool) (j : Nat) (hj : j < l.length) : tidR (l.take (j + 1)) dead = tidR (l.take j) dead ++ (if (!dead || !(l[j]'hj).lives) then [(l[j]'hj).tid] else []) := by
  unfold tidR
  rw [List.take_succ_eq_append_getElem hj, List.filter_append, List.map_append]
  congr 1
  rw [List.filter_cons, List.filter_nil]
  split <;> rfl
theorem tidR_le (l : List Rw) (dead : Bool) : (tidR l dead).length ≤ l.length := by
  unfold tidR
  rw [List.length_map]
  exact List.length_filter_le _ _
set_option maxRecDepth 100000 in
set_option maxHeartbeats 16000000 in
theorem tids7 (E w : World) (X R S : Fr) (sa : Option Addr) (cap : Nat) (l : List Rw) (dead : Bool) (hl : l.length ≤ 100000) (hS : Sl 90 3 sa l.length cap (rwsV l) S) (hO : Own E w X) [hp : Pick X S R] :
    Calls Tryz.prog 64 #[.slice sa l.length cap, .bool dead] w fun e w' => ∃ so co SO, e = .returned (.slice so (tidR l dead).length co) ∧ Sl 3 1 so (tidR l dead).length co ((tidR l dead).map (Value.int .i64)) SO ∧ Own E w' (SO ++ (S ++ R)) := by
  replace hO := hO.perm hp.perm
  clear hp
  go_enter Tryz.func64, Tryz.ntmps64
  go_wp2_with fail
  have hO1 := hO
  clear hO
  go_loopw [5, 6] (fun o i wr => ∃ (k : Nat) (so : Option Addr) (co : Nat) (SO : Fr), i = .int .i64 k ∧ k ≤ l.length ∧ o = .slice so (tidR (l.take k) dead).length co ∧ Sl 3 1 so (tidR (l.take k) dead).length co ((tidR (l.take k) dead).map (Value.int .i64)) SO ∧ Own E wr (SO ++ (S ++ R))) (fun _ i _ => l.length - (intOf i).toNat)
  case atStart => exact ⟨0, none, 0, [], rfl, Nat.zero_le _, rfl, Sl.nil _ _, hO1⟩
  case round =>
    clear hO1
    obtain ⟨k, so, co, SO, rfl, hk, rfl, hSO, hO⟩ := hrel
    by_cases hlt : k < l.length
    · have h1 : (k : Int) < l.length := by omega
      have h2 : (0 : Int) ≤ k := by omega
      obtain ⟨sb, rfl⟩ := sl_some4 hS (by omega)
      obtain ⟨hc0, -, hc2⟩ := rw_cells hS hO hlt
      have hsu := tidR_succ l dead k hlt
      have hle : (tidR (l.take k) dead).length ≤ 100000 := by
        have := tidR_le (l.take k) dead
        rw [List.length_take] at this
        omega
      obtain ⟨x, hx⟩ : ∃ x, l[k]'hlt = x := ⟨_, rfl⟩
      rw [hx] at hc0 hc2 hsu
      obtain ⟨t, r, b⟩ := x
      have HSU := Lib.hid hsu
      have HL := Lib.hid hlt
      clear hsu hx hk
      obtain ⟨q, hq⟩ : ∃ q, tidR (l.take k) dead = q := ⟨_, rfl⟩
      rw [hq] at hSO hle HSU ⊢
      clear hq
      have hcs : (dead = true ∧ b = true) ∨ (dead = false) ∨ (dead = true ∧ b = false) := by cases dead <;> cases b <;> simp
      rcases hcs with ⟨rfl, rfl⟩ | rfl | ⟨rfl, rfl⟩
      · go_wp2_with fail
        go_roundw
        case rel =>
          have e := HSU.out
          simp only [Bool.not_true, Bool.or_self, Bool.false_eq_true, if_false, List.append_nil] at e
          refine ⟨k + 1, so, co, SO, by go_num, by omega, by rw [e], ?_, hO⟩
          rw [e]; exact hSO
        case measure => simp [intOf]; omega
      all_goals (
        go_wp2_with (first | (refine at_bs ?_; go_must (refine own_build1 (v := ?_) sltInts hO ?_ ?_ ?_ ?_ ?_ ?_; rotate_left; (· rfl); (· ((conv => lhs; whnf); try exact rfl)); (· rfl); (· decide); (· decide); clear hO; (try clear hF); intro bs _ hO; (try simp only [Value.cells] at hO); ((try simp only [List.nil_append, List.append_nil] at hO); have hF := Own.cells hO; simp only [cellsOf_append, cellsOf_pt] at hF); simp only [Act.put, List.setIfInBounds_toArray, List.set_cons_zero, List.set_cons_succ])) | (refine at_append ?_; go_must (refine own_append_elem (b1 := ?_) (cs := ?_) (e1 := ?_) (f1 := ?_) sltInts hO ?_ ?_ ?_ hSO ?_ ?_ ?_ ?_ ?_ ?_ ?_; rotate_left 4; (· rfl); (· rfl); (· rfl); (· exact inferInstance); (· rfl); (· intro u hu; simp at hu; subst hu; rfl); (· first | omega | (simp only [maxLen]; omega)); (· decide); (· first | omega | (simp only [maxLen]; omega)); clear hO; (try clear hF); intro so3 co3 SO3 w4 hS3 hO; ((try simp only [List.nil_append, List.append_nil] at hO); have hF := Own.cells hO; simp only [cellsOf_append, cellsOf_pt] at hF); simp only [Act.put, List.setIfInBounds_toArray, List.set_cons_zero, List.set_cons_succ])))
        go_roundw
        case rel =>
          have e := HSU.out
          simp only [Bool.not_false, Bool.true_or, Bool.or_true, if_true] at e
          refine ⟨k + 1, so3, co3, SO3, by go_num, by omega, ?_, ?_, hO.as _⟩
          · rw [e, List.length_append]; rfl
          · rw [e, List.map_append, List.length_append]; exact hS3
        case measure => simp [intOf]; omega)
    · obtain rfl : k = l.length := by omega
      have h1 : ¬ (l.length : Int) < l.length := by omega
      rw [List.take_length] at hSO ⊢
      go_wp2_with fail
      go_ret
      exact ⟨so, co, rfl, SO, hSO, hO⟩
end Go.Proofs.YtkfkcloefgfkaaaGreat
