/- Plain as a method. -/
import Derived.Test.YticclennllklpaaDoorK7
import Derived.Test.YticclennllklpaaDoorK9
import Derived.Test.YticclennllklpaaDoorK2
set_option linter.all false
/- Plain as a method. -/
namespace Go.Proofs.YticclennllklpaaDoor
open Go Go.RowKit Go.Own Go.Dt

def CP : Nat := 2000000000000
/-- Plain behind c calls. -/
def StP (E : World) (p c : Nat) (es : List En) (A : Fr) : Prop := ∃ hs, PlainAt E p hs A ∧ esOf hs = es ∧ hs.length ≤ c
theorem StP.es {E : World} {p c : Nat} {es : List En} {A : Fr} (h : StP E p c es A) : Es es := by
  obtain ⟨hs, h1, rfl, _⟩ := h
  exact h1.es
theorem StP.le {E : World} {p c : Nat} {es : List En} {A : Fr} (h : StP E p c es A) : es.length ≤ c := by
  obtain ⟨hs, _, rfl, h1⟩ := h
  rwa [esOf_len]
theorem StP.mono {E : World} {p c c' : Nat} {es : List En} {A : Fr} (h : StP E p c es A) (hc : c ≤ c') : StP E p c' es A := by
  obtain ⟨hs, h1, h2, h3⟩ := h
  exact ⟨hs, h1, h2, Nat.le_trans h3 hc⟩
theorem mInsP (E w : World) (X R A I : Fr) (p c : Nat) (es : List En) (hc : c < CP) (hA : StP E p c es A) (y : En) (ay : Option Addr) (cy : Nat) (hw : y.d.wf) (hI : ItemsAt E I ay y.d.l) (hG : MaxL E I) (hO : Own E w X) [hp : Pick X (A ++ I) R] :
    Calls Tryd.prog 11 #[.pointer (some ⟨p, 0, none⟩), .agg #[.int .i64 y.d.k, .int .i64 y.d.n, .string y.d.s, .slice ay y.d.l.length cy, .int .i64 y.t]] w fun e w' => ∃ A', e = .returned (.int .i64 (insR K3 es y).1) ∧ StP E p (c + 1) (insR K3 es y).2 A' ∧ Own E w' (A' ++ (I ++ R)) := by
  obtain ⟨hs, h1, rfl, h3⟩ := hA
  unfold CP at hc
  refine (pInsert E w X R A I p hs (by omega) h1 y ay cy hw hI hG hO).mono ?_
  rintro e w' ⟨err, hs', A', rfl, hA', hc', hO'⟩
  unfold insR refused
  rcases hc' with ⟨q1, q2, q3⟩ | ⟨q1, q2, q3, q4⟩ | ⟨q1, q2, q3, q4⟩
  · rw [if_neg (by rw [if_neg (by rw [q1]; decide)]; decide), if_neg (by rw [q1]; decide)]
    exact ⟨A', by rw [q2], ⟨hs', hA', q3, by have := congrArg List.length q3; rw [esOf_len, esOf_len] at this; omega⟩, hO'⟩
  · rw [if_pos (by rw [if_pos q1, if_pos (okE_kind q1)]), if_pos q2]
    exact ⟨A', by rw [q3], ⟨hs', hA', q4, by have := congrArg List.length q4; rw [esOf_len, esOf_len] at this; omega⟩, hO'⟩
  · rw [if_pos (by rw [if_pos q1, if_pos (okE_kind q1)]), if_neg q2]
    exact ⟨A', by rw [q3], ⟨hs', hA', q4, by have := congrArg List.length q4; rw [esOf_len, (wiE_perm y (esOf hs)).length_eq, List.length_cons, esOf_len] at this; omega⟩, hO'⟩
theorem mDelP (E w : World) (X R A I : Fr) (p c : Nat) (es : List En) (hc : c < CP) (hA : StP E p c es A) (y : En) (ay : Option Addr) (cy : Nat) (hw : y.d.wf) (hI : ItemsAt E I ay y.d.l) (hG : MaxL E I) (hO : Own E w X) [hp : Pick X (A ++ I) R] :
    Calls Tryd.prog 105 #[.pointer (some ⟨p, 0, none⟩), .agg #[.int .i64 y.d.k, .int .i64 y.d.n, .string y.d.s, .slice ay y.d.l.length cy, .int .i64 y.t]] w fun e w' => ∃ A', e = .returned (.int .i64 (delR K3 es y).1) ∧ StP E p (c + 1) (delR K3 es y).2 A' ∧ Own E w' (A' ++ (I ++ R)) := by
  obtain ⟨hs, h1, rfl, h3⟩ := hA
  unfold CP at hc
  refine (pDelete E w X R A I p hs (by omega) h1 y ay cy hw hI hG hO).mono ?_
  rintro e w' ⟨err, hs', A', rfl, hA', hc', hO'⟩
  unfold delR refused
  rcases hc' with ⟨q1, q2, q3⟩ | ⟨q1, q2, q3, q4⟩ | ⟨q1, q2, q3, q4⟩
  · rw [if_neg (by rw [if_neg (by rw [q1]; decide)]; decide), if_neg (by rw [q1]; decide)]
    exact ⟨A', by rw [q2], ⟨hs', hA', q3, by have := congrArg List.length q3; rw [esOf_len, esOf_len] at this; omega⟩, hO'⟩
  · rw [if_pos (by rw [if_pos q1, if_pos (okE_kind q1)]), if_neg q2]
    exact ⟨A', by rw [q3], ⟨hs', hA', q4, by have := congrArg List.length q4; rw [esOf_len, esOf_len] at this; omega⟩, hO'⟩
  · rw [if_pos (by rw [if_pos q1, if_pos (okE_kind q1)]), if_pos q2]
    refine ⟨A', by rw [q3], ⟨hs', hA', q4, ?_⟩, hO'⟩
    have := congrArg List.length q4
    rw [esOf_len] at this
    have h9 : (woE (esOf hs) y).length ≤ (esOf hs).length := List.length_filter_le _ _
    rw [esOf_len] at h9
    omega
theorem mFindP (E w : World) (X R A I : Fr) (p c : Nat) (es : List En) (hc : c < CP) (hA : StP E p c es A) (d : Dt) (ay : Option Addr) (cy : Nat) (hw : d.wf) (hI : ItemsAt E I ay d.l) (hG : MaxL E I) (hO : Own E w X) [hp : Pick X (A ++ I) R] :
    Calls Tryd.prog 26 #[.pointer (some ⟨p, 0, none⟩), .agg #[.int .i64 d.k, .int .i64 d.n, .string d.s, .slice ay d.l.length cy]] w fun e w' => ∃ (A' : Fr) (so : Option Addr) (co : Nat) (SO : Fr), e = .returned (.tuple #[.slice so (fndR K3 es d).2.length co, .int .i64 (fndR K3 es d).1]) ∧ Sl 3 1 so (fndR K3 es d).2.length co ((fndR K3 es d).2.map (Value.int .i64)) SO ∧ StP E p (c + 1) es A' ∧ Own E w' (SO ++ (A' ++ (I ++ R))) := by
  obtain ⟨hs, h1, rfl, h3⟩ := hA
  unfold CP at hc
  refine (pFindK E w X R A I p hs (by omega) h1 d ay cy hw hI hG hO).mono ?_
  rintro e w' ⟨so, co, SO, hr, hO'⟩
  have hok : okE ⟨d, 0⟩ = d.ok := by unfold okE; simp
  unfold fndR refused
  by_cases hd : d.ok = true
  · rw [if_pos hd] at hr
    have h4 : okE ⟨d, 0⟩ = true := by rw [hok]; exact hd
    rw [if_pos (by rw [if_pos h4, if_pos (okE_kind h4)])]
    refine ⟨A, so, co, SO, ?_, ?_, ⟨hs, h1, rfl, by omega⟩, hO'⟩
    · rw [hr.1, List.length_map]
    · show Sl 3 1 so ((keyE (esOf hs) d).map (·.t)).length co (((keyE (esOf hs) d).map (·.t)).map (Value.int .i64)) SO
      rw [← tidsV_map, List.length_map]
      exact hr.2
  · rw [if_neg hd] at hr
    have h4 : ¬ okE ⟨d, 0⟩ = true := by rw [hok]; exact hd
    rw [if_neg (by rw [if_neg h4]; decide), if_neg h4]
    exact ⟨A, none, 0, [], hr, Sl.nil _ _, ⟨hs, h1, rfl, by omega⟩, hO'.as _⟩
theorem mEntP (E w : World) (X R A : Fr) (p c : Nat) (es : List En) (hc : c < CP) (hA : StP E p c es A) (hO : Own E w X) [hp : Pick X A R] :
    Calls Tryd.prog 15 #[.pointer (some ⟨p, 0, none⟩)] w fun e w' => ∃ (A' : Fr) (so : Option Addr) (co : Nat) (os : List Oe) (SO FO : Fr), e = .returned (.slice so os.length co) ∧ esO os = es ∧ LAt E FO so co os SO ∧ StP E p (c + 1) es A' ∧ Own E w' (SO ++ (FO ++ (A' ++ R))) := by
  obtain ⟨hs, h1, rfl, h3⟩ := hA
  unfold CP at hc
  refine (pEntries E w X R A p hs (by omega) h1 hO).mono ?_
  rintro e w' ⟨so, co, os, SO, FO, rfl, ho, hS, hF, hO'⟩
  have hol : (esOf hs).length = os.length := by rw [← ho, List.length_map]
  rw [hol] at hS ⊢
  exact ⟨A, so, co, os, SO, FO, rfl, ho, ⟨hS, hF⟩, ⟨hs, h1, rfl, by omega⟩, hO'⟩
theorem mChkP (E w : World) (X R A : Fr) (p c : Nat) (es : List En) (hc : c < CP) (hA : StP E p c es A) (hO : Own E w X) [hp : Pick X A R] :
    Calls Tryd.prog 104 #[.pointer (some ⟨p, 0, none⟩)] w fun e w' => ∃ A', e = .returned (.bool true) ∧ StP E p c es A' ∧ Own E w' (A' ++ R) := by
  obtain ⟨hs, h1, rfl, h3⟩ := hA
  refine (pCheck E w X R A p hs h1 hO).mono ?_
  rintro e w' ⟨rfl, rfl⟩
  exact ⟨A, rfl, ⟨hs, h1, rfl, h3⟩, hO.perm hp.perm⟩
theorem mDropP (E w : World) (X R A : Fr) (p c : Nat) (es : List En) (hc : c < CP) (hA : StP E p c es A) (hO : Own E w X) [hp : Pick X A R] :
    Calls Tryd.prog 106 #[.pointer (some ⟨p, 0, none⟩)] w fun e w' => ∃ A', e = .returned (.int .i64 0) ∧ StP E p (c + 1) [] A' ∧ Own E w' (A' ++ R) := by
  obtain ⟨hs, h1, rfl, h3⟩ := hA
  refine (pDrop E w X R A p hs h1 hO).mono ?_
  rintro e w' ⟨A', rfl, hA', hO'⟩
  exact ⟨A', rfl, ⟨[], hA', rfl, Nat.zero_le _⟩, hO'⟩
end Go.Proofs.YticclennllklpaaDoor

/- A store into an element of a slice that owns its row. -/
namespace Go.Own
open Go Go.RowKit
section
variable {P : Program} {ops : Array Oper} {Q : Exit → Act → World → Prop} {rest : List Oper} {a : Act} {E w : World} {X A R : Fr} {d : Option Tmp} {ty : TypeId} {pos : String} {aft : Array Edge} {g : Option (Nat × Bool)}
/-- A store into an element of a slice that owns its row. -/
theorem own_storeSlW {t e : TypeId} {x y : Operand} {v : Value} {b i n cap sz : Nat} {xs : List Value} (hO : Own E w X) (hw : Region.wanted ⟨d, .store t x y, ty, pos, aft, g⟩ (yielded ops a.tmps) = true)
    (hx : a.eval x = .pointer (some ⟨b, i * sz, none⟩)) (hy : a.eval y = v) (hv : Sl e sz (some ⟨b, 0, none⟩) n cap xs A) [hp : Pick X A R] (hi : i < n) (hsz : v.cells.toList.length = sz)
    (hs : (sizeOf t).run P w = .ok v.cells.size w) (h1 : ∀ u ∈ v.cells.toList, u.oneCell' = true)
    (next : ∀ w1 A', Sl e sz (some ⟨b, 0, none⟩) n cap (xs.take (i * sz) ++ v.cells.toList ++ xs.drop (i * sz + sz)) A' → Own E w1 (A' ++ R) → wpList P ops Q rest (a.put d undef) w1) :
    wpList P ops Q (⟨d, .store t x y, ty, pos, aft, g⟩ :: rest) a w := by
  obtain ⟨hl, hc, hm, h4⟩ := hv
  rcases h4 with ⟨h, _, _⟩ | ⟨b', tl, hb, hlen, rfl⟩
  · cases h
  · cases hb
    have hO1 := hO.perm hp.perm
    have hbd : (i + 1) * sz ≤ n * sz := Nat.mul_le_mul_right _ hi
    have hbe : (i + 1) * sz = i * sz + sz := Nat.succ_mul i sz
    have hvs : v.cells.size = sz := by rw [← hsz, Array.length_toList]
    refine own_store (v := v) (b := b) (off := i * sz) (cs := (xs ++ tl).toArray) (e := e) hO1 hw hx hy hs h1 (by rw [hvs]; show i * sz + sz ≤ (xs ++ tl).toArray.size; rw [List.size_toArray, hlen]; have := Nat.mul_le_mul_right sz hc; omega) fun w1 hO2 => ?_
    have hpre : (xs.take (i * sz)).length = i * sz := by rw [List.length_take]; omega
    have hsp : splice (xs ++ tl).toArray (i * sz) v.cells.toList = (xs.take (i * sz) ++ v.cells.toList ++ xs.drop (i * sz + sz) ++ tl).toArray := by
      have := splice_append v.cells.toList (xs.take (i * sz)) (xs.drop (i * sz) ++ tl) (by rw [List.length_append, List.length_drop]; omega)
      rw [← List.append_assoc, List.take_append_drop, hpre] at this
      rw [this, hsz, List.drop_append_of_le_length (by rw [List.length_drop]; omega), List.drop_drop]
      simp only [List.append_assoc]
    rw [hsp] at hO2
    refine next w1 _ ⟨?_, hc, hm, .inr ⟨b, tl, rfl, ?_, rfl⟩⟩ hO2
    · simp only [List.length_append, List.length_take, List.length_drop]; omega
    · rw [← hlen]
      simp only [List.length_append, List.length_take, List.length_drop]; omega
end
end Go.Own

/- slices.Reverse at entries; the method's Range. (printed by wip/gen/genRP.py) -/
namespace Go.Own
theorem rows_set {α : Type} (f : α → List Value) (k : Nat) (hk : ∀ x, (f x).length = k) (l : List α) (i : Nat) (hi : i < l.length) (x : α) : (l.flatMap f).take (i * k) ++ f x ++ (l.flatMap f).drop (i * k + k) = (l.set i x).flatMap f := by
  rw [rows_take f k hk, ← Nat.succ_mul, rows_drop f k hk, List.set_eq_take_append_cons_drop, if_pos hi, List.flatMap_append, List.flatMap_cons, List.append_assoc]
end Go.Own
namespace Go.Proofs.YticclennllklpaaDoor
open Go Go.RowKit Go.Own Go.Dt

/-- The first i and the last i are turned. -/
structure RevI (os cur : List Oe) (i : Nat) : Prop where
  len : cur.length = os.length
  at_ : ∀ k, k < os.length → cur[k]? = if k < i ∨ os.length - i ≤ k then os[os.length - 1 - k]? else os[k]?
theorem RevI.start (os : List Oe) : RevI os os 0 := ⟨rfl, fun k hk => by rw [if_neg (by omega)]⟩
theorem RevI.step {os cur : List Oe} {i j : Nat} (h : RevI os cur i) (hij : i < j) (hj : j = os.length - 1 - i) (hjn : j < os.length) {x y : Oe} (hx : cur[j]? = some x) (hy : cur[i]? = some y) : RevI os ((cur.set i x).set j y) (i + 1) := by
  refine ⟨by rw [List.length_set, List.length_set]; exact h.len, fun k hk => ?_⟩
  have e1 := h.at_ j hjn
  rw [if_neg (by omega), hx] at e1
  have e2 := h.at_ i (by omega)
  rw [if_neg (by omega), hy] at e2
  by_cases hkj : k = j
  · subst hkj
    rw [List.getElem?_set_self (by rw [List.length_set, h.len]; exact hk), if_pos (by omega), e2]
    congr 1
    omega
  · rw [List.getElem?_set_ne (Ne.symm hkj)]
    by_cases hki : k = i
    · subst hki
      rw [List.getElem?_set_self (by rw [h.len]; exact hk), if_pos (by omega), e1]
      congr 1
    · rw [List.getElem?_set_ne (Ne.symm hki), h.at_ k hk]
      by_cases hc : k < i ∨ os.length - i ≤ k
      · rw [if_pos hc, if_pos (by omega)]
      · rw [if_neg hc, if_neg (by omega)]
theorem RevI.stop {os cur : List Oe} {i : Nat} (h : RevI os cur i) (hi : ¬ (i : Int) < (os.length : Int) - 1 - i) : cur = os.reverse := by
  apply List.ext_getElem?
  intro k
  by_cases hk : k < os.length
  · rw [h.at_ k hk, List.getElem?_reverse hk]
    by_cases hc : k < i ∨ os.length - i ≤ k
    · rw [if_pos hc]
    · rw [if_neg hc]
      congr 1
      omega
  · rw [List.getElem?_eq_none (by rw [h.len]; omega), List.getElem?_eq_none (by rw [List.length_reverse]; omega)]
set_option maxRecDepth 100000 in
set_option maxHeartbeats 16000000 in
theorem revE (E w : World) (X R S : Fr) (so : Option Addr) (co : Nat) (os : List Oe) (hl : os.length ≤ 2000000000000) (hS : Sl 32 5 so os.length co (os.flatMap Oe.v) S) (hO : Own E w X) [hp : Pick X S R] :
    Calls Tryd.prog 36 #[.slice so os.length co] w fun e w' => ∃ S', e = .returned (.tuple #[]) ∧ Sl 32 5 so os.length co (os.reverse.flatMap Oe.v) S' ∧ Own E w' (S' ++ R) := by
  replace hO := hO.perm hp.perm
  clear hp
  generalize hpost : (fun (e : Ending) (w' : World) => ∃ S', e = .returned (.tuple #[]) ∧ Sl 32 5 so os.length co (os.reverse.flatMap Oe.v) S' ∧ Own E w' (S' ++ R)) = POST
  have HPOST := Lib.hid hpost
  clear hpost
  have HLN := Lib.hid hl
  have hw9 : IntKind.i64.wrap ((os.length : Int) - 1) = (os.length : Int) - 1 := by rw [IntKind.wrap_i64]; omega
  have hw8 : wrap64 ((os.length : Int) - 1) = (os.length : Int) - 1 := by unfold wrap64; omega
  clear hl
  go_enter Tryd.func36, Tryd.ntmps36
  go_wp2_with fail
  have hO1 := hO
  have hS1 := hS
  clear hO hS
  go_loopw [2, 3] (fun s2 s3 wr => ∃ (i : Nat) (jz : Int) (cur : List Oe) (SO : Fr), s2 = .int .i64 (i : Int) ∧ s3 = .int .i64 jz ∧ jz = (os.length : Int) - 1 - i ∧ i ≤ os.length ∧ RevI os cur i ∧ Sl 32 5 so os.length co (cur.flatMap Oe.v) SO ∧ Own E wr (SO ++ R)) (fun s2 _ _ => os.length - (intOf s2).toNat)
  case atStart => exact ⟨0, _, os, S, rfl, rfl, by omega, Nat.zero_le _, RevI.start os, hS1, hO1⟩
  case round =>
    clear hO1 hS1 hw9 hw8
    obtain ⟨i, jz, cur, SO, rfl, rfl, hjz, hi, hR, hS, hO⟩ := hrel
    have hl := HLN.out
    by_cases hlt : (i : Int) < jz
    · obtain ⟨j, rfl⟩ : ∃ j : Nat, jz = j := ⟨jz.toNat, by omega⟩
      have hj1 : j < os.length := by omega
      have hi1 : i < os.length := by omega
      have g1 : (i : Int) < os.length := by omega
      have g2 : (j : Int) < os.length := by omega
      have g3 : (0 : Int) ≤ (i : Int) := by omega
      have g4 : (0 : Int) ≤ (j : Int) := by omega
      have hw0 : IntKind.i64.wrap ((i : Int) + 1) = (i : Int) + 1 := wi_1 i (by omega)
      have hw1 : wrap64 ((i : Int) + 1) = (i : Int) + 1 := w64_1 i (by omega)
      obtain ⟨hw2, hw3⟩ : IntKind.i64.wrap ((j : Int) - 1) = (j : Int) - 1 ∧ wrap64 ((j : Int) - 1) = (j : Int) - 1 := wrapN ((j : Int) - 1) (by omega) (by omega)
      obtain ⟨sb, rfl⟩ := sl_some9 hS (by omega)
      have hcl := hR.len
      obtain ⟨x, hx⟩ : ∃ x, cur[j]? = some x := ⟨_, List.getElem?_eq_getElem (by omega)⟩
      obtain ⟨y, hy⟩ : ∃ y, cur[i]? = some y := ⟨_, List.getElem?_eq_getElem (by omega)⟩
      have hcx : ∀ w', Own E w' (SO ++ R) → ∀ k v, ([.int .i64 x.e.d.k, .int .i64 x.e.d.n, .string x.e.d.s, .slice x.a x.e.d.l.length x.c, .int .i64 x.e.t] : List Value)[k]? = some v → w'.cell? ((⟨sb, j * 5, none⟩ : Addr).add k) = some v := fun w' h => by
        obtain ⟨h1, h2⟩ := List.getElem?_eq_some_iff.1 hx
        have := row_cells (f := Oe.v) (l := cur) (n := os.length) Oe.len hS h h1
        rw [h2] at this
        exact this
      have hcy : ∀ w', Own E w' (SO ++ R) → ∀ k v, ([.int .i64 y.e.d.k, .int .i64 y.e.d.n, .string y.e.d.s, .slice y.a y.e.d.l.length y.c, .int .i64 y.e.t] : List Value)[k]? = some v → w'.cell? ((⟨sb, i * 5, none⟩ : Addr).add k) = some v := fun w' h => by
        obtain ⟨h1, h2⟩ := List.getElem?_eq_some_iff.1 hy
        have := row_cells (f := Oe.v) (l := cur) (n := os.length) Oe.len hS h h1
        rw [h2] at this
        exact this
      have HCX := Lib.hid hcx
      have HCY := Lib.hid hcy
      have HB := Lib.hid (And.intro hi1 hj1)
      have HR2 := Lib.hid (hR.step (by omega) (by omega) hj1 hx hy)
      have e1 := rows_set Oe.v 5 Oe.len cur i (by omega) x
      have e2 := rows_set Oe.v 5 Oe.len (cur.set i x) j (by rw [List.length_set]; omega) y
      have HE1 := Lib.hid e1
      have HE2 := Lib.hid e2
      have HJZ := Lib.hid hjz
      have HLT := Lib.hid hlt
      clear hcx hcy hx hy hcl hi1 hj1 hR hjz hi hl e1 e2
      go_wp2_with fail
      (try (go_wp2_with fail))
      refine region_sch (fun w' => Own E w' (([] : Fr))) (.look 0 (.look 1 (.look 2 (.look 3 (.look 4 (.look 5 (.look 6 (.look 8 (.look 9 (.look 10 (.two 7 (.act 11 (.look 12 (.act 13 (.look 14 (.act 15 .done))))) 11 (.act 7 (.look 12 (.act 13 (.look 14 (.act 15 .done)))))))))))))))) (by kernel_rfl) (by kernel_rfl) (fun _ _ d _ _ h => by cases d <;> exact h) ?_ ?_
      · exact hO.drew.as _
      replace hO := hO.drew
      generalize World.drew _ = wdr at hO ⊢
      first | (refine sch_look (o := ?_) (v := ?_) ?_ ?_ ?_ ?_; rotate_left 2; (· ((conv => lhs; whnf); try exact rfl)); (· rfl); (· intro w' hO'; skip; go_simp; (try exact rfl)); simp only [Act.put, List.setIfInBounds_toArray, List.set_cons_zero, List.set_cons_succ]) | (refine sch_pass (o := ?_) ?_ ?_ ?_; rotate_left; (· ((conv => lhs; whnf); try exact rfl)); (· rfl); simp only [Act.put, List.setIfInBounds_toArray, List.set_cons_zero, List.set_cons_succ]) | (refine sch_look (o := ?_) (v := .agg ?_) ?_ ?_ ?_ ?_; rotate_left 2; (· ((conv => lhs; whnf); try exact rfl)); (· rfl); (· intro w' hO'; refine run_opLoadS (b := ?_) (cs := ?_) (e := ?_) (f := ?_) hO' ?_ ?_ ?_ ?_; rotate_left 4; (· exact rfl); (· exact inferInstance); (· simp; done); (· simp; done)); simp only [Act.put, List.setIfInBounds_toArray, List.set_cons_zero, List.set_cons_succ])
      first | (refine sch_look (o := ?_) (v := ?_) ?_ ?_ ?_ ?_; rotate_left 2; (· ((conv => lhs; whnf); try exact rfl)); (· rfl); (· intro w' hO'; skip; go_simp; (try exact rfl)); simp only [Act.put, List.setIfInBounds_toArray, List.set_cons_zero, List.set_cons_succ]) | (refine sch_pass (o := ?_) ?_ ?_ ?_; rotate_left; (· ((conv => lhs; whnf); try exact rfl)); (· rfl); simp only [Act.put, List.setIfInBounds_toArray, List.set_cons_zero, List.set_cons_succ]) | (refine sch_look (o := ?_) (v := .agg ?_) ?_ ?_ ?_ ?_; rotate_left 2; (· ((conv => lhs; whnf); try exact rfl)); (· rfl); (· intro w' hO'; refine run_opLoadS (b := ?_) (cs := ?_) (e := ?_) (f := ?_) hO' ?_ ?_ ?_ ?_; rotate_left 4; (· exact rfl); (· exact inferInstance); (· simp; done); (· simp; done)); simp only [Act.put, List.setIfInBounds_toArray, List.set_cons_zero, List.set_cons_succ])
      first | (refine sch_look (o := ?_) (v := ?_) ?_ ?_ ?_ ?_; rotate_left 2; (· ((conv => lhs; whnf); try exact rfl)); (· rfl); (· intro w' hO'; skip; go_simp; (try exact rfl)); simp only [Act.put, List.setIfInBounds_toArray, List.set_cons_zero, List.set_cons_succ]) | (refine sch_pass (o := ?_) ?_ ?_ ?_; rotate_left; (· ((conv => lhs; whnf); try exact rfl)); (· rfl); simp only [Act.put, List.setIfInBounds_toArray, List.set_cons_zero, List.set_cons_succ]) | (refine sch_look (o := ?_) (v := .agg ?_) ?_ ?_ ?_ ?_; rotate_left 2; (· ((conv => lhs; whnf); try exact rfl)); (· rfl); (· intro w' hO'; refine run_opLoadS (b := ?_) (cs := ?_) (e := ?_) (f := ?_) hO' ?_ ?_ ?_ ?_; rotate_left 4; (· exact rfl); (· exact inferInstance); (· simp; done); (· simp; done)); simp only [Act.put, List.setIfInBounds_toArray, List.set_cons_zero, List.set_cons_succ])
      first | (refine sch_look (o := ?_) (v := ?_) ?_ ?_ ?_ ?_; rotate_left 2; (· ((conv => lhs; whnf); try exact rfl)); (· rfl); (· intro w' hO'; skip; go_simp; (try exact rfl)); simp only [Act.put, List.setIfInBounds_toArray, List.set_cons_zero, List.set_cons_succ]) | (refine sch_pass (o := ?_) ?_ ?_ ?_; rotate_left; (· ((conv => lhs; whnf); try exact rfl)); (· rfl); simp only [Act.put, List.setIfInBounds_toArray, List.set_cons_zero, List.set_cons_succ]) | (refine sch_look (o := ?_) (v := .agg ?_) ?_ ?_ ?_ ?_; rotate_left 2; (· ((conv => lhs; whnf); try exact rfl)); (· rfl); (· intro w' hO'; refine run_opLoadS (b := ?_) (cs := ?_) (e := ?_) (f := ?_) hO' ?_ ?_ ?_ ?_; rotate_left 4; (· exact rfl); (· exact inferInstance); (· simp; done); (· simp; done)); simp only [Act.put, List.setIfInBounds_toArray, List.set_cons_zero, List.set_cons_succ])
      first | (refine sch_look (o := ?_) (v := ?_) ?_ ?_ ?_ ?_; rotate_left 2; (· ((conv => lhs; whnf); try exact rfl)); (· rfl); (· intro w' hO'; skip; go_simp; (try exact rfl)); simp only [Act.put, List.setIfInBounds_toArray, List.set_cons_zero, List.set_cons_succ]) | (refine sch_pass (o := ?_) ?_ ?_ ?_; rotate_left; (· ((conv => lhs; whnf); try exact rfl)); (· rfl); simp only [Act.put, List.setIfInBounds_toArray, List.set_cons_zero, List.set_cons_succ]) | (refine sch_look (o := ?_) (v := .agg ?_) ?_ ?_ ?_ ?_; rotate_left 2; (· ((conv => lhs; whnf); try exact rfl)); (· rfl); (· intro w' hO'; refine run_opLoadS (b := ?_) (cs := ?_) (e := ?_) (f := ?_) hO' ?_ ?_ ?_ ?_; rotate_left 4; (· exact rfl); (· exact inferInstance); (· simp; done); (· simp; done)); simp only [Act.put, List.setIfInBounds_toArray, List.set_cons_zero, List.set_cons_succ])
      first | (refine sch_look (o := ?_) (v := ?_) ?_ ?_ ?_ ?_; rotate_left 2; (· ((conv => lhs; whnf); try exact rfl)); (· rfl); (· intro w' hO'; skip; go_simp; (try exact rfl)); simp only [Act.put, List.setIfInBounds_toArray, List.set_cons_zero, List.set_cons_succ]) | (refine sch_pass (o := ?_) ?_ ?_ ?_; rotate_left; (· ((conv => lhs; whnf); try exact rfl)); (· rfl); simp only [Act.put, List.setIfInBounds_toArray, List.set_cons_zero, List.set_cons_succ]) | (refine sch_look (o := ?_) (v := .agg ?_) ?_ ?_ ?_ ?_; rotate_left 2; (· ((conv => lhs; whnf); try exact rfl)); (· rfl); (· intro w' hO'; refine run_opLoadS (b := ?_) (cs := ?_) (e := ?_) (f := ?_) hO' ?_ ?_ ?_ ?_; rotate_left 4; (· exact rfl); (· exact inferInstance); (· simp; done); (· simp; done)); simp only [Act.put, List.setIfInBounds_toArray, List.set_cons_zero, List.set_cons_succ])
      first | (refine sch_look (o := ?_) (v := ?_) ?_ ?_ ?_ ?_; rotate_left 2; (· ((conv => lhs; whnf); try exact rfl)); (· rfl); (· intro w' hO'; skip; go_simp; (try exact rfl)); simp only [Act.put, List.setIfInBounds_toArray, List.set_cons_zero, List.set_cons_succ]) | (refine sch_pass (o := ?_) ?_ ?_ ?_; rotate_left; (· ((conv => lhs; whnf); try exact rfl)); (· rfl); simp only [Act.put, List.setIfInBounds_toArray, List.set_cons_zero, List.set_cons_succ]) | (refine sch_look (o := ?_) (v := .agg ?_) ?_ ?_ ?_ ?_; rotate_left 2; (· ((conv => lhs; whnf); try exact rfl)); (· rfl); (· intro w' hO'; refine run_opLoadS (b := ?_) (cs := ?_) (e := ?_) (f := ?_) hO' ?_ ?_ ?_ ?_; rotate_left 4; (· exact rfl); (· exact inferInstance); (· simp; done); (· simp; done)); simp only [Act.put, List.setIfInBounds_toArray, List.set_cons_zero, List.set_cons_succ])
      first | (refine sch_look (o := ?_) (v := ?_) ?_ ?_ ?_ ?_; rotate_left 2; (· ((conv => lhs; whnf); try exact rfl)); (· rfl); (· intro w' hO'; skip; go_simp; (try exact rfl)); simp only [Act.put, List.setIfInBounds_toArray, List.set_cons_zero, List.set_cons_succ]) | (refine sch_pass (o := ?_) ?_ ?_ ?_; rotate_left; (· ((conv => lhs; whnf); try exact rfl)); (· rfl); simp only [Act.put, List.setIfInBounds_toArray, List.set_cons_zero, List.set_cons_succ]) | (refine sch_look (o := ?_) (v := .agg ?_) ?_ ?_ ?_ ?_; rotate_left 2; (· ((conv => lhs; whnf); try exact rfl)); (· rfl); (· intro w' hO'; refine run_opLoadS (b := ?_) (cs := ?_) (e := ?_) (f := ?_) hO' ?_ ?_ ?_ ?_; rotate_left 4; (· exact rfl); (· exact inferInstance); (· simp; done); (· simp; done)); simp only [Act.put, List.setIfInBounds_toArray, List.set_cons_zero, List.set_cons_succ])
      first | (refine sch_look (o := ?_) (v := ?_) ?_ ?_ ?_ ?_; rotate_left 2; (· ((conv => lhs; whnf); try exact rfl)); (· rfl); (· intro w' hO'; skip; go_simp; (try exact rfl)); simp only [Act.put, List.setIfInBounds_toArray, List.set_cons_zero, List.set_cons_succ]) | (refine sch_pass (o := ?_) ?_ ?_ ?_; rotate_left; (· ((conv => lhs; whnf); try exact rfl)); (· rfl); simp only [Act.put, List.setIfInBounds_toArray, List.set_cons_zero, List.set_cons_succ]) | (refine sch_look (o := ?_) (v := .agg ?_) ?_ ?_ ?_ ?_; rotate_left 2; (· ((conv => lhs; whnf); try exact rfl)); (· rfl); (· intro w' hO'; refine run_opLoadS (b := ?_) (cs := ?_) (e := ?_) (f := ?_) hO' ?_ ?_ ?_ ?_; rotate_left 4; (· exact rfl); (· exact inferInstance); (· simp; done); (· simp; done)); simp only [Act.put, List.setIfInBounds_toArray, List.set_cons_zero, List.set_cons_succ])
      first | (refine sch_look (o := ?_) (v := ?_) ?_ ?_ ?_ ?_; rotate_left 2; (· ((conv => lhs; whnf); try exact rfl)); (· rfl); (· intro w' hO'; skip; go_simp; (try exact rfl)); simp only [Act.put, List.setIfInBounds_toArray, List.set_cons_zero, List.set_cons_succ]) | (refine sch_pass (o := ?_) ?_ ?_ ?_; rotate_left; (· ((conv => lhs; whnf); try exact rfl)); (· rfl); simp only [Act.put, List.setIfInBounds_toArray, List.set_cons_zero, List.set_cons_succ]) | (refine sch_look (o := ?_) (v := .agg ?_) ?_ ?_ ?_ ?_; rotate_left 2; (· ((conv => lhs; whnf); try exact rfl)); (· rfl); (· intro w' hO'; refine run_opLoadS (b := ?_) (cs := ?_) (e := ?_) (f := ?_) hO' ?_ ?_ ?_ ?_; rotate_left 4; (· exact rfl); (· exact inferInstance); (· simp; done); (· simp; done)); simp only [Act.put, List.setIfInBounds_toArray, List.set_cons_zero, List.set_cons_succ])
      refine sch_two (o := ?_) (o' := ?_) ?_ ?_ ?_ ?_
      rotate_left 2
      · ((conv => lhs; whnf); try exact rfl)
      · ((conv => lhs; whnf); try exact rfl)
      · go_wp2_with (first | (refine at_load (t := 32) ?_; go_must (refine own_loadC (ad := ⟨sb, j * 5, none⟩) (cs := [.int .i64 x.e.d.k, .int .i64 x.e.d.n, .string x.e.d.s, .slice x.a x.e.d.l.length x.c, .int .i64 x.e.t]) ?_ (HCX.out _ hO) ?_ ?_ ?_ ?_; (· rfl); (· ((conv => lhs; whnf); try exact rfl)); (· simp; done); (· simp; done); simp only [Act.put, List.setIfInBounds_toArray, List.set_cons_zero, List.set_cons_succ])))
        refine ⟨hO.as _, ?_⟩
        (refine sch_act (o := ?_) ?_ ?_; rotate_left; (· ((conv => lhs; whnf); try exact rfl)))
        go_wp2_with (first | (refine at_load (t := 32) ?_; go_must (refine own_loadC (ad := ⟨sb, i * 5, none⟩) (cs := [.int .i64 y.e.d.k, .int .i64 y.e.d.n, .string y.e.d.s, .slice y.a y.e.d.l.length y.c, .int .i64 y.e.t]) ?_ (HCY.out _ hO) ?_ ?_ ?_ ?_; (· rfl); (· ((conv => lhs; whnf); try exact rfl)); (· simp; done); (· simp; done); simp only [Act.put, List.setIfInBounds_toArray, List.set_cons_zero, List.set_cons_succ])))
        refine ⟨hO.as _, ?_⟩
        first | (refine sch_look (o := ?_) (v := ?_) ?_ ?_ ?_ ?_; rotate_left 2; (· ((conv => lhs; whnf); try exact rfl)); (· rfl); (· intro w' hO'; skip; go_simp; (try exact rfl)); simp only [Act.put, List.setIfInBounds_toArray, List.set_cons_zero, List.set_cons_succ]) | (refine sch_pass (o := ?_) ?_ ?_ ?_; rotate_left; (· ((conv => lhs; whnf); try exact rfl)); (· rfl); simp only [Act.put, List.setIfInBounds_toArray, List.set_cons_zero, List.set_cons_succ]) | (refine sch_look (o := ?_) (v := .agg ?_) ?_ ?_ ?_ ?_; rotate_left 2; (· ((conv => lhs; whnf); try exact rfl)); (· rfl); (· intro w' hO'; refine run_opLoadS (b := ?_) (cs := ?_) (e := ?_) (f := ?_) hO' ?_ ?_ ?_ ?_; rotate_left 4; (· exact rfl); (· exact inferInstance); (· simp; done); (· simp; done)); simp only [Act.put, List.setIfInBounds_toArray, List.set_cons_zero, List.set_cons_succ])
        (refine sch_act (o := ?_) ?_ ?_; rotate_left; (· ((conv => lhs; whnf); try exact rfl)))
        go_wp2_with (first | (refine at_store (t := 32) ?_; go_must (refine own_storeSlW (e := 32) (sz := 5) (i := i) (v := .agg #[.int .i64 x.e.d.k, .int .i64 x.e.d.n, .string x.e.d.s, .slice x.a x.e.d.l.length x.c, .int .i64 x.e.t]) hO ?_ ?_ ?_ hS ?_ ?_ ?_ ?_ ?_; (· rfl); (· ((conv => lhs; whnf); try exact rfl)); (· rfl); (· exact HB.out.1); (· rfl); (· kernel_rfl); (· intro u hu; simp [Value.cells] at hu; rcases hu with rfl | rfl | rfl | rfl | rfl <;> rfl); clear hO; intro _ S2 hS2 hO; simp only [Act.put, List.setIfInBounds_toArray, List.set_cons_zero, List.set_cons_succ])))
        (replace hS2 : Sl 32 5 (some ⟨sb, 0, none⟩) os.length co ((cur.set i x).flatMap Oe.v) S2 := by rw [← HE1.out]; exact hS2)
        refine ⟨hO.as _, ?_⟩
        first | (refine sch_look (o := ?_) (v := ?_) ?_ ?_ ?_ ?_; rotate_left 2; (· ((conv => lhs; whnf); try exact rfl)); (· rfl); (· intro w' hO'; skip; go_simp; (try exact rfl)); simp only [Act.put, List.setIfInBounds_toArray, List.set_cons_zero, List.set_cons_succ]) | (refine sch_pass (o := ?_) ?_ ?_ ?_; rotate_left; (· ((conv => lhs; whnf); try exact rfl)); (· rfl); simp only [Act.put, List.setIfInBounds_toArray, List.set_cons_zero, List.set_cons_succ]) | (refine sch_look (o := ?_) (v := .agg ?_) ?_ ?_ ?_ ?_; rotate_left 2; (· ((conv => lhs; whnf); try exact rfl)); (· rfl); (· intro w' hO'; refine run_opLoadS (b := ?_) (cs := ?_) (e := ?_) (f := ?_) hO' ?_ ?_ ?_ ?_; rotate_left 4; (· exact rfl); (· exact inferInstance); (· simp; done); (· simp; done)); simp only [Act.put, List.setIfInBounds_toArray, List.set_cons_zero, List.set_cons_succ])
        (refine sch_act (o := ?_) ?_ ?_; rotate_left; (· ((conv => lhs; whnf); try exact rfl)))
        go_wp2_with (first | (refine at_store (t := 32) ?_; go_must (refine own_storeSlW (e := 32) (sz := 5) (i := j) (v := .agg #[.int .i64 y.e.d.k, .int .i64 y.e.d.n, .string y.e.d.s, .slice y.a y.e.d.l.length y.c, .int .i64 y.e.t]) hO ?_ ?_ ?_ hS2 ?_ ?_ ?_ ?_ ?_; (· rfl); (· ((conv => lhs; whnf); try exact rfl)); (· rfl); (· exact HB.out.2); (· rfl); (· kernel_rfl); (· intro u hu; simp [Value.cells] at hu; rcases hu with rfl | rfl | rfl | rfl | rfl <;> rfl); clear hO; intro _ S3 hS3 hO; simp only [Act.put, List.setIfInBounds_toArray, List.set_cons_zero, List.set_cons_succ])))
        (replace hS3 : Sl 32 5 (some ⟨sb, 0, none⟩) os.length co (((cur.set i x).set j y).flatMap Oe.v) S3 := by rw [← HE2.out]; exact hS3)
        refine ⟨hO.as _, ?_⟩
        refine sch_done ?_
        have hl := HLN.out
        have hlt := HLT.out
        go_wp2_with fail
        go_roundw
        (case rel => have hjz := HJZ.out; have hr2 := HR2.out; exact ⟨i + 1, (j : Int) - 1, _, _, by go_num, rfl, by omega, HB.out.1, hr2, hS3, hO⟩)
        (case measure => (have hb := HB.out; clear hw0 hw1 hw2 hw3; simp [intOf]; omega))
      · go_wp2_with (first | (refine at_load (t := 32) ?_; go_must (refine own_loadC (ad := ⟨sb, i * 5, none⟩) (cs := [.int .i64 y.e.d.k, .int .i64 y.e.d.n, .string y.e.d.s, .slice y.a y.e.d.l.length y.c, .int .i64 y.e.t]) ?_ (HCY.out _ hO) ?_ ?_ ?_ ?_; (· rfl); (· ((conv => lhs; whnf); try exact rfl)); (· simp; done); (· simp; done); simp only [Act.put, List.setIfInBounds_toArray, List.set_cons_zero, List.set_cons_succ])))
        refine ⟨hO.as _, ?_⟩
        (refine sch_act (o := ?_) ?_ ?_; rotate_left; (· ((conv => lhs; whnf); try exact rfl)))
        go_wp2_with (first | (refine at_load (t := 32) ?_; go_must (refine own_loadC (ad := ⟨sb, j * 5, none⟩) (cs := [.int .i64 x.e.d.k, .int .i64 x.e.d.n, .string x.e.d.s, .slice x.a x.e.d.l.length x.c, .int .i64 x.e.t]) ?_ (HCX.out _ hO) ?_ ?_ ?_ ?_; (· rfl); (· ((conv => lhs; whnf); try exact rfl)); (· simp; done); (· simp; done); simp only [Act.put, List.setIfInBounds_toArray, List.set_cons_zero, List.set_cons_succ])))
        refine ⟨hO.as _, ?_⟩
        first | (refine sch_look (o := ?_) (v := ?_) ?_ ?_ ?_ ?_; rotate_left 2; (· ((conv => lhs; whnf); try exact rfl)); (· rfl); (· intro w' hO'; skip; go_simp; (try exact rfl)); simp only [Act.put, List.setIfInBounds_toArray, List.set_cons_zero, List.set_cons_succ]) | (refine sch_pass (o := ?_) ?_ ?_ ?_; rotate_left; (· ((conv => lhs; whnf); try exact rfl)); (· rfl); simp only [Act.put, List.setIfInBounds_toArray, List.set_cons_zero, List.set_cons_succ]) | (refine sch_look (o := ?_) (v := .agg ?_) ?_ ?_ ?_ ?_; rotate_left 2; (· ((conv => lhs; whnf); try exact rfl)); (· rfl); (· intro w' hO'; refine run_opLoadS (b := ?_) (cs := ?_) (e := ?_) (f := ?_) hO' ?_ ?_ ?_ ?_; rotate_left 4; (· exact rfl); (· exact inferInstance); (· simp; done); (· simp; done)); simp only [Act.put, List.setIfInBounds_toArray, List.set_cons_zero, List.set_cons_succ])
        (refine sch_act (o := ?_) ?_ ?_; rotate_left; (· ((conv => lhs; whnf); try exact rfl)))
        go_wp2_with (first | (refine at_store (t := 32) ?_; go_must (refine own_storeSlW (e := 32) (sz := 5) (i := i) (v := .agg #[.int .i64 x.e.d.k, .int .i64 x.e.d.n, .string x.e.d.s, .slice x.a x.e.d.l.length x.c, .int .i64 x.e.t]) hO ?_ ?_ ?_ hS ?_ ?_ ?_ ?_ ?_; (· rfl); (· ((conv => lhs; whnf); try exact rfl)); (· rfl); (· exact HB.out.1); (· rfl); (· kernel_rfl); (· intro u hu; simp [Value.cells] at hu; rcases hu with rfl | rfl | rfl | rfl | rfl <;> rfl); clear hO; intro _ S2 hS2 hO; simp only [Act.put, List.setIfInBounds_toArray, List.set_cons_zero, List.set_cons_succ])))
        (replace hS2 : Sl 32 5 (some ⟨sb, 0, none⟩) os.length co ((cur.set i x).flatMap Oe.v) S2 := by rw [← HE1.out]; exact hS2)
        refine ⟨hO.as _, ?_⟩
        first | (refine sch_look (o := ?_) (v := ?_) ?_ ?_ ?_ ?_; rotate_left 2; (· ((conv => lhs; whnf); try exact rfl)); (· rfl); (· intro w' hO'; skip; go_simp; (try exact rfl)); simp only [Act.put, List.setIfInBounds_toArray, List.set_cons_zero, List.set_cons_succ]) | (refine sch_pass (o := ?_) ?_ ?_ ?_; rotate_left; (· ((conv => lhs; whnf); try exact rfl)); (· rfl); simp only [Act.put, List.setIfInBounds_toArray, List.set_cons_zero, List.set_cons_succ]) | (refine sch_look (o := ?_) (v := .agg ?_) ?_ ?_ ?_ ?_; rotate_left 2; (· ((conv => lhs; whnf); try exact rfl)); (· rfl); (· intro w' hO'; refine run_opLoadS (b := ?_) (cs := ?_) (e := ?_) (f := ?_) hO' ?_ ?_ ?_ ?_; rotate_left 4; (· exact rfl); (· exact inferInstance); (· simp; done); (· simp; done)); simp only [Act.put, List.setIfInBounds_toArray, List.set_cons_zero, List.set_cons_succ])
        (refine sch_act (o := ?_) ?_ ?_; rotate_left; (· ((conv => lhs; whnf); try exact rfl)))
        go_wp2_with (first | (refine at_store (t := 32) ?_; go_must (refine own_storeSlW (e := 32) (sz := 5) (i := j) (v := .agg #[.int .i64 y.e.d.k, .int .i64 y.e.d.n, .string y.e.d.s, .slice y.a y.e.d.l.length y.c, .int .i64 y.e.t]) hO ?_ ?_ ?_ hS2 ?_ ?_ ?_ ?_ ?_; (· rfl); (· ((conv => lhs; whnf); try exact rfl)); (· rfl); (· exact HB.out.2); (· rfl); (· kernel_rfl); (· intro u hu; simp [Value.cells] at hu; rcases hu with rfl | rfl | rfl | rfl | rfl <;> rfl); clear hO; intro _ S3 hS3 hO; simp only [Act.put, List.setIfInBounds_toArray, List.set_cons_zero, List.set_cons_succ])))
        (replace hS3 : Sl 32 5 (some ⟨sb, 0, none⟩) os.length co (((cur.set i x).set j y).flatMap Oe.v) S3 := by rw [← HE2.out]; exact hS3)
        refine ⟨hO.as _, ?_⟩
        refine sch_done ?_
        have hl := HLN.out
        have hlt := HLT.out
        go_wp2_with fail
        go_roundw
        (case rel => have hjz := HJZ.out; have hr2 := HR2.out; exact ⟨i + 1, (j : Int) - 1, _, _, by go_num, rfl, by omega, HB.out.1, hr2, hS3, hO⟩)
        (case measure => (have hb := HB.out; clear hw0 hw1 hw2 hw3; simp [intOf]; omega))
    · have e := hR.stop (by rw [← hjz]; exact hlt)
      have hjj : ¬ (i : Int) < jz := hlt
      subst e
      clear hlt hjz hi hl hR
      go_wp2_with fail
      go_end0
      rw [← HPOST.out]
      exact ⟨SO, rfl, hS, hO⟩
end Go.Proofs.YticclennllklpaaDoor

/- The method: Range. (printed by wip/gen/genRQ.py) -/
namespace Go.Proofs.YticclennllklpaaDoor
open Go Go.RowKit Go.Own Go.Dt

theorem enc_ne (d : Dt) : d.enc ≠ [] := by
  unfold Dt.enc It.enc
  split
  · simp
  · split <;> simp
theorem inR_eq (of ot : Option Dt) (x : En) : inR of ot x = (decide (x.d.k ≠ 3) && !Op.bytesLess (encB x.d).toList (loS of).toList && ((loS ot).toList == [] || (Op.bytesLess (encB x.d).toList (loS ot).toList || (encB x.d).toList == (loS ot).toList))) := by
  have e0 : (loS none).toList = [] := by rw [show loS none = ByteArray.empty from rfl, Lib.toList_data]; rfl
  have l0 : Op.bytesLess (encB x.d).toList [] = false := by rw [bytes_lt]; simp
  have f1 : ∀ d : Dt, (!decide (x.d.enc < d.enc)) = !Op.bytesLess (encB x.d).toList (loS (some d)).toList := fun d => by
    show _ = !Op.bytesLess (encB x.d).toList (encB d).toList
    rw [bytes_lt, Lib.toList_data, Lib.toList_data]; rfl
  have f2 : ∀ d : Dt, (!decide (d.enc < x.d.enc)) = ((loS (some d)).toList == [] || (Op.bytesLess (encB x.d).toList (loS (some d)).toList || (encB x.d).toList == (loS (some d)).toList)) := fun d => by
    show _ = ((encB d).toList == [] || (Op.bytesLess (encB x.d).toList (encB d).toList || (encB x.d).toList == (encB d).toList))
    have e1 : ((encB d).toList == []) = false := by rw [Lib.toList_data]; exact beq_eq_false_iff_ne.2 (enc_ne d)
    have e2 : Op.bytesLess (encB x.d).toList (encB d).toList = decide (x.d.enc < d.enc) := by rw [bytes_lt, Lib.toList_data, Lib.toList_data]; rfl
    rw [e1, e2, encB_beq, gt_dec x.d.enc d.enc]
    simp
  cases of <;> cases ot
  · rw [e0, l0]; rfl
  · rename_i d; rw [e0, l0, ← f2 d]; rfl
  · rename_i d; rw [e0, ← f1 d]; rfl
  · rename_i d d'; rw [← f1 d, ← f2 d']; rfl
def oeH (h : Hl) : Oe := ⟨h.e, h.a, h.c⟩
def rgH (of ot : Option Dt) (hs : List Hl) : List Oe := (hs.filter fun h => inR of ot h.e).map oeH
theorem rgH_es (of ot : Option Dt) (hs : List Hl) : esO (rgH of ot hs) = (esOf hs).filter (inR of ot) := by
  unfold rgH esO esOf
  rw [List.map_map, List.filter_map]
  rfl
theorem rgH_skip {of ot : Option Dt} {l : List Hl} {x : Hl} (h : inR of ot x.e = false) : rgH of ot (l ++ [x]) = rgH of ot l := by
  unfold rgH
  rw [List.filter_append, List.filter_cons]
  simp [h]
theorem rgH_take {of ot : Option Dt} {l : List Hl} {x : Hl} (h : inR of ot x.e = true) : rgH of ot (l ++ [x]) = rgH of ot l ++ [oeH x] := by
  unfold rgH
  rw [List.filter_append, List.filter_cons]
  simp [h]
theorem rgH_le (of ot : Option Dt) (l : List Hl) : (rgH of ot l).length ≤ l.length := by
  unfold rgH
  rw [List.length_map]
  exact List.length_filter_le _ _
theorem rgH_mem {of ot : Option Dt} {l : List Hl} {o : Oe} (h : o ∈ rgH of ot l) : ∃ x ∈ l, o = oeH x := by
  unfold rgH at h
  obtain ⟨x, hx, rfl⟩ := List.mem_map.1 h
  exact ⟨x, (List.mem_filter.1 hx).1, rfl⟩
def RangeP (E : World) (A : Fr) (of ot : Option Dt) (b : Bool) (es : List En) (X : Fr) (e : Ending) (w' : World) : Prop :=
  ∃ (so : Option Addr) (co : Nat) (os : List Oe) (SO : Fr), e = .returned (.tuple #[.slice so os.length co, .int .i64 (rgE of ot)]) ∧ esO os = rgR of ot b es ∧ LAt E A so co os SO ∧ Own E w' (SO ++ (A ++ X))
set_option maxRecDepth 100000 in
set_option maxHeartbeats 16000000 in
theorem pRange (E w : World) (X R A I : Fr) (p : Nat) (hs : List Hl) (hl : hs.length ≤ 2000000000000) (hA : PlainAt E p hs A) (f t : Value) (of ot : Option Dt) (b : Bool) (hF1 : BdAt E I f of) (hF2 : BdAt E I t ot) (hG : MaxL E I) (hO : Own E w X) [hp : Pick X (A ++ I) R] :
    Calls Tryd.prog 19 #[.pointer (some ⟨p, 0, none⟩), f, t, .bool b] w (RangeP E A of ot b (esOf hs) (I ++ R)) := by
  replace hO : Own E w (A ++ (I ++ R)) := by have := hO.perm hp.perm; rwa [List.append_assoc] at this
  clear hp
  generalize hpost : RangeP E A of ot b (esOf hs) (I ++ R) = POST
  have HPOST := Lib.hid hpost
  clear hpost
  obtain ⟨sa, cap, S, FC, hE, hS, hFC, rfl⟩ := hA
  have HFC := Lib.hid hFC
  have HLN := Lib.hid hl
  clear hE hFC hl
  replace hO : Own E w (plainF p sa hs.length cap ++ (S ++ (FC ++ (I ++ R)))) := hO.as _
  go_enter Tryd.func19, Tryd.ntmps19
  go_wp2_with fail
  refine (pGiven E _ _ _ p hs.length cap sa hO).mono ?_
  rintro e w1 ⟨rfl, rfl⟩
  go_wp2_with fail
  refine (bounds9 E _ _ (plainF p sa hs.length cap ++ (S ++ (FC ++ R))) I f t of ot hF1 hF2 hG (hO.as (I ++ (plainF p sa hs.length cap ++ (S ++ (FC ++ R)))))).mono ?_
  clear hO
  rintro e w2 ⟨lo, hi, rfl, hr, hO⟩
  replace hO : Own E w2 (plainF p sa hs.length cap ++ (S ++ (FC ++ (I ++ R)))) := hO.as _
  rcases hr with ⟨hz, hlo, hhi⟩ | hz
  rotate_left
  · have HZ := Lib.hid hz
    have hb : (rgE of ot == 0) = false := beq_eq_false_iff_ne.2 hz
    clear hz
    go_wp2_with fail
    rw [← HPOST.out]
    exact ⟨none, 0, [], [], rfl, by unfold rgR; rw [if_neg HZ.out]; rfl, LAt.nil E _, hO.as _⟩
  rw [hz]
  have HZ := Lib.hid hz
  have HLO := Lib.hid hlo
  have HHI := Lib.hid hhi
  clear hz hlo hhi
  have cp : w2.cell? ⟨p, 1, none⟩ = some (.slice sa hs.length cap) := by
    have h9 : Own E w2 (pt p (.cells #[.bool true, .slice sa hs.length cap] 66 (0, 0)) ++ (S ++ (FC ++ (I ++ R)))) := hO.as (plainF p sa hs.length cap ++ (S ++ (FC ++ (I ++ R))))
    rw [h9.cell (b := p)]; rfl
  go_wp2_with fail
  have hO1 := hO
  clear hO cp
  go_loopw [13, 34] (fun o i wr => ∃ (j : Nat) (so : Option Addr) (co : Nat) (SO : Fr), i = .int .i64 (j : Int) ∧ j ≤ hs.length ∧ o = .slice so (rgH of ot (hs.take j)).length co ∧ Sl 32 5 so (rgH of ot (hs.take j)).length co ((rgH of ot (hs.take j)).flatMap Oe.v) SO ∧ Own E wr (SO ++ (plainF p sa hs.length cap ++ (S ++ (FC ++ (I ++ R)))))) (fun _ i _ => hs.length - (intOf i).toNat)
  case atStart => exact ⟨0, none, 0, [], rfl, Nat.zero_le _, rfl, Sl.nil _ _, hO1⟩
  case round =>
    clear hO1
    obtain ⟨j, so, co, SO, rfl, hj, rfl, hSO, hO⟩ := hrel
    have hl := HLN.out
    by_cases hlt : j < hs.length
    · have hj1 : (j : Int) < hs.length := by omega
      have g2 : (0 : Int) ≤ (j : Int) := by omega
      have hw0 : IntKind.i64.wrap ((j : Int) + 1) = (j : Int) + 1 := wi_1 j (by omega)
      have hw1 : wrap64 ((j : Int) + 1) = (j : Int) + 1 := w64_1 j (by omega)
      obtain ⟨sb, rfl⟩ := sl_some9 hS (by omega)
      obtain ⟨x, hx⟩ : ∃ x, hs[j]'hlt = x := ⟨_, rfl⟩
      have hsc : ∀ i v, x.v[i]? = some v → wr.cell? ((⟨sb, j * 6, none⟩ : Addr).add i) = some v := hx ▸ row_cells Hl.len hS hO hlt
      have HSC : Hid (∀ i v, ([.string (encB x.e.d), .int .i64 x.e.d.k, .int .i64 x.e.d.n, .string x.e.d.s, .slice x.a x.e.d.l.length x.c, .int .i64 x.e.t] : List Value)[i]? = some v → wr.cell? ((⟨sb, j * 6, none⟩ : Addr).add i) = some v) := Lib.hid hsc
      have HT := Lib.hid (show hs.take (j + 1) = hs.take j ++ [x] by rw [List.take_succ_eq_append_getElem hlt, hx])
      have HLT := Lib.hid hlt
      have hwl := rgH_le of ot (hs.take j)
      have hwl2 : (hs.take j).length ≤ j := by rw [List.length_take]; omega
      generalize hpl : rgH of ot (hs.take j) = pl at hSO hwl ⊢
      have HPL := Lib.hid hpl
      have hj64 : pl.length * 64 ≤ 128000000000000 := by omega
      have hin := inR_eq of ot x.e
      rw [← HLO.out, ← HHI.out] at hin
      clear hwl hwl2 hpl hx hsc hlt hj hl
      obtain ⟨b1, hb1⟩ : ∃ z, Op.bytesLess (encB x.e.d).toList lo.toList = z := ⟨_, rfl⟩
      obtain ⟨b2, hb2⟩ : ∃ z, (hi.toList == []) = z := ⟨_, rfl⟩
      obtain ⟨b3, hb3⟩ : ∃ z, Op.bytesLess (encB x.e.d).toList hi.toList = z := ⟨_, rfl⟩
      obtain ⟨b4, hb4⟩ : ∃ z, ((encB x.e.d).toList == hi.toList) = z := ⟨_, rfl⟩
      rw [hb1, hb2, hb3, hb4] at hin
      by_cases k3 : x.e.d.k = 3
      · rw [decide_eq_false (fun h => h k3)] at hin
        rw [k3] at HSC
        simp only [Bool.false_and] at hin
        clear k3
        have HIN : Hid (inR of ot x.e = false) := by rw [hin]; rfl
        clear hin
        go_wp2_with (first | (refine at_load (t := 79) ?_; go_must (refine own_loadC (ad := ⟨sb, j * 6, none⟩) (cs := [.string (encB x.e.d), .int .i64 3, .int .i64 x.e.d.n, .string x.e.d.s, .slice x.a x.e.d.l.length x.c, .int .i64 x.e.t]) ?_ HSC.out ?_ ?_ ?_ ?_; (· rfl); (· ((conv => lhs; whnf); try exact rfl)); (· simp; done); (· simp; done); simp only [Act.put, List.setIfInBounds_toArray, List.set_cons_zero, List.set_cons_succ])) | (refine at_alloc ?_; go_must (refine own_alloc (z := .agg #[.string .empty, .int .i64 0, .int .i64 0, .string .empty, .slice none 0 0, .int .i64 0]) hO ?_ ?_ ?_; (· rfl); (· kernel_rfl); clear hO; (try clear hF); intro hb _ hO; (try simp only [Value.cells] at hO); ((try simp only [List.nil_append, List.append_nil] at hO); have hF := Own.cells hO; simp only [cellsOf_append, cellsOf_pt] at hF); simp only [Act.put, List.setIfInBounds_toArray, List.set_cons_zero, List.set_cons_succ])) | (refine own_store (v := ?_) (off := 0) (b := hb) hO ?_ ?_ ?_ ?_ ?_ ?_ ?_; rotate_left; (· rfl); (· ((conv => lhs; whnf); try exact rfl)); (· ((conv => lhs; whnf); try exact rfl)); (· simp [Value.cells]); (· simp [Value.cells, Value.oneCell']); (· simp [Value.cells]); clear hO; (try clear hF); intro _ hO; (try simp only [splice, Value.cells] at hO); (simp only [List.setIfInBounds_toArray, List.set_cons_zero, List.set_cons_succ, Nat.zero_add, Nat.reduceAdd] at hO); ((try simp only [List.nil_append, List.append_nil] at hO); have hF := Own.cells hO; simp only [cellsOf_append, cellsOf_pt] at hF); simp only [Act.put, List.setIfInBounds_toArray, List.set_cons_zero, List.set_cons_succ]))
        have hlt := HLT.out
        all_goals (go_roundw; (case rel => exact ⟨j + 1, so, co, SO, by go_num, HLT.out, by rw [HT.out, rgH_skip HIN.out, HPL.out], by rw [HT.out, rgH_skip HIN.out, HPL.out]; exact hSO, hO.as _⟩); (case measure => (have hlt := HLT.out; clear hw0 hw1; simp [intOf]; omega)))
      · have hk3 : (x.e.d.k == 3) = false := beq_eq_false_iff_ne.2 k3
        rw [decide_eq_true k3] at hin
        cases b1
        · cases b2
          · cases b3
            · cases b4
              · have HIN : Hid (inR of ot x.e = false) := by rw [hin]; rfl
                clear hin
                go_wp2_with (first | (refine at_load (t := 79) ?_; go_must (refine own_loadC (ad := ⟨sb, j * 6, none⟩) (cs := [.string (encB x.e.d), .int .i64 x.e.d.k, .int .i64 x.e.d.n, .string x.e.d.s, .slice x.a x.e.d.l.length x.c, .int .i64 x.e.t]) ?_ HSC.out ?_ ?_ ?_ ?_; (· rfl); (· ((conv => lhs; whnf); try exact rfl)); (· simp; done); (· simp; done); simp only [Act.put, List.setIfInBounds_toArray, List.set_cons_zero, List.set_cons_succ])) | (refine at_alloc ?_; go_must (refine own_alloc (z := .agg #[.string .empty, .int .i64 0, .int .i64 0, .string .empty, .slice none 0 0, .int .i64 0]) hO ?_ ?_ ?_; (· rfl); (· kernel_rfl); clear hO; (try clear hF); intro hb _ hO; (try simp only [Value.cells] at hO); ((try simp only [List.nil_append, List.append_nil] at hO); have hF := Own.cells hO; simp only [cellsOf_append, cellsOf_pt] at hF); simp only [Act.put, List.setIfInBounds_toArray, List.set_cons_zero, List.set_cons_succ])) | (refine own_store (v := ?_) (off := 0) (b := hb) hO ?_ ?_ ?_ ?_ ?_ ?_ ?_; rotate_left; (· rfl); (· ((conv => lhs; whnf); try exact rfl)); (· ((conv => lhs; whnf); try exact rfl)); (· simp [Value.cells]); (· simp [Value.cells, Value.oneCell']); (· simp [Value.cells]); clear hO; (try clear hF); intro _ hO; (try simp only [splice, Value.cells] at hO); (simp only [List.setIfInBounds_toArray, List.set_cons_zero, List.set_cons_succ, Nat.zero_add, Nat.reduceAdd] at hO); ((try simp only [List.nil_append, List.append_nil] at hO); have hF := Own.cells hO; simp only [cellsOf_append, cellsOf_pt] at hF); simp only [Act.put, List.setIfInBounds_toArray, List.set_cons_zero, List.set_cons_succ]))
                have hlt := HLT.out
                all_goals (go_roundw; (case rel => exact ⟨j + 1, so, co, SO, by go_num, HLT.out, by rw [HT.out, rgH_skip HIN.out, HPL.out], by rw [HT.out, rgH_skip HIN.out, HPL.out]; exact hSO, hO.as _⟩); (case measure => (have hlt := HLT.out; clear hw0 hw1; simp [intOf]; omega)))
              · have HIN : Hid (inR of ot x.e = true) := by rw [hin]; rfl
                clear hin
                go_wp2_with (first | (refine at_load (t := 79) ?_; go_must (refine own_loadC (ad := ⟨sb, j * 6, none⟩) (cs := [.string (encB x.e.d), .int .i64 x.e.d.k, .int .i64 x.e.d.n, .string x.e.d.s, .slice x.a x.e.d.l.length x.c, .int .i64 x.e.t]) ?_ HSC.out ?_ ?_ ?_ ?_; (· rfl); (· ((conv => lhs; whnf); try exact rfl)); (· simp; done); (· simp; done); simp only [Act.put, List.setIfInBounds_toArray, List.set_cons_zero, List.set_cons_succ])) | (refine at_alloc ?_; go_must (refine own_alloc (z := .agg #[.string .empty, .int .i64 0, .int .i64 0, .string .empty, .slice none 0 0, .int .i64 0]) hO ?_ ?_ ?_; (· rfl); (· kernel_rfl); clear hO; (try clear hF); intro hb _ hO; (try simp only [Value.cells] at hO); ((try simp only [List.nil_append, List.append_nil] at hO); have hF := Own.cells hO; simp only [cellsOf_append, cellsOf_pt] at hF); simp only [Act.put, List.setIfInBounds_toArray, List.set_cons_zero, List.set_cons_succ])) | (refine own_store (v := ?_) (off := 0) (b := hb) hO ?_ ?_ ?_ ?_ ?_ ?_ ?_; rotate_left; (· rfl); (· ((conv => lhs; whnf); try exact rfl)); (· ((conv => lhs; whnf); try exact rfl)); (· simp [Value.cells]); (· simp [Value.cells, Value.oneCell']); (· simp [Value.cells]); clear hO; (try clear hF); intro _ hO; (try simp only [splice, Value.cells] at hO); (simp only [List.setIfInBounds_toArray, List.set_cons_zero, List.set_cons_succ, Nat.zero_add, Nat.reduceAdd] at hO); ((try simp only [List.nil_append, List.append_nil] at hO); have hF := Own.cells hO; simp only [cellsOf_append, cellsOf_pt] at hF); simp only [Act.put, List.setIfInBounds_toArray, List.set_cons_zero, List.set_cons_succ]) | (refine at_load (t := 32) ?_; refine Stop.go ?_))
                refine ⟨?_⟩
                refine own_loadC (ad := ⟨hb, 1, none⟩) (cs := [.int .i64 x.e.d.k, .int .i64 x.e.d.n, .string x.e.d.s, .slice x.a x.e.d.l.length x.c, .int .i64 x.e.t]) ?_ (five_at1 hO (hh := inferInstance)) ?_ ?_ ?_ ?_; (· rfl); (· ((conv => lhs; whnf); try exact rfl)); (· simp; done); (· simp; done); simp only [Act.put, List.setIfInBounds_toArray, List.set_cons_zero, List.set_cons_succ]
                go_wp2_with (first | (refine at_bs ?_; go_must (refine own_build1 (v := ?_) sltE hO ?_ ?_ ?_ ?_ ?_ ?_; rotate_left; (· rfl); (· ((conv => lhs; whnf); try exact rfl)); (· rfl); (· decide); (· decide); clear hO; (try clear hF); intro bs _ hO; (try simp only [Value.cells] at hO); ((try simp only [List.nil_append, List.append_nil] at hO); have hF := Own.cells hO; simp only [cellsOf_append, cellsOf_pt] at hF); simp only [Act.put, List.setIfInBounds_toArray, List.set_cons_zero, List.set_cons_succ])) | (refine at_append ?_; refine Stop.go ?_))
                refine ⟨?_⟩
                (refine own_append_elem (b1 := ?_) (cs := ?_) (e1 := ?_) (f1 := ?_) sltE hO ?_ ?_ ?_ hSO ?_ ?_ ?_ ?_ ?_ ?_ ?_; rotate_left 4; (· rfl); (· rfl); (· rfl); (· exact inferInstance); (· rfl); (· intro u hu; simp at hu; rcases hu with rfl | rfl | rfl | rfl | rfl <;> rfl); (· first | omega | (simp only [maxLen]; omega)); (· decide); (· first | omega | (simp only [maxLen]; omega)); clear hO; (try clear hF); intro so3 co3 SO3 w6 hSO3 hO; ((try simp only [List.nil_append, List.append_nil] at hO); have hF := Own.cells hO; simp only [cellsOf_append, cellsOf_pt] at hF); simp only [Act.put, List.setIfInBounds_toArray, List.set_cons_zero, List.set_cons_succ])
                go_wp2_with fail
                have hlt := HLT.out
                go_roundw
                case rel =>
                  refine ⟨j + 1, so3, co3, SO3, by go_num, hlt, ?p1, ?p2, hO.as _⟩
                  case p1 => rw [HT.out, rgH_take HIN.out, HPL.out, List.length_append]; rfl
                  case p2 => rw [HT.out, rgH_take HIN.out, HPL.out, List.length_append, List.flatMap_append]; exact hSO3
                case measure => (clear hw0 hw1; simp [intOf]; omega)
            · skip
              have HIN : Hid (inR of ot x.e = true) := by rw [hin]; rfl
              clear hin
              go_wp2_with (first | (refine at_load (t := 79) ?_; go_must (refine own_loadC (ad := ⟨sb, j * 6, none⟩) (cs := [.string (encB x.e.d), .int .i64 x.e.d.k, .int .i64 x.e.d.n, .string x.e.d.s, .slice x.a x.e.d.l.length x.c, .int .i64 x.e.t]) ?_ HSC.out ?_ ?_ ?_ ?_; (· rfl); (· ((conv => lhs; whnf); try exact rfl)); (· simp; done); (· simp; done); simp only [Act.put, List.setIfInBounds_toArray, List.set_cons_zero, List.set_cons_succ])) | (refine at_alloc ?_; go_must (refine own_alloc (z := .agg #[.string .empty, .int .i64 0, .int .i64 0, .string .empty, .slice none 0 0, .int .i64 0]) hO ?_ ?_ ?_; (· rfl); (· kernel_rfl); clear hO; (try clear hF); intro hb _ hO; (try simp only [Value.cells] at hO); ((try simp only [List.nil_append, List.append_nil] at hO); have hF := Own.cells hO; simp only [cellsOf_append, cellsOf_pt] at hF); simp only [Act.put, List.setIfInBounds_toArray, List.set_cons_zero, List.set_cons_succ])) | (refine own_store (v := ?_) (off := 0) (b := hb) hO ?_ ?_ ?_ ?_ ?_ ?_ ?_; rotate_left; (· rfl); (· ((conv => lhs; whnf); try exact rfl)); (· ((conv => lhs; whnf); try exact rfl)); (· simp [Value.cells]); (· simp [Value.cells, Value.oneCell']); (· simp [Value.cells]); clear hO; (try clear hF); intro _ hO; (try simp only [splice, Value.cells] at hO); (simp only [List.setIfInBounds_toArray, List.set_cons_zero, List.set_cons_succ, Nat.zero_add, Nat.reduceAdd] at hO); ((try simp only [List.nil_append, List.append_nil] at hO); have hF := Own.cells hO; simp only [cellsOf_append, cellsOf_pt] at hF); simp only [Act.put, List.setIfInBounds_toArray, List.set_cons_zero, List.set_cons_succ]) | (refine at_load (t := 32) ?_; refine Stop.go ?_))
              refine ⟨?_⟩
              refine own_loadC (ad := ⟨hb, 1, none⟩) (cs := [.int .i64 x.e.d.k, .int .i64 x.e.d.n, .string x.e.d.s, .slice x.a x.e.d.l.length x.c, .int .i64 x.e.t]) ?_ (five_at1 hO (hh := inferInstance)) ?_ ?_ ?_ ?_; (· rfl); (· ((conv => lhs; whnf); try exact rfl)); (· simp; done); (· simp; done); simp only [Act.put, List.setIfInBounds_toArray, List.set_cons_zero, List.set_cons_succ]
              go_wp2_with (first | (refine at_bs ?_; go_must (refine own_build1 (v := ?_) sltE hO ?_ ?_ ?_ ?_ ?_ ?_; rotate_left; (· rfl); (· ((conv => lhs; whnf); try exact rfl)); (· rfl); (· decide); (· decide); clear hO; (try clear hF); intro bs _ hO; (try simp only [Value.cells] at hO); ((try simp only [List.nil_append, List.append_nil] at hO); have hF := Own.cells hO; simp only [cellsOf_append, cellsOf_pt] at hF); simp only [Act.put, List.setIfInBounds_toArray, List.set_cons_zero, List.set_cons_succ])) | (refine at_append ?_; refine Stop.go ?_))
              refine ⟨?_⟩
              (refine own_append_elem (b1 := ?_) (cs := ?_) (e1 := ?_) (f1 := ?_) sltE hO ?_ ?_ ?_ hSO ?_ ?_ ?_ ?_ ?_ ?_ ?_; rotate_left 4; (· rfl); (· rfl); (· rfl); (· exact inferInstance); (· rfl); (· intro u hu; simp at hu; rcases hu with rfl | rfl | rfl | rfl | rfl <;> rfl); (· first | omega | (simp only [maxLen]; omega)); (· decide); (· first | omega | (simp only [maxLen]; omega)); clear hO; (try clear hF); intro so3 co3 SO3 w6 hSO3 hO; ((try simp only [List.nil_append, List.append_nil] at hO); have hF := Own.cells hO; simp only [cellsOf_append, cellsOf_pt] at hF); simp only [Act.put, List.setIfInBounds_toArray, List.set_cons_zero, List.set_cons_succ])
              go_wp2_with fail
              have hlt := HLT.out
              go_roundw
              case rel =>
                refine ⟨j + 1, so3, co3, SO3, by go_num, hlt, ?p1, ?p2, hO.as _⟩
                case p1 => rw [HT.out, rgH_take HIN.out, HPL.out, List.length_append]; rfl
                case p2 => rw [HT.out, rgH_take HIN.out, HPL.out, List.length_append, List.flatMap_append]; exact hSO3
              case measure => (clear hw0 hw1; simp [intOf]; omega)
          · have hhe : hi = ByteArray.empty := by
              have h1 := eq_of_beq hb2
              rw [Lib.toList_data] at h1
              exact toList_inj h1
            clear hb2 hb3 hb4
            subst hhe
            have hb7 : ((ByteArray.empty : ByteArray).toList == ([] : List UInt8)) = true := by rw [Lib.toList_data]; rfl
            have hb8 : (ByteArray.empty : ByteArray).toList = [] := by rw [Lib.toList_data]; rfl
            have HIN : Hid (inR of ot x.e = true) := by rw [hin]; rfl
            clear hin
            go_wp2_with (first | (refine at_load (t := 79) ?_; go_must (refine own_loadC (ad := ⟨sb, j * 6, none⟩) (cs := [.string (encB x.e.d), .int .i64 x.e.d.k, .int .i64 x.e.d.n, .string x.e.d.s, .slice x.a x.e.d.l.length x.c, .int .i64 x.e.t]) ?_ HSC.out ?_ ?_ ?_ ?_; (· rfl); (· ((conv => lhs; whnf); try exact rfl)); (· simp; done); (· simp; done); simp only [Act.put, List.setIfInBounds_toArray, List.set_cons_zero, List.set_cons_succ])) | (refine at_alloc ?_; go_must (refine own_alloc (z := .agg #[.string .empty, .int .i64 0, .int .i64 0, .string .empty, .slice none 0 0, .int .i64 0]) hO ?_ ?_ ?_; (· rfl); (· kernel_rfl); clear hO; (try clear hF); intro hb _ hO; (try simp only [Value.cells] at hO); ((try simp only [List.nil_append, List.append_nil] at hO); have hF := Own.cells hO; simp only [cellsOf_append, cellsOf_pt] at hF); simp only [Act.put, List.setIfInBounds_toArray, List.set_cons_zero, List.set_cons_succ])) | (refine own_store (v := ?_) (off := 0) (b := hb) hO ?_ ?_ ?_ ?_ ?_ ?_ ?_; rotate_left; (· rfl); (· ((conv => lhs; whnf); try exact rfl)); (· ((conv => lhs; whnf); try exact rfl)); (· simp [Value.cells]); (· simp [Value.cells, Value.oneCell']); (· simp [Value.cells]); clear hO; (try clear hF); intro _ hO; (try simp only [splice, Value.cells] at hO); (simp only [List.setIfInBounds_toArray, List.set_cons_zero, List.set_cons_succ, Nat.zero_add, Nat.reduceAdd] at hO); ((try simp only [List.nil_append, List.append_nil] at hO); have hF := Own.cells hO; simp only [cellsOf_append, cellsOf_pt] at hF); simp only [Act.put, List.setIfInBounds_toArray, List.set_cons_zero, List.set_cons_succ]) | (refine at_load (t := 32) ?_; refine Stop.go ?_))
            refine ⟨?_⟩
            refine own_loadC (ad := ⟨hb, 1, none⟩) (cs := [.int .i64 x.e.d.k, .int .i64 x.e.d.n, .string x.e.d.s, .slice x.a x.e.d.l.length x.c, .int .i64 x.e.t]) ?_ (five_at1 hO (hh := inferInstance)) ?_ ?_ ?_ ?_; (· rfl); (· ((conv => lhs; whnf); try exact rfl)); (· simp; done); (· simp; done); simp only [Act.put, List.setIfInBounds_toArray, List.set_cons_zero, List.set_cons_succ]
            go_wp2_with (first | (refine at_bs ?_; go_must (refine own_build1 (v := ?_) sltE hO ?_ ?_ ?_ ?_ ?_ ?_; rotate_left; (· rfl); (· ((conv => lhs; whnf); try exact rfl)); (· rfl); (· decide); (· decide); clear hO; (try clear hF); intro bs _ hO; (try simp only [Value.cells] at hO); ((try simp only [List.nil_append, List.append_nil] at hO); have hF := Own.cells hO; simp only [cellsOf_append, cellsOf_pt] at hF); simp only [Act.put, List.setIfInBounds_toArray, List.set_cons_zero, List.set_cons_succ])) | (refine at_append ?_; refine Stop.go ?_))
            refine ⟨?_⟩
            (refine own_append_elem (b1 := ?_) (cs := ?_) (e1 := ?_) (f1 := ?_) sltE hO ?_ ?_ ?_ hSO ?_ ?_ ?_ ?_ ?_ ?_ ?_; rotate_left 4; (· rfl); (· rfl); (· rfl); (· exact inferInstance); (· rfl); (· intro u hu; simp at hu; rcases hu with rfl | rfl | rfl | rfl | rfl <;> rfl); (· first | omega | (simp only [maxLen]; omega)); (· decide); (· first | omega | (simp only [maxLen]; omega)); clear hO; (try clear hF); intro so3 co3 SO3 w6 hSO3 hO; ((try simp only [List.nil_append, List.append_nil] at hO); have hF := Own.cells hO; simp only [cellsOf_append, cellsOf_pt] at hF); simp only [Act.put, List.setIfInBounds_toArray, List.set_cons_zero, List.set_cons_succ])
            go_wp2_with fail
            have hlt := HLT.out
            go_roundw
            case rel =>
              refine ⟨j + 1, so3, co3, SO3, by go_num, hlt, ?p1, ?p2, hO.as _⟩
              case p1 => rw [HT.out, rgH_take HIN.out, HPL.out, List.length_append]; rfl
              case p2 => rw [HT.out, rgH_take HIN.out, HPL.out, List.length_append, List.flatMap_append]; exact hSO3
            case measure => (clear hw0 hw1; simp [intOf]; omega)
        · skip
          have HIN : Hid (inR of ot x.e = false) := by rw [hin]; rfl
          clear hin
          go_wp2_with (first | (refine at_load (t := 79) ?_; go_must (refine own_loadC (ad := ⟨sb, j * 6, none⟩) (cs := [.string (encB x.e.d), .int .i64 x.e.d.k, .int .i64 x.e.d.n, .string x.e.d.s, .slice x.a x.e.d.l.length x.c, .int .i64 x.e.t]) ?_ HSC.out ?_ ?_ ?_ ?_; (· rfl); (· ((conv => lhs; whnf); try exact rfl)); (· simp; done); (· simp; done); simp only [Act.put, List.setIfInBounds_toArray, List.set_cons_zero, List.set_cons_succ])) | (refine at_alloc ?_; go_must (refine own_alloc (z := .agg #[.string .empty, .int .i64 0, .int .i64 0, .string .empty, .slice none 0 0, .int .i64 0]) hO ?_ ?_ ?_; (· rfl); (· kernel_rfl); clear hO; (try clear hF); intro hb _ hO; (try simp only [Value.cells] at hO); ((try simp only [List.nil_append, List.append_nil] at hO); have hF := Own.cells hO; simp only [cellsOf_append, cellsOf_pt] at hF); simp only [Act.put, List.setIfInBounds_toArray, List.set_cons_zero, List.set_cons_succ])) | (refine own_store (v := ?_) (off := 0) (b := hb) hO ?_ ?_ ?_ ?_ ?_ ?_ ?_; rotate_left; (· rfl); (· ((conv => lhs; whnf); try exact rfl)); (· ((conv => lhs; whnf); try exact rfl)); (· simp [Value.cells]); (· simp [Value.cells, Value.oneCell']); (· simp [Value.cells]); clear hO; (try clear hF); intro _ hO; (try simp only [splice, Value.cells] at hO); (simp only [List.setIfInBounds_toArray, List.set_cons_zero, List.set_cons_succ, Nat.zero_add, Nat.reduceAdd] at hO); ((try simp only [List.nil_append, List.append_nil] at hO); have hF := Own.cells hO; simp only [cellsOf_append, cellsOf_pt] at hF); simp only [Act.put, List.setIfInBounds_toArray, List.set_cons_zero, List.set_cons_succ]))
          have hlt := HLT.out
          all_goals (go_roundw; (case rel => exact ⟨j + 1, so, co, SO, by go_num, HLT.out, by rw [HT.out, rgH_skip HIN.out, HPL.out], by rw [HT.out, rgH_skip HIN.out, HPL.out]; exact hSO, hO.as _⟩); (case measure => (have hlt := HLT.out; clear hw0 hw1; simp [intOf]; omega)))
    · obtain rfl : j = hs.length := Nat.le_antisymm hj (Nat.le_of_not_lt hlt)
      have hjj : ¬ (hs.length : Int) < hs.length := by omega
      rw [List.take_length] at hSO ⊢
      have hol : (rgH of ot hs).length ≤ 2000000000000 := Nat.le_trans (rgH_le of ot hs) hl
      have hits : ∀ o ∈ rgH of ot hs, ItemsAt E (plainF p sa hs.length cap ++ (S ++ FC)) o.a o.e.d.l := fun o ho => by
        obtain ⟨x, hx, rfl⟩ := rgH_mem ho
        refine (HFC.out x hx).of (K := plainF p sa hs.length cap ++ S) ?_
        rw [← List.append_assoc]
        exact List.perm_append_comm
      have HITS := Lib.hid hits
      have hes := rgH_es of ot hs
      have HES := Lib.hid hes
      generalize hq : rgH of ot hs = q at hSO hol ⊢
      rw [hq] at HITS HES
      clear hj hlt hl hits hes hq
      cases b
      · go_wp2_with fail
        rw [← HPOST.out]
        exact ⟨so, co, q, SO, by rw [HZ.out] <;> rfl, by unfold rgR rgL; rw [if_pos HZ.out, if_neg (by decide)]; exact HES.out, ⟨hSO, HITS.out⟩, hO.as _⟩
      · go_wp2_with fail
        refine (revE E _ _ (plainF p sa hs.length cap ++ (S ++ (FC ++ (I ++ R)))) SO so co q hol hSO hO).mono ?_
        clear hO
        rintro e w5 ⟨S', rfl, hS', hO⟩
        go_wp2_with fail
        rw [← HPOST.out]
        refine ⟨so, co, q.reverse, S', by rw [HZ.out, List.length_reverse] <;> rfl, ?_, ⟨by rw [List.length_reverse]; exact hS', fun o ho => HITS.out o (List.mem_reverse.1 ho)⟩, hO.as _⟩
        unfold rgR rgL
        rw [if_pos HZ.out, if_pos rfl, ← HES.out]
        exact List.map_reverse
end Go.Proofs.YticclennllklpaaDoor
