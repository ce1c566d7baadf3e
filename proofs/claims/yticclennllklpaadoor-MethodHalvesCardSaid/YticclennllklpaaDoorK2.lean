/- Plain: same data; the run of a key. -/
import Derived.Test.YticclennllklpaaDoorK1
import Derived.Lib.Strings
import Derived.Test.YticclennllklpaaDoorRows
import Derived.Shelf.Abstract
import Derived.WalkKit
import Derived.Lib.Hide
import Derived.Shelf.Strings.Replace
import Derived.Ground.NamesProg
import Derived.Shelf.Small.Strs
set_option linter.all false
/- Plain: same data; the run of a key. -/
namespace Go.Dt
open Go

def sameI (x y : It) : Bool := x.k == y.k && x.n == y.n && (x.s.toList == y.s.toList) && (x.m + y.m == 0)
def allSame : List It → List It → Bool
  | x :: a, y :: b => sameI x y && allSame a b
  | _, _ => true
def sameB (a b : Dt) : Bool := a.k == b.k && a.n == b.n && (a.s.toList == b.s.toList) && (a.l.length == b.l.length) && allSame a.l b.l
theorem bytes_eq {a b : ByteArray} (h : (a.toList == b.toList) = true) : a = b := by
  have h1 : a.toList = b.toList := by simpa using h
  rw [Lib.toList_data, Lib.toList_data] at h1
  exact toList_inj h1
theorem allSame_eq : ∀ (a b : List It), a.length = b.length → allSame a b = true → (∀ x ∈ a, x.m = 0) → (∀ x ∈ b, x.m = 0) → a = b
  | [], [], _, _, _, _ => rfl
  | [], _ :: _, h, _, _, _ => by simp at h
  | _ :: _, [], h, _, _, _ => by simp at h
  | x :: a, y :: b, hl, h, ha, hb => by
    unfold allSame at h
    rw [Bool.and_eq_true] at h
    have h1 := h.1
    unfold sameI at h1
    simp only [Bool.and_eq_true, beq_iff_eq] at h1
    obtain ⟨⟨⟨h2, h3⟩, h4⟩, h5⟩ := h1
    have e := allSame_eq a b (by simpa using hl) h.2 (fun z hz => ha z (List.mem_cons_of_mem _ hz)) (fun z hz => hb z (List.mem_cons_of_mem _ hz))
    have hs : x.s = y.s := bytes_eq (by rw [h4]; exact beq_self_eq_true _)
    obtain ⟨xk, xn, xs, xm⟩ := x
    obtain ⟨yk, yn, ys, ym⟩ := y
    simp only at h2 h3 hs h5
    subst h2 h3 hs
    rw [e, show xm = ym by omega]
theorem allSame_refl : ∀ (a : List It), (∀ x ∈ a, x.m = 0) → allSame a a = true
  | [], _ => rfl
  | x :: a, h => by
    unfold allSame
    rw [allSame_refl a fun y hy => h y (List.mem_cons_of_mem _ hy), Bool.and_true]
    unfold sameI
    rw [beq_self_eq_true, beq_self_eq_true, beq_self_eq_true, h x (List.mem_cons_self ..)]
    rfl
theorem Dt.items0 {d : Dt} (h : d.ok = true) : ∀ x ∈ d.l, x.m = 0 := by
  by_cases hk : d.k = 3
  · exact fun x hx => (It.ok_or ((Dt.ok_list hk h).2.2.2 x hx)).1
  · have h1 := (It.ok_or (Dt.ok_one hk h)).1
    have h2 : d.l = [] := List.eq_nil_of_length_eq_zero h1
    rw [h2]
    exact fun _ hx => (nomatch hx)
theorem sameB_iff {a b : Dt} (ha : a.ok = true) (hb : b.ok = true) : sameB a b = true ↔ a = b := by
  constructor
  · intro h
    unfold sameB at h
    simp only [Bool.and_eq_true, beq_iff_eq] at h
    obtain ⟨⟨⟨⟨h1, h2⟩, h3⟩, h4⟩, h5⟩ := h
    have e := allSame_eq a.l b.l h4 h5 (Dt.items0 ha) (Dt.items0 hb)
    have hs : a.s = b.s := bytes_eq (by rw [h3]; exact beq_self_eq_true _)
    obtain ⟨ak, an, az, al⟩ := a
    obtain ⟨bk, bn, bz, bl⟩ := b
    simp only at h1 h2 hs e
    rw [h1, h2, hs, e]
  · rintro rfl
    unfold sameB
    rw [beq_self_eq_true, beq_self_eq_true, beq_self_eq_true, beq_self_eq_true, allSame_refl _ (Dt.items0 ha)]
    rfl
theorem sameB_dec {a b : Dt} (ha : a.ok = true) (hb : b.ok = true) : sameB a b = decide (a = b) := by
  by_cases h : a = b
  · rw [(sameB_iff ha hb).2 h, decide_eq_true h]
  · rw [decide_eq_false h, ← Bool.not_eq_true]
    exact fun h2 => h ((sameB_iff ha hb).1 h2)
/-- The run of a key's entries from the place on at which the first one stands, or would. -/
theorem key_run {l : List En} (h : Es l) {d : Dt} (hd : d.ok = true) (wd : d.wf) (at_ : Nat) (h1 : ∀ i (hi : i < l.length), i < at_ → elt l[i] ⟨d, 0⟩) (h2 : ∀ i (hi : i < l.length), at_ ≤ i → ¬ elt l[i] ⟨d, 0⟩) :
    keyE l d = (l.drop at_).takeWhile fun x => decide (x.d.enc = d.enc) := by
  have hk : ∀ x ∈ l, (decide (x.d = d)) = decide (x.d.enc = d.enc) := fun x hx => by
    obtain ⟨o1, o2, _⟩ := h.ok x hx
    by_cases e : x.d = d
    · rw [e]; simp
    · rw [decide_eq_false e, decide_eq_false]
      exact fun e2 => e (Dt.enc_inj o1 hd o2 wd e2)
  have hpre : ∀ x ∈ l.take at_, ¬ x.d.enc = d.enc := fun x hx e => by
    obtain ⟨i, hi, rfl⟩ := List.mem_iff_getElem.1 hx
    rw [List.length_take] at hi
    rw [List.getElem_take] at e
    have hil : i < l.length := by omega
    rcases h1 i hil (by omega) with h3 | ⟨_, h3⟩
    · rw [e] at h3; exact List.lt_irrefl _ h3
    · have := (h.ok _ (List.getElem_mem hil)).2.2.1
      simp only at h3
      omega
  unfold keyE
  rw [List.filter_congr hk]
  conv => lhs; rw [← List.take_append_drop at_ l]
  rw [List.filter_append, List.filter_eq_nil_iff.2 (fun x hx => by simpa using hpre x hx), List.nil_append]
  -- behind the place: the run, then keys above
  have hge : ∀ x ∈ l.drop at_, ¬ x.d.enc < d.enc := fun x hx h3 => by
    obtain ⟨i, hi, rfl⟩ := List.mem_iff_getElem.1 hx
    rw [List.length_drop] at hi
    rw [List.getElem_drop] at h3
    exact h2 (at_ + i) (by omega) (by omega) (.inl h3)
  have hup : (l.drop at_).Pairwise elt := h.up.sublist (List.drop_sublist _ _)
  generalize l.drop at_ = m at hge hup
  induction m with
  | nil => rfl
  | cons x m ih =>
    have hup' := List.pairwise_cons.1 hup
    by_cases e : x.d.enc = d.enc
    · rw [List.filter_cons_of_pos (by simpa using e), List.takeWhile_cons_of_pos (by simpa using e), ih (fun y hy => hge y (List.mem_cons_of_mem _ hy)) hup'.2]
    · rw [List.filter_cons_of_neg (by simpa using e), List.takeWhile_cons_of_neg (by simpa using e)]
      rw [List.filter_eq_nil_iff]
      intro y hy e2
      have e3 : y.d.enc = d.enc := by simpa using e2
      rcases hup'.1 y hy with h3 | ⟨h3, _⟩
      · rw [e3] at h3
        exact hge x (List.mem_cons_self ..) h3
      · exact e (h3.trans e3)
end Go.Dt

/- Plain: the comparison of entries; where one stands. -/
namespace Go.Dt
open Go

def cmpI (x y : Int) : Int := if x < y then -1 else if y < x then 1 else 0
def orI (a b : Int) : Int := if a = 0 then b else a
def cmpE (a b : En) : Int := orI (Lib.compareBytes a.d.enc b.d.enc) (cmpI a.t b.t)
theorem cmpE_cases (a b : En) : (cmpE a b = -1 ∧ elt a b) ∨ (cmpE a b = 0 ∧ a.d.enc = b.d.enc ∧ a.t = b.t) ∨ (cmpE a b = 1 ∧ elt b a) := by
  unfold cmpE orI
  rcases cmpB a.d.enc b.d.enc with ⟨h1, h2⟩ | ⟨h1, h2⟩ | ⟨h1, h2⟩
  · rw [h1, if_neg (by decide)]
    exact .inl ⟨rfl, .inl h2⟩
  · rw [h1, if_pos rfl]
    unfold cmpI
    by_cases h3 : a.t < b.t
    · rw [if_pos h3]
      exact .inl ⟨rfl, .inr ⟨h2, h3⟩⟩
    · rw [if_neg h3]
      by_cases h4 : b.t < a.t
      · rw [if_pos h4]
        exact .inr (.inr ⟨rfl, .inr ⟨h2.symm, h4⟩⟩)
      · rw [if_neg h4]
        exact .inr (.inl ⟨rfl, h2, by omega⟩)
  · rw [h1, if_neg (by decide)]
    exact .inr (.inr ⟨rfl, .inl h2⟩)
theorem cmpE_lt {a b : En} : cmpE a b < 0 ↔ elt a b := by
  rcases cmpE_cases a b with ⟨h1, h2⟩ | ⟨h1, h2, h3⟩ | ⟨h1, h2⟩
  · rw [h1]; exact ⟨fun _ => h2, fun _ => by decide⟩
  · rw [h1]; exact ⟨fun h => absurd h (by decide), fun h => by
      rcases h with h | ⟨_, h⟩
      · rw [h2] at h; exact absurd h (List.lt_irrefl _)
      · omega⟩
  · rw [h1]; exact ⟨fun h => absurd h (by decide), fun h => (elt_asymm h h2).elim⟩
theorem cmpE_eq {a b : En} : cmpE a b = 0 ↔ a.d.enc = b.d.enc ∧ a.t = b.t := by
  rcases cmpE_cases a b with ⟨h1, h2⟩ | ⟨h1, h2, h3⟩ | ⟨h1, h2⟩
  · rw [h1]; exact ⟨fun h => absurd h (by decide), fun ⟨e1, e2⟩ => by
      rcases h2 with h | ⟨_, h⟩
      · rw [e1] at h; exact absurd h (List.lt_irrefl _)
      · omega⟩
  · rw [h1]; exact ⟨fun _ => ⟨h2, h3⟩, fun _ => rfl⟩
  · rw [h1]; exact ⟨fun h => absurd h (by decide), fun ⟨e1, e2⟩ => by
      rcases h2 with h | ⟨_, h⟩
      · rw [e1] at h; exact absurd h (List.lt_irrefl _)
      · omega⟩
/-- The place of an entry: those ahead of it, and the others. -/
structure At (l : List En) (e : En) (k : Nat) : Prop where
  le : k ≤ l.length
  lo : ∀ i (h : i < l.length), i < k → elt l[i] e
  hi : ∀ i (h : i < l.length), k ≤ i → ¬ elt l[i] e
/-- Does it stand there? -/
def thereE (l : List En) (e : En) (k : Nat) : Bool := (l[k]?.map fun x => decide (cmpE x e = 0)).getD false
theorem At.there {l : List En} (hl : Es l) {e : En} (he : e.ok) {k : Nat} (h : At l e k) : thereE l e k = decide (e ∈ l) := by
  unfold thereE
  by_cases hk : k < l.length
  · rw [List.getElem?_eq_getElem hk, Option.map_some, Option.getD_some]
    by_cases hm : e ∈ l
    · rw [decide_eq_true hm]
      obtain ⟨i, hi, hei⟩ := List.mem_iff_getElem.1 hm
      have e1 : k = i := by
        rcases Nat.lt_trichotomy k i with h1 | h1 | h1
        · exfalso
          have h2 := List.pairwise_iff_getElem.1 hl.up k i hk hi h1
          rw [hei] at h2
          exact h.hi k hk (Nat.le_refl _) h2
        · exact h1
        · exfalso
          have h2 := h.lo i hi h1
          rw [hei] at h2
          exact elt_irrefl e h2
      subst e1
      rw [hei, decide_eq_true]
      exact cmpE_eq.2 ⟨rfl, rfl⟩
    · rw [decide_eq_false hm, decide_eq_false]
      intro h0
      obtain ⟨h1, h2⟩ := cmpE_eq.1 h0
      exact hm (En.same (hl.ok _ (List.getElem_mem hk)) he h1 h2 ▸ List.getElem_mem hk)
  · rw [List.getElem?_eq_none (by omega)]
    show false = _
    symm
    rw [decide_eq_false_iff_not]
    intro hm
    obtain ⟨i, hi, hei⟩ := List.mem_iff_getElem.1 hm
    have h2 := h.lo i hi (by omega)
    rw [hei] at h2
    exact elt_irrefl e h2
theorem At.ins {l : List En} (hl : Es l) {e : En} (he : e.ok) {k : Nat} (h : At l e k) (hm : e ∉ l) : wiE e l = l.take k ++ e :: l.drop k :=
  wiE_at e l k h.le h.lo fun i hi hk => by
    rcases elt_tri l[i] e with h1 | ⟨h1, h2⟩ | h1
    · exact (h.hi i hi hk h1).elim
    · exact absurd (En.same (hl.ok _ (List.getElem_mem hi)) he h1 h2 ▸ List.getElem_mem hi) hm
    · exact h1
theorem At.get {l : List En} (hl : Es l) {e : En} (he : e.ok) {k : Nat} (h : At l e k) (hm : e ∈ l) : ∃ hk : k < l.length, l[k] = e := by
  have h1 := h.there hl he
  rw [decide_eq_true hm] at h1
  unfold thereE at h1
  by_cases hk : k < l.length
  · refine ⟨hk, ?_⟩
    rw [List.getElem?_eq_getElem hk, Option.map_some, Option.getD_some] at h1
    obtain ⟨h2, h3⟩ := cmpE_eq.1 (of_decide_eq_true h1)
    exact En.same (hl.ok _ (List.getElem_mem hk)) he h2 h3
  · rw [List.getElem?_eq_none (by omega)] at h1
    exact absurd (show false = true from h1) (by decide)
end Go.Dt

/- Copying rows of ours. -/
namespace Go.Own
open Go.RowKit
section
variable {P : Program} {ops : Array Oper} {Q : Exit → Act → World → Prop} {rest : List Oper} {a : Act} {E w : World} {X A R : Fr} {d : Option Tmp} {ty : TypeId} {pos : String} {aft : Array Edge} {g : Option (Nat × Bool)}
/-- copy into a slice of ours, from its l-th element on; m elements, read ahead of the writing. -/
theorem own_copy_sl {t tx e : TypeId} {sz bytes : Nat} {z : Value} {dx sx : Operand} {sa da ua : Option Addr} {n cap dn dc un uc l m : Nat} {xs news : List Value} (hT : SlT P t e sz bytes z) (hO : Own E w X)
    (hw : Region.wanted ⟨d, .call { callee := .builtin .copy, args := #[dx, sx], argTypes := #[t, tx] }, ty, pos, aft, g⟩ (yielded ops a.tmps) = true)
    (hd : a.eval dx = .slice da dn dc) (hs : a.eval sx = .slice ua un uc) (hv : Sl e sz sa n cap xs A) [hp : Pick X A R]
    (hm : Nat.min un dn = m) (hnews : (Builtin.firstCells sz m (.slice ua un uc)).run P w = .ok news.toArray w) (hl2 : news.length = m * sz) (h1 : ∀ u ∈ news, u.oneCell' = true)
    (hda : 0 < m → da = sa.map (·.add (l * sz))) (hl : l + m ≤ n)
    (next : ∀ A' w1, Sl e sz sa n cap (xs.take (l * sz) ++ news ++ xs.drop ((l + m) * sz)) A' → Own E w1 (A' ++ R) → wpList P ops Q rest (a.put d (.int .i64 m)) w1) :
    wpList P ops Q (⟨d, .call { callee := .builtin .copy, args := #[dx, sx], argTypes := #[t, tx] }, ty, pos, aft, g⟩ :: rest) a w := by
  have hO1 : Own E w (A ++ R) := hO.perm hp.perm
  have hxl : xs.length = n * sz := hv.1
  have hlm : (l + m) * sz ≤ n * sz := Nat.mul_le_mul_right sz hl
  rw [Nat.add_mul] at hlm
  obtain ⟨A', w1, hr, hS, hO2⟩ : ∃ A' w1, (Builtin.copy_ #[t, tx] ty #[.slice da dn dc, .slice ua un uc]).run P w = .ok (.int .i64 m) w1 ∧
      Sl e sz sa n cap (xs.take (l * sz) ++ news ++ xs.drop ((l + m) * sz)) A' ∧ Own E w1 (A' ++ R) := by
    rw [Nat.add_mul]
    by_cases h0 : m = 0
    · subst h0
      have hb : news = [] := List.eq_nil_of_length_eq_zero (by rw [hl2, Nat.zero_mul])
      subst hb
      refine ⟨A, w, ?_, ?_, hO1⟩
      · cases da with
        | none => simp [Builtin.copy_, run_underlying hT.und, Builtin.lenOf, hT.size, hm, hnews, goInt]
        | some b => simp [Builtin.copy_, run_underlying hT.und, Builtin.lenOf, hT.size, hm, hnews, goInt, storeCells]
      · rw [Nat.zero_mul, Nat.add_zero, List.append_nil, List.take_append_drop]; exact hv
    · have hda' := hda (by omega)
      rcases hv.2.2.2 with ⟨ha, hc, hA⟩ | ⟨b, rst, ha, hl4, hA⟩
      · have := hv.2.1; omega
      · subst ha hA
        simp only [Option.map_some, add_lit, Nat.zero_add] at hda'
        obtain ⟨w1, hst, hO2⟩ := run_storeCells_own (P := P) (b := b) (off := l * sz) (e := e) news 0 (xs ++ rst).toArray w _ R hO1 inferInstance h1 (by
          simp only [List.size_toArray, List.length_append, hl2]; omega)
        have hsp : splice (xs ++ rst).toArray (l * sz + 0) news = ((xs.take (l * sz) ++ news ++ xs.drop (l * sz + m * sz)) ++ rst).toArray := by
          have hpre : (xs.take (l * sz)).length = l * sz := by rw [List.length_take]; omega
          have := splice_append news (xs.take (l * sz)) (xs.drop (l * sz) ++ rst) (by simp only [List.length_append, List.length_drop, hl2]; omega)
          rw [← List.append_assoc, List.take_append_drop, hpre] at this
          rw [Nat.add_zero, this, hl2, List.drop_append_of_le_length (by rw [List.length_drop]; omega), List.drop_drop]
          simp [List.append_assoc]
        rw [hsp] at hO2
        refine ⟨_, w1, ?_, ⟨?_, hv.2.1, hv.2.2.1, .inr ⟨b, rst, rfl, ?_, rfl⟩⟩, hO2⟩
        · subst hda'
          simp [Builtin.copy_, run_underlying hT.und, Builtin.lenOf, hT.size, hm, hnews, goInt, hst]
        · simp only [List.length_append, List.length_take, List.length_drop, hl2]; omega
        · rw [← hl4]; simp only [List.length_append, List.length_take, List.length_drop, hl2]; omega
  refine wpList_run_value hw ?_ (next A' w1 hS hO2)
  rw [execOp_copy, hd, hs]
  simp [hr]
theorem execOp_clear (ρ : Operand → Value) (x : Operand) (ats : Array TypeId) :
    execOp ρ ⟨d, .call { callee := .builtin .clear, args := #[x], argTypes := ats }, ty, pos, aft, g⟩ = (do pure (.value (← Builtin.clear_ ats ty #[ρ x]))) := by
  simp [execOp, resolve, invoke, builtin]
/-- clear of what lies behind a slice of ours in its row. -/
theorem own_clear_sl {t e : TypeId} {sz bytes : Nat} {z : Value} {x : Operand} {sa da : Option Addr} {n cap k kc : Nat} {xs : List Value} (hT : SlT P t e sz bytes z) (hO : Own E w X)
    (hw : Region.wanted ⟨d, .call { callee := .builtin .clear, args := #[x], argTypes := #[t] }, ty, pos, aft, g⟩ (yielded ops a.tmps) = true)
    (hx : a.eval x = .slice da k kc) (hv : Sl e sz sa n cap xs A) [hp : Pick X A R] (hz1 : ∀ u ∈ z.cells.toList, u.oneCell' = true)
    (hk0 : 0 < k) (hda : da = sa.map (·.add (n * sz))) (hk : n + k ≤ cap)
    (next : ∀ A' w1, Sl e sz sa n cap xs A' → Own E w1 (A' ++ R) → wpList P ops Q rest (a.put d (.tuple #[])) w1) :
    wpList P ops Q (⟨d, .call { callee := .builtin .clear, args := #[x], argTypes := #[t] }, ty, pos, aft, g⟩ :: rest) a w := by
  have hO1 : Own E w (A ++ R) := hO.perm hp.perm
  obtain ⟨i, hi, hz, hsz, _⟩ := hT.parts
  have hl2 : (Builtin.zeroCells z.cells k).toList.length = k * sz := by rw [Array.length_toList, size_zeroCells, hT.zs]
  have h1 : ∀ u ∈ (Builtin.zeroCells z.cells k).toList, u.oneCell' = true := by
    intro u hu
    simp only [Builtin.zeroCells, Array.toList_map, List.mem_map] at hu
    obtain ⟨j, hj, rfl⟩ := hu
    rw [Array.toList_range, List.mem_range] at hj
    have h0 : 0 < z.cells.size := by
      rcases Nat.eq_zero_or_pos z.cells.size with h | h
      · rw [h] at hj; omega
      · exact h
    have hlt : j % z.cells.size < z.cells.size := Nat.mod_lt _ h0
    rw [getElem!_pos z.cells _ hlt]
    exact hz1 _ (Array.mem_toList_iff.2 (Array.getElem_mem hlt))
  obtain ⟨A', w1, hr, hS, hO2⟩ : ∃ A' w1, (Builtin.clear_ #[t] ty #[.slice da k kc]).run P w = .ok (.tuple #[]) w1 ∧ Sl e sz sa n cap xs A' ∧ Own E w1 (A' ++ R) := by
    rcases hv.2.2.2 with ⟨ha, hc, hA⟩ | ⟨b, rst, ha, hl4, hA⟩
    · omega
    · subst ha hA
      simp only [Option.map_some, add_lit, Nat.zero_add] at hda
      have hxl : xs.length = n * sz := hv.1
      have hroom : n * sz + k * sz ≤ cap * sz := by rw [← Nat.add_mul]; exact Nat.mul_le_mul_right sz hk
      obtain ⟨w1, hst, hO2⟩ := run_storeCells_own (P := P) (b := b) (off := n * sz) (e := e) (Builtin.zeroCells z.cells k).toList 0 (xs ++ rst).toArray w _ R hO1 inferInstance h1 (by
        rw [List.size_toArray, hl4, hl2]; omega)
      have hsp : splice (xs ++ rst).toArray (n * sz + 0) (Builtin.zeroCells z.cells k).toList = (xs ++ ((Builtin.zeroCells z.cells k).toList ++ rst.drop (k * sz))).toArray := by
        have hrl : rst.length = cap * sz - n * sz := by rw [List.length_append] at hl4; omega
        have := splice_append (Builtin.zeroCells z.cells k).toList xs rst (by rw [hl2, hrl]; omega)
        rw [hxl, hl2] at this
        rw [Nat.add_zero, this, List.append_assoc]
      rw [hsp] at hO2
      refine ⟨_, w1, ?_, ⟨hv.1, hv.2.1, hv.2.2.1, .inr ⟨b, _, rfl, ?_, rfl⟩⟩, hO2⟩
      · subst hda
        obtain ⟨k', rfl⟩ : ∃ k', k = k' + 1 := ⟨k - 1, by omega⟩
        simp [Builtin.clear_, run_underlying hT.und, zeroValue, typeInfo, hi, hz, hst]
      · rw [List.length_append, List.length_append, List.length_drop, hl2]
        rw [List.length_append] at hl4
        omega
  refine wpList_run_value hw ?_ (next A' w1 hS hO2)
  rw [execOp_clear, hx]
  simp [hr]
end
end Go.Own

/- A region that draws its order and whose last operation (number z) waits for all that look: nothing is asked of the world behind it. -/
namespace Go.Own
open Go.RowKit

section
variable {P : Program} {ops : Array Oper} {Q : Exit → Act → World → Prop} {S : World → Prop} {z : Nat} {md : Region.Mode}

/-- Whatever order is picked from here on, and S holds behind every operation but the last one. -/
def wpAnyK (P : Program) (md : Region.Mode) (ops : Array Oper) (Q : Exit → Act → World → Prop) (S : World → Prop) (z : Nat) : Nat → Array Bool → Act → World → Prop
  | 0, listed, a, w => Region.ready md ops listed = [] ∧ Q .normal a w
  | fuel + 1, listed, a, w =>
    (Region.ready md ops listed = [] → Q .normal a w) ∧
    ∀ i ∈ Region.ready md ops listed, wpOp P ops Q i (fun a' w' => (i ≠ z → S w') ∧ wpAnyK P md ops Q S z fuel (listed.setIfInBounds i true) a' w') a w

theorem wpAny_of_K : ∀ (fuel : Nat) (listed : Array Bool) (a : Act) (w : World), wpAnyK P md ops Q S z fuel listed a w → wpAny P md ops Q fuel listed a w
  | 0, _, _, _, h => h
  | fuel + 1, _, _, _, h => ⟨h.1, fun i hi => wpOp_mono (fun a' w' h' => wpAny_of_K fuel _ a' w' h'.2) (h.2 i hi)⟩

/-- The last operation waits for number i. -/
def zwaits (md : Region.Mode) (ops : Array Oper) (z i : Nat) : Bool := match ops[z]? with
  | some o => o.after.any fun e => Region.binds md e && e.on == i
  | none => true

theorem wpAnyK_first {i : Nat} {oi : Oper} {v : Value} (hi : ops[i]? = some oi) (hz : zwaits md ops z i = true) (hsel : ∀ (j : Nat) (o : Oper) cs b, ops[j]? = some o → o.op ≠ .select cs b)
    (hQ : ∀ c a w, Q (.panic c) (a.put oi.dst v) w → Q (.panic c) a w) :
    ∀ (fuel : Nat) (listed : Array Bool) (a : Act) (w : World),
      (∀ j oj, ops[j]? = some oj → j ≠ i → listed.getD j true = false → (∀ e ∈ oj.after, Region.binds md e = true → e.on ≠ i) → oi.apart ops oj = true) →
      i ∈ Region.ready md ops listed → YieldsIf P ops S oi v a → S w →
      wpAnyK P md ops Q S z fuel (listed.setIfInBounds i true) (a.put oi.dst v) w → wpAnyK P md ops Q S z (fuel + 1) listed a w := by
  intro fuel
  induction fuel with
  | zero =>
    intro listed a w _ hr hy hS H
    refine ⟨fun h => (by rw [h] at hr; cases hr), fun j hj => ?_⟩
    by_cases hji : j = i
    · subst hji; exact hy.wpOp hi hS ⟨fun _ => hS, H⟩
    · have := ready_mono hj hji
      rw [H.1] at this
      cases this
  | succ fuel ih =>
    intro listed a w hfree hr hy hS H
    refine ⟨fun h => (by rw [h] at hr; cases hr), fun j hj => ?_⟩
    by_cases hji : j = i
    · subst hji; exact hy.wpOp hi hS ⟨fun _ => hS, H⟩
    · have h1 := H.2 j (ready_mono hj hji)
      obtain ⟨hjun, oj, hoj, hall⟩ := mem_ready.1 hj
      have hnot : ∀ e ∈ oj.after, Region.binds md e = true → e.on ≠ i := fun e he hb heq => by
        have h1 := hall e he hb
        have h0 := (mem_ready.1 hr).1
        rw [heq] at h1
        rcases Nat.lt_or_ge i listed.size with h' | h'
        · simp [h'] at h0 h1; rw [h0] at h1; cases h1
        · simp [Array.getElem?_eq_none h'] at h1
      have hjz : j ≠ z := fun e => by
        subst e
        unfold zwaits at hz
        rw [hoj] at hz
        simp only [Array.any_eq_true, Bool.and_eq_true, beq_iff_eq] at hz
        obtain ⟨k, hk, hb, hon⟩ := hz
        exact hnot _ (Array.getElem_mem hk) hb hon
      have h2 := wpOp_putIf hoj (hfree j oj hoj hji hjun hnot) (fun cs b => hsel i oi cs b hi) (fun cs b => hsel j oj cs b hoj) hQ hy h1
      have hfree' : ∀ k ok, ops[k]? = some ok → k ≠ i → (listed.setIfInBounds j true).getD k true = false →
          (∀ e ∈ ok.after, Region.binds md e = true → e.on ≠ i) → oi.apart ops ok = true := fun k ok hk hki hun hno => by
        refine hfree k ok hk hki ?_ hno
        by_cases hjk : j = k
        · subst hjk; exact hjun
        · rw [getD_set_ne true hjk] at hun; exact hun
      refine wpOp_mono (fun a' w' h3 => ⟨fun _ => h3.2.1 hjz, ih (listed.setIfInBounds j true) a' w' hfree' (ready_mono hr (Ne.symm hji)) h3.1 (h3.2.1 hjz) ?_⟩) h2
      rw [Array.setIfInBounds_comm _ _ hji]
      exact h3.2.2

def kB (ops : Array Oper) (z : Nat) : Sch → Array Bool → Bool
  | .done, listed => (Region.ready .any ops listed).isEmpty
  | .look i s, listed => (Region.ready .any ops listed).contains i && Region.free .any ops listed i && zwaits .any ops z i && kB ops z s (listed.setIfInBounds i true)
  | .act i s, listed => decide (Region.ready .any ops listed = [i]) && (i != z || (match s with | .done => true | _ => false)) && kB ops z s (listed.setIfInBounds i true)
  | .two _ _ _ _, _ => false

def kL (P : Program) (ops : Array Oper) (Q : Exit → Act → World → Prop) (S : World → Prop) (z : Nat) : Sch → Act → World → Prop
  | .done, a, w => Q .normal a w
  | .look i s, a, w => ∃ v, YieldsIf P ops S (ops.getD i default) v a ∧ kL P ops Q S z s (a.put (ops.getD i default).dst v) w
  | .act i s, a, w => wpList P ops (fun e a' w' => match e with | .normal => (i ≠ z → S w') ∧ kL P ops Q S z s a' w' | e => Q e a' w') [ops.getD i default] a w
  | .two _ _ _ _, _, _ => False

theorem wpOp_of_listK {i : Nat} {o : Oper} {K : Act → World → Prop} {K' : Act → World → Prop} (ho : ops[i]? = some o) {a : Act} {w : World} (hK : ∀ a' w', K a' w' → K' a' w')
    (h : wpList P ops (fun e a' w' => match e with | .normal => K a' w' | e => Q e a' w') [o] a w) : wpOp P ops Q i K' a w := by
  unfold wpOp
  simp only [ho]
  unfold wpList at h
  split at h
  · rename_i hw
    rw [if_pos hw]
    rcases h with h | h
    · refine .inl ?_
      unfold Oper.wp at *
      generalize (execOp a.eval o).run P w = r at *
      have fin : ∀ a' w', wpList P ops (fun e a' w' => match e with | .normal => K a' w' | e => Q e a' w') [] a' w' → K' a' w' := fun a' w' h => hK a' w' h
      cases r with
      | ok n w' =>
        cases n <;> simp only [Oper.upon] at h ⊢ <;> first
          | exact fin _ _ h
          | exact Calls.mono h (fun e w'' he => by cases e <;> first | exact fin _ _ he | exact he)
          | exact Rows.mono h (fun _ _ he => fin _ _ he)
      | halt x w' => cases x <;> simp only [Oper.upon] at h ⊢ <;> exact h
    · exact .inr h
  · rename_i hw
    rw [if_neg hw]
    exact hK _ _ h

/-- In the states where S is known. -/
theorem wpAnyK_of_sch (hsel : Region.noSelect ops = true) (hQ : ∀ c a d v w, Q (.panic c) (a.put d v) w → Q (.panic c) a w) : ∀ (s : Sch) (listed : Array Bool) (a : Act) (w : World), kB ops z s listed = true → S w →
    kL P ops Q S z s a w → wpAnyK P .any ops Q S z s.len listed a w
  | .done, listed, a, w, hB, _, h => ⟨by simpa [kB] using hB, h⟩
  | .look i s, listed, a, w, hB, hS, h => by
    simp only [kB, Bool.and_eq_true] at hB
    obtain ⟨⟨⟨hr, hf⟩, hz⟩, hB'⟩ := hB
    have hr' : i ∈ Region.ready .any ops listed := by simpa using hr
    obtain ⟨_, o, ho, _⟩ := mem_ready.1 hr'
    simp only [kL] at h
    have hd : ops.getD i default = o := by simp [ho]
    rw [hd] at h
    obtain ⟨v, hy, h⟩ := h
    exact wpAnyK_first ho hz (Region.noSelect_spec hsel) (fun c a w => hQ c a _ _ w) s.len listed a w (Region.free_spec ho hf) hr' hy hS
      (wpAnyK_of_sch hsel hQ s _ _ _ hB' hS h)
  | .act i s, listed, a, w, hB, hS, h => by
    simp only [kB, Bool.and_eq_true, decide_eq_true_eq] at hB
    obtain ⟨⟨hr, hzd⟩, hB'⟩ := hB
    have hr' : i ∈ Region.ready .any ops listed := by rw [hr]; simp
    obtain ⟨_, o, ho, _⟩ := mem_ready.1 hr'
    simp only [kL] at h
    have hd : ops.getD i default = o := by simp [ho]
    rw [hd] at h
    refine ⟨fun h0 => (by rw [h0] at hr; cases hr), fun j hj => ?_⟩
    rw [hr] at hj
    have hji : j = i := by simpa using hj
    subst hji
    refine wpOp_of_listK ho (fun a' w' h' => ⟨h'.1, ?_⟩) h
    by_cases hz : j = z
    · cases s with
      | done => exact ⟨by simpa [kB] using hB', h'.2⟩
      | look i s => simp [hz] at hzd
      | act i s => simp [hz] at hzd
      | two i s j t => simp [hz] at hzd
    · exact wpAnyK_of_sch hsel hQ s _ _ _ hB' (h'.1 hz) h'.2
  | .two _ _ _ _, _, _, _, hB, _, _ => by simp [kB] at hB

theorem region_k {id : Nat} {a : Act} {w : World} {l : List Oper} (S : World → Prop) (z : Nat) (s : Sch) (hm : P.follows .mixedOrders = true)
    (hB : (Region.noSelect l.toArray && decide (s.len = l.length) && kB l.toArray z s (Array.replicate l.length false)) = true)
    (hQ : ∀ c a d v w, Q (.panic c) (a.put d v) w → Q (.panic c) a w) (hS : S w.drew)
    (h : kL P l.toArray Q S z s a w.drew) : (Code.region id l.toArray true).wp P Q a w := by
  simp only [Bool.and_eq_true, decide_eq_true_eq] at hB
  obtain ⟨⟨hsel, hlen⟩, hB⟩ := hB
  refine wp_region_any hm (wpAny_of_K (S := S) (z := z) _ _ _ _ ?_)
  have := wpAnyK_of_sch hsel hQ s _ a w.drew hB hS h
  rw [hlen] at this
  simpa using this
theorem region_kO {E : World} {X : Fr} {id : Nat} {a : Act} {w : World} {l : List Oper} (hO : Own E w X) (z : Nat) (s : Sch) (hm : P.follows .mixedOrders = true)
    (hB : (Region.noSelect l.toArray && decide (s.len = l.length) && kB l.toArray z s (Array.replicate l.length false)) = true)
    (hQ : ∀ c a d v w, Q (.panic c) (a.put d v) w → Q (.panic c) a w)
    (h : ∀ w1, Own E w1 X → kL P l.toArray Q (fun w' => Own E w' X) z s a w1) : (Code.region id l.toArray true).wp P Q a w :=
  region_k _ z s hm hB hQ hO.drew (h _ hO.drew)
theorem k_look {i : Nat} {s : Sch} {a : Act} {w : World} {o : Oper} {v : Value} (ho : ops.getD i default = o) (hw : Region.wanted o (yielded ops a.tmps) = true) (hy : ∀ w, S w → (execOp a.eval o).run P w = .ok (.value v) w)
    (h : kL P ops Q S z s (a.put o.dst v) w) : kL P ops Q S z (.look i s) a w := by subst ho; exact ⟨v, .inl ⟨hw, hy⟩, h⟩
theorem k_pass {i : Nat} {s : Sch} {a : Act} {w : World} {o : Oper} (ho : ops.getD i default = o) (hw : Region.wanted o (yielded ops a.tmps) = false)
    (h : kL P ops Q S z s (a.put o.dst undef) w) : kL P ops Q S z (.look i s) a w := by subst ho; exact ⟨undef, .inr ⟨hw, rfl⟩, h⟩
theorem k_act {i : Nat} {s : Sch} {a : Act} {w : World} {o : Oper} (ho : ops.getD i default = o)
    (h : wpList P ops (fun e a' w' => match e with | .normal => (i ≠ z → S w') ∧ kL P ops Q S z s a' w' | e => Q e a' w') [o] a w) : kL P ops Q S z (.act i s) a w := by subst ho; exact h
theorem k_done {a : Act} {w : World} (h : Q .normal a w) : kL P ops Q S z .done a w := h
end
end Go.Own

/- The data: may. -/
namespace Go.Proofs.YticclennllklpaaDoor
open Go Go.RowKit Go.Own Go.Dt

theorem ne_toList {s : ByteArray} (h : s.size ≠ 0) : (s.toList == []) = false := by
  rw [beq_eq_false_iff_ne]
  intro e
  rw [Lib.toList_data] at e
  apply h
  have : s.data.toList.length = s.size := by rw [Array.length_toList]; rfl
  rw [← this, e]
  rfl
set_option maxRecDepth 100000 in
set_option maxHeartbeats 16000000 in
/-- An item that may be, or not. -/
theorem mayI (E w : World) (X : Fr) (x : It) (a : Option Addr) (c : Nat) (dp : Int) (hd : x.k = 3 → dp ≤ 0) (hO : Own E w X) :
    Calls Tryd.prog 59 #[.agg #[.int .i64 x.k, .int .i64 x.n, .string x.s, .slice a x.m c], .int .i64 dp] w fun e w' => e = .returned (.bool x.ok) ∧ Own E w' X := by
  obtain ⟨k, n, s, m⟩ := x
  show Calls Tryd.prog 59 #[.agg #[.int .i64 k, .int .i64 n, .string s, .slice a m c], .int .i64 dp] w _
  replace hd : k = 3 → dp ≤ 0 := hd
  generalize hz : It.ok ⟨k, n, s, m⟩ = z
  unfold It.ok at hz
  simp only at hz
  have hs : s = ByteArray.empty ∨ ((s.toList == []) = false ∧ (s.size == 0) = false) := by
    by_cases h : s.size = 0
    · exact .inl (size0 h)
    · exact .inr ⟨ne_toList h, beq_eq_false_iff_ne.2 h⟩
  have hm : m = 0 ∨ (((m : Int) == 0) = false ∧ (m == 0) = false) := by
    by_cases h : m = 0
    · exact .inl h
    · exact .inr ⟨beq_eq_false_iff_ne.2 (by omega), beq_eq_false_iff_ne.2 h⟩
  by_cases k1 : k = 1
  · subst k1
    clear hd
    rcases hs with rfl | ⟨hs, hs2⟩
    · rcases hm with rfl | ⟨hm, hm2⟩
      · obtain rfl : true = z := hz
        go_enter Tryd.func59, Tryd.ntmps59
        go_wp2_with (first | (refine at_box ?_; go_must (refine own_box (v := ?_) hO ?_ ?_ ?_; rotate_left; (· rfl); (· ((conv => lhs; whnf); try exact rfl)); clear hO; (try clear hF); intro ob _ hO; (try simp only [Value.cells] at hO); ((try simp only [List.nil_append, List.append_nil] at hO); have hF := Own.cells hO; simp only [cellsOf_append, cellsOf_pt] at hF); simp only [Act.put, List.setIfInBounds_toArray, List.set_cons_zero, List.set_cons_succ])))
        go_ret
        exact ⟨rfl, hO.as _⟩
      · rw [hm2] at hz
        obtain rfl : false = z := hz
        clear hm2
        go_enter Tryd.func59, Tryd.ntmps59
        go_wp2_with (first | (refine at_box ?_; go_must (refine own_box (v := ?_) hO ?_ ?_ ?_; rotate_left; (· rfl); (· ((conv => lhs; whnf); try exact rfl)); clear hO; (try clear hF); intro ob _ hO; (try simp only [Value.cells] at hO); ((try simp only [List.nil_append, List.append_nil] at hO); have hF := Own.cells hO; simp only [cellsOf_append, cellsOf_pt] at hF); simp only [Act.put, List.setIfInBounds_toArray, List.set_cons_zero, List.set_cons_succ])))
        go_ret
        exact ⟨rfl, hO.as _⟩
    · rw [hs2] at hz
      have hz2 : false = z := by rw [← hz]; simp
      subst hz2
      clear hz hs2 hm
      go_enter Tryd.func59, Tryd.ntmps59
      go_wp2_with (first | (refine at_box ?_; go_must (refine own_box (v := ?_) hO ?_ ?_ ?_; rotate_left; (· rfl); (· ((conv => lhs; whnf); try exact rfl)); clear hO; (try clear hF); intro ob _ hO; (try simp only [Value.cells] at hO); ((try simp only [List.nil_append, List.append_nil] at hO); have hF := Own.cells hO; simp only [cellsOf_append, cellsOf_pt] at hF); simp only [Act.put, List.setIfInBounds_toArray, List.set_cons_zero, List.set_cons_succ])))
      go_ret
      exact ⟨rfl, hO.as _⟩
  have k1b : (k == 1) = false := beq_eq_false_iff_ne.2 k1
  rw [k1b, Bool.false_and, Bool.false_or] at hz
  by_cases k2 : k = 2
  · subst k2
    clear hd
    by_cases hn : n = 0
    · subst hn
      rcases hm with rfl | ⟨hm, hm2⟩
      · by_cases hl : s.size ≤ 32
        · have hl2 : (s.size : Int) ≤ 32 := by omega
          rw [decide_eq_true hl] at hz
          obtain rfl : true = z := hz
          clear hs hl k1 k1b
          go_enter Tryd.func59, Tryd.ntmps59
          go_wp2_with (first | (refine at_box ?_; go_must (refine own_box (v := ?_) hO ?_ ?_ ?_; rotate_left; (· rfl); (· ((conv => lhs; whnf); try exact rfl)); clear hO; (try clear hF); intro ob _ hO; (try simp only [Value.cells] at hO); ((try simp only [List.nil_append, List.append_nil] at hO); have hF := Own.cells hO; simp only [cellsOf_append, cellsOf_pt] at hF); simp only [Act.put, List.setIfInBounds_toArray, List.set_cons_zero, List.set_cons_succ])))
          go_ret
          exact ⟨rfl, hO.as _⟩
        · have hl2 : ¬ (s.size : Int) ≤ 32 := by omega
          rw [decide_eq_false hl] at hz
          obtain rfl : false = z := hz
          clear hs hl k1 k1b
          go_enter Tryd.func59, Tryd.ntmps59
          go_wp2_with (first | (refine at_box ?_; go_must (refine own_box (v := ?_) hO ?_ ?_ ?_; rotate_left; (· rfl); (· ((conv => lhs; whnf); try exact rfl)); clear hO; (try clear hF); intro ob _ hO; (try simp only [Value.cells] at hO); ((try simp only [List.nil_append, List.append_nil] at hO); have hF := Own.cells hO; simp only [cellsOf_append, cellsOf_pt] at hF); simp only [Act.put, List.setIfInBounds_toArray, List.set_cons_zero, List.set_cons_succ])))
          go_ret
          exact ⟨rfl, hO.as _⟩
      · rw [hm2] at hz
        obtain rfl : false = z := hz
        clear hs hm2 k1 k1b
        go_enter Tryd.func59, Tryd.ntmps59
        go_wp2_with (first | (refine at_box ?_; go_must (refine own_box (v := ?_) hO ?_ ?_ ?_; rotate_left; (· rfl); (· ((conv => lhs; whnf); try exact rfl)); clear hO; (try clear hF); intro ob _ hO; (try simp only [Value.cells] at hO); ((try simp only [List.nil_append, List.append_nil] at hO); have hF := Own.cells hO; simp only [cellsOf_append, cellsOf_pt] at hF); simp only [Act.put, List.setIfInBounds_toArray, List.set_cons_zero, List.set_cons_succ])))
        go_ret
        exact ⟨rfl, hO.as _⟩
    · have hn2 : (n == 0) = false := beq_eq_false_iff_ne.2 hn
      rw [hn2] at hz
      have hz2 : false = z := by rw [← hz]; simp
      subst hz2
      clear hz hs hm hn k1 k1b
      go_enter Tryd.func59, Tryd.ntmps59
      go_wp2_with (first | (refine at_box ?_; go_must (refine own_box (v := ?_) hO ?_ ?_ ?_; rotate_left; (· rfl); (· ((conv => lhs; whnf); try exact rfl)); clear hO; (try clear hF); intro ob _ hO; (try simp only [Value.cells] at hO); ((try simp only [List.nil_append, List.append_nil] at hO); have hF := Own.cells hO; simp only [cellsOf_append, cellsOf_pt] at hF); simp only [Act.put, List.setIfInBounds_toArray, List.set_cons_zero, List.set_cons_succ])))
      go_ret
      exact ⟨rfl, hO.as _⟩
  have k2b : (k == 2) = false := beq_eq_false_iff_ne.2 k2
  rw [k2b, Bool.false_and, Bool.false_and, Bool.and_false] at hz
  subst hz
  clear hs hm k1 k2
  by_cases k3 : k = 3
  · subst k3
    have hq : ¬ (0 : Int) < dp := by have := hd rfl; omega
    clear k1b k2b hd
    go_enter Tryd.func59, Tryd.ntmps59
    go_wp2_with (first | (refine at_box ?_; go_must (refine own_box (v := ?_) hO ?_ ?_ ?_; rotate_left; (· rfl); (· ((conv => lhs; whnf); try exact rfl)); clear hO; (try clear hF); intro ob _ hO; (try simp only [Value.cells] at hO); ((try simp only [List.nil_append, List.append_nil] at hO); have hF := Own.cells hO; simp only [cellsOf_append, cellsOf_pt] at hF); simp only [Act.put, List.setIfInBounds_toArray, List.set_cons_zero, List.set_cons_succ])))
    go_ret
    exact ⟨rfl, hO.as _⟩
  have k3b : (k == 3) = false := beq_eq_false_iff_ne.2 k3
  clear k3 hd
  go_enter Tryd.func59, Tryd.ntmps59
  go_wp2_with (first | (refine at_box ?_; go_must (refine own_box (v := ?_) hO ?_ ?_ ?_; rotate_left; (· rfl); (· ((conv => lhs; whnf); try exact rfl)); clear hO; (try clear hF); intro ob _ hO; (try simp only [Value.cells] at hO); ((try simp only [List.nil_append, List.append_nil] at hO); have hF := Own.cells hO; simp only [cellsOf_append, cellsOf_pt] at hF); simp only [Act.put, List.setIfInBounds_toArray, List.set_cons_zero, List.set_cons_succ])))
  go_ret
  exact ⟨rfl, hO.as _⟩
set_option maxRecDepth 100000 in
set_option maxHeartbeats 16000000 in
/-- The closure's question. -/
theorem may1 (E w : World) (X R : Fr) (pb : Nat) (x : It) (a : Option Addr) (c : Nat) (hO : Own E w X) [hp : Pick X (pt pb (.cells #[.int .i64 1] 3 (0, 0))) R] :
    Calls Tryd.prog 65 #[.agg #[.int .i64 x.k, .int .i64 x.n, .string x.s, .slice a x.m c], .pointer (some ⟨pb, 0, none⟩)] w fun e w' => e = .returned (.bool (!x.ok)) ∧ Own E w' (pt pb (.cells #[.int .i64 1] 3 (0, 0)) ++ R) := by
  replace hO := hO.perm hp.perm
  clear hp
  have hw : IntKind.i64.wrap (1 - 1) = 0 := rfl
  go_enter Tryd.func65, Tryd.ntmps65
  go_wp2_with (first | (refine at_box ?_; go_must (refine own_box (v := ?_) hO ?_ ?_ ?_; rotate_left; (· rfl); (· ((conv => lhs; whnf); try exact rfl)); clear hO; (try clear hF); intro ob _ hO; (try simp only [Value.cells] at hO); ((try simp only [List.nil_append, List.append_nil] at hO); have hF := Own.cells hO; simp only [cellsOf_append, cellsOf_pt] at hF); simp only [Act.put, List.setIfInBounds_toArray, List.set_cons_zero, List.set_cons_succ])) | (refine at_load ?_; refine own_loadS (b := ?_) (cs := ?_) (e := ?_) (f := ?_) hO ?_ ?_ ?_ ?_ ?_ ?_; rotate_left 4; (· rfl); (· rfl); (· exact inferInstance); (· simp; done); (· simp [Value.cells]; done); simp only [Act.put, List.setIfInBounds_toArray, List.set_cons_zero, List.set_cons_succ]))
  refine (mayI E _ _ x a c 0 (fun _ => Int.le_refl _) hO).mono ?_
  clear hO hF
  rintro e w1 ⟨rfl, hO⟩
  go_wp2_with fail
  go_ret
  exact ⟨rfl, hO.as _⟩
end Go.Proofs.YticclennllklpaaDoor

/- The data: may of a list. -/
namespace Go.Proofs.YticclennllklpaaDoor
open Go Go.RowKit Go.Own Go.Dt

theorem items_cells {E w : World} {I Y : Fr} {sa : Option Addr} {l : List It} (h : ItemsAt E I sa l) (hO : Own E w (I ++ Y)) {i : Nat} (hi : i < l.length) :
    ∃ ad a c, sa = some ad ∧ ∀ (Y : Fr) (w : World), Own E w (I ++ Y) → ∀ j u, (itV (l[i]'hi) a c)[j]? = some u → w.cell? ((ad.add (i * 4)).add j) = some u := by
  obtain ⟨ia, ic, h⟩ := h
  obtain ⟨ad, h1, _⟩ := h Y w hO i hi
  refine ⟨ad, ia i, ic i, h1, fun Y w hO => ?_⟩
  obtain ⟨ad2, h2, h3⟩ := h Y w hO i hi
  cases h1.symm.trans h2
  exact h3
set_option maxRecDepth 100000 in
set_option maxHeartbeats 16000000 in
theorem idxF (E w : World) (X R I : Fr) (pb : Nat) (sa : Option Addr) (cap : Nat) (l : List It) (hl : l.length ≤ 8) (hI : ItemsAt E I sa l) (hO : Own E w X) [hp : Pick X (pt pb (.cells #[.int .i64 1] 3 (0, 0)) ++ I) R] :
    Calls Tryd.prog 68 #[.slice sa l.length cap, .func (.func 65) #[] #[.pointer (some ⟨pb, 0, none⟩)]] w fun e w' => (∃ k : Int, e = .returned (.int .i64 k) ∧ decide (0 ≤ k) = !(l.all It.ok)) ∧ Own E w' (pt pb (.cells #[.int .i64 1] 3 (0, 0)) ++ (I ++ R)) := by
  replace hO : Own E w (pt pb (.cells #[.int .i64 1] 3 (0, 0)) ++ (I ++ R)) := by have := hO.perm hp.perm; rwa [List.append_assoc] at this
  clear hp
  have eg : ∀ args w, (callFunc 65 args).run Tryd.prog w = .ok (.enter 65 args) w := enters_of Tryd.func65 (by kernel_rfl) rfl
  go_enter Tryd.func68, Tryd.ntmps68
  go_wp2_with fail
  have hO1 := hO
  clear hO
  go_loopw [8] (fun s8 wr => ∃ j : Nat, s8 = .int .i64 j ∧ j ≤ l.length ∧ (∀ i (hi : i < l.length), i < j → (l[i]'hi).ok = true) ∧ Own E wr (pt pb (.cells #[.int .i64 1] 3 (0, 0)) ++ (I ++ R))) (fun s8 _ => l.length - (intOf s8).toNat)
  case atStart => exact ⟨0, rfl, Nat.zero_le _, fun i hi h => absurd h (Nat.not_lt_zero i), hO1⟩
  case round =>
    clear hO1
    obtain ⟨j, rfl, hj, hbef, hO⟩ := hrel
    have HB := Lib.hid hbef
    clear hbef
    by_cases hlt : j < l.length
    · have hj1 : (j : Int) < l.length := by omega
      have hj2 : (0 : Int) ≤ j := by omega
      obtain ⟨ad, a, c, rfl, hsc⟩ := items_cells hI (hO.as (I ++ R)) hlt
      have HSC := Lib.hid hsc
      obtain ⟨x, hx⟩ : ∃ x, l[j]'hlt = x := ⟨_, rfl⟩
      rw [hx] at HSC
      have HX := Lib.hid (show ∀ h : j < l.length, l[j]'h = x from fun _ => hx)
      have HLT := Lib.hid hlt
      clear hx hlt hsc
      obtain ⟨b, hb⟩ : ∃ b, x.ok = b := ⟨_, rfl⟩
      have HBB := Lib.hid hb
      clear hb
      cases b
      all_goals (
        go_wp2_with (first | (refine at_load (t := 30) ?_; go_must (refine own_loadC (ad := ad.add (j * 4)) (cs := [.int .i64 x.k, .int .i64 x.n, .string x.s, .slice a x.m c]) ?_ (HSC.out _ _ (hO.as (I ++ R))) ?_ ?_ ?_ ?_; (· rfl); (· ((conv => lhs; whnf); try exact rfl)); (· simp; done); (· simp; done); simp only [Act.put, List.setIfInBounds_toArray, List.set_cons_zero, List.set_cons_succ])) | (go_at_fn 65; refine (may1 E _ _ _ pb x a c hO).mono ?_; clear hO; rintro e w2 ⟨rfl, hO⟩; rw [HBB.out])))
      · go_ret
        refine ⟨⟨j, rfl, ?_⟩, hO⟩
        have hlt := HLT.out
        have h1 : l.all It.ok = false := by
          rw [List.all_eq_false]
          exact ⟨x, HX.out hlt ▸ List.getElem_mem hlt, by rw [HBB.out]; decide⟩
        rw [h1, decide_eq_true hj2]
        rfl
      · go_roundw
        case rel =>
          refine ⟨j + 1, by go_num, HLT.out, fun i hi h => ?_, hO⟩
          by_cases hij : i = j
          · subst hij
            rw [HX.out hi]
            exact HBB.out
          · exact HB.out i hi (by omega)
        case measure => have := HLT.out; simp [intOf]; omega
    · obtain rfl : j = l.length := Nat.le_antisymm hj (Nat.le_of_not_lt hlt)
      have hjj : ¬ (l.length : Int) < l.length := by omega
      clear hj hlt
      go_wp2_with fail
      go_ret
      refine ⟨⟨-1, rfl, ?_⟩, hO⟩
      have h1 : l.all It.ok = true := by
        rw [List.all_eq_true]
        intro x hx
        obtain ⟨i, hi, rfl⟩ := List.mem_iff_getElem.1 hx
        exact HB.out i hi hi
      rw [h1]
      rfl
set_option maxRecDepth 100000 in
set_option maxHeartbeats 16000000 in
theorem contF (E w : World) (X R I : Fr) (pb : Nat) (sa : Option Addr) (cap : Nat) (l : List It) (hl : l.length ≤ 8) (hI : ItemsAt E I sa l) (hO : Own E w X) [hp : Pick X (pt pb (.cells #[.int .i64 1] 3 (0, 0)) ++ I) R] :
    Calls Tryd.prog 64 #[.slice sa l.length cap, .func (.func 65) #[] #[.pointer (some ⟨pb, 0, none⟩)]] w fun e w' => e = .returned (.bool (!(l.all It.ok))) ∧ Own E w' (pt pb (.cells #[.int .i64 1] 3 (0, 0)) ++ (I ++ R)) := by
  generalize hb : (!(l.all It.ok)) = b
  have HB := Lib.hid hb
  clear hb
  go_enter Tryd.func64, Tryd.ntmps64
  go_wp2_with fail
  refine (idxF E _ _ _ I pb sa cap l hl hI hO).mono ?_
  clear hO
  rintro e w1 ⟨⟨k, rfl, hk⟩, hO⟩
  rw [HB.out] at hk
  go_wp2_with fail
  go_ret
  exact ⟨rfl, hO⟩
end Go.Proofs.YticclennllklpaaDoor

/- The data: may of a datum; Check. -/
namespace Go.Proofs.YticclennllklpaaDoor
open Go Go.RowKit Go.Own Go.Dt

set_option maxRecDepth 100000 in
set_option maxHeartbeats 16000000 in
theorem mayD (E w : World) (X R I : Fr) (d : Dt) (sa : Option Addr) (cap : Nat) (hI : ItemsAt E I sa d.l) (hO : Own E w X) [hp : Pick X I R] :
    Calls Tryd.prog 59 #[.agg #[.int .i64 d.k, .int .i64 d.n, .string d.s, .slice sa d.l.length cap], .int .i64 1] w fun e w' => e = .returned (.bool d.ok) ∧ Own E w' (I ++ R) := by
  replace hO := hO.perm hp.perm
  clear hp
  by_cases k3 : d.k = 3
  rotate_left
  · have h1 : d.ok = d.hd.ok := by unfold Dt.ok; rw [if_neg k3]
    rw [h1]
    exact mayI E w _ d.hd sa cap 1 (fun h => absurd h k3) hO
  obtain ⟨k, n, s, l⟩ := d
  replace k3 : k = 3 := k3
  subst k3
  show Calls Tryd.prog 59 #[.agg #[.int .i64 3, .int .i64 n, .string s, .slice sa l.length cap], .int .i64 1] w _
  replace hI : ItemsAt E I sa l := hI
  generalize hz : Dt.ok ⟨3, n, s, l⟩ = z
  unfold Dt.ok at hz
  simp only [if_true] at hz
  have hs : s = ByteArray.empty ∨ ((s.toList == []) = false ∧ (s.size == 0) = false) := by
    by_cases h : s.size = 0
    · exact .inl (size0 h)
    · exact .inr ⟨ne_toList h, beq_eq_false_iff_ne.2 h⟩
  by_cases hn : n = 0
  rotate_left
  · have hn2 : (n == 0) = false := beq_eq_false_iff_ne.2 hn
    rw [hn2] at hz
    have hz2 : false = z := by rw [← hz]; simp
    subst hz2
    clear hz hs hn
    go_enter Tryd.func59, Tryd.ntmps59
    go_wp2_with (first | (refine at_box ?_; go_must (refine own_box (v := ?_) hO ?_ ?_ ?_; rotate_left; (· rfl); (· ((conv => lhs; whnf); try exact rfl)); clear hO; (try clear hF); intro ob _ hO; (try simp only [Value.cells] at hO); ((try simp only [List.nil_append, List.append_nil] at hO); have hF := Own.cells hO; simp only [cellsOf_append, cellsOf_pt] at hF); simp only [Act.put, List.setIfInBounds_toArray, List.set_cons_zero, List.set_cons_succ])))
    go_ret
    exact ⟨rfl, hO.as _⟩
  subst hn
  rcases hs with rfl | ⟨hs, hs2⟩
  rotate_left
  · rw [hs2] at hz
    have hz2 : false = z := by rw [← hz]; simp
    subst hz2
    clear hz hs2
    go_enter Tryd.func59, Tryd.ntmps59
    go_wp2_with (first | (refine at_box ?_; go_must (refine own_box (v := ?_) hO ?_ ?_ ?_; rotate_left; (· rfl); (· ((conv => lhs; whnf); try exact rfl)); clear hO; (try clear hF); intro ob _ hO; (try simp only [Value.cells] at hO); ((try simp only [List.nil_append, List.append_nil] at hO); have hF := Own.cells hO; simp only [cellsOf_append, cellsOf_pt] at hF); simp only [Act.put, List.setIfInBounds_toArray, List.set_cons_zero, List.set_cons_succ])))
    go_ret
    exact ⟨rfl, hO.as _⟩
  by_cases hl : l.length ≤ 8
  rotate_left
  · have hl2 : ¬ (l.length : Int) ≤ 8 := by omega
    rw [decide_eq_false hl] at hz
    have hz2 : false = z := by rw [← hz]; simp
    subst hz2
    clear hz hl
    go_enter Tryd.func59, Tryd.ntmps59
    go_wp2_with (first | (refine at_box ?_; go_must (refine own_box (v := ?_) hO ?_ ?_ ?_; rotate_left; (· rfl); (· ((conv => lhs; whnf); try exact rfl)); clear hO; (try clear hF); intro ob _ hO; (try simp only [Value.cells] at hO); ((try simp only [List.nil_append, List.append_nil] at hO); have hF := Own.cells hO; simp only [cellsOf_append, cellsOf_pt] at hF); simp only [Act.put, List.setIfInBounds_toArray, List.set_cons_zero, List.set_cons_succ])))
    go_ret
    exact ⟨rfl, hO.as _⟩
  have hl2 : (l.length : Int) ≤ 8 := by omega
  rw [decide_eq_true hl] at hz
  have hz2 : (!(!(l.all It.ok))) = z := by rw [← hz, Bool.not_not]; rfl
  have HZ := Lib.hid hz2
  have HL := Lib.hid hl
  clear hz hz2 hl
  go_enter Tryd.func59, Tryd.ntmps59
  go_wp2_with (first | (refine at_box ?_; go_must (refine own_box (v := ?_) hO ?_ ?_ ?_; rotate_left; (· rfl); (· ((conv => lhs; whnf); try exact rfl)); clear hO; (try clear hF); intro ob _ hO; (try simp only [Value.cells] at hO); ((try simp only [List.nil_append, List.append_nil] at hO); have hF := Own.cells hO; simp only [cellsOf_append, cellsOf_pt] at hF); simp only [Act.put, List.setIfInBounds_toArray, List.set_cons_zero, List.set_cons_succ])))
  refine (contF E _ _ _ I ob sa cap l HL.out hI hO).mono ?_
  clear hO hF
  obtain ⟨b, hb⟩ : ∃ b, (!(l.all It.ok)) = b := ⟨_, rfl⟩
  have HB := Lib.hid hb
  rintro e w1 ⟨rfl, hO⟩
  rw [hb]
  clear hb
  have hz : (!b) = z := by rw [← HZ.out, HB.out]
  have HZ2 := Lib.hid hz
  clear hz
  cases b
  all_goals (
    go_wp2_with fail
    go_ret
    refine ⟨?_, hO.as _⟩
    rw [← HZ2.out]
    rfl)
set_option maxRecDepth 100000 in
set_option maxHeartbeats 16000000 in
theorem datCheck (E w : World) (X R I : Fr) (d : Dt) (sa : Option Addr) (cap : Nat) (hI : ItemsAt E I sa d.l) (hO : Own E w X) [hp : Pick X I R] :
    Calls Tryd.prog 45 #[.agg #[.int .i64 d.k, .int .i64 d.n, .string d.s, .slice sa d.l.length cap]] w fun e w' => e = .returned (.int .i64 (if d.ok then 0 else 11)) ∧ Own E w' (I ++ R) := by
  replace hO := hO.perm hp.perm
  clear hp
  obtain ⟨b, hb⟩ : ∃ b, d.ok = b := ⟨_, rfl⟩
  have HB := Lib.hid hb
  rw [hb]
  clear hb
  cases b
  all_goals (
    go_enter Tryd.func45, Tryd.ntmps45
    go_wp2_with (first | (refine at_box ?_; go_must (refine own_box (v := ?_) hO ?_ ?_ ?_; rotate_left; (· rfl); (· ((conv => lhs; whnf); try exact rfl)); clear hO; (try clear hF); intro ob _ hO; (try simp only [Value.cells] at hO); ((try simp only [List.nil_append, List.append_nil] at hO); have hF := Own.cells hO; simp only [cellsOf_append, cellsOf_pt] at hF); simp only [Act.put, List.setIfInBounds_toArray, List.set_cons_zero, List.set_cons_succ])) | (refine at_load ?_; refine own_loadS (b := ?_) (cs := ?_) (e := ?_) (f := ?_) hO ?_ ?_ ?_ ?_ ?_ ?_; rotate_left 4; (· rfl); (· rfl); (· exact inferInstance); (· simp; done); (· simp [Value.cells]; done); simp only [Act.put, List.setIfInBounds_toArray, List.set_cons_zero, List.set_cons_succ]))
    refine (mayD E _ _ _ I d sa cap hI hO).mono ?_
    clear hO hF
    rintro e w1 ⟨rfl, hO⟩
    rw [HB.out]
    go_wp2_with fail
    go_ret
    exact ⟨rfl, hO.as _⟩)
end Go.Proofs.YticclennllklpaaDoor

/- Plain: the topmost bit of a number turned. -/
namespace Go.Dt
open Go

theorem xor_hi (r : Nat) (h : r < 2 ^ 63) : r ^^^ 2 ^ 63 = 2 ^ 63 + r := by
  apply Nat.eq_of_testBit_eq
  intro i
  rw [Nat.testBit_xor, Nat.testBit_two_pow]
  rcases Nat.lt_trichotomy i 63 with hi | hi | hi
  · rw [Nat.testBit_two_pow_add_gt hi, decide_eq_false (by omega), Bool.xor_false]
  · subst hi
    rw [Nat.testBit_two_pow_add_eq, Nat.testBit_lt_two_pow h]
    rfl
  · have h1 : 2 ^ 63 + r < 2 ^ i := Nat.lt_of_lt_of_le (show 2 ^ 63 + r < 2 ^ 64 by omega) (Nat.pow_le_pow_right (by decide) (by omega))
    rw [Nat.testBit_lt_two_pow h1, Nat.testBit_lt_two_pow (show r < 2 ^ i by omega), decide_eq_false (by omega)]
    rfl
theorem u64_xor (n : Int) (h : i64 n) : bits .xor .u64 (IntKind.u64.wrap n) 9223372036854775808 = n + 9223372036854775808 := by
  obtain ⟨h1, h2⟩ := h
  have hw : IntKind.u64.wrap n = n % 18446744073709551616 := IntKind.wrap_u64 n
  have hm : (BitVec.ofInt 64 9223372036854775808).toNat = 2 ^ 63 := by rw [BitVec.toNat_ofInt]; omega
  have key : ∀ r : Nat, r < 2 ^ 64 → ((r ^^^ 2 ^ 63 : Nat) : Int) = if (r : Int) < 9223372036854775808 then (r : Int) + 9223372036854775808 else (r : Int) - 9223372036854775808 := fun r hr => by
    by_cases hlt : r < 2 ^ 63
    · rw [xor_hi r hlt, if_pos (by omega)]
      omega
    · have e : r = 2 ^ 63 + (r - 2 ^ 63) := by omega
      have e2 := xor_hi (r - 2 ^ 63) (by omega)
      rw [if_neg (by omega)]
      have e3 : r ^^^ 2 ^ 63 = r - 2 ^ 63 := by
        conv => lhs; rw [e, ← e2]
        rw [Nat.xor_assoc, Nat.xor_self, Nat.xor_zero]
      rw [e3]
      omega
  have hx : (BitVec.ofInt 64 (IntKind.u64.wrap n) ^^^ BitVec.ofInt 64 9223372036854775808).toNat = (n % 18446744073709551616).toNat ^^^ 2 ^ 63 := by
    rw [BitVec.toNat_xor, hm, hw, BitVec.toNat_ofInt]
    congr 1
    omega
  have hk := key (n % 18446744073709551616).toNat (by omega)
  show IntKind.u64.wrap ((BitVec.ofInt 64 (IntKind.u64.wrap n) ^^^ BitVec.ofInt 64 9223372036854775808).toNat : Nat) = _
  rw [hx, hk, IntKind.wrap_u64]
  split <;> omega
end Go.Dt

/- The data: encode of an item. -/
namespace Go.Proofs.YticclennllklpaaDoor
open Go Go.RowKit Go.Own Go.Dt

theorem bt_v {n v : Int} (h : Dt.i64 n) (hv : v = n + 9223372036854775808) {j : Nat} (hj : j < 8) : v / 2 ^ (56 - 8 * j) % 256 = ((bt n j).toNat : Int) := by
  obtain ⟨h1, h2⟩ := h
  obtain ⟨x, hx⟩ : ∃ x : Nat, n + 9223372036854775808 = x := ⟨(n + 9223372036854775808).toNat, by omega⟩
  unfold bt
  rw [hv, hx, Int.toNat_natCast, UInt8.toNat_ofNat']
  have e : (256 : Nat) ^ (7 - j) = 2 ^ (56 - 8 * j) := by
    rw [show (256 : Nat) = 2 ^ 8 by decide, ← Nat.pow_mul]
    congr 1
    omega
  rw [e, Nat.mod_mod]
  have e2 : ((2 : Int) ^ (56 - 8 * j)) = ((2 ^ (56 - 8 * j) : Nat) : Int) := by rw [Int.natCast_pow]; rfl
  rw [e2]
  omega
theorem sltB9 : SlT Tryd.prog 111 5 1 1 (.int .u8 0) := ⟨by kernel_rfl, by kernel_rfl, rfl⟩
def EncP (E : World) (l : List UInt8) (R : Fr) (e : Ending) (w' : World) : Prop :=
  ∃ (so : Option Addr) (co : Nat) (SO : Fr), e = .returned (.slice so l.length co) ∧ Sl 5 1 so l.length co (bytesV l) SO ∧ Own E w' (SO ++ R)
set_option maxRecDepth 100000 in
set_option maxHeartbeats 16000000 in
theorem encInt (E w : World) (X R S : Fr) (so : Option Addr) (co : Nat) (l : List UInt8) (hl : l.length ≤ 10000) (hS : Sl 5 1 so l.length co (bytesV l) S) (n : Int) (a : Option Addr) (m c : Nat) (hn : Dt.i64 n) (hO : Own E w X) [hp : Pick X S R] :
    Calls Tryd.prog 46 #[.slice so l.length co, .agg #[.int .i64 1, .int .i64 n, .string ByteArray.empty, .slice a m c]] w (EncP E (l ++ (1 :: be8 n)) R) := by
  replace hO := hO.perm hp.perm
  clear hp
  generalize hpost : EncP E (l ++ (1 :: be8 n)) R = POST
  have HPOST := Lib.hid hpost
  clear hpost
  have HN := Lib.hid hn
  clear hn
  go_enter Tryd.func46, Tryd.ntmps46
  go_wp2_with (first | (refine at_box ?_; go_must (refine own_box (v := ?_) hO ?_ ?_ ?_; rotate_left; (· rfl); (· ((conv => lhs; whnf); try exact rfl)); clear hO; (try clear hF); intro ob _ hO; (try simp only [Value.cells] at hO); ((try simp only [List.nil_append, List.append_nil] at hO); have hF := Own.cells hO; simp only [cellsOf_append, cellsOf_pt] at hF); simp only [Act.put, List.setIfInBounds_toArray, List.set_cons_zero, List.set_cons_succ])) | (refine at_bs ?_; go_must (refine own_build1 (v := ?_) sltB9 hO ?_ ?_ ?_ ?_ ?_ ?_; rotate_left; (· rfl); (· ((conv => lhs; whnf); try exact rfl)); (· rfl); (· decide); (· decide); clear hO; (try clear hF); intro bs _ hO; (try simp only [Value.cells] at hO); ((try simp only [List.nil_append, List.append_nil] at hO); have hF := Own.cells hO; simp only [cellsOf_append, cellsOf_pt] at hF); simp only [Act.put, List.setIfInBounds_toArray, List.set_cons_zero, List.set_cons_succ])) | (refine at_append ?_; go_must (refine own_append_elem (b1 := ?_) (cs := ?_) (e1 := ?_) (f1 := ?_) sltB9 hO ?_ ?_ ?_ hS ?_ ?_ ?_ ?_ ?_ ?_ ?_; rotate_left 4; (· rfl); (· rfl); (· rfl); (· exact inferInstance); (· rfl); (· intro u hu; simp at hu; subst hu; rfl); (· first | omega | (simp only [maxLen]; omega)); (· decide); (· first | omega | (simp only [maxLen]; omega)); clear hO; (try clear hF); intro so2 co2 SO2 w4 hSO2 hO; ((try simp only [List.nil_append, List.append_nil] at hO); have hF := Own.cells hO; simp only [cellsOf_append, cellsOf_pt] at hF); simp only [Act.put, List.setIfInBounds_toArray, List.set_cons_zero, List.set_cons_succ])))
  obtain ⟨v, hv⟩ : ∃ v, bits .xor .u64 (IntKind.u64.wrap n) 9223372036854775808 = v := ⟨_, rfl⟩
  have hv2 : v = n + 9223372036854775808 := hv ▸ Dt.u64_xor n HN.out
  rw [hv]
  have HV := Lib.hid hv2
  clear hv hv2
  replace hO := hO.as (SO2 ++ R)
  have e1 : bytesV l ++ [Value.int .u8 1] = bytesV (l ++ 1 :: (be8 n).take 0) := by rw [bytesV_append]; rfl
  rw [e1] at hSO2
  clear e1 hF
  have hO1 := hO
  have hSO1 := hSO2
  clear hO hSO2
  go_loopw [0, 6] (fun o i wr => ∃ (j : Nat) (so3 : Option Addr) (co3 : Nat) (SO3 : Fr), i = .int .i64 (56 - 8 * (j : Int)) ∧ j ≤ 8 ∧ o = .slice so3 (l.length + 1 + j) co3 ∧ Sl 5 1 so3 (l.length + 1 + j) co3 (bytesV (l ++ 1 :: (be8 n).take j)) SO3 ∧ Own E wr (SO3 ++ R)) (fun _ i _ => (intOf i + 8).toNat)
  case atStart => exact ⟨0, so2, co2, SO2, rfl, by decide, rfl, hSO1, hO1⟩
  case round =>
    clear hO1 hSO1
    obtain ⟨j, so3, co3, SO3, rfl, hj, rfl, hSO3, hO⟩ := hrel
    by_cases hlt : j < 8
    · have h1 : (0 : Int) ≤ 56 - 8 * (j : Int) := by omega
      have hb := bt_v HN.out HV.out hlt
      have HB := Lib.hid hb
      clear hb
      go_wp2_with (first | (refine at_bs ?_; go_must (refine own_build1 (v := ?_) sltB9 hO ?_ ?_ ?_ ?_ ?_ ?_; rotate_left; (· rfl); (· ((conv => lhs; whnf); try exact rfl)); (· rfl); (· decide); (· decide); clear hO; (try clear hF); intro bs _ hO; (try simp only [Value.cells] at hO); ((try simp only [List.nil_append, List.append_nil] at hO); have hF := Own.cells hO; simp only [cellsOf_append, cellsOf_pt] at hF); simp only [Act.put, List.setIfInBounds_toArray, List.set_cons_zero, List.set_cons_succ])) | (refine at_append ?_; go_must (refine own_append_elem (b1 := ?_) (cs := ?_) (e1 := ?_) (f1 := ?_) sltB9 hO ?_ ?_ ?_ hSO3 ?_ ?_ ?_ ?_ ?_ ?_ ?_; rotate_left 4; (· rfl); (· rfl); (· rfl); (· exact inferInstance); (· rfl); (· intro u hu; simp at hu; subst hu; rfl); (· first | omega | (simp only [maxLen]; omega)); (· decide); (· first | omega | (simp only [maxLen]; omega)); clear hO; (try clear hF); intro so4 co4 SO4 w5 hSO4 hO; ((try simp only [List.nil_append, List.append_nil] at hO); have hF := Own.cells hO; simp only [cellsOf_append, cellsOf_pt] at hF); simp only [Act.put, List.setIfInBounds_toArray, List.set_cons_zero, List.set_cons_succ])))
      rw [HB.out] at hSO4
      have e1 : bytesV (l ++ 1 :: (be8 n).take j) ++ [Value.int .u8 ((bt n j).toNat : Int)] = bytesV (l ++ 1 :: (be8 n).take (j + 1)) := by
        have h8 : j < (be8 n).length := by rw [be8_len]; exact hlt
        rw [List.take_succ_eq_append_getElem h8]
        have h9 : (be8 n)[j]'h8 = bt n j := by simp [be8]
        rw [h9, bytesV_append, bytesV_append]
        simp [bytesV, byteV]
      rw [e1] at hSO4
      go_roundw
      case rel => exact ⟨j + 1, so4, co4, SO4, by go_num, hlt, by rw [Nat.add_assoc], by rw [← Nat.add_assoc]; exact hSO4, hO.as _⟩
      case measure => simp [intOf]; omega
    · obtain rfl : j = 8 := by omega
      have h1 : ¬ (0 : Int) ≤ 56 - 8 * ((8 : Nat) : Int) := by omega
      clear hlt hj
      go_wp2_with fail
      rw [← HPOST.out]
      have h8 : (be8 n).take 8 = be8 n := List.take_of_length_le (by rw [be8_len]; decide)
      have hlen : (l ++ (1 :: be8 n)).length = l.length + 1 + 8 := by rw [List.length_append, List.length_cons, be8_len]
      rw [h8] at hSO3
      exact ⟨so3, co3, SO3, by rw [hlen], by rw [hlen]; exact hSO3, hO⟩
end Go.Proofs.YticclennllklpaaDoor

/- The data: encode of a text. -/
namespace Go.Proofs.YticclennllklpaaDoor
open Go Go.RowKit Go.Own Go.Dt Go.Shelf
def Tryd.lay155_ren : Go.Shelf.Ren := ⟨fun | 155 => 60 | 154 => 66 | 138 => 69 | 165 => 70 | 143 => 71 | 166 => 72 | 197 => 73 | 169 => 74 | 195 => 75 | 218 => 76 | 240 => 77 | 241 => 78 | 219 => 79 | 260 => 80 | 276 => 81 | 277 => 82 | 217 => 83 | 225 => 84 | 224 => 85 | 267 => 86 | 266 => 87 | 314 => 88 | n => n, fun | 9 => 9 | 3 => 3 | 4 => 4 | 72 => 133 | 0 => 0 | 76 => 137 | 105 => 139 | 21 => 21 | 5 => 5 | 70 => 131 | 20 => 20 | 37 => 111 | 75 => 136 | 127 => 143 | 164 => 144 | 46 => 123 | 119 => 148 | 139 => 151 | 138 => 150 | 146 => 153 | 51 => 152 | 80 => 69 | n => n, fun | 1 => 0 | 3 => 1 | 4 => 2 | n => n⟩
theorem Tryd.lay155 : Go.Proofs.Lays.n155 Tryd.prog Tryd.lay155_ren where
  mixed := by kernel_rfl
  f138 := Tryd.func69.trans (congrArg some (by kernel_rfl))
  f143 := Tryd.func71.trans (congrArg some (by kernel_rfl))
  f154 := Tryd.func66.trans (congrArg some (by kernel_rfl))
  f155 := Tryd.func60.trans (congrArg some (by kernel_rfl))
  f165 := Tryd.func70.trans (congrArg some (by kernel_rfl))
  f166 := Tryd.func72.trans (congrArg some (by kernel_rfl))
  f169 := Tryd.func74.trans (congrArg some (by kernel_rfl))
  f195 := Tryd.func75.trans (congrArg some (by kernel_rfl))
  f197 := Tryd.func73.trans (congrArg some (by kernel_rfl))
  f217 := Tryd.func83.trans (congrArg some (by kernel_rfl))
  f218 := Tryd.func76.trans (congrArg some (by kernel_rfl))
  f219 := Tryd.func79.trans (congrArg some (by kernel_rfl))
  f224 := Tryd.func85.trans (congrArg some (by kernel_rfl))
  f225 := Tryd.func84.trans (congrArg some (by kernel_rfl))
  f240 := Tryd.func77.trans (congrArg some (by kernel_rfl))
  f241 := Tryd.func78.trans (congrArg some (by kernel_rfl))
  f260 := Tryd.func80.trans (congrArg some (by kernel_rfl))
  f266 := Tryd.func87.trans (congrArg some (by kernel_rfl))
  f267 := Tryd.func86.trans (congrArg some (by kernel_rfl))
  f276 := Tryd.func81.trans (congrArg some (by kernel_rfl))
  f277 := Tryd.func82.trans (congrArg some (by kernel_rfl))
  f314 := Tryd.func88.trans (congrArg some (by kernel_rfl))
  t0 := Tryd.underlying0
  a0 := Tryd.isAgg0
  z0 := Tryd.sizeOf0
  v0 := Tryd.zeroValue0
  t3 := Tryd.underlying3
  a3 := Tryd.isAgg3
  z3 := Tryd.sizeOf3
  v3 := Tryd.zeroValue3
  t4 := Tryd.underlying4
  a4 := Tryd.isAgg4
  z4 := Tryd.sizeOf4
  v4 := Tryd.zeroValue4
  t5 := Tryd.underlying5
  a5 := Tryd.isAgg5
  z5 := Tryd.sizeOf5
  v5 := Tryd.zeroValue5
  t9 := Tryd.underlying9
  a9 := Tryd.isAgg9
  z9 := Tryd.sizeOf9
  v9 := Tryd.zeroValue9
  t20 := Tryd.underlying20
  a20 := Tryd.isAgg20
  z20 := Tryd.sizeOf20
  v20 := Tryd.zeroValue20
  t21 := Tryd.underlying21
  a21 := Tryd.isAgg21
  z21 := Tryd.sizeOf21
  v21 := Tryd.zeroValue21
  t37 := Tryd.underlying111
  a37 := Tryd.isAgg111
  z37 := Tryd.sizeOf111
  v37 := Tryd.zeroValue111
  t46 := Tryd.underlying123
  a46 := Tryd.isAgg123
  z46 := Tryd.sizeOf123
  v46 := Tryd.zeroValue123
  t51 := Tryd.underlying152
  a51 := Tryd.isAgg152
  z51 := Tryd.sizeOf152
  v51 := Tryd.zeroValue152
  t70 := Tryd.underlying131
  a70 := Tryd.isAgg131
  z70 := Tryd.sizeOf131
  v70 := Tryd.zeroValue131
  t72 := Tryd.underlying133
  a72 := Tryd.isAgg133
  z72 := Tryd.sizeOf133
  v72 := Tryd.zeroValue133
  t75 := Tryd.underlying136
  a75 := Tryd.isAgg136
  z75 := Tryd.sizeOf136
  v75 := Tryd.zeroValue136
  t76 := Tryd.underlying137
  a76 := Tryd.isAgg137
  z76 := Tryd.sizeOf137
  v76 := Tryd.zeroValue137
  t105 := Tryd.underlying139
  a105 := Tryd.isAgg139
  z105 := Tryd.sizeOf139
  v105 := Tryd.zeroValue139
  t119 := Tryd.underlying148
  a119 := Tryd.isAgg148
  z119 := Tryd.sizeOf148
  t127 := Tryd.underlying143
  a127 := Tryd.isAgg143
  z127 := Tryd.sizeOf143
  v127 := Tryd.zeroValue143
  t138 := Tryd.underlying150
  a138 := Tryd.isAgg150
  z138 := Tryd.sizeOf150
  v138 := Tryd.zeroValue150
  t139 := Tryd.underlying151
  a139 := Tryd.isAgg151
  z139 := Tryd.sizeOf151
  v139 := Tryd.zeroValue151
  t146 := Tryd.underlying153
  a146 := Tryd.isAgg153
  z146 := Tryd.sizeOf153
  v146 := Tryd.zeroValue153
  t164 := Tryd.underlying144
  a164 := Tryd.isAgg144
  z164 := Tryd.sizeOf144
  v164 := Tryd.zeroValue144
  g1 := by kernel_rfl
  g3 := by kernel_rfl
  g4 := by kernel_rfl
theorem extra155 : Builder.Extra Tryd.prog Tryd.lay155_ren where
  sizeBuilder := by kernel_rfl
  liesBuilder := by kernel_rfl
  t5 := by kernel_rfl
  a5 := fun _ => by kernel_rfl
  z5 := fun _ => by kernel_rfl
  v5 := fun _ => by kernel_rfl
  infoByte := by kernel_rfl
  cellsByte := by kernel_rfl
  sizeByte := by kernel_rfl
  neB5 := by decide
theorem own_of_below {E w w' : World} {X : Fr} (hO : Own E w X) (hb : Below w.heap.size w w') : Own E w' X :=
  ⟨hb.os.trans hO.os, hb.tape.trans hO.tape, hb.output.trans hO.output, hO.nodup, fun p hp => by
    rw [hb.block p.1 (hO.lt (o := p.2) hp)]
    exact hO.mem p hp⟩
theorem run_firstCells_str9 {P : Program} (s : ByteArray) (w : World) : (Builtin.firstCells 1 s.size (.string s)).run P w = .ok (bytesV s.data.toList).toArray w := by
  have hx : s.extract 0 s.size = s := ByteArray.extract_zero_size
  have h : (s.data.map fun b : UInt8 => Value.int .u8 b.toNat) = (bytesV s.data.toList).toArray := by
    apply Array.toList_inj.1
    rw [Array.toList_map]
    rfl
  show (pure ((s.extract 0 s.size).data.map fun b : UInt8 => Value.int .u8 b.toNat) : Sem (Array Value)).run P w = _
  rw [hx, h]
  rfl
theorem run_opBytesSl9 {P : Program} {E w : World} {X R A : Fr} {a : Act} {d : Option Tmp} {ty : TypeId} {pos : String} {aft : Array Edge} {g : Option (Nat × Bool)} {src dst e : TypeId} {x : Operand} {sa : Option Addr} {n c : Nat} {l : List UInt8} (hO : Own E w X) (hv : Sl e 1 sa n c (bytesV l) A) [hp : Pick X A R]
    (hx : a.eval x = .slice sa n c) (hs : P.underlying src = some (.slice e)) (he : P.underlying e = some (.int .u8)) (hd : P.underlying dst = some .string) :
    (execOp a.eval ⟨d, .convert src dst x, ty, pos, aft, g⟩).run P w = .ok (.value (.string ⟨l.toArray⟩)) w := by
  have hl : l.length = n := by have := hv.len; rw [bytesV_length] at this; omega
  have := run_bytes_str (P := P) (w := w) (src := src) (dst := dst) (cap := c) hs he hd (ad := sa) (l := l) hl (by
    intro b hb j v hj
    obtain ⟨hlt, hv'⟩ := List.getElem?_eq_some_iff.1 hj
    rw [hv.cell hO b hb j hlt, hv']) (fun h => by
      rcases hv.2.2.2 with ⟨_, hc, _⟩ | ⟨b, _, hb, _⟩
      · have := hv.2.1; omega
      · rw [hb] at h; cases h)
  simp [execOp, hx, this]
theorem two_cells {E w : World} {X : Fr} {b : Nat} {e : TypeId} {f : Nat × Nat} {c1 c2 : Value} {P : Program} (hO : Own E w X) [hh : Has X b (.cells #[c1, c2] e f)] : (Builtin.firstCells 1 2 (.slice (some ⟨b, 0, none⟩) 2 2)).run P w = .ok #[c1, c2] w := by
  refine run_firstCells_some w 1 2 ⟨b, 0, none⟩ 2 2 _ rfl ?_
  intro j v hj
  rw [add_lit, hO.cell (b := b)]
  simpa using hj
/-- The library's bound of short searches lies where it does. -/
def MaxL (E : World) (I : Fr) : Prop := ∃ m : Int, ∀ (Y : Fr) (w : World), Own E w (I ++ Y) → w.cell? ⟨0, 0, none⟩ = some (.int .i64 m)
def z1 : ByteArray := ⟨#[0]⟩
def z2 : ByteArray := ⟨#[0, 255]⟩
theorem replAll (E w : World) (X R I : Fr) (s : ByteArray) (hs : s.size ≤ 32) (hG : MaxL E I) (hO : Own E w X) [hp : Pick X I R] :
    Calls Tryd.prog 60 #[.string s, .string z1, .string z2] w fun e w' => e = .returned (.string ⟨(esc s.data.toList).toArray⟩) ∧ Own E w' X := by
  obtain ⟨m, hm⟩ := hG
  have h1 : Lib.countB s z1 * z1.size ≤ s.size := Lib.countB_mul_le z1 (by decide) s.size s (Nat.le_refl _)
  have h2 : z1.size = 1 := rfl
  have h3 : z2.size = 2 := rfl
  rw [h2, Nat.mul_one] at h1
  refine (Any.strings_ReplaceAll Tryd.lay155 extra155 s z1 z2 m w (by omega) (hm R w (hO.perm hp.perm)) (by decide) (by rw [h3]; omega)).mono ?_
  rintro e w' ⟨rfl, hb⟩
  refine ⟨?_, own_of_below hO hb⟩
  have e1 : Lib.replaceAll s.data.toList z1.data.toList z2.data.toList = esc s.data.toList := by
    unfold Lib.replaceAll Lib.replace
    rw [if_neg (by decide)]
    have e2 : Lib.replaceNum s.data.toList z1.data.toList (-1) = Lib.countFrom [0] (s.data.toList.length + 1) s.data.toList := by
      unfold Lib.replaceNum
      rw [if_pos (.inl (by decide))]
      rfl
    rw [e2]
    exact rep0 _ _ (Nat.lt_succ_self _)
  rw [e1]
set_option maxRecDepth 100000 in
set_option maxHeartbeats 16000000 in
theorem encTxt (E w : World) (X R S I : Fr) (so : Option Addr) (co : Nat) (l : List UInt8) (hl : l.length ≤ 10000) (hS : Sl 5 1 so l.length co (bytesV l) S) (s : ByteArray) (hs : s.size ≤ 32) (a : Option Addr) (m c : Nat) (hG : MaxL E I) (hO : Own E w X) [hp : Pick X (S ++ I) R] :
    Calls Tryd.prog 46 #[.slice so l.length co, .agg #[.int .i64 2, .int .i64 0, .string s, .slice a m c]] w (EncP E (l ++ (2 :: (esc s.data.toList ++ [0, 0]))) (I ++ R)) := by
  replace hO : Own E w (S ++ (I ++ R)) := by have := hO.perm hp.perm; rwa [List.append_assoc] at this
  clear hp
  generalize hpost : EncP E (l ++ (2 :: (esc s.data.toList ++ [0, 0]))) (I ++ R) = POST
  have HPOST := Lib.hid hpost
  clear hpost
  have hel := esc_len s.data.toList
  have hsl : s.data.toList.length = s.size := by rw [Array.length_toList]; rfl
  rw [hsl] at hel
  clear hsl
  go_enter Tryd.func46, Tryd.ntmps46
  go_wp2_with (first | (refine at_box ?_; go_must (refine own_box (v := ?_) hO ?_ ?_ ?_; rotate_left; (· rfl); (· ((conv => lhs; whnf); try exact rfl)); clear hO; (try clear hF); intro ob _ hO; (try simp only [Value.cells] at hO); ((try simp only [List.nil_append, List.append_nil] at hO); have hF := Own.cells hO; simp only [cellsOf_append, cellsOf_pt] at hF); simp only [Act.put, List.setIfInBounds_toArray, List.set_cons_zero, List.set_cons_succ])) | (refine at_bs ?_; go_must (refine own_build1 (v := ?_) sltB9 hO ?_ ?_ ?_ ?_ ?_ ?_; rotate_left; (· rfl); (· ((conv => lhs; whnf); try exact rfl)); (· rfl); (· decide); (· decide); clear hO; (try clear hF); intro bs _ hO; (try simp only [Value.cells] at hO); ((try simp only [List.nil_append, List.append_nil] at hO); have hF := Own.cells hO; simp only [cellsOf_append, cellsOf_pt] at hF); simp only [Act.put, List.setIfInBounds_toArray, List.set_cons_zero, List.set_cons_succ])) | (refine at_append ?_; go_must (refine own_append_elem (b1 := ?_) (cs := ?_) (e1 := ?_) (f1 := ?_) sltB9 hO ?_ ?_ ?_ hS ?_ ?_ ?_ ?_ ?_ ?_ ?_; rotate_left 4; (· rfl); (· rfl); (· rfl); (· exact inferInstance); (· rfl); (· intro u hu; simp at hu; subst hu; rfl); (· first | omega | (simp only [maxLen]; omega)); (· decide); (· first | omega | (simp only [maxLen]; omega)); clear hO; (try clear hF); intro so2 co2 SO2 w4 hSO2 hO; ((try simp only [List.nil_append, List.append_nil] at hO); have hF := Own.cells hO; simp only [cellsOf_append, cellsOf_pt] at hF); simp only [Act.put, List.setIfInBounds_toArray, List.set_cons_zero, List.set_cons_succ])))
  refine (replAll E _ _ _ I s hs hG hO).mono ?_
  clear hO hF
  rintro e w5 ⟨rfl, hO⟩
  obtain ⟨t, ht⟩ : ∃ t : ByteArray, (⟨(esc s.data.toList).toArray⟩ : ByteArray) = t := ⟨_, rfl⟩
  have htl : t.data.toList = esc s.data.toList := by rw [← ht]
  have htz : t.size = (esc s.data.toList).length := by rw [← htl, Array.length_toList]; rfl
  rw [ht]
  rw [← htl] at HPOST
  have htb : t.size ≤ 64 := by omega
  clear ht hel htl htz
  go_wp2_with (first | (refine at_append ?_; refine Stop.go ?_))
  refine ⟨?_⟩
  refine own_append (sz := 1) (bytes := 1) (z := .int .u8 0) (e := 5) (xv := .string t) (m := t.size) (news := bytesV t.data.toList) sltB9 (.inr (by kernel_rfl)) hO ?_ ?_ ?_ hSO2 ?_ ?_ ?_ ?_ ?_ ?_ ?_
  · rfl
  · rfl
  · rfl
  · intro w; rfl
  · intro w' _; exact run_firstCells_str9 t w'
  · rw [bytesV_length, Nat.mul_one, Array.length_toList]; rfl
  · exact bytesV_one _
  · simp only [maxLen]; omega
  · left; omega
  clear hO
  intro so3 co3 SO3 w6 hSO3 hO
  ((try simp only [List.nil_append, List.append_nil] at hO); have hF := Own.cells hO; simp only [cellsOf_append, cellsOf_pt] at hF)
  simp only [Act.put, List.setIfInBounds_toArray, List.set_cons_zero, List.set_cons_succ]
  go_wp2_with (first | (refine at_bs ?_; go_must (refine own_buildN (cells := ?_) sltB9 hO ?_ ?_ ?_ ?_ ?_ ?_; rotate_left; (· rfl); (· decide); (· decide); (· rfl); (· simp [Instr.fill, Act.eval, Value.cells, Array.replicate_succ]; exact rfl); clear hO; (try clear hF); intro b3 _ hO; ((try simp only [List.nil_append, List.append_nil] at hO); have hF := Own.cells hO; simp only [cellsOf_append, cellsOf_pt] at hF); simp only [Act.put, List.setIfInBounds_toArray, List.set_cons_zero, List.set_cons_succ])) | (refine at_append ?_; refine Stop.go ?_))
  refine ⟨?_⟩
  refine own_append (sz := 1) (bytes := 1) (z := .int .u8 0) (e := 5) (xv := .slice (some ⟨b3, 0, none⟩) 2 2) (m := 2) (news := [.int .u8 0, .int .u8 0]) sltB9 (.inl (by kernel_rfl)) hO ?_ ?_ ?_ hSO3 ?_ ?_ ?_ ?_ ?_ ?_ ?_
  · rfl
  · rfl
  · rfl
  · intro w; rfl
  · intro w' hO'; exact two_cells hO' (hh := inferInstance)
  · rfl
  · intro u hu; simp at hu; subst hu; rfl
  · simp only [maxLen]; omega
  · left; omega
  clear hO hF
  intro so4 co4 SO4 w7 hSO4 hO
  simp only [Act.put, List.setIfInBounds_toArray, List.set_cons_zero, List.set_cons_succ]
  go_wp2_with fail
  rw [← HPOST.out]
  have hlen : (l ++ (2 :: (t.data.toList ++ [0, 0]))).length = l.length + 1 + t.size + 2 := by
    have e1 : t.data.toList.length = t.size := by rw [Array.length_toList]; rfl
    rw [List.length_append, List.length_cons, List.length_append, e1]
    simp only [List.length_cons, List.length_nil]
    omega
  have hv : bytesV l ++ [Value.int .u8 2] ++ bytesV t.data.toList ++ [Value.int .u8 0, Value.int .u8 0] = bytesV (l ++ (2 :: (t.data.toList ++ [0, 0]))) := by
    rw [bytesV_append, show (2 :: (t.data.toList ++ [0, 0]) : List UInt8) = [2] ++ (t.data.toList ++ [0, 0]) from rfl, bytesV_append, bytesV_append, List.append_assoc, List.append_assoc]
    rfl
  rw [hv] at hSO4
  exact ⟨so4, co4, SO4, by rw [hlen]; rfl, by rw [hlen]; exact hSO4, hO.as _⟩
end Go.Proofs.YticclennllklpaaDoor

/- The data: encode, Bytes. -/
namespace Go.Proofs.YticclennllklpaaDoor
open Go Go.RowKit Go.Own Go.Dt

theorem encItem (E w : World) (X R S I : Fr) (so : Option Addr) (co : Nat) (l : List UInt8) (hl : l.length ≤ 10000) (hS : Sl 5 1 so l.length co (bytesV l) S) (x : It) (hx : x.ok = true) (wx : Dt.i64 x.n) (a : Option Addr) (c : Nat) (hG : MaxL E I) (hO : Own E w X) [hp : Pick X (S ++ I) R] :
    Calls Tryd.prog 46 #[.slice so l.length co, .agg #[.int .i64 x.k, .int .i64 x.n, .string x.s, .slice a x.m c]] w (EncP E (l ++ x.enc) (I ++ R)) := by
  replace hO : Own E w (S ++ (I ++ R)) := by have := hO.perm hp.perm; rwa [List.append_assoc] at this
  obtain ⟨hm, h⟩ := It.ok_or hx
  obtain ⟨k, n, s, m⟩ := x
  simp only at hm h
  rcases h with ⟨rfl, rfl⟩ | ⟨rfl, rfl, hs⟩
  · have e1 : It.enc ⟨1, n, ByteArray.empty, m⟩ = 1 :: be8 n := rfl
    rw [e1]
    exact encInt E w _ (I ++ R) S so co l hl hS n a m c wx hO
  · have e1 : It.enc ⟨2, 0, s, m⟩ = 2 :: (esc s.data.toList ++ [0, 0]) := rfl
    rw [e1]
    exact encTxt E w _ R S I so co l hl hS s hs a m c hG (hO.as ((S ++ I) ++ R))
def preE (l : List It) (j : Nat) : List UInt8 := 3 :: UInt8.ofNat l.length :: (l.take j).flatMap It.enc
theorem preE_len {l : List It} (h : ∀ x ∈ l, x.ok = true) (j : Nat) (hj : j ≤ 8) : (preE l j).length ≤ 2 + 67 * 8 := by
  have key : ∀ m : List It, (∀ x ∈ m, x.ok = true) → (m.flatMap It.enc).length ≤ 67 * m.length := fun m hm => by
    induction m with
    | nil => exact Nat.le_refl _
    | cons x m ih =>
      rw [List.flatMap_cons, List.length_append, List.length_cons]
      have h1 := It.enc_len (hm x (List.mem_cons_self ..))
      have h2 := ih fun y hy => hm y (List.mem_cons_of_mem _ hy)
      omega
  have h1 := key (l.take j) fun x hx => h x (List.mem_of_mem_take hx)
  have h2 : (l.take j).length ≤ j := by rw [List.length_take]; omega
  unfold preE
  rw [List.length_cons, List.length_cons]
  have : 67 * (l.take j).length ≤ 67 * 8 := Nat.mul_le_mul_left _ (by omega)
  omega
theorem preE_succ (l : List It) (j : Nat) (hj : j < l.length) : preE l (j + 1) = preE l j ++ (l[j]'hj).enc := by
  unfold preE
  rw [List.take_succ_eq_append_getElem hj, List.flatMap_append]
  simp
set_option maxRecDepth 100000 in
set_option maxHeartbeats 16000000 in
theorem encList (E w : World) (X R I : Fr) (sa : Option Addr) (cap : Nat) (l : List It) (hl : l.length ≤ 8) (hok : ∀ x ∈ l, x.ok = true) (hw : ∀ x ∈ l, Dt.i64 x.k ∧ Dt.i64 x.n) (hI : ItemsAt E I sa l) (hG : MaxL E I) (hO : Own E w X) [hp : Pick X I R] :
    Calls Tryd.prog 46 #[.slice none 0 0, .agg #[.int .i64 3, .int .i64 0, .string ByteArray.empty, .slice sa l.length cap]] w (EncP E (preE l l.length) (I ++ R)) := by
  replace hO := hO.perm hp.perm
  clear hp
  generalize hpost : EncP E (preE l l.length) (I ++ R) = POST
  have HPOST := Lib.hid hpost
  clear hpost
  have HOK := Lib.hid hok
  have HW := Lib.hid hw
  clear hok hw
  have hcv : (l.length : Int) = ((UInt8.ofNat l.length).toNat : Int) := by rw [UInt8.toNat_ofNat']; omega
  have HCV := Lib.hid hcv
  clear hcv
  go_enter Tryd.func46, Tryd.ntmps46
  go_wp2_with (first | (refine at_box ?_; go_must (refine own_box (v := ?_) hO ?_ ?_ ?_; rotate_left; (· rfl); (· ((conv => lhs; whnf); try exact rfl)); clear hO; (try clear hF); intro ob _ hO; (try simp only [Value.cells] at hO); ((try simp only [List.nil_append, List.append_nil] at hO); have hF := Own.cells hO; simp only [cellsOf_append, cellsOf_pt] at hF); simp only [Act.put, List.setIfInBounds_toArray, List.set_cons_zero, List.set_cons_succ])) | (refine at_bs ?_; go_must (refine own_buildN (cells := ?_) sltB9 hO ?_ ?_ ?_ ?_ ?_ ?_; rotate_left; (· rfl); (· decide); (· decide); (· rfl); (· simp [Instr.fill, Act.eval, Value.cells, Array.replicate_succ]; exact rfl); clear hO; (try clear hF); intro b3 _ hO; ((try simp only [List.nil_append, List.append_nil] at hO); have hF := Own.cells hO; simp only [cellsOf_append, cellsOf_pt] at hF); simp only [Act.put, List.setIfInBounds_toArray, List.set_cons_zero, List.set_cons_succ])) | (refine at_append ?_; refine Stop.go ?_))
  refine ⟨?_⟩
  refine own_append (A := []) (sz := 1) (bytes := 1) (z := .int .u8 0) (e := 5) (n := 0) (cap := 0) (sa := none) (xs := []) (xv := .slice (some ⟨b3, 0, none⟩) 2 2) (m := 2) (news := [.int .u8 3, .int .u8 l.length]) sltB9 (.inl (by kernel_rfl)) hO ?_ ?_ ?_ (Sl.nil _ _) ?_ ?_ ?_ ?_ ?_ ?_ ?_
  · rfl
  · rfl
  · rfl
  · intro w; rfl
  · intro w' hO'; exact two_cells hO' (hh := inferInstance)
  · rfl
  · intro u hu; simp at hu; rcases hu with rfl | rfl <;> rfl
  · decide
  · left; decide
  clear hO hF
  intro so4 co4 SO4 w7 hSO4 hO
  have e1 : ([] : List Value) ++ [Value.int .u8 3, Value.int .u8 l.length] = bytesV (preE l 0) := by
    rw [HCV.out]
    rfl
  rw [e1] at hSO4
  replace hO := hO.as (SO4 ++ (pt ob (.cells #[.int .i64 3, .int .i64 0, .string ByteArray.empty, .slice sa l.length cap] 30 (0, 0)) ++ (I ++ R)))
  ((try simp only [List.nil_append, List.append_nil] at hO); have hF := Own.cells hO; simp only [cellsOf_append, cellsOf_pt] at hF)
  simp only [Act.put, List.setIfInBounds_toArray, List.set_cons_zero, List.set_cons_succ]
  go_wp2_with fail
  have hO1 := hO
  have hSO1 := hSO4
  clear hO hSO4 hF e1
  go_loopw [0, 56] (fun o i wr => ∃ (j : Nat) (so : Option Addr) (co : Nat) (SO : Fr), i = .int .i64 j ∧ j ≤ l.length ∧ o = .slice so (preE l j).length co ∧ Sl 5 1 so (preE l j).length co (bytesV (preE l j)) SO ∧ Own E wr (SO ++ (I ++ R))) (fun _ i _ => l.length - (intOf i).toNat)
  case atStart => exact ⟨0, so4, co4, SO4, rfl, Nat.zero_le _, rfl, hSO1, hO1.as _⟩
  case round =>
    clear hO1 hSO1
    obtain ⟨j, so, co, SO, rfl, hj, rfl, hSO, hO⟩ := hrel
    by_cases hlt : j < l.length
    · have h1 : (j : Int) < l.length := by omega
      have h2 : (0 : Int) ≤ j := by omega
      obtain ⟨ad, a, c, rfl, hsc⟩ := items_cells hI (hO.as (I ++ R)) hlt
      have hpl := preE_len HOK.out j (by omega)
      have hps := preE_succ l j hlt
      obtain ⟨x, hx⟩ : ∃ x, l[j]'hlt = x := ⟨_, rfl⟩
      rw [hx] at hsc hps
      have hxm : x ∈ l := hx ▸ List.getElem_mem hlt
      have hxo := HOK.out x hxm
      have hxw := (HW.out x hxm).2
      have HSC := Lib.hid hsc
      have HPS := Lib.hid hps
      have HXO := Lib.hid hxo
      have HXW := Lib.hid hxw
      have HLT := Lib.hid hlt
      clear hx hsc hps hxm hxo hxw hlt hj
      generalize hpl2 : preE l j = pl at hSO hpl ⊢
      rw [hpl2] at HPS
      clear hpl2
      go_wp2_with (first | (refine at_load (t := 30) ?_; refine own_loadC (ad := ad.add (j * 4)) (cs := [.int .i64 x.k, .int .i64 x.n, .string x.s, .slice a x.m c]) ?_ (HSC.out _ _ (hO.as (I ++ R))) ?_ ?_ ?_ ?_; (· rfl); (· ((conv => lhs; whnf); try exact rfl)); (· simp; done); (· simp; done); simp only [Act.put, List.setIfInBounds_toArray, List.set_cons_zero, List.set_cons_succ]) | (refine at_alloc ?_; go_must (refine own_alloc (z := .agg #[.int .i64 0, .int .i64 0, .string .empty, .slice none 0 0]) hO ?_ ?_ ?_; (· rfl); (· kernel_rfl); clear hO; (try clear hF); intro nb _ hO; (try simp only [Value.cells] at hO); ((try simp only [List.nil_append, List.append_nil] at hO); have hF := Own.cells hO; simp only [cellsOf_append, cellsOf_pt] at hF); simp only [Act.put, List.setIfInBounds_toArray, List.set_cons_zero, List.set_cons_succ])) | (refine own_store (v := ?_) (off := 0) (b := nb) hO ?_ ?_ ?_ ?_ ?_ ?_ ?_; rotate_left; (· rfl); (· ((conv => lhs; whnf); try exact rfl)); (· ((conv => lhs; whnf); try exact rfl)); (· simp [Value.cells]); (· simp [Value.cells, Value.oneCell']); (· simp [Value.cells]); clear hO; (try clear hF); intro _ hO; (try simp only [splice, Value.cells] at hO); ((try simp only [List.nil_append, List.append_nil] at hO); have hF := Own.cells hO; simp only [cellsOf_append, cellsOf_pt] at hF); simp only [Act.put, List.setIfInBounds_toArray, List.set_cons_zero, List.set_cons_succ]) | (refine at_load ?_; refine own_loadS (b := ?_) (cs := ?_) (e := ?_) (f := ?_) hO ?_ ?_ ?_ ?_ ?_ ?_; rotate_left 4; (· rfl); (· rfl); (· exact inferInstance); (· simp; done); (· simp [Value.cells]; done); simp only [Act.put, List.setIfInBounds_toArray, List.set_cons_zero, List.set_cons_succ]))
      refine (encItem E _ _ R SO I so co pl (by omega) hSO x HXO.out HXW.out a c hG (hO.as ((SO ++ I) ++ R))).mono ?_
      clear hO hF hSO
      rintro e w8 ⟨so2, co2, SO2, rfl, hSO2, hO⟩
      rw [← HPS.out] at hSO2 ⊢
      go_wp2_with fail
      go_roundw
      case rel =>
        refine ⟨_, _, _, _, _, _, _, _, _, _, ?_, rfl⟩
        exact ⟨j + 1, so2, co2, SO2, by go_num, HLT.out, rfl, hSO2, hO⟩
      case measure => have := HLT.out; simp [intOf]; omega
    · obtain rfl : j = l.length := by omega
      have h1 : ¬ (l.length : Int) < l.length := by omega
      clear hlt hj
      go_wp2_with fail
      rw [← HPOST.out]
      exact ⟨so, co, SO, rfl, hSO, hO⟩
/-- encode onto nothing: the datum's bytes. -/
theorem encD (E w : World) (X R I : Fr) (d : Dt) (sa : Option Addr) (cap : Nat) (hd : d.ok = true) (hw : d.wf) (hI : ItemsAt E I sa d.l) (hG : MaxL E I) (hO : Own E w X) [hp : Pick X I R] :
    Calls Tryd.prog 46 #[.slice none 0 0, .agg #[.int .i64 d.k, .int .i64 d.n, .string d.s, .slice sa d.l.length cap]] w (EncP E d.enc (I ++ R)) := by
  replace hO := hO.perm hp.perm
  by_cases k3 : d.k = 3
  · obtain ⟨h1, h2, h3, h4⟩ := Dt.ok_list k3 hd
    obtain ⟨k, n, s, l⟩ := d
    simp only at k3 h1 h2 h3 h4
    subst k3 h1 h2
    have e1 : Dt.enc ⟨3, 0, ByteArray.empty, l⟩ = preE l l.length := by
      unfold Dt.enc preE
      rw [if_pos rfl, List.take_length]
    rw [e1]
    exact encList E w _ R I sa cap l h3 h4 hw.l hI hG hO
  · have h1 := Dt.ok_one k3 hd
    have e1 : d.enc = [] ++ d.hd.enc := by unfold Dt.enc; rw [if_neg k3]; rfl
    rw [e1]
    exact encItem E w _ R [] I none 0 [] (Nat.zero_le _) (Sl.nil _ _) d.hd h1 hw.n sa cap hG hO
def encB (d : Dt) : ByteArray := ⟨d.enc.toArray⟩
def BytP (E : World) (d : Dt) (X : Fr) (e : Ending) (w' : World) : Prop :=
  e = .returned (.tuple (if d.ok then #[.string (encB d), .int .i64 0] else #[.string .empty, .int .i64 11])) ∧ Own E w' X
set_option maxRecDepth 100000 in
set_option maxHeartbeats 16000000 in
theorem datBytes (E w : World) (X R I : Fr) (d : Dt) (sa : Option Addr) (cap : Nat) (hw : d.wf) (hI : ItemsAt E I sa d.l) (hG : MaxL E I) (hO : Own E w X) [hp : Pick X I R] :
    Calls Tryd.prog 28 #[.agg #[.int .i64 d.k, .int .i64 d.n, .string d.s, .slice sa d.l.length cap]] w (BytP E d (I ++ R)) := by
  replace hO := hO.perm hp.perm
  clear hp
  obtain ⟨b, hb⟩ : ∃ b, d.ok = b := ⟨_, rfl⟩
  generalize hpost : BytP E d (I ++ R) = POST
  have HPOST := Lib.hid hpost
  clear hpost
  have HB := Lib.hid hb
  have HW := Lib.hid hw
  clear hw
  cases b
  · clear hb
    go_enter Tryd.func28, Tryd.ntmps28
    go_wp2_with (first | (refine at_box ?_; go_must (refine own_box (v := ?_) hO ?_ ?_ ?_; rotate_left; (· rfl); (· ((conv => lhs; whnf); try exact rfl)); clear hO; (try clear hF); intro ob _ hO; (try simp only [Value.cells] at hO); ((try simp only [List.nil_append, List.append_nil] at hO); have hF := Own.cells hO; simp only [cellsOf_append, cellsOf_pt] at hF); simp only [Act.put, List.setIfInBounds_toArray, List.set_cons_zero, List.set_cons_succ])) | (refine at_load ?_; refine own_loadS (b := ?_) (cs := ?_) (e := ?_) (f := ?_) hO ?_ ?_ ?_ ?_ ?_ ?_; rotate_left 4; (· rfl); (· rfl); (· exact inferInstance); (· simp; done); (· simp [Value.cells]; done); simp only [Act.put, List.setIfInBounds_toArray, List.set_cons_zero, List.set_cons_succ]))
    refine (datCheck E _ _ _ I d sa cap hI hO).mono ?_
    clear hO hF
    rintro e w1 ⟨rfl, hO⟩
    rw [if_neg (by rw [HB.out]; decide)]
    go_wp2_with fail
    rw [← HPOST.out]
    refine ⟨?_, hO.as _⟩
    rw [if_neg (by rw [HB.out]; decide)]
    rfl
  · have HB2 := Lib.hid hb
    clear hb
    go_enter Tryd.func28, Tryd.ntmps28
    go_wp2_with (first | (refine at_box ?_; go_must (refine own_box (v := ?_) hO ?_ ?_ ?_; rotate_left; (· rfl); (· ((conv => lhs; whnf); try exact rfl)); clear hO; (try clear hF); intro ob _ hO; (try simp only [Value.cells] at hO); ((try simp only [List.nil_append, List.append_nil] at hO); have hF := Own.cells hO; simp only [cellsOf_append, cellsOf_pt] at hF); simp only [Act.put, List.setIfInBounds_toArray, List.set_cons_zero, List.set_cons_succ])) | (refine at_load ?_; refine own_loadS (b := ?_) (cs := ?_) (e := ?_) (f := ?_) hO ?_ ?_ ?_ ?_ ?_ ?_; rotate_left 4; (· rfl); (· rfl); (· exact inferInstance); (· simp; done); (· simp [Value.cells]; done); simp only [Act.put, List.setIfInBounds_toArray, List.set_cons_zero, List.set_cons_succ]))
    refine (datCheck E _ _ _ I d sa cap hI hO).mono ?_
    clear hO hF
    rintro e w1 ⟨rfl, hO⟩
    rw [if_pos HB.out]
    replace hO := hO.as (pt ob (.cells #[.int .i64 d.k, .int .i64 d.n, .string d.s, .slice sa d.l.length cap] 30 (0, 0)) ++ (I ++ R))
    ((try simp only [List.nil_append, List.append_nil] at hO); have hF := Own.cells hO; simp only [cellsOf_append, cellsOf_pt] at hF)
    go_wp2_with (refine at_load ?_; refine own_loadS (b := ?_) (cs := ?_) (e := ?_) (f := ?_) hO ?_ ?_ ?_ ?_ ?_ ?_; rotate_left 4; (· rfl); (· rfl); (· exact inferInstance); (· simp; done); (· simp [Value.cells]; done); simp only [Act.put, List.setIfInBounds_toArray, List.set_cons_zero, List.set_cons_succ])
    refine (encD E _ _ _ I d sa cap HB.out HW.out hI hG hO).mono ?_
    clear hO hF
    rintro e w2 ⟨so, co, SO, rfl, hSO, hO⟩
    have hel : d.enc.length = d.enc.length := rfl
    go_wp2_with (refine at_conv ?_; go_must (refine own_bytes_str (e := 5) (ad := so) (n := d.enc.length) (cap := co) (l := d.enc) (by kernel_rfl) (by kernel_rfl) (by kernel_rfl) ?_ ?_ ?_ ?_ ?_ ?_; (· rfl); (· rfl); (· rfl); (· intro b hb j v hj; cases hb; obtain ⟨hlt, hv⟩ := List.getElem?_eq_some_iff.1 hj; rw [hSO.cell hO b rfl j hlt, hv]); (· intro h; subst h; rcases hSO.2.2.2 with ⟨_, hc, _⟩ | ⟨_, _, hb, _⟩ <;> first | (have := hSO.2.1; omega) | cases hb); simp only [Act.put, List.setIfInBounds_toArray, List.set_cons_zero, List.set_cons_succ]))
    rw [← HPOST.out]
    refine ⟨?_, hO.as _⟩
    rw [if_pos HB.out]
    rfl
end Go.Proofs.YticclennllklpaaDoor

/- The method: the comparison of entries. -/
namespace Go.Proofs.YticclennllklpaaDoor
open Go Go.RowKit Go.Own Go.Dt Go.Shelf
def Tryd.lay106_ren : Go.Shelf.Ren := ⟨fun | 106 => 43 | 213 => 57 | 265 => 63 | n => n, fun | 9 => 9 | 3 => 3 | n => n, fun | n => n⟩
theorem Tryd.lay106 : Go.Proofs.Lays.n106 Tryd.prog Tryd.lay106_ren where
  mixed := by kernel_rfl
  f106 := Tryd.func43.trans (congrArg some (by kernel_rfl))
  f213 := Tryd.func57.trans (congrArg some (by kernel_rfl))
  f265 := Tryd.func63.trans (congrArg some (by kernel_rfl))
  t3 := Tryd.underlying3
  a3 := Tryd.isAgg3
  z3 := Tryd.sizeOf3
  v3 := Tryd.zeroValue3
  t9 := Tryd.underlying9
  a9 := Tryd.isAgg9
  z9 := Tryd.sizeOf9
  v9 := Tryd.zeroValue9
theorem sltI9 : SlT Tryd.prog 34 3 1 8 (.int .i64 0) := ⟨by kernel_rfl, by kernel_rfl, rfl⟩
theorem strCmp (w : World) (a b : ByteArray) : Calls Tryd.prog 43 #[.string a, .string b] w fun e w' => e = .returned (.int .i64 (Lib.compareBytes a.data.toList b.data.toList)) ∧ w = w' :=
  (Any.strings_Compare Tryd.lay106 a b w).mono fun _ _ h => ⟨h.1, h.2.symm⟩
set_option maxRecDepth 100000 in
set_option maxHeartbeats 16000000 in
theorem isNaN (w : World) (x : Int) : Calls Tryd.prog 58 #[.int .i64 x] w fun e w' => e = .returned (.bool false) ∧ w = w' := by
  have h : (x != x) = false := bne_self_eq_false x
  go_enter Tryd.func58, Tryd.ntmps58
  go_wp2_with fail
  go_ret
  exact ⟨rfl, rfl⟩
set_option maxRecDepth 100000 in
set_option maxHeartbeats 16000000 in
theorem cmpInt (w : World) (x y : Int) : Calls Tryd.prog 44 #[.int .i64 x, .int .i64 y] w fun e w' => e = .returned (.int .i64 (cmpI x y)) ∧ w = w' := by
  generalize hz : cmpI x y = z
  unfold cmpI at hz
  by_cases h1 : x < y
  · rw [if_pos h1] at hz
    subst hz
    go_enter Tryd.func44, Tryd.ntmps44
    go_wp2_with (go_at_call 58; refine (isNaN _ _).mono ?_; rintro e w1 ⟨rfl, rfl⟩)
    go_ret
    exact ⟨rfl, rfl⟩
  · rw [if_neg h1] at hz
    by_cases h2 : y < x
    · rw [if_pos h2] at hz
      subst hz
      go_enter Tryd.func44, Tryd.ntmps44
      go_wp2_with (go_at_call 58; refine (isNaN _ _).mono ?_; rintro e w1 ⟨rfl, rfl⟩)
      go_ret
      exact ⟨rfl, rfl⟩
    · rw [if_neg h2] at hz
      subst hz
      go_enter Tryd.func44, Tryd.ntmps44
      go_wp2_with (go_at_call 58; refine (isNaN _ _).mono ?_; rintro e w1 ⟨rfl, rfl⟩)
      go_ret
      exact ⟨rfl, rfl⟩
set_option maxRecDepth 100000 in
set_option maxHeartbeats 16000000 in
theorem cmpOr (E w : World) (X R : Fr) (bs : Nat) (a b : Int) (hO : Own E w X) [hp : Pick X (pt bs (.cells #[.int .i64 a, .int .i64 b] 3 (0, 0))) R] :
    Calls Tryd.prog 42 #[.slice (some ⟨bs, 0, none⟩) 2 2] w fun e w' => e = .returned (.int .i64 (orI a b)) ∧ w = w' := by
  replace hO := hO.perm hp.perm
  clear hp
  have hc0 : w.cell? ⟨bs, 0, none⟩ = some (.int .i64 a) := by rw [hO.cell (b := bs)]; rfl
  have hc1 : w.cell? ⟨bs, 1, none⟩ = some (.int .i64 b) := by rw [hO.cell (b := bs)]; rfl
  clear hO
  generalize hz : orI a b = z
  unfold orI at hz
  have ha : (a = 0 ∧ (a != 0) = false) ∨ (a != 0) = true := by
    by_cases h : a = 0
    · exact .inl ⟨h, by rw [h]; rfl⟩
    · exact .inr (bne_iff_ne.2 h)
  rcases ha with ⟨ha, ha2⟩ | ha
  · rw [if_pos ha] at hz
    subst hz ha
    clear ha2
    have hb : (b = 0 ∧ (b != 0) = false) ∨ (b != 0) = true := by
      by_cases h : b = 0
      · exact .inl ⟨h, by rw [h]; rfl⟩
      · exact .inr (bne_iff_ne.2 h)
    go_enter Tryd.func42, Tryd.ntmps42
    go_wp2_with fail
    go_loopw [8] (fun i wr => ∃ j : Nat, i = .int .i64 j ∧ j ≤ 2 ∧ (1 < j → b = 0) ∧ w = wr) (fun i _ => 2 - (intOf i).toNat)
    case atStart => exact ⟨0, rfl, by decide, fun h => by omega, rfl⟩
    case round =>
      obtain ⟨j, rfl, hj, hjb, rfl⟩ := hrel
      have HJ := Lib.hid hjb
      clear hjb
      match j, hj with
      | 0, _ =>
        go_wp2_with fail
        go_roundw
        case rel => exact ⟨1, by go_num, by decide, fun h => by omega, trivial⟩
        case measure => simp [intOf]
      | 1, _ =>
        rcases hb with ⟨hb, hb2⟩ | hb
        · subst hb
          clear hb2
          go_wp2_with fail
          go_roundw
          case rel => exact ⟨2, by go_num, by decide, fun _ => trivial, trivial⟩
          case measure => simp [intOf]
        · go_wp2_with fail
          go_ret
          exact ⟨rfl, rfl⟩
      | 2, _ =>
        have hb0 := HJ.out (by decide)
        subst hb0
        clear hb
        go_wp2_with fail
        go_ret
        exact ⟨rfl, rfl⟩
  · rw [if_neg (bne_iff_ne.1 ha)] at hz
    subst hz
    go_enter Tryd.func42, Tryd.ntmps42
    go_wp2_with fail
    go_loopw [8] (fun i wr => i = .int .i64 0 ∧ w = wr) (fun i _ => 0)
    case atStart => exact ⟨rfl, rfl⟩
    case round =>
      obtain ⟨rfl, rfl⟩ := hrel
      go_wp2_with fail
      go_ret
      exact ⟨rfl, rfl⟩
end Go.Proofs.YticclennllklpaaDoor
