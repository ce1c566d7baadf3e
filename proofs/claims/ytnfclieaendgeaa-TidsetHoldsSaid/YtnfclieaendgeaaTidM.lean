/- Sets of addresses, exact or by whole pages, in plain Lean. -/
import Derived.Test.YtnfclieaendgeaaOwn
set_option linter.all false
namespace Go.Td

def Up (l : List Int) : Prop := l.Pairwise (· < ·)
/-- Into a rising list. -/
def ins (x : Int) : List Int → List Int
  | [] => [x]
  | y :: l => if x < y then x :: y :: l else if x = y then y :: l else y :: ins x l
theorem mem_ins {x z : Int} : ∀ {l : List Int}, z ∈ ins x l ↔ z = x ∨ z ∈ l
  | [] => by simp [ins]
  | y :: l => by
    unfold ins
    split
    · simp
    · split
      · next h => subst h; simp
      · rw [List.mem_cons, mem_ins, List.mem_cons]
        constructor
        · rintro (h | h | h)
          · exact .inr (.inl h)
          · exact .inl h
          · exact .inr (.inr h)
        · rintro (h | h | h)
          · exact .inr (.inl h)
          · exact .inl h
          · exact .inr (.inr h)
theorem up_ins {x : Int} : ∀ {l : List Int}, Up l → Up (ins x l)
  | [], _ => List.pairwise_singleton _ _
  | y :: l, h => by
    obtain ⟨h1, h2⟩ := List.pairwise_cons.1 h
    unfold ins
    split
    · next hx =>
      refine List.pairwise_cons.2 ⟨fun z hz => ?_, h⟩
      rcases List.mem_cons.1 hz with rfl | hz
      · exact hx
      · have := h1 z hz
        omega
    · split
      · exact h
      · next hx hy =>
        refine List.pairwise_cons.2 ⟨fun z hz => ?_, up_ins h2⟩
        rcases mem_ins.1 hz with rfl | hz
        · omega
        · exact h1 z hz
theorem Up.nodup {l : List Int} (h : Up l) : l.Nodup := h.imp fun hlt => by omega
theorem up_ext {l m : List Int} (hl : Up l) (hm : Up m) (h : ∀ x, x ∈ l ↔ x ∈ m) : l = m := by
  refine List.Perm.eq_of_pairwise (le := fun a b => a < b) (fun a b _ _ h1 h2 => by omega) hl hm ?_
  exact (List.perm_ext_iff_of_nodup hl.nodup hm.nodup).2 h
theorem ins_old {x : Int} {l : List Int} (hl : Up l) (h : x ∈ l) : ins x l = l := up_ext (up_ins hl) hl fun z => by
  rw [mem_ins]
  constructor
  · rintro (rfl | h1)
    · exact h
    · exact h1
  · exact .inr
theorem ins_perm {x : Int} {l : List Int} (hl : Up l) (h : x ∉ l) : (ins x l).Perm (x :: l) :=
  (List.perm_ext_iff_of_nodup (up_ins hl).nodup (List.nodup_cons.2 ⟨h, hl.nodup⟩)).2 fun z => by rw [mem_ins, List.mem_cons]
theorem exists_up : ∀ {l : List Int}, l.Nodup → ∃ U, Up U ∧ l.Perm U
  | [], _ => ⟨[], List.Pairwise.nil, .refl _⟩
  | x :: l, h => by
    obtain ⟨h1, h2⟩ := List.nodup_cons.1 h
    obtain ⟨U, hU, hp⟩ := exists_up h2
    exact ⟨ins x U, up_ins hU, (hp.cons x).trans (ins_perm hU (fun h => h1 (hp.mem_iff.2 h))).symm⟩
theorem Up.filter {l : List Int} (h : Up l) (p : Int → Bool) : Up (l.filter p) := List.Pairwise.sublist List.filter_sublist h

def pg (t : Int) : Int := t / 64
def cnt (T : List Int) (p : Int) : Nat := (T.filter fun t => pg t == p).length
/-- The fullest page; of those the first. -/
structure Best (T : List Int) (p : Int) : Prop where
  ex : ∃ t ∈ T, pg t = p
  le : ∀ t ∈ T, cnt T (pg t) < cnt T p ∨ (cnt T (pg t) = cnt T p ∧ p ≤ pg t)
theorem Best.uniq {T : List Int} {p q : Int} (h : Best T p) (k : Best T q) : p = q := by
  obtain ⟨t, ht, rfl⟩ := h.ex
  obtain ⟨u, hu, rfl⟩ := k.ex
  have h1 := h.le u hu
  have h2 := k.le t ht
  omega
/-- Among some pages. -/
structure BestIn (T : List Int) (L : List Int) (p : Int) : Prop where
  ex : p ∈ L
  le : ∀ q ∈ L, cnt T q < cnt T p ∨ (cnt T q = cnt T p ∧ p ≤ q)
theorem BestIn.best {T L : List Int} {p : Int} (h : BestIn T L p) (hL : ∀ q, q ∈ L ↔ ∃ t ∈ T, pg t = q) : Best T p :=
  ⟨(hL p).1 h.ex, fun t ht => h.le _ ((hL _).2 ⟨t, ht, rfl⟩)⟩
theorem BestIn.one (T : List Int) (p : Int) : BestIn T [p] p := ⟨by simp, fun q hq => by simp at hq; subst hq; exact .inr ⟨rfl, by omega⟩⟩
theorem BestIn.more {T L : List Int} {p q : Int} (h : BestIn T L p) (hc : cnt T p < cnt T q ∨ (cnt T q = cnt T p ∧ q < p)) : BestIn T (L ++ [q]) q :=
  ⟨by simp, fun r hr => by
    rcases List.mem_append.1 hr with hr | hr
    · have := h.le r hr; omega
    · simp at hr; subst hr; exact .inr ⟨rfl, by omega⟩⟩
theorem BestIn.stay {T L : List Int} {p q : Int} (h : BestIn T L p) (hc : ¬ (cnt T p < cnt T q ∨ (cnt T q = cnt T p ∧ q < p))) : BestIn T (L ++ [q]) p :=
  ⟨by simp [h.ex], fun r hr => by
    rcases List.mem_append.1 hr with hr | hr
    · exact h.le r hr
    · simp at hr; subst hr; omega⟩

inductive Deg (most : Nat) : List Int → List Int → List Int → List Int → Prop
  | done {T W} : T.length ≤ most → Deg most T W T W
  | step {T W p T' W'} : most < T.length → Best T p → Deg most (T.filter fun t => pg t != p) (ins p W) T' W' → Deg most T W T' W'
theorem Deg.uniq {most : Nat} {T W T1 W1 T2 W2 : List Int} (h : Deg most T W T1 W1) (k : Deg most T W T2 W2) : T1 = T2 ∧ W1 = W2 := by
  induction h generalizing T2 W2 with
  | done h1 =>
    cases k with
    | done _ => exact ⟨rfl, rfl⟩
    | step h2 _ _ => omega
  | step h1 hb _ ih =>
    cases k with
    | done _ => omega
    | step _ hb2 k2 =>
      obtain rfl := hb.uniq hb2
      exact ih k2
theorem Deg.len {most : Nat} {T W T' W' : List Int} (h : Deg most T W T' W') : T'.length ≤ most := by
  induction h with
  | done h => exact h
  | step _ _ _ ih => exact ih

/-- A set's lists. -/
structure Inv (T W : List Int) : Prop where
  t : Up T
  w : Up W
  tb : ∀ t ∈ T, 0 ≤ t ∧ t < 16777216
  tw : ∀ t ∈ T, pg t ∉ W
  wb : ∀ p ∈ W, 0 ≤ p ∧ p < 262144
theorem pg_b {t : Int} (h : 0 ≤ t ∧ t < 16777216) : 0 ≤ pg t ∧ pg t < 262144 := by unfold pg; omega
theorem Inv.step {T W : List Int} {p : Int} (h : Inv T W) (hp : ∃ t ∈ T, pg t = p) : Inv (T.filter fun t => pg t != p) (ins p W) := by
  obtain ⟨t0, ht0, rfl⟩ := hp
  refine ⟨h.t.filter _, up_ins h.w, fun t ht => h.tb t (List.mem_filter.1 ht).1, fun t ht => ?_, fun q hq => ?_⟩
  · obtain ⟨h1, h2⟩ := List.mem_filter.1 ht
    rw [mem_ins]
    rintro (h3 | h3)
    · simp [h3] at h2
    · exact h.tw t h1 h3
  · rcases mem_ins.1 hq with rfl | hq
    · exact pg_b (h.tb _ ht0)
    · exact h.wb q hq
theorem Inv.deg {most : Nat} {T W T' W' : List Int} (h : Inv T W) (k : Deg most T W T' W') : Inv T' W' := by
  induction k with
  | done _ => exact h
  | step _ hb _ ih => exact ih (h.step hb.ex)
def has (T W : List Int) (t : Int) : Prop := (0 ≤ t ∧ t < 16777216) ∧ (pg t ∈ W ∨ t ∈ T)
instance (T W : List Int) (t : Int) : Decidable (has T W t) := inferInstanceAs (Decidable (_ ∧ _))
theorem Deg.has {most : Nat} {T W T' W' : List Int} (k : Deg most T W T' W') (t : Int) (h : has T W t) : has T' W' t := by
  induction k with
  | done _ => exact h
  | @step T W p _ _ _ hb _ ih =>
    refine ih ⟨h.1, ?_⟩
    rcases h.2 with h2 | h2
    · exact .inl (mem_ins.2 (.inr h2))
    · by_cases hp : pg t = p
      · exact .inl (mem_ins.2 (.inl hp))
      · exact .inr (List.mem_filter.2 ⟨h2, by simpa using hp⟩)
theorem Deg.sub {most : Nat} {T W T' W' : List Int} (k : Deg most T W T' W') : (∀ t ∈ T', t ∈ T) ∧ (∀ p ∈ W, p ∈ W') ∧ (∀ p ∈ W', p ∈ W ∨ ∃ t ∈ T, pg t = p) := by
  induction k with
  | done _ => exact ⟨fun _ h => h, fun _ h => h, fun _ h => .inl h⟩
  | @step T W p _ _ _ hb _ ih =>
    obtain ⟨i1, i2, i3⟩ := ih
    refine ⟨fun t ht => (List.mem_filter.1 (i1 t ht)).1, fun q hq => i2 q (mem_ins.2 (.inr hq)), fun q hq => ?_⟩
    rcases i3 q hq with h | ⟨t, ht, rfl⟩
    · rcases mem_ins.1 h with rfl | h
      · exact .inr hb.ex
      · exact .inl h
    · exact .inr ⟨t, (List.mem_filter.1 ht).1, rfl⟩
/-- Nothing more stands whole: then nothing was taken. -/
theorem Deg.same {most : Nat} {T W T' W' : List Int} (k : Deg most T W T' W') (h : T.length ≤ most) : T' = T ∧ W' = W := by
  cases k with
  | done _ => exact ⟨rfl, rfl⟩
  | step h2 _ _ => omega
theorem Deg.all {most : Nat} {T W T' W' : List Int} (k : Deg most T W T' W') (h0 : most = 0) : ∀ t ∈ T, pg t ∈ W' := by
  induction k with
  | @done T W h =>
    intro t ht
    have h1 : T = [] := List.eq_nil_of_length_eq_zero (by omega)
    subst h1
    cases ht
  | @step T W p _ _ _ hb k ih =>
    intro t ht
    by_cases hp : pg t = p
    · exact k.sub.2.1 _ (mem_ins.2 (.inl hp))
    · exact ih t (List.mem_filter.2 ⟨ht, by simpa using hp⟩)
theorem Deg.zero {T W T' W' : List Int} (k : Deg 0 T W T' W') : T' = [] ∧ ∀ p, p ∈ W' ↔ p ∈ W ∨ ∃ t ∈ T, pg t = p := by
  refine ⟨List.eq_nil_of_length_eq_zero (Nat.le_zero.1 k.len), fun p => ⟨k.sub.2.2 p, ?_⟩⟩
  rintro (h | ⟨t, ht, rfl⟩)
  · exact k.sub.2.1 p h
  · exact k.all rfl t ht

def put (T W : List Int) (t : Int) : List Int := if pg t ∈ W then T else ins t T
theorem Inv.put {T W : List Int} (h : Inv T W) {t : Int} (ht : 0 ≤ t ∧ t < 16777216) : Inv (put T W t) W := by
  unfold Td.put
  split
  · exact h
  · next hw =>
    refine ⟨up_ins h.t, h.w, fun u hu => ?_, fun u hu => ?_, h.wb⟩
    · rcases mem_ins.1 hu with rfl | hu
      · exact ht
      · exact h.tb u hu
    · rcases mem_ins.1 hu with rfl | hu
      · exact hw
      · exact h.tw u hu
theorem mem_put {T W : List Int} {t u : Int} (h : Inv T W) : u ∈ put T W t ↔ (u = t ∧ pg t ∉ W) ∨ u ∈ T := by
  unfold put
  split
  · next hw => simp [hw]
  · next hw => rw [mem_ins]; simp [hw]
theorem put_len {T W : List Int} (h : Inv T W) (t : Int) : (put T W t).length ≤ T.length + 1 := by
  unfold put
  split
  · omega
  · by_cases hx : t ∈ T
    · rw [ins_old h.t hx]; omega
    · rw [(ins_perm h.t hx).length_eq]; simp
end Go.Td
