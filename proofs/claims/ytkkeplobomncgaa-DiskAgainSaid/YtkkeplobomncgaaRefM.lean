/- The document's disk as a value: four lists of bytes that nobody writes over, and a count. -/
import Derived.Test.YtkkeplobomncgaaDisk7
import Derived.Test.YtkkeplobomncgaaArm2
set_option linter.all false
namespace Go.Dk
open Go.Own Go.RowKit

/-- A slice of bytes that reads as l, in blocks that nobody writes. -/
def Rd (a : Option Addr) (l : List UInt8) (c : Nat) (I : Fr) : Prop :=
  l.length ≤ c ∧ c ≤ maxLen ∧ ((a = none ∧ c = 0) ∨ ∃ b rest, a = some ⟨b, 0, none⟩ ∧ (b, Obj.cells (bytesV l ++ rest).toArray 5 (0, 0)) ∈ I)

theorem Rd.nil (I : Fr) : Rd none [] 0 I := ⟨by simp, by simp, .inl ⟨rfl, rfl⟩⟩
theorem Rd.mono {a : Option Addr} {l : List UInt8} {c : Nat} {I J : Fr} (h : Rd a l c I) (hs : ∀ x ∈ I, x ∈ J) : Rd a l c J := by
  obtain ⟨h1, h2, h3⟩ := h
  refine ⟨h1, h2, ?_⟩
  rcases h3 with h3 | ⟨b, rest, ha, hm⟩
  · exact .inl h3
  · exact .inr ⟨b, rest, ha, hs _ hm⟩
theorem Rd.of_sl {a : Option Addr} {l : List UInt8} {c : Nat} {A : Fr} (h : Sl 5 1 a l.length c (bytesV l) A) : Rd a l c A := by
  refine ⟨h.le, h.cap_le, ?_⟩
  rcases h.2.2.2 with ⟨h1, h2, _⟩ | ⟨b, rest, ha, _, hA⟩
  · exact .inl ⟨h1, h2⟩
  · refine .inr ⟨b, rest, ha, ?_⟩
    rw [hA]; simp [pt]
theorem Rd.nilLen {a : Option Addr} {l : List UInt8} {c : Nat} {I : Fr} (h : Rd a l c I) (ha : a = none) : c = 0 := by
  rcases h.2.2 with h3 | ⟨b, rest, hb, _⟩
  · exact h3.2
  · rw [ha] at hb; cases hb
theorem Rd.cells {E w : World} {a : Option Addr} {l : List UInt8} {c : Nat} {I X R : Fr} (h : Rd a l c I) (hO : Own E w X) [hp : Pick X I R] :
    ∀ b, a = some b → ∀ j v, (bytesV l)[j]? = some v → w.cell? (b.add j) = some v := by
  intro b hb j v hj
  rcases h.2.2 with h3 | ⟨b0, rest, ha, hm⟩
  · rw [h3.1] at hb; cases hb
  · rw [ha] at hb
    obtain rfl := Option.some.inj hb
    have h1 := (hO.perm hp.perm).mem _ (List.mem_append.2 (.inl hm))
    rw [add_lit]
    simp only [Nat.zero_add]
    have hjl : j < (bytesV l).length := by
      rcases Nat.lt_or_ge j (bytesV l).length with h | h
      · exact h
      · rw [List.getElem?_eq_none h] at hj; cases hj
    simp only [World.cell?]
    rw [h1]
    simp [List.getElem?_append_left hjl, hj]
theorem Rd.first {P : Program} {E w : World} {a : Option Addr} {l : List UInt8} {c : Nat} {I X R : Fr} (h : Rd a l c I) (hO : Own E w X) [hp : Pick X I R] (n : Nat) (hn : n ≤ l.length) :
    (Builtin.firstCells 1 n (.slice a n c)).run P w = .ok (bytesV (l.take n)).toArray w := by
  cases ha : a with
  | none =>
    have := h.nilLen ha
    have h1 := h.1
    have hl : l = [] := List.eq_nil_of_length_eq_zero (by omega)
    subst hl
    simp [Builtin.firstCells, bytesV]
  | some ad =>
    refine run_firstCells_some w 1 n ad n c (bytesV (l.take n)) (by rw [bytesV_length, List.length_take]; omega) ?_
    intro j v hj
    have hjn : j < n := by
      rcases Nat.lt_or_ge j n with h | h
      · exact h
      · rw [List.getElem?_eq_none (by rw [bytesV_length, List.length_take]; omega)] at hj; cases hj
    rw [bytesV_take, List.getElem?_take_of_lt hjn] at hj
    exact h.cells hO ad ha j v hj

def rcells (s : Nat → Value) (n : Value) : Array Value := #[s 0, s 1, s 2, s 3, n]
theorem rcells_4 (s : Nat → Value) (n : Value) : (rcells s n)[4]? = some n := rfl
theorem rcells_size (s : Nat → Value) (n : Value) : (rcells s n).size = 5 := rfl
theorem rcells_get (s : Nat → Value) (rv : Value) (k : Nat) (h : k < 4) : (rcells s rv)[k]? = some (s k) := by
  match k, h with
  | 0, _ | 1, _ | 2, _ | 3, _ => rfl
theorem rcells_set (s : Nat → Value) (rv v : Value) (k : Nat) (h : k < 4) : (rcells s rv).setIfInBounds k v = rcells (upd s k v) rv := by
  match k, h with
  | 0, _ | 1, _ | 2, _ | 3, _ => simp [rcells, upd]
theorem rcells_set4 (s : Nat → Value) (rv v : Value) : (rcells s rv).setIfInBounds 4 v = rcells s v := by simp [rcells]
attribute [go_sem] rcells_4
theorem rcells_one (s : Nat → Value) (n : Value) (h : ∀ i, (s i).oneCell' = true) (hn : n.oneCell' = true) : ∀ u ∈ (rcells s n).toList, u.oneCell' = true := by
  intro u hu
  simp [rcells] at hu
  rcases hu with rfl | rfl | rfl | rfl | rfl
  · exact h 0
  · exact h 1
  · exact h 2
  · exact h 3
  · exact hn

/-- The value q is the document's disk behind the raw writes rs; its lists lie among I. -/
def RefAt (q : Value) (rs : List Raw) (I : Fr) : Prop :=
  ∃ (fa : Nat → Option Addr) (fc : Nat → Nat), q = .agg (rcells (fileVs fa (play rs) fc) (.int .i64 rs.length)) ∧ ∀ k, k < 4 → Rd (fa k) (play rs k) (fc k) I
theorem RefAt.mono {q : Value} {rs : List Raw} {I J : Fr} (h : RefAt q rs I) (hs : ∀ x ∈ I, x ∈ J) : RefAt q rs J := by
  obtain ⟨fa, fc, hq, hr⟩ := h
  exact ⟨fa, fc, hq, fun k hk => (hr k hk).mono hs⟩
theorem RefAt.nil (I : Fr) : RefAt (.agg (rcells (fun _ => .slice none 0 0) (.int .i64 0))) [] I :=
  ⟨fun _ => none, fun _ => 0, rfl, fun k _ => Rd.nil I⟩

theorem RefAt.step_trim {rs : List Raw} {k n : Nat} {fa : Nat → Option Addr} {fc : Nat → Nat} {I A : Fr} {a' : Option Addr} {c' : Nat} (hn : n ≤ (play rs k).length) (hr : ∀ k, k < 4 → Rd (fa k) (play rs k) (fc k) I)
    (hA : Sl 5 1 a' n c' (bytesV ((play rs k).take n)) A) :
    RefAt (.agg (rcells (upd (fileVs fa (play rs) fc) k (.slice a' n c')) (.int .i64 ((rs.length : Int) + 1)))) (rs ++ [.trim k n]) (A ++ I) := by
  have hl : ((play rs k).take n).length = n := by rw [List.length_take]; omega
  refine ⟨upd fa k a', upd fc k c', ?_, ?_⟩
  · congr 2
    · funext i
      simp only [fileVs, play_snoc, Raw.app, upd]
      split
      · rename_i h; subst h; rw [hl]
      · rfl
    · simp
  · intro i hi
    simp only [play_snoc, Raw.app, upd]
    split
    · rw [← hl] at hA
      exact (Rd.of_sl (by rw [hl] at hA ⊢; exact hA)).mono (fun x hx => List.mem_append.2 (.inl hx))
    · exact (hr i hi).mono (fun x hx => List.mem_append.2 (.inr hx))
theorem RefAt.step_put {rs : List Raw} {k p : Nat} {t : ByteArray} {fa : Nat → Option Addr} {fc : Nat → Nat} {I A : Fr} {a' : Option Addr} {c' : Nat} (hr : ∀ k, k < 4 → Rd (fa k) (play rs k) (fc k) I)
    (hA : Sl 5 1 a' (over (play rs k) p t.data.toList).length c' (bytesV (over (play rs k) p t.data.toList)) A) :
    RefAt (.agg (rcells (upd (fileVs fa (play rs) fc) k (.slice a' (over (play rs k) p t.data.toList).length c')) (.int .i64 ((rs.length : Int) + 1)))) (rs ++ [.put k p t]) (A ++ I) := by
  refine ⟨upd fa k a', upd fc k c', ?_, ?_⟩
  · congr 2
    · funext i
      simp only [fileVs, play_snoc, Raw.app, upd]
      split <;> rfl
    · simp
  · intro i hi
    simp only [play_snoc, Raw.app, upd]
    split
    · exact (Rd.of_sl hA).mono (fun x hx => List.mem_append.2 (.inl hx))
    · exact (hr i hi).mono (fun x hx => List.mem_append.2 (.inr hx))
end Go.Dk
