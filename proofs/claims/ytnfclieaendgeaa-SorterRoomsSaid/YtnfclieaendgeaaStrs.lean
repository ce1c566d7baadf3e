/- Arguments that are slices of texts. -/
import Derived.Test.YtnfclieaendgeaaOpens
set_option linter.all false
namespace Go.Own
open Go.RowKit Go.ChangeShapes Go.WideShapes Go.Deep

/-- The texts as they came in. -/
def StrsAt (E : World) (sa : Option Addr) (L : List ByteArray) : Prop :=
  ∀ i (h : i < L.length), ∃ ad, sa = some ad ∧ RowAt E (ad.add i) [.string L[i]] ∧ L[i].size ≤ maxLen

theorem StrsAt.cell {E w : World} {X R : Fr} {ad : Addr} {L : List ByteArray} (h : StrsAt E (some ad) L) (hO : Own E w X) [hp : Pick X (oldFr E) R] (i : Nat) (hi : i < L.length) : w.cell? (ad.add i) = some (.string L[i]) := by
  obtain ⟨ad', h1, h2, _⟩ := h i hi
  cases h1
  have := h2.at hO 0 (.string L[i]) rfl
  simpa [Go.Deep.add_add] using this

theorem open_strs {H : Type} {enc : TypeId × Value → H} {P : Program} {W : World} {spare : Nat → Bool} {v : Value} {fuel : Nat} {t e : TypeId} {x : DataW H × List MemPlace} (ht : P.underlying t = some (.slice e)) (he : P.underlying e = some .string)
    (hC : P.cellsOf e = 1) (h : DataW.trod enc P W 0 spare true fuel t [v] = some x) :
    ∃ sa sc L, v = .slice sa (List.length L) sc ∧ StrsAt W sa L ∧ (List.length L = 0 ∨ ∃ es sp, x.1 = .slice es sp ∧ es.length = List.length L) := by
  rcases open_slice ht h with ⟨h0, hx⟩ | ⟨a, len, cap, m, n, D, Pl, hcs, hb, hl, hm, hmm, hx, hi⟩
  · exact ⟨none, 0, [], by simpa using h0, fun i hi => absurd hi (by simp), .inl rfl⟩
  · have hlm : len ≤ m := by rw [hmm]; split <;> omega
    have : ∀ i, i < len → ∃ o : ByteArray, ∃ ad, some a = some ad ∧ RowAt W (ad.add i) [.string o] ∧ o.size ≤ maxLen := by
      intro i him
      obtain ⟨cs', hc, ht'⟩ := hi i (by omega)
      rw [hC] at hc
      obtain ⟨_, hcl, hat⟩ := World.cells?_some hc
      match cs', hcl with
      | [u], _ =>
        obtain ⟨s, c, _, hs⟩ := DataW.trod_string he ht'
        simp at c
        subst c
        refine ⟨s, a, rfl, ?_, hs⟩
        intro j u hj
        match j, hj with
        | 0, hj =>
          cases hj
          have := hat 0 (by simp)
          rw [Nat.mul_one] at this
          simpa using this
    obtain ⟨L, hL, hp⟩ := exists_list this
    subst hL
    exact ⟨some a, cap, L, by simpa using hcs, fun i h => hp i h, .inr ⟨_, _, by rw [hx], by simp⟩⟩
end Go.Own
