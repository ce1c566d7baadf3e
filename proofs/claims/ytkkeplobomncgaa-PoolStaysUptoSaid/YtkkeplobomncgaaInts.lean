/- Arguments that are slices of ints. -/
import Derived.Test.YtkkeplobomncgaaOpens
set_option linter.all false
namespace Go.Own
open Go.RowKit Go.ChangeShapes Go.WideShapes Go.Deep

/-- The numbers as they came in. -/
def IntsAt (E : World) (sa : Option Addr) (L : List Int) : Prop :=
  ∀ i (h : i < L.length), ∃ ad, sa = some ad ∧ RowAt E (ad.add i) [.int .i64 L[i]]

theorem open_intsL {H : Type} {enc : TypeId × Value → H} {P : Program} {W : World} {spare : Nat → Bool} {v : Value} {fuel : Nat} {t e : TypeId} {x : DataW H × List MemPlace} (ht : P.underlying t = some (.slice e)) (he : P.underlying e = some (.int .i64))
    (hC : P.cellsOf e = 1) (h : DataW.trod enc P W 0 spare true fuel t [v] = some x) :
    ∃ sa sc L, v = .slice sa (List.length L) sc ∧ IntsAt W sa L ∧ (List.length L = 0 ∨ ∃ es sp, x.1 = .slice es sp ∧ es.length = List.length L) := by
  rcases open_slice ht h with ⟨h0, hx⟩ | ⟨a, len, cap, m, n, D, Pl, hcs, hb, hl, hm, hmm, hx, hi⟩
  · exact ⟨none, 0, [], by simpa using h0, fun i hi => absurd hi (by simp), .inl rfl⟩
  · have hlm : len ≤ m := by rw [hmm]; split <;> omega
    have : ∀ i, i < len → ∃ o : Int, ∃ ad, some a = some ad ∧ RowAt W (ad.add i) [.int .i64 o] := by
      intro i him
      obtain ⟨cs', hc, ht'⟩ := hi i (by omega)
      rw [hC] at hc
      obtain ⟨_, hcl, hat⟩ := World.cells?_some hc
      match cs', hcl with
      | [u], _ =>
        obtain ⟨s, c, _, hs⟩ := DataW.trod_int he ht'
        simp at c
        subst c
        refine ⟨s, a, rfl, ?_⟩
        intro j u hj
        match j, hj with
        | 0, hj =>
          cases hj
          have := hat 0 (by simp)
          rw [Nat.mul_one] at this
          simpa using this
    obtain ⟨L, hL, hp⟩ := exists_list this
    subst hL
    exact ⟨some a, cap, L, by simpa using hcs, fun i h => hp i h, .inr ⟨_, _, by rw [hx], by simp⟩⟩
end Go.Own
