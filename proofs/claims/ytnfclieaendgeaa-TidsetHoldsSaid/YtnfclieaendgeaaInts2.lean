/- Arguments that are slices of ints, with the ints' bounds. -/
import Derived.Test.YtnfclieaendgeaaOpens
import Derived.Test.YtnfclieaendgeaaTidL2
set_option linter.all false
namespace Go.Own
open Go.RowKit Go.ChangeShapes Go.WideShapes Go.Deep

theorem wf_i64 {n : Int} (h : (Lit.int .i64 n).wf = true) : -9223372036854775808 ≤ n ∧ n ≤ 9223372036854775807 := by
  have h1 : IntKind.i64.min ≤ n ∧ n ≤ 9223372036854775807 := by simpa [Lit.wf] using h
  have h2 : IntKind.i64.min = -9223372036854775808 := by decide
  rw [h2] at h1
  exact h1
/-- The numbers as they came in, each within its kind. -/
def IntsB (E : World) (sa : Option Addr) (L : List Int) : Prop :=
  (∀ i (h : i < L.length), ∃ ad, sa = some ad ∧ RowAt E (ad.add i) [.int .i64 L[i]]) ∧ ∀ t ∈ L, -9223372036854775808 ≤ t ∧ t ≤ 9223372036854775807

theorem open_intsB {H : Type} {enc : TypeId × Value → H} {P : Program} {W : World} {spare : Nat → Bool} {v : Value} {fuel : Nat} {t e : TypeId} {x : DataW H × List MemPlace} (ht : P.underlying t = some (.slice e)) (he : P.underlying e = some (.int .i64))
    (hC : P.cellsOf e = 1) (h : DataW.trod enc P W 0 spare true fuel t [v] = some x) :
    ∃ sa sc L, v = .slice sa (List.length L) sc ∧ IntsB W sa L ∧ (List.length L = 0 ∨ ∃ es sp, x.1 = .slice es sp ∧ es.length = List.length L) := by
  rcases open_slice ht h with ⟨h0, hx⟩ | ⟨a, len, cap, m, n, D, Pl, hcs, hb, hl, hm, hmm, hx, hi⟩
  · exact ⟨none, 0, [], by simpa using h0, ⟨fun i hi => absurd hi (by simp), fun t h => absurd h (by simp)⟩, .inl rfl⟩
  · have hlm : len ≤ m := by rw [hmm]; split <;> omega
    have : ∀ i, i < len → ∃ o : Int, (∃ ad, some a = some ad ∧ RowAt W (ad.add i) [.int .i64 o]) ∧ (-9223372036854775808 ≤ o ∧ o ≤ 9223372036854775807) := by
      intro i him
      obtain ⟨cs', hc, ht'⟩ := hi i (by omega)
      rw [hC] at hc
      obtain ⟨_, hcl, hat⟩ := World.cells?_some hc
      match cs', hcl with
      | [u], _ =>
        obtain ⟨s, c, hs, hwf⟩ := DataW.trod_int he ht'
        simp at c
        subst c
        refine ⟨s, ⟨a, rfl, ?_⟩, wf_i64 hwf⟩
        intro j u hj
        match j, hj with
        | 0, hj =>
          cases hj
          have := hat 0 (by simp)
          rw [Nat.mul_one] at this
          simpa using this
    obtain ⟨L, hL, hp⟩ := exists_list this
    subst hL
    refine ⟨some a, cap, L, by simpa using hcs, ⟨fun i h => (hp i h).1, fun t h => ?_⟩, .inr ⟨_, _, by rw [hx], by simp⟩⟩
    obtain ⟨i, hi, rfl⟩ := List.getElem_of_mem h
    exact (hp i hi).2
/-- A slice in a struct handed in: its bytes are within reach. -/
theorem sized_in_struct {H : Type} {P : Program} {ts : List TypeId} {ds : List (DataW H)} (h : (DataW.weightsEach P ts ds).all (· ≤ reachBytes) = true) {j i : Nat} {t s e : TypeId} {fs : Array Field} {parts es sp : List (DataW H)} (ht : ts[j]? = some t) (hd : ds[j]? = some (.agg parts))
    (hu : P.underlying t = some (.struct fs)) (hf : (fs.toList.map (·.type))[i]? = some s) (hp : parts[i]? = some (.slice es sp)) (he : P.underlying s = some (.slice e)) : (es.length + sp.length) * P.bytesOf e ≤ reachBytes := by
  have h1 : (es.length + sp.length) * P.bytesOf e ∈ (DataW.slice es sp).weights P s := by simp [DataW.weights, he]
  have := List.all_eq_true.1 h _ (DataW.weights_mem_each ht hd ((es.length + sp.length) * P.bytesOf e) (by
    simp only [DataW.weights, hu]
    exact DataW.weights_mem_each hf hp _ h1))
  simpa using this
end Go.Own
namespace Go.Proofs.Ytnfclieaendgeaa
open Go Go.RowKit Go.Own Go.Td
theorem num_new {W : World} {sa : Option Addr} {L : List Int} (h : IntsB W sa L) : NumIn W (oldFr W) sa L := by
  intro w hO i hi
  obtain ⟨ad, rfl, h2⟩ := h.1 i hi
  refine ⟨ad, rfl, ?_⟩
  have := h2.at hO 0 (.int .i64 L[i]) rfl
  simpa [Go.Deep.add_add] using this
end Go.Proofs.Ytnfclieaendgeaa
