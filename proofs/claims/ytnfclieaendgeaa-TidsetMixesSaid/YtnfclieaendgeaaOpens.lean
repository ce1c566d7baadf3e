/- Arguments opened: a slice of structs as rows of cells; a list of what each row says. -/
import Derived.Test.YtnfclieaendgeaaArgs
import Derived.Deep.Slices
import Derived.Deep.Fields
import Derived.ChangeSame
import Derived.SizedLaws
set_option linter.all false
namespace Go.Own
open Go.RowKit Go.ChangeShapes Go.WideShapes Go.Deep

theorem exists_list {α : Type} [Inhabited α] {P : Nat → α → Prop} : ∀ {n : Nat}, (∀ i, i < n → ∃ o, P i o) → ∃ L : List α, L.length = n ∧ ∀ i (h : i < L.length), P i L[i]
  | n, hp => by
    refine ⟨(List.range n).map fun i => if h : i < n then Classical.choose (hp i h) else default, by simp, ?_⟩
    intro i h
    have hi : i < n := by simpa using h
    simp only [List.getElem_map, List.getElem_range, hi, dite_true]
    exact Classical.choose_spec (hp i hi)

section
variable {H : Type} {enc : TypeId × Value → H} {P : Program} {w : World} {base : Nat} {spare : Nat → Bool} {held : Bool}
/-- A slice of structs of one-cell fields: each element a row of cells of the world, each field's cell read as data. -/
theorem open_rows {t e : TypeId} {fs : Array Field} {fuel : Nat} {v : Value} {x : DataW H × List MemPlace} (ht : P.underlying t = some (.slice e)) (he : P.underlying e = some (.struct fs))
    (hone : oneCellFields P fs = true) (hC : P.cellsOf e = fs.size) (h : DataW.trod enc P w base spare held fuel t [v] = some x) :
    ∃ (sa : Option Addr) (len cap : Nat), v = .slice sa len cap ∧ len ≤ cap ∧ cap ≤ maxLen ∧ (sa = none → len = 0 ∧ cap = 0) ∧ (len = 0 ∨ ∃ es sp, x.1 = .slice es sp ∧ es.length = len) ∧
      ∀ i, i < len → ∃ ad vs, sa = some ad ∧ vs.length = fs.size ∧ RowAt w (ad.add (i * fs.size)) vs ∧ ∃ n, ∀ (j : Nat) (f : Field), fs[j]? = some f → ∃ u y, vs[j]? = some u ∧ DataW.trod enc P w base spare held n f.type [u] = some y := by
  rcases open_slice ht h with ⟨h0, hx⟩ | ⟨a, len, cap, m, n, D, Pl, hcs, hb, hl, hm, hmm, hx, hi⟩
  · refine ⟨none, 0, 0, by simpa using h0, by omega, by simp [maxLen], fun _ => ⟨rfl, rfl⟩, .inl rfl, fun i hi => absurd hi (by omega)⟩
  · refine ⟨some a, len, cap, by simpa using hcs, hl, hm, by simp, .inr ⟨_, _, by rw [hx], by simp⟩, fun i him => ?_⟩
    have hlm : len ≤ m := by rw [hmm]; split <;> omega
    obtain ⟨cs', hc, ht'⟩ := hi i (by omega)
    rw [hC] at hc
    obtain ⟨ys, n', _, _, _, hyl, hf⟩ := DataW.trod_struct he ht'
    obtain ⟨_, hcl, hat⟩ := World.cells?_some hc
    refine ⟨a, cs', rfl, hcl, ?_, n', ?_⟩
    · intro j u hj
      have hjl : j < cs'.length := (List.getElem?_eq_some_iff.1 hj).1
      rw [hat j (by omega), hj]
    · intro j f hj
      obtain ⟨ho, hk⟩ := hone_of hone j f hj
      have hjl : j < fs.size := (Array.getElem?_eq_some_iff.1 hj).1
      have h1 := hf j f hj
      rw [ho, hk] at h1
      have h2 : (cs'.drop j).take 1 = [cs'[j]'(by omega)] := by
        rw [List.drop_eq_getElem_cons (by omega)]
        rfl
      rw [h2, List.getElem?_eq_getElem (by omega)] at h1
      exact ⟨_, _, List.getElem?_eq_getElem (by omega), h1⟩
end
end Go.Own
