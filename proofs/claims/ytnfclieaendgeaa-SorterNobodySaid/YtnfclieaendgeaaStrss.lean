/- Arguments that are slices of slices of texts. -/
import Derived.Test.YtnfclieaendgeaaSrt2
import Derived.Test.YtnfclieaendgeaaSrt3
import Derived.Test.YtnfclieaendgeaaStrs
set_option linter.all false
namespace Go.Proofs.Ytnfclieaendgeaa
open Go Go.RowKit Go.Own Go.ChangeShapes Go.WideShapes Go.Deep

section
variable {H : Type} {enc : TypeId × Value → H} {P : Program} {W : World} {spare : Nat → Bool}
theorem open_strsC {v : Value} {fuel : Nat} {t e : TypeId} {x : DataW H × List MemPlace} (ht : P.underlying t = some (.slice e)) (he : P.underlying e = some .string)
    (hC : P.cellsOf e = 1) (h : DataW.trod enc P W 0 spare true fuel t [v] = some x) :
    ∃ r : RO, v = roV r ∧ RoOk W (oldFr W) r ∧ (r.l.length = 0 ∨ ∃ es sp, x.1 = .slice es sp ∧ es.length = r.l.length) := by
  obtain ⟨sa, sc, L, hv, hL, hx⟩ := open_strs ht he hC h
  have hc : List.length L ≤ sc ∧ sc ≤ maxLen := by
    rcases open_slice ht h with ⟨h0, _⟩ | ⟨a, len, cap, m, n, D, Pl, hcs, hb, hl, hm, _⟩
    · rw [hv] at h0
      simp only [List.cons.injEq, Value.slice.injEq, and_true] at h0
      unfold maxLen
      omega
    · rw [hv] at hcs
      simp only [List.cons.injEq, Value.slice.injEq, and_true] at hcs
      omega
  refine ⟨⟨sa, sc, L⟩, hv, ⟨hc.1, hc.2, fun h0 => ?_⟩, hx⟩
  obtain ⟨ad, h1, _⟩ := hL 0 (List.length_pos_iff.2 h0)
  refine ⟨ad, h1, fun w hO i hi => ?_⟩
  dsimp only at h1 hi ⊢
  rw [h1] at hL
  exact hL.cell hO i hi

theorem open_strss {v : Value} {fuel : Nat} {t e s : TypeId} {x : DataW H × List MemPlace} (ht : P.underlying t = some (.slice e)) (he : P.underlying e = some (.slice s)) (hs : P.underlying s = some .string)
    (hC : P.cellsOf e = 1) (hC2 : P.cellsOf s = 1) (h : DataW.trod enc P W 0 spare true fuel t [v] = some x) :
    ∃ sa sc rs, v = .slice sa (List.length rs) sc ∧ RowsIn W (oldFr W) sa rs ∧ (∀ r ∈ rs, RoOk W (oldFr W) r) ∧
      (List.length rs = 0 ∨ ∃ es sp, x.1 = .slice es sp ∧ es.length = List.length rs ∧ ∀ r ∈ rs, r.l.length = 0 ∨ ∃ es' sp', DataW.slice es' sp' ∈ es ∧ es'.length = r.l.length) := by
  rcases open_slice ht h with ⟨h0, hx⟩ | ⟨a, len, cap, m, n, D, Pl, hcs, hb, hl, hm, hmm, hx, hi⟩
  · exact ⟨none, 0, [], by simpa using h0, fun w _ i hi => absurd hi (by simp), fun r hr => absurd hr (by simp), .inl rfl⟩
  · have hlm : len ≤ m := by rw [hmm]; split <;> omega
    have : ∀ i, i < len → ∃ r : RO, RowAt W (a.add i) [roV r] ∧ RoOk W (oldFr W) r ∧ (r.l.length = 0 ∨ ∃ es' sp', DataW.slice es' sp' = D i ∧ es'.length = r.l.length) := by
      intro i him
      obtain ⟨cs', hc, ht'⟩ := hi i (by omega)
      rw [hC] at hc
      obtain ⟨_, hcl, hat⟩ := World.cells?_some hc
      match cs', hcl with
      | [u], _ =>
        obtain ⟨r, rfl, hr, hx⟩ := open_strsC he hs hC2 ht'
        refine ⟨r, ?_, hr, ?_⟩
        · intro j u hj
          match j, hj with
          | 0, hj =>
            cases hj
            have := hat 0 (by simp)
            rw [Nat.mul_one] at this
            simpa using this
        · rcases hx with hx | ⟨es, sp, h1, h2⟩
          · exact .inl hx
          · exact .inr ⟨es, sp, h1.symm, h2⟩
    obtain ⟨rs, hL, hp⟩ := @exists_list RO ⟨⟨none, 0, []⟩⟩ _ _ this
    subst hL
    refine ⟨some a, cap, rs, by simpa using hcs, ?_, ?_, .inr ⟨_, _, by rw [hx], by simp, ?_⟩⟩
    · intro w hO i hi
      refine ⟨a, rfl, ?_⟩
      have := (hp i hi).1.at hO 0 _ rfl
      simpa [Go.Deep.add_add] using this
    · intro r hr
      obtain ⟨i, hi, rfl⟩ := List.getElem_of_mem hr
      exact (hp i hi).2.1
    · intro r hr
      obtain ⟨i, hi, rfl⟩ := List.getElem_of_mem hr
      rcases (hp i hi).2.2 with h | ⟨es, sp, h1, h2⟩
      · exact .inl h
      · exact .inr ⟨es, sp, by rw [h1]; exact List.mem_map.2 ⟨i, List.mem_range.2 hi, rfl⟩, h2⟩

theorem weightsAll_mem {e : TypeId} {d : DataW H} {n : Nat} (hn : n ∈ d.weights P e) : ∀ {ds : List (DataW H)}, d ∈ ds → n ∈ DataW.weightsAll P e ds
  | d' :: ds, h => by
    simp only [DataW.weightsAll, List.mem_append]
    rcases List.mem_cons.1 h with rfl | h
    · exact .inl hn
    · exact .inr (weightsAll_mem hn h)
theorem sized_inner {ts : List TypeId} {ds : List (DataW H)} (h : (DataW.weightsEach P ts ds).all (· ≤ reachBytes) = true) {j : Nat} {t e s : TypeId} {elems spare es sp : List (DataW H)} (ht : ts[j]? = some t) (hd : ds[j]? = some (.slice elems spare)) (hu : P.underlying t = some (.slice e))
    (he : P.underlying e = some (.slice s)) (hm : DataW.slice es sp ∈ elems) : (es.length + sp.length) * P.bytesOf s ≤ reachBytes := by
  have h1 : (es.length + sp.length) * P.bytesOf s ∈ (DataW.slice es sp).weights P e := by simp [DataW.weights, he]
  have := List.all_eq_true.1 h _ (DataW.weights_mem_each ht hd ((es.length + sp.length) * P.bytesOf s) (by
    simp only [DataW.weights, hu, List.mem_cons, List.mem_append]
    exact .inr (.inl (weightsAll_mem h1 hm))))
  simpa using this
end
end Go.Proofs.Ytnfclieaendgeaa
