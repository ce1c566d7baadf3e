/- Sets of addresses: Add, Has, Tids, Pages. -/
import Derived.Test.YtnfclieaendgeaaTid5
import Derived.Test.YtnfclieaendgeaaSortI
set_option linter.all false
namespace Go.Proofs.Ytnfclieaendgeaa
open Go Go.RowKit Go.Own Go.Td

def AddP14 (E : World) (R : Fr) (b most : Nat) (T W : List Int) (t : Int) (e : Ending) (w' : World) : Prop :=
  ((0 ≤ t ∧ t < 16777216) ∧ e = .returned (.int .i64 0) ∧ ∃ T' W' A', Deg most (Td.put T W t) W T' W' ∧ SetAt b most T' W' A' ∧ Own E w' (A' ++ R)) ∨
  (¬ (0 ≤ t ∧ t < 16777216) ∧ e = .returned (.int .i64 1) ∧ ∃ A', SetAt b most T W A' ∧ Own E w' (A' ++ R))
set_option maxRecDepth 100000 in
set_option maxHeartbeats 16000000 in
theorem tAdd (E w : World) (X R A : Fr) (b most : Nat) (T W : List Int) (t : Int) (hI : Inv T W) (hl : T.length ≤ 1048574) (hA : SetAt b most T W A) (hO : Own E w X) [hp : Pick X A R] :
    Calls Try.prog 22 #[.pointer (some ⟨b, 0, none⟩), .int .i64 t] w (AddP14 E R b most T W t) := by
  replace hO := hO.perm hp.perm
  clear hp
  by_cases ht : 0 ≤ t ∧ t < 16777216
  · go_enter Try.func22, Try.ntmps22
    have hpl := put_len hI t
    go_wp2_with (first
      | (go_at_call 41; go_must (refine (tGiven E _ _ _ A b most T W hA hO).mono ?_; rintro e w1 ⟨rfl, rfl⟩))
      | (go_at_call 42; go_must (refine (tFine _ t).mono ?_; rintro e w1 ⟨rfl, rfl⟩; rw [decide_eq_true ht]))
      | (go_at_call 43; go_must (refine (tPut E _ _ _ A b most T W t hI ht (by omega) hA hO).mono ?_; clear hO hA; rintro e w1 ⟨rfl, A1, hA, hO⟩))
      | (go_at_call 44; go_must (refine (tDeg E _ _ _ A1 b most _ W (hI.put ht) (by omega) hA hO).mono ?_; clear hO hA; rintro e w1 ⟨rfl, T', W', A2, hD, hA, hO⟩)))
    go_ret
    exact .inl ⟨ht, rfl, T', W', A2, hD, hA, hO⟩
  · go_enter Try.func22, Try.ntmps22
    go_wp2_with (first
      | (go_at_call 41; go_must (refine (tGiven E _ _ _ A b most T W hA hO).mono ?_; rintro e w1 ⟨rfl, rfl⟩))
      | (go_at_call 42; go_must (refine (tFine _ t).mono ?_; rintro e w1 ⟨rfl, rfl⟩; rw [decide_eq_false ht])))
    go_ret
    exact .inr ⟨ht, rfl, A, hA, hO⟩

theorem has_page {t : Int} (h : 0 ≤ t ∧ t < 16777216) : pg (max t 0) = pg t := by rw [show max t 0 = t by omega]
set_option maxRecDepth 100000 in
set_option maxHeartbeats 16000000 in
theorem tHas (E w : World) (X R A : Fr) (b most : Nat) (T W : List Int) (t : Int) (hI : Inv T W) (hl : T.length ≤ 1048575) (h1 : -9223372036854775808 ≤ t) (h2 : t ≤ 9223372036854775807) (hA : SetAt b most T W A) (hO : Own E w X) [hp : Pick X A R] :
    Calls Try.prog 25 #[.pointer (some ⟨b, 0, none⟩), .int .i64 t] w fun e w' => e = .returned (.bool (decide (has T W t))) ∧ w = w' := by
  replace hO := hO.perm hp.perm
  clear hp
  by_cases ht : 0 ≤ t ∧ t < 16777216
  · have hpage := has_page ht
    obtain ⟨me, mw, xs, ws, ME, MW, hE, hW, hok, hT, hP, rfl⟩ := hA
    have hA : SetAt b most T W (setF b me mw most T.length ++ (ME ++ (MW ++ pgsF xs))) := ⟨me, mw, xs, ws, ME, MW, hE, hW, hok, hT, hP, rfl⟩
    have hkn := mapAt_nodup hE
    rw [pgsM_keys] at hkn
    generalize hpt : pg t = p at hpage
    have hO2 := hO
    unfold setF at hO2
    have hF := Own.cells hO2; simp only [cellsOf_append, cellsOf_pt] at hF
    go_enter Try.func25, Try.ntmps25
    by_cases hw : p ∈ W
    · have hc : ws.contains p = true := by simpa using hP.mem_iff.2 hw
      have hh : decide (has T W t) = true := decide_eq_true ⟨ht, .inl (by rw [hpt]; exact hw)⟩
      rw [hh]
      clear hh
      go_wp2_with (first
        | (go_at_call 46; go_must (refine (tPage _ t h2 h1).mono ?_; rw [hpage]; rintro e w1 ⟨rfl, rfl⟩))
        | (go_at_call 41; go_must (refine (tGiven E _ _ _ _ b most T W hA hO).mono ?_; rintro e w1 ⟨rfl, rfl⟩))
        | (go_at_call 42; go_must (refine (tFine _ t).mono ?_; rintro e w1 ⟨rfl, rfl⟩; rw [decide_eq_true ht]))
        | (refine at_lookup ?_; go_must (refine own_lookup (kt := 3) (et := 4) (b := mw) (k := p) (l := wsM ws) (by kernel_rfl) (by kernel_rfl) zeroBool hO2 hW ?_ ?_ ?_ ?_; (· rfl); (· rfl); (· rfl); rw [look_ws, hc]; simp only [Act.put, List.setIfInBounds_toArray, List.set_cons_zero, List.set_cons_succ])))
      go_ret
      exact ⟨rfl, rfl⟩
    · have hc : ws.contains p = false := by simpa using fun h => hw (hP.mem_iff.1 h)
      by_cases hg : ∃ g ∈ xs, g.p = p
      · obtain ⟨g, hgx, rfl⟩ := hg
        have hlk := look_pgs hkn hgx
        have hgo := hok g hgx
        have hmem := mem_page hok hkn hT hgx t hpt
        have hgl : g.l.length ≤ 1048575 := by
          have := len_flat (List.mem_map_of_mem (f := Pg.l) hgx)
          rw [hT.length_eq] at this
          omega
        have hh : decide (has T W t) = g.l.contains t := by
          rw [Bool.eq_iff_iff, decide_eq_true_eq, List.contains_iff_mem]
          constructor
          · rintro ⟨_, h | h⟩
            · exact absurd (by rw [← hpt]; exact h) hw
            · exact hmem.1 h
          · exact fun h => ⟨ht, .inr (hmem.2 h)⟩
        rw [hh]
        clear hh
        obtain ⟨pre, post, rfl⟩ := psplit hgx
        have hO3 := hO2
        rw [pgsF_app, pgsF_cons] at hO3
        unfold pgV at hlk
        go_wp2_with (first
          | (go_at_call 46; go_must (refine (tPage _ t h2 h1).mono ?_; rw [hpage]; rintro e w1 ⟨rfl, rfl⟩))
          | (go_at_call 41; go_must (refine (tGiven E _ _ _ _ b most T W hA hO).mono ?_; rintro e w1 ⟨rfl, rfl⟩))
          | (go_at_call 42; go_must (refine (tFine _ t).mono ?_; rintro e w1 ⟨rfl, rfl⟩; rw [decide_eq_true ht]))
          | (refine at_lookup ?_; go_must (first
            | (refine own_lookup (kt := 3) (et := 4) (b := mw) (k := g.p) (l := wsM ws) (by kernel_rfl) (by kernel_rfl) zeroBool hO2 hW ?_ ?_ ?_ ?_; (· rfl); (· rfl); (· rfl); rw [look_ws, hc]; simp only [Act.put, List.setIfInBounds_toArray, List.set_cons_zero, List.set_cons_succ])
            | (refine own_lookup (kt := 3) (et := 33) (b := me) (k := g.p) (by kernel_rfl) (by kernel_rfl) zeroInts hO2 hE ?_ ?_ ?_ ?_; (· rfl); (· rfl); (· rfl); rw [hlk]; simp only [Option.getD_some]; simp only [Act.put, List.setIfInBounds_toArray, List.set_cons_zero, List.set_cons_succ])))
          | (go_at_call 47; go_must (refine (cContains E _ _ _ g.F g.a g.cap g.l t hgo.sl (by omega) hO3).mono ?_; rintro e w1 ⟨rfl, rfl⟩)))
        go_ret
        exact ⟨by simp, rfl⟩
      · have hlk : mlook (pgsM xs) p = none := look_pgs_none fun g hgx h => hg ⟨g, hgx, h⟩
        have hxT : t ∉ T := not_page hok hT fun g hgx h => hg ⟨g, hgx, by rw [h, hpt]⟩
        have hh : decide (has T W t) = ([] : List Int).contains t := by
          rw [decide_eq_false]
          · rfl
          · rintro ⟨_, h | h⟩
            · exact hw (by rw [← hpt]; exact h)
            · exact hxT h
        rw [hh]
        clear hh
        go_wp2_with (first
          | (go_at_call 46; go_must (refine (tPage _ t h2 h1).mono ?_; rw [hpage]; rintro e w1 ⟨rfl, rfl⟩))
          | (go_at_call 41; go_must (refine (tGiven E _ _ _ _ b most T W hA hO).mono ?_; rintro e w1 ⟨rfl, rfl⟩))
          | (go_at_call 42; go_must (refine (tFine _ t).mono ?_; rintro e w1 ⟨rfl, rfl⟩; rw [decide_eq_true ht]))
          | (refine at_lookup ?_; go_must (first
            | (refine own_lookup (kt := 3) (et := 4) (b := mw) (k := p) (l := wsM ws) (by kernel_rfl) (by kernel_rfl) zeroBool hO2 hW ?_ ?_ ?_ ?_; (· rfl); (· rfl); (· rfl); rw [look_ws, hc]; simp only [Act.put, List.setIfInBounds_toArray, List.set_cons_zero, List.set_cons_succ])
            | (refine own_lookup (kt := 3) (et := 33) (b := me) (k := p) (l := pgsM xs) (by kernel_rfl) (by kernel_rfl) zeroInts hO2 hE ?_ ?_ ?_ ?_; (· rfl); (· rfl); (· rfl); rw [hlk]; simp only [Option.getD_none]; simp only [Act.put, List.setIfInBounds_toArray, List.set_cons_zero, List.set_cons_succ])))
          | (go_at_call 47; go_must (refine (cContains E _ _ _ [] none 0 [] t (Sl.nil _ _) (by simp) hO2).mono ?_; rintro e w1 ⟨rfl, rfl⟩)))
        go_ret
        exact ⟨rfl, rfl⟩
  · have hh : decide (has T W t) = false := decide_eq_false fun h => ht h.1
    rw [hh]
    clear hh
    go_enter Try.func25, Try.ntmps25
    go_wp2_with (first
      | (go_at_call 46; go_must (refine (tPage _ t h2 h1).mono ?_; rintro e w1 ⟨rfl, rfl⟩))
      | (go_at_call 41; go_must (refine (tGiven E _ _ _ A b most T W hA hO).mono ?_; rintro e w1 ⟨rfl, rfl⟩))
      | (go_at_call 42; go_must (refine (tFine _ t).mono ?_; rintro e w1 ⟨rfl, rfl⟩; rw [decide_eq_false ht])))
    go_ret
    exact ⟨rfl, rfl⟩
end Go.Proofs.Ytnfclieaendgeaa
