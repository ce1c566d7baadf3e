/- vestibulelaw14: awake. -/
import Derived.Test.YtnfclieaendgeaaTid9
import Derived.Test.YtnfclieaendgeaaTidR4
set_option linter.all false
namespace Go.Td
theorem deg1 : Deg 2 (put [] [] 64) [] [64] [] := .done (by decide)
theorem deg2 : Deg 2 (put [64] [] 65) [] [64, 65] [] := .done (by decide)
theorem best3 : Best [64, 65, 130] 1 := ⟨⟨64, by decide, by decide⟩, by decide⟩
theorem deg3 : Deg 2 (put [64, 65] [] 130) [] [130] [1] := by
  refine .step (p := 1) (by decide) best3 ?_
  exact .done (by decide)
end Go.Td
namespace Go.Proofs.Ytnfclieaendgeaa
open Go Go.RowKit Go.Own Go.Td

set_option maxRecDepth 100000 in
set_option maxHeartbeats 16000000 in
theorem awake14 (E w : World) (X : Fr) (hO : Own E w X) : Calls Try.prog 26 #[] w fun e w' => e = .returned (.bool true) ∧ Own E w' X := by
  go_enter Try.func26, Try.ntmps26
  go_wp2_with fail
  refine (tNew E _ _ 2 hO).mono ?_
  clear hO
  rintro e w1 (⟨_, _, b, A, rfl, hA, hO⟩ | ⟨hno, _⟩)
  rotate_left
  · exact absurd ⟨by decide, by decide⟩ hno
  have hI0 : Inv [] [] := inv_whole List.Pairwise.nil fun p h => absurd h (by simp)
  go_wp2_with fail
  refine (tAdd E _ _ _ A b 2 [] [] 64 hI0 (by decide) hA hO).mono ?_
  clear hO hA
  rintro e w2 (⟨_, rfl, T1, W1, A, hD, hA, hO⟩ | ⟨hno, _⟩)
  rotate_left
  · exact absurd ⟨by decide, by decide⟩ hno
  obtain ⟨rfl, rfl⟩ := hD.uniq deg1
  have hI1 := (hI0.put (t := 64) (by decide)).deg hD
  go_wp2_with fail
  refine (tAdd E _ _ _ A b 2 [64] [] 65 hI1 (by decide) hA hO).mono ?_
  clear hO hA hD
  rintro e w2 (⟨_, rfl, T1, W1, A, hD, hA, hO⟩ | ⟨hno, _⟩)
  rotate_left
  · exact absurd ⟨by decide, by decide⟩ hno
  obtain ⟨rfl, rfl⟩ := hD.uniq deg2
  have hI2 := (hI1.put (t := 65) (by decide)).deg hD
  go_wp2_with fail
  refine (tAdd E _ _ _ A b 2 [64, 65] [] 130 hI2 (by decide) hA hO).mono ?_
  clear hO hA hD
  rintro e w2 (⟨_, rfl, T1, W1, A, hD, hA, hO⟩ | ⟨hno, _⟩)
  rotate_left
  · exact absurd ⟨by decide, by decide⟩ hno
  obtain ⟨rfl, rfl⟩ := hD.uniq deg3
  have hI3 := (hI2.put (t := 130) (by decide)).deg hD
  clear hI0 hI1 hI2 hD
  go_wp2_with fail
  refine (tPages E _ _ _ A b 2 [130] [1] hI3 hA hO).mono ?_
  clear hO hA
  rintro e w3 ⟨pa, pc, P, A, rfl, hP, hA, hO⟩
  go_wp2_with (first | (refine at_bs ?_; go_must (refine own_build1 (v := ?_) sltInts hO ?_ ?_ ?_ ?_ ?_ ?_; rotate_left; (· rfl); (· ((conv => lhs; whnf); try exact rfl)); (· rfl); (· decide); (· decide); clear hO; (try clear hF); intro z1 _ hO; (try simp only [Value.cells] at hO); ((try simp only [List.nil_append, List.append_nil] at hO); have hF := Own.cells hO; simp only [cellsOf_append, cellsOf_pt] at hF); simp only [Act.put, List.setIfInBounds_toArray, List.set_cons_zero, List.set_cons_succ])))
  have hS1 : Sl 3 1 (some ⟨z1, 0, none⟩) 1 1 (intV [1]) (pt z1 (.cells #[.int .i64 1] 3 (0, 0))) := Sl.mk (rest := []) rfl (by decide) (by decide) rfl
  generalize pt z1 (.cells #[.int .i64 1] 3 (0, 0)) = Z1 at hS1 hO
  clear hF
  refine (r7Ints E _ _ _ (P ++ Z1) pa (some ⟨z1, 0, none⟩) [1] [1] pc 1 ((num_sl hP).more fun w hO => hO.as _) ((num_sl hS1).more fun w hO => hO.as _) (by decide) hO).mono ?_
  clear hO
  rintro e w4 ⟨rfl, hO⟩
  go_wp2_with fail
  refine (tTids E _ _ _ A b 2 [130] [1] hI3 (by decide) hA hO).mono ?_
  clear hO hA hS1 hP
  rintro e w3 ⟨ta, tc, T, A, rfl, hT, hA, hO⟩
  go_wp2_with (first | (refine at_bs ?_; go_must (refine own_build1 (v := ?_) sltInts hO ?_ ?_ ?_ ?_ ?_ ?_; rotate_left; (· rfl); (· ((conv => lhs; whnf); try exact rfl)); (· rfl); (· decide); (· decide); clear hO; (try clear hF); intro z2 _ hO; (try simp only [Value.cells] at hO); ((try simp only [List.nil_append, List.append_nil] at hO); have hF := Own.cells hO; simp only [cellsOf_append, cellsOf_pt] at hF); simp only [Act.put, List.setIfInBounds_toArray, List.set_cons_zero, List.set_cons_succ])))
  have hS1 : Sl 3 1 (some ⟨z2, 0, none⟩) 1 1 (intV [130]) (pt z2 (.cells #[.int .i64 130] 3 (0, 0))) := Sl.mk (rest := []) rfl (by decide) (by decide) rfl
  generalize pt z2 (.cells #[.int .i64 130] 3 (0, 0)) = Z2 at hS1 hO
  clear hF
  refine (r7Ints E _ _ _ (T ++ Z2) ta (some ⟨z2, 0, none⟩) [130] [130] tc 1 ((num_sl hT).more fun w hO => hO.as _) ((num_sl hS1).more fun w hO => hO.as _) (by decide) hO).mono ?_
  clear hO
  rintro e w4 ⟨rfl, hO⟩
  go_wp2_with fail
  refine (tHas E _ _ _ A b 2 [130] [1] 70 hI3 (by decide) (by decide) (by decide) hA hO).mono ?_
  rintro e w5 ⟨rfl, rfl⟩
  go_wp2_with fail
  refine (tHas E _ _ _ A b 2 [130] [1] 131 hI3 (by decide) (by decide) (by decide) hA hO).mono ?_
  rintro e w5 ⟨rfl, rfl⟩
  go_wp2_with fail
  go_ret
  exact ⟨rfl, hO.as _⟩
end Go.Proofs.Ytnfclieaendgeaa
