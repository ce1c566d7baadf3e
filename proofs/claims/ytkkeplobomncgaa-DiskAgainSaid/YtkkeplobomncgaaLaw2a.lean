/- vestibulelaw02: awake, DiskNobody. -/
import Derived.Test.YtkkeplobomncgaaDisk7
set_option linter.all false
namespace Go.Proofs.Ytkkeplobomncgaa
open Go Go.RowKit Go.Own Go.Dk

theorem wr_ab : wr [] 1 2 ⟨#[97, 98]⟩ = ([.put 1 2 ⟨#[97, 98]⟩], 0) := by
  unfold wr; rw [if_pos (by decide)]; rfl
theorem tr_ab : tr [.put 1 2 ⟨#[97, 98]⟩] 1 3 = ([.put 1 2 ⟨#[97, 98]⟩, .trim 1 3], 0) := by
  unfold tr; rw [if_pos (by decide)]; rfl
theorem rd_ab : rd [.put 1 2 ⟨#[97, 98]⟩, .trim 1 3] 1 0 3 = (⟨#[0, 0, 97]⟩, 0) := by
  unfold rd; rw [if_pos (by decide)]; rfl
theorem sz_ab : sz [.put 1 2 ⟨#[97, 98]⟩] 1 = 4 := by
  unfold sz; rw [if_pos (by decide)]; rfl

set_option maxRecDepth 100000 in
set_option maxHeartbeats 4000000 in
theorem awake2 (E w : World) (X : Fr) (hO : Own E w X) : Calls Try.prog 17 #[] w fun e w' => e = .returned (.bool true) ∧ Own E w' X := by
  go_enter Try.func17, Try.ntmps17
  go_wp2_with fail
  refine (dNew E _ _ hO).mono ?_; rintro e w1 ⟨d, A, rfl, hA, hO⟩
  go_wp2_with fail
  refine (dWrite E _ _ _ d [] A 1 2 _ (by decide) hA (by simp) hO).mono ?_; rintro e w1 ⟨rfl, A1, hA, hO⟩
  rw [wr_ab] at hA ⊢
  go_wp2_with fail
  refine (dTrim E _ _ _ d _ A1 1 3 hA (by simp) hO).mono ?_; rintro e w1 ⟨rfl, A2, hA, hO⟩
  rw [tr_ab] at hA ⊢
  go_wp2_with fail
  refine (dCut_ok E _ _ _ d _ A2 1 (by simp) (by simp) hA hO).mono ?_; rintro e w1 ⟨c, C, rfl, hC, hO⟩
  go_wp2_with fail
  refine (dRead E _ _ _ d _ A2 1 0 3 hA hO).mono ?_; rintro e w1 ⟨rfl, rfl⟩
  rw [rd_ab]
  go_wp2_with fail
  refine (dSize E _ _ _ c _ C 1 hC hO).mono ?_; rintro e w1 ⟨rfl, rfl⟩
  rw [show sz (List.take 1 [Raw.put 1 2 ⟨#[97, 98]⟩, Raw.trim 1 3]) 1 = 4 from sz_ab]
  go_wp2_with fail
  refine (dWrites E _ _ _ d _ A2 hA hO).mono ?_; rintro e w1 ⟨rfl, rfl⟩
  go_wp2_with fail
  go_ret
  exact ⟨rfl, hO.as X⟩


theorem sltDisks : SlT Try.prog 53 23 1 8 (.pointer none) := ⟨by kernel_rfl, by kernel_rfl, rfl⟩

set_option maxRecDepth 100000 in
set_option maxHeartbeats 4000000 in
theorem diskNobody (E w : World) (X : Fr) (hO : Own E w X) (n : Int) (s : ByteArray) :
    Calls Try.prog 6 #[.int .i64 n, .string s] w fun e w' => e = .returned (.bool true) ∧ Own E w' X := by
  go_enter Try.func6, Try.ntmps6
  go_wp2_with (first | (refine at_box ?_; go_must (refine own_box (v := ?_) hO ?_ ?_ ?_; rotate_left; (· rfl); (· ((conv => lhs; whnf); try exact rfl)); clear hO; (try clear hF); intro _ _ hO; (try simp only [Value.cells] at hO); ((try simp only [List.nil_append, List.append_nil] at hO); have hF := Own.cells hO; simp only [cellsOf_append, cellsOf_pt] at hF); simp only [Act.put, List.setIfInBounds_toArray, List.set_cons_zero, List.set_cons_succ])) | (refine at_bs ?_; go_must (refine own_buildN (cells := ?_) sltDisks hO ?_ ?_ ?_ ?_ ?_ ?_; rotate_left; (· rfl); (· decide); (· decide); (· rfl); (· simp [Instr.fill, Act.eval, Value.cells, Array.replicate_succ]; exact rfl); clear hO; (try clear hF); intro _ _ hO; ((try simp only [List.nil_append, List.append_nil] at hO); have hF := Own.cells hO; simp only [cellsOf_append, cellsOf_pt] at hF); simp only [Act.put, List.setIfInBounds_toArray, List.set_cons_zero, List.set_cons_succ])))
  rename_i b1 _ b2 _ _ _
  clear hF
  go_loopw [6] (fun i wr => (i = .int .i64 0 ∨ i = .int .i64 1 ∨ i = .int .i64 2) ∧ Own E wr (pt b2 (.cells #[.pointer none, .pointer (some ⟨b1, 0, none⟩)] 23) ++ (pt b1 (.cells #[.bool false, .slice none 0 0, .slice none 0 0, .slice none 0 0, .slice none 0 0, .slice none 0 0] 52) ++ X))) (fun i _ => 2 - (intOf i).toNat)
  case atStart => exact ⟨.inl rfl, hO⟩
  case round =>
    obtain ⟨hi, hO⟩ := hrel
    ((try simp only [List.nil_append, List.append_nil] at hO); have hF := Own.cells hO; simp only [cellsOf_append, cellsOf_pt] at hF)
    rcases hi with rfl | rfl | rfl
    · have hN : Nob wr (.pointer none) := .inl rfl
      go_wp2_with (first | (go_at_call 19; go_must (refine (nRead _ _ _ _ _ hN).mono ?_; rintro e w1 ⟨rfl, rfl⟩)) | (go_at_call 22; go_must (refine (nCut _ _ _ hN).mono ?_; rintro e w1 ⟨rfl, rfl⟩)) | (go_at_call 23; go_must (refine (nWrite _ _ _ _ _ hN).mono ?_; rintro e w1 ⟨rfl, rfl⟩)) | (go_at_call 27; go_must (refine (nTrim _ _ _ _ hN).mono ?_; rintro e w1 ⟨rfl, rfl⟩)) | (go_at_call 26; go_must (refine (nSize _ _ _ hN).mono ?_; rintro e w1 ⟨rfl, rfl⟩)) | (go_at_call 25; go_must (refine (nWrites _ _ hN).mono ?_; rintro e w1 ⟨rfl, rfl⟩)))
      go_roundw
      case rel => exact ⟨.inr (.inl rfl), hO⟩
      case measure => simp [intOf]
    · have hN : Nob wr (.pointer (some ⟨b1, 0, none⟩)) := .inr ⟨b1, rfl, by rw [hO.cell (b := b1)]; rfl⟩
      go_wp2_with (first | (go_at_call 19; go_must (refine (nRead _ _ _ _ _ hN).mono ?_; rintro e w1 ⟨rfl, rfl⟩)) | (go_at_call 22; go_must (refine (nCut _ _ _ hN).mono ?_; rintro e w1 ⟨rfl, rfl⟩)) | (go_at_call 23; go_must (refine (nWrite _ _ _ _ _ hN).mono ?_; rintro e w1 ⟨rfl, rfl⟩)) | (go_at_call 27; go_must (refine (nTrim _ _ _ _ hN).mono ?_; rintro e w1 ⟨rfl, rfl⟩)) | (go_at_call 26; go_must (refine (nSize _ _ _ hN).mono ?_; rintro e w1 ⟨rfl, rfl⟩)) | (go_at_call 25; go_must (refine (nWrites _ _ hN).mono ?_; rintro e w1 ⟨rfl, rfl⟩)))
      go_roundw
      case rel => exact ⟨.inr (.inr rfl), hO⟩
      case measure => simp [intOf]
    · go_wp2_with (go_at_call 17; refine (awake2 E _ X (hO.as X)).mono ?_; rintro e w1 ⟨rfl, hO⟩)
      go_ret
      exact ⟨rfl, hO⟩
end Go.Proofs.Ytkkeplobomncgaa
