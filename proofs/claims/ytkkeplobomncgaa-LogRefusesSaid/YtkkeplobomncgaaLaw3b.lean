/- vestibulelaw03: LogRefuses. -/
import Derived.Test.YtkkeplobomncgaaLaw3a
set_option linter.all false
namespace Go.Proofs.Ytkkeplobomncgaa
open Go Go.RowKit Go.Own Go.Dk

theorem sltLogs : SlT Try.prog 64 57 1 8 (.pointer none) := ⟨by kernel_rfl, by kernel_rfl, rfl⟩
theorem apE_e : apE [] ⟨#[]⟩ = 30 := rfl
theorem apL_e : apL [] ⟨#[]⟩ = [] := rfl
theorem no_log : (Try.prog.info? 63).isSome = true := by kernel_rfl

set_option maxRecDepth 100000 in
set_option maxHeartbeats 4000000 in
theorem logRefuses (E w : World) (X : Fr) (hO : Own E w X) (s : ByteArray) :
    Calls Try.prog 8 #[.string s] w fun e w' => e = .returned (.bool true) ∧ Own E w' X := by
  go_enter Try.func8, Try.ntmps8
  go_wp2_with fail
  refine (dNew E _ _ hO).mono ?_; rintro e w1 ⟨d, A, rfl, hA, hO⟩
  go_wp2_with fail
  refine (lOpen E _ _ _ A d [] hA (by simp) hO).mono ?_; rintro e w1 ⟨l, recs, rest, rs1, sa, cp, S, A1, rfl, hpl, hst, hrec, hrs, hpl1, hA1, hS, hO⟩
  obtain rfl : recs = [] := open_same (recs := []) rfl recs_nil hpl hst hrec
  have hl1 := open_len hrs
  clear hrs hpl
  go_wp2_with fail
  refine (lAppend E _ _ _ A1 l d [] _ rs1 hA1 hpl1 (by simp at hl1; omega) (by decide) hO).mono ?_; rintro e w1 ⟨he, A2, hA2, hO⟩; rw [apE_e] at he; subst he; rw [apL_e] at hO
  go_wp2_with fail
  refine (lLen E _ _ _ l d [] hO).mono ?_; rintro e w1 ⟨rfl, rfl⟩
  go_wp2_with fail
  refine (lOpen_no _).mono ?_; rintro e w1 ⟨rfl, rfl⟩
  go_wp2_with (first | (refine at_box ?_; go_must (refine own_box (v := ?_) hO ?_ ?_ ?_; rotate_left; (· rfl); (· ((conv => lhs; whnf); try exact rfl)); clear hO; (try clear hF); intro b1 _ hO; (try simp only [Value.cells] at hO); ((try simp only [List.nil_append, List.append_nil] at hO); have hF := Own.cells hO; simp only [cellsOf_append, cellsOf_pt] at hF); simp only [Act.put, List.setIfInBounds_toArray, List.set_cons_zero, List.set_cons_succ])) | (refine at_bs ?_; go_must (refine own_buildN (cells := ?_) sltLogs hO ?_ ?_ ?_ ?_ ?_ ?_; rotate_left; (· rfl); (· decide); (· decide); (· rfl); (· simp [Instr.fill, Act.eval, Value.cells, Array.replicate_succ]; exact rfl); clear hO; (try clear hF); intro b2 _ hO; ((try simp only [List.nil_append, List.append_nil] at hO); have hF := Own.cells hO; simp only [cellsOf_append, cellsOf_pt] at hF); simp only [Act.put, List.setIfInBounds_toArray, List.set_cons_zero, List.set_cons_succ])))
  clear hF
  have hO0 := hO
  clear hO
  go_loopw [11] (fun i wr => (i = .int .i64 0 ∨ i = .int .i64 1 ∨ i = .int .i64 2) ∧ Own E wr (pt b2 (.cells #[.pointer none, .pointer (some ⟨b1, 0, none⟩)] 57) ++ (pt b1 (.cells #[.pointer none, .int .i64 0, .int .i64 0] 63) ++ X))) (fun i _ => 2 - (intOf i).toNat)
  case atStart => exact ⟨.inl rfl, hO0.as _⟩
  case round =>
    clear hO0
    obtain ⟨hi, hO⟩ := hrel
    ((try simp only [List.nil_append, List.append_nil] at hO); have hF := Own.cells hO; simp only [cellsOf_append, cellsOf_pt] at hF)
    rcases hi with rfl | rfl | rfl
    · have hN : NoLog (.pointer none) wr := .inl rfl
      go_wp2_with (first | (go_at_call 29; go_must (refine (lAppend_no _ _ _ hN).mono ?_; rintro e w1 ⟨rfl, rfl⟩)) | (go_at_call 31; go_must (refine (lReset_no _ _ hN).mono ?_; rintro e w1 ⟨rfl, rfl⟩)) | (go_at_call 30; go_must (refine (lLen_no _ _ hN).mono ?_; rintro e w1 ⟨rfl, rfl⟩)))
      go_roundw
      case rel => exact ⟨.inr (.inl rfl), hO⟩
      case measure => simp [intOf]
    · have hN : NoLog (.pointer (some ⟨b1, 0, none⟩)) wr := .inr ⟨b1, rfl, by rw [hO.cell (b := b1)]; rfl⟩
      go_wp2_with (first | (go_at_call 29; go_must (refine (lAppend_no _ _ _ hN).mono ?_; rintro e w1 ⟨rfl, rfl⟩)) | (go_at_call 31; go_must (refine (lReset_no _ _ hN).mono ?_; rintro e w1 ⟨rfl, rfl⟩)) | (go_at_call 30; go_must (refine (lLen_no _ _ hN).mono ?_; rintro e w1 ⟨rfl, rfl⟩)))
      go_roundw
      case rel => exact ⟨.inr (.inr rfl), hO⟩
      case measure => simp [intOf]
    · go_wp2_with (go_at_call 32; refine (awake3 E _ X (hO.as X)).mono ?_; rintro e w1 ⟨rfl, hO⟩)
      go_ret
      exact ⟨rfl, hO⟩
end Go.Proofs.Ytkkeplobomncgaa
