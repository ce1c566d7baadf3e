/- Contracts of the document's disk: Write for all arguments, Read; the statements' small, does. -/
import Derived.Test.YtkkeplobomncgaaRef2
set_option linter.all false
namespace Go.Proofs.Ytkkeplobomncgaa
open Go Go.RowKit Go.Own Go.Dk

theorem rWrite (E w : World) (X R I : Fr) (rs : List Raw) (q : Value) (file at_ : Int) (t : ByteArray) (hs : t.size ≤ maxLen) (hq : RefAt q rs I) (hlen : rs.length ≤ 8796093022208) (hok : OkL rs) (hO : Own E w X) [hp : Pick X I R] :
    Calls Try.prog 24 #[q, .int .i64 file, .int .i64 at_, .string t] w (RP E (wr rs file at_ t).1 (wr rs file at_ t).2 I R) := by
  by_cases h : fileOk file = true ∧ 0 ≤ at_ ∧ at_ ≤ 4194304 ∧ (t.size : Int) ≤ 4194304 - at_
  · obtain ⟨h1, h2, h3, h4⟩ := h
    obtain ⟨k, rfl, hk⟩ := fileOk_of h1
    obtain ⟨p, rfl⟩ : ∃ p : Nat, at_ = p := ⟨at_.toNat, by omega⟩
    have hw : wr rs k p t = (rs ++ [.put k p t], 0) := by unfold wr; rw [if_pos ⟨h1, h2, h3, h4⟩]; simp
    rw [hw]
    exact rWrite_ok E w X R I rs q k p t hq hlen hok hO hk (by omega)
  · have hw : wr rs file at_ t = (rs, 1) := by unfold wr; rw [if_neg h]
    rw [hw]
    exact rWrite_bad E w X R I rs q file at_ t hs hq hO h

set_option maxRecDepth 100000 in
set_option maxHeartbeats 4000000 in
theorem rRead (E w : World) (X R I : Fr) (rs : List Raw) (q : Value) (file at_ n : Int) (hq : RefAt q rs I) (hok : OkL rs) (hO : Own E w X) [hp : Pick X I R] :
    Calls Try.prog 20 #[q, .int .i64 file, .int .i64 at_, .int .i64 n] w fun e w' => e = .returned (.tuple #[.string (rd rs file at_ n).1, .int .i64 (rd rs file at_ n).2]) ∧ Own E w' (I ++ R) := by
  have hO0 := hO.perm hp.perm
  clear hp hO
  have hO := hO0
  clear hO0
  obtain ⟨fa, fc, rfl, hr⟩ := hq
  by_cases h1 : fileOk file = true
  case neg =>
    have hw : rd rs file at_ n = (ByteArray.empty, 1) := by unfold rd; rw [if_neg (by simp [h1])]
    rw [hw]
    clear hw
    rcases fileOk_no h1 with h0 | h0
    · go_enter Try.func20, Try.ntmps20
      go_wp2_with (refine at_box ?_; go_must (refine own_box (v := ?_) hO ?_ ?_ ?_; rotate_left; (· rfl); (· ((conv => lhs; whnf); try exact rfl)); clear hO; (try clear hF); intro _ _ hO; (try simp only [Value.cells] at hO); ((try simp only [List.nil_append, List.append_nil] at hO); have hF := Own.cells hO; simp only [cellsOf_append, cellsOf_pt] at hF); simp only [Act.put, List.setIfInBounds_toArray, List.set_cons_zero, List.set_cons_succ]))
      all_goals (go_ret2; exact ⟨rfl, hO.as _⟩)
    · have h0' : 0 ≤ file := by omega
      go_enter Try.func20, Try.ntmps20
      go_wp2_with (refine at_box ?_; go_must (refine own_box (v := ?_) hO ?_ ?_ ?_; rotate_left; (· rfl); (· ((conv => lhs; whnf); try exact rfl)); clear hO; (try clear hF); intro _ _ hO; (try simp only [Value.cells] at hO); ((try simp only [List.nil_append, List.append_nil] at hO); have hF := Own.cells hO; simp only [cellsOf_append, cellsOf_pt] at hF); simp only [Act.put, List.setIfInBounds_toArray, List.set_cons_zero, List.set_cons_succ]))
      all_goals (go_ret2; exact ⟨rfl, hO.as _⟩)
  obtain ⟨k, rfl, hk⟩ := fileOk_of h1
  have hk1 : (k : Int) < 4 := by omega
  have hk2 : (0 : Int) ≤ k := by omega
  by_cases h2 : 0 ≤ at_
  case neg =>
    have hw : rd rs k at_ n = (ByteArray.empty, 1) := by unfold rd; rw [if_neg (by simp [h2])]
    rw [hw]
    clear hw
    · go_enter Try.func20, Try.ntmps20
      go_wp2_with (refine at_box ?_; go_must (refine own_box (v := ?_) hO ?_ ?_ ?_; rotate_left; (· rfl); (· ((conv => lhs; whnf); try exact rfl)); clear hO; (try clear hF); intro _ _ hO; (try simp only [Value.cells] at hO); ((try simp only [List.nil_append, List.append_nil] at hO); have hF := Own.cells hO; simp only [cellsOf_append, cellsOf_pt] at hF); simp only [Act.put, List.setIfInBounds_toArray, List.set_cons_zero, List.set_cons_succ]))
      all_goals (go_ret2; exact ⟨rfl, hO.as _⟩)
  by_cases h3 : 0 ≤ n
  case neg =>
    have hw : rd rs k at_ n = (ByteArray.empty, 1) := by unfold rd; rw [if_neg (by simp [h3])]
    rw [hw]
    clear hw
    · go_enter Try.func20, Try.ntmps20
      go_wp2_with (refine at_box ?_; go_must (refine own_box (v := ?_) hO ?_ ?_ ?_; rotate_left; (· rfl); (· ((conv => lhs; whnf); try exact rfl)); clear hO; (try clear hF); intro _ _ hO; (try simp only [Value.cells] at hO); ((try simp only [List.nil_append, List.append_nil] at hO); have hF := Own.cells hO; simp only [cellsOf_append, cellsOf_pt] at hF); simp only [Act.put, List.setIfInBounds_toArray, List.set_cons_zero, List.set_cons_succ]))
      all_goals (go_ret2; exact ⟨rfl, hO.as _⟩)
  have hget := rcells_get (fileVs fa (play rs) fc) (.int .i64 rs.length) k hk
  have hfv : fileVs fa (play rs) fc k = .slice (fa k) (play rs k).length (fc k) := rfl
  rw [hfv] at hget
  clear hfv
  have hrk := hr k hk
  have hle := play_le hok k
  have hle' : ((play rs k).length : Int) ≤ 4194304 := by omega
  have hfl : (play rs k).length ≤ fc k := hrk.1
  by_cases h4 : at_ ≤ (play rs k).length
  case neg =>
    have hw : rd rs k at_ n = (ByteArray.empty, 1) := by unfold rd; rw [if_neg (by simp [h4])]
    rw [hw]
    clear hw
    · go_enter Try.func20, Try.ntmps20
      go_wp2_with (refine at_box ?_; go_must (refine own_box (v := ?_) hO ?_ ?_ ?_; rotate_left; (· rfl); (· ((conv => lhs; whnf); try exact rfl)); clear hO; (try clear hF); intro _ _ hO; (try simp only [Value.cells] at hO); ((try simp only [List.nil_append, List.append_nil] at hO); have hF := Own.cells hO; simp only [cellsOf_append, cellsOf_pt] at hF); simp only [Act.put, List.setIfInBounds_toArray, List.set_cons_zero, List.set_cons_succ]))
      all_goals (go_ret2; exact ⟨rfl, hO.as _⟩)
  by_cases h5 : n ≤ (play rs k).length - at_
  case neg =>
    have hw : rd rs k at_ n = (ByteArray.empty, 1) := by unfold rd; rw [if_neg (by simp [h5])]
    rw [hw]
    clear hw
    · go_enter Try.func20, Try.ntmps20
      go_wp2_with (refine at_box ?_; go_must (refine own_box (v := ?_) hO ?_ ?_ ?_; rotate_left; (· rfl); (· ((conv => lhs; whnf); try exact rfl)); clear hO; (try clear hF); intro _ _ hO; (try simp only [Value.cells] at hO); ((try simp only [List.nil_append, List.append_nil] at hO); have hF := Own.cells hO; simp only [cellsOf_append, cellsOf_pt] at hF); simp only [Act.put, List.setIfInBounds_toArray, List.set_cons_zero, List.set_cons_succ]))
      all_goals (go_ret2; exact ⟨rfl, hO.as _⟩)
  obtain ⟨p, rfl⟩ : ∃ p : Nat, at_ = p := ⟨at_.toNat, by omega⟩
  obtain ⟨m, rfl⟩ : ∃ p : Nat, n = p := ⟨n.toNat, by omega⟩
  have hw : rd rs k p m = (⟨(((play rs k).drop p).take m).toArray⟩, 0) := by unfold rd; rw [if_pos ⟨h1, h2, h3, by simpa using h4, by simpa using h5⟩]; simp
  rw [hw]
  clear hw
  have h6 : (p : Int) + m ≤ fc k := by omega
  have h7 : (p : Int) ≤ p + m := by omega
  have HRK := Lib.hid hrk
  clear hrk
  go_enter Try.func20, Try.ntmps20
  go_wp2_with (first | (refine at_box ?_; go_must (refine own_box (v := ?_) hO ?_ ?_ ?_; rotate_left; (· rfl); (· ((conv => lhs; whnf); try exact rfl)); clear hO; (try clear hF); intro _ _ hO; (try simp only [Value.cells] at hO); ((try simp only [List.nil_append, List.append_nil] at hO); have hF := Own.cells hO; simp only [cellsOf_append, cellsOf_pt] at hF); simp only [Act.put, List.setIfInBounds_toArray, List.set_cons_zero, List.set_cons_succ])) | (refine at_conv ?_; go_must (refine own_bytes_str (e := 5) (ad := ?_) (n := ?_) (cap := ?_) (l := ((play rs k).drop p).take m) (by kernel_rfl) (by kernel_rfl) (by kernel_rfl) ?_ ?_ ?_ ?_ ?_ ?_; rotate_left 3; (· rfl); (· ((conv => lhs; whnf); try exact rfl)); (· simp; omega); (· exact cut_cells (HRK.out.cells hO) (by omega) (by omega)); (· intro h; have := cut_none HRK.out.nilLen (m := m) (by omega) h; omega); simp only [Act.put, List.setIfInBounds_toArray, List.set_cons_zero, List.set_cons_succ])))
  all_goals (go_ret2; exact ⟨rfl, hO.as _⟩)
end Go.Proofs.Ytkkeplobomncgaa
