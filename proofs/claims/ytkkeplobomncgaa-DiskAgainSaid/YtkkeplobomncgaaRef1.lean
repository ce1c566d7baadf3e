/- Contracts of the document's disk: Trim. -/
import Derived.Test.YtkkeplobomncgaaRefM
set_option linter.all false
namespace Go.Proofs.Ytkkeplobomncgaa
open Go Go.RowKit Go.Own Go.Dk

theorem zeroRef (w : World) : (zeroValue 28).run Try.prog w = .ok (.agg (rcells (fun _ => .slice none 0 0) (.int .i64 0))) w := by
  simp [rcells]
/-- What a call of the document's disk comes to. -/
def RP (E : World) (rs : List Raw) (n : Int) (I R : Fr) (e : Ending) (w' : World) : Prop :=
  ∃ q' I', e = .returned (.tuple #[q', .int .i64 n]) ∧ RefAt q' rs (I' ++ I) ∧ Own E w' (I' ++ (I ++ R))

theorem fileOk_no {n : Int} (h : ¬ fileOk n = true) : n < 0 ∨ 4 ≤ n := by
  simp [fileOk] at h
  omega

set_option maxRecDepth 100000 in
set_option maxHeartbeats 4000000 in
theorem rTrim (E w : World) (X R I : Fr) (rs : List Raw) (q : Value) (file size : Int) (hq : RefAt q rs I) (hlen : rs.length ≤ 8796093022208) (hok : OkL rs) (hO : Own E w X) [hp : Pick X I R] :
    Calls Try.prog 45 #[q, .int .i64 file, .int .i64 size] w (RP E (tr rs file size).1 (tr rs file size).2 I R) := by
  have hO0 := hO.perm hp.perm
  clear hp hO
  have hO := hO0
  clear hO0
  obtain ⟨fa, fc, rfl, hr⟩ := hq
  have hz := zeroRef
  by_cases h1 : fileOk file = true
  case neg =>
    have hw : tr rs file size = (rs, 1) := by unfold tr; rw [if_neg (by simp [h1])]
    rw [hw]
    clear hw
    rcases fileOk_no h1 with h0 | h0
    · go_enter Try.func45, Try.ntmps45
      (go_wp2_with (first | (refine at_box ?_; go_must (refine own_box (v := ?_) hO ?_ ?_ ?_; rotate_left; (· rfl); (· ((conv => lhs; whnf); try exact rfl)); clear hO; (try clear hF); intro _ _ hO; (try simp only [Value.cells] at hO); ((try simp only [List.nil_append, List.append_nil] at hO); have hF := Own.cells hO; simp only [cellsOf_append, cellsOf_pt] at hF); simp only [Act.put, List.setIfInBounds_toArray, List.set_cons_zero, List.set_cons_succ])) | (refine at_alloc ?_; go_must (refine own_alloc (z := ?_) hO ?_ ?_ ?_; rotate_left; (· rfl); (· exact hz _); clear hO; (try clear hF); intro _ _ hO; (try simp only [Value.cells] at hO); ((try simp only [List.nil_append, List.append_nil] at hO); have hF := Own.cells hO; simp only [cellsOf_append, cellsOf_pt] at hF); simp only [Act.put, List.setIfInBounds_toArray, List.set_cons_zero, List.set_cons_succ])) | (refine at_load ?_; refine own_loadS (b := ?_) (cs := ?_) (e := ?_) (f := ?_) hO ?_ ?_ ?_ ?_ ?_ ?_; rotate_left 4; (· rfl); (· rfl); (· exact inferInstance); (· simp; done); (· simp [rcells]; done); simp only [Act.put, List.setIfInBounds_toArray, List.set_cons_zero, List.set_cons_succ]) | (refine at_store ?_; refine own_storeS (b := ?_) (cs := ?_) (cs' := ?_) (e := ?_) (R := ?_) hO ?_ ?_ ?_ ?_ ?_ ?_ ?_ ?_; rotate_left 5; (· rfl); (· rfl); (· ((conv => lhs; whnf); try exact rfl)); (· exact inferInstance); (· simp [rcells]; done); (· refine rcells_one _ _ ?_ rfl; intro i; first | rfl | (simp only [upd]; split <;> rfl)); (· simp [rcells]; done); clear hO; (try clear hF); intro _ hO; ((try simp only [List.nil_append, List.append_nil] at hO); have hF := Own.cells hO; simp only [cellsOf_append, cellsOf_pt] at hF); simp only [Act.put, List.setIfInBounds_toArray, List.set_cons_zero, List.set_cons_succ]))); (all_goals (refine bodyPost_ret (results_cell_tmp_own (t := 28) (b := _) (cs := _) (e := _) (f := _) rfl hO (by exact rfl) (by exact rfl) (by exact inferInstance) (by simp) (by simp [rcells])) rfl ?_; exact ⟨_, [], rfl, ⟨fa, fc, rfl, hr⟩, hO.as _⟩))
    · have h0' : 0 ≤ file := by omega
      go_enter Try.func45, Try.ntmps45
      (go_wp2_with (first | (refine at_box ?_; go_must (refine own_box (v := ?_) hO ?_ ?_ ?_; rotate_left; (· rfl); (· ((conv => lhs; whnf); try exact rfl)); clear hO; (try clear hF); intro _ _ hO; (try simp only [Value.cells] at hO); ((try simp only [List.nil_append, List.append_nil] at hO); have hF := Own.cells hO; simp only [cellsOf_append, cellsOf_pt] at hF); simp only [Act.put, List.setIfInBounds_toArray, List.set_cons_zero, List.set_cons_succ])) | (refine at_alloc ?_; go_must (refine own_alloc (z := ?_) hO ?_ ?_ ?_; rotate_left; (· rfl); (· exact hz _); clear hO; (try clear hF); intro _ _ hO; (try simp only [Value.cells] at hO); ((try simp only [List.nil_append, List.append_nil] at hO); have hF := Own.cells hO; simp only [cellsOf_append, cellsOf_pt] at hF); simp only [Act.put, List.setIfInBounds_toArray, List.set_cons_zero, List.set_cons_succ])) | (refine at_load ?_; refine own_loadS (b := ?_) (cs := ?_) (e := ?_) (f := ?_) hO ?_ ?_ ?_ ?_ ?_ ?_; rotate_left 4; (· rfl); (· rfl); (· exact inferInstance); (· simp; done); (· simp [rcells]; done); simp only [Act.put, List.setIfInBounds_toArray, List.set_cons_zero, List.set_cons_succ]) | (refine at_store ?_; refine own_storeS (b := ?_) (cs := ?_) (cs' := ?_) (e := ?_) (R := ?_) hO ?_ ?_ ?_ ?_ ?_ ?_ ?_ ?_; rotate_left 5; (· rfl); (· rfl); (· ((conv => lhs; whnf); try exact rfl)); (· exact inferInstance); (· simp [rcells]; done); (· refine rcells_one _ _ ?_ rfl; intro i; first | rfl | (simp only [upd]; split <;> rfl)); (· simp [rcells]; done); clear hO; (try clear hF); intro _ hO; ((try simp only [List.nil_append, List.append_nil] at hO); have hF := Own.cells hO; simp only [cellsOf_append, cellsOf_pt] at hF); simp only [Act.put, List.setIfInBounds_toArray, List.set_cons_zero, List.set_cons_succ]))); (all_goals (refine bodyPost_ret (results_cell_tmp_own (t := 28) (b := _) (cs := _) (e := _) (f := _) rfl hO (by exact rfl) (by exact rfl) (by exact inferInstance) (by simp) (by simp [rcells])) rfl ?_; exact ⟨_, [], rfl, ⟨fa, fc, rfl, hr⟩, hO.as _⟩))
  obtain ⟨k, rfl, hk⟩ := fileOk_of h1
  have hk1 : (k : Int) < 4 := by omega
  have hk2 : (0 : Int) ≤ k := by omega
  have hget := rcells_get (fileVs fa (play rs) fc) (.int .i64 rs.length) k hk
  by_cases h2 : 0 ≤ size
  case neg =>
    have hw : tr rs k size = (rs, 1) := by unfold tr; rw [if_neg (by simp [h2])]
    rw [hw]
    clear hw
    · go_enter Try.func45, Try.ntmps45
      (go_wp2_with (first | (refine at_box ?_; go_must (refine own_box (v := ?_) hO ?_ ?_ ?_; rotate_left; (· rfl); (· ((conv => lhs; whnf); try exact rfl)); clear hO; (try clear hF); intro _ _ hO; (try simp only [Value.cells] at hO); ((try simp only [List.nil_append, List.append_nil] at hO); have hF := Own.cells hO; simp only [cellsOf_append, cellsOf_pt] at hF); simp only [Act.put, List.setIfInBounds_toArray, List.set_cons_zero, List.set_cons_succ])) | (refine at_alloc ?_; go_must (refine own_alloc (z := ?_) hO ?_ ?_ ?_; rotate_left; (· rfl); (· exact hz _); clear hO; (try clear hF); intro _ _ hO; (try simp only [Value.cells] at hO); ((try simp only [List.nil_append, List.append_nil] at hO); have hF := Own.cells hO; simp only [cellsOf_append, cellsOf_pt] at hF); simp only [Act.put, List.setIfInBounds_toArray, List.set_cons_zero, List.set_cons_succ])) | (refine at_load ?_; refine own_loadS (b := ?_) (cs := ?_) (e := ?_) (f := ?_) hO ?_ ?_ ?_ ?_ ?_ ?_; rotate_left 4; (· rfl); (· rfl); (· exact inferInstance); (· simp; done); (· simp [rcells]; done); simp only [Act.put, List.setIfInBounds_toArray, List.set_cons_zero, List.set_cons_succ]) | (refine at_store ?_; refine own_storeS (b := ?_) (cs := ?_) (cs' := ?_) (e := ?_) (R := ?_) hO ?_ ?_ ?_ ?_ ?_ ?_ ?_ ?_; rotate_left 5; (· rfl); (· rfl); (· ((conv => lhs; whnf); try exact rfl)); (· exact inferInstance); (· simp [rcells]; done); (· refine rcells_one _ _ ?_ rfl; intro i; first | rfl | (simp only [upd]; split <;> rfl)); (· simp [rcells]; done); clear hO; (try clear hF); intro _ hO; ((try simp only [List.nil_append, List.append_nil] at hO); have hF := Own.cells hO; simp only [cellsOf_append, cellsOf_pt] at hF); simp only [Act.put, List.setIfInBounds_toArray, List.set_cons_zero, List.set_cons_succ]))); (all_goals (refine bodyPost_ret (results_cell_tmp_own (t := 28) (b := _) (cs := _) (e := _) (f := _) rfl hO (by exact rfl) (by exact rfl) (by exact inferInstance) (by simp) (by simp [rcells])) rfl ?_; exact ⟨_, [], rfl, ⟨fa, fc, rfl, hr⟩, hO.as _⟩))
  have hfv : fileVs fa (play rs) fc k = .slice (fa k) (play rs k).length (fc k) := rfl
  rw [hfv] at hget
  by_cases h3 : size ≤ (play rs k).length
  case neg =>
    have hw : tr rs k size = (rs, 1) := by unfold tr; rw [if_neg (by simp [h3])]
    rw [hw]
    clear hw hfv
    · go_enter Try.func45, Try.ntmps45
      (go_wp2_with (first | (refine at_box ?_; go_must (refine own_box (v := ?_) hO ?_ ?_ ?_; rotate_left; (· rfl); (· ((conv => lhs; whnf); try exact rfl)); clear hO; (try clear hF); intro _ _ hO; (try simp only [Value.cells] at hO); ((try simp only [List.nil_append, List.append_nil] at hO); have hF := Own.cells hO; simp only [cellsOf_append, cellsOf_pt] at hF); simp only [Act.put, List.setIfInBounds_toArray, List.set_cons_zero, List.set_cons_succ])) | (refine at_alloc ?_; go_must (refine own_alloc (z := ?_) hO ?_ ?_ ?_; rotate_left; (· rfl); (· exact hz _); clear hO; (try clear hF); intro _ _ hO; (try simp only [Value.cells] at hO); ((try simp only [List.nil_append, List.append_nil] at hO); have hF := Own.cells hO; simp only [cellsOf_append, cellsOf_pt] at hF); simp only [Act.put, List.setIfInBounds_toArray, List.set_cons_zero, List.set_cons_succ])) | (refine at_load ?_; refine own_loadS (b := ?_) (cs := ?_) (e := ?_) (f := ?_) hO ?_ ?_ ?_ ?_ ?_ ?_; rotate_left 4; (· rfl); (· rfl); (· exact inferInstance); (· simp; done); (· simp [rcells]; done); simp only [Act.put, List.setIfInBounds_toArray, List.set_cons_zero, List.set_cons_succ]) | (refine at_store ?_; refine own_storeS (b := ?_) (cs := ?_) (cs' := ?_) (e := ?_) (R := ?_) hO ?_ ?_ ?_ ?_ ?_ ?_ ?_ ?_; rotate_left 5; (· rfl); (· rfl); (· ((conv => lhs; whnf); try exact rfl)); (· exact inferInstance); (· simp [rcells]; done); (· refine rcells_one _ _ ?_ rfl; intro i; first | rfl | (simp only [upd]; split <;> rfl)); (· simp [rcells]; done); clear hO; (try clear hF); intro _ hO; ((try simp only [List.nil_append, List.append_nil] at hO); have hF := Own.cells hO; simp only [cellsOf_append, cellsOf_pt] at hF); simp only [Act.put, List.setIfInBounds_toArray, List.set_cons_zero, List.set_cons_succ]))); (all_goals (refine bodyPost_ret (results_cell_tmp_own (t := 28) (b := _) (cs := _) (e := _) (f := _) rfl hO (by exact rfl) (by exact rfl) (by exact inferInstance) (by simp) (by simp [rcells])) rfl ?_; exact ⟨_, [], rfl, ⟨fa, fc, rfl, hr⟩, hO.as _⟩))
  obtain ⟨m, rfl⟩ : ∃ p : Nat, size = p := ⟨size.toNat, by omega⟩
  have hw : tr rs k m = (rs ++ [.trim k m], 0) := by unfold tr; rw [if_pos ⟨h1, h2, by simpa using h3⟩]; simp
  rw [hw]
  have hml : m ≤ (play rs k).length := by omega
  have hpl := play_le hok k
  have hrk := hr k hk
  have hfl : ((play rs k).length : Int) ≤ fc k := by have := hrk.1; omega
  have hmf : (m : Int) ≤ fc k := by omega
  have hl4 : (rs.length : Int) ≤ 8796093022208 := by omega
  have hH : Hid (∀ w', Own E w' (I ++ R) → (Builtin.firstCells 1 m (.slice (fa k) m (fc k))).run Try.prog w' = .ok (bytesV ((play rs k).take m)).toArray w') := fun w' hO' => hrk.first hO' m hml
  clear hw hfv
  go_enter Try.func45, Try.ntmps45
  go_wp2_with (first | (refine at_box ?_; go_must (refine own_box (v := ?_) hO ?_ ?_ ?_; rotate_left; (· rfl); (· ((conv => lhs; whnf); try exact rfl)); clear hO; (try clear hF); intro _ _ hO; (try simp only [Value.cells] at hO); ((try simp only [List.nil_append, List.append_nil] at hO); have hF := Own.cells hO; simp only [cellsOf_append, cellsOf_pt] at hF); simp only [Act.put, List.setIfInBounds_toArray, List.set_cons_zero, List.set_cons_succ])) | (refine at_alloc ?_; go_must (refine own_alloc (z := ?_) hO ?_ ?_ ?_; rotate_left; (· rfl); (· exact hz _); clear hO; (try clear hF); intro _ _ hO; (try simp only [Value.cells] at hO); ((try simp only [List.nil_append, List.append_nil] at hO); have hF := Own.cells hO; simp only [cellsOf_append, cellsOf_pt] at hF); simp only [Act.put, List.setIfInBounds_toArray, List.set_cons_zero, List.set_cons_succ])) | (refine at_load ?_; refine own_loadS (b := ?_) (cs := ?_) (e := ?_) (f := ?_) hO ?_ ?_ ?_ ?_ ?_ ?_; rotate_left 4; (· rfl); (· rfl); (· exact inferInstance); (· simp; done); (· simp [rcells]; done); simp only [Act.put, List.setIfInBounds_toArray, List.set_cons_zero, List.set_cons_succ]) | (refine at_store ?_; refine own_storeS (b := ?_) (cs := ?_) (cs' := ?_) (e := ?_) (R := ?_) hO ?_ ?_ ?_ ?_ ?_ ?_ ?_ ?_; rotate_left 5; (· rfl); (· rfl); (· ((conv => lhs; whnf); try exact rfl)); (· exact inferInstance); (· simp [rcells]; done); (· refine rcells_one _ _ ?_ rfl; intro i; first | rfl | (simp only [upd]; split <;> rfl)); (· simp [rcells]; done); clear hO; (try clear hF); intro _ hO; ((try simp only [List.nil_append, List.append_nil] at hO); have hF := Own.cells hO; simp only [cellsOf_append, cellsOf_pt] at hF); simp only [Act.put, List.setIfInBounds_toArray, List.set_cons_zero, List.set_cons_succ]) | (refine at_store ?_; refine own_storeG (b := ?_) (off := ?_) (v := ?_) (cs := ?_) (e := ?_) (R' := ?_) hO ?_ ?_ ?_ ?_ ?_ ?_ ?_ ?_; rotate_left 6; (· rfl); (· ((conv => lhs; whnf); try exact rfl)); (· ((conv => lhs; whnf); try exact rfl)); (· exact inferInstance); (· simp [Value.cells]; done); (· simp [Value.cells, Value.oneCell']; done); (· simp [Value.cells, rcells]; (try omega)); clear hO; (try clear hF); intro _ hO; (simp only [splice, Value.cells] at hO); simp only [rcells_set _ _ _ _ hk, rcells_set4] at hO; ((try simp only [List.nil_append, List.append_nil] at hO); have hF := Own.cells hO; simp only [cellsOf_append, cellsOf_pt] at hF); simp only [Act.put, List.setIfInBounds_toArray, List.set_cons_zero, List.set_cons_succ]) | (refine at_append ?_; go_must (refine own_append_new (xv := ?_) (m := m) (news := bytesV ((play rs k).take m)) sltBytes (.inl (by kernel_rfl)) hO ?_ ?_ ?_ ?_ ?_ ?_ ?_ ?_ ?_ ?_; rotate_left; (· rfl); (· rfl); (· ((conv => lhs; whnf); try exact rfl)); (· intro w; simp [Builtin.lenOf]); (· intro w' hO'; exact hH.out w' (hO'.as _)); (· rw [bytesV_length, List.length_take]; omega); (· exact bytesV_one _); (· simp only [maxLen]; omega); (· omega); clear hO; (try clear hF); intro a1 c1 A1 w1 hS hO; ((try simp only [List.nil_append, List.append_nil] at hO); have hF := Own.cells hO; simp only [cellsOf_append, cellsOf_pt] at hF); simp only [Act.put, List.setIfInBounds_toArray, List.set_cons_zero, List.set_cons_succ])))
  refine bodyPost_ret (results_cell_tmp_own (t := 28) (b := _) (cs := _) (e := _) (f := _) rfl hO (by exact rfl) (by exact rfl) (by exact inferInstance) (by simp) (by simp [rcells])) rfl ?_
  exact ⟨_, A1, rfl, RefAt.step_trim hml hr hS, hO.as _⟩
end Go.Proofs.Ytkkeplobomncgaa
