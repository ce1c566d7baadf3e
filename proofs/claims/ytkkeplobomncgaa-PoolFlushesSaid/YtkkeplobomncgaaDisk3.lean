/- Contracts of package disk: does, Write, Trim, Size, Writes, Read. -/
import Derived.Test.YtkkeplobomncgaaDisk2
set_option linter.all false
namespace Go.Proofs.Ytkkeplobomncgaa
open Go Go.RowKit Go.Own Go.Dk

theorem methPut (v : Value) (w : World) : (method 250 99 v "vestibule/disk.do").run Try.prog w = .ok (91, v) w := by kernel_rfl
theorem methTrim (v : Value) (w : World) : (method 250 101 v "vestibule/disk.do").run Try.prog w = .ok (92, v) w := by kernel_rfl

set_option maxRecDepth 100000 in
set_option maxHeartbeats 4000000 in
theorem dDoes_trim (E w : World) (X R : Fr) (d : Nat) (rs : List Raw) (A : Fr) (k n : Nat) (hA : DiskAt d rs A) (hr : (Raw.trim k n).ok (play rs)) (hlen : rs.length ≤ 8796093022208)
   (hO : Own E w X) [hp : Pick X A R] :
    Calls Try.prog 47 #[.pointer (some ⟨d, 0, none⟩), rawV (.trim k n)] w fun e w' => e = .returned (.int .i64 0) ∧ ∃ A', DiskAt d (rs ++ [Raw.trim k n]) A' ∧ Own E w' (A' ++ R) := by
  obtain ⟨hok, fa, fc, FA, ra, rc, RA, rfl, hf, hra⟩ := hA
  have hr' := hr
  obtain ⟨hk, hn⟩ := hr'
  simp only [rawV]
  replace hO := hO.perm hp.perm
  clear hp
  rw [List.append_assoc, List.append_assoc] at hO
  have hfk := hf k hk
  have hm := methTrim
  go_enter Try.func47, Try.ntmps47
  go_wp2_with (first | (go_at_call 92; go_must (refine (dTrimDo E _ _ _ d (fileVs fa (play rs) fc) (.slice ra rs.length rc) k n _ _ _ hk hn hfk.le rfl hO).mono ?_; rintro e w1 ⟨rfl, hO⟩; ((try simp only [List.nil_append, List.append_nil] at hO); have hF := Own.cells hO; simp only [cellsOf_append, cellsOf_pt] at hF))) | (refine at_bs ?_; go_must (refine own_build1 (v := ?_) sltRaws hO ?_ ?_ ?_ ?_ ?_ ?_; rotate_left; (· rfl); (· ((conv => lhs; whnf); try exact rfl)); (· rfl); (· decide); (· decide); clear hO; (try clear hF); intro _ _ hO; (try simp only [Value.cells] at hO); ((try simp only [List.nil_append, List.append_nil] at hO); have hF := Own.cells hO; simp only [cellsOf_append, cellsOf_pt] at hF); simp only [Act.put, List.setIfInBounds_toArray, List.set_cons_zero, List.set_cons_succ])) | (at_builtin; go_must (refine own_append_elem (b1 := ?_) (cs := ?_) (e1 := ?_) (f1 := ?_) sltRaws hO ?_ ?_ ?_ hra ?_ ?_ ?_ ?_ ?_ ?_ ?_; rotate_left 4; (· rfl); (· rfl); (· rfl); (· exact inferInstance); (· rfl); (· intro u hu; simp at hu; subst hu; rfl); (· first | omega | (simp only [maxLen]; omega)); (· decide); (· first | omega | (simp only [maxLen]; omega)); clear hO; (try clear hF); intro _ _ _ _ hS hO; ((try simp only [List.nil_append, List.append_nil] at hO); have hF := Own.cells hO; simp only [cellsOf_append, cellsOf_pt] at hF); simp only [Act.put, List.setIfInBounds_toArray, List.set_cons_zero, List.set_cons_succ])) | (refine own_store (v := ?_) (b := d) (off := 5) hO ?_ ?_ ?_ ?_ ?_ ?_ ?_; rotate_left; (· rfl); (· ((conv => lhs; whnf); try exact rfl)); (· ((conv => lhs; whnf); try exact rfl)); (· simp [Value.cells]); (· simp [Value.cells, Value.oneCell']); (· simp [Value.cells, dcells]); clear hO; (try clear hF); intro _ hO; (try simp only [splice, Value.cells] at hO); ((try simp only [List.nil_append, List.append_nil] at hO); have hF := Own.cells hO; simp only [cellsOf_append, cellsOf_pt] at hF); simp only [Act.put, List.setIfInBounds_toArray, List.set_cons_zero, List.set_cons_succ]))
  go_ret
  simp only [dcells_set5] at hO
  exact ⟨rfl, _, DiskAt.step_trim hok hr hf hS, hO.as _⟩

set_option maxRecDepth 100000 in
set_option maxHeartbeats 4000000 in
theorem dDoes_put (E w : World) (X R : Fr) (d : Nat) (rs : List Raw) (A : Fr) (k p : Nat) (t : ByteArray) (hA : DiskAt d rs A) (hr : (Raw.put k p t).ok (play rs)) (hlen : rs.length ≤ 8796093022208)
   (hO : Own E w X) [hp : Pick X A R] :
    Calls Try.prog 47 #[.pointer (some ⟨d, 0, none⟩), rawV (.put k p t)] w fun e w' => e = .returned (.int .i64 0) ∧ ∃ A', DiskAt d (rs ++ [Raw.put k p t]) A' ∧ Own E w' (A' ++ R) := by
  obtain ⟨hok, fa, fc, FA, ra, rc, RA, rfl, hf, hra⟩ := hA
  have hr' := hr
  obtain ⟨hk, hn⟩ := hr'
  simp only [rawV]
  have hfk := hf k hk
  replace hO : Own E w (pt d (.cells (dcells (fileVs fa (play rs) fc) (.slice ra rs.length rc)) 52 (0, 0)) ++ (FA k ++ (files (upd FA k []) ++ (RA ++ R)))) := by
    have h1 := hO.perm hp.perm
    rw [List.append_assoc, List.append_assoc] at h1
    refine h1.perm (List.Perm.append_left _ ?_)
    rw [← List.append_assoc (FA k)]
    exact List.Perm.append_right _ (files_pick FA k hk)
  clear hp
  have hpl := play_le hok k
  have hm := methPut
  go_enter Try.func47, Try.ntmps47
  go_wp2_with (first | (go_at_call 91; go_must (refine (dPutDo E _ _ _ d (fileVs fa (play rs) fc) (.slice ra rs.length rc) k p t _ _ _ _ hk hn hpl rfl hfk hO).mono ?_; rintro e w1 ⟨rfl, a', cap', A', hA', hO⟩; ((try simp only [List.nil_append, List.append_nil] at hO); have hF := Own.cells hO; simp only [cellsOf_append, cellsOf_pt] at hF))) | (refine at_bs ?_; go_must (refine own_build1 (v := ?_) sltRaws hO ?_ ?_ ?_ ?_ ?_ ?_; rotate_left; (· rfl); (· ((conv => lhs; whnf); try exact rfl)); (· rfl); (· decide); (· decide); clear hO; (try clear hF); intro _ _ hO; (try simp only [Value.cells] at hO); ((try simp only [List.nil_append, List.append_nil] at hO); have hF := Own.cells hO; simp only [cellsOf_append, cellsOf_pt] at hF); simp only [Act.put, List.setIfInBounds_toArray, List.set_cons_zero, List.set_cons_succ])) | (at_builtin; go_must (refine own_append_elem (b1 := ?_) (cs := ?_) (e1 := ?_) (f1 := ?_) sltRaws hO ?_ ?_ ?_ hra ?_ ?_ ?_ ?_ ?_ ?_ ?_; rotate_left 4; (· rfl); (· rfl); (· rfl); (· exact inferInstance); (· rfl); (· intro u hu; simp at hu; subst hu; rfl); (· first | omega | (simp only [maxLen]; omega)); (· decide); (· first | omega | (simp only [maxLen]; omega)); clear hO; (try clear hF); intro _ _ _ _ hS hO; ((try simp only [List.nil_append, List.append_nil] at hO); have hF := Own.cells hO; simp only [cellsOf_append, cellsOf_pt] at hF); simp only [Act.put, List.setIfInBounds_toArray, List.set_cons_zero, List.set_cons_succ])) | (refine own_store (v := ?_) (b := d) (off := 5) hO ?_ ?_ ?_ ?_ ?_ ?_ ?_; rotate_left; (· rfl); (· ((conv => lhs; whnf); try exact rfl)); (· ((conv => lhs; whnf); try exact rfl)); (· simp [Value.cells]); (· simp [Value.cells, Value.oneCell']); (· simp [Value.cells, dcells]); clear hO; (try clear hF); intro _ hO; (try simp only [splice, Value.cells] at hO); ((try simp only [List.nil_append, List.append_nil] at hO); have hF := Own.cells hO; simp only [cellsOf_append, cellsOf_pt] at hF); simp only [Act.put, List.setIfInBounds_toArray, List.set_cons_zero, List.set_cons_succ]))
  go_ret
  simp only [dcells_set5] at hO
  exact ⟨rfl, _, DiskAt.step_put hok hr hf hS hA', Own_putFile hO hk⟩

end Go.Proofs.Ytkkeplobomncgaa
