/- Contracts of the document's disk: Write. -/
import Derived.Test.YtkkeplobomncgaaRef1
set_option linter.all false
namespace Go.Proofs.Ytkkeplobomncgaa
open Go Go.RowKit Go.Own Go.Dk

def lenV : Value → Nat
  | .slice _ n _ => n
  | _ => 0

/-- What stands in the list behind j of the letters of t. -/
def ovl (l : List UInt8) (p : Nat) (t : List UInt8) (j : Nat) : List UInt8 := l.take p ++ t.take j ++ l.drop (p + j)
theorem ovl_length (l : List UInt8) (p : Nat) (t : List UInt8) (j : Nat) (hj : j ≤ t.length) (hp : p + t.length ≤ l.length) : (ovl l p t j).length = l.length := by
  simp only [ovl, List.length_append, List.length_take, List.length_drop]; omega
theorem ovl_zero (l : List UInt8) (p : Nat) (t : List UInt8) : ovl l p t 0 = l := by simp [ovl]
theorem ovl_all (l : List UInt8) (p : Nat) (t : List UInt8) : ovl l p t t.length = l.take p ++ t ++ l.drop (p + t.length) := by simp [ovl]
theorem ovl_get (l : List UInt8) (p : Nat) (t : List UInt8) (j : Nat) (hj : j ≤ t.length) (hp : p + t.length ≤ l.length) (i : Nat) :
    (ovl l p t j)[i]? = if i < p then l[i]? else if i < p + j then t[i - p]? else l[i]? := by
  have h1 : (l.take p).length = p := by rw [List.length_take]; omega
  have h2 : (t.take j).length = j := by rw [List.length_take]; omega
  simp only [ovl, List.getElem?_append, List.length_append, h1, h2]
  by_cases a : i < p
  · rw [if_pos (by omega), if_pos a, if_pos a, List.getElem?_take_of_lt a]
  · by_cases b : i < p + j
    · rw [if_pos b, if_neg a, if_neg a, if_pos b, List.getElem?_take_of_lt (by omega)]
    · rw [if_neg b, if_neg a, if_neg b, List.getElem?_drop]
      congr 1; omega
theorem ovl_step (l : List UInt8) (p : Nat) (t : List UInt8) (j : Nat) (hj : j < t.length) (hp : p + t.length ≤ l.length) : (ovl l p t j).set (p + j) t[j] = ovl l p t (j + 1) := by
  apply List.ext_getElem?
  intro i
  have hl : (ovl l p t j).length = l.length := by simp only [ovl, List.length_append, List.length_take, List.length_drop]; omega
  rw [List.getElem?_set, ovl_get l p t (j + 1) (by omega) hp, ovl_get l p t j (by omega) hp, hl]
  by_cases a : p + j = i
  · subst a
    rw [if_pos rfl, if_pos (by omega), if_neg (by omega), if_pos (by omega)]
    simp [hj]
  · rw [if_neg a]
    by_cases b : i < p
    · rw [if_pos b, if_pos b]
    · rw [if_neg b, if_neg b]
      by_cases c : i < p + j
      · rw [if_pos c, if_pos (by omega)]
      · rw [if_neg c, if_neg (by omega)]

theorem set_byte (L : List UInt8) (rest : List Value) (i : Nat) (hi : i < L.length) (t : ByteArray) (m : Nat) (hm : m < t.size) (hm' : m < t.data.toList.length) :
    splice (bytesV L ++ rest).toArray i (Value.cells (.int .u8 (t[m].toNat : Int))).toList = (bytesV (L.set i t.data.toList[m]) ++ rest).toArray := by
  simp only [Value.cells, splice, List.setIfInBounds_toArray]
  rw [List.set_append_left _ _ (by rw [bytesV_length]; exact hi)]
  simp only [bytesV, List.map_set]
  rfl

set_option maxRecDepth 100000 in
set_option maxHeartbeats 4000000 in
theorem rWrite_bad (E w : World) (X R I : Fr) (rs : List Raw) (q : Value) (file at_ : Int) (t : ByteArray) (hs : t.size ≤ maxLen) (hq : RefAt q rs I) (hO : Own E w X) [hp : Pick X I R]
    (h : ¬ (fileOk file = true ∧ 0 ≤ at_ ∧ at_ ≤ 4194304 ∧ (t.size : Int) ≤ 4194304 - at_)) :
    Calls Try.prog 24 #[q, .int .i64 file, .int .i64 at_, .string t] w (RP E rs 1 I R) := by
  have hO0 := hO.perm hp.perm
  clear hp hO
  have hO := hO0
  clear hO0
  unfold maxLen at hs
  obtain ⟨fa, fc, rfl, hr⟩ := hq
  have hz := zeroRef
  by_cases h1 : fileOk file = true
  case neg =>
    clear h
    rcases fileOk_no h1 with h0 | h0
    · go_enter Try.func24, Try.ntmps24
      (go_wp2_with (first | (refine at_box ?_; go_must (refine own_box (v := ?_) hO ?_ ?_ ?_; rotate_left; (· rfl); (· ((conv => lhs; whnf); try exact rfl)); clear hO; (try clear hF); intro _ _ hO; (try simp only [Value.cells] at hO); ((try simp only [List.nil_append, List.append_nil] at hO); have hF := Own.cells hO; simp only [cellsOf_append, cellsOf_pt] at hF); simp only [Act.put, List.setIfInBounds_toArray, List.set_cons_zero, List.set_cons_succ])) | (refine at_alloc ?_; go_must (refine own_alloc (z := ?_) hO ?_ ?_ ?_; rotate_left; (· rfl); (· exact hz _); clear hO; (try clear hF); intro _ _ hO; (try simp only [Value.cells] at hO); ((try simp only [List.nil_append, List.append_nil] at hO); have hF := Own.cells hO; simp only [cellsOf_append, cellsOf_pt] at hF); simp only [Act.put, List.setIfInBounds_toArray, List.set_cons_zero, List.set_cons_succ])) | (refine at_load ?_; refine own_loadS (b := ?_) (cs := ?_) (e := ?_) (f := ?_) hO ?_ ?_ ?_ ?_ ?_ ?_; rotate_left 4; (· rfl); (· rfl); (· exact inferInstance); (· simp; done); (· simp [rcells]; done); simp only [Act.put, List.setIfInBounds_toArray, List.set_cons_zero, List.set_cons_succ]) | (refine at_store ?_; refine own_storeS (b := ?_) (cs := ?_) (cs' := ?_) (e := ?_) (R := ?_) hO ?_ ?_ ?_ ?_ ?_ ?_ ?_ ?_; rotate_left 5; (· rfl); (· rfl); (· ((conv => lhs; whnf); try exact rfl)); (· exact inferInstance); (· simp [rcells]; done); (· refine rcells_one _ _ ?_ rfl; intro i; first | rfl | (simp only [upd]; split <;> rfl)); (· simp [rcells]; done); clear hO; (try clear hF); intro _ hO; ((try simp only [List.nil_append, List.append_nil] at hO); have hF := Own.cells hO; simp only [cellsOf_append, cellsOf_pt] at hF); simp only [Act.put, List.setIfInBounds_toArray, List.set_cons_zero, List.set_cons_succ]))); (all_goals (refine bodyPost_ret (results_cell_tmp_own (t := 28) (b := _) (cs := _) (e := _) (f := _) rfl hO (by exact rfl) (by exact rfl) (by exact inferInstance) (by simp) (by simp [rcells])) rfl ?_; exact ⟨_, [], rfl, ⟨fa, fc, rfl, hr⟩, hO.as _⟩))
    · have h0' : 0 ≤ file := by omega
      go_enter Try.func24, Try.ntmps24
      (go_wp2_with (first | (refine at_box ?_; go_must (refine own_box (v := ?_) hO ?_ ?_ ?_; rotate_left; (· rfl); (· ((conv => lhs; whnf); try exact rfl)); clear hO; (try clear hF); intro _ _ hO; (try simp only [Value.cells] at hO); ((try simp only [List.nil_append, List.append_nil] at hO); have hF := Own.cells hO; simp only [cellsOf_append, cellsOf_pt] at hF); simp only [Act.put, List.setIfInBounds_toArray, List.set_cons_zero, List.set_cons_succ])) | (refine at_alloc ?_; go_must (refine own_alloc (z := ?_) hO ?_ ?_ ?_; rotate_left; (· rfl); (· exact hz _); clear hO; (try clear hF); intro _ _ hO; (try simp only [Value.cells] at hO); ((try simp only [List.nil_append, List.append_nil] at hO); have hF := Own.cells hO; simp only [cellsOf_append, cellsOf_pt] at hF); simp only [Act.put, List.setIfInBounds_toArray, List.set_cons_zero, List.set_cons_succ])) | (refine at_load ?_; refine own_loadS (b := ?_) (cs := ?_) (e := ?_) (f := ?_) hO ?_ ?_ ?_ ?_ ?_ ?_; rotate_left 4; (· rfl); (· rfl); (· exact inferInstance); (· simp; done); (· simp [rcells]; done); simp only [Act.put, List.setIfInBounds_toArray, List.set_cons_zero, List.set_cons_succ]) | (refine at_store ?_; refine own_storeS (b := ?_) (cs := ?_) (cs' := ?_) (e := ?_) (R := ?_) hO ?_ ?_ ?_ ?_ ?_ ?_ ?_ ?_; rotate_left 5; (· rfl); (· rfl); (· ((conv => lhs; whnf); try exact rfl)); (· exact inferInstance); (· simp [rcells]; done); (· refine rcells_one _ _ ?_ rfl; intro i; first | rfl | (simp only [upd]; split <;> rfl)); (· simp [rcells]; done); clear hO; (try clear hF); intro _ hO; ((try simp only [List.nil_append, List.append_nil] at hO); have hF := Own.cells hO; simp only [cellsOf_append, cellsOf_pt] at hF); simp only [Act.put, List.setIfInBounds_toArray, List.set_cons_zero, List.set_cons_succ]))); (all_goals (refine bodyPost_ret (results_cell_tmp_own (t := 28) (b := _) (cs := _) (e := _) (f := _) rfl hO (by exact rfl) (by exact rfl) (by exact inferInstance) (by simp) (by simp [rcells])) rfl ?_; exact ⟨_, [], rfl, ⟨fa, fc, rfl, hr⟩, hO.as _⟩))
  obtain ⟨k, rfl, hk⟩ := fileOk_of h1
  have hk1 : (k : Int) < 4 := by omega
  have hk2 : (0 : Int) ≤ k := by omega
  by_cases h2 : 0 ≤ at_
  case neg =>
    clear h
    · go_enter Try.func24, Try.ntmps24
      (go_wp2_with (first | (refine at_box ?_; go_must (refine own_box (v := ?_) hO ?_ ?_ ?_; rotate_left; (· rfl); (· ((conv => lhs; whnf); try exact rfl)); clear hO; (try clear hF); intro _ _ hO; (try simp only [Value.cells] at hO); ((try simp only [List.nil_append, List.append_nil] at hO); have hF := Own.cells hO; simp only [cellsOf_append, cellsOf_pt] at hF); simp only [Act.put, List.setIfInBounds_toArray, List.set_cons_zero, List.set_cons_succ])) | (refine at_alloc ?_; go_must (refine own_alloc (z := ?_) hO ?_ ?_ ?_; rotate_left; (· rfl); (· exact hz _); clear hO; (try clear hF); intro _ _ hO; (try simp only [Value.cells] at hO); ((try simp only [List.nil_append, List.append_nil] at hO); have hF := Own.cells hO; simp only [cellsOf_append, cellsOf_pt] at hF); simp only [Act.put, List.setIfInBounds_toArray, List.set_cons_zero, List.set_cons_succ])) | (refine at_load ?_; refine own_loadS (b := ?_) (cs := ?_) (e := ?_) (f := ?_) hO ?_ ?_ ?_ ?_ ?_ ?_; rotate_left 4; (· rfl); (· rfl); (· exact inferInstance); (· simp; done); (· simp [rcells]; done); simp only [Act.put, List.setIfInBounds_toArray, List.set_cons_zero, List.set_cons_succ]) | (refine at_store ?_; refine own_storeS (b := ?_) (cs := ?_) (cs' := ?_) (e := ?_) (R := ?_) hO ?_ ?_ ?_ ?_ ?_ ?_ ?_ ?_; rotate_left 5; (· rfl); (· rfl); (· ((conv => lhs; whnf); try exact rfl)); (· exact inferInstance); (· simp [rcells]; done); (· refine rcells_one _ _ ?_ rfl; intro i; first | rfl | (simp only [upd]; split <;> rfl)); (· simp [rcells]; done); clear hO; (try clear hF); intro _ hO; ((try simp only [List.nil_append, List.append_nil] at hO); have hF := Own.cells hO; simp only [cellsOf_append, cellsOf_pt] at hF); simp only [Act.put, List.setIfInBounds_toArray, List.set_cons_zero, List.set_cons_succ]))); (all_goals (refine bodyPost_ret (results_cell_tmp_own (t := 28) (b := _) (cs := _) (e := _) (f := _) rfl hO (by exact rfl) (by exact rfl) (by exact inferInstance) (by simp) (by simp [rcells])) rfl ?_; exact ⟨_, [], rfl, ⟨fa, fc, rfl, hr⟩, hO.as _⟩))
  by_cases h3 : at_ ≤ 4194304
  case neg =>
    clear h
    · go_enter Try.func24, Try.ntmps24
      (go_wp2_with (first | (refine at_box ?_; go_must (refine own_box (v := ?_) hO ?_ ?_ ?_; rotate_left; (· rfl); (· ((conv => lhs; whnf); try exact rfl)); clear hO; (try clear hF); intro _ _ hO; (try simp only [Value.cells] at hO); ((try simp only [List.nil_append, List.append_nil] at hO); have hF := Own.cells hO; simp only [cellsOf_append, cellsOf_pt] at hF); simp only [Act.put, List.setIfInBounds_toArray, List.set_cons_zero, List.set_cons_succ])) | (refine at_alloc ?_; go_must (refine own_alloc (z := ?_) hO ?_ ?_ ?_; rotate_left; (· rfl); (· exact hz _); clear hO; (try clear hF); intro _ _ hO; (try simp only [Value.cells] at hO); ((try simp only [List.nil_append, List.append_nil] at hO); have hF := Own.cells hO; simp only [cellsOf_append, cellsOf_pt] at hF); simp only [Act.put, List.setIfInBounds_toArray, List.set_cons_zero, List.set_cons_succ])) | (refine at_load ?_; refine own_loadS (b := ?_) (cs := ?_) (e := ?_) (f := ?_) hO ?_ ?_ ?_ ?_ ?_ ?_; rotate_left 4; (· rfl); (· rfl); (· exact inferInstance); (· simp; done); (· simp [rcells]; done); simp only [Act.put, List.setIfInBounds_toArray, List.set_cons_zero, List.set_cons_succ]) | (refine at_store ?_; refine own_storeS (b := ?_) (cs := ?_) (cs' := ?_) (e := ?_) (R := ?_) hO ?_ ?_ ?_ ?_ ?_ ?_ ?_ ?_; rotate_left 5; (· rfl); (· rfl); (· ((conv => lhs; whnf); try exact rfl)); (· exact inferInstance); (· simp [rcells]; done); (· refine rcells_one _ _ ?_ rfl; intro i; first | rfl | (simp only [upd]; split <;> rfl)); (· simp [rcells]; done); clear hO; (try clear hF); intro _ hO; ((try simp only [List.nil_append, List.append_nil] at hO); have hF := Own.cells hO; simp only [cellsOf_append, cellsOf_pt] at hF); simp only [Act.put, List.setIfInBounds_toArray, List.set_cons_zero, List.set_cons_succ]))); (all_goals (refine bodyPost_ret (results_cell_tmp_own (t := 28) (b := _) (cs := _) (e := _) (f := _) rfl hO (by exact rfl) (by exact rfl) (by exact inferInstance) (by simp) (by simp [rcells])) rfl ?_; exact ⟨_, [], rfl, ⟨fa, fc, rfl, hr⟩, hO.as _⟩))
  have h4 : (4194304 : Int) - at_ < t.size := by
    rcases Int.lt_or_le (4194304 - at_) t.size with h4 | h4
    · exact h4
    · exact absurd ⟨h1, h2, h3, h4⟩ h
  clear h
  · go_enter Try.func24, Try.ntmps24
    (go_wp2_with (first | (refine at_box ?_; go_must (refine own_box (v := ?_) hO ?_ ?_ ?_; rotate_left; (· rfl); (· ((conv => lhs; whnf); try exact rfl)); clear hO; (try clear hF); intro _ _ hO; (try simp only [Value.cells] at hO); ((try simp only [List.nil_append, List.append_nil] at hO); have hF := Own.cells hO; simp only [cellsOf_append, cellsOf_pt] at hF); simp only [Act.put, List.setIfInBounds_toArray, List.set_cons_zero, List.set_cons_succ])) | (refine at_alloc ?_; go_must (refine own_alloc (z := ?_) hO ?_ ?_ ?_; rotate_left; (· rfl); (· exact hz _); clear hO; (try clear hF); intro _ _ hO; (try simp only [Value.cells] at hO); ((try simp only [List.nil_append, List.append_nil] at hO); have hF := Own.cells hO; simp only [cellsOf_append, cellsOf_pt] at hF); simp only [Act.put, List.setIfInBounds_toArray, List.set_cons_zero, List.set_cons_succ])) | (refine at_load ?_; refine own_loadS (b := ?_) (cs := ?_) (e := ?_) (f := ?_) hO ?_ ?_ ?_ ?_ ?_ ?_; rotate_left 4; (· rfl); (· rfl); (· exact inferInstance); (· simp; done); (· simp [rcells]; done); simp only [Act.put, List.setIfInBounds_toArray, List.set_cons_zero, List.set_cons_succ]) | (refine at_store ?_; refine own_storeS (b := ?_) (cs := ?_) (cs' := ?_) (e := ?_) (R := ?_) hO ?_ ?_ ?_ ?_ ?_ ?_ ?_ ?_; rotate_left 5; (· rfl); (· rfl); (· ((conv => lhs; whnf); try exact rfl)); (· exact inferInstance); (· simp [rcells]; done); (· refine rcells_one _ _ ?_ rfl; intro i; first | rfl | (simp only [upd]; split <;> rfl)); (· simp [rcells]; done); clear hO; (try clear hF); intro _ hO; ((try simp only [List.nil_append, List.append_nil] at hO); have hF := Own.cells hO; simp only [cellsOf_append, cellsOf_pt] at hF); simp only [Act.put, List.setIfInBounds_toArray, List.set_cons_zero, List.set_cons_succ]))); (all_goals (refine bodyPost_ret (results_cell_tmp_own (t := 28) (b := _) (cs := _) (e := _) (f := _) rfl hO (by exact rfl) (by exact rfl) (by exact inferInstance) (by simp) (by simp [rcells])) rfl ?_; exact ⟨_, [], rfl, ⟨fa, fc, rfl, hr⟩, hO.as _⟩))

set_option maxRecDepth 100000 in
set_option maxHeartbeats 4000000 in
theorem rWrite_ok (E w : World) (X R I : Fr) (rs : List Raw) (q : Value) (k p : Nat) (t : ByteArray) (hq : RefAt q rs I) (hlen : rs.length ≤ 8796093022208) (hok : OkL rs) (hO : Own E w X) [hp : Pick X I R]
    (hk : k < 4) (hpt : p + t.size ≤ 4194304) :
    Calls Try.prog 24 #[q, .int .i64 k, .int .i64 p, .string t] w (RP E (rs ++ [.put k p t]) 0 I R) := by
  have hO0 := hO.perm hp.perm
  clear hp hO
  have hO := hO0
  clear hO0
  obtain ⟨fa, fc, rfl, hr⟩ := hq
  have hz := zeroRef
  have hk1 : (k : Int) < 4 := by omega
  have hk2 : (0 : Int) ≤ k := by omega
  have hget := rcells_get (fileVs fa (play rs) fc) (.int .i64 rs.length) k hk
  have hfv : fileVs fa (play rs) fc k = .slice (fa k) (play rs k).length (fc k) := rfl
  rw [hfv] at hget
  have hpl := play_le hok k
  have hrk := hr k hk
  have hfl : ((play rs k).length : Int) ≤ fc k := by have := hrk.1; omega
  have hl4 : (rs.length : Int) ≤ 8796093022208 := by omega
  have hp1 : (p : Int) ≤ 4194304 := by omega
  have hp2 : (t.size : Int) ≤ 4194304 - p := by omega
  have hp3 : (0 : Int) ≤ p := by omega
  have hH : Hid (∀ w', Own E w' (I ++ R) → (Builtin.firstCells 1 (play rs k).length (.slice (fa k) (play rs k).length (fc k))).run Try.prog w' = .ok (bytesV (play rs k)).toArray w') := fun w' hO' => by
    have := hrk.first (P := Try.prog) hO' (play rs k).length (Nat.le_refl _)
    rwa [List.take_length] at this
  clear hfv
  go_enter Try.func24, Try.ntmps24
  go_wp2_with (first | (refine at_box ?_; go_must (refine own_box (v := ?_) hO ?_ ?_ ?_; rotate_left; (· rfl); (· ((conv => lhs; whnf); try exact rfl)); clear hO; (try clear hF); intro b1 _ hO; (try simp only [Value.cells] at hO); ((try simp only [List.nil_append, List.append_nil] at hO); have hF := Own.cells hO; simp only [cellsOf_append, cellsOf_pt] at hF); simp only [Act.put, List.setIfInBounds_toArray, List.set_cons_zero, List.set_cons_succ])) | (refine at_alloc ?_; go_must (refine own_alloc (z := ?_) hO ?_ ?_ ?_; rotate_left; (· rfl); (· exact hz _); clear hO; (try clear hF); intro b2 _ hO; (try simp only [Value.cells] at hO); ((try simp only [List.nil_append, List.append_nil] at hO); have hF := Own.cells hO; simp only [cellsOf_append, cellsOf_pt] at hF); simp only [Act.put, List.setIfInBounds_toArray, List.set_cons_zero, List.set_cons_succ])) | (refine at_append ?_; go_must (refine own_append_new (xv := ?_) (m := (play rs k).length) (news := bytesV (play rs k)) sltBytes (.inl (by kernel_rfl)) hO ?_ ?_ ?_ ?_ ?_ ?_ ?_ ?_ ?_ ?_; rotate_left; (· rfl); (· rfl); (· ((conv => lhs; whnf); try exact rfl)); (· intro w; simp [Builtin.lenOf]); (· intro w' hO'; exact hH.out w' (hO'.as _)); (· rw [bytesV_length]; omega); (· exact bytesV_one _); (· simp only [maxLen]; omega); (· omega); clear hO; (try clear hF); intro a1 c1 A1 w1 hS hO; ((try simp only [List.nil_append, List.append_nil] at hO); have hF := Own.cells hO; simp only [cellsOf_append, cellsOf_pt] at hF); simp only [Act.put, List.setIfInBounds_toArray, List.set_cons_zero, List.set_cons_succ])))
  clear hF hget hH
  have hS0 := hS
  clear hS
  obtain ⟨nd, hnd⟩ : ∃ nd, nd = p + t.size - (play rs k).length := ⟨_, rfl⟩
  have hnd1 : nd ≤ 4194304 := by omega
  have HND : Hid (nd = p + t.size - (play rs k).length) := hnd
  clear hnd
  go_loopw [10] (fun v wr => ∃ (a : Option Addr) (c : Nat) (A : Fr) (j : Nat), v = .slice a ((play rs k).length + j) c ∧ j ≤ nd ∧ Sl 5 1 a ((play rs k).length + j) c (bytesV (play rs k ++ List.replicate j 0)) A ∧
      Own E wr (A ++ (pt b2 (.cells (rcells (fun _ => .slice none 0 0) (.int .i64 0)) 28) ++ (pt b1 (.cells (rcells (fileVs fa (play rs) fc) (.int .i64 rs.length)) 28) ++ (I ++ R))))) (fun v _ => p + t.size - lenV v)
  case atStart => exact ⟨a1, c1, A1, 0, rfl, by omega, by simpa using hS0, hO.as _⟩
  case round =>
    obtain ⟨a, c, A, j, rfl, hj, hS, hO⟩ := hrel
    have hnde := HND.out
    by_cases hlt : (play rs k).length + j < p + t.size
    · have hlt1 : ((play rs k).length : Int) + j < p + t.size := by omega
      have hj1 : (j : Int) ≤ 4194304 := by omega
      have hb1 : (play rs k).length + j ≤ 8388608 := by omega
      clear hnde
      go_wp2_with (first | (refine at_bs ?_; go_must (refine own_build1 (v := ?_) sltBytes hO ?_ ?_ ?_ ?_ ?_ ?_; rotate_left; (· rfl); (· ((conv => lhs; whnf); try exact rfl)); (· rfl); (· decide); (· decide); clear hO; (try clear hF); intro _ _ hO; (try simp only [Value.cells] at hO); ((try simp only [List.nil_append, List.append_nil] at hO); have hF := Own.cells hO; simp only [cellsOf_append, cellsOf_pt] at hF); simp only [Act.put, List.setIfInBounds_toArray, List.set_cons_zero, List.set_cons_succ])) | (refine at_append ?_; go_must (refine own_append_elem (b1 := ?_) (cs := ?_) (e1 := ?_) (f1 := ?_) sltBytes hO ?_ ?_ ?_ hS ?_ ?_ ?_ ?_ ?_ ?_ ?_; rotate_left 4; (· rfl); (· rfl); (· rfl); (· exact inferInstance); (· rfl); (· intro u hu; simp at hu; subst hu; rfl); (· first | omega | (simp only [maxLen]; omega)); (· decide); (· first | omega | (simp only [maxLen]; omega)); clear hO; (try clear hF); intro _ _ _ _ hS hO; ((try simp only [List.nil_append, List.append_nil] at hO); have hF := Own.cells hO; simp only [cellsOf_append, cellsOf_pt] at hF); simp only [Act.put, List.setIfInBounds_toArray, List.set_cons_zero, List.set_cons_succ])))
      go_roundw
      case rel =>
        have hnde := HND.out
        have e1 : bytesV (play rs k ++ List.replicate (j + 1) 0) = bytesV (play rs k ++ List.replicate j 0) ++ [Value.int .u8 0] := by
          rw [List.replicate_succ', ← List.append_assoc, bytesV_append]; rfl
        exact ⟨_, _, _, j + 1, rfl, by omega, by rw [e1]; exact hS, hO.as _⟩
      case measure => simp only [lenV]; omega
    · have hjn : j = nd := by omega
      have hn1 : (play rs k).length + j = max (play rs k).length (p + t.size) := by omega
      have hll : (play rs k ++ List.replicate j 0).length = (play rs k).length + j := by simp
      have hge : p + t.size ≤ (play rs k).length + j := by omega
      have hle2 : (play rs k).length + j ≤ 8388608 := by omega
      have hlt1 : ¬ ((play rs k).length : Int) + j < p + t.size := by omega
      obtain ⟨l1, hl1⟩ : ∃ l1, l1 = play rs k ++ List.replicate j 0 := ⟨_, rfl⟩
      have hov : over (play rs k) p t.data.toList = ovl l1 p t.data.toList t.size := by
        have hsz : t.data.toList.length = t.size := by rw [Array.length_toList]; rfl
        rw [show t.size = t.data.toList.length from hsz.symm, ovl_all, hl1]
        simp only [over, hsz]
        rw [show p + t.size - (play rs k).length = j by omega]
      rw [← hl1] at hS hll
      generalize hnn : (play rs k).length + j = n1 at *
      have HOV := Lib.hid hov
      have HNN := Lib.hid hnn
      have HLL := Lib.hid hll
      have HN1 := Lib.hid hn1
      clear hov hnn hll hn1 hl1 hnde hjn HND
      have hge1 : (p : Int) + t.size ≤ n1 := by omega
      have hle3 : (n1 : Int) ≤ 8388608 := by omega
      have hsz : t.data.toList.length = t.size := by rw [Array.length_toList]; rfl
      have HSZ := Lib.hid hsz
      clear hsz
      go_wp2_with fail
      go_loopw [11] (fun i wr => ∃ (m : Nat) (A : Fr), i = .int .i64 m ∧ m ≤ t.size ∧ Sl 5 1 a n1 c (bytesV (ovl l1 p t.data.toList m)) A ∧
        Own E wr (A ++ (pt b2 (.cells (rcells (fun _ => .slice none 0 0) (.int .i64 0)) 28) ++ (pt b1 (.cells (rcells (fileVs fa (play rs) fc) (.int .i64 rs.length)) 28) ++ (I ++ R))))) (fun i _ => t.size - (intOf i).toNat)
      case atStart => exact ⟨0, A, rfl, by omega, by rw [ovl_zero]; exact hS, hO.as _⟩
      case round =>
        clear hS hO
        obtain ⟨m, A, rfl, hm, hS, hO⟩ := hrel
        by_cases hlt : m < t.size
        · have hlt2 : (m : Int) < t.size := by omega
          have hm0 : (0 : Int) ≤ m := by omega
          have hpm : (p : Int) + m < n1 := by omega
          rcases hS.2.2.2 with ⟨_, hc0, _⟩ | ⟨b, rest, rfl, hl4, rfl⟩
          · have := hS.2.1; omega
          have HL4 := Lib.hid hl4
          clear hl4
          ((try simp only [List.nil_append, List.append_nil] at hO); have hF := Own.cells hO; simp only [cellsOf_append, cellsOf_pt] at hF)
          go_wp2_with (first | (refine at_store ?_; refine Stop.go ?_))
          refine ⟨?_⟩
          refine own_storeG (b := ?_) (off := ?_) (v := ?_) (cs := ?_) (e := ?_) (R' := ?_) hO ?_ ?_ ?_ ?_ ?_ ?_ ?_ ?_; rotate_left 6
          · rfl
          · ((conv => lhs; whnf); try exact rfl)
          · ((conv => lhs; whnf); try exact rfl)
          · exact inferInstance
          · simp [Value.cells]
          · intro u hu; simp [Value.cells] at hu; subst hu; rfl
          · have hl4 := HL4.out
            have := hS.2.1
            simp only [List.size_toArray, hl4, Value.cells]
            simp; omega
          clear hO hF
          intro w1 hO
          have hsz := HSZ.out
          have hll := HLL.out
          have hvl : (ovl l1 p t.data.toList m).length = n1 := by rw [ovl_length _ _ _ _ (by omega) (by omega)]; omega
          have hm' : m < t.data.toList.length := by omega
          rw [set_byte _ _ _ (by omega) t m hlt hm', ovl_step _ _ _ _ hm' (by omega)] at hO
          have hS2 : Sl 5 1 (some ⟨b, 0, none⟩) n1 c (bytesV (ovl l1 p t.data.toList (m + 1))) (pt b (.cells (bytesV (ovl l1 p t.data.toList (m + 1)) ++ rest).toArray 5 (0, 0))) := by
            have hl4 := HL4.out
            have hvl2 : (ovl l1 p t.data.toList (m + 1)).length = n1 := by rw [ovl_length _ _ _ _ (by omega) (by omega)]; omega
            refine ⟨by rw [bytesV_length, hvl2]; omega, hS.2.1, hS.2.2.1, .inr ⟨b, rest, rfl, ?_, rfl⟩⟩
            simp only [List.length_append, bytesV_length, hvl, hvl2] at hl4 ⊢
            exact hl4
          clear hsz hll hvl
          simp only [Act.put, List.setIfInBounds_toArray, List.set_cons_zero, List.set_cons_succ]
          go_wp2
          go_roundw
          case rel => exact ⟨m + 1, _, by go_num, by omega, hS2, hO⟩
          case measure => simp [intOf]; omega
        · have hmt : m = t.size := by omega
          subst hmt
          rw [← HOV.out] at hS
          ((try simp only [List.nil_append, List.append_nil] at hO); have hF := Own.cells hO; simp only [cellsOf_append, cellsOf_pt] at hF)
          go_wp2_with (first | (refine at_load ?_; refine own_loadS (b := ?_) (cs := ?_) (e := ?_) (f := ?_) hO ?_ ?_ ?_ ?_ ?_ ?_; rotate_left 4; (· rfl); (· rfl); (· exact inferInstance); (· simp; done); (· simp [rcells]; done); simp only [Act.put, List.setIfInBounds_toArray, List.set_cons_zero, List.set_cons_succ]) | (refine at_store ?_; refine own_storeS (b := ?_) (cs := ?_) (cs' := ?_) (e := ?_) (R := ?_) hO ?_ ?_ ?_ ?_ ?_ ?_ ?_ ?_; rotate_left 5; (· rfl); (· rfl); (· ((conv => lhs; whnf); try exact rfl)); (· exact inferInstance); (· simp [rcells]; done); (· refine rcells_one _ _ ?_ rfl; intro i; first | rfl | (simp only [upd]; split <;> rfl)); (· simp [rcells]; done); clear hO; (try clear hF); intro _ hO; ((try simp only [List.nil_append, List.append_nil] at hO); have hF := Own.cells hO; simp only [cellsOf_append, cellsOf_pt] at hF); simp only [Act.put, List.setIfInBounds_toArray, List.set_cons_zero, List.set_cons_succ]) | (refine at_store ?_; refine own_storeG (b := ?_) (off := ?_) (v := ?_) (cs := ?_) (e := ?_) (R' := ?_) hO ?_ ?_ ?_ ?_ ?_ ?_ ?_ ?_; rotate_left 6; (· rfl); (· ((conv => lhs; whnf); try exact rfl)); (· ((conv => lhs; whnf); try exact rfl)); (· exact inferInstance); (· simp [Value.cells]; done); (· simp [Value.cells, Value.oneCell']; done); (· simp [Value.cells, rcells]; (try omega)); clear hO; (try clear hF); intro _ hO; (simp only [splice, Value.cells] at hO); simp only [rcells_set _ _ _ _ hk, rcells_set4] at hO; ((try simp only [List.nil_append, List.append_nil] at hO); have hF := Own.cells hO; simp only [cellsOf_append, cellsOf_pt] at hF); simp only [Act.put, List.setIfInBounds_toArray, List.set_cons_zero, List.set_cons_succ]))
          refine bodyPost_ret (results_cell_tmp_own (t := 28) (b := _) (cs := _) (e := _) (f := _) rfl hO (by exact rfl) (by exact rfl) (by exact inferInstance) (by simp) (by simp [rcells])) rfl ?_
          have hol : (over (play rs k) p t.data.toList).length = n1 := by
            have hsz := HSZ.out
            have := HN1.out
            rw [over_length, hsz]; omega
          rw [← hol] at hS hO ⊢
          exact ⟨_, A, rfl, RefAt.step_put hr hS, hO.as _⟩
end Go.Proofs.Ytkkeplobomncgaa
