/- vestibulelaw08: SorterNobody. -/
import Derived.Test.YtnfclieaendgeaaSrt8
set_option linter.all false
namespace Go.Proofs.Ytnfclieaendgeaa
open Go Go.RowKit Go.Own Go.Hp

/-- No sorter, or one that nobody made. -/
def NoS (p : Option Addr) (A : Fr) : Prop := (p = none ∧ A = []) ∨ ∃ b, p = some ⟨b, 0, none⟩ ∧ A = pt b (.cells #[.int .i64 0, .slice none 0 0, .slice none 0 0, .bool false] 67 (0, 0))

set_option maxRecDepth 100000 in
set_option maxHeartbeats 16000000 in
theorem nTaking (E w : World) (X R A : Fr) (p : Option Addr) (hA : NoS p A) (hO : Own E w X) [hp : Pick X A R] :
    Calls Try.prog 54 #[.pointer p] w fun e w' => e = .returned (.int .i64 1) ∧ w = w' := by
  replace hO := hO.perm hp.perm
  rcases hA with ⟨rfl, rfl⟩ | ⟨b, rfl, rfl⟩
  · go_enter Try.func54, Try.ntmps54
    go_wp2
    go_ret
    exact ⟨rfl, rfl⟩
  · ((try simp only [List.nil_append, List.append_nil] at hO); have hF := Own.cells hO; simp only [cellsOf_append, cellsOf_pt] at hF)
    go_enter Try.func54, Try.ntmps54
    go_wp2
    go_ret
    exact ⟨rfl, rfl⟩
set_option maxRecDepth 100000 in
set_option maxHeartbeats 16000000 in
theorem nAdd (E w : World) (X R A : Fr) (p : Option Addr) (x : ByteArray) (hA : NoS p A) (hO : Own E w X) [hp : Pick X A R] :
    Calls Try.prog 34 #[.pointer p, .string x] w fun e w' => e = .returned (.int .i64 1) ∧ w = w' := by
  go_enter Try.func34, Try.ntmps34
  go_wp2_with fail
  refine (nTaking E _ X R A p hA hO).mono ?_
  rintro e w1 ⟨rfl, rfl⟩
  go_wp2_with fail
  go_ret
  exact ⟨rfl, rfl⟩
set_option maxRecDepth 100000 in
set_option maxHeartbeats 16000000 in
theorem nSorted (E w : World) (X R A : Fr) (p : Option Addr) (hA : NoS p A) (hO : Own E w X) [hp : Pick X A R] :
    Calls Try.prog 35 #[.pointer p] w fun e w' => e = .returned (.tuple #[.slice none 0 0, .int .i64 1]) ∧ w = w' := by
  go_enter Try.func35, Try.ntmps35
  go_wp2_with fail
  refine (nTaking E _ X R A p hA hO).mono ?_
  rintro e w1 ⟨rfl, rfl⟩
  go_wp2_with fail
  go_ret2
  exact ⟨rfl, rfl⟩
set_option maxRecDepth 100000 in
set_option maxHeartbeats 16000000 in
theorem nRuns (E w : World) (X R A : Fr) (p : Option Addr) (hA : NoS p A) (hO : Own E w X) [hp : Pick X A R] :
    Calls Try.prog 36 #[.pointer p] w fun e w' => e = .returned (.int .i64 0) ∧ w = w' := by
  replace hO := hO.perm hp.perm
  rcases hA with ⟨rfl, rfl⟩ | ⟨b, rfl, rfl⟩
  · go_enter Try.func36, Try.ntmps36
    go_wp2
    go_ret
    exact ⟨rfl, rfl⟩
  · ((try simp only [List.nil_append, List.append_nil] at hO); have hF := Own.cells hO; simp only [cellsOf_append, cellsOf_pt] at hF)
    go_enter Try.func36, Try.ntmps36
    go_wp2
    go_ret
    exact ⟨rfl, rfl⟩

theorem sltSorters : SlT Try.prog 68 59 1 8 (.pointer none) := ⟨by kernel_rfl, by kernel_rfl, rfl⟩
set_option maxRecDepth 100000 in
set_option maxHeartbeats 16000000 in
theorem lawNobody8 (E w : World) (R : Fr) (x : ByteArray) (hO : Own E w R) :
    Calls Try.prog 13 #[.string x] w fun e w' => e = .returned (.bool true) ∧ Own E w' R := by
  go_enter Try.func13, Try.ntmps13
  go_wp2_with (first | (refine at_box ?_; go_must (refine own_box (v := ?_) hO ?_ ?_ ?_; rotate_left; (· rfl); (· ((conv => lhs; whnf); try exact rfl)); clear hO; (try clear hF); intro b _ hO; (try simp only [Value.cells] at hO); ((try simp only [List.nil_append, List.append_nil] at hO); have hF := Own.cells hO; simp only [cellsOf_append, cellsOf_pt] at hF); simp only [Act.put, List.setIfInBounds_toArray, List.set_cons_zero, List.set_cons_succ])) | (refine at_bs ?_; go_must (refine own_buildN (cells := ?_) sltSorters hO ?_ ?_ ?_ ?_ ?_ ?_; rotate_left; (· rfl); (· decide); (· decide); (· rfl); (· simp [Instr.fill, Act.eval, Value.cells, Array.replicate_succ]; exact rfl); clear hO; (try clear hF); intro s _ hO; ((try simp only [List.nil_append, List.append_nil] at hO); have hF := Own.cells hO; simp only [cellsOf_append, cellsOf_pt] at hF); simp only [Act.put, List.setIfInBounds_toArray, List.set_cons_zero, List.set_cons_succ])))
  have hO1 := hO.as (pt s (.cells #[.pointer none, .pointer (some ⟨b, 0, none⟩)] 59 (0, 0)) ++ (pt b (.cells #[.int .i64 0, .slice none 0 0, .slice none 0 0, .bool false] 67 (0, 0)) ++ R))
  clear hO hF
  go_loopw [4] (fun s4 wr => ∃ (i : Nat), s4 = .int .i64 i ∧ i ≤ 2 ∧ Own E wr (pt s (.cells #[.pointer none, .pointer (some ⟨b, 0, none⟩)] 59 (0, 0)) ++ (pt b (.cells #[.int .i64 0, .slice none 0 0, .slice none 0 0, .bool false] 67 (0, 0)) ++ R))) (fun s4 _ => 2 - (intOf s4).toNat)
  case atStart => exact ⟨0, rfl, by omega, hO1⟩
  case round =>
    clear hO1
    obtain ⟨i, rfl, hi, hO⟩ := hrel
    have key : ∀ (p : Option Addr) (A : Fr), NoS p A → True := fun _ _ _ => trivial
    ((try simp only [List.nil_append, List.append_nil] at hO); have hF := Own.cells hO; simp only [cellsOf_append, cellsOf_pt] at hF)
    match i, hi with
    | 0, _ =>
      have hN : NoS none [] := .inl ⟨rfl, rfl⟩
      go_wp2_with (first
        | (go_at_call 35; go_must (refine (nSorted E _ _ _ [] none hN hO).mono ?_; rintro e w4 ⟨rfl, rfl⟩))
        | (go_at_call 34; go_must (refine (nAdd E _ _ _ [] none x hN hO).mono ?_; rintro e w4 ⟨rfl, rfl⟩))
        | (go_at_call 36; go_must (refine (nRuns E _ _ _ [] none hN hO).mono ?_; rintro e w4 ⟨rfl, rfl⟩)))
      go_roundw
      case rel => exact ⟨1, by go_num, by omega, hO⟩
      case measure => simp [intOf]
    | 1, _ =>
      have hN : NoS (some ⟨b, 0, none⟩) (pt b (.cells #[.int .i64 0, .slice none 0 0, .slice none 0 0, .bool false] 67 (0, 0))) := .inr ⟨b, rfl, rfl⟩
      go_wp2_with (first
        | (go_at_call 35; go_must (refine (nSorted E _ _ _ _ _ hN hO).mono ?_; rintro e w4 ⟨rfl, rfl⟩))
        | (go_at_call 34; go_must (refine (nAdd E _ _ _ _ _ x hN hO).mono ?_; rintro e w4 ⟨rfl, rfl⟩))
        | (go_at_call 36; go_must (refine (nRuns E _ _ _ _ _ hN hO).mono ?_; rintro e w4 ⟨rfl, rfl⟩)))
      go_roundw
      case rel => exact ⟨2, by go_num, by omega, hO⟩
      case measure => simp [intOf]
    | 2, _ =>
      go_wp2_with (first | (go_at_call 16; go_must (refine (awake8 E _ _ hO).mono ?_; clear hO hF; rintro e w4 ⟨rfl, hO⟩)))
      go_ret
      exact ⟨rfl, hO.as _⟩
end Go.Proofs.Ytnfclieaendgeaa
