/- Contracts of package disk: New, given, put.do, trim.do, does. -/
import Derived.Test.YtkkeplobomncgaaRows
import Derived.Test.YtkkeplobomncgaaDiskM
set_option linter.all false
namespace Go.Proofs.Ytkkeplobomncgaa
open Go Go.RowKit Go.Own Go.Dk

theorem sltBytes : SlT Try.prog 25 5 1 1 (.int .u8 0) := ⟨by kernel_rfl, by kernel_rfl, rfl⟩
theorem sltRaws : SlT Try.prog 50 96 1 16 .nilIface := ⟨by kernel_rfl, by kernel_rfl, rfl⟩

set_option maxRecDepth 100000 in
set_option maxHeartbeats 4000000 in
theorem dNew (E w : World) (X : Fr) (hO : Own E w X) :
    Calls Try.prog 15 #[] w fun e w' => ∃ d A, e = .returned (.pointer (some ⟨d, 0, none⟩)) ∧ DiskAt d [] A ∧ Own E w' (A ++ X) := by
  go_enter Try.func15, Try.ntmps15
  go_wp2_with ((refine at_box ?_; go_must (refine own_box (v := ?_) hO ?_ ?_ ?_; rotate_left; (· rfl); (· ((conv => lhs; whnf); try exact rfl)); clear hO; (try clear hF); intro _ _ hO; (try simp only [Value.cells] at hO); ((try simp only [List.nil_append, List.append_nil] at hO); have hF := Own.cells hO; simp only [cellsOf_append, cellsOf_pt] at hF); simp only [Act.put, List.setIfInBounds_toArray, List.set_cons_zero, List.set_cons_succ])))
  go_ret
  refine ⟨_, _, rfl, ⟨okL_nil, fun _ => none, fun _ => 0, fun _ => [], none, 0, [], rfl, fun k hk => Sl.nil _ _, Sl.nil _ _⟩, ?_⟩
  simpa [files, dcells, fileVs, play] using hO

set_option maxRecDepth 100000 in
set_option maxHeartbeats 4000000 in
theorem dGiven (b : Nat) (n : Int) (w : World) (hc : w.cell? ⟨b, 0, none⟩ = some (.bool true)) :
    Calls Try.prog 46 #[.pointer (some ⟨b, 0, none⟩), .int .i64 n] w fun e w' => e = .returned (.bool (fileOk n)) ∧ w = w' := by
  by_cases h0 : 0 ≤ n
  · by_cases h4 : n < 4
    · have hf : fileOk n = true := by simp [fileOk, h0, h4]
      rw [hf]
      go_enter Try.func46, Try.ntmps46
      go_wp2
      go_ret
      exact ⟨rfl, rfl⟩
    · have hf : fileOk n = false := by simp [fileOk, h4]
      rw [hf]
      go_enter Try.func46, Try.ntmps46
      go_wp2
      go_ret
      exact ⟨rfl, rfl⟩
  · have hf : fileOk n = false := by simp [fileOk, h0]
    rw [hf]
    go_enter Try.func46, Try.ntmps46
    go_wp2
    go_ret
    exact ⟨rfl, rfl⟩

/-- A disk that nobody made: the nil pointer, or a struct that New did not give. -/
def Nob (w : World) (v : Value) : Prop := v = .pointer none ∨ ∃ b, v = .pointer (some ⟨b, 0, none⟩) ∧ w.cell? ⟨b, 0, none⟩ = some (.bool false)

set_option maxRecDepth 100000 in
set_option maxHeartbeats 4000000 in
theorem dGiven_no (v : Value) (n : Int) (w : World) (h : Nob w v) :
    Calls Try.prog 46 #[v, .int .i64 n] w fun e w' => e = .returned (.bool false) ∧ w = w' := by
  rcases h with rfl | ⟨b, rfl, hc⟩
  · go_enter Try.func46, Try.ntmps46
    go_wp2
    go_ret
    exact ⟨rfl, rfl⟩
  · go_enter Try.func46, Try.ntmps46
    go_wp2
    go_ret
    exact ⟨rfl, rfl⟩
end Go.Proofs.Ytkkeplobomncgaa
