/- The log's contracts: nobody's log. -/
import Derived.Test.YtkkeplobomncgaaLog2
set_option linter.all false
namespace Go.Proofs.Ytkkeplobomncgaa
open Go Go.RowKit Go.Own Go.Dk

/-- A pointer to no log: nil, or a log without a disk. -/
def NoLog (v : Value) (w : World) : Prop := v = .pointer none ∨ ∃ l, v = .pointer (some ⟨l, 0, none⟩) ∧ w.cell? ⟨l, 0, none⟩ = some (.pointer none)

set_option maxRecDepth 100000 in
set_option maxHeartbeats 4000000 in
theorem lAppend_no (w : World) (v : Value) (t : ByteArray) (h : NoLog v w) : Calls Try.prog 29 #[v, .string t] w fun e w' => e = .returned (.int .i64 1) ∧ w = w' := by
  rcases h with rfl | ⟨l, rfl, hl⟩
  · go_enter Try.func29, Try.ntmps29
    go_wp2
    go_ret
    exact ⟨rfl, rfl⟩
  · go_enter Try.func29, Try.ntmps29
    go_wp2
    go_ret
    exact ⟨rfl, rfl⟩

set_option maxRecDepth 100000 in
set_option maxHeartbeats 4000000 in
theorem lReset_no (w : World) (v : Value) (h : NoLog v w) : Calls Try.prog 31 #[v] w fun e w' => e = .returned (.int .i64 1) ∧ w = w' := by
  rcases h with rfl | ⟨l, rfl, hl⟩
  · go_enter Try.func31, Try.ntmps31
    go_wp2
    go_ret
    exact ⟨rfl, rfl⟩
  · go_enter Try.func31, Try.ntmps31
    go_wp2
    go_ret
    exact ⟨rfl, rfl⟩

set_option maxRecDepth 100000 in
set_option maxHeartbeats 4000000 in
theorem lLen_no (w : World) (v : Value) (h : NoLog v w) : Calls Try.prog 30 #[v] w fun e w' => e = .returned (.int .i64 0) ∧ w = w' := by
  rcases h with rfl | ⟨l, rfl, hl⟩
  · go_enter Try.func30, Try.ntmps30
    go_wp2
    go_ret
    exact ⟨rfl, rfl⟩
  · go_enter Try.func30, Try.ntmps30
    go_wp2
    go_ret
    exact ⟨rfl, rfl⟩

set_option maxRecDepth 100000 in
set_option maxHeartbeats 4000000 in
theorem lOpen_no (w : World) : Calls Try.prog 28 #[.pointer none] w fun e w' => e = .returned (.tuple #[.pointer none, .slice none 0 0, .int .i64 1]) ∧ w = w' := by
  have hN : Nob w (.pointer none) := .inl rfl
  go_enter Try.func28, Try.ntmps28
  go_wp2_with fail
  refine (nSize _ 0 _ hN).mono ?_; rintro e w1 ⟨rfl, rfl⟩
  go_wp2_with fail
  refine (nRead _ 0 0 _ _ hN).mono ?_; rintro e w1 ⟨rfl, rfl⟩
  go_wp2_with fail
  go_ret3
  exact ⟨rfl, rfl⟩
end Go.Proofs.Ytkkeplobomncgaa
