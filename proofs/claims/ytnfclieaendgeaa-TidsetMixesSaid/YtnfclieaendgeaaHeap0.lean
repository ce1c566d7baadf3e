/- The methods of the sorter's heads behind an interface. -/
import Derived.Test.YtnfclieaendgeaaRows
import Derived.Test.YtnfclieaendgeaaArgs
set_option linter.all false
namespace Go.Proofs.Ytnfclieaendgeaa
open Go Go.RowKit Go.Own

theorem methLess0 (a : Addr) (w : World) : (method 251 87 (.pointer (some a)) "Less").run Try.prog w = ((do pure (123, ← loadVar 85 a)) : Sem (FuncId × Value)).run Try.prog w := by kernel_rfl
theorem methSwap0 (a : Addr) (w : World) : (method 251 87 (.pointer (some a)) "Swap").run Try.prog w = ((do pure (124, ← loadVar 85 a)) : Sem (FuncId × Value)).run Try.prog w := by kernel_rfl
theorem methLen0 (a : Addr) (w : World) : (method 251 87 (.pointer (some a)) "Len").run Try.prog w = ((do pure (122, ← loadVar 85 a)) : Sem (FuncId × Value)).run Try.prog w := by kernel_rfl
theorem methPop (v : Value) (w : World) : (method 251 87 v "Pop").run Try.prog w = .ok (125, v) w := by kernel_rfl
theorem run_loadHeads {a : Addr} {w : World} {v : Value} (h : w.cell? a = some v) : (loadVar 85 a).run Try.prog w = .ok v w := by
  have h1 : (isAgg 85).run Try.prog w = .ok false w := by kernel_rfl
  have h2 : (load a).run Try.prog w = .ok v w := by simp [load, Sem.run, h]
  simp [loadVar, Sem.run_bind, h1, Result.andThen, h2]
theorem methLess {a : Addr} {w : World} {v : Value} (h : w.cell? a = some v) : (method 251 87 (.pointer (some a)) "Less").run Try.prog w = .ok (123, v) w := by
  rw [methLess0]; simp [Sem.run_bind, run_loadHeads h, Result.andThen]
theorem methSwap {a : Addr} {w : World} {v : Value} (h : w.cell? a = some v) : (method 251 87 (.pointer (some a)) "Swap").run Try.prog w = .ok (124, v) w := by
  rw [methSwap0]; simp [Sem.run_bind, run_loadHeads h, Result.andThen]
theorem methLen {a : Addr} {w : World} {v : Value} (h : w.cell? a = some v) : (method 251 87 (.pointer (some a)) "Len").run Try.prog w = .ok (122, v) w := by
  rw [methLen0]; simp [Sem.run_bind, run_loadHeads h, Result.andThen]
end Go.Proofs.Ytnfclieaendgeaa
