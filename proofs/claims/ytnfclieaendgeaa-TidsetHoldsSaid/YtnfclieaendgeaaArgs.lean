/- What came in stays as it was: cells of the world at the start. -/
import Derived.Test.YtnfclieaendgeaaMix
set_option linter.all false
namespace Go.Own
open Go.RowKit

theorem Own.oldCell {E w : World} {X R : Fr} (hO : Own E w X) [hp : Pick X (oldFr E) R] {a : Addr} {v : Value} (h : E.cell? a = some v) : w.cell? a = some v := by
  have hb := World.block_lt_of_cell? E a h
  have h1 := (hO.perm hp.perm).left
  have hk : E.heap[a.block]? = some (E.heap[a.block]'hb) := Array.getElem?_eq_getElem hb
  have := h1.mem _ (oldFr_mem hk)
  rw [← h]
  exact World.cell?_of_block (by rw [this, hk])

/-- The row at a holds these cells, in the world at the start. -/
def RowAt (E : World) (a : Addr) (cs : List Value) : Prop := ∀ j v, cs[j]? = some v → E.cell? (a.add j) = some v
theorem RowAt.at {E w : World} {X R : Fr} {a : Addr} {cs : List Value} (h : RowAt E a cs) (hO : Own E w X) [hp : Pick X (oldFr E) R] : ∀ j v, cs[j]? = some v → w.cell? (a.add j) = some v :=
  fun j v hj => hO.oldCell (h j v hj)

theorem run_opLoadC {P : Program} {w : World} {a : Act} {d : Option Tmp} {ty : TypeId} {pos : String} {aft : Array Edge} {g : Option (Nat × Bool)} {t : TypeId} {x : Operand} {ad : Addr} {cs : List Value} (hc : ∀ j v, cs[j]? = some v → w.cell? (ad.add j) = some v)
    (hx : a.eval x = .pointer (some ad)) (ht : (isAgg t).run P w = .ok true w) (hs : (sizeOf t).run P w = .ok cs.length w) :
    (execOp a.eval ⟨d, .load t x, ty, pos, aft, g⟩).run P w = .ok (.value (.agg cs.toArray)) w := by
  have := run_loadCells_list (P := P) w ad cs hc
  simp [execOp, Instr.loadAt, Instr.sureAddr, hx, loadVar, ht, hs, this]

theorem own_loadC {P : Program} {ops : Array Oper} {Q : Exit → Act → World → Prop} {rest : List Oper} {a : Act} {w : World} {d : Option Tmp} {ty : TypeId} {pos : String} {aft : Array Edge} {g : Option (Nat × Bool)} {t : TypeId} {x : Operand} {ad : Addr} {cs : List Value}
    (hw : Region.wanted ⟨d, .load t x, ty, pos, aft, g⟩ (yielded ops a.tmps) = true) (hc : ∀ j v, cs[j]? = some v → w.cell? (ad.add j) = some v)
    (hx : a.eval x = .pointer (some ad)) (ht : (isAgg t).run P w = .ok true w) (hs : (sizeOf t).run P w = .ok cs.length w)
    (next : wpList P ops Q rest (a.put d (.agg cs.toArray)) w) : wpList P ops Q (⟨d, .load t x, ty, pos, aft, g⟩ :: rest) a w :=
  wpList_run_value hw (run_opLoadC hc hx ht hs) next
end Go.Own
