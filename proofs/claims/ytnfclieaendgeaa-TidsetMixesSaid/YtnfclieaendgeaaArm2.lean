/- More laws for the walk: results that lie in a cell. -/
import Derived.Test.YtnfclieaendgeaaArm
set_option linter.all false
namespace Go.Own
open Go.RowKit

theorem run_loadVarS {P : Program} {E w : World} {X : Fr} {t : TypeId} {b : Nat} {cs : Array Value} {e : TypeId} {f : Nat × Nat} (hO : Own E w X) (hh : Has X b (.cells cs e f)) (ht : (isAgg t).run P w = .ok true w) (hs : (sizeOf t).run P w = .ok cs.size w) :
    (loadVar t ⟨b, 0, none⟩).run P w = .ok (.agg cs) w := by
  have hl := run_loadCells_list (P := P) w ⟨b, 0, none⟩ cs.toList (by
    intro j v hj
    rw [add_lit, hO.cell (b := b)]
    simpa using hj)
  rw [Array.length_toList] at hl
  simp [loadVar, ht, hs, hl]

theorem results_cell_tmp_own {P : Program} {E w : World} {X : Fr} {fn : Func} {p u : Tmp} {t : TypeId} {b : Nat} {cs : Array Value} {e : TypeId} {f : Nat × Nat} {tmps : Array Value} {v : Value} (h : fn.results = #[.cell p t, .tmp u]) (hO : Own E w X)
    (hp : tmps.getD p undef = .pointer (some ⟨b, 0, none⟩)) (hu : tmps.getD u undef = v) (hh : Has X b (.cells cs e f)) (ht : (isAgg t).run P w = .ok true w) (hs : (sizeOf t).run P w = .ok cs.size w) :
    (results fn tmps).run P w = .ok (.tuple #[.agg cs, v]) w := by
  rw [results_cell_tmp h, hp, hu]
  simp [asAddr, run_loadVarS hO hh ht hs]

theorem results_cell_own {P : Program} {E w : World} {X : Fr} {fn : Func} {p : Tmp} {t : TypeId} {b : Nat} {cs : Array Value} {e : TypeId} {f : Nat × Nat} {tmps : Array Value} (h : fn.results = #[.cell p t]) (hO : Own E w X)
    (hp : tmps.getD p undef = .pointer (some ⟨b, 0, none⟩)) (hh : Has X b (.cells cs e f)) (ht : (isAgg t).run P w = .ok true w) (hs : (sizeOf t).run P w = .ok cs.size w) :
    (results fn tmps).run P w = .ok (.agg cs) w := by
  have : (results fn tmps).run P w = ((asAddr (tmps.getD p undef)).run P w).andThen fun a w₁ => (loadVar t a).run P w₁ := by
    simp only [results, h]
    simp [Sem.run_bind, Result.andThen]
  rw [this, hp]
  simp [asAddr, run_loadVarS hO hh ht hs]

/-- The walk halts before a goal that bears this name. -/
structure Stop (p : Prop) : Prop where
  go : p

theorem run_opLoadS {P : Program} {E w : World} {X : Fr} {a : Act} {d : Option Tmp} {ty : TypeId} {pos : String} {aft : Array Edge} {g : Option (Nat × Bool)} {t : TypeId} {x : Operand} {b : Nat} {cs : Array Value} {e : TypeId} {f : Nat × Nat} (hO : Own E w X)
    (hx : a.eval x = .pointer (some ⟨b, 0, none⟩)) (hh : Has X b (.cells cs e f)) (ht : (isAgg t).run P w = .ok true w) (hs : (sizeOf t).run P w = .ok cs.size w) :
    (execOp a.eval ⟨d, .load t x, ty, pos, aft, g⟩).run P w = .ok (.value (.agg cs)) w := by
  have := run_loadVarS hO hh ht hs
  simp [execOp, Instr.loadAt, Instr.sureAddr, hx, this]

section laws
variable {P : Program} {ops : Array Oper} {Q : Exit → Act → World → Prop} {rest : List Oper} {a : Act} {E w : World} {X A R : Fr} {d : Option Tmp} {ty : TypeId} {pos : String} {aft : Array Edge} {g : Option (Nat × Bool)}
/-- append onto the nil slice: a slice of our own. -/
theorem own_append_new {xv : Value} {t tx e : TypeId} {sz bytes : Nat} {z : Value} {s x : Operand} {m : Nat} {news : List Value} (hT : SlT P t e sz bytes z)
    (htx : P.underlying tx = some (.slice e) ∨ P.underlying tx = some .string) (hO : Own E w X)
    (hw : Region.wanted ⟨d, .call { callee := .builtin .append, args := #[s, x], argTypes := #[t, tx] }, ty, pos, aft, g⟩ (yielded ops a.tmps) = true)
    (hs : a.eval s = .slice none 0 0) (hx : a.eval x = xv)
    (hlen : ∀ w, (Builtin.lenOf xv).run P w = .ok m w) (hnews : ∀ w', Own E w' X → (Builtin.firstCells sz m xv).run P w' = .ok news.toArray w')
    (hl : news.length = m * sz) (h1 : ∀ u ∈ news, u.oneCell' = true) (h63 : m ≤ maxLen) (hb : m * bytes ≤ 140737488355328)
    (next : ∀ a' cap' A' w1, Sl e sz a' m cap' news A' → Own E w1 (A' ++ X) → wpList P ops Q rest (a.put d (.slice a' m cap')) w1) :
    wpList P ops Q (⟨d, .call { callee := .builtin .append, args := #[s, x], argTypes := #[t, tx] }, ty, pos, aft, g⟩ :: rest) a w := by
  refine own_append (R := X) hT htx hO hw hs hx (Sl.nil e sz) hlen hnews hl h1 (by omega) (.inl (by simpa using hb)) ?_
  intro a' cap' A' w1 hS hO1
  simp only [Nat.zero_add, List.nil_append] at hS ⊢
  exact next a' cap' A' w1 hS hO1

/-- a store of a value of one cell or more; block, place and row are read off the goal. -/
theorem own_storeG {b off : Nat} {v : Value} {cs : Array Value} {e : TypeId} {R' : Fr} {t : TypeId} {x y : Operand} (hO : Own E w X) (hw : Region.wanted ⟨d, .store t x y, ty, pos, aft, g⟩ (yielded ops a.tmps) = true)
    (hx : a.eval x = .pointer (some ⟨b, off, none⟩)) (hy : a.eval y = v) (hp : PickPt X b (.cells cs e (0, 0)) R')
    (hs : (sizeOf t).run P w = .ok v.cells.size w) (h1 : ∀ u ∈ v.cells.toList, u.oneCell' = true) (hl : off + v.cells.size ≤ cs.size)
    (next : ∀ w1, Own E w1 (pt b (.cells (splice cs off v.cells.toList) e (0, 0)) ++ R') → wpList P ops Q rest (a.put d undef) w1) :
    wpList P ops Q (⟨d, .store t x y, ty, pos, aft, g⟩ :: rest) a w := own_store hO hw hx hy hs h1 hl next
end laws
end Go.Own
