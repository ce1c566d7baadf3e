/- Maps keyed by ints: a map's block as the list of what it holds. -/
import Derived.Test.YtnfclieaendgeaaArm
import Derived.Maps.RangeRun
set_option linter.all false
namespace Go.Own
open Go Go.RowKit Go.ChangeMaps

structure MI (es : Array MapEntry) (clock : Nat) (l : List (Int × Value)) : Prop where
  ent : es.toList.map (fun e => (e.key, e.val)) = l.map (fun p => (Value.int .i64 p.1, p.2))
  keys : (l.map (·.1)).Nodup
  born : (es.toList.map (·.born)).Nodup
  old : ∀ e ∈ es.toList, e.born < clock

def MapAt (b : Nat) (l : List (Int × Value)) (A : Fr) : Prop := ∃ es clock, MI es clock l ∧ A = pt b (.map es clock)

def mlook (l : List (Int × Value)) (k : Int) : Option Value := (l.find? (·.1 == k)).map (·.2)

theorem findNow_int (k : Int) : ∀ (es : List MapEntry) (l : List (Int × Value)) (i : Nat), es.map (fun e => (e.key, e.val)) = l.map (fun p => (Value.int .i64 p.1, p.2)) →
    (mlook l k = none → Instr.findNow (.int .i64) (.int .i64 k) es i = some none) ∧
    (∀ v, mlook l k = some v → ∃ j, j < es.length ∧ Instr.findNow (.int .i64) (.int .i64 k) es i = some (some (i + j, v)) ∧ ((l.map (·.1)).Nodup → (es.eraseIdx j).map (fun e => (e.key, e.val)) = (l.filter (·.1 != k)).map (fun p => (Value.int .i64 p.1, p.2))))
  | [], l, i, h => by
    obtain rfl : l = [] := by simpa using h.symm
    exact ⟨fun _ => rfl, fun v hv => by simp [mlook] at hv⟩
  | e :: es, [], i, h => by simp at h
  | e :: es, p :: l, i, h => by
    simp only [List.map_cons, List.cons.injEq] at h
    obtain ⟨hkv, ht⟩ := h
    obtain ⟨hk, hv⟩ := Prod.mk.inj hkv
    have ih := findNow_int k es l (i + 1) ht
    have hkk := hk
    by_cases hp : p.1 = k
    · refine ⟨fun hn => ?_, fun v hl => ?_⟩
      · simp [mlook, hp] at hn
      · have : p.2 = v := by simpa [mlook, hp] using hl
        refine ⟨0, by simp, ?_, fun hnd => ?_⟩
        · simp only [Instr.findNow, hkk, Instr.sameNow, if_true, hp, beq_self_eq_true, Nat.add_zero]
          simp_all
        · simp only [List.eraseIdx_cons_zero]
          rw [ht]
          have : (p :: l).filter (fun q => q.1 != k) = l := by
            rw [List.filter_cons_of_neg (by simp [hp])]
            rw [List.filter_eq_self]
            intro q hq
            simp only [List.map_cons, List.nodup_cons] at hnd
            have : q.1 ≠ p.1 := fun e => hnd.1 (List.mem_map.2 ⟨q, hq, e⟩)
            simp [← hp, this]
          rw [this]
    · have hne : (k == p.1) = false := by simp; exact fun e => hp e.symm
      have hne2 : (p.1 == k) = false := by simpa using hp
      have hl : mlook (p :: l) k = mlook l k := by simp [mlook, hne2]
      rw [hl]
      refine ⟨fun hn => ?_, fun v hv => ?_⟩
      · simp only [Instr.findNow, hkk, Instr.sameNow, if_true, hne]
        exact ih.1 hn
      · obtain ⟨j, hj, hf, he⟩ := ih.2 v hv
        refine ⟨j + 1, by simpa using hj, ?_, fun hnd => ?_⟩
        · simp only [Instr.findNow, hkk, Instr.sameNow, if_true, hne]
          rw [hf]
          congr 3
          omega
        · simp only [List.eraseIdx_cons_succ, List.map_cons]
          rw [he (by simpa using (List.nodup_cons.1 (by simpa using hnd)).2), List.filter_cons_of_pos (by simp [hp])]
          simp_all

section
variable {P : Program} {t kt et : TypeId} {E w : World} {X R A : Fr} {b : Nat} {l : List (Int × Value)}

theorem run_checkInt (hk : P.underlying kt = some (.int .i64)) (em : Bool) (k : Int) (w : World) : (Instr.checkKey em 10000 kt (.int .i64 k)).run P w = .ok () w := by
  rw [show (10000 : Nat) = 9999 + 1 from rfl, Instr.checkKey]
  simp [Sem.run_bind, run_underlying hk, Result.andThen]

theorem run_findKey (hk : P.underlying kt = some (.int .i64)) {es : Array MapEntry} {c : Nat} (hM : MI es c l) (k : Int) (w : World) :
    (mlook l k = none → (Instr.findKey kt (.int .i64 k) es.toList).run P w = .ok none w) ∧
    (∀ v, mlook l k = some v → ∃ j, j < es.size ∧ (Instr.findKey kt (.int .i64 k) es.toList).run P w = .ok (some (j, v)) w ∧ ((es.toList.eraseIdx j).map (fun e => (e.key, e.val)) = (l.filter (·.1 != k)).map (fun p => (Value.int .i64 p.1, p.2)))) := by
  have h := findNow_int k es.toList l 0 hM.ent
  refine ⟨fun hn => ?_, fun v hv => ?_⟩
  · simp [Instr.findKey, run_underlying hk, Result.andThen, h.1 hn]
  · obtain ⟨j, hj, hf, he⟩ := h.2 v hv
    refine ⟨j, by simpa using hj, ?_, he hM.keys⟩
    simp [Instr.findKey, run_underlying hk, Result.andThen, hf]

theorem run_lookMap (ht : P.underlying t = some (.map kt et)) (hk : P.underlying kt = some (.int .i64)) {z : Value} (hz : ∀ w, (zeroValue et).run P w = .ok z w) (hO : Own E w X) (hM : MapAt b l A) [hp : Pick X A R] (k : Int) :
    (Instr.lookup t (.map (some b)) (.int .i64 k) false).run P w = .ok ((mlook l k).getD z) w := by
  obtain ⟨es, c, hM, rfl⟩ := hM
  have hg : w.heap[b]? = some (.map es c) := (hO.perm hp.perm).mem (b, .map es c) (by simp [pt])
  have hf := run_findKey hk hM k w
  cases hl : mlook l k with
  | none => simp [Instr.lookup, run_underlying ht, Result.andThen, getObj, Sem.run, hg, run_checkInt hk, hf.1 hl, hz w]
  | some v =>
    obtain ⟨j, _, hf, _⟩ := hf.2 v hl
    simp [Instr.lookup, run_underlying ht, Result.andThen, getObj, Sem.run, hg, run_checkInt hk, hf]

variable {ops : Array Oper} {Q : Exit → Act → World → Prop} {rest : List Oper} {a : Act} {d : Option Tmp} {ty : TypeId} {pos : String} {aft : Array Edge} {g : Option (Nat × Bool)}

theorem own_lookup (ht : P.underlying t = some (.map kt et)) (hk : P.underlying kt = some (.int .i64)) {z : Value} (hz : ∀ w, (zeroValue et).run P w = .ok z w) (hO : Own E w X) (hM : MapAt b l A) [hp : Pick X A R] {m x : Operand} {k : Int}
    (hw : Region.wanted ⟨d, .lookup t m x false, ty, pos, aft, g⟩ (yielded ops a.tmps) = true) (hm : a.eval m = .map (some b)) (hx : a.eval x = .int .i64 k)
    (next : wpList P ops Q rest (a.put d ((mlook l k).getD z)) w) : wpList P ops Q (⟨d, .lookup t m x false, ty, pos, aft, g⟩ :: rest) a w := by
  refine wpList_run_value hw ?_ next
  have := run_lookMap ht hk hz hO hM k
  simp [execOp, hm, hx, this]

theorem MI.push {es : Array MapEntry} {c : Nat} (h : MI es c l) {k : Int} (hn : mlook l k = none) (v : Value) : MI (es.push ⟨.int .i64 k, v, c⟩) (c + 1) (l ++ [(k, v)]) := by
  refine ⟨by simp [h.ent], ?_, ?_, ?_⟩
  · rw [List.map_append, List.nodup_append]
    refine ⟨h.keys, by simp, ?_⟩
    intro x hx y hy
    simp at hy
    subst hy
    intro e
    subst e
    obtain ⟨p, hp, rfl⟩ := List.mem_map.1 hx
    simp [mlook] at hn
    exact hn _ _ hp rfl
  · rw [Array.toList_push, List.map_append, List.nodup_append]
    refine ⟨h.born, by simp, ?_⟩
    intro x hx y hy
    simp at hy
    subst hy
    obtain ⟨e, he, rfl⟩ := List.mem_map.1 hx
    have := h.old e he
    omega
  · intro e he
    simp at he
    rcases he with he | rfl
    · have := h.old e (by simpa using he)
      omega
    · simp

theorem own_mapNew (ht : P.underlying t = some (.map kt et)) (hk : P.underlying kt = some (.int .i64)) (hO : Own E w X) (hM : MapAt b l A) [hp : Pick X A R] {m x y : Operand} {k : Int} {v : Value}
    (hw : Region.wanted ⟨d, .mapUpdate t m x y, ty, pos, aft, g⟩ (yielded ops a.tmps) = true) (hm : a.eval m = .map (some b)) (hx : a.eval x = .int .i64 k) (hy : a.eval y = v) (hn : mlook l k = none)
    (next : ∀ w1 A1, MapAt b (l ++ [(k, v)]) A1 → Own E w1 (A1 ++ R) → wpList P ops Q rest (a.put d undef) w1) : wpList P ops Q (⟨d, .mapUpdate t m x y, ty, pos, aft, g⟩ :: rest) a w := by
  obtain ⟨es, c, hM, rfl⟩ := hM
  have hO1 := hO.perm hp.perm
  have hg : w.heap[b]? = some (.map es c) := hO1.mem (b, .map es c) (by simp [pt])
  have hf := (run_findKey hk hM k w).1 hn
  refine wpList_run_skip (w1 := setBlock w b (.map (es.push ⟨.int .i64 k, v, c⟩) (c + 1))) hw ?_ (next _ _ ⟨_, _, hM.push hn v, rfl⟩ ?_)
  · simp [execOp, hm, hx, hy, Instr.mapUpdate, run_underlying ht, Result.andThen, getObj, setObj, Sem.run, hg, run_checkInt hk, hf, setBlock]
  · have hb : b < w.heap.size := hO1.hasLt (b := b) (o := .map es c)
    refine hO1.modify rfl rfl rfl ?_ ?_
    · simp [setBlock, hb]
    · intro j hj
      simp [setBlock, hj, Ne.symm hj]

theorem MI.erase {es : Array MapEntry} {c : Nat} (h : MI es c l) {k : Int} {j : Nat} (hj : j < es.size) (he : (es.toList.eraseIdx j).map (fun e => (e.key, e.val)) = (l.filter (·.1 != k)).map (fun p => (Value.int .i64 p.1, p.2))) :
    MI (es.eraseIdxIfInBounds j) c (l.filter (·.1 != k)) := by
  have e1 : (es.eraseIdxIfInBounds j).toList = es.toList.eraseIdx j := by
    rw [Array.eraseIdxIfInBounds, dif_pos hj]
    simp
  refine ⟨by rw [e1, he], ?_, ?_, ?_⟩
  · exact h.keys.sublist (List.Sublist.map _ List.filter_sublist)
  · rw [e1]
    exact h.born.sublist (List.Sublist.map _ (List.eraseIdx_sublist _ _))
  · rw [e1]
    intro e he
    exact h.old e (List.mem_of_mem_eraseIdx he)

theorem own_mapDelete {ta : TypeId} (ht : P.underlying t = some (.map kt et)) (hk : P.underlying kt = some (.int .i64)) (hO : Own E w X) (hM : MapAt b l A) [hp : Pick X A R] {m x : Operand} {k : Int} {v : Value}
    (hw : Region.wanted ⟨d, .call { callee := .builtin .delete, args := #[m, x], argTypes := #[t, ta] }, ty, pos, aft, g⟩ (yielded ops a.tmps) = true) (hm : a.eval m = .map (some b)) (hx : a.eval x = .int .i64 k) (hn : mlook l k = some v)
    (next : ∀ w1 A1, MapAt b (l.filter (·.1 != k)) A1 → Own E w1 (A1 ++ R) → wpList P ops Q rest (a.put d (.tuple #[])) w1) : wpList P ops Q (⟨d, .call { callee := .builtin .delete, args := #[m, x], argTypes := #[t, ta] }, ty, pos, aft, g⟩ :: rest) a w := by
  obtain ⟨es, c, hM, rfl⟩ := hM
  have hO1 := hO.perm hp.perm
  have hg : w.heap[b]? = some (.map es c) := hO1.mem (b, .map es c) (by simp [pt])
  obtain ⟨j, hj, hf, he⟩ := (run_findKey hk hM k w).2 v hn
  refine wpList_run_value (v := .tuple #[]) (w1 := setBlock w b (.map (es.eraseIdxIfInBounds j) c)) hw ?_ (next _ _ ⟨_, _, hM.erase hj he, rfl⟩ ?_)
  · simp [execOp, resolve, invoke, builtin, hm, hx, Builtin.delete_, run_underlying ht, Result.andThen, getObj, setObj, Sem.run, hg, run_checkInt hk, hf, setBlock]
  · have hb : b < w.heap.size := hO1.hasLt (b := b) (o := .map es c)
    refine hO1.modify rfl rfl rfl ?_ ?_
    · simp [setBlock, hb]
    · intro j hj
      simp [setBlock, hj, Ne.symm hj]

theorem own_makeMap (hO : Own E w X) (hw : Region.wanted ⟨d, .makeMap t none, ty, pos, aft, g⟩ (yielded ops a.tmps) = true)
    (next : ∀ b A w1, MapAt b [] A → Own E w1 (A ++ X) → wpList P ops Q rest (a.put d (.map (some b))) w1) :
    wpList P ops Q (⟨d, .makeMap t none, ty, pos, aft, g⟩ :: rest) a w := by
  refine wpList_run_value (v := .map (some w.heap.size)) (w1 := w.alloc (.map #[] 0)) hw ?_ (next _ _ _ ⟨#[], 0, ⟨rfl, by simp, by simp, by simp⟩, rfl⟩ (hO.alloc _))
  have hmm : (Instr.makeMap t none).run P w = .ok (.map (some w.heap.size)) (w.alloc (.map #[] 0)) := by simp [Instr.makeMap]
  simp [execOp, hmm]
end
theorem at_lookup {P : Program} {ops : Array Oper} {Q : Exit → Act → World → Prop} {rest : List Oper} {a : Act} {w : World} {d : Option Tmp} {ty : TypeId} {pos : String} {aft : Array Edge} {g : Option (Nat × Bool)} {t : TypeId} {m x : Operand} {ok : Bool} (h : wpList P ops Q (⟨d, .lookup t m x ok, ty, pos, aft, g⟩ :: rest) a w) : wpList P ops Q (⟨d, .lookup t m x ok, ty, pos, aft, g⟩ :: rest) a w := h
theorem at_mapup {P : Program} {ops : Array Oper} {Q : Exit → Act → World → Prop} {rest : List Oper} {a : Act} {w : World} {d : Option Tmp} {ty : TypeId} {pos : String} {aft : Array Edge} {g : Option (Nat × Bool)} {t : TypeId} {m x y : Operand} (h : wpList P ops Q (⟨d, .mapUpdate t m x y, ty, pos, aft, g⟩ :: rest) a w) : wpList P ops Q (⟨d, .mapUpdate t m x y, ty, pos, aft, g⟩ :: rest) a w := h
theorem at_del {P : Program} {ops : Array Oper} {Q : Exit → Act → World → Prop} {rest : List Oper} {a : Act} {w : World} {d : Option Tmp} {ty : TypeId} {pos : String} {aft : Array Edge} {g : Option (Nat × Bool)} {x : Array Operand} {ats : Array TypeId} (h : wpList P ops Q (⟨d, .call { callee := .builtin .delete, args := x, argTypes := ats }, ty, pos, aft, g⟩ :: rest) a w) : wpList P ops Q (⟨d, .call { callee := .builtin .delete, args := x, argTypes := ats }, ty, pos, aft, g⟩ :: rest) a w := h
theorem at_mkMap {P : Program} {ops : Array Oper} {Q : Exit → Act → World → Prop} {rest : List Oper} {a : Act} {w : World} {d : Option Tmp} {ty : TypeId} {pos : String} {aft : Array Edge} {g : Option (Nat × Bool)} {t : TypeId} {n : Option Operand} (h : wpList P ops Q (⟨d, .makeMap t n, ty, pos, aft, g⟩ :: rest) a w) : wpList P ops Q (⟨d, .makeMap t n, ty, pos, aft, g⟩ :: rest) a w := h
end Go.Own
