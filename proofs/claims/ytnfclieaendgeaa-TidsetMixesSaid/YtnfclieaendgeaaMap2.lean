/- Maps keyed by ints: a key that is there gets another value; ranging with what each key holds. -/
import Derived.Test.YtnfclieaendgeaaMapR
set_option linter.all false
namespace Go.Own
open Go Go.RowKit Go.ChangeMaps

/-- The list with k's value changed. -/
def mset (l : List (Int × Value)) (k : Int) (v : Value) : List (Int × Value) := l.map fun p => if p.1 == k then (k, v) else p

theorem findNow_set (k : Int) : ∀ (es : List MapEntry) (l : List (Int × Value)) (i : Nat), es.map (fun e => (e.key, e.val)) = l.map (fun p => (Value.int .i64 p.1, p.2)) → (l.map (·.1)).Nodup → ∀ v, mlook l k = some v →
    ∃ j, j < es.length ∧ Instr.findNow (.int .i64) (.int .i64 k) es i = some (some (i + j, v)) ∧ (es[j]?).map (·.key) = some (.int .i64 k) ∧
      ∀ u, (es.modify j (fun e => { e with key := .int .i64 k, val := u })).map (fun e => (e.key, e.val)) = (mset l k u).map (fun p => (Value.int .i64 p.1, p.2))
  | [], l, i, h, _, v, hv => by
    obtain rfl : l = [] := by simpa using h.symm
    simp [mlook] at hv
  | e :: es, [], i, h, _, _, _ => by simp at h
  | e :: es, p :: l, i, h, hnd, v, hl => by
    simp only [List.map_cons, List.cons.injEq] at h
    obtain ⟨hkv, ht⟩ := h
    obtain ⟨hk, hv⟩ := Prod.mk.inj hkv
    have hkk := hk
    rw [List.map_cons, List.nodup_cons] at hnd
    by_cases hp : p.1 = k
    · have : p.2 = v := by simpa [mlook, hp] using hl
      refine ⟨0, by simp, ?_, by simp [hkk, hp], fun u => ?_⟩
      · simp only [Instr.findNow, hkk, Instr.sameNow, if_true, hp, beq_self_eq_true, Nat.add_zero]
        simp_all
      · rw [List.modify_zero_cons, List.map_cons, ht]
        have hm : mset l k u = l := by
          unfold mset
          conv => rhs; rw [← List.map_id l]
          refine List.map_congr_left fun q hq => ?_
          have : ¬ q.1 = k := fun e => hnd.1 (List.mem_map.2 ⟨q, hq, by rw [e, hp]⟩)
          simp [this]
        have : mset (p :: l) k u = (k, u) :: mset l k u := by simp [mset, hp]
        rw [this, hm]
        rfl
    · have hne : (k == p.1) = false := by simp; exact fun e => hp e.symm
      have hne2 : (p.1 == k) = false := by simpa using hp
      have hl2 : mlook (p :: l) k = mlook l k := by simp [mlook, hne2]
      rw [hl2] at hl
      obtain ⟨j, hj, hf, hkey, he⟩ := findNow_set k es l (i + 1) ht hnd.2 v hl
      refine ⟨j + 1, by simpa using hj, ?_, by simpa using hkey, fun u => ?_⟩
      · simp only [Instr.findNow, hkk, Instr.sameNow, if_true, hne]
        rw [hf]
        congr 3
        omega
      · rw [List.modify_succ_cons, List.map_cons, he u]
        have : mset (p :: l) k u = p :: mset l k u := by simp [mset, hp]
        rw [this, List.map_cons, ← hkv]

section
variable {P : Program} {t kt et : TypeId} {E w : World} {X R A : Fr} {b : Nat} {l : List (Int × Value)}
variable {ops : Array Oper} {Q : Exit → Act → World → Prop} {rest : List Oper} {a : Act} {d : Option Tmp} {ty : TypeId} {pos : String} {aft : Array Edge} {g : Option (Nat × Bool)}

theorem modify_born (f : MapEntry → MapEntry) (hf : ∀ e, (f e).born = e.born) : ∀ (es : List MapEntry) (j : Nat), (es.modify j f).map (·.born) = es.map (·.born)
  | [], j => by simp
  | e :: es, 0 => by rw [List.modify_zero_cons, List.map_cons, List.map_cons, hf]
  | e :: es, j + 1 => by rw [List.modify_succ_cons, List.map_cons, List.map_cons, modify_born f hf es j]
theorem MI.set {es : Array MapEntry} {c : Nat} (h : MI es c l) {k : Int} {j : Nat} (v : Value) (he : (es.toList.modify j (fun e => { e with key := .int .i64 k, val := v })).map (fun e => (e.key, e.val)) = (mset l k v).map (fun p => (Value.int .i64 p.1, p.2))) :
    MI (es.modify j (fun e => { e with key := .int .i64 k, val := v })) c (mset l k v) := by
  have hb := modify_born (fun e => { e with key := .int .i64 k, val := v }) (fun _ => rfl) es.toList j
  have hkeys : (mset l k v).map (·.1) = l.map (·.1) := by
    unfold mset
    rw [List.map_map]
    refine List.map_congr_left fun q _ => ?_
    by_cases hq : q.1 = k <;> simp [hq]
  refine ⟨by rw [Array.toList_modify]; exact he, by rw [hkeys]; exact h.keys, by rw [Array.toList_modify, hb]; exact h.born, fun e he2 => ?_⟩
  rw [Array.toList_modify] at he2
  have h1 : e.born ∈ (es.toList.modify j (fun e => { e with key := .int .i64 k, val := v })).map (·.born) := List.mem_map.2 ⟨e, he2, rfl⟩
  rw [hb] at h1
  obtain ⟨e', h2, h3⟩ := List.mem_map.1 h1
  rw [← h3]
  exact h.old e' h2

theorem run_keyStays (k : Int) (w : World) : (Instr.keyThatStays (.int .i64 k) (.int .i64 k)).run P w = .ok (.int .i64 k) w := by
  simp [Instr.keyThatStays, Instr.sameBits]

theorem own_mapSet (ht : P.underlying t = some (.map kt et)) (hk : P.underlying kt = some (.int .i64)) (hO : Own E w X) (hM : MapAt b l A) [hp : Pick X A R] {m x y : Operand} {k : Int} {v v0 : Value}
    (hw : Region.wanted ⟨d, .mapUpdate t m x y, ty, pos, aft, g⟩ (yielded ops a.tmps) = true) (hm : a.eval m = .map (some b)) (hx : a.eval x = .int .i64 k) (hy : a.eval y = v) (hn : mlook l k = some v0)
    (next : ∀ w1 A1, MapAt b (mset l k v) A1 → Own E w1 (A1 ++ R) → wpList P ops Q rest (a.put d undef) w1) : wpList P ops Q (⟨d, .mapUpdate t m x y, ty, pos, aft, g⟩ :: rest) a w := by
  obtain ⟨es, c, hM, rfl⟩ := hM
  have hO1 := hO.perm hp.perm
  have hg : w.heap[b]? = some (.map es c) := hO1.mem (b, .map es c) (by simp [pt])
  obtain ⟨j, hj, hf, hkey, he⟩ := findNow_set k es.toList l 0 hM.ent hM.keys v0 hn
  rw [Nat.zero_add] at hf
  have hfk : (Instr.findKey kt (.int .i64 k) es.toList).run P w = .ok (some (j, v0)) w := by simp [Instr.findKey, run_underlying hk, Result.andThen, hf]
  have hkey2 : (Option.map (fun e => e.key) es[j]?).getD (Value.int .i64 k) = .int .i64 k := by
    have : es[j]? = es.toList[j]? := by simp
    rw [this, hkey]; rfl
  refine wpList_run_skip (w1 := setBlock w b (.map (es.modify j fun e => { e with key := .int .i64 k, val := v }) c)) hw ?_ (next _ _ ⟨_, _, hM.set v (he v), rfl⟩ ?_)
  · simp [execOp, hm, hx, hy, Instr.mapUpdate, run_underlying ht, Result.andThen, getObj, setObj, Sem.run, hg, run_checkInt hk, hfk, setBlock, hkey2, run_keyStays]
  · have hb : b < w.heap.size := hO1.hasLt (b := b) (o := .map es c)
    refine hO1.modify rfl rfl rfl ?_ ?_
    · simp [setBlock, hb]
    · intro j hj
      simp [setBlock, hj, Ne.symm hj]
end
theorem run_opLookup {P : Program} {t kt et : TypeId} {E w : World} {X R A : Fr} {b : Nat} {l : List (Int × Value)} {a : Act} {d : Option Tmp} {ty : TypeId} {pos : String} {aft : Array Edge} {g : Option (Nat × Bool)}
    (ht : P.underlying t = some (.map kt et)) (hk : P.underlying kt = some (.int .i64)) {z : Value} (hz : ∀ w, (zeroValue et).run P w = .ok z w) (hO : Own E w X) (hM : MapAt b l A) [hp : Pick X A R] {m x : Operand} {k : Int} {v : Value}
    (hm : a.eval m = .map (some b)) (hx : a.eval x = .int .i64 k) (hl : mlook l k = some v) :
    (execOp a.eval ⟨d, .lookup t m x false, ty, pos, aft, g⟩).run P w = .ok (.value v) w := by
  have := run_lookMap ht hk hz hO hM k
  rw [hl] at this
  simp only [Option.getD_some] at this
  simp [execOp, hm, hx, this]
/-- How many keys an iterator told. -/
def seenN (w : World) (r : Nat) : Nat := match w.heap[r]? with | some (.mapIter _ _ xs _) => xs.size | _ => 0
theorem Ranging.seen {E w : World} {X R A : Fr} {r b : Nat} {l : List (Int × Value)} {done : List Int} (h : Ranging r b l done A) (hO : Own E w X) [hp : Pick X A R] : seenN w r = done.length := by
  obtain ⟨es, c, xs, _, _, _, hk, rfl⟩ := h
  have hg : w.heap[r]? = some (.mapIter (some b) c (xs.map (·.born)).toArray c) := (hO.perm hp.perm).mem (r, _) (by simp [pt])
  unfold seenN
  rw [hg]
  have l2 := congrArg List.length hk
  simp only [List.length_map] at l2
  simp [l2]
/-- The number in a cell. -/
def cellN (w : World) (a : Addr) : Nat := match w.cell? a with | some (.int _ n) => n.toNat | _ => 0
end Go.Own
