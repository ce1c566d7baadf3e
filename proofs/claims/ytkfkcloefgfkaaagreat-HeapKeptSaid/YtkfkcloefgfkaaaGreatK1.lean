/- A small separation logic over the model's worlds: 'Own E w X' says that the blocks listed in X are all different and hold what X says, and that the world's streams and tape are E's. -/
import Derived.WalkKit
import Derived.WalkLawsBesides
import Derived.WalkSpells
import Derived.Lib.Hide
import Derived.Deep.Quiet
import Derived.StillTailTactics
import Derived.OrdersHeld
import Derived.Deep.QuietTactic
import Derived.BigQuiet
import Derived.Test.YtkfkcloefgfkaaaGreatRows
set_option linter.all false
/- A small separation logic over the model's worlds: 'Own E w X' says that the blocks listed in X are all different and hold what X says, and that the world's streams and tape are E's. -/
namespace Go.Own
open Go.RowKit

abbrev Fr := List (Nat × Obj)
def pt (b : Nat) (o : Obj) : Fr := [(b, o)]

structure Own (E w : World) (X : Fr) : Prop where
  os : w.os = E.os
  tape : w.tape = E.tape
  output : w.output = E.output
  nodup : (X.map (·.1)).Nodup
  mem : ∀ p ∈ X, w.heap[p.1]? = some p.2

theorem Own.perm {E w : World} {X Y : Fr} (h : Own E w X) (p : X.Perm Y) : Own E w Y :=
  ⟨h.os, h.tape, h.output, (p.map _).nodup_iff.1 h.nodup, fun q hq => h.mem q (p.mem_iff.2 hq)⟩

theorem Own.right {E w : World} {A R : Fr} (h : Own E w (A ++ R)) : Own E w R :=
  ⟨h.os, h.tape, h.output, by have := h.nodup; rw [List.map_append] at this; exact (List.nodup_append.1 this).2.1,
   fun q hq => h.mem q (List.mem_append.2 (.inr hq))⟩

theorem Own.left {E w : World} {A R : Fr} (h : Own E w (A ++ R)) : Own E w A :=
  ⟨h.os, h.tape, h.output, by have := h.nodup; rw [List.map_append] at this; exact (List.nodup_append.1 this).1,
   fun q hq => h.mem q (List.mem_append.2 (.inl hq))⟩

theorem Own.lt {E w : World} {X : Fr} (h : Own E w X) {b : Nat} {o : Obj} (hb : (b, o) ∈ X) : b < w.heap.size := by
  have := h.mem _ hb
  exact (Array.getElem?_eq_some_iff.1 this).1

theorem Own.alloc {E w : World} {X : Fr} (h : Own E w X) (o : Obj) : Own E (w.alloc o) (pt w.heap.size o ++ X) := by
  refine ⟨h.os, h.tape, h.output, ?_, ?_⟩
  · simp only [pt, List.cons_append, List.nil_append, List.map_cons, List.nodup_cons]
    refine ⟨?_, h.nodup⟩
    intro hm
    obtain ⟨⟨b, o'⟩, hq, hb⟩ := List.mem_map.1 hm
    have := h.lt hq
    simp at hb
    omega
  · intro p hp
    rcases List.mem_append.1 hp with hp | hp
    · simp only [pt, List.mem_singleton] at hp
      subst hp
      show (w.heap.push o)[w.heap.size]? = _
      simp
    · have hl := h.lt hp
      show (w.heap.push o)[p.1]? = _
      rw [Array.getElem?_push, if_neg (by omega)]
      exact h.mem p hp

theorem Own.drew {E w : World} {X : Fr} (h : Own E w X) : Own E w.drew X := ⟨h.os, h.tape, h.output, h.nodup, h.mem⟩
theorem Own.drewN {E w : World} {X : Fr} (h : Own E w X) (n : Nat) : Own E (w.drewN n) X := ⟨h.os, h.tape, h.output, h.nodup, h.mem⟩

theorem Own.fresh {E w : World} {b : Nat} {o : Obj} {R : Fr} (h : Own E w (pt b o ++ R)) : ∀ p ∈ R, p.1 ≠ b := by
  intro p hp e
  have := h.nodup
  simp only [pt, List.cons_append, List.nil_append, List.map_cons, List.nodup_cons] at this
  exact this.1 (List.mem_map.2 ⟨p, hp, e⟩)

/-- A block of ours is exchanged for another. -/
theorem Own.modify {E w w' : World} {b : Nat} {o o' : Obj} {R : Fr} (h : Own E w (pt b o ++ R)) (hos : w'.os = w.os) (ht : w'.tape = w.tape) (hout : w'.output = w.output)
    (hb : w'.heap[b]? = some o') (hne : ∀ k, k ≠ b → w'.heap[k]? = w.heap[k]?) : Own E w' (pt b o' ++ R) := by
  refine ⟨hos.trans h.os, ht.trans h.tape, hout.trans h.output, ?_, ?_⟩
  · have := h.nodup
    simpa [pt] using this
  · intro p hp
    rcases List.mem_append.1 hp with hp | hp
    · simp only [pt, List.mem_singleton] at hp
      subst hp
      exact hb
    · rw [hne _ (h.fresh p hp)]
      exact h.mem p (List.mem_append.2 (.inr hp))

/-! Finding a block in a list of blocks -/

class Has (X : Fr) (b : Nat) (o : outParam Obj) : Prop where
  mem : (b, o) ∈ X
instance (b : Nat) (o : Obj) : Has (pt b o) b o := ⟨by simp [pt]⟩
instance (A R : Fr) (b : Nat) (o : Obj) [h : Has A b o] : Has (A ++ R) b o := ⟨List.mem_append.2 (.inl h.mem)⟩
instance (A R : Fr) (b : Nat) (o : Obj) [h : Has R b o] : Has (A ++ R) b o := ⟨List.mem_append.2 (.inr h.mem)⟩

class PickPt (X : Fr) (b : Nat) (o : outParam Obj) (R : outParam Fr) : Prop where
  perm : X.Perm (pt b o ++ R)
instance (b : Nat) (o : Obj) (R : Fr) : PickPt (pt b o ++ R) b o R := ⟨.refl _⟩
instance (b : Nat) (o : Obj) : PickPt (pt b o) b o [] := ⟨by simp [pt]⟩
instance (A X R : Fr) (b : Nat) (o : Obj) [h : PickPt X b o R] : PickPt (A ++ X) b o (A ++ R) :=
  ⟨(List.Perm.append_left A h.perm).trans (by rw [← List.append_assoc, ← List.append_assoc]; exact List.Perm.append_right _ List.perm_append_comm)⟩

instance (A X R : Fr) (b : Nat) (o : Obj) [h : PickPt A b o R] : PickPt (A ++ X) b o (R ++ X) :=
  ⟨(List.Perm.append_right X h.perm).trans (by rw [List.append_assoc])⟩

class Pick (X : Fr) (A : Fr) (R : outParam Fr) : Prop where
  perm : X.Perm (A ++ R)
instance pickNil (X : Fr) : Pick X [] X := ⟨.refl _⟩
instance pickAll (A : Fr) : Pick A A [] := ⟨by simp⟩
instance pickHere (A R : Fr) : Pick (A ++ R) A R := ⟨.refl _⟩
instance pickSkip (B X A R : Fr) [h : Pick X A R] : Pick (B ++ X) A (B ++ R) :=
  ⟨(List.Perm.append_left B h.perm).trans (by rw [← List.append_assoc, ← List.append_assoc]; exact List.Perm.append_right _ List.perm_append_comm)⟩
instance pickLeft (B X A R : Fr) [h : Pick B A R] : Pick (B ++ X) A (R ++ X) :=
  ⟨(List.Perm.append_right X h.perm).trans (by rw [List.append_assoc])⟩
instance (priority := high) pickTwo (X A B R S : Fr) [h : Pick X A R] [k : Pick R B S] : Pick X (A ++ B) S :=
  ⟨h.perm.trans (by rw [List.append_assoc]; exact List.Perm.append_left A k.perm)⟩

theorem Own.pickPt {E w : World} {X R : Fr} {b : Nat} {o : Obj} (h : Own E w X) [k : PickPt X b o R] : Own E w (pt b o ++ R) := h.perm k.perm
theorem Own.pick {E w : World} {X : Fr} (h : Own E w X) (A : Fr) {R : Fr} [k : Pick X A R] : Own E w (A ++ R) := h.perm k.perm
/-- What is listed, in another order (and less). -/
theorem Own.as {E w : World} {X : Fr} (h : Own E w X) (A : Fr) {R : Fr} [k : Pick X A R] : Own E w A := (h.perm k.perm).left

theorem Own.get {E w : World} {X : Fr} {b : Nat} {o : Obj} (h : Own E w X) [k : Has X b o] : w.heap[b]? = some o := h.mem _ k.mem
theorem Own.hasLt {E w : World} {X : Fr} {b : Nat} {o : Obj} (h : Own E w X) [k : Has X b o] : b < w.heap.size := h.lt k.mem
theorem Own.cell {E w : World} {X : Fr} {b : Nat} {cs : Array Value} {e : TypeId} {f : Nat × Nat} (h : Own E w X) [k : Has X b (.cells cs e f)] (i : Nat) :
    w.cell? ⟨b, i, none⟩ = cs[i]? := by
  simp [World.cell?, h.get (b := b)]

/-- Two blocks of ours are not one. -/
theorem Own.ne {E w : World} {X R : Fr} {b b' : Nat} {o o' : Obj} (h : Own E w X) [k : PickPt X b o R] [k' : Has R b' o'] : b' ≠ b :=
  (h.perm k.perm).fresh _ k'.mem

theorem Own.setCell {E w : World} {X R : Fr} {b : Nat} {cs : Array Value} {e : TypeId} {f : Nat × Nat} (h : Own E w X) [k : PickPt X b (.cells cs e f) R] (i : Nat) (v : Value) :
    Own E (w.setCell ⟨b, i, none⟩ v) (pt b (.cells (cs.setIfInBounds i v) e f) ++ R) := by
  have h' := h.pickPt (b := b)
  have hg : w.heap[b]? = some (.cells cs e f) := h'.get
  refine h'.modify rfl rfl rfl ?_ ?_
  · simp only [World.setCell, Array.getElem?_modify, hg]; simp
  · intro k hk
    exact Below.heap_setCell _ _ _ _ hk


/-! What the blocks of ours hold, cell by cell: rules for the walk -/

def cellsOf (w : World) : Fr → Prop
  | [] => True
  | (b, .cells cs _ f) :: r => ((∀ i, w.cell? ⟨b, i, none⟩ = cs[i]?) ∧ (∀ i, w.frozen? ⟨b, i, none⟩ = (decide (f.1 ≤ i) && decide (i < f.2)))) ∧ cellsOf w r
  | _ :: r => cellsOf w r

theorem cellsOf_append (w : World) (A R : Fr) : cellsOf w (A ++ R) = (cellsOf w A ∧ cellsOf w R) := by
  induction A with
  | nil => simp [cellsOf]
  | cons p A ih =>
    obtain ⟨b, o⟩ := p
    cases o <;> simp [cellsOf, ih, and_assoc]
theorem cellsOf_pt (w : World) (b : Nat) (cs : Array Value) (e : TypeId) : cellsOf w (pt b (.cells cs e (0, 0))) = ((∀ i, w.cell? ⟨b, i, none⟩ = cs[i]?) ∧ (∀ i, w.frozen? ⟨b, i, none⟩ = false)) := by
  simp [cellsOf, pt]

theorem Own.cells {E w : World} {X : Fr} (h : Own E w X) : cellsOf w X := by
  have : ∀ Y : Fr, (∀ p ∈ Y, w.heap[p.1]? = some p.2) → cellsOf w Y := by
    intro Y
    induction Y with
    | nil => intro _; trivial
    | cons p Y ih =>
      intro hm
      have hY := ih (fun q hq => hm q (List.mem_cons_of_mem _ hq))
      have hp := hm p (List.mem_cons_self ..)
      obtain ⟨b, o⟩ := p
      cases o <;> simp only [cellsOf] <;> first
        | exact hY
        | (refine ⟨⟨fun i => ?_, fun i => ?_⟩, hY⟩
           · simp only [World.cell?]; rw [hp]; rfl
           · simp only [World.frozen?]; rw [hp])
  exact this X h.mem

/-! The operations that make or write memory, one law each. What follows is asked of every world in which the new list of blocks holds. -/
section laws
variable {P : Program} {ops : Array Oper} {Q : Exit → Act → World → Prop} {rest : List Oper} {a : Act} {E w : World} {X R : Fr} {d : Option Tmp} {ty : TypeId} {pos : String} {aft : Array Edge} {g : Option (Nat × Bool)}

theorem wpList_run_value {o : Oper} {v : Value} {w1 : World} (hw : Region.wanted o (yielded ops a.tmps) = true) (hr : (execOp a.eval o).run P w = .ok (.value v) w1)
    (next : wpList P ops Q rest (a.put o.dst v) w1) : wpList P ops Q (o :: rest) a w := by
  unfold wpList
  rw [if_pos hw]
  refine .inl ?_
  unfold Oper.wp
  rw [hr]
  exact next
theorem wpList_run_skip {o : Oper} {w1 : World} (hw : Region.wanted o (yielded ops a.tmps) = true) (hr : (execOp a.eval o).run P w = .ok .skip w1)
    (next : wpList P ops Q rest (a.put o.dst undef) w1) : wpList P ops Q (o :: rest) a w := by
  unfold wpList
  rw [if_pos hw]
  refine .inl ?_
  unfold Oper.wp
  rw [hr]
  exact next

theorem own_alloc {t : TypeId} {z : Value} (hO : Own E w X) (hw : Region.wanted ⟨d, .alloc t, ty, pos, aft, g⟩ (yielded ops a.tmps) = true)
    (hz : (zeroValue t).run P w = .ok z w)
    (next : ∀ b w1, Own E w1 (pt b (.cells z.cells t) ++ X) → wpList P ops Q rest (a.put d (.pointer (some ⟨b, 0, none⟩))) w1) :
    wpList P ops Q (⟨d, .alloc t, ty, pos, aft, g⟩ :: rest) a w := by
  refine wpList_run_value (v := .pointer (some ⟨w.heap.size, 0, none⟩)) (w1 := w.alloc (.cells z.cells t)) hw ?_ (next _ _ (hO.alloc _))
  simp [execOp, Instr.alloc, hz, newVar, newRow]

theorem own_box {t : TypeId} {x : Operand} {v : Value} (hO : Own E w X) (hw : Region.wanted ⟨d, .box t x, ty, pos, aft, g⟩ (yielded ops a.tmps) = true)
    (hx : a.eval x = v)
    (next : ∀ b w1, Own E w1 (pt b (.cells v.cells t) ++ X) → wpList P ops Q rest (a.put d (.pointer (some ⟨b, 0, none⟩))) w1) :
    wpList P ops Q (⟨d, .box t x, ty, pos, aft, g⟩ :: rest) a w := by
  refine wpList_run_value (v := .pointer (some ⟨w.heap.size, 0, none⟩)) (w1 := w.alloc (.cells v.cells t)) hw ?_ (next _ _ (hO.alloc _))
  simp [execOp, Instr.box, hx, newVar, newRow]

/-- What a store of these cells makes of a row. -/
def splice (cs : Array Value) (i : Nat) : List Value → Array Value
  | [] => cs
  | v :: vs => splice (cs.setIfInBounds i v) (i + 1) vs

theorem splice_size (vs : List Value) : ∀ (cs : Array Value) (i : Nat), (splice cs i vs).size = cs.size := by
  induction vs with
  | nil => intro cs i; rfl
  | cons v vs ih => intro cs i; simp [splice, ih]

theorem run_storeCells_own {b off : Nat} {e : TypeId} (vs : List Value) : ∀ (i : Nat) (cs : Array Value) (w : World) (X R : Fr), Own E w X → PickPt X b (.cells cs e (0, 0)) R →
    (∀ v ∈ vs, v.oneCell' = true) → off + i + vs.length ≤ cs.size →
    ∃ w1, (storeCells ⟨b, off, none⟩ vs i).run P w = .ok () w1 ∧ Own E w1 (pt b (.cells (splice cs (off + i) vs) e (0, 0)) ++ R) := by
  induction vs with
  | nil => intro i cs w X R hO hp _ _; exact ⟨w, rfl, hO.pickPt⟩
  | cons v vs ih =>
    intro i cs w X R hO hp h1 hl
    have hg : w.heap[b]? = some (.cells cs e (0, 0)) := (hO.pickPt (b := b)).get
    have hadd : (⟨b, off, none⟩ : Addr).add i = ⟨b, off + i, none⟩ := by unfold Addr.add; split <;> simp_all
    have hlt : off + i < cs.size := by simp at hl; omega
    have hc : w.cell? ⟨b, off + i, none⟩ = some cs[off + i] := by simp [World.cell?, hg, hlt]
    have hf : w.frozen? ⟨b, off + i, none⟩ = false := by simp [World.frozen?, hg]
    have hO1 := hO.setCell (b := b) (off + i) v
    obtain ⟨w1, hr, hO2⟩ := ih (i + 1) (cs.setIfInBounds (off + i) v) _ _ R hO1 ⟨.refl _⟩ (fun u hu => h1 u (List.mem_cons_of_mem _ hu)) (by simp at hl ⊢; omega)
    refine ⟨w1, ?_, hO2⟩
    have hs := run_store P w ⟨b, off + i, none⟩ v .plain (h1 v (List.mem_cons_self ..))
    simp only [hc, hf, Bool.false_eq_true, if_false] at hs
    simp only [storeCells, hadd, Sem.run_bind, hs, Result.andThen_ok]
    exact hr

theorem own_store {t : TypeId} {x y : Operand} {v : Value} {b off : Nat} {cs : Array Value} {e : TypeId} (hO : Own E w X) (hw : Region.wanted ⟨d, .store t x y, ty, pos, aft, g⟩ (yielded ops a.tmps) = true)
    (hx : a.eval x = .pointer (some ⟨b, off, none⟩)) (hy : a.eval y = v) [hp : PickPt X b (.cells cs e (0, 0)) R]
    (hs : (sizeOf t).run P w = .ok v.cells.size w) (h1 : ∀ u ∈ v.cells.toList, u.oneCell' = true) (hl : off + v.cells.size ≤ cs.size)
    (next : ∀ w1, Own E w1 (pt b (.cells (splice cs off v.cells.toList) e (0, 0)) ++ R) → wpList P ops Q rest (a.put d undef) w1) :
    wpList P ops Q (⟨d, .store t x y, ty, pos, aft, g⟩ :: rest) a w := by
  obtain ⟨w1, hr, hO1⟩ := run_storeCells_own (P := P) (off := off) v.cells.toList 0 cs w X R hO hp h1 (by simpa using hl)
  refine wpList_run_skip (w1 := w1) hw ?_ (next w1 hO1)
  simp [execOp, Instr.storeAt, Instr.sureAddr, hx, hy, storeVar, hs, hr]

end laws
/-! A region that draws its order: the operations that only look ('true') are taken first, whatever the tape says; each of the others ('false') is the only one that may come up when its turn is there. -/
section mix
variable {P : Program} {ops : Array Oper} {Q : Exit → Act → World → Prop} {S : World → Prop}

def mixB (ops : Array Oper) : List (Nat × Bool) → Array Bool → Bool
  | [], listed => (Region.ready .any ops listed).isEmpty
  | (i, true) :: s, listed => (Region.ready .any ops listed).contains i && Region.free .any ops listed i && mixB ops s (listed.setIfInBounds i true)
  | (i, false) :: s, listed => decide (Region.ready .any ops listed = [i]) && mixB ops s (listed.setIfInBounds i true)

def mixL (P : Program) (ops : Array Oper) (Q : Exit → Act → World → Prop) (S : World → Prop) : List (Oper × Bool) → Act → World → Prop
  | [], a, w => Q .normal a w
  | (o, true) :: r, a, w => ∃ v, YieldsIf P ops S o v a ∧ mixL P ops Q S r (a.put o.dst v) w
  | (o, false) :: r, a, w => wpList P ops (fun e a' w' => match e with | .normal => S w' ∧ mixL P ops Q S r a' w' | e => Q e a' w') [o] a w

def mixOps (ops : Array Oper) (s : List (Nat × Bool)) : List (Oper × Bool) := s.map fun p => (ops.getD p.1 default, p.2)

theorem wpAnyH_of_mix (hsel : Region.noSelect ops = true) (hQ : ∀ c a d v w, Q (.panic c) (a.put d v) w → Q (.panic c) a w) : ∀ (s : List (Nat × Bool)) (listed : Array Bool) (a : Act) (w : World), mixB ops s listed = true → S w →
    mixL P ops Q S (mixOps ops s) a w → wpAnyH P .any ops Q S s.length listed a w
  | [], listed, a, w, hB, _, h => ⟨by simpa [mixB] using hB, h⟩
  | (i, true) :: s, listed, a, w, hB, hS, h => by
    simp only [mixB, Bool.and_eq_true] at hB
    obtain ⟨⟨hr, hf⟩, hB'⟩ := hB
    have hr' : i ∈ Region.ready .any ops listed := by simpa using hr
    obtain ⟨_, o, ho, _⟩ := mem_ready.1 hr'
    simp only [mixOps, List.map_cons, mixL] at h
    have hd : ops.getD i default = o := by simp [ho]
    rw [hd] at h
    obtain ⟨v, hy, h⟩ := h
    exact wpAnyH_first ho (Region.noSelect_spec hsel) (fun c a w => hQ c a _ _ w) s.length listed a w (Region.free_spec ho hf) hr' hy hS
      (wpAnyH_of_mix hsel hQ s _ _ _ hB' hS h)
  | (i, false) :: s, listed, a, w, hB, hS, h => by
    simp only [mixB, Bool.and_eq_true, decide_eq_true_eq] at hB
    obtain ⟨hr, hB'⟩ := hB
    have hr' : i ∈ Region.ready .any ops listed := by rw [hr]; simp
    obtain ⟨_, o, ho, _⟩ := mem_ready.1 hr'
    simp only [mixOps, List.map_cons, mixL] at h
    have hd : ops.getD i default = o := by simp [ho]
    rw [hd] at h
    refine ⟨fun h0 => (by rw [h0] at hr; cases hr), fun j hj => ?_⟩
    rw [hr] at hj
    have hji : j = i := by simpa using hj
    subst hji
    unfold wpOp
    simp only [ho]
    unfold wpList at h
    split at h
    · rename_i hw
      rw [if_pos hw]
      rcases h with h | h
      · refine .inl ?_
        unfold Oper.wp at *
        generalize (execOp a.eval o).run P w = r at *
        have fin : ∀ a' w', wpList P ops (fun e a' w' => match e with | .normal => S w' ∧ mixL P ops Q S (mixOps ops s) a' w' | e => Q e a' w') [] a' w' →
            S w' ∧ wpAnyH P .any ops Q S s.length (listed.setIfInBounds j true) a' w' := fun a' w' h => ⟨h.1, wpAnyH_of_mix hsel hQ s _ _ _ hB' h.1 h.2⟩
        cases r with
        | ok n w' =>
          cases n <;> simp only [Oper.upon] at h ⊢ <;> first
            | exact fin _ _ h
            | exact Calls.mono h (fun e w'' he => by cases e <;> first | exact fin _ _ he | exact he)
            | exact Rows.mono h (fun _ _ he => fin _ _ he)
        | halt x w' => cases x <;> simp only [Oper.upon] at h ⊢ <;> exact h
      · exact .inr h
    · rename_i hw
      rw [if_neg hw]
      exact ⟨h.1, wpAnyH_of_mix hsel hQ s _ _ _ hB' h.1 h.2⟩

theorem region_mix {id : Nat} {a : Act} {w : World} {l : List Oper} (S : World → Prop) (s : List (Nat × Bool)) (hm : P.follows .mixedOrders = true)
    (hB : (Region.noSelect l.toArray && decide (s.length = l.length) && mixB l.toArray s (Array.replicate l.length false)) = true)
    (hQ : ∀ c a d v w, Q (.panic c) (a.put d v) w → Q (.panic c) a w) (hS : S w.drew)
    (h : mixL P l.toArray Q S (mixOps l.toArray s) a w.drew) : (Code.region id l.toArray true).wp P Q a w := by
  simp only [Bool.and_eq_true, decide_eq_true_eq] at hB
  obtain ⟨⟨hsel, hlen⟩, hB⟩ := hB
  refine wp_region_any hm (wpAny_of_held (S := S) _ _ _ _ ?_)
  have := wpAnyH_of_mix hsel hQ s _ a w.drew hB hS h
  rw [hlen] at this
  simpa using this

theorem mix_look {o : Oper} {r : List (Oper × Bool)} {a : Act} {w : World} {v : Value} (hw : Region.wanted o (yielded ops a.tmps) = true) (hy : ∀ w, S w → (execOp a.eval o).run P w = .ok (.value v) w)
    (h : mixL P ops Q S r (a.put o.dst v) w) : mixL P ops Q S ((o, true) :: r) a w := ⟨v, .inl ⟨hw, hy⟩, h⟩
theorem mix_pass {o : Oper} {r : List (Oper × Bool)} {a : Act} {w : World} (hw : Region.wanted o (yielded ops a.tmps) = false)
    (h : mixL P ops Q S r (a.put o.dst undef) w) : mixL P ops Q S ((o, true) :: r) a w := ⟨undef, .inr ⟨hw, rfl⟩, h⟩
theorem mix_act {o : Oper} {r : List (Oper × Bool)} {a : Act} {w : World}
    (h : wpList P ops (fun e a' w' => match e with | .normal => S w' ∧ mixL P ops Q S r a' w' | e => Q e a' w') [o] a w) : mixL P ops Q S ((o, false) :: r) a w := h
theorem mix_done {a : Act} {w : World} (h : Q .normal a w) : mixL P ops Q S [] a w := h
end mix

section still
variable {P : Program} {Q : Exit → Act → World → Prop} {a : Act} {E w : World} {X : Fr}
/-- A region that draws its order and only looks, behind a world of which the blocks alone are known. -/
theorem own_still {id : Nat} {l : List Oper} (hm : P.follows .mixedOrders = true) (hB : Region.lexB .any l.toArray = true) (hO : Own E w X)
    (h : ∀ w1, Own E w1 X → wpStill P l.toArray w1 (fun a' => Q .normal a' w1) l a) : (Code.region id l.toArray true).wp P Q a w :=
  wp_region_still_lit hm hB (h _ hO.drew)
theorem own_still_tail {id : Nat} {l : List Oper} (n : Nat) (hm : P.follows .mixedOrders = true) (hB : Region.lexTailB .any l.toArray n = true) (hO : Own E w X)
    (h : ∀ w1, Own E w1 X → wpStill P l.toArray w1 (fun a' => wpList P l.toArray Q (l.drop n) a' w1) (l.take n) a) : (Code.region id l.toArray true).wp P Q a w :=
  wp_region_still_tail n hm hB (h _ hO.drew)
end still

/-! Guards for an arm: at which operation does the walk stand? -/
section guards
variable {P : Program} {ops : Array Oper} {Q : Exit → Act → World → Prop} {rest : List Oper} {a : Act} {w : World} {d : Option Tmp} {ty : TypeId} {pos : String} {aft : Array Edge} {g : Option (Nat × Bool)}
theorem at_bs {t k ps} (h : wpList P ops Q (⟨d, .buildSlice t k ps, ty, pos, aft, g⟩ :: rest) a w) : wpList P ops Q (⟨d, .buildSlice t k ps, ty, pos, aft, g⟩ :: rest) a w := h
theorem at_box {t x} (h : wpList P ops Q (⟨d, .box t x, ty, pos, aft, g⟩ :: rest) a w) : wpList P ops Q (⟨d, .box t x, ty, pos, aft, g⟩ :: rest) a w := h
theorem at_alloc {t} (h : wpList P ops Q (⟨d, .alloc t, ty, pos, aft, g⟩ :: rest) a w) : wpList P ops Q (⟨d, .alloc t, ty, pos, aft, g⟩ :: rest) a w := h
theorem at_store {t x y} (h : wpList P ops Q (⟨d, .store t x y, ty, pos, aft, g⟩ :: rest) a w) : wpList P ops Q (⟨d, .store t x y, ty, pos, aft, g⟩ :: rest) a w := h
theorem at_load {t x} (h : wpList P ops Q (⟨d, .load t x, ty, pos, aft, g⟩ :: rest) a w) : wpList P ops Q (⟨d, .load t x, ty, pos, aft, g⟩ :: rest) a w := h
theorem at_conv {s t x} (h : wpList P ops Q (⟨d, .convert s t x, ty, pos, aft, g⟩ :: rest) a w) : wpList P ops Q (⟨d, .convert s t x, ty, pos, aft, g⟩ :: rest) a w := h
theorem at_mks {t l c} (h : wpList P ops Q (⟨d, .makeSlice t l c, ty, pos, aft, g⟩ :: rest) a w) : wpList P ops Q (⟨d, .makeSlice t l c, ty, pos, aft, g⟩ :: rest) a w := h
theorem at_append {x ats} (h : wpList P ops Q (⟨d, .call { callee := .builtin .append, args := x, argTypes := ats }, ty, pos, aft, g⟩ :: rest) a w) : wpList P ops Q (⟨d, .call { callee := .builtin .append, args := x, argTypes := ats }, ty, pos, aft, g⟩ :: rest) a w := h
theorem at_copy {x ats} (h : wpList P ops Q (⟨d, .call { callee := .builtin .copy, args := x, argTypes := ats }, ty, pos, aft, g⟩ :: rest) a w) : wpList P ops Q (⟨d, .call { callee := .builtin .copy, args := x, argTypes := ats }, ty, pos, aft, g⟩ :: rest) a w := h
end guards

/-! All that was there when the call began -/
def oldFr (w : World) : Fr := (List.range w.heap.size).map fun i => (i, w.heap.getD i (.map #[] 0))
theorem oldFr_mem {w : World} {b : Nat} {o : Obj} (h : w.heap[b]? = some o) : (b, o) ∈ oldFr w := by
  obtain ⟨hb, ho⟩ := Array.getElem?_eq_some_iff.1 h
  exact List.mem_map.2 ⟨b, List.mem_range.2 hb, by simp [hb, ho]⟩
theorem Own.old (w : World) : Own w w (oldFr w) := by
  refine ⟨rfl, rfl, rfl, ?_, ?_⟩
  · have : (oldFr w).map (·.1) = List.range w.heap.size := by
      simp only [oldFr, List.map_map]
      conv => rhs; rw [← List.map_id (List.range w.heap.size)]
      rfl
    rw [this]
    exact List.nodup_range
  · intro p hp
    obtain ⟨i, hi, rfl⟩ := List.mem_map.1 hp
    have hi' := List.mem_range.1 hi
    simp [hi']
theorem Own.below {w w' : World} (h : Own w w' (oldFr w)) : Below w.heap.size w w' := by
  refine ⟨h.os, h.tape, h.output, ?_, ?_⟩
  · rcases Nat.eq_zero_or_pos w.heap.size with h0 | h0
    · omega
    · have hb : w.heap[w.heap.size - 1]? = some (w.heap[w.heap.size - 1]'(by omega)) := Array.getElem?_eq_getElem (by omega)
      have := h.lt (oldFr_mem hb)
      omega
  · intro k hk
    have hb : w.heap[k]? = some (w.heap[k]'hk) := Array.getElem?_eq_getElem hk
    rw [h.mem _ (oldFr_mem hb), hb]
end Go.Own

/- Slices that own their row: 'Sl e sz a n cap xs A' says that the slice value (a, n, cap) has the cells xs, and that A is its block. -/
namespace Go.Own
open Go.RowKit

def Sl (e : TypeId) (sz : Nat) (a : Option Addr) (n cap : Nat) (xs : List Value) (A : Fr) : Prop :=
  xs.length = n * sz ∧ n ≤ cap ∧ cap ≤ maxLen ∧
  ((a = none ∧ cap = 0 ∧ A = []) ∨ ∃ b rest, a = some ⟨b, 0, none⟩ ∧ (xs ++ rest).length = cap * sz ∧ A = pt b (.cells (xs ++ rest).toArray e (0, 0)))

theorem Sl.nil (e : TypeId) (sz : Nat) : Sl e sz none 0 0 [] [] := ⟨by simp, by simp, by simp, .inl ⟨rfl, rfl, rfl⟩⟩

theorem Sl.mk {e : TypeId} {sz b n cap : Nat} {xs rest : List Value} (h1 : xs.length = n * sz) (h2 : n ≤ cap) (h3 : cap ≤ maxLen) (h4 : (xs ++ rest).length = cap * sz) :
    Sl e sz (some ⟨b, 0, none⟩) n cap xs (pt b (.cells (xs ++ rest).toArray e (0, 0))) := ⟨h1, h2, h3, .inr ⟨b, rest, rfl, h4, rfl⟩⟩

theorem Sl.len {e : TypeId} {sz : Nat} {a : Option Addr} {n cap : Nat} {xs : List Value} {A : Fr} (h : Sl e sz a n cap xs A) : xs.length = n * sz := h.1
theorem Sl.le {e : TypeId} {sz : Nat} {a : Option Addr} {n cap : Nat} {xs : List Value} {A : Fr} (h : Sl e sz a n cap xs A) : n ≤ cap := h.2.1
theorem Sl.cap_le {e : TypeId} {sz : Nat} {a : Option Addr} {n cap : Nat} {xs : List Value} {A : Fr} (h : Sl e sz a n cap xs A) : cap ≤ maxLen := h.2.2.1

/-- A slice of its first m elements. -/
theorem Sl.take {e : TypeId} {sz : Nat} {a : Option Addr} {n cap : Nat} {xs : List Value} {A : Fr} (h : Sl e sz a n cap xs A) (m : Nat) (hm : m ≤ n) :
    Sl e sz a m cap (xs.take (m * sz)) A := by
  obtain ⟨h1, h2, h3, h4⟩ := h
  have hms : m * sz ≤ n * sz := Nat.mul_le_mul_right _ hm
  refine ⟨by rw [List.length_take]; omega, by omega, h3, ?_⟩
  rcases h4 with ⟨ha, hc, hA⟩ | ⟨b, rest, ha, hl, hA⟩
  · exact .inl ⟨ha, hc, hA⟩
  · refine .inr ⟨b, xs.drop (m * sz) ++ rest, ha, ?_, ?_⟩
    · rw [← List.append_assoc, List.take_append_drop]; exact hl
    · rw [← List.append_assoc, List.take_append_drop]; exact hA

theorem add_lit (b o j : Nat) : (⟨b, o, none⟩ : Addr).add j = ⟨b, o + j, none⟩ := by
  unfold Addr.add; split <;> simp_all

/-- The cells of such a slice. -/
theorem Sl.cell {E w : World} {X R A : Fr} {e : TypeId} {sz : Nat} {a : Option Addr} {n cap : Nat} {xs : List Value} (h : Sl e sz a n cap xs A) (hO : Own E w X) [hp : Pick X A R]
    (ad : Addr) (ha : a = some ad) (j : Nat) (hj : j < xs.length) : w.cell? (ad.add j) = some (xs[j]) := by
  obtain ⟨h1, h2, h3, h4⟩ := h
  rcases h4 with ⟨ha', _, _⟩ | ⟨b, rest, ha', hl, hA⟩
  · rw [ha'] at ha; cases ha
  · rw [ha'] at ha
    obtain rfl := Option.some.inj ha
    have hO1 : Own E w (A ++ R) := hO.perm hp.perm
    subst hA
    rw [add_lit, hO1.cell (b := b)]
    simp [List.getElem?_append_left hj, hj]

theorem Sl.firstCells {P : Program} {E w : World} {X R A : Fr} {e : TypeId} {sz : Nat} {a : Option Addr} {n cap : Nat} {xs : List Value} (h : Sl e sz a n cap xs A) (hO : Own E w X) [hp : Pick X A R] :
    (Builtin.firstCells sz n (.slice a n cap)).run P w = .ok xs.toArray w := by
  cases ha : a with
  | none =>
    have : n = 0 := by
      have h2 := h.2.1
      rcases h.2.2.2 with ⟨_, hc, _⟩ | ⟨b, rest, hb, _⟩
      · omega
      · rw [ha] at hb; cases hb
    have hx : xs = [] := List.eq_nil_of_length_eq_zero (by rw [h.1, this]; simp)
    subst hx
    simp [Builtin.firstCells]
  | some ad =>
    subst ha
    refine run_firstCells_some w sz n ad n cap xs h.1 ?_
    intro j v hj
    obtain ⟨hlt, hv⟩ := List.getElem?_eq_some_iff.1 hj
    rw [h.cell hO ad rfl j hlt, hv]

theorem splice_append (vs : List Value) : ∀ (pre post : List Value), vs.length ≤ post.length → splice (pre ++ post).toArray pre.length vs = (pre ++ vs ++ post.drop vs.length).toArray := by
  induction vs with
  | nil => intro pre post _; simp [splice]
  | cons v vs ih =>
    intro pre post h
    match post, h with
    | p :: post, h =>
      have h' : vs.length ≤ post.length := by simpa using h
      have := ih (pre ++ [v]) post h'
      simp only [splice]
      rw [show ((pre ++ p :: post).toArray.setIfInBounds pre.length v) = ((pre ++ [v]) ++ post).toArray by simp]
      rw [show pre.length + 1 = (pre ++ [v]).length by simp, this]
      simp

section
variable {P : Program} {E w : World} {X A R : Fr} {e : TypeId} {sz bytes : Nat} {a : Option Addr} {n cap : Nat} {xs : List Value}

/-- append, whatever is appended: the cells 'news' of m elements. -/
theorem run_append_slG (t tx ty : TypeId) (i : TypeInfo) (z : Value) (ht : P.underlying t = some (.slice e)) (hi : P.info? e = some i) (hz : i.zero = some z)
    (hsize : i.size = sz) (hby : i.bytes = bytes) (hzs : z.cells.size = sz) (htx : P.underlying tx = some (.slice e) ∨ P.underlying tx = some .string)
    (hO : Own E w X) (hv : Sl e sz a n cap xs A) [hp : Pick X A R] (x : Value) (m : Nat) (news : List Value)
    (hlen : ∀ w, (Builtin.lenOf x).run P w = .ok m w) (hnews : ∀ w', Own E w' X → (Builtin.firstCells sz m x).run P w' = .ok news.toArray w')
    (hl : news.length = m * sz) (h1 : ∀ u ∈ news, u.oneCell' = true) (h63 : n + m ≤ maxLen) (hb : cap < n + m → Builtin.nextslicecap (n + m) cap * bytes ≤ 281474976710656) :
    ∃ a' cap' A' w', (Builtin.append_ #[t, tx] ty #[.slice a n cap, x]).run P w = .ok (.slice a' (n + m) cap') w' ∧ Sl e sz a' (n + m) cap' (xs ++ news) A' ∧ Own E w' (A' ++ R) := by
  subst hsize hby
  have hO1 : Own E w (A ++ R) := hO.perm hp.perm
  have hxs : (xs ++ news).length = (n + m) * i.size := by rw [List.length_append, hv.1, hl, Nat.add_mul]
  by_cases hroom : n + m ≤ cap
  · -- there is room
    rcases hv.2.2.2 with ⟨ha, hc, hA⟩ | ⟨b, rest, ha, hl4, hA⟩
    · subst ha hA
      have hn0 : n = 0 := by omega
      have hm0 : m = 0 := by omega
      subst hn0 hm0
      have hx0 : xs = [] := List.eq_nil_of_length_eq_zero (by simpa using hv.1)
      have hw0 : news = [] := List.eq_nil_of_length_eq_zero (by simpa using hl)
      subst hx0 hw0 hc
      refine ⟨none, 0, [], w, ?_, Sl.nil _ _, hO1⟩
      have hf := hnews w hO
      rcases htx with hu | hu <;> simp [Builtin.append_, run_underlying ht, run_underlying hu, sizeOf, typeInfo, hi, hlen, hf]
    · subst ha hA
      have hf := hnews w hO
      have hn1 : n * i.size = xs.length := hv.1.symm
      obtain ⟨w1, hst, hO2⟩ := run_storeCells_own (P := P) (b := b) (off := n * i.size) (e := e) news 0 (xs ++ rest).toArray w _ R hO1 inferInstance h1 (by
        have hle := Nat.mul_le_mul_right i.size hroom
        simp only [List.size_toArray, hl4]; rw [hl, Nat.add_zero, ← Nat.add_mul]; exact hle)
      have hsp : splice (xs ++ rest).toArray (n * i.size + 0) news = ((xs ++ news) ++ rest.drop news.length).toArray := by
        rw [Nat.add_zero, hn1]
        refine splice_append news xs rest ?_
        have hle := Nat.mul_le_mul_right i.size hroom
        rw [Nat.add_mul, ← hl4, List.length_append, hn1, ← hl] at hle
        omega
      rw [hsp] at hO2
      refine ⟨some ⟨b, 0, none⟩, cap, _, w1, ?_, ⟨hxs, hroom, hv.2.2.1, .inr ⟨b, rest.drop news.length, rfl, ?_, rfl⟩⟩, hO2⟩
      · simp only [Builtin.append_, add_lit]
        rcases htx with hu | hu <;> simp [run_underlying ht, run_underlying hu, sizeOf, typeInfo, hi, hlen, hf, hroom, add_lit, hst]
      · have hle := Nat.mul_le_mul_right i.size hroom
        rw [Nat.add_mul, ← hl] at hle
        rw [← hl4]
        rw [← hl4] at hle
        simp only [List.length_append, List.length_drop] at hle ⊢
        omega
  · -- a new row
    have h63' : ¬ (9223372036854775807 < ((n : Int) + (m : Int))) := by simp only [maxLen] at h63; omega
    have hfit : ¬ (281474976710656 < Builtin.nextslicecap (n + m) cap * i.bytes) := by
      have := hb (by omega)
      omega
    have hf := hnews w.drew hO.drew
    have hfo := hv.firstCells (P := P) hO.drew
    have hO2 := (hO1.drew).alloc (.cells (xs.toArray ++ news.toArray ++ Builtin.zeroCells z.cells (grownCap w (n + m) cap e - (n + m))) e)
    have hge := grownCap_ge w (n + m) cap e
    refine ⟨some ⟨w.heap.size, 0, none⟩, grownCap w (n + m) cap e, pt w.heap.size (.cells ((xs ++ news) ++ (Builtin.zeroCells z.cells (grownCap w (n + m) cap e - (n + m))).toList).toArray e (0, 0)),
      w.drew.alloc (.cells (xs.toArray ++ news.toArray ++ Builtin.zeroCells z.cells (grownCap w (n + m) cap e - (n + m))) e), ?_, ?_, ?_⟩
    · rcases htx with hu | hu <;> simp [Builtin.append_, run_underlying ht, run_underlying hu, sizeOf, typeInfo, zeroValue, hi, hz, hlen, hroom, h63', hfit, Question.forced, hf, hfo, newRow, grownCap] <;> (congr 2; apply Array.ext'; simp [List.append_assoc])
    · refine Sl.mk hxs hge (grownCap_le_maxLen w _ _ _ h63) ?_
      rw [List.length_append, hxs, Array.length_toList, size_zeroCells, hzs, ← Nat.add_mul]
      congr 1
      omega
    · have e1 : (xs.toArray ++ news.toArray ++ Builtin.zeroCells z.cells (grownCap w (n + m) cap e - (n + m))) = ((xs ++ news) ++ (Builtin.zeroCells z.cells (grownCap w (n + m) cap e - (n + m))).toList).toArray := by
        apply Array.ext'; simp
      rw [e1] at hO2
      have hO3 : Own E _ _ := hO2
      have hdr : ((pt w.heap.size (.cells ((xs ++ news) ++ (Builtin.zeroCells z.cells (grownCap w (n + m) cap e - (n + m))).toList).toArray e (0, 0))) ++ (A ++ R)).Perm (A ++ ((pt w.heap.size (.cells ((xs ++ news) ++ (Builtin.zeroCells z.cells (grownCap w (n + m) cap e - (n + m))).toList).toArray e (0, 0))) ++ R)) := by
        rw [← List.append_assoc, ← List.append_assoc]; exact List.Perm.append_right _ List.perm_append_comm
      rw [e1]
      exact (hO3.perm hdr).right


theorem run_append_sl (t tx ty : TypeId) (i : TypeInfo) (z : Value) (ht : P.underlying t = some (.slice e)) (hi : P.info? e = some i) (hz : i.zero = some z)
    (hsize : i.size = sz) (hby : i.bytes = bytes) (hzs : z.cells.size = sz) (htx : P.underlying tx = some (.slice e) ∨ P.underlying tx = some .string)
    (hO : Own E w X) (hv : Sl e sz a n cap xs A) [hp : Pick X A R] (x : Value) (m : Nat) (news : List Value)
    (hlen : ∀ w, (Builtin.lenOf x).run P w = .ok m w) (hnews : ∀ w', Own E w' X → (Builtin.firstCells sz m x).run P w' = .ok news.toArray w')
    (hl : news.length = m * sz) (h1 : ∀ u ∈ news, u.oneCell' = true) (h63 : n + m ≤ maxLen) (hb : (n + m) * bytes ≤ 140737488355328 ∨ (m = 1 ∧ n * bytes ≤ 140737488355328 ∧ bytes ≤ 281474976710656)) :
    ∃ a' cap' A' w', (Builtin.append_ #[t, tx] ty #[.slice a n cap, x]).run P w = .ok (.slice a' (n + m) cap') w' ∧ Sl e sz a' (n + m) cap' (xs ++ news) A' ∧ Own E w' (A' ++ R) := by
  refine run_append_slG t tx ty i z ht hi hz hsize hby hzs htx hO hv x m news hlen hnews hl h1 h63 fun hcap => ?_
  rcases hb with hb | ⟨hm1, hb1, hb2⟩
  · exact growslice_fits hcap hb
  · have hcn : cap = n := by have := hv.2.1; omega
    subst hm1 hcn
    exact growslice_fits_succ hb1 hb2


/-- append of n noughts (the compiler's form of append(s, make([]T, n)...)). -/
theorem run_append_zeros (t tx ty : TypeId) (i : TypeInfo) (z : Value) (ht : P.underlying t = some (.slice e)) (hi : P.info? e = some i) (hz : i.zero = some z)
    (hsize : i.size = sz) (hby : i.bytes = bytes) (hzs : z.cells.size = sz) (htx : P.underlying tx = some (.int .i64))
    (hO : Own E w X) (hv : Sl e sz a n cap xs A) [hp : Pick X A R] (m : Nat)
    (h1 : ∀ u ∈ z.cells.toList, u.oneCell' = true) (h63 : n + m ≤ maxLen) (hbp : 0 < bytes) (hb : (n + m) * bytes ≤ 140737488355328) :
    ∃ a' cap' A' w', (Builtin.append_ #[t, tx] ty #[.slice a n cap, .int .i64 m]).run P w = .ok (.slice a' (n + m) cap') w' ∧ Sl e sz a' (n + m) cap' (xs ++ (Builtin.zeroCells z.cells m).toList) A' ∧ Own E w' (A' ++ R) := by
  subst hsize hby
  have hO1 : Own E w (A ++ R) := hO.perm hp.perm
  have hl : (Builtin.zeroCells z.cells m).toList.length = m * i.size := by rw [Array.length_toList, size_zeroCells, hzs]
  have h1' : ∀ u ∈ (Builtin.zeroCells z.cells m).toList, u.oneCell' = true := by
    intro u hu
    simp only [Builtin.zeroCells, Array.toList_map, List.mem_map] at hu
    obtain ⟨k, hk, rfl⟩ := hu
    have hkm : k < m * z.cells.size := by simpa using hk
    have hpos : 0 < z.cells.size := by
      rcases Nat.eq_zero_or_pos z.cells.size with h0 | h0
      · rw [h0] at hkm; omega
      · exact h0
    have hlt : k % z.cells.size < z.cells.size := Nat.mod_lt _ hpos
    rw [getElem!_pos z.cells (k % z.cells.size) hlt]
    exact h1 _ (Array.getElem_mem_toList hlt)
  have hxs : (xs ++ (Builtin.zeroCells z.cells m).toList).length = (n + m) * i.size := by rw [List.length_append, hv.1, hl, Nat.add_mul]
  have hm1 : (n + m) * 1 ≤ (n + m) * i.bytes := Nat.mul_le_mul_left _ hbp
  have hm2 : m * i.bytes ≤ (n + m) * i.bytes := Nat.mul_le_mul_right _ (by omega)
  have hwrap : IntKind.i64.wrap (m : Int) = m := by
    have h := IntWalk.i64_in (n := (m : Int)) (by omega)
    exact h
  have hnn : ¬ ((m : Int) < 0) := by omega
  have hmb : ¬ (281474976710656 < (m : Int) * (i.bytes : Int)) := by
    have : ((m * i.bytes : Nat) : Int) = (m : Int) * (i.bytes : Int) := by simp
    omega
  have hz0 : m * i.size = 0 → Builtin.zeroCells z.cells m = #[] := by
    intro h0
    apply Array.eq_empty_of_size_eq_zero
    rw [size_zeroCells, hzs]; exact h0
  by_cases hroom : n + m ≤ cap
  · rcases hv.2.2.2 with ⟨ha, hc, hA⟩ | ⟨b, rest, ha, hl4, hA⟩
    · subst ha hA
      have hn0 : n = 0 := by omega
      have hm0 : m = 0 := by omega
      subst hn0 hm0
      have hx0 : xs = [] := List.eq_nil_of_length_eq_zero (by simpa using hv.1)
      subst hx0 hc
      refine ⟨none, 0, [], w, ?_, ?_, hO1⟩
      · simp [Builtin.append_, run_underlying ht, run_underlying htx, sizeOf, typeInfo, hi, asInt, asIntOf, hwrap, hnn, hmb]
        simp at hwrap
        simp [hwrap]
      · have : (Builtin.zeroCells z.cells 0).toList = [] := List.eq_nil_of_length_eq_zero (by rw [hl]; simp)
        rw [this]; exact Sl.nil _ _
    · subst ha hA
      have hn1 : n * i.size = xs.length := hv.1.symm
      obtain ⟨w1, hst, hO2⟩ := run_storeCells_own (P := P) (b := b) (off := n * i.size) (e := e) (Builtin.zeroCells z.cells m).toList 0 (xs ++ rest).toArray w _ R hO1 inferInstance h1' (by
        have hle := Nat.mul_le_mul_right i.size hroom
        simp only [List.size_toArray, hl4]; rw [hl, Nat.add_zero, ← Nat.add_mul]; exact hle)
      have hsp : splice (xs ++ rest).toArray (n * i.size + 0) (Builtin.zeroCells z.cells m).toList = ((xs ++ (Builtin.zeroCells z.cells m).toList) ++ rest.drop (Builtin.zeroCells z.cells m).toList.length).toArray := by
        rw [Nat.add_zero, hn1]
        refine splice_append _ xs rest ?_
        have hle := Nat.mul_le_mul_right i.size hroom
        rw [Nat.add_mul, ← hl4, List.length_append, hn1, ← hl] at hle
        omega
      rw [hsp] at hO2
      refine ⟨some ⟨b, 0, none⟩, cap, _, w1, ?_, ⟨hxs, hroom, hv.2.2.1, .inr ⟨b, rest.drop (Builtin.zeroCells z.cells m).toList.length, rfl, ?_, rfl⟩⟩, hO2⟩
      · simp only [Builtin.append_]
        simp [run_underlying ht, run_underlying htx, sizeOf, typeInfo, hi, asInt, asIntOf, hwrap, hnn, hmb, hroom, add_lit]
        split
        · rename_i h0
          rw [hz0 h0] at hst
          simp at hst
          simp [hst]
        · simp [zeroValue, typeInfo, hi, hz, hst]
      · have hle := Nat.mul_le_mul_right i.size hroom
        rw [Nat.add_mul, ← hl] at hle
        rw [← hl4]
        rw [← hl4] at hle
        simp only [List.length_append, List.length_drop] at hle ⊢
        omega
  · have h63' : ¬ (9223372036854775807 < ((n : Int) + (m : Int)) ) := by omega
    have hfit : ¬ (281474976710656 < Builtin.nextslicecap (n + m) cap * i.bytes) := by
      have hcap : cap < n + m := by omega
      have := growslice_fits hcap hb; omega
    have hfo := hv.firstCells (P := P) hO.drew
    have hO2 := (hO1.drew).alloc (.cells (xs.toArray ++ (Builtin.zeroCells z.cells m) ++ Builtin.zeroCells z.cells (grownCap w (n + m) cap e - (n + m))) e)
    have hge := grownCap_ge w (n + m) cap e
    refine ⟨some ⟨w.heap.size, 0, none⟩, grownCap w (n + m) cap e, pt w.heap.size (.cells ((xs ++ (Builtin.zeroCells z.cells m).toList) ++ (Builtin.zeroCells z.cells (grownCap w (n + m) cap e - (n + m))).toList).toArray e (0, 0)),
      w.drew.alloc (.cells (xs.toArray ++ (Builtin.zeroCells z.cells m) ++ Builtin.zeroCells z.cells (grownCap w (n + m) cap e - (n + m))) e), ?_, ?_, ?_⟩
    · simp [Builtin.append_, run_underlying ht, run_underlying htx, sizeOf, typeInfo, zeroValue, hi, hz, asInt, asIntOf, hwrap, hnn, hmb, hroom, h63', hfit, Question.forced, hfo, newRow, grownCap]
      intro h0
      rw [hz0 h0]
      simp
    · refine Sl.mk hxs hge (grownCap_le_maxLen w _ _ _ h63) ?_
      rw [List.length_append, hxs, Array.length_toList, size_zeroCells, hzs, ← Nat.add_mul]
      congr 1
      omega
    · have e1 : (xs.toArray ++ (Builtin.zeroCells z.cells m) ++ Builtin.zeroCells z.cells (grownCap w (n + m) cap e - (n + m))) = ((xs ++ (Builtin.zeroCells z.cells m).toList) ++ (Builtin.zeroCells z.cells (grownCap w (n + m) cap e - (n + m))).toList).toArray := by
        apply Array.ext'; simp
      rw [e1] at hO2 ⊢
      have hO3 : Own E _ (pt w.heap.size _ ++ (A ++ R)) := hO2
      exact hO3.as _

end
end Go.Own

/- The walk's laws for slices, strings and bytes over 'Own'. -/
namespace Go.Own
open Go.RowKit

structure SlT (P : Program) (t e : TypeId) (sz bytes : Nat) (z : Value) : Prop where
  und : P.underlying t = some (.slice e)
  info : (P.info? e).map (fun i => (i.zero, i.size, i.bytes)) = some (some z, sz, bytes)
  zs : z.cells.size = sz

theorem SlT.parts {P : Program} {t e : TypeId} {sz bytes : Nat} {z : Value} (h : SlT P t e sz bytes z) : ∃ i, P.info? e = some i ∧ i.zero = some z ∧ i.size = sz ∧ i.bytes = bytes := by
  have hi := h.info
  cases hh : P.info? e with
  | none => rw [hh] at hi; simp at hi
  | some i => rw [hh] at hi; simp at hi; exact ⟨i, rfl, hi⟩

theorem SlT.size {P : Program} {t e : TypeId} {sz bytes : Nat} {z : Value} (h : SlT P t e sz bytes z) (w : World) : (sizeOf e).run P w = .ok sz w := by
  obtain ⟨i, hi, _, hs, _⟩ := h.parts
  simp [sizeOf, typeInfo, hi, hs]

def byteV (c : UInt8) : Value := .int .u8 c.toNat
def bytesV (l : List UInt8) : List Value := l.map byteV
theorem bytes_cells (s : ByteArray) : (Array.map (fun b : UInt8 => Value.int .u8 b.toNat) s.data) = (bytesV s.data.toList).toArray := by
  apply Array.ext'; simp only [Array.toList_map, bytesV]; rfl
theorem bytesV_length (l : List UInt8) : (bytesV l).length = l.length := by simp [bytesV]
theorem bytesV_append (l m : List UInt8) : bytesV (l ++ m) = bytesV l ++ bytesV m := by simp [bytesV]
theorem bytesV_take (l : List UInt8) (n : Nat) : bytesV (l.take n) = (bytesV l).take n := by simp [bytesV, List.map_take]
theorem bytesV_drop (l : List UInt8) (n : Nat) : bytesV (l.drop n) = (bytesV l).drop n := by simp [bytesV, List.map_drop]
theorem bytesV_one (l : List UInt8) : ∀ u ∈ bytesV l, u.oneCell' = true := by
  intro u hu
  obtain ⟨c, _, rfl⟩ := List.mem_map.1 hu
  rfl

theorem zeroCells_byte (m : Nat) : (Builtin.zeroCells (Value.cells (.int .u8 0)) m).toList = bytesV (List.replicate m 0) := by
  simp only [Builtin.zeroCells, Value.cells]
  apply List.ext_getElem
  · simp [bytesV_length]
  · intro i h1 h2
    simp [bytesV, byteV, Nat.mod_one]

section laws
variable {P : Program} {ops : Array Oper} {Q : Exit → Act → World → Prop} {rest : List Oper} {a : Act} {E w : World} {X A R : Fr} {d : Option Tmp} {ty : TypeId} {pos : String} {aft : Array Edge} {g : Option (Nat × Bool)}

theorem execOp_append (ρ : Operand → Value) (x y : Operand) (ats : Array TypeId) :
    execOp ρ ⟨d, .call { callee := .builtin .append, args := #[x, y], argTypes := ats }, ty, pos, aft, g⟩ = (do pure (.value (← Builtin.append_ ats ty #[ρ x, ρ y]))) := by
  simp [execOp, resolve, invoke, builtin]
theorem execOp_copy (ρ : Operand → Value) (x y : Operand) (ats : Array TypeId) :
    execOp ρ ⟨d, .call { callee := .builtin .copy, args := #[x, y], argTypes := ats }, ty, pos, aft, g⟩ = (do pure (.value (← Builtin.copy_ ats ty #[ρ x, ρ y]))) := by
  simp [execOp, resolve, invoke, builtin]

theorem own_appendG {t tx e : TypeId} {sz bytes : Nat} {z : Value} {s x : Operand} {sa : Option Addr} {n cap m : Nat} {xv : Value} {xs news : List Value} (hT : SlT P t e sz bytes z)
    (htx : P.underlying tx = some (.slice e) ∨ P.underlying tx = some .string) (hO : Own E w X)
    (hw : Region.wanted ⟨d, .call { callee := .builtin .append, args := #[s, x], argTypes := #[t, tx] }, ty, pos, aft, g⟩ (yielded ops a.tmps) = true)
    (hs : a.eval s = .slice sa n cap) (hx : a.eval x = xv) (hv : Sl e sz sa n cap xs A) [hp : Pick X A R]
    (hlen : ∀ w, (Builtin.lenOf xv).run P w = .ok m w) (hnews : ∀ w', Own E w' X → (Builtin.firstCells sz m xv).run P w' = .ok news.toArray w')
    (hl : news.length = m * sz) (h1 : ∀ u ∈ news, u.oneCell' = true) (h63 : n + m ≤ maxLen) (hb : cap < n + m → Builtin.nextslicecap (n + m) cap * bytes ≤ 281474976710656)
    (next : ∀ a' cap' A' w1, Sl e sz a' (n + m) cap' (xs ++ news) A' → Own E w1 (A' ++ R) → wpList P ops Q rest (a.put d (.slice a' (n + m) cap')) w1) :
    wpList P ops Q (⟨d, .call { callee := .builtin .append, args := #[s, x], argTypes := #[t, tx] }, ty, pos, aft, g⟩ :: rest) a w := by
  obtain ⟨i, hi, hz, hsz, hby⟩ := hT.parts
  obtain ⟨a', cap', A', w1, hr, hS, hO1⟩ := run_append_slG (ty := ty) t tx i z hT.und hi hz hsz hby hT.zs htx hO hv xv m news hlen hnews hl h1 h63 hb
  refine wpList_run_value hw ?_ (next a' cap' A' w1 hS hO1)
  rw [execOp_append, hs, hx]
  simp [hr]

theorem own_append {t tx e : TypeId} {sz bytes : Nat} {z : Value} {s x : Operand} {sa : Option Addr} {n cap m : Nat} {xv : Value} {xs news : List Value} (hT : SlT P t e sz bytes z)
    (htx : P.underlying tx = some (.slice e) ∨ P.underlying tx = some .string) (hO : Own E w X)
    (hw : Region.wanted ⟨d, .call { callee := .builtin .append, args := #[s, x], argTypes := #[t, tx] }, ty, pos, aft, g⟩ (yielded ops a.tmps) = true)
    (hs : a.eval s = .slice sa n cap) (hx : a.eval x = xv) (hv : Sl e sz sa n cap xs A) [hp : Pick X A R]
    (hlen : ∀ w, (Builtin.lenOf xv).run P w = .ok m w) (hnews : ∀ w', Own E w' X → (Builtin.firstCells sz m xv).run P w' = .ok news.toArray w')
    (hl : news.length = m * sz) (h1 : ∀ u ∈ news, u.oneCell' = true) (h63 : n + m ≤ maxLen) (hb : (n + m) * bytes ≤ 140737488355328 ∨ (m = 1 ∧ n * bytes ≤ 140737488355328 ∧ bytes ≤ 281474976710656))
    (next : ∀ a' cap' A' w1, Sl e sz a' (n + m) cap' (xs ++ news) A' → Own E w1 (A' ++ R) → wpList P ops Q rest (a.put d (.slice a' (n + m) cap')) w1) :
    wpList P ops Q (⟨d, .call { callee := .builtin .append, args := #[s, x], argTypes := #[t, tx] }, ty, pos, aft, g⟩ :: rest) a w := by
  obtain ⟨i, hi, hz, hsz, hby⟩ := hT.parts
  obtain ⟨a', cap', A', w1, hr, hS, hO1⟩ := run_append_sl (ty := ty) t tx i z hT.und hi hz hsz hby hT.zs htx hO hv xv m news hlen hnews hl h1 h63 hb
  refine wpList_run_value hw ?_ (next a' cap' A' w1 hS hO1)
  rw [execOp_append, hs, hx]
  simp [hr]

/-- append of one element out of a slice of one element that was just built. -/
theorem own_append_elem {b1 : Nat} {cs : Array Value} {e1 : TypeId} {f1 : Nat × Nat} {t e : TypeId} {sz bytes : Nat} {z : Value} {s x : Operand} {sa : Option Addr} {n cap : Nat} {xs : List Value} (hT : SlT P t e sz bytes z) (hO : Own E w X)
    (hw : Region.wanted ⟨d, .call { callee := .builtin .append, args := #[s, x], argTypes := #[t, t] }, ty, pos, aft, g⟩ (yielded ops a.tmps) = true)
    (hs : a.eval s = .slice sa n cap) (hx : a.eval x = .slice (some ⟨b1, 0, none⟩) 1 1) (hv : Sl e sz sa n cap xs A) [hp : Pick X A R] (hh : Has X b1 (.cells cs e1 f1))
    (hl : cs.size = sz) (h1 : ∀ u ∈ cs.toList, u.oneCell' = true) (hb : n * bytes ≤ 140737488355328) (hby : bytes ≤ 281474976710656) (h63 : n < maxLen)
    (next : ∀ a' cap' A' w1, Sl e sz a' (n + 1) cap' (xs ++ cs.toList) A' → Own E w1 (A' ++ R) → wpList P ops Q rest (a.put d (.slice a' (n + 1) cap')) w1) :
    wpList P ops Q (⟨d, .call { callee := .builtin .append, args := #[s, x], argTypes := #[t, t] }, ty, pos, aft, g⟩ :: rest) a w := by
  refine own_append (xv := .slice (some ⟨b1, 0, none⟩) 1 1) (m := 1) (news := cs.toList) hT (.inl hT.und) hO hw hs hx hv (fun w => by simp [Builtin.lenOf]) ?_ (by simp [hl]) h1 (by omega) (.inr ⟨rfl, hb, hby⟩) next
  intro w' hO'
  refine run_firstCells_some w' sz 1 ⟨b1, 0, none⟩ 1 1 cs.toList (by simp [hl]) ?_
  intro j v hj
  rw [add_lit, hO'.cell (b := b1)]
  simpa using hj

theorem own_append_zeros {t tx e : TypeId} {xi : Int} {sz bytes : Nat} {z : Value} {s x : Operand} {sa : Option Addr} {n cap m : Nat} {xs : List Value} (hT : SlT P t e sz bytes z) (htx : P.underlying tx = some (.int .i64)) (hO : Own E w X)
    (hw : Region.wanted ⟨d, .call { callee := .builtin .append, args := #[s, x], argTypes := #[t, tx] }, ty, pos, aft, g⟩ (yielded ops a.tmps) = true)
    (hs : a.eval s = .slice sa n cap) (hx : a.eval x = .int .i64 xi) (hxm : xi = m) (hv : Sl e sz sa n cap xs A) [hp : Pick X A R]
    (h1 : ∀ u ∈ z.cells.toList, u.oneCell' = true) (h63 : n + m ≤ maxLen) (hbp : 0 < bytes) (hb : (n + m) * bytes ≤ 140737488355328)
    (next : ∀ a' cap' A' w1, Sl e sz a' (n + m) cap' (xs ++ (Builtin.zeroCells z.cells m).toList) A' → Own E w1 (A' ++ R) → wpList P ops Q rest (a.put d (.slice a' (n + m) cap')) w1) :
    wpList P ops Q (⟨d, .call { callee := .builtin .append, args := #[s, x], argTypes := #[t, tx] }, ty, pos, aft, g⟩ :: rest) a w := by
  obtain ⟨i, hi, hz, hsz, hby⟩ := hT.parts
  subst hxm
  obtain ⟨a', cap', A', w1, hr, hS, hO1⟩ := run_append_zeros (ty := ty) t tx i z hT.und hi hz hsz hby hT.zs htx hO hv m h1 h63 hbp hb
  refine wpList_run_value hw ?_ (next a' cap' A' w1 hS hO1)
  rw [execOp_append, hs, hx]
  simp [hr]

theorem fill_one (place : Nat → Option (Nat × Nat)) (cells v : Array Value) (hp : place 0 = some (0, v.size)) (hs : cells.size = v.size) (u : Value) (hu : u.cells = v) :
    Instr.fill place cells [(0, u)] = some v := by
  simp only [Instr.fill, hp, hu]
  rw [if_neg (by simp; omega)]
  congr 1
  have key : ∀ (l : List Value) (pre post : List Value), l.length ≤ post.length →
      (l.zipIdx pre.length).foldl (fun cs (c, j) => cs.setIfInBounds (0 + j) c) (pre ++ post).toArray = (pre ++ l ++ post.drop l.length).toArray := by
    intro l
    induction l with
    | nil => intro pre post _; simp
    | cons c l ih =>
      intro pre post h
      match post, h with
      | p :: post, h =>
        have := ih (pre ++ [c]) post (by simpa using h)
        simp only [List.zipIdx_cons, List.foldl_cons]
        rw [show ((pre ++ p :: post).toArray.setIfInBounds (0 + pre.length) c) = ((pre ++ [c]) ++ post).toArray by simp]
        rw [show pre.length + 1 = (pre ++ [c]).length by simp, this]
        simp
  have hk := key v.toList [] cells.toList (by simp [hs])
  rw [← Array.foldl_toList, Array.toList_zipIdx]
  simp only [List.nil_append, List.length_nil, Array.toArray_toList] at hk
  rw [hk, List.drop_of_length_le (by simp; omega)]
  simp

/-- a slice of one element, built in place. -/
theorem own_build1 {t e : TypeId} {sz bytes : Nat} {z : Value} {x : Operand} {v : Value} (hT : SlT P t e sz bytes z) (hO : Own E w X)
    (hw : Region.wanted ⟨d, .buildSlice t 1 #[(0, x)], ty, pos, aft, g⟩ (yielded ops a.tmps) = true) (hx : a.eval x = v) (hv : v.cells.size = sz) (h0 : 0 < sz) (h24 : sz ≤ 16777216)
    (next : ∀ b w1, Own E w1 (pt b (.cells v.cells e) ++ X) → wpList P ops Q rest (a.put d (.slice (some ⟨b, 0, none⟩) 1 1)) w1) :
    wpList P ops Q (⟨d, .buildSlice t 1 #[(0, x)], ty, pos, aft, g⟩ :: rest) a w := by
  obtain ⟨i, hi, hz, hsz, hby⟩ := hT.parts
  refine wpList_run_value hw ?_ (next _ _ (hO.alloc _))
  have hne : sz ≠ 0 := by omega
  have hbig : ¬ (16777216 < sz) := by omega
  have hf : ∀ cells : Array Value, cells.size = sz → Instr.fill (fun i => some (i * sz, sz)) cells [(0, v)] = some v.cells := fun cells hc => fill_one _ _ _ (by simp [hv]) (by omega) v rfl
  simp [execOp, Instr.buildSlice, run_underlying hT.und, sizeOf, typeInfo, zeroValue, hi, hz, hsz, hx, hne, hbig, newRow]
  rw [hf _ (by simp)]
  simp

/-- a slice of several one-cell elements, built in place. -/
theorem own_buildN {t e : TypeId} {bytes k : Nat} {z : Value} {ps : Array (Nat × Operand)} {cells : Array Value} (hT : SlT P t e 1 bytes z) (hO : Own E w X)
    (hw : Region.wanted ⟨d, .buildSlice t k ps, ty, pos, aft, g⟩ (yielded ops a.tmps) = true) (h24 : k ≤ 16777216) (h0 : 0 < k) (hzz : z.cells = #[z])
    (hf : Instr.fill (fun i => some (i, 1)) (Array.replicate k z) (ps.toList.map fun p => (p.1, a.eval p.2)) = some cells)
    (next : ∀ b w1, Own E w1 (pt b (.cells cells e) ++ X) → wpList P ops Q rest (a.put d (.slice (some ⟨b, 0, none⟩) k k)) w1) :
    wpList P ops Q (⟨d, .buildSlice t k ps, ty, pos, aft, g⟩ :: rest) a w := by
  obtain ⟨i, hi, hz, hsz, hby⟩ := hT.parts
  refine wpList_run_value hw ?_ (next _ _ (hO.alloc _))
  have hbig : ¬ (16777216 < k) := by omega
  have hne : k ≠ 0 := by omega
  have hrow : (Array.range k).map (fun i => [z][i % 1]?.getD default) = Array.replicate k z := by
    apply Array.ext
    · simp
    · intro j h1 h2; simp [Nat.mod_one]
  simp [execOp, Instr.buildSlice, run_underlying hT.und, sizeOf, typeInfo, zeroValue, hi, hz, hsz, hbig, hne, newRow, hzz]
  rw [hrow, hf]
  simp

/-- copy of a string into a slice of ours, from l on. -/
theorem own_copy_str {t tx e : TypeId} {bytes : Nat} {z : Value} {dx sx : Operand} {sa da : Option Addr} {n cap dn dc l : Nat} {s : ByteArray} {xs : List Value} (hT : SlT P t e 1 bytes z) (hO : Own E w X)
    (hw : Region.wanted ⟨d, .call { callee := .builtin .copy, args := #[dx, sx], argTypes := #[t, tx] }, ty, pos, aft, g⟩ (yielded ops a.tmps) = true)
    (hd : a.eval dx = .slice da dn dc) (hs : a.eval sx = .string s) (hv : Sl e 1 sa n cap xs A) [hp : Pick X A R]
    (hda : 0 < s.size → da = sa.map (·.add l)) (hn : s.size ≤ dn) (hl : l + s.size ≤ n)
    (next : ∀ A' w1, Sl e 1 sa n cap (xs.take l ++ bytesV s.data.toList ++ xs.drop (l + s.size)) A' → Own E w1 (A' ++ R) → wpList P ops Q rest (a.put d (.int .i64 s.size)) w1) :
    wpList P ops Q (⟨d, .call { callee := .builtin .copy, args := #[dx, sx], argTypes := #[t, tx] }, ty, pos, aft, g⟩ :: rest) a w := by
  have hO1 : Own E w (A ++ R) := hO.perm hp.perm
  have hxl : xs.length = n := by rw [hv.1]; simp
  have hmin : Nat.min s.size dn = s.size := Nat.min_eq_left hn
  have hsz : s.data.toList.length = s.size := by rw [Array.length_toList]; rfl
  have hcells : List.take s.size (List.map (fun b : UInt8 => Value.int .u8 b.toNat) s.data.toList) = bytesV s.data.toList := by
    rw [List.take_of_length_le (by rw [List.length_map, hsz]; omega)]; rfl
  obtain ⟨A', w1, hr, hS, hO2⟩ : ∃ A' w1, (Builtin.copy_ #[t, tx] ty #[.slice da dn dc, .string s]).run P w = .ok (.int .i64 s.size) w1 ∧
      Sl e 1 sa n cap (xs.take l ++ bytesV s.data.toList ++ xs.drop (l + s.size)) A' ∧ Own E w1 (A' ++ R) := by
    by_cases h0 : s.size = 0
    · have hb : bytesV s.data.toList = [] := List.eq_nil_of_length_eq_zero (by rw [bytesV_length, hsz, h0])
      refine ⟨A, w, ?_, ?_, hO1⟩
      · cases da with
        | none => simp [Builtin.copy_, run_underlying hT.und, Builtin.lenOf, Builtin.firstCells, hT.size, h0, goInt]
        | some b => simp [Builtin.copy_, run_underlying hT.und, Builtin.lenOf, Builtin.firstCells, hT.size, h0, goInt, storeCells]
      · rw [hb, h0, Nat.add_zero, List.append_nil, List.take_append_drop]; exact hv
    · have hda' := hda (by omega)
      rcases hv.2.2.2 with ⟨ha, hc, hA⟩ | ⟨b, rst, ha, hl4, hA⟩
      · have := hv.2.1; omega
      · subst ha hA
        simp only [Option.map_some, add_lit, Nat.zero_add] at hda'
        have hll : (bytesV s.data.toList).length = s.size := by rw [bytesV_length, hsz]
        obtain ⟨w1, hst, hO2⟩ := run_storeCells_own (P := P) (b := b) (off := l) (e := e) (bytesV s.data.toList) 0 (xs ++ rst).toArray w _ R hO1 inferInstance (bytesV_one _) (by
          simp only [List.size_toArray, List.length_append, hll]; omega)
        have hsp : splice (xs ++ rst).toArray (l + 0) (bytesV s.data.toList) = ((xs.take l ++ bytesV s.data.toList ++ xs.drop (l + s.size)) ++ rst).toArray := by
          have hpre : (xs.take l).length = l := by rw [List.length_take]; omega
          have := splice_append (bytesV s.data.toList) (xs.take l) (xs.drop l ++ rst) (by simp only [List.length_append, List.length_drop, hll]; omega)
          rw [← List.append_assoc, List.take_append_drop, hpre] at this
          rw [Nat.add_zero, this, hll, List.drop_append_of_le_length (by rw [List.length_drop]; omega), List.drop_drop]
          simp [List.append_assoc]
        rw [hsp] at hO2
        refine ⟨_, w1, ?_, ⟨?_, hv.2.1, hv.2.2.1, .inr ⟨b, rst, rfl, ?_, rfl⟩⟩, hO2⟩
        · subst hda'
          simp only [Builtin.copy_]
          have hm : min s.size dn = s.size := hmin
          simp [run_underlying hT.und, Builtin.lenOf, Builtin.firstCells, hT.size, hm, goInt]
          rw [hcells, hst]; simp
        · simp only [List.length_append, List.length_take, List.length_drop, hll]; omega
        · rw [← hl4]; simp only [List.length_append, List.length_take, List.length_drop, hll]; omega
  refine wpList_run_value hw ?_ (next A' w1 hS hO2)
  rw [execOp_copy, hd, hs]
  simp [hr]

theorem forIn_bytes {w : World} (f : Value → ByteArray → Sem (ForInStep ByteArray))
    (hf : ∀ (n : Int) (r : ByteArray), (f (.int .u8 n) r).run P w = .ok (.yield (r.push (UInt8.ofNat n.toNat))) w) (l : List UInt8) (s : ByteArray) :
    (forIn (bytesV l) s f).run P w = .ok ⟨s.data ++ l.toArray⟩ w := by
  induction l generalizing s with
  | nil => simp [bytesV]
  | cons c l ih =>
    simp only [bytesV, List.map_cons, List.forIn_cons, Sem.run_bind, byteV, hf, Result.andThen]
    have := ih (s.push (UInt8.ofNat (c.toNat : Int).toNat))
    simp only [bytesV] at this
    refine Eq.trans this ?_
    congr 1
    simp [ByteArray.push]

theorem run_bytes_str {w : World} {src dst e : TypeId} (hs : P.underlying src = some (.slice e)) (he : P.underlying e = some (.int .u8)) (hd : P.underlying dst = some .string) {ad : Option Addr} {n cap : Nat} {l : List UInt8}
    (hn : l.length = n) (hc : ∀ b, ad = some b → ∀ j v, (bytesV l)[j]? = some v → w.cell? (b.add j) = some v) (h0 : ad = none → n = 0) :
    (convert src dst (.slice ad n cap)).run P w = .ok (.string ⟨l.toArray⟩) w := by
  rw [run_convert_bytes_string w src dst e _ n cap hs he hd]
  cases ad with
  | none =>
    have hl : l = [] := List.eq_nil_of_length_eq_zero (by rw [hn, h0 rfl])
    subst hl
    simp [Conv.bytesToString]; rfl
  | some b =>
    have hl := run_loadCells_list (P := P) w b (bytesV l) (hc b rfl)
    rw [bytesV_length, hn] at hl
    unfold Conv.bytesToString
    simp only [Sem.run_bind, hl, Result.andThen, List.forIn_toArray]
    rw [forIn_bytes _ (by intro n r; simp [Sem.run_pure])]
    simp [Sem.run_pure]

theorem add_add (b : Addr) (i j : Nat) : (b.add i).add j = b.add (i + j) := by
  unfold Addr.add
  by_cases hi : i = 0 <;> by_cases hj : j = 0 <;> simp [hi, hj, Nat.add_assoc]

theorem own_bytes_str {src dst e : TypeId} {x : Operand} {ad : Option Addr} {n cap : Nat} {l : List UInt8} (hs : P.underlying src = some (.slice e)) (he : P.underlying e = some (.int .u8)) (hd : P.underlying dst = some .string)
    (hw : Region.wanted ⟨d, .convert src dst x, ty, pos, aft, g⟩ (yielded ops a.tmps) = true) (hx : a.eval x = .slice ad n cap)
    (hn : l.length = n) (hc : ∀ b, ad = some b → ∀ j v, (bytesV l)[j]? = some v → w.cell? (b.add j) = some v) (h0 : ad = none → n = 0)
    (next : wpList P ops Q rest (a.put d (.string ⟨l.toArray⟩)) w) :
    wpList P ops Q (⟨d, .convert src dst x, ty, pos, aft, g⟩ :: rest) a w := by
  refine wpList_run_value hw ?_ next
  simp [execOp, hx, run_bytes_str hs he hd hn hc h0]

/-- a whole struct (or array) is loaded. -/
theorem own_loadS {t : TypeId} {x : Operand} {b : Nat} {cs : Array Value} {e : TypeId} {f : Nat × Nat} (hO : Own E w X) (hw : Region.wanted ⟨d, .load t x, ty, pos, aft, g⟩ (yielded ops a.tmps) = true)
    (hx : a.eval x = .pointer (some ⟨b, 0, none⟩)) (hh : Has X b (.cells cs e f)) (ht : (isAgg t).run P w = .ok true w) (hs : (sizeOf t).run P w = .ok cs.size w)
    (next : wpList P ops Q rest (a.put d (.agg cs)) w) : wpList P ops Q (⟨d, .load t x, ty, pos, aft, g⟩ :: rest) a w := by
  refine wpList_run_value hw ?_ next
  have hl := run_loadCells_list (P := P) w ⟨b, 0, none⟩ cs.toList (by
    intro j v hj
    rw [add_lit, hO.cell (b := b)]
    simpa using hj)
  rw [Array.length_toList] at hl
  simp [execOp, Instr.loadAt, Instr.sureAddr, hx, loadVar, ht, hs, hl]

theorem splice_all (cs : Array Value) (vs : List Value) (h : vs.length = cs.size) : splice cs 0 vs = vs.toArray := by
  have := splice_append vs [] cs.toList (by simp [h])
  simp only [List.nil_append, List.length_nil, Array.toArray_toList] at this
  rw [this, List.drop_of_length_le (by simp [h])]
  simp

/-- a whole struct (or array) is stored. -/
theorem own_storeS {t : TypeId} {x y : Operand} {b : Nat} {cs cs' : Array Value} {e : TypeId} (hO : Own E w X) (hw : Region.wanted ⟨d, .store t x y, ty, pos, aft, g⟩ (yielded ops a.tmps) = true)
    (hx : a.eval x = .pointer (some ⟨b, 0, none⟩)) (hy : a.eval y = .agg cs') (hp : PickPt X b (.cells cs e (0, 0)) R)
    (hs : (sizeOf t).run P w = .ok cs'.size w) (h1 : ∀ u ∈ cs'.toList, u.oneCell' = true) (hl : cs'.size = cs.size)
    (next : ∀ w1, Own E w1 (pt b (.cells cs' e (0, 0)) ++ R) → wpList P ops Q rest (a.put d undef) w1) :
    wpList P ops Q (⟨d, .store t x y, ty, pos, aft, g⟩ :: rest) a w := by
  refine own_store (v := .agg cs') (b := b) (off := 0) (cs := cs) (e := e) (R := R) hO hw hx hy hs h1 (by simp [Value.cells, hl]) ?_
  intro w1 hO1
  simp only [Value.cells] at hO1
  rw [splice_all _ _ (by simp [hl])] at hO1
  exact next w1 (by simpa using hO1)
end laws

theorem cut_cells {w : World} {F : List UInt8} {fa : Option Addr} {fc p m : Nat} (hcell : ∀ b, fa = some b → ∀ j v, (bytesV F)[j]? = some v → w.cell? (b.add j) = some v) (hp : p + m ≤ F.length) (hfc : F.length ≤ fc) :
    ∀ b, (if fc = p then fa else Option.map (fun x => x.add p) fa) = some b → ∀ j v, (bytesV ((F.drop p).take m))[j]? = some v → w.cell? (b.add j) = some v := by
  intro b hb j v hj
  rw [bytesV_take, bytesV_drop] at hj
  have hjm : j < m := by
    rcases Nat.lt_or_ge j m with h | h
    · exact h
    · rw [List.getElem?_eq_none (by rw [List.length_take]; omega)] at hj; cases hj
  rw [List.getElem?_take_of_lt hjm, List.getElem?_drop] at hj
  rw [if_neg (by omega)] at hb
  cases fa with
  | none => cases hb
  | some b0 =>
    simp at hb
    subst hb
    rw [add_add]
    exact hcell b0 rfl _ _ hj
theorem cut_none {fa : Option Addr} {fc p m : Nat} (hnil : fa = none → fc = 0) (hp : p + m ≤ fc) :
    (if fc = p then fa else Option.map (fun x => x.add p) fa) = none → m = 0 := by
  intro h
  split at h
  · omega
  · simp at h
    have := hnil h
    omega
end Go.Own

/- The disk as plain lists: raw writes, and what the four files hold behind them. -/
namespace Go.Dk
open Go.Own Go.RowKit

def upd {α : Type} (f : Nat → α) (k : Nat) (v : α) : Nat → α := fun i => if i = k then v else f i
theorem upd_same {α : Type} (f : Nat → α) (k : Nat) (v : α) : upd f k v k = v := by simp [upd]
theorem upd_ne {α : Type} (f : Nat → α) (k i : Nat) (v : α) (h : i ≠ k) : upd f k v i = f i := by simp [upd, h]

inductive Raw where
  | put (file at_ : Nat) (s : ByteArray)
  | trim (file size : Nat)

/-- The text s written over l from k on, with noughts in between. -/
def over (l : List UInt8) (k : Nat) (s : List UInt8) : List UInt8 :=
  (l ++ List.replicate (k + s.length - l.length) 0).take k ++ s ++ (l ++ List.replicate (k + s.length - l.length) 0).drop (k + s.length)

theorem over_length (l : List UInt8) (k : Nat) (s : List UInt8) : (over l k s).length = max l.length (k + s.length) := by
  simp only [over, List.length_append, List.length_take, List.length_drop, List.length_replicate]; omega

def Raw.app : Raw → (Nat → List UInt8) → (Nat → List UInt8)
  | .put k p s, f => upd f k (over (f k) p s.data.toList)
  | .trim k n, f => upd f k ((f k).take n)

def Raw.ok : Raw → (Nat → List UInt8) → Prop
  | .put k p s, _ => k < 4 ∧ p + s.size ≤ 4194304
  | .trim k n, f => k < 4 ∧ n ≤ (f k).length

def play (rs : List Raw) : Nat → List UInt8 := rs.foldl (fun f r => r.app f) (fun _ => [])
theorem play_nil : play [] = fun _ => [] := rfl
theorem play_snoc (rs : List Raw) (r : Raw) : play (rs ++ [r]) = r.app (play rs) := by simp [play]

/-- Each raw write could be done when it was done. -/
def OkL (rs : List Raw) : Prop := ∀ i (h : i < rs.length), (rs[i]).ok (play (rs.take i))
theorem okL_nil : OkL [] := fun i h => by simp at h
theorem okL_snoc {rs : List Raw} {r : Raw} (h : OkL rs) (hr : r.ok (play rs)) : OkL (rs ++ [r]) := by
  intro i hi
  by_cases hlt : i < rs.length
  · have := h i hlt
    rw [List.getElem_append_left hlt, List.take_append_of_le_length (by omega)]
    exact this
  · have he : i = rs.length := by simp at hi; omega
    subst he
    simpa using hr
theorem okL_take {rs : List Raw} (h : OkL rs) (n : Nat) : OkL (rs.take n) := by
  intro i hi
  have hi' : i < rs.length := by simp at hi; omega
  have hin : i < n := by simp at hi; omega
  have := h i hi'
  rw [List.getElem_take, List.take_take, Nat.min_eq_left (by omega)]
  exact this

theorem play_le {rs : List Raw} (h : OkL rs) : ∀ k, (play rs k).length ≤ 4194304 := by
  have : ∀ n, n ≤ rs.length → ∀ k, (play (rs.take n) k).length ≤ 4194304 := by
    intro n
    induction n with
    | zero => intro _ k; simp [play]
    | succ n ih =>
      intro hn k
      have hlt : n < rs.length := by omega
      rw [List.take_succ_eq_append_getElem hlt, play_snoc]
      have hok := h n hlt
      cases hr : rs[n] with
      | put f p s =>
        rw [hr] at hok
        obtain ⟨_, hs⟩ := hok
        simp only [Raw.app, upd]
        split
        · rw [over_length]
          have := ih (by omega) f
          have hsz : s.data.toList.length = s.size := by rw [Array.length_toList]; rfl
          omega
        · exact ih (by omega) k
      | trim f m =>
        simp only [Raw.app, upd]
        split
        · rw [List.length_take]; have := ih (by omega) f; omega
        · exact ih (by omega) k
  intro k
  have := this rs.length (Nat.le_refl _) k
  simpa using this

def rawV : Raw → Value
  | .put k p s => .iface 203 (.agg #[.int .i64 k, .int .i64 p, .string s])
  | .trim k n => .iface 211 (.agg #[.int .i64 k, .int .i64 n])
theorem rawV_one (r : Raw) : (rawV r).oneCell' = true := by cases r <;> rfl
theorem rawV_cells (r : Raw) : (rawV r).cells = #[rawV r] := by cases r <;> rfl

def dcells (s : Nat → Value) (rv : Value) : Array Value := #[.bool true, s 0, s 1, s 2, s 3, rv]
theorem dcells_size (s : Nat → Value) (rv : Value) : (dcells s rv).size = 6 := rfl
theorem dcells_0 (s : Nat → Value) (rv : Value) : (dcells s rv)[0]? = some (.bool true) := rfl
theorem dcells_5 (s : Nat → Value) (rv : Value) : (dcells s rv)[5]? = some rv := rfl
theorem dcells_get (s : Nat → Value) (rv : Value) (k : Nat) (h : k < 4) : (dcells s rv)[1 + k]? = some (s k) := by
  match k, h with
  | 0, _ | 1, _ | 2, _ | 3, _ => rfl
theorem dcells_set (s : Nat → Value) (rv v : Value) (k : Nat) (h : k < 4) : (dcells s rv).setIfInBounds (1 + k) v = dcells (upd s k v) rv := by
  match k, h with
  | 0, _ | 1, _ | 2, _ | 3, _ => simp [dcells, upd]
theorem dcells_set5 (s : Nat → Value) (rv v : Value) : (dcells s rv).setIfInBounds 5 v = dcells s v := by simp [dcells]

attribute [go_sem] dcells_0 dcells_5

def files (FA : Nat → Fr) : Fr := FA 0 ++ (FA 1 ++ (FA 2 ++ FA 3))
theorem files_pick (FA : Nat → Fr) (k : Nat) (h : k < 4) : (files FA).Perm (FA k ++ files (upd FA k [])) := by
  match k, h with
  | 0, _ => simp [files, upd]
  | 1, _ => simp only [files, upd]; simp; exact (List.perm_append_comm_assoc _ _ _)
  | 2, _ => simp only [files, upd]; simp; exact ((List.Perm.append_left _ (List.perm_append_comm_assoc _ _ _)).trans (List.perm_append_comm_assoc _ _ _))
  | 3, _ => simp only [files, upd]; simp; exact ((List.Perm.append_left _ (List.Perm.append_left _ (List.perm_append_comm))).trans ((List.Perm.append_left _ (List.perm_append_comm_assoc _ _ _)).trans (List.perm_append_comm_assoc _ _ _)))
theorem files_put (FA : Nat → Fr) (k : Nat) (h : k < 4) (B : Fr) : (B ++ files (upd FA k [])).Perm (files (upd FA k B)) := by
  have h1 := files_pick (upd FA k B) k h
  rw [upd_same] at h1
  have e : upd (upd FA k B) k [] = upd FA k [] := by funext i; simp only [upd]; split <;> rfl
  rw [e] at h1
  exact h1.symm

theorem Own_putFile {E w : World} {X B A' RA R S : Fr} {FA : Nat → Fr} {k : Nat} (hO : Own E w X) (hk : k < 4) [hp : Pick X (B ++ (A' ++ (files (upd FA k []) ++ (RA ++ R)))) S] :
    Own E w ((B ++ (files (upd FA k A') ++ RA)) ++ R) := by
  refine (hO.as (B ++ (A' ++ (files (upd FA k []) ++ (RA ++ R))))).perm ?_
  simp only [List.append_assoc]
  refine List.Perm.append_left _ ?_
  rw [← List.append_assoc]
  exact List.Perm.append_right _ (files_put FA k hk A')

def fileVs (fa : Nat → Option Addr) (f : Nat → List UInt8) (fc : Nat → Nat) : Nat → Value := fun k => .slice (fa k) (f k).length (fc k)

/-- The disk at block d holds what the raw writes rs leave; A is all that it has. -/
def DiskAt (d : Nat) (rs : List Raw) (A : Fr) : Prop := OkL rs ∧ ∃ (fa : Nat → Option Addr) (fc : Nat → Nat) (FA : Nat → Fr) (ra : Option Addr) (rc : Nat) (RA : Fr),
  A = pt d (.cells (dcells (fileVs fa (play rs) fc) (.slice ra rs.length rc)) 149 (0, 0)) ++ (files FA ++ RA) ∧
  (∀ k, k < 4 → Sl 5 1 (fa k) (play rs k).length (fc k) (bytesV (play rs k)) (FA k)) ∧ Sl 223 1 ra rs.length rc (rs.map rawV) RA

theorem DiskAt.step_trim {d : Nat} {rs : List Raw} {k n : Nat} {fa : Nat → Option Addr} {fc : Nat → Nat} {FA : Nat → Fr} {ra : Option Addr} {rc : Nat} {RA : Fr} (hok : OkL rs) (hr : (Raw.trim k n).ok (play rs))
    (hf : ∀ k, k < 4 → Sl 5 1 (fa k) (play rs k).length (fc k) (bytesV (play rs k)) (FA k)) (hS : Sl 223 1 ra (rs.length + 1) rc (rs.map rawV ++ [rawV (.trim k n)]) RA) :
    DiskAt d (rs ++ [.trim k n]) (pt d (.cells (dcells (upd (fileVs fa (play rs) fc) k (.slice (fa k) n (fc k))) (.slice ra (rs.length + 1) rc)) 149 (0, 0)) ++ (files FA ++ RA)) := by
  have hl : ((play rs k).take n).length = n := by rw [List.length_take]; have := hr.2; omega
  refine ⟨okL_snoc hok hr, fa, fc, FA, ra, rc, RA, ?_, ?_, by simpa using hS⟩
  · congr 3
    · congr 1
      · funext i
        simp only [fileVs, play_snoc, Raw.app, upd]
        split
        · rename_i h; subst h; rw [hl]
        · rfl
      · simp
  · intro i hi
    simp only [play_snoc, Raw.app, upd]
    split
    · rename_i h
      subst h
      have := (hf i hi).take n hr.2
      rw [Nat.mul_one, ← bytesV_take] at this
      rw [hl]; exact this
    · exact hf i hi

theorem DiskAt.step_put {d : Nat} {rs : List Raw} {k p : Nat} {t : ByteArray} {fa : Nat → Option Addr} {fc : Nat → Nat} {FA : Nat → Fr} {ra a' : Option Addr} {rc cap' : Nat} {RA A' : Fr} (hok : OkL rs) (hr : (Raw.put k p t).ok (play rs))
    (hf : ∀ k, k < 4 → Sl 5 1 (fa k) (play rs k).length (fc k) (bytesV (play rs k)) (FA k)) (hS : Sl 223 1 ra (rs.length + 1) rc (rs.map rawV ++ [rawV (.put k p t)]) RA)
    (hA' : Sl 5 1 a' (over (play rs k) p t.data.toList).length cap' (bytesV (over (play rs k) p t.data.toList)) A') :
    DiskAt d (rs ++ [.put k p t]) (pt d (.cells (dcells (upd (fileVs fa (play rs) fc) k (.slice a' (over (play rs k) p t.data.toList).length cap')) (.slice ra (rs.length + 1) rc)) 149 (0, 0)) ++ (files (upd FA k A') ++ RA)) := by
  refine ⟨okL_snoc hok hr, upd fa k a', upd fc k cap', upd FA k A', ra, rc, RA, ?_, ?_, by simpa using hS⟩
  · congr 3
    · congr 1
      · funext i
        simp only [fileVs, play_snoc, Raw.app, upd]
        split <;> rfl
      · simp
  · intro i hi
    simp only [play_snoc, Raw.app, upd]
    split
    · exact hA'
    · exact hf i hi

theorem DiskAt.given {E w : World} {X R A : Fr} {d : Nat} {rs : List Raw} (hA : DiskAt d rs A) (hO : Own E w X) [hp : Pick X A R] : w.cell? ⟨d, 0, none⟩ = some (.bool true) := by
  obtain ⟨hok, fa, fc, FA, ra, rc, RA, rfl, hf, hra⟩ := hA
  have h1 := hO.perm hp.perm
  rw [h1.cell (b := d)]; rfl
theorem DiskAt.rcell {E w : World} {X R A : Fr} {d : Nat} {rs : List Raw} (hA : DiskAt d rs A) (hO : Own E w X) [hp : Pick X A R] : ∃ ra rc, w.cell? ⟨d, 5, none⟩ = some (.slice ra rs.length rc) ∧ rc ≤ maxLen ∧ rs.length ≤ rc := by
  obtain ⟨hok, fa, fc, FA, ra, rc, RA, rfl, hf, hra⟩ := hA
  have h1 := hO.perm hp.perm
  exact ⟨ra, rc, by rw [h1.cell (b := d)]; rfl, hra.cap_le, hra.le⟩
theorem DiskAt.fcell {E w : World} {X R A : Fr} {d : Nat} {rs : List Raw} (hA : DiskAt d rs A) (hO : Own E w X) [hp : Pick X A R] (k : Nat) (hk : k < 4) :
    ∃ fa fc, w.cell? ⟨d, 1 + k, none⟩ = some (.slice fa (play rs k).length fc) ∧ (play rs k).length ≤ fc ∧ fc ≤ maxLen ∧ (∀ b, fa = some b → ∀ j v, (bytesV (play rs k))[j]? = some v → w.cell? (b.add j) = some v) ∧ (fa = none → fc = 0) := by
  obtain ⟨hok, fa, fc, FA, ra, rc, RA, rfl, hf, hra⟩ := hA
  have h1 := hO.perm hp.perm
  refine ⟨fa k, fc k, by rw [h1.cell (b := d), dcells_get _ _ _ hk]; rfl, (hf k hk).le, (hf k hk).cap_le, ?_, ?_⟩
  · intro b hb j v hj
    obtain ⟨hlt, hv⟩ := List.getElem?_eq_some_iff.1 hj
    rw [List.append_assoc, List.append_assoc] at h1
    have h2 := h1.right.perm (List.Perm.append_right _ (files_pick FA k hk))
    rw [List.append_assoc] at h2
    rw [(hf k hk).cell h2 b hb j hlt, hv]
  · intro hn
    rcases (hf k hk).2.2.2 with ⟨_, hc, _⟩ | ⟨b, _, hb, _⟩
    · exact hc
    · rw [hn] at hb; cases hb

/-- Is there such a file? -/
def fileOk (n : Int) : Bool := decide (0 ≤ n) && decide (n < 4)
theorem fileOk_of {n : Int} (h : fileOk n = true) : ∃ k : Nat, n = k ∧ k < 4 := by
  simp [fileOk] at h
  exact ⟨n.toNat, by omega, by omega⟩

end Go.Dk

/- Contracts of package disk: New, given, put.do, trim.do, does. -/
namespace Go.Proofs.YtkfkcloefgfkaaaGreat
open Go Go.RowKit Go.Own Go.Dk

theorem sltBytes : SlT Tryz.prog 97 5 1 1 (.int .u8 0) := ⟨by kernel_rfl, by kernel_rfl, rfl⟩
theorem sltRaws : SlT Tryz.prog 147 223 1 16 .nilIface := ⟨by kernel_rfl, by kernel_rfl, rfl⟩

set_option maxRecDepth 100000 in
set_option maxHeartbeats 16000000 in
theorem dNew (E w : World) (X : Fr) (hO : Own E w X) :
    Calls Tryz.prog 39 #[] w fun e w' => ∃ d A, e = .returned (.pointer (some ⟨d, 0, none⟩)) ∧ DiskAt d [] A ∧ Own E w' (A ++ X) := by
  go_enter Tryz.func39, Tryz.ntmps39
  go_wp2_with ((refine at_box ?_; go_must (refine own_box (v := ?_) hO ?_ ?_ ?_; rotate_left; (· rfl); (· ((conv => lhs; whnf); try exact rfl)); clear hO; (try clear hF); intro _ _ hO; (try simp only [Value.cells] at hO); ((try simp only [List.nil_append, List.append_nil] at hO); have hF := Own.cells hO; simp only [cellsOf_append, cellsOf_pt] at hF); simp only [Act.put, List.setIfInBounds_toArray, List.set_cons_zero, List.set_cons_succ])))
  go_ret
  refine ⟨_, _, rfl, ⟨okL_nil, fun _ => none, fun _ => 0, fun _ => [], none, 0, [], rfl, fun k hk => Sl.nil _ _, Sl.nil _ _⟩, ?_⟩
  simpa [files, dcells, fileVs, play] using hO

set_option maxRecDepth 100000 in
set_option maxHeartbeats 16000000 in
theorem dGiven (b : Nat) (n : Int) (w : World) (hc : w.cell? ⟨b, 0, none⟩ = some (.bool true)) :
    Calls Tryz.prog 149 #[.pointer (some ⟨b, 0, none⟩), .int .i64 n] w fun e w' => e = .returned (.bool (fileOk n)) ∧ w = w' := by
  by_cases h0 : 0 ≤ n
  · by_cases h4 : n < 4
    · have hf : fileOk n = true := by simp [fileOk, h0, h4]
      rw [hf]
      go_enter Tryz.func149, Tryz.ntmps149
      go_wp2
      go_ret
      exact ⟨rfl, rfl⟩
    · have hf : fileOk n = false := by simp [fileOk, h4]
      rw [hf]
      go_enter Tryz.func149, Tryz.ntmps149
      go_wp2
      go_ret
      exact ⟨rfl, rfl⟩
  · have hf : fileOk n = false := by simp [fileOk, h0]
    rw [hf]
    go_enter Tryz.func149, Tryz.ntmps149
    go_wp2
    go_ret
    exact ⟨rfl, rfl⟩

/-- A disk that nobody made: the nil pointer, or a struct that New did not give. -/
def Nob (w : World) (v : Value) : Prop := v = .pointer none ∨ ∃ b, v = .pointer (some ⟨b, 0, none⟩) ∧ w.cell? ⟨b, 0, none⟩ = some (.bool false)

set_option maxRecDepth 100000 in
set_option maxHeartbeats 16000000 in
theorem dGiven_no (v : Value) (n : Int) (w : World) (h : Nob w v) :
    Calls Tryz.prog 149 #[v, .int .i64 n] w fun e w' => e = .returned (.bool false) ∧ w = w' := by
  rcases h with rfl | ⟨b, rfl, hc⟩
  · go_enter Tryz.func149, Tryz.ntmps149
    go_wp2
    go_ret
    exact ⟨rfl, rfl⟩
  · go_enter Tryz.func149, Tryz.ntmps149
    go_wp2
    go_ret
    exact ⟨rfl, rfl⟩
end Go.Proofs.YtkfkcloefgfkaaaGreat

/- Contracts of package disk: put.do, trim.do. -/
namespace Go.Proofs.YtkfkcloefgfkaaaGreat
open Go Go.RowKit Go.Own Go.Dk

set_option maxRecDepth 100000 in
set_option maxHeartbeats 16000000 in
theorem dTrimDo (E w : World) (X R : Fr) (d : Nat) (s : Nat → Value) (rv : Value) (k : Nat) (size n cap : Nat) (a : Option Addr) (hk : k < 4) (hn : size ≤ n) (hc : n ≤ cap) (hs : s k = .slice a n cap)
   (hO : Own E w X) [hp : PickPt X d (.cells (dcells s rv) 149 (0, 0)) R] :
    Calls Tryz.prog 197 #[.agg #[.int .i64 k, .int .i64 size], .pointer (some ⟨d, 0, none⟩)] w fun e w' => e = .returned (.tuple #[]) ∧ Own E w' (pt d (.cells (dcells (upd s k (.slice a size cap)) rv) 149 (0, 0)) ++ R) := by
  have hget := dcells_get s rv k hk
  rw [hs] at hget
  replace hO := hO.pickPt (b := d)
  clear hp
  have hk1 : (k : Int) < 4 := by omega
  have hk2 : (0 : Int) ≤ k := by omega
  have hn1 : (size : Int) ≤ n := by omega
  have hn3 : (size : Int) ≤ cap := by omega
  have hn2 : (0 : Int) ≤ size := by omega
  go_enter Tryz.func197, Tryz.ntmps197
  go_wp2_with ((refine at_box ?_; go_must (refine own_box (v := ?_) hO ?_ ?_ ?_; rotate_left; (· rfl); (· ((conv => lhs; whnf); try exact rfl)); clear hO; (try clear hF); intro _ _ hO; (try simp only [Value.cells] at hO); ((try simp only [List.nil_append, List.append_nil] at hO); have hF := Own.cells hO; simp only [cellsOf_append, cellsOf_pt] at hF); simp only [Act.put, List.setIfInBounds_toArray, List.set_cons_zero, List.set_cons_succ])))
  (refine own_still_tail 16 (by kernel_rfl) (by kernel_rfl) hO ?_; clear hO; (try clear hF); intro _ hO; ((try simp only [List.nil_append, List.append_nil] at hO); have hF := Own.cells hO; simp only [cellsOf_append, cellsOf_pt] at hF); simp only [List.take_succ_cons, List.take_zero, List.drop_succ_cons, List.drop_zero]; (repeat still_step); (try refine wpStill_nil ?_))
  (refine own_store (v := ?_) (off := 1 + k) (b := d) hO ?_ ?_ ?_ ?_ ?_ ?_ ?_; rotate_left; (· rfl); (· ((conv => lhs; whnf); try exact rfl)); (· ((conv => lhs; whnf); try exact rfl)); (· simp [Value.cells]); (· simp [Value.cells, Value.oneCell']); (· simp [Value.cells, dcells]; omega); clear hO; (try clear hF); intro _ hO; (try simp only [splice, Value.cells] at hO); ((try simp only [List.nil_append, List.append_nil] at hO); have hF := Own.cells hO; simp only [cellsOf_append, cellsOf_pt] at hF); simp only [Act.put, List.setIfInBounds_toArray, List.set_cons_zero, List.set_cons_succ])
  go_wp2
  go_end0
  simp only [dcells_set _ _ _ _ hk] at hO
  exact ⟨rfl, hO.as _⟩

set_option maxRecDepth 100000 in
set_option maxHeartbeats 16000000 in
theorem dPutDo (E w : World) (X R : Fr) (d : Nat) (s : Nat → Value) (rv : Value) (k p : Nat) (t : ByteArray) (l : List UInt8) (cap : Nat) (a : Option Addr) (A : Fr) (hk : k < 4) (hpt : p + t.size ≤ 4194304) (hll : l.length ≤ 4194304)
   (hs : s k = .slice a l.length cap) (hv : Sl 5 1 a l.length cap (bytesV l) A)
   (hO : Own E w X) [hp : Pick X (pt d (.cells (dcells s rv) 149 (0, 0)) ++ A) R] :
    Calls Tryz.prog 196 #[.agg #[.int .i64 k, .int .i64 p, .string t], .pointer (some ⟨d, 0, none⟩)] w fun e w' => e = .returned (.tuple #[]) ∧
      ∃ a' cap' A', Sl 5 1 a' (over l p t.data.toList).length cap' (bytesV (over l p t.data.toList)) A' ∧
      Own E w' ((pt d (.cells (dcells (upd s k (.slice a' (over l p t.data.toList).length cap')) rv) 149 (0, 0)) ++ A') ++ R) := by
  have hget := dcells_get s rv k hk
  rw [hs] at hget
  replace hO : Own E w (pt d (.cells (dcells s rv) 149 (0, 0)) ++ (A ++ R)) := by
    have := hO.perm hp.perm
    rwa [List.append_assoc] at this
  clear hp
  have hk1 : (k : Int) < 4 := by omega
  have hk2 : (0 : Int) ≤ k := by omega
  have hn1 : (p : Int) ≤ 4194304 := by omega
  have hn3 : (t.size : Int) ≤ 4194304 := by omega
  have hn4 : (l.length : Int) ≤ 4194304 := by omega
  by_cases hlt : l.length < p + t.size
  · have hlt' : 0 < (p : Int) + t.size - l.length := by omega
    go_enter Tryz.func196, Tryz.ntmps196
    go_wp2_with ((refine at_box ?_; go_must (refine own_box (v := ?_) hO ?_ ?_ ?_; rotate_left; (· rfl); (· ((conv => lhs; whnf); try exact rfl)); clear hO; (try clear hF); intro _ _ hO; (try simp only [Value.cells] at hO); ((try simp only [List.nil_append, List.append_nil] at hO); have hF := Own.cells hO; simp only [cellsOf_append, cellsOf_pt] at hF); simp only [Act.put, List.setIfInBounds_toArray, List.set_cons_zero, List.set_cons_succ])))
    (refine own_still (by kernel_rfl) (by kernel_rfl) hO ?_; clear hO; (try clear hF); intro _ hO; ((try simp only [List.nil_append, List.append_nil] at hO); have hF := Own.cells hO; simp only [cellsOf_append, cellsOf_pt] at hF); (repeat still_step); refine wpStill_nil ?_)
    go_wp2_with (at_builtin; go_must (refine own_append_zeros (xi := ?_) (m := p + t.size - l.length) sltBytes (by kernel_rfl) hO ?_ ?_ ?_ ?_ hv ?_ ?_ ?_ ?_ ?_; rotate_left; (· rfl); (· rfl); (· ((conv => lhs; whnf); try exact rfl)); (· omega); (· intro u hu; simp [Value.cells] at hu; subst hu; rfl); (· simp only [maxLen]; omega); (· omega); (· omega); clear hO; intro a1 cap1 A1 w1 hS hO; simp only [Act.put, List.setIfInBounds_toArray, List.set_cons_zero, List.set_cons_succ]))
    rw [zeroCells_byte, ← bytesV_append] at hS
    generalize hnn : l.length + (p + t.size - l.length) = n1 at *
    have hpn : (p : Int) ≤ n1 := by omega
    have hcl := hS.le
    (refine own_still_tail 6 (by kernel_rfl) (by kernel_rfl) hO ?_; clear hO; (try clear hF); intro _ hO; ((try simp only [List.nil_append, List.append_nil] at hO); have hF := Own.cells hO; simp only [cellsOf_append, cellsOf_pt] at hF); simp only [List.take_succ_cons, List.take_zero, List.drop_succ_cons, List.drop_zero]; (repeat still_step); (try refine wpStill_nil ?_))
    generalize hda : (if cap1 = p then a1 else Option.map (fun x => x.add p) a1) = da
    have hda2 : Hid (0 < t.size → da = a1.map (·.add p)) := by intro h0; rw [← hda, if_neg (by omega)]
    clear hda
    refine own_copy_str (dn := ?_) (dc := ?_) (l := p) (s := t) sltBytes hO ?_ ?_ ?_ hS hda2 ?_ ?_ ?_; rotate_left 2
    · rfl
    · ((conv => lhs; whnf); try exact rfl)
    · rfl
    · omega
    · omega
    clear hO; intro A2 _ hS2 hO; simp only [Act.put, List.setIfInBounds_toArray, List.set_cons_zero, List.set_cons_succ]
    go_wp2
    (refine own_still_tail 7 (by kernel_rfl) (by kernel_rfl) hO ?_; clear hO; (try clear hF); intro _ hO; ((try simp only [List.nil_append, List.append_nil] at hO); have hF := Own.cells hO; simp only [cellsOf_append, cellsOf_pt] at hF); simp only [List.take_succ_cons, List.take_zero, List.drop_succ_cons, List.drop_zero]; (repeat still_step); (try refine wpStill_nil ?_))
    (refine own_store (v := ?_) (off := 1 + k) (b := d) hO ?_ ?_ ?_ ?_ ?_ ?_ ?_; rotate_left; (· rfl); (· ((conv => lhs; whnf); try exact rfl)); (· ((conv => lhs; whnf); try exact rfl)); (· simp [Value.cells]); (· simp [Value.cells, Value.oneCell']); (· simp [Value.cells, dcells]; omega); clear hO; (try clear hF); intro _ hO; (try simp only [splice, Value.cells] at hO); ((try simp only [List.nil_append, List.append_nil] at hO); have hF := Own.cells hO; simp only [cellsOf_append, cellsOf_pt] at hF); simp only [Act.put, List.setIfInBounds_toArray, List.set_cons_zero, List.set_cons_succ])
    go_wp2
    go_end0
    simp only [dcells_set _ _ _ _ hk] at hO
    have hsz : t.data.toList.length = t.size := by rw [Array.length_toList]; rfl
    have hov : bytesV (over l p t.data.toList) = (bytesV (l ++ List.replicate (p + t.size - l.length) 0)).take p ++ bytesV t.data.toList ++ (bytesV (l ++ List.replicate (p + t.size - l.length) 0)).drop (p + t.size) := by
      simp only [over, bytesV_append, bytesV_take, bytesV_drop, hsz]
    have hol : (over l p t.data.toList).length = n1 := by rw [over_length, hsz]; omega
    rw [hol, hov]
    exact ⟨rfl, a1, cap1, A2, hS2, hO.as _⟩
  · have hS := hv
    have hr0 : l ++ List.replicate (p + t.size - l.length) 0 = l := by rw [show p + t.size - l.length = 0 by omega]; simp
    rw [← hr0] at hS
    have hlt' : (p : Int) + t.size - l.length ≤ 0 := by omega
    generalize hnn : (l ++ List.replicate (p + t.size - l.length) 0).length = n1 at *
    have hn1l : l.length = n1 := by rw [← hnn, hr0]
    obtain ⟨a1, rfl⟩ : ∃ x, x = a := ⟨_, rfl⟩
    obtain ⟨cap1, rfl⟩ : ∃ x, x = cap := ⟨_, rfl⟩
    obtain ⟨A1, rfl⟩ : ∃ x, x = A := ⟨_, rfl⟩
    go_enter Tryz.func196, Tryz.ntmps196
    go_wp2_with ((refine at_box ?_; go_must (refine own_box (v := ?_) hO ?_ ?_ ?_; rotate_left; (· rfl); (· ((conv => lhs; whnf); try exact rfl)); clear hO; (try clear hF); intro _ _ hO; (try simp only [Value.cells] at hO); ((try simp only [List.nil_append, List.append_nil] at hO); have hF := Own.cells hO; simp only [cellsOf_append, cellsOf_pt] at hF); simp only [Act.put, List.setIfInBounds_toArray, List.set_cons_zero, List.set_cons_succ])))
    (refine own_still (by kernel_rfl) (by kernel_rfl) hO ?_; clear hO; (try clear hF); intro _ hO; ((try simp only [List.nil_append, List.append_nil] at hO); have hF := Own.cells hO; simp only [cellsOf_append, cellsOf_pt] at hF); (repeat still_step); refine wpStill_nil ?_)
    go_wp2_with (go_at_call 0)
    have hpn : (p : Int) ≤ n1 := by omega
    have hcl := hS.le
    (refine own_still_tail 6 (by kernel_rfl) (by kernel_rfl) hO ?_; clear hO; (try clear hF); intro _ hO; ((try simp only [List.nil_append, List.append_nil] at hO); have hF := Own.cells hO; simp only [cellsOf_append, cellsOf_pt] at hF); simp only [List.take_succ_cons, List.take_zero, List.drop_succ_cons, List.drop_zero]; (repeat still_step); (try refine wpStill_nil ?_))
    generalize hda : (if cap1 = p then a1 else Option.map (fun x => x.add p) a1) = da
    have hda2 : Hid (0 < t.size → da = a1.map (·.add p)) := by intro h0; rw [← hda, if_neg (by omega)]
    clear hda
    refine own_copy_str (dn := ?_) (dc := ?_) (l := p) (s := t) sltBytes hO ?_ ?_ ?_ hS hda2 ?_ ?_ ?_; rotate_left 2
    · rfl
    · ((conv => lhs; whnf); try exact rfl)
    · rfl
    · omega
    · omega
    clear hO; intro A2 _ hS2 hO; simp only [Act.put, List.setIfInBounds_toArray, List.set_cons_zero, List.set_cons_succ]
    go_wp2
    (refine own_still_tail 7 (by kernel_rfl) (by kernel_rfl) hO ?_; clear hO; (try clear hF); intro _ hO; ((try simp only [List.nil_append, List.append_nil] at hO); have hF := Own.cells hO; simp only [cellsOf_append, cellsOf_pt] at hF); simp only [List.take_succ_cons, List.take_zero, List.drop_succ_cons, List.drop_zero]; (repeat still_step); (try refine wpStill_nil ?_))
    (refine own_store (v := ?_) (off := 1 + k) (b := d) hO ?_ ?_ ?_ ?_ ?_ ?_ ?_; rotate_left; (· rfl); (· ((conv => lhs; whnf); try exact rfl)); (· ((conv => lhs; whnf); try exact rfl)); (· simp [Value.cells]); (· simp [Value.cells, Value.oneCell']); (· simp [Value.cells, dcells]; omega); clear hO; (try clear hF); intro _ hO; (try simp only [splice, Value.cells] at hO); ((try simp only [List.nil_append, List.append_nil] at hO); have hF := Own.cells hO; simp only [cellsOf_append, cellsOf_pt] at hF); simp only [Act.put, List.setIfInBounds_toArray, List.set_cons_zero, List.set_cons_succ])
    go_wp2
    go_end0
    simp only [dcells_set _ _ _ _ hk] at hO
    have hsz : t.data.toList.length = t.size := by rw [Array.length_toList]; rfl
    have hov : bytesV (over l p t.data.toList) = (bytesV (l ++ List.replicate (p + t.size - l.length) 0)).take p ++ bytesV t.data.toList ++ (bytesV (l ++ List.replicate (p + t.size - l.length) 0)).drop (p + t.size) := by
      simp only [over, bytesV_append, bytesV_take, bytesV_drop, hsz]
    have hol : (over l p t.data.toList).length = n1 := by rw [over_length, hsz]; omega
    rw [hol, hov]
    exact ⟨rfl, a1, cap1, A2, hS2, hO.as _⟩
end Go.Proofs.YtkfkcloefgfkaaaGreat

/- Contracts of package disk: does, Write, Trim, Size, Writes, Read. -/
namespace Go.Proofs.YtkfkcloefgfkaaaGreat
open Go Go.RowKit Go.Own Go.Dk

theorem methPut (v : Value) (w : World) : (method 346 203 v "vestibule/disk.do").run Tryz.prog w = .ok (196, v) w := by kernel_rfl
theorem methTrim (v : Value) (w : World) : (method 346 211 v "vestibule/disk.do").run Tryz.prog w = .ok (197, v) w := by kernel_rfl

set_option maxRecDepth 100000 in
set_option maxHeartbeats 16000000 in
theorem dDoes_trim (E w : World) (X R : Fr) (d : Nat) (rs : List Raw) (A : Fr) (k n : Nat) (hA : DiskAt d rs A) (hr : (Raw.trim k n).ok (play rs)) (hlen : rs.length ≤ 8796093022208)
   (hO : Own E w X) [hp : Pick X A R] :
    Calls Tryz.prog 150 #[.pointer (some ⟨d, 0, none⟩), rawV (.trim k n)] w fun e w' => e = .returned (.int .i64 0) ∧ ∃ A', DiskAt d (rs ++ [Raw.trim k n]) A' ∧ Own E w' (A' ++ R) := by
  obtain ⟨hok, fa, fc, FA, ra, rc, RA, rfl, hf, hra⟩ := hA
  have hr' := hr
  obtain ⟨hk, hn⟩ := hr'
  simp only [rawV]
  replace hO := hO.perm hp.perm
  clear hp
  rw [List.append_assoc, List.append_assoc] at hO
  have hfk := hf k hk
  have hm := methTrim
  go_enter Tryz.func150, Tryz.ntmps150
  go_wp2_with (first | (go_at_call 197; go_must (refine (dTrimDo E _ _ _ d (fileVs fa (play rs) fc) (.slice ra rs.length rc) k n _ _ _ hk hn hfk.le rfl hO).mono ?_; rintro e w1 ⟨rfl, hO⟩; ((try simp only [List.nil_append, List.append_nil] at hO); have hF := Own.cells hO; simp only [cellsOf_append, cellsOf_pt] at hF))) | (refine at_bs ?_; go_must (refine own_build1 (v := ?_) sltRaws hO ?_ ?_ ?_ ?_ ?_ ?_; rotate_left; (· rfl); (· ((conv => lhs; whnf); try exact rfl)); (· rfl); (· decide); (· decide); clear hO; (try clear hF); intro _ _ hO; (try simp only [Value.cells] at hO); ((try simp only [List.nil_append, List.append_nil] at hO); have hF := Own.cells hO; simp only [cellsOf_append, cellsOf_pt] at hF); simp only [Act.put, List.setIfInBounds_toArray, List.set_cons_zero, List.set_cons_succ])) | (at_builtin; go_must (refine own_append_elem (b1 := ?_) (cs := ?_) (e1 := ?_) (f1 := ?_) sltRaws hO ?_ ?_ ?_ hra ?_ ?_ ?_ ?_ ?_ ?_ ?_; rotate_left 4; (· rfl); (· rfl); (· rfl); (· exact inferInstance); (· rfl); (· intro u hu; simp at hu; subst hu; rfl); (· first | omega | (simp only [maxLen]; omega)); (· decide); (· first | omega | (simp only [maxLen]; omega)); clear hO; (try clear hF); intro _ _ _ _ hS hO; ((try simp only [List.nil_append, List.append_nil] at hO); have hF := Own.cells hO; simp only [cellsOf_append, cellsOf_pt] at hF); simp only [Act.put, List.setIfInBounds_toArray, List.set_cons_zero, List.set_cons_succ])) | (refine own_store (v := ?_) (b := d) (off := 5) hO ?_ ?_ ?_ ?_ ?_ ?_ ?_; rotate_left; (· rfl); (· ((conv => lhs; whnf); try exact rfl)); (· ((conv => lhs; whnf); try exact rfl)); (· simp [Value.cells]); (· simp [Value.cells, Value.oneCell']); (· simp [Value.cells, dcells]); clear hO; (try clear hF); intro _ hO; (try simp only [splice, Value.cells] at hO); ((try simp only [List.nil_append, List.append_nil] at hO); have hF := Own.cells hO; simp only [cellsOf_append, cellsOf_pt] at hF); simp only [Act.put, List.setIfInBounds_toArray, List.set_cons_zero, List.set_cons_succ]))
  go_ret
  simp only [dcells_set5] at hO
  exact ⟨rfl, _, DiskAt.step_trim hok hr hf hS, hO.as _⟩

set_option maxRecDepth 100000 in
set_option maxHeartbeats 16000000 in
theorem dDoes_put (E w : World) (X R : Fr) (d : Nat) (rs : List Raw) (A : Fr) (k p : Nat) (t : ByteArray) (hA : DiskAt d rs A) (hr : (Raw.put k p t).ok (play rs)) (hlen : rs.length ≤ 8796093022208)
   (hO : Own E w X) [hp : Pick X A R] :
    Calls Tryz.prog 150 #[.pointer (some ⟨d, 0, none⟩), rawV (.put k p t)] w fun e w' => e = .returned (.int .i64 0) ∧ ∃ A', DiskAt d (rs ++ [Raw.put k p t]) A' ∧ Own E w' (A' ++ R) := by
  obtain ⟨hok, fa, fc, FA, ra, rc, RA, rfl, hf, hra⟩ := hA
  have hr' := hr
  obtain ⟨hk, hn⟩ := hr'
  simp only [rawV]
  have hfk := hf k hk
  replace hO : Own E w (pt d (.cells (dcells (fileVs fa (play rs) fc) (.slice ra rs.length rc)) 149 (0, 0)) ++ (FA k ++ (files (upd FA k []) ++ (RA ++ R)))) := by
    have h1 := hO.perm hp.perm
    rw [List.append_assoc, List.append_assoc] at h1
    refine h1.perm (List.Perm.append_left _ ?_)
    rw [← List.append_assoc (FA k)]
    exact List.Perm.append_right _ (files_pick FA k hk)
  clear hp
  have hpl := play_le hok k
  have hm := methPut
  go_enter Tryz.func150, Tryz.ntmps150
  go_wp2_with (first | (go_at_call 196; go_must (refine (dPutDo E _ _ _ d (fileVs fa (play rs) fc) (.slice ra rs.length rc) k p t _ _ _ _ hk hn hpl rfl hfk hO).mono ?_; rintro e w1 ⟨rfl, a', cap', A', hA', hO⟩; ((try simp only [List.nil_append, List.append_nil] at hO); have hF := Own.cells hO; simp only [cellsOf_append, cellsOf_pt] at hF))) | (refine at_bs ?_; go_must (refine own_build1 (v := ?_) sltRaws hO ?_ ?_ ?_ ?_ ?_ ?_; rotate_left; (· rfl); (· ((conv => lhs; whnf); try exact rfl)); (· rfl); (· decide); (· decide); clear hO; (try clear hF); intro _ _ hO; (try simp only [Value.cells] at hO); ((try simp only [List.nil_append, List.append_nil] at hO); have hF := Own.cells hO; simp only [cellsOf_append, cellsOf_pt] at hF); simp only [Act.put, List.setIfInBounds_toArray, List.set_cons_zero, List.set_cons_succ])) | (at_builtin; go_must (refine own_append_elem (b1 := ?_) (cs := ?_) (e1 := ?_) (f1 := ?_) sltRaws hO ?_ ?_ ?_ hra ?_ ?_ ?_ ?_ ?_ ?_ ?_; rotate_left 4; (· rfl); (· rfl); (· rfl); (· exact inferInstance); (· rfl); (· intro u hu; simp at hu; subst hu; rfl); (· first | omega | (simp only [maxLen]; omega)); (· decide); (· first | omega | (simp only [maxLen]; omega)); clear hO; (try clear hF); intro _ _ _ _ hS hO; ((try simp only [List.nil_append, List.append_nil] at hO); have hF := Own.cells hO; simp only [cellsOf_append, cellsOf_pt] at hF); simp only [Act.put, List.setIfInBounds_toArray, List.set_cons_zero, List.set_cons_succ])) | (refine own_store (v := ?_) (b := d) (off := 5) hO ?_ ?_ ?_ ?_ ?_ ?_ ?_; rotate_left; (· rfl); (· ((conv => lhs; whnf); try exact rfl)); (· ((conv => lhs; whnf); try exact rfl)); (· simp [Value.cells]); (· simp [Value.cells, Value.oneCell']); (· simp [Value.cells, dcells]); clear hO; (try clear hF); intro _ hO; (try simp only [splice, Value.cells] at hO); ((try simp only [List.nil_append, List.append_nil] at hO); have hF := Own.cells hO; simp only [cellsOf_append, cellsOf_pt] at hF); simp only [Act.put, List.setIfInBounds_toArray, List.set_cons_zero, List.set_cons_succ]))
  go_ret
  simp only [dcells_set5] at hO
  exact ⟨rfl, _, DiskAt.step_put hok hr hf hS hA', Own_putFile hO hk⟩

end Go.Proofs.YtkfkcloefgfkaaaGreat

/- Contracts of package disk: Write, Trim, Size, Writes, Read. -/
namespace Go.Proofs.YtkfkcloefgfkaaaGreat
open Go Go.RowKit Go.Own Go.Dk

def wr (rs : List Raw) (file at_ : Int) (s : ByteArray) : List Raw × Int :=
  if fileOk file = true ∧ 0 ≤ at_ ∧ at_ ≤ 4194304 ∧ (s.size : Int) ≤ 4194304 - at_ then (rs ++ [.put file.toNat at_.toNat s], 0) else (rs, 1)

set_option maxRecDepth 100000 in
set_option maxHeartbeats 16000000 in
theorem dWrite (E w : World) (X R : Fr) (d : Nat) (rs : List Raw) (A : Fr) (file at_ : Int) (s : ByteArray) (hs : s.size ≤ maxLen) (hA : DiskAt d rs A) (hlen : rs.length ≤ 8796093022208) (hO : Own E w X) [hp : Pick X A R] :
    Calls Tryz.prog 104 #[.pointer (some ⟨d, 0, none⟩), .int .i64 file, .int .i64 at_, .string s] w fun e w' => e = .returned (.int .i64 (wr rs file at_ s).2) ∧ ∃ A', DiskAt d (wr rs file at_ s).1 A' ∧ Own E w' (A' ++ R) := by
  have hg := hA.given hO
  have hR := hO.perm hp.perm
  unfold maxLen at hs
  by_cases h1 : fileOk file = true
  case neg =>
    have hw : wr rs file at_ s = (rs, 1) := by unfold wr; rw [if_neg (by simp [h1])]
    have h1' : fileOk file = false := by simpa using h1
    rw [hw]
    go_enter Tryz.func104, Tryz.ntmps104
    go_wp2_with (go_at_call 149; refine (dGiven d file _ hg).mono ?_; rintro e w1 ⟨rfl, rfl⟩; rw [h1'])
    go_ret
    exact ⟨rfl, A, hA, hR⟩
  by_cases h2 : 0 ≤ at_
  case neg =>
    have hw : wr rs file at_ s = (rs, 1) := by unfold wr; rw [if_neg (by simp [h2])]
    rw [hw]
    go_enter Tryz.func104, Tryz.ntmps104
    go_wp2_with (go_at_call 149; refine (dGiven d file _ hg).mono ?_; rintro e w1 ⟨rfl, rfl⟩; rw [h1])
    go_ret
    exact ⟨rfl, A, hA, hR⟩
  by_cases h3 : at_ ≤ 4194304
  case neg =>
    have hw : wr rs file at_ s = (rs, 1) := by unfold wr; rw [if_neg (by simp [h3])]
    rw [hw]
    go_enter Tryz.func104, Tryz.ntmps104
    go_wp2_with (go_at_call 149; refine (dGiven d file _ hg).mono ?_; rintro e w1 ⟨rfl, rfl⟩; rw [h1])
    go_ret
    exact ⟨rfl, A, hA, hR⟩
  by_cases h4 : (s.size : Int) ≤ 4194304 - at_
  case neg =>
    have hw : wr rs file at_ s = (rs, 1) := by unfold wr; rw [if_neg (by simp [h4])]
    rw [hw]
    go_enter Tryz.func104, Tryz.ntmps104
    go_wp2_with (go_at_call 149; refine (dGiven d file _ hg).mono ?_; rintro e w1 ⟨rfl, rfl⟩; rw [h1])
    go_ret
    exact ⟨rfl, A, hA, hR⟩
  have hw : wr rs file at_ s = (rs ++ [.put file.toNat at_.toNat s], 0) := by unfold wr; rw [if_pos ⟨h1, h2, h3, h4⟩]
  rw [hw]
  obtain ⟨k, rfl, hk⟩ := fileOk_of h1
  obtain ⟨p, rfl⟩ : ∃ p : Nat, at_ = p := ⟨at_.toNat, by omega⟩
  simp only [Int.toNat_natCast]
  have hok : (Raw.put k p s).ok (play rs) := ⟨hk, by omega⟩
  clear hw
  go_enter Tryz.func104, Tryz.ntmps104
  go_wp2_with (first | (go_at_call 149; refine (dGiven d _ _ hg).mono ?_; rintro e w1 ⟨rfl, rfl⟩; rw [h1]) | (go_at_call 150; go_must (refine (dDoes_put E _ _ _ d rs A k p s hA hok hlen hO).mono ?_; rintro e w1 ⟨rfl, hA'⟩)))
  go_ret
  exact ⟨rfl, hA'⟩
end Go.Proofs.YtkfkcloefgfkaaaGreat

/- Contracts of package disk: Trim, Size, Writes, Read. -/
namespace Go.Proofs.YtkfkcloefgfkaaaGreat
open Go Go.RowKit Go.Own Go.Dk

def tr (rs : List Raw) (file size : Int) : List Raw × Int :=
  if fileOk file = true ∧ 0 ≤ size ∧ size ≤ (play rs file.toNat).length then (rs ++ [.trim file.toNat size.toNat], 0) else (rs, 1)

set_option maxRecDepth 100000 in
set_option maxHeartbeats 16000000 in
theorem dTrim (E w : World) (X R : Fr) (d : Nat) (rs : List Raw) (A : Fr) (file size : Int) (hA : DiskAt d rs A) (hlen : rs.length ≤ 8796093022208) (hO : Own E w X) [hp : Pick X A R] :
    Calls Tryz.prog 112 #[.pointer (some ⟨d, 0, none⟩), .int .i64 file, .int .i64 size] w fun e w' => e = .returned (.int .i64 (tr rs file size).2) ∧ ∃ A', DiskAt d (tr rs file size).1 A' ∧ Own E w' (A' ++ R) := by
  have hg := hA.given hO
  have hR := hO.perm hp.perm
  by_cases h1 : fileOk file = true
  case neg =>
    have hw : tr rs file size = (rs, 1) := by unfold tr; rw [if_neg (by simp [h1])]
    have h1' : fileOk file = false := by simpa using h1
    rw [hw]
    go_enter Tryz.func112, Tryz.ntmps112
    go_wp2_with (go_at_call 149; refine (dGiven d file _ hg).mono ?_; rintro e w1 ⟨rfl, rfl⟩; rw [h1'])
    go_ret
    exact ⟨rfl, A, hA, hR⟩
  by_cases h2 : 0 ≤ size
  case neg =>
    have hw : tr rs file size = (rs, 1) := by unfold tr; rw [if_neg (by simp [h2])]
    rw [hw]
    go_enter Tryz.func112, Tryz.ntmps112
    go_wp2_with (go_at_call 149; refine (dGiven d file _ hg).mono ?_; rintro e w1 ⟨rfl, rfl⟩; rw [h1])
    go_ret
    exact ⟨rfl, A, hA, hR⟩
  obtain ⟨k, rfl, hk⟩ := fileOk_of h1
  obtain ⟨fa, fc, hc, hfl, _, _, _⟩ := hA.fcell hO k hk
  have hk1 : (k : Int) < 4 := by omega
  have hk2 : (0 : Int) ≤ k := by omega
  by_cases h3 : size ≤ (play rs k).length
  case neg =>
    have hw : tr rs k size = (rs, 1) := by unfold tr; rw [if_neg (by simp [h3])]
    rw [hw]
    clear hw
    go_enter Tryz.func112, Tryz.ntmps112
    go_wp2_with (go_at_call 149; refine (dGiven d _ _ hg).mono ?_; rintro e w1 ⟨rfl, rfl⟩; rw [h1])
    go_ret
    exact ⟨rfl, A, hA, hR⟩
  obtain ⟨m, rfl⟩ : ∃ p : Nat, size = p := ⟨size.toNat, by omega⟩
  have hw : tr rs k m = (rs ++ [.trim k m], 0) := by unfold tr; rw [if_pos ⟨h1, h2, by simpa using h3⟩]; simp
  rw [hw]
  have hok : (Raw.trim k m).ok (play rs) := ⟨hk, by omega⟩
  clear hw
  go_enter Tryz.func112, Tryz.ntmps112
  go_wp2_with (first | (go_at_call 149; refine (dGiven d _ _ hg).mono ?_; rintro e w1 ⟨rfl, rfl⟩; rw [h1]) | (go_at_call 150; go_must (refine (dDoes_trim E _ _ _ d rs A k m hA hok hlen hO).mono ?_; rintro e w1 ⟨rfl, hA'⟩)))
  go_ret
  exact ⟨rfl, hA'⟩

def sz (rs : List Raw) (file : Int) : Nat := if fileOk file = true then (play rs file.toNat).length else 0

set_option maxRecDepth 100000 in
set_option maxHeartbeats 16000000 in
theorem dSize (E w : World) (X R : Fr) (d : Nat) (rs : List Raw) (A : Fr) (file : Int) (hA : DiskAt d rs A) (hO : Own E w X) [hp : Pick X A R] :
    Calls Tryz.prog 111 #[.pointer (some ⟨d, 0, none⟩), .int .i64 file] w fun e w' => e = .returned (.int .i64 (sz rs file)) ∧ w = w' := by
  have hg := hA.given hO
  by_cases h1 : fileOk file = true
  case neg =>
    have hw : sz rs file = 0 := by unfold sz; rw [if_neg (by simp [h1])]
    have h1' : fileOk file = false := by simpa using h1
    rw [hw]
    go_enter Tryz.func111, Tryz.ntmps111
    go_wp2_with (go_at_call 149; refine (dGiven d file _ hg).mono ?_; rintro e w1 ⟨rfl, rfl⟩; rw [h1'])
    go_ret
    exact ⟨rfl, rfl⟩
  obtain ⟨k, rfl, hk⟩ := fileOk_of h1
  obtain ⟨fa, fc, hc, hfl, _, _, _⟩ := hA.fcell hO k hk
  have hk1 : (k : Int) < 4 := by omega
  have hk2 : (0 : Int) ≤ k := by omega
  have hw : sz rs k = (play rs k).length := by unfold sz; rw [if_pos h1]; simp
  rw [hw]
  clear hw
  go_enter Tryz.func111, Tryz.ntmps111
  go_wp2_with (go_at_call 149; refine (dGiven d _ _ hg).mono ?_; rintro e w1 ⟨rfl, rfl⟩; rw [h1])
  go_ret
  exact ⟨rfl, rfl⟩

theorem fileOk_0 : fileOk 0 = true := rfl




def rd (rs : List Raw) (file at_ n : Int) : ByteArray × Int :=
  if fileOk file = true ∧ 0 ≤ at_ ∧ 0 ≤ n ∧ at_ ≤ (play rs file.toNat).length ∧ n ≤ (play rs file.toNat).length - at_ then (⟨(((play rs file.toNat).drop at_.toNat).take n.toNat).toArray⟩, 0) else (ByteArray.empty, 1)

set_option maxRecDepth 100000 in
set_option maxHeartbeats 16000000 in
theorem dRead (E w : World) (X R : Fr) (d : Nat) (rs : List Raw) (A : Fr) (file at_ n : Int) (hA : DiskAt d rs A) (hO : Own E w X) [hp : Pick X A R] :
    Calls Tryz.prog 110 #[.pointer (some ⟨d, 0, none⟩), .int .i64 file, .int .i64 at_, .int .i64 n] w fun e w' => e = .returned (.tuple #[.string (rd rs file at_ n).1, .int .i64 (rd rs file at_ n).2]) ∧ w = w' := by
  have hg := hA.given hO
  by_cases h1 : fileOk file = true
  case neg =>
    have hw : rd rs file at_ n = (ByteArray.empty, 1) := by unfold rd; rw [if_neg (by simp [h1])]
    have h1' : fileOk file = false := by simpa using h1
    rw [hw]
    go_enter Tryz.func110, Tryz.ntmps110
    go_wp2_with (go_at_call 149; refine (dGiven d file _ hg).mono ?_; rintro e w1 ⟨rfl, rfl⟩; rw [h1'])
    go_ret2
    exact ⟨rfl, rfl⟩
  by_cases h2 : 0 ≤ at_
  case neg =>
    have hw : rd rs file at_ n = (ByteArray.empty, 1) := by unfold rd; rw [if_neg (by simp [h2])]
    rw [hw]
    go_enter Tryz.func110, Tryz.ntmps110
    go_wp2_with (go_at_call 149; refine (dGiven d _ _ hg).mono ?_; rintro e w1 ⟨rfl, rfl⟩; rw [h1])
    go_ret2
    exact ⟨rfl, rfl⟩
  by_cases h3 : 0 ≤ n
  case neg =>
    have hw : rd rs file at_ n = (ByteArray.empty, 1) := by unfold rd; rw [if_neg (by simp [h3])]
    rw [hw]
    go_enter Tryz.func110, Tryz.ntmps110
    go_wp2_with (go_at_call 149; refine (dGiven d _ _ hg).mono ?_; rintro e w1 ⟨rfl, rfl⟩; rw [h1])
    go_ret2
    exact ⟨rfl, rfl⟩
  obtain ⟨k, rfl, hk⟩ := fileOk_of h1
  obtain ⟨fa, fc, hc, hfl, hcm, hcell, hnil⟩ := hA.fcell hO k hk
  have hk1 : (k : Int) < 4 := by omega
  have hk2 : (0 : Int) ≤ k := by omega
  have hle := play_le hA.1 k
  have hle' : ((play rs k).length : Int) ≤ 4194304 := by omega
  by_cases h4 : at_ ≤ (play rs k).length
  case neg =>
    have hw : rd rs k at_ n = (ByteArray.empty, 1) := by unfold rd; rw [if_neg (by simp [h4])]
    rw [hw]
    clear hw hcell hnil
    go_enter Tryz.func110, Tryz.ntmps110
    go_wp2_with (go_at_call 149; refine (dGiven d _ _ hg).mono ?_; rintro e w1 ⟨rfl, rfl⟩; rw [h1])
    go_ret2
    exact ⟨rfl, rfl⟩
  by_cases h5 : n ≤ (play rs k).length - at_
  case neg =>
    have hw : rd rs k at_ n = (ByteArray.empty, 1) := by unfold rd; rw [if_neg (by simp [h5])]
    rw [hw]
    clear hw hcell hnil
    go_enter Tryz.func110, Tryz.ntmps110
    go_wp2_with (go_at_call 149; refine (dGiven d _ _ hg).mono ?_; rintro e w1 ⟨rfl, rfl⟩; rw [h1])
    go_ret2
    exact ⟨rfl, rfl⟩
  obtain ⟨p, rfl⟩ : ∃ p : Nat, at_ = p := ⟨at_.toNat, by omega⟩
  obtain ⟨m, rfl⟩ : ∃ p : Nat, n = p := ⟨n.toNat, by omega⟩
  have hw : rd rs k p m = (⟨(((play rs k).drop p).take m).toArray⟩, 0) := by unfold rd; rw [if_pos ⟨h1, h2, h3, by simpa using h4, by simpa using h5⟩]; simp
  rw [hw]
  clear hw
  have hcell' : Hid (∀ b, fa = some b → ∀ j v, (bytesV (play rs k))[j]? = some v → w.cell? (b.add j) = some v) := hcell
  have hnil' : Hid (fa = none → fc = 0) := hnil
  clear hcell hnil
  have h6 : (p : Int) + m ≤ fc := by omega
  have h7 : (p : Int) ≤ p + m := by omega
  go_enter Tryz.func110, Tryz.ntmps110
  go_wp2_with (first | (go_at_call 149; refine (dGiven d _ _ hg).mono ?_; rintro e w1 ⟨rfl, rfl⟩; rw [h1]) | (refine own_bytes_str (e := 5) (ad := ?_) (n := ?_) (cap := ?_) (l := ((play rs k).drop p).take m) (by kernel_rfl) (by kernel_rfl) (by kernel_rfl) ?_ ?_ ?_ ?_ ?_ ?_; rotate_left 3; (· rfl); (· ((conv => lhs; whnf); try exact rfl)); (· simp; omega); (· exact cut_cells hcell'.out (by omega) (by omega)); (· intro h; have := cut_none hnil'.out (m := m) (by omega) h; omega); simp only [Act.put, List.setIfInBounds_toArray, List.set_cons_zero, List.set_cons_succ]))
  all_goals (go_ret2; exact ⟨rfl, rfl⟩)
end Go.Proofs.YtkfkcloefgfkaaaGreat

/- Contracts of package disk: Cut. -/
namespace Go.Proofs.YtkfkcloefgfkaaaGreat
open Go Go.RowKit Go.Own Go.Dk

theorem dDoes (E w : World) (X R : Fr) (d : Nat) (rs : List Raw) (A : Fr) (r : Raw) (hA : DiskAt d rs A) (hr : r.ok (play rs)) (hlen : rs.length ≤ 8796093022208)
   (hO : Own E w X) [hp : Pick X A R] :
    Calls Tryz.prog 150 #[.pointer (some ⟨d, 0, none⟩), rawV r] w fun e w' => e = .returned (.int .i64 0) ∧ ∃ A', DiskAt d (rs ++ [r]) A' ∧ Own E w' (A' ++ R) := by
  cases r with
  | put k p t => exact dDoes_put E w X R d rs A k p t hA hr hlen hO
  | trim k n => exact dDoes_trim E w X R d rs A k n hA hr hlen hO

theorem raws_of {d : Nat} {rs : List Raw} {A : Fr} (hA : DiskAt d rs A) : ∃ ra rc, rs.length ≤ rc ∧ rc ≤ maxLen ∧ ∀ E w X R, Own E w X → Pick X A R →
    w.cell? ⟨d, 5, none⟩ = some (.slice ra rs.length rc) ∧ ∀ i (hi : i < rs.length), ∃ b, ra = some ⟨b, 0, none⟩ ∧ w.cell? ⟨b, i, none⟩ = some (rawV rs[i]) := by
  obtain ⟨hok, fa, fc, FA, ra, rc, RA, rfl, hf, hra⟩ := hA
  refine ⟨ra, rc, hra.le, hra.cap_le, fun E w X R hO hp => ?_⟩
  have h1 := hO.perm hp.perm
  refine ⟨by rw [h1.cell (b := d), dcells_5], fun i hi => ?_⟩
  rcases hra.2.2.2 with ⟨_, hc, _⟩ | ⟨b, rest, hb, hl, hA⟩
  · have := hra.2.1; omega
  · refine ⟨b, hb, ?_⟩
    subst hA
    rw [h1.cell (b := b)]
    have hi' : i < (rs.map rawV).length := by simpa using hi
    simp [List.getElem?_append_left hi', hi]






end Go.Proofs.YtkfkcloefgfkaaaGreat
