/- A small separation logic over the model's worlds: 'Own E w X' says that the blocks listed in X are all different and hold what X says, and that the world's streams and tape are E's. -/
import Derived.WalkKit
import Derived.WalkLawsBesides
import Derived.WalkSpells
import Derived.Lib.Hide
import Derived.Deep.Quiet
import Derived.StillTailTactics
import Derived.OrdersHeld
import Derived.Deep.QuietTactic
import Derived.BigQuiet
set_option linter.all false
namespace Go.Own
open Go.RowKit

abbrev Fr := List (Nat × Obj)
def pt (b : Nat) (o : Obj) : Fr := [(b, o)]

structure Own (E w : World) (X : Fr) : Prop where
  os : w.os = E.os
  tape : w.tape = E.tape
  output : w.output = E.output
  nodup : (X.map (·.1)).Nodup
  mem : ∀ p ∈ X, w.heap[p.1]? = some p.2

theorem Own.perm {E w : World} {X Y : Fr} (h : Own E w X) (p : X.Perm Y) : Own E w Y :=
  ⟨h.os, h.tape, h.output, (p.map _).nodup_iff.1 h.nodup, fun q hq => h.mem q (p.mem_iff.2 hq)⟩

theorem Own.right {E w : World} {A R : Fr} (h : Own E w (A ++ R)) : Own E w R :=
  ⟨h.os, h.tape, h.output, by have := h.nodup; rw [List.map_append] at this; exact (List.nodup_append.1 this).2.1,
   fun q hq => h.mem q (List.mem_append.2 (.inr hq))⟩

theorem Own.left {E w : World} {A R : Fr} (h : Own E w (A ++ R)) : Own E w A :=
  ⟨h.os, h.tape, h.output, by have := h.nodup; rw [List.map_append] at this; exact (List.nodup_append.1 this).1,
   fun q hq => h.mem q (List.mem_append.2 (.inl hq))⟩

theorem Own.lt {E w : World} {X : Fr} (h : Own E w X) {b : Nat} {o : Obj} (hb : (b, o) ∈ X) : b < w.heap.size := by
  have := h.mem _ hb
  exact (Array.getElem?_eq_some_iff.1 this).1

theorem Own.alloc {E w : World} {X : Fr} (h : Own E w X) (o : Obj) : Own E (w.alloc o) (pt w.heap.size o ++ X) := by
  refine ⟨h.os, h.tape, h.output, ?_, ?_⟩
  · simp only [pt, List.cons_append, List.nil_append, List.map_cons, List.nodup_cons]
    refine ⟨?_, h.nodup⟩
    intro hm
    obtain ⟨⟨b, o'⟩, hq, hb⟩ := List.mem_map.1 hm
    have := h.lt hq
    simp at hb
    omega
  · intro p hp
    rcases List.mem_append.1 hp with hp | hp
    · simp only [pt, List.mem_singleton] at hp
      subst hp
      show (w.heap.push o)[w.heap.size]? = _
      simp
    · have hl := h.lt hp
      show (w.heap.push o)[p.1]? = _
      rw [Array.getElem?_push, if_neg (by omega)]
      exact h.mem p hp

theorem Own.drew {E w : World} {X : Fr} (h : Own E w X) : Own E w.drew X := ⟨h.os, h.tape, h.output, h.nodup, h.mem⟩
theorem Own.drewN {E w : World} {X : Fr} (h : Own E w X) (n : Nat) : Own E (w.drewN n) X := ⟨h.os, h.tape, h.output, h.nodup, h.mem⟩

theorem Own.fresh {E w : World} {b : Nat} {o : Obj} {R : Fr} (h : Own E w (pt b o ++ R)) : ∀ p ∈ R, p.1 ≠ b := by
  intro p hp e
  have := h.nodup
  simp only [pt, List.cons_append, List.nil_append, List.map_cons, List.nodup_cons] at this
  exact this.1 (List.mem_map.2 ⟨p, hp, e⟩)

/-- A block of ours is exchanged for another. -/
theorem Own.modify {E w w' : World} {b : Nat} {o o' : Obj} {R : Fr} (h : Own E w (pt b o ++ R)) (hos : w'.os = w.os) (ht : w'.tape = w.tape) (hout : w'.output = w.output)
    (hb : w'.heap[b]? = some o') (hne : ∀ k, k ≠ b → w'.heap[k]? = w.heap[k]?) : Own E w' (pt b o' ++ R) := by
  refine ⟨hos.trans h.os, ht.trans h.tape, hout.trans h.output, ?_, ?_⟩
  · have := h.nodup
    simpa [pt] using this
  · intro p hp
    rcases List.mem_append.1 hp with hp | hp
    · simp only [pt, List.mem_singleton] at hp
      subst hp
      exact hb
    · rw [hne _ (h.fresh p hp)]
      exact h.mem p (List.mem_append.2 (.inr hp))

/-! Finding a block in a list of blocks -/

class Has (X : Fr) (b : Nat) (o : outParam Obj) : Prop where
  mem : (b, o) ∈ X
instance (b : Nat) (o : Obj) : Has (pt b o) b o := ⟨by simp [pt]⟩
instance (A R : Fr) (b : Nat) (o : Obj) [h : Has A b o] : Has (A ++ R) b o := ⟨List.mem_append.2 (.inl h.mem)⟩
instance (A R : Fr) (b : Nat) (o : Obj) [h : Has R b o] : Has (A ++ R) b o := ⟨List.mem_append.2 (.inr h.mem)⟩

class PickPt (X : Fr) (b : Nat) (o : outParam Obj) (R : outParam Fr) : Prop where
  perm : X.Perm (pt b o ++ R)
instance (b : Nat) (o : Obj) (R : Fr) : PickPt (pt b o ++ R) b o R := ⟨.refl _⟩
instance (b : Nat) (o : Obj) : PickPt (pt b o) b o [] := ⟨by simp [pt]⟩
instance (A X R : Fr) (b : Nat) (o : Obj) [h : PickPt X b o R] : PickPt (A ++ X) b o (A ++ R) :=
  ⟨(List.Perm.append_left A h.perm).trans (by rw [← List.append_assoc, ← List.append_assoc]; exact List.Perm.append_right _ List.perm_append_comm)⟩

instance (A X R : Fr) (b : Nat) (o : Obj) [h : PickPt A b o R] : PickPt (A ++ X) b o (R ++ X) :=
  ⟨(List.Perm.append_right X h.perm).trans (by rw [List.append_assoc])⟩

class Pick (X : Fr) (A : Fr) (R : outParam Fr) : Prop where
  perm : X.Perm (A ++ R)
instance pickNil (X : Fr) : Pick X [] X := ⟨.refl _⟩
instance pickAll (A : Fr) : Pick A A [] := ⟨by simp⟩
instance pickHere (A R : Fr) : Pick (A ++ R) A R := ⟨.refl _⟩
instance pickSkip (B X A R : Fr) [h : Pick X A R] : Pick (B ++ X) A (B ++ R) :=
  ⟨(List.Perm.append_left B h.perm).trans (by rw [← List.append_assoc, ← List.append_assoc]; exact List.Perm.append_right _ List.perm_append_comm)⟩
instance pickLeft (B X A R : Fr) [h : Pick B A R] : Pick (B ++ X) A (R ++ X) :=
  ⟨(List.Perm.append_right X h.perm).trans (by rw [List.append_assoc])⟩
instance (priority := high) pickTwo (X A B R S : Fr) [h : Pick X A R] [k : Pick R B S] : Pick X (A ++ B) S :=
  ⟨h.perm.trans (by rw [List.append_assoc]; exact List.Perm.append_left A k.perm)⟩

theorem Own.pickPt {E w : World} {X R : Fr} {b : Nat} {o : Obj} (h : Own E w X) [k : PickPt X b o R] : Own E w (pt b o ++ R) := h.perm k.perm
theorem Own.pick {E w : World} {X : Fr} (h : Own E w X) (A : Fr) {R : Fr} [k : Pick X A R] : Own E w (A ++ R) := h.perm k.perm
/-- What is listed, in another order (and less). -/
theorem Own.as {E w : World} {X : Fr} (h : Own E w X) (A : Fr) {R : Fr} [k : Pick X A R] : Own E w A := (h.perm k.perm).left

theorem Own.get {E w : World} {X : Fr} {b : Nat} {o : Obj} (h : Own E w X) [k : Has X b o] : w.heap[b]? = some o := h.mem _ k.mem
theorem Own.hasLt {E w : World} {X : Fr} {b : Nat} {o : Obj} (h : Own E w X) [k : Has X b o] : b < w.heap.size := h.lt k.mem
theorem Own.cell {E w : World} {X : Fr} {b : Nat} {cs : Array Value} {e : TypeId} {f : Nat × Nat} (h : Own E w X) [k : Has X b (.cells cs e f)] (i : Nat) :
    w.cell? ⟨b, i, none⟩ = cs[i]? := by
  simp [World.cell?, h.get (b := b)]

/-- Two blocks of ours are not one. -/
theorem Own.ne {E w : World} {X R : Fr} {b b' : Nat} {o o' : Obj} (h : Own E w X) [k : PickPt X b o R] [k' : Has R b' o'] : b' ≠ b :=
  (h.perm k.perm).fresh _ k'.mem

theorem Own.setCell {E w : World} {X R : Fr} {b : Nat} {cs : Array Value} {e : TypeId} {f : Nat × Nat} (h : Own E w X) [k : PickPt X b (.cells cs e f) R] (i : Nat) (v : Value) :
    Own E (w.setCell ⟨b, i, none⟩ v) (pt b (.cells (cs.setIfInBounds i v) e f) ++ R) := by
  have h' := h.pickPt (b := b)
  have hg : w.heap[b]? = some (.cells cs e f) := h'.get
  refine h'.modify rfl rfl rfl ?_ ?_
  · simp only [World.setCell, Array.getElem?_modify, hg]; simp
  · intro k hk
    exact Below.heap_setCell _ _ _ _ hk


/-! What the blocks of ours hold, cell by cell: rules for the walk -/

def cellsOf (w : World) : Fr → Prop
  | [] => True
  | (b, .cells cs _ f) :: r => ((∀ i, w.cell? ⟨b, i, none⟩ = cs[i]?) ∧ (∀ i, w.frozen? ⟨b, i, none⟩ = (decide (f.1 ≤ i) && decide (i < f.2)))) ∧ cellsOf w r
  | _ :: r => cellsOf w r

theorem cellsOf_append (w : World) (A R : Fr) : cellsOf w (A ++ R) = (cellsOf w A ∧ cellsOf w R) := by
  induction A with
  | nil => simp [cellsOf]
  | cons p A ih =>
    obtain ⟨b, o⟩ := p
    cases o <;> simp [cellsOf, ih, and_assoc]
theorem cellsOf_pt (w : World) (b : Nat) (cs : Array Value) (e : TypeId) : cellsOf w (pt b (.cells cs e (0, 0))) = ((∀ i, w.cell? ⟨b, i, none⟩ = cs[i]?) ∧ (∀ i, w.frozen? ⟨b, i, none⟩ = false)) := by
  simp [cellsOf, pt]

theorem Own.cells {E w : World} {X : Fr} (h : Own E w X) : cellsOf w X := by
  have : ∀ Y : Fr, (∀ p ∈ Y, w.heap[p.1]? = some p.2) → cellsOf w Y := by
    intro Y
    induction Y with
    | nil => intro _; trivial
    | cons p Y ih =>
      intro hm
      have hY := ih (fun q hq => hm q (List.mem_cons_of_mem _ hq))
      have hp := hm p (List.mem_cons_self ..)
      obtain ⟨b, o⟩ := p
      cases o <;> simp only [cellsOf] <;> first
        | exact hY
        | (refine ⟨⟨fun i => ?_, fun i => ?_⟩, hY⟩
           · simp only [World.cell?]; rw [hp]; rfl
           · simp only [World.frozen?]; rw [hp])
  exact this X h.mem

/-! The operations that make or write memory, one law each. What follows is asked of every world in which the new list of blocks holds. -/
section laws
variable {P : Program} {ops : Array Oper} {Q : Exit → Act → World → Prop} {rest : List Oper} {a : Act} {E w : World} {X R : Fr} {d : Option Tmp} {ty : TypeId} {pos : String} {aft : Array Edge} {g : Option (Nat × Bool)}

theorem wpList_run_value {o : Oper} {v : Value} {w1 : World} (hw : Region.wanted o (yielded ops a.tmps) = true) (hr : (execOp a.eval o).run P w = .ok (.value v) w1)
    (next : wpList P ops Q rest (a.put o.dst v) w1) : wpList P ops Q (o :: rest) a w := by
  unfold wpList
  rw [if_pos hw]
  refine .inl ?_
  unfold Oper.wp
  rw [hr]
  exact next
theorem wpList_run_skip {o : Oper} {w1 : World} (hw : Region.wanted o (yielded ops a.tmps) = true) (hr : (execOp a.eval o).run P w = .ok .skip w1)
    (next : wpList P ops Q rest (a.put o.dst undef) w1) : wpList P ops Q (o :: rest) a w := by
  unfold wpList
  rw [if_pos hw]
  refine .inl ?_
  unfold Oper.wp
  rw [hr]
  exact next

theorem own_alloc {t : TypeId} {z : Value} (hO : Own E w X) (hw : Region.wanted ⟨d, .alloc t, ty, pos, aft, g⟩ (yielded ops a.tmps) = true)
    (hz : (zeroValue t).run P w = .ok z w)
    (next : ∀ b w1, Own E w1 (pt b (.cells z.cells t) ++ X) → wpList P ops Q rest (a.put d (.pointer (some ⟨b, 0, none⟩))) w1) :
    wpList P ops Q (⟨d, .alloc t, ty, pos, aft, g⟩ :: rest) a w := by
  refine wpList_run_value (v := .pointer (some ⟨w.heap.size, 0, none⟩)) (w1 := w.alloc (.cells z.cells t)) hw ?_ (next _ _ (hO.alloc _))
  simp [execOp, Instr.alloc, hz, newVar, newRow]

theorem own_box {t : TypeId} {x : Operand} {v : Value} (hO : Own E w X) (hw : Region.wanted ⟨d, .box t x, ty, pos, aft, g⟩ (yielded ops a.tmps) = true)
    (hx : a.eval x = v)
    (next : ∀ b w1, Own E w1 (pt b (.cells v.cells t) ++ X) → wpList P ops Q rest (a.put d (.pointer (some ⟨b, 0, none⟩))) w1) :
    wpList P ops Q (⟨d, .box t x, ty, pos, aft, g⟩ :: rest) a w := by
  refine wpList_run_value (v := .pointer (some ⟨w.heap.size, 0, none⟩)) (w1 := w.alloc (.cells v.cells t)) hw ?_ (next _ _ (hO.alloc _))
  simp [execOp, Instr.box, hx, newVar, newRow]

/-- What a store of these cells makes of a row. -/
def splice (cs : Array Value) (i : Nat) : List Value → Array Value
  | [] => cs
  | v :: vs => splice (cs.setIfInBounds i v) (i + 1) vs

theorem splice_size (vs : List Value) : ∀ (cs : Array Value) (i : Nat), (splice cs i vs).size = cs.size := by
  induction vs with
  | nil => intro cs i; rfl
  | cons v vs ih => intro cs i; simp [splice, ih]

theorem run_storeCells_own {b off : Nat} {e : TypeId} (vs : List Value) : ∀ (i : Nat) (cs : Array Value) (w : World) (X R : Fr), Own E w X → PickPt X b (.cells cs e (0, 0)) R →
    (∀ v ∈ vs, v.oneCell' = true) → off + i + vs.length ≤ cs.size →
    ∃ w1, (storeCells ⟨b, off, none⟩ vs i).run P w = .ok () w1 ∧ Own E w1 (pt b (.cells (splice cs (off + i) vs) e (0, 0)) ++ R) := by
  induction vs with
  | nil => intro i cs w X R hO hp _ _; exact ⟨w, rfl, hO.pickPt⟩
  | cons v vs ih =>
    intro i cs w X R hO hp h1 hl
    have hg : w.heap[b]? = some (.cells cs e (0, 0)) := (hO.pickPt (b := b)).get
    have hadd : (⟨b, off, none⟩ : Addr).add i = ⟨b, off + i, none⟩ := by unfold Addr.add; split <;> simp_all
    have hlt : off + i < cs.size := by simp at hl; omega
    have hc : w.cell? ⟨b, off + i, none⟩ = some cs[off + i] := by simp [World.cell?, hg, hlt]
    have hf : w.frozen? ⟨b, off + i, none⟩ = false := by simp [World.frozen?, hg]
    have hO1 := hO.setCell (b := b) (off + i) v
    obtain ⟨w1, hr, hO2⟩ := ih (i + 1) (cs.setIfInBounds (off + i) v) _ _ R hO1 ⟨.refl _⟩ (fun u hu => h1 u (List.mem_cons_of_mem _ hu)) (by simp at hl ⊢; omega)
    refine ⟨w1, ?_, hO2⟩
    have hs := run_store P w ⟨b, off + i, none⟩ v .plain (h1 v (List.mem_cons_self ..))
    simp only [hc, hf, Bool.false_eq_true, if_false] at hs
    simp only [storeCells, hadd, Sem.run_bind, hs, Result.andThen_ok]
    exact hr

theorem own_store {t : TypeId} {x y : Operand} {v : Value} {b off : Nat} {cs : Array Value} {e : TypeId} (hO : Own E w X) (hw : Region.wanted ⟨d, .store t x y, ty, pos, aft, g⟩ (yielded ops a.tmps) = true)
    (hx : a.eval x = .pointer (some ⟨b, off, none⟩)) (hy : a.eval y = v) [hp : PickPt X b (.cells cs e (0, 0)) R]
    (hs : (sizeOf t).run P w = .ok v.cells.size w) (h1 : ∀ u ∈ v.cells.toList, u.oneCell' = true) (hl : off + v.cells.size ≤ cs.size)
    (next : ∀ w1, Own E w1 (pt b (.cells (splice cs off v.cells.toList) e (0, 0)) ++ R) → wpList P ops Q rest (a.put d undef) w1) :
    wpList P ops Q (⟨d, .store t x y, ty, pos, aft, g⟩ :: rest) a w := by
  obtain ⟨w1, hr, hO1⟩ := run_storeCells_own (P := P) (off := off) v.cells.toList 0 cs w X R hO hp h1 (by simpa using hl)
  refine wpList_run_skip (w1 := w1) hw ?_ (next w1 hO1)
  simp [execOp, Instr.storeAt, Instr.sureAddr, hx, hy, storeVar, hs, hr]

end laws
/-! A region that draws its order: the operations that only look ('true') are taken first, whatever the tape says; each of the others ('false') is the only one that may come up when its turn is there. -/
section mix
variable {P : Program} {ops : Array Oper} {Q : Exit → Act → World → Prop} {S : World → Prop}

def mixB (ops : Array Oper) : List (Nat × Bool) → Array Bool → Bool
  | [], listed => (Region.ready .any ops listed).isEmpty
  | (i, true) :: s, listed => (Region.ready .any ops listed).contains i && Region.free .any ops listed i && mixB ops s (listed.setIfInBounds i true)
  | (i, false) :: s, listed => decide (Region.ready .any ops listed = [i]) && mixB ops s (listed.setIfInBounds i true)

def mixL (P : Program) (ops : Array Oper) (Q : Exit → Act → World → Prop) (S : World → Prop) : List (Oper × Bool) → Act → World → Prop
  | [], a, w => Q .normal a w
  | (o, true) :: r, a, w => ∃ v, YieldsIf P ops S o v a ∧ mixL P ops Q S r (a.put o.dst v) w
  | (o, false) :: r, a, w => wpList P ops (fun e a' w' => match e with | .normal => S w' ∧ mixL P ops Q S r a' w' | e => Q e a' w') [o] a w

def mixOps (ops : Array Oper) (s : List (Nat × Bool)) : List (Oper × Bool) := s.map fun p => (ops.getD p.1 default, p.2)

theorem wpAnyH_of_mix (hsel : Region.noSelect ops = true) (hQ : ∀ c a d v w, Q (.panic c) (a.put d v) w → Q (.panic c) a w) : ∀ (s : List (Nat × Bool)) (listed : Array Bool) (a : Act) (w : World), mixB ops s listed = true → S w →
    mixL P ops Q S (mixOps ops s) a w → wpAnyH P .any ops Q S s.length listed a w
  | [], listed, a, w, hB, _, h => ⟨by simpa [mixB] using hB, h⟩
  | (i, true) :: s, listed, a, w, hB, hS, h => by
    simp only [mixB, Bool.and_eq_true] at hB
    obtain ⟨⟨hr, hf⟩, hB'⟩ := hB
    have hr' : i ∈ Region.ready .any ops listed := by simpa using hr
    obtain ⟨_, o, ho, _⟩ := mem_ready.1 hr'
    simp only [mixOps, List.map_cons, mixL] at h
    have hd : ops.getD i default = o := by simp [ho]
    rw [hd] at h
    obtain ⟨v, hy, h⟩ := h
    exact wpAnyH_first ho (Region.noSelect_spec hsel) (fun c a w => hQ c a _ _ w) s.length listed a w (Region.free_spec ho hf) hr' hy hS
      (wpAnyH_of_mix hsel hQ s _ _ _ hB' hS h)
  | (i, false) :: s, listed, a, w, hB, hS, h => by
    simp only [mixB, Bool.and_eq_true, decide_eq_true_eq] at hB
    obtain ⟨hr, hB'⟩ := hB
    have hr' : i ∈ Region.ready .any ops listed := by rw [hr]; simp
    obtain ⟨_, o, ho, _⟩ := mem_ready.1 hr'
    simp only [mixOps, List.map_cons, mixL] at h
    have hd : ops.getD i default = o := by simp [ho]
    rw [hd] at h
    refine ⟨fun h0 => (by rw [h0] at hr; cases hr), fun j hj => ?_⟩
    rw [hr] at hj
    have hji : j = i := by simpa using hj
    subst hji
    unfold wpOp
    simp only [ho]
    unfold wpList at h
    split at h
    · rename_i hw
      rw [if_pos hw]
      rcases h with h | h
      · refine .inl ?_
        unfold Oper.wp at *
        generalize (execOp a.eval o).run P w = r at *
        have fin : ∀ a' w', wpList P ops (fun e a' w' => match e with | .normal => S w' ∧ mixL P ops Q S (mixOps ops s) a' w' | e => Q e a' w') [] a' w' →
            S w' ∧ wpAnyH P .any ops Q S s.length (listed.setIfInBounds j true) a' w' := fun a' w' h => ⟨h.1, wpAnyH_of_mix hsel hQ s _ _ _ hB' h.1 h.2⟩
        cases r with
        | ok n w' =>
          cases n <;> simp only [Oper.upon] at h ⊢ <;> first
            | exact fin _ _ h
            | exact Calls.mono h (fun e w'' he => by cases e <;> first | exact fin _ _ he | exact he)
            | exact Rows.mono h (fun _ _ he => fin _ _ he)
        | halt x w' => cases x <;> simp only [Oper.upon] at h ⊢ <;> exact h
      · exact .inr h
    · rename_i hw
      rw [if_neg hw]
      exact ⟨h.1, wpAnyH_of_mix hsel hQ s _ _ _ hB' h.1 h.2⟩

theorem region_mix {id : Nat} {a : Act} {w : World} {l : List Oper} (S : World → Prop) (s : List (Nat × Bool)) (hm : P.follows .mixedOrders = true)
    (hB : (Region.noSelect l.toArray && decide (s.length = l.length) && mixB l.toArray s (Array.replicate l.length false)) = true)
    (hQ : ∀ c a d v w, Q (.panic c) (a.put d v) w → Q (.panic c) a w) (hS : S w.drew)
    (h : mixL P l.toArray Q S (mixOps l.toArray s) a w.drew) : (Code.region id l.toArray true).wp P Q a w := by
  simp only [Bool.and_eq_true, decide_eq_true_eq] at hB
  obtain ⟨⟨hsel, hlen⟩, hB⟩ := hB
  refine wp_region_any hm (wpAny_of_held (S := S) _ _ _ _ ?_)
  have := wpAnyH_of_mix hsel hQ s _ a w.drew hB hS h
  rw [hlen] at this
  simpa using this

theorem mix_look {o : Oper} {r : List (Oper × Bool)} {a : Act} {w : World} {v : Value} (hw : Region.wanted o (yielded ops a.tmps) = true) (hy : ∀ w, S w → (execOp a.eval o).run P w = .ok (.value v) w)
    (h : mixL P ops Q S r (a.put o.dst v) w) : mixL P ops Q S ((o, true) :: r) a w := ⟨v, .inl ⟨hw, hy⟩, h⟩
theorem mix_pass {o : Oper} {r : List (Oper × Bool)} {a : Act} {w : World} (hw : Region.wanted o (yielded ops a.tmps) = false)
    (h : mixL P ops Q S r (a.put o.dst undef) w) : mixL P ops Q S ((o, true) :: r) a w := ⟨undef, .inr ⟨hw, rfl⟩, h⟩
theorem mix_act {o : Oper} {r : List (Oper × Bool)} {a : Act} {w : World}
    (h : wpList P ops (fun e a' w' => match e with | .normal => S w' ∧ mixL P ops Q S r a' w' | e => Q e a' w') [o] a w) : mixL P ops Q S ((o, false) :: r) a w := h
theorem mix_done {a : Act} {w : World} (h : Q .normal a w) : mixL P ops Q S [] a w := h
end mix

section still
variable {P : Program} {Q : Exit → Act → World → Prop} {a : Act} {E w : World} {X : Fr}
/-- A region that draws its order and only looks, behind a world of which the blocks alone are known. -/
theorem own_still {id : Nat} {l : List Oper} (hm : P.follows .mixedOrders = true) (hB : Region.lexB .any l.toArray = true) (hO : Own E w X)
    (h : ∀ w1, Own E w1 X → wpStill P l.toArray w1 (fun a' => Q .normal a' w1) l a) : (Code.region id l.toArray true).wp P Q a w :=
  wp_region_still_lit hm hB (h _ hO.drew)
theorem own_still_tail {id : Nat} {l : List Oper} (n : Nat) (hm : P.follows .mixedOrders = true) (hB : Region.lexTailB .any l.toArray n = true) (hO : Own E w X)
    (h : ∀ w1, Own E w1 X → wpStill P l.toArray w1 (fun a' => wpList P l.toArray Q (l.drop n) a' w1) (l.take n) a) : (Code.region id l.toArray true).wp P Q a w :=
  wp_region_still_tail n hm hB (h _ hO.drew)
end still

/-! Guards for an arm: at which operation does the walk stand? -/
section guards
variable {P : Program} {ops : Array Oper} {Q : Exit → Act → World → Prop} {rest : List Oper} {a : Act} {w : World} {d : Option Tmp} {ty : TypeId} {pos : String} {aft : Array Edge} {g : Option (Nat × Bool)}
theorem at_bs {t k ps} (h : wpList P ops Q (⟨d, .buildSlice t k ps, ty, pos, aft, g⟩ :: rest) a w) : wpList P ops Q (⟨d, .buildSlice t k ps, ty, pos, aft, g⟩ :: rest) a w := h
theorem at_box {t x} (h : wpList P ops Q (⟨d, .box t x, ty, pos, aft, g⟩ :: rest) a w) : wpList P ops Q (⟨d, .box t x, ty, pos, aft, g⟩ :: rest) a w := h
theorem at_alloc {t} (h : wpList P ops Q (⟨d, .alloc t, ty, pos, aft, g⟩ :: rest) a w) : wpList P ops Q (⟨d, .alloc t, ty, pos, aft, g⟩ :: rest) a w := h
theorem at_store {t x y} (h : wpList P ops Q (⟨d, .store t x y, ty, pos, aft, g⟩ :: rest) a w) : wpList P ops Q (⟨d, .store t x y, ty, pos, aft, g⟩ :: rest) a w := h
theorem at_load {t x} (h : wpList P ops Q (⟨d, .load t x, ty, pos, aft, g⟩ :: rest) a w) : wpList P ops Q (⟨d, .load t x, ty, pos, aft, g⟩ :: rest) a w := h
theorem at_conv {s t x} (h : wpList P ops Q (⟨d, .convert s t x, ty, pos, aft, g⟩ :: rest) a w) : wpList P ops Q (⟨d, .convert s t x, ty, pos, aft, g⟩ :: rest) a w := h
theorem at_mks {t l c} (h : wpList P ops Q (⟨d, .makeSlice t l c, ty, pos, aft, g⟩ :: rest) a w) : wpList P ops Q (⟨d, .makeSlice t l c, ty, pos, aft, g⟩ :: rest) a w := h
theorem at_append {x ats} (h : wpList P ops Q (⟨d, .call { callee := .builtin .append, args := x, argTypes := ats }, ty, pos, aft, g⟩ :: rest) a w) : wpList P ops Q (⟨d, .call { callee := .builtin .append, args := x, argTypes := ats }, ty, pos, aft, g⟩ :: rest) a w := h
theorem at_copy {x ats} (h : wpList P ops Q (⟨d, .call { callee := .builtin .copy, args := x, argTypes := ats }, ty, pos, aft, g⟩ :: rest) a w) : wpList P ops Q (⟨d, .call { callee := .builtin .copy, args := x, argTypes := ats }, ty, pos, aft, g⟩ :: rest) a w := h
end guards

/-! All that was there when the call began -/
def oldFr (w : World) : Fr := (List.range w.heap.size).map fun i => (i, w.heap.getD i (.map #[] 0))
theorem oldFr_mem {w : World} {b : Nat} {o : Obj} (h : w.heap[b]? = some o) : (b, o) ∈ oldFr w := by
  obtain ⟨hb, ho⟩ := Array.getElem?_eq_some_iff.1 h
  exact List.mem_map.2 ⟨b, List.mem_range.2 hb, by simp [hb, ho]⟩
theorem Own.old (w : World) : Own w w (oldFr w) := by
  refine ⟨rfl, rfl, rfl, ?_, ?_⟩
  · have : (oldFr w).map (·.1) = List.range w.heap.size := by
      simp only [oldFr, List.map_map]
      conv => rhs; rw [← List.map_id (List.range w.heap.size)]
      rfl
    rw [this]
    exact List.nodup_range
  · intro p hp
    obtain ⟨i, hi, rfl⟩ := List.mem_map.1 hp
    have hi' := List.mem_range.1 hi
    simp [hi']
theorem Own.below {w w' : World} (h : Own w w' (oldFr w)) : Below w.heap.size w w' := by
  refine ⟨h.os, h.tape, h.output, ?_, ?_⟩
  · rcases Nat.eq_zero_or_pos w.heap.size with h0 | h0
    · omega
    · have hb : w.heap[w.heap.size - 1]? = some (w.heap[w.heap.size - 1]'(by omega)) := Array.getElem?_eq_getElem (by omega)
      have := h.lt (oldFr_mem hb)
      omega
  · intro k hk
    have hb : w.heap[k]? = some (w.heap[k]'hk) := Array.getElem?_eq_getElem hk
    rw [h.mem _ (oldFr_mem hb), hb]
end Go.Own
