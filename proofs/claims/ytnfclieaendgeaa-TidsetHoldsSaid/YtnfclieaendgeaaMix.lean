/- A region that draws its order, where twice an operation may be first: a tree of schedules. -/
import Derived.Test.YtnfclieaendgeaaArm2
set_option linter.all false
namespace Go.Own
open Go.RowKit

inductive Sch where
  | done
  | look (i : Nat) (s : Sch)
  | act (i : Nat) (s : Sch)
  | two (i : Nat) (s : Sch) (j : Nat) (t : Sch)

def Sch.len : Sch → Nat
  | .done => 0
  | .look _ s => s.len + 1
  | .act _ s => s.len + 1
  | .two _ s _ _ => s.len + 1

section
variable {P : Program} {ops : Array Oper} {Q : Exit → Act → World → Prop} {S : World → Prop}

def schB (ops : Array Oper) : Sch → Array Bool → Bool
  | .done, listed => (Region.ready .any ops listed).isEmpty
  | .look i s, listed => (Region.ready .any ops listed).contains i && Region.free .any ops listed i && schB ops s (listed.setIfInBounds i true)
  | .act i s, listed => decide (Region.ready .any ops listed = [i]) && schB ops s (listed.setIfInBounds i true)
  | .two i s j t, listed => decide (Region.ready .any ops listed = [i, j]) && decide (s.len = t.len) && schB ops s (listed.setIfInBounds i true) && schB ops t (listed.setIfInBounds j true)

def schL (P : Program) (ops : Array Oper) (Q : Exit → Act → World → Prop) (S : World → Prop) : Sch → Act → World → Prop
  | .done, a, w => Q .normal a w
  | .look i s, a, w => ∃ v, YieldsIf P ops S (ops.getD i default) v a ∧ schL P ops Q S s (a.put (ops.getD i default).dst v) w
  | .act i s, a, w => wpList P ops (fun e a' w' => match e with | .normal => S w' ∧ schL P ops Q S s a' w' | e => Q e a' w') [ops.getD i default] a w
  | .two i s j t, a, w => wpList P ops (fun e a' w' => match e with | .normal => S w' ∧ schL P ops Q S s a' w' | e => Q e a' w') [ops.getD i default] a w ∧
      wpList P ops (fun e a' w' => match e with | .normal => S w' ∧ schL P ops Q S t a' w' | e => Q e a' w') [ops.getD j default] a w

theorem wpOp_of_list {i : Nat} {o : Oper} {K : Act → World → Prop} {K' : Act → World → Prop} (ho : ops[i]? = some o) {a : Act} {w : World} (hK : ∀ a' w', S w' ∧ K a' w' → K' a' w')
    (h : wpList P ops (fun e a' w' => match e with | .normal => S w' ∧ K a' w' | e => Q e a' w') [o] a w) : wpOp P ops Q i K' a w := by
  unfold wpOp
  simp only [ho]
  unfold wpList at h
  split at h
  · rename_i hw
    rw [if_pos hw]
    rcases h with h | h
    · refine .inl ?_
      unfold Oper.wp at *
      generalize (execOp a.eval o).run P w = r at *
      have fin : ∀ a' w', wpList P ops (fun e a' w' => match e with | .normal => S w' ∧ K a' w' | e => Q e a' w') [] a' w' → K' a' w' := fun a' w' h => hK a' w' h
      cases r with
      | ok n w' =>
        cases n <;> simp only [Oper.upon] at h ⊢ <;> first
          | exact fin _ _ h
          | exact Calls.mono h (fun e w'' he => by cases e <;> first | exact fin _ _ he | exact he)
          | exact Rows.mono h (fun _ _ he => fin _ _ he)
      | halt x w' => cases x <;> simp only [Oper.upon] at h ⊢ <;> exact h
    · exact .inr h
  · rename_i hw
    rw [if_neg hw]
    exact hK _ _ h

theorem wpAnyH_of_sch (hsel : Region.noSelect ops = true) (hQ : ∀ c a d v w, Q (.panic c) (a.put d v) w → Q (.panic c) a w) : ∀ (s : Sch) (listed : Array Bool) (a : Act) (w : World), schB ops s listed = true → S w →
    schL P ops Q S s a w → wpAnyH P .any ops Q S s.len listed a w
  | .done, listed, a, w, hB, _, h => ⟨by simpa [schB] using hB, h⟩
  | .look i s, listed, a, w, hB, hS, h => by
    simp only [schB, Bool.and_eq_true] at hB
    obtain ⟨⟨hr, hf⟩, hB'⟩ := hB
    have hr' : i ∈ Region.ready .any ops listed := by simpa using hr
    obtain ⟨_, o, ho, _⟩ := mem_ready.1 hr'
    simp only [schL] at h
    have hd : ops.getD i default = o := by simp [ho]
    rw [hd] at h
    obtain ⟨v, hy, h⟩ := h
    exact wpAnyH_first ho (Region.noSelect_spec hsel) (fun c a w => hQ c a _ _ w) s.len listed a w (Region.free_spec ho hf) hr' hy hS
      (wpAnyH_of_sch hsel hQ s _ _ _ hB' hS h)
  | .act i s, listed, a, w, hB, hS, h => by
    simp only [schB, Bool.and_eq_true, decide_eq_true_eq] at hB
    obtain ⟨hr, hB'⟩ := hB
    have hr' : i ∈ Region.ready .any ops listed := by rw [hr]; simp
    obtain ⟨_, o, ho, _⟩ := mem_ready.1 hr'
    simp only [schL] at h
    have hd : ops.getD i default = o := by simp [ho]
    rw [hd] at h
    refine ⟨fun h0 => (by rw [h0] at hr; cases hr), fun j hj => ?_⟩
    rw [hr] at hj
    have hji : j = i := by simpa using hj
    subst hji
    exact wpOp_of_list ho (fun a' w' h' => ⟨h'.1, wpAnyH_of_sch hsel hQ s _ _ _ hB' h'.1 h'.2⟩) h
  | .two i s j t, listed, a, w, hB, hS, h => by
    simp only [schB, Bool.and_eq_true, decide_eq_true_eq] at hB
    obtain ⟨⟨⟨hr, hl⟩, hB1⟩, hB2⟩ := hB
    have hri : i ∈ Region.ready .any ops listed := by rw [hr]; simp
    have hrj : j ∈ Region.ready .any ops listed := by rw [hr]; simp
    obtain ⟨_, o, ho, _⟩ := mem_ready.1 hri
    obtain ⟨_, o', ho', _⟩ := mem_ready.1 hrj
    simp only [schL] at h
    have hd : ops.getD i default = o := by simp [ho]
    have hd' : ops.getD j default = o' := by simp [ho']
    rw [hd, hd'] at h
    refine ⟨fun h0 => (by rw [h0] at hr; cases hr), fun k hk => ?_⟩
    rw [hr] at hk
    have hk' : k = i ∨ k = j := by simpa using hk
    by_cases hki : k = i
    · subst hki
      exact wpOp_of_list ho (fun a' w' h' => ⟨h'.1, wpAnyH_of_sch hsel hQ s _ _ _ hB1 h'.1 h'.2⟩) h.1
    · have hkj : k = j := by rcases hk' with h | h; exact absurd h hki; exact h
      subst hkj
      refine wpOp_of_list ho' (fun a' w' h' => ⟨h'.1, ?_⟩) h.2
      have := wpAnyH_of_sch hsel hQ t _ _ _ hB2 h'.1 h'.2
      rw [← hl] at this
      exact this

theorem region_sch {id : Nat} {a : Act} {w : World} {l : List Oper} (S : World → Prop) (s : Sch) (hm : P.follows .mixedOrders = true)
    (hB : (Region.noSelect l.toArray && decide (s.len = l.length) && schB l.toArray s (Array.replicate l.length false)) = true)
    (hQ : ∀ c a d v w, Q (.panic c) (a.put d v) w → Q (.panic c) a w) (hS : S w.drew)
    (h : schL P l.toArray Q S s a w.drew) : (Code.region id l.toArray true).wp P Q a w := by
  simp only [Bool.and_eq_true, decide_eq_true_eq] at hB
  obtain ⟨⟨hsel, hlen⟩, hB⟩ := hB
  refine wp_region_any hm (wpAny_of_held (S := S) _ _ _ _ ?_)
  have := wpAnyH_of_sch hsel hQ s _ a w.drew hB hS h
  rw [hlen] at this
  simpa using this

theorem region_schO {E : World} {X : Fr} {id : Nat} {a : Act} {w : World} {l : List Oper} (hO : Own E w X) (s : Sch) (hm : P.follows .mixedOrders = true)
    (hB : (Region.noSelect l.toArray && decide (s.len = l.length) && schB l.toArray s (Array.replicate l.length false)) = true)
    (hQ : ∀ c a d v w, Q (.panic c) (a.put d v) w → Q (.panic c) a w)
    (h : ∀ w1, Own E w1 X → schL P l.toArray Q (fun w' => Own E w' X) s a w1) : (Code.region id l.toArray true).wp P Q a w :=
  region_sch _ s hm hB hQ hO.drew (h _ hO.drew)

theorem sch_look {i : Nat} {s : Sch} {a : Act} {w : World} {o : Oper} {v : Value} (ho : ops.getD i default = o) (hw : Region.wanted o (yielded ops a.tmps) = true) (hy : ∀ w, S w → (execOp a.eval o).run P w = .ok (.value v) w)
    (h : schL P ops Q S s (a.put o.dst v) w) : schL P ops Q S (.look i s) a w := by subst ho; exact ⟨v, .inl ⟨hw, hy⟩, h⟩
theorem sch_pass {i : Nat} {s : Sch} {a : Act} {w : World} {o : Oper} (ho : ops.getD i default = o) (hw : Region.wanted o (yielded ops a.tmps) = false)
    (h : schL P ops Q S s (a.put o.dst undef) w) : schL P ops Q S (.look i s) a w := by subst ho; exact ⟨undef, .inr ⟨hw, rfl⟩, h⟩
theorem sch_act {i : Nat} {s : Sch} {a : Act} {w : World} {o : Oper} (ho : ops.getD i default = o)
    (h : wpList P ops (fun e a' w' => match e with | .normal => S w' ∧ schL P ops Q S s a' w' | e => Q e a' w') [o] a w) : schL P ops Q S (.act i s) a w := by subst ho; exact h
theorem sch_two {i j : Nat} {s t : Sch} {a : Act} {w : World} {o o' : Oper} (ho : ops.getD i default = o) (ho' : ops.getD j default = o')
    (h : wpList P ops (fun e a' w' => match e with | .normal => S w' ∧ schL P ops Q S s a' w' | e => Q e a' w') [o] a w)
    (h' : wpList P ops (fun e a' w' => match e with | .normal => S w' ∧ schL P ops Q S t a' w' | e => Q e a' w') [o'] a w) : schL P ops Q S (.two i s j t) a w := by subst ho ho'; exact ⟨h, h'⟩
theorem sch_done {a : Act} {w : World} (h : Q .normal a w) : schL P ops Q S .done a w := h
end
end Go.Own
