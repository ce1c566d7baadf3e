/- The plain law of the merge: what stands in the heap and what was told. -/
import Derived.Test.YtnfclieaendgeaaHeap3
import Derived.DataElems
import Derived.Laws.Strings
set_option linter.all false
namespace Go.Proofs.Ytnfclieaendgeaa
open Go Go.RowKit Go.Own Go.Hp

def Le (a b : ByteArray) : Prop := bl b a = false
theorem Le_iff (a b : ByteArray) : Le a b ↔ a.toList ≤ b.toList := by
  unfold Le
  rw [bl_eq, decide_eq_false_iff_not]
  exact List.not_lt
theorem Le.rfl' (a : ByteArray) : Le a a := (Le_iff a a).2 (List.le_refl _)
theorem Le.trans {a b c : ByteArray} (h1 : Le a b) (h2 : Le b c) : Le a c := (Le_iff a c).2 (List.le_trans ((Le_iff a b).1 h1) ((Le_iff b c).1 h2))
theorem Le.total (a b : ByteArray) : Le a b ∨ Le b a := (List.le_total a.toList b.toList).imp (Le_iff a b).2 (Le_iff b a).2
theorem Le.anti {a b : ByteArray} (h1 : Le a b) (h2 : Le b a) : a = b := by
  have h := List.le_antisymm ((Le_iff a b).1 h1) ((Le_iff b a).1 h2)
  rw [ByteArray.toList_eq, ByteArray.toList_eq] at h
  have h3 := Array.toList_inj.1 h
  cases a; cases b
  exact congrArg ByteArray.mk h3
theorem ba_beq (a b : ByteArray) : (a == b) = (a.data == b.data) := by cases a; cases b; rfl
instance : LawfulBEq ByteArray where
  eq_of_beq := by
    intro a b h
    rw [ba_beq] at h
    have h3 := eq_of_beq h
    cases a; cases b
    exact congrArg ByteArray.mk h3
  rfl := by
    intro a
    rw [ba_beq]
    exact beq_self_eq_true _
def Rise (l : List ByteArray) : Prop := l.Pairwise Le
theorem rise_uniq {l m : List ByteArray} (hl : Rise l) (hm : Rise m) (hc : ∀ x, l.count x = m.count x) : l = m :=
  List.Perm.eq_of_pairwise (fun _ _ _ _ h1 h2 => Le.anti h1 h2) hl hm (List.perm_iff_count.2 hc)

/-- The run behind its first text. -/
def tl (r : Run) : Run := ⟨if r.cap = 1 then r.ad else r.ad.add 1, r.cap - 1, r.l.tail⟩
def put0 (f : Nat → Run) (r : Run) : Nat → Run := fun k => if k = 0 then r else f k
def CapOk (r : Run) : Prop := r.l.length ≤ r.cap ∧ r.cap ≤ maxLen
structure MInv (T : ByteArray → Nat) (n : Nat) (out : List ByteArray) (f : Nat → Run) (N : Nat) : Prop where
  hp : Hp leR f 0 N
  ne : ∀ k, k < N → (f k).l ≠ []
  ri : ∀ k, k < N → Rise (f k).l
  cp : ∀ k, k < N → CapOk (f k)
  ro : Rise out
  le : ∀ x ∈ out, ∀ k, k < N → ∀ y ∈ (f k).l, Le x y
  cn : ∀ x, out.count x + tot (fun k => (f k).l.count x) N = T x
  ln : out.length + tot (fun k => (f k).l.length) N = n

theorem hdR_cons {r : Run} (h : r.l ≠ []) : r.l = hdR r :: r.l.tail := by
  unfold hdR
  cases hl : r.l with
  | nil => exact absurd hl h
  | cons a t => rfl
theorem hd_le {r : Run} (h : r.l ≠ []) (hr : Rise r.l) : ∀ y ∈ r.l, Le (hdR r) y := by
  intro y hy
  rw [hdR_cons h] at hr hy
  rcases List.mem_cons.1 hy with rfl | hy
  · exact Le.rfl' _
  · exact (List.pairwise_cons.1 hr).1 y hy
theorem MInv.head {T : ByteArray → Nat} {n : Nat} {out : List ByteArray} {f : Nat → Run} {N : Nat} (h : MInv T n out f N) (k : Nat) (hk : k < N) : ∀ y ∈ (f k).l, Le (hdR (f 0)) y := by
  intro y hy
  have h1 := Hp.root h.hp leR_refl leR_trans k hk
  exact Le.trans h1 (hd_le (h.ne k hk) (h.ri k hk) y hy)
theorem MInv.rise {T : ByteArray → Nat} {n : Nat} {out : List ByteArray} {f : Nat → Run} {N : Nat} (h : MInv T n out f N) (h0 : 0 < N) : Rise (out ++ [hdR (f 0)]) := by
  refine List.pairwise_append.2 ⟨h.ro, List.pairwise_singleton _ _, fun x hx y hy => ?_⟩
  rw [List.mem_singleton] at hy
  subst hy
  refine h.le x hx 0 h0 _ ?_
  rw [hdR_cons (h.ne 0 h0)]
  exact List.mem_cons_self
theorem MInv.sum {T : ByteArray → Nat} {n : Nat} {out : List ByteArray} {f : Nat → Run} {N : Nat} (h : MInv T n out f N) (h0 : 0 < N) :
    (∀ x, (out ++ [hdR (f 0)]).count x + tot (fun k => (put0 f (tl (f 0)) k).l.count x) N = T x) ∧ (out ++ [hdR (f 0)]).length + tot (fun k => (put0 f (tl (f 0)) k).l.length) N = n := by
  have e : ∀ m : List ByteArray → Nat, tot (fun k => m (put0 f (tl (f 0)) k).l) N + m (f 0).l = tot (fun k => m (f k).l) N + m (f 0).l.tail := by
    intro m
    have h1 := tot_set (fun k => m (f k).l) 0 (m (f 0).l.tail) N h0
    have h2 : (fun k => m (put0 f (tl (f 0)) k).l) = fun k => if k = 0 then m (f 0).l.tail else m (f k).l := by
      funext k
      unfold put0
      split <;> rfl
    rw [h2]
    exact h1
  constructor
  · intro x
    have h1 := e (fun l => l.count x)
    have h2 := h.cn x
    have h3 : (f 0).l.count x = (f 0).l.tail.count x + [hdR (f 0)].count x := by
      conv => lhs; rw [hdR_cons (h.ne 0 h0)]
      rw [List.count_cons, List.count_singleton]
    rw [List.count_append]
    omega
  · have h1 := e List.length
    have h2 := h.ln
    have h3 : (f 0).l.length = (f 0).l.tail.length + 1 := by
      conv => lhs; rw [hdR_cons (h.ne 0 h0)]
      rfl
    rw [List.length_append, List.length_singleton]
    omega
/-- What holds of each run holds of the runs behind the first text. -/
theorem MInv.put {T : ByteArray → Nat} {n : Nat} {out : List ByteArray} {f : Nat → Run} {N : Nat} (h : MInv T n out f N) :
    (∀ k, k < N → Rise (put0 f (tl (f 0)) k).l) ∧ (∀ k, k < N → CapOk (put0 f (tl (f 0)) k)) ∧ (∀ k, k < N → ∀ x ∈ out ++ [hdR (f 0)], ∀ y ∈ (put0 f (tl (f 0)) k).l, Le x y) ∧ Hp leR (put0 f (tl (f 0))) 1 N := by
  have hs : ∀ k y, y ∈ (put0 f (tl (f 0)) k).l → y ∈ (f k).l := by
    intro k y hy
    unfold put0 at hy
    split at hy
    · next h0 => subst h0; exact List.mem_of_mem_tail hy
    · exact hy
  refine ⟨fun k hk => ?_, fun k hk => ?_, fun k hk x hx y hy => ?_, ?_⟩
  · unfold put0
    split
    · next h0 => subst h0; exact (h.ri 0 hk).tail
    · exact h.ri k hk
  · unfold put0
    split
    · next h0 =>
        subst h0
        have h1 := h.cp 0 hk
        unfold CapOk tl at *
        simp only [List.length_tail]
        omega
    · exact h.cp k hk
  · rcases List.mem_append.1 hx with hx | hx
    · exact h.le x hx k hk y (hs k y hy)
    · rw [List.mem_singleton] at hx
      subst hx
      exact h.head k hk y (hs k y hy)
  · intro p c h1 h2 h3
    rw [show put0 f (tl (f 0)) p = f p from if_neg (by omega), show put0 f (tl (f 0)) c = f c from if_neg (by omega)]
    exact h.hp p c (Nat.zero_le _) h2 h3
theorem MInv.fix {T : ByteArray → Nat} {n : Nat} {out : List ByteArray} {f f' : Nat → Run} {N : Nat} (h : MInv T n out f N) (h0 : 0 < N) (ht : (f 0).l.tail ≠ []) (hp : Hp leR f' 0 N) (hS : Sm (put0 f (tl (f 0))) f' N) : MInv T n (out ++ [hdR (f 0)]) f' N := by
  obtain ⟨p1, p2, p3, _⟩ := h.put
  obtain ⟨s1, s2⟩ := h.sum h0
  refine ⟨hp, ?_, hS.all (fun r => Rise r.l) p1, hS.all CapOk p2, h.rise h0, fun x hx k hk => hS.all (fun r => ∀ x ∈ out ++ [hdR (f 0)], ∀ y ∈ r.l, Le x y) p3 k hk x hx, ?_, ?_⟩
  · refine hS.all (fun r => r.l ≠ []) fun k hk => ?_
    unfold put0
    split
    · exact ht
    · exact h.ne k hk
  · intro x
    rw [hS.sum (fun r => r.l.count x)]
    exact s1 x
  · rw [hS.sum (fun r => r.l.length)]
    exact s2
theorem MInv.pop {T : ByteArray → Nat} {n : Nat} {out : List ByteArray} {f f' : Nat → Run} {N : Nat} (h : MInv T n out f (N + 1)) (ht : (f 0).l.tail = []) (hp : Hp leR f' 0 N) (hS : Sm (swp (put0 f (tl (f 0))) 0 N) f' N) : MInv T n (out ++ [hdR (f 0)]) f' N := by
  obtain ⟨p1, p2, p3, _⟩ := h.put
  obtain ⟨s1, s2⟩ := h.sum (by omega)
  have hw := (Sm.refl (put0 f (tl (f 0))) (N + 1)).swp (i := 0) (j := N) (by omega) (by omega)
  have hle : ∀ k, k < N → k < N + 1 := fun k hk => by omega
  have hz : (swp (put0 f (tl (f 0))) 0 N N).l = [] := by rw [swp_j]; exact ht
  have hsum : ∀ m : Run → Nat, tot (fun k => m (f' k)) N + m (swp (put0 f (tl (f 0))) 0 N N) = tot (fun k => m (put0 f (tl (f 0)) k)) (N + 1) := by
    intro m
    rw [hS.sum m, ← hw.sum m, tot]
  refine ⟨hp, ?_, hS.all (fun r => Rise r.l) fun k hk => hw.all (fun r => Rise r.l) p1 k (hle k hk), hS.all CapOk fun k hk => hw.all CapOk p2 k (hle k hk), h.rise (by omega), fun x hx k hk => hS.all (fun r => ∀ x ∈ out ++ [hdR (f 0)], ∀ y ∈ r.l, Le x y) (fun k hk => hw.all (fun r => ∀ x ∈ out ++ [hdR (f 0)], ∀ y ∈ r.l, Le x y) p3 k (hle k hk)) k hk x hx, ?_, ?_⟩
  · refine hS.all (fun r => r.l ≠ []) fun k hk => ?_
    by_cases h0 : k = 0
    · subst h0
      rw [swp_i, show put0 f (tl (f 0)) N = f N from if_neg (by omega)]
      exact h.ne N (by omega)
    · rw [swp_o _ _ _ _ h0 (by omega), show put0 f (tl (f 0)) k = f k from if_neg h0]
      exact h.ne k (by omega)
  · intro x
    have h1 := hsum (fun r => r.l.count x)
    have h2 := s1 x
    simp only [hz, List.count_nil] at h1
    omega
  · have h1 := hsum (fun r => r.l.length)
    simp only [hz, List.length_nil] at h1
    omega
theorem MInv.done {T : ByteArray → Nat} {n : Nat} {out : List ByteArray} {f : Nat → Run} (h : MInv T n out f 0) : Rise out ∧ (∀ x, out.count x = T x) ∧ out.length = n := by
  have h1 := h.ln
  exact ⟨h.ro, fun x => by have := h.cn x; simp only [tot] at this; omega, by simp only [tot] at h1; omega⟩
theorem RunsIn.put {E : World} {I : Fr} {f : Nat → Run} {N : Nat} (h : RunsIn E I f N) (hc : ∀ k, k < N → CapOk (f k)) : RunsIn E I (put0 f (tl (f 0))) N := by
  intro k hk w hO
  have h1 := h k hk w hO
  by_cases h0 : k = 0
  · subst h0
    rw [show put0 f (tl (f 0)) 0 = tl (f 0) from if_pos rfl]
    intro i hi
    have hcp := hc 0 hk
    unfold CapOk at hcp
    have hl : i < (f 0).l.length - 1 := by simpa [tl] using hi
    have h2 := h1 (i + 1) (by omega)
    simp only [tl]
    rw [if_neg (by omega), Addr.add_add, Nat.add_comm 1 i]
    rw [h2]
    simp
  · rw [show put0 f (tl (f 0)) k = f k from if_neg h0]
    exact h1
end Go.Proofs.Ytnfclieaendgeaa
