/- The document's heap: with. -/
import Derived.Test.YtkfkcloefgfkaaaGreatK11
set_option linter.all false
/- The document's heap: with. -/
namespace Go.Proofs.YtkfkcloefgfkaaaGreat
open Go Go.RowKit Go.Own Go.Dk

def wiR (r : Rw) : List Rw → List Rw
  | [] => [r]
  | x :: l => if r.tid < x.tid then r :: x :: l else x :: wiR r l
def anyR (r : Rw) (l : List Rw) : Bool := l.any fun x => decide (r.tid < x.tid)
def preR (r : Rw) (l : List Rw) : List Rw := if anyR r l then wiR r l else l
theorem wiR_no (r : Rw) : ∀ (l : List Rw), anyR r l = false → wiR r l = l ++ [r]
  | [], _ => rfl
  | x :: l, h => by
    unfold anyR at h
    rw [List.any_cons, Bool.or_eq_false_iff] at h
    have h1 : ¬ r.tid < x.tid := of_decide_eq_false h.1
    show (if r.tid < x.tid then _ else _) = _
    rw [if_neg h1, wiR_no r l h.2]
    rfl
theorem wiR_snoc (r x : Rw) : ∀ (l : List Rw), anyR r l = true → wiR r (l ++ [x]) = wiR r l ++ [x]
  | [], h => by cases h
  | y :: l, h => by
    show (if r.tid < y.tid then _ else _) = (if r.tid < y.tid then _ else _) ++ [x]
    by_cases h1 : r.tid < y.tid
    · rw [if_pos h1, if_pos h1]; rfl
    · rw [if_neg h1, if_neg h1]
      unfold anyR at h
      rw [List.any_cons, decide_eq_false h1, Bool.false_or] at h
      show y :: wiR r (l ++ [x]) = y :: wiR r l ++ [x]
      rw [wiR_snoc r x l h]
      rfl
theorem wiR_snoc2 (r x : Rw) (hx : r.tid < x.tid) : ∀ (l : List Rw), anyR r l = false → wiR r (l ++ [x]) = l ++ [r, x]
  | [], _ => by
    show (if r.tid < x.tid then _ else _) = _
    rw [if_pos hx]; rfl
  | y :: l, h => by
    unfold anyR at h
    rw [List.any_cons, Bool.or_eq_false_iff] at h
    have h1 : ¬ r.tid < y.tid := of_decide_eq_false h.1
    show (if r.tid < y.tid then _ else _) = _
    rw [if_neg h1]
    show y :: wiR r (l ++ [x]) = y :: l ++ [r, x]
    rw [wiR_snoc2 r x hx l h.2]
    rfl
theorem anyR_snoc (r x : Rw) (l : List Rw) : anyR r (l ++ [x]) = (anyR r l || decide (r.tid < x.tid)) := by
  unfold anyR
  rw [List.any_append, List.any_cons, List.any_nil, Bool.or_false]
theorem preR_len (r : Rw) (l : List Rw) : (preR r l).length ≤ l.length + 1 := by
  have h : ∀ l, (wiR r l).length = l.length + 1 := by
    intro l
    induction l with
    | nil => rfl
    | cons x l ih =>
      show (if r.tid < x.tid then _ else _ : List Rw).length = _
      split
      · rfl
      · rw [List.length_cons, ih]; rfl
  unfold preR
  split
  · rw [h]; omega
  · omega
/-- The three ways of a round. -/
theorem preR_succ (r : Rw) (l : List Rw) (j : Nat) (hj : j < l.length) :
    (anyR r (l.take j) = true → preR r (l.take (j + 1)) = preR r (l.take j) ++ [l[j]'hj] ∧ anyR r (l.take (j + 1)) = true) ∧
    (anyR r (l.take j) = false → r.tid < (l[j]'hj).tid → preR r (l.take (j + 1)) = (preR r (l.take j) ++ [r]) ++ [l[j]'hj] ∧ anyR r (l.take (j + 1)) = true) ∧
    (anyR r (l.take j) = false → ¬ r.tid < (l[j]'hj).tid → preR r (l.take (j + 1)) = preR r (l.take j) ++ [l[j]'hj] ∧ anyR r (l.take (j + 1)) = false) := by
  rw [List.take_succ_eq_append_getElem hj]
  unfold preR
  rw [anyR_snoc]
  refine ⟨fun h => ?_, fun h hx => ?_, fun h hx => ?_⟩
  · rw [h, Bool.true_or, if_pos rfl, if_pos rfl, wiR_snoc r _ _ h]
    exact ⟨rfl, rfl⟩
  · rw [h, Bool.false_or, decide_eq_true hx, if_pos rfl, if_neg (by decide), wiR_snoc2 r _ hx _ h]
    exact ⟨by simp, rfl⟩
  · rw [h, Bool.false_or, decide_eq_false hx, if_neg (by decide), if_neg (by decide)]
    exact ⟨rfl, rfl⟩
set_option maxRecDepth 100000 in
set_option maxHeartbeats 16000000 in
theorem with7 (E w : World) (X R S : Fr) (sa : Option Addr) (cap : Nat) (l : List Rw) (r : Rw) (hl : l.length ≤ 100000) (hS : Sl 90 3 sa l.length cap (rwsV l) S) (hO : Own E w X) [hp : Pick X S R] :
    Calls Tryz.prog 47 #[.slice sa l.length cap, .agg #[.int .i64 r.tid, .string r.row, .bool r.lives]] w fun e w' => ∃ so co SO, e = .returned (.slice so (wiR r l).length co) ∧ Sl 90 3 so (wiR r l).length co (rwsV (wiR r l)) SO ∧ Own E w' (SO ++ (S ++ R)) := by
  replace hO := hO.perm hp.perm
  clear hp
  obtain ⟨rt, rr, rl⟩ := r
  go_enter Tryz.func47, Tryz.ntmps47
  go_wp2_with (first | (refine at_box ?_; go_must (refine own_box (v := ?_) hO ?_ ?_ ?_; rotate_left; (· rfl); (· ((conv => lhs; whnf); try exact rfl)); clear hO; (try clear hF); intro rb _ hO; (try simp only [Value.cells] at hO); ((try simp only [List.nil_append, List.append_nil] at hO); have hF := Own.cells hO; simp only [cellsOf_append, cellsOf_pt] at hF); simp only [Act.put, List.setIfInBounds_toArray, List.set_cons_zero, List.set_cons_succ])))
  replace hO := hO.as (pt rb (.cells #[.int .i64 rt, .string rr, .bool rl] 90 (0, 0)) ++ (S ++ R))
  have hO1 := hO
  clear hO hF
  go_loopw [5, 6, 7] (fun o dn i wr => ∃ (k : Nat) (so : Option Addr) (co : Nat) (SO : Fr), i = .int .i64 k ∧ k ≤ l.length ∧ dn = .bool (anyR ⟨rt, rr, rl⟩ (l.take k)) ∧ o = .slice so (preR ⟨rt, rr, rl⟩ (l.take k)).length co ∧ Sl 90 3 so (preR ⟨rt, rr, rl⟩ (l.take k)).length co (rwsV (preR ⟨rt, rr, rl⟩ (l.take k))) SO ∧ Own E wr (SO ++ (pt rb (.cells #[.int .i64 rt, .string rr, .bool rl] 90 (0, 0)) ++ (S ++ R)))) (fun _ _ i _ => l.length - (intOf i).toNat)
  case atStart => exact ⟨0, none, 0, [], rfl, Nat.zero_le _, rfl, rfl, Sl.nil _ _, hO1⟩
  case round =>
    clear hO1
    obtain ⟨k, so, co, SO, rfl, hk, rfl, rfl, hSO, hO⟩ := hrel
    by_cases hlt : k < l.length
    · have h1 : (k : Int) < l.length := by omega
      have h2 : (0 : Int) ≤ k := by omega
      obtain ⟨sb, rfl⟩ := sl_some4 hS (by omega)
      obtain ⟨n1, n2, n3⟩ := preR_succ ⟨rt, rr, rl⟩ l k hlt
      have hle : (preR ⟨rt, rr, rl⟩ (l.take k)).length ≤ 100001 := by
        have := preR_len ⟨rt, rr, rl⟩ (l.take k)
        rw [List.length_take] at this
        omega
      have hscw : ∀ w', Own E w' (S ++ R) → (∀ i v, (rwV (l[k]'hlt))[i]? = some v → w'.cell? ((⟨sb, k * 3, none⟩ : Addr).add i) = some v) ∧ w'.cell? ⟨sb, k * 3, none⟩ = some (.int .i64 (l[k]'hlt).tid) := fun w' h => ⟨rw_at hS h hlt, (rw_cells hS h hlt).1⟩
      obtain ⟨x, hx⟩ : ∃ x, l[k]'hlt = x := ⟨_, rfl⟩
      rw [hx] at n1 n2 n3 hscw
      obtain ⟨t, r, b⟩ := x
      have HSC := Lib.hid hscw
      have HL := Lib.hid hlt
      clear hscw hx hk
      obtain ⟨q, hq⟩ : ∃ q, preR ⟨rt, rr, rl⟩ (l.take k) = q := ⟨_, rfl⟩
      obtain ⟨dn, hdn⟩ : ∃ dn, anyR ⟨rt, rr, rl⟩ (l.take k) = dn := ⟨_, rfl⟩
      rw [hq] at hSO hle n1 n2 n3 ⊢
      rw [hdn] at n1 n2 n3 ⊢
      have N1 := Lib.hid n1
      have N2 := Lib.hid n2
      have N3 := Lib.hid n3
      clear hq hdn n1 n2 n3
      have hcs : dn = true ∨ (dn = false ∧ rt < t) ∨ (dn = false ∧ ¬ rt < t) := by
        cases dn
        · by_cases h : rt < t
          · exact .inr (.inl ⟨rfl, h⟩)
          · exact .inr (.inr ⟨rfl, h⟩)
        · exact .inl rfl
      rcases hcs with rfl | ⟨rfl, hg⟩ | ⟨rfl, hg⟩
      · go_wp2_with fail
        (try (go_wp2_with fail))
        refine region_sch (fun w' => Own E w' (pt rb (.cells #[.int .i64 rt, .string rr, .bool rl] 90 (0, 0)) ++ (S ++ R))) (.look 0 (.look 1 (.look 2 (.look 3 (.look 4 (.look 5 (.look 6 (.look 7 (.look 8 (.look 9 (.look 10 (.look 11 .done)))))))))))) (by kernel_rfl) (by kernel_rfl) (fun _ _ d _ _ h => by cases d <;> exact h) ?_ ?_
        · exact hO.drew.as _
        replace hO := hO.drew
        generalize World.drew _ = wdr at hO ⊢
        first | (refine sch_look (o := ?_) (v := ?_) ?_ ?_ ?_ ?_; rotate_left 2; (· ((conv => lhs; whnf); try exact rfl)); (· rfl); (· intro w' hO'; have c1 : w'.cell? ⟨sb, k * 3, none⟩ = some (.int .i64 t) := (HSC.out w' (hO'.as (S ++ R))).2; have c2 : w'.cell? ⟨rb, 0, none⟩ = some (.int .i64 rt) := (by rw [hO'.cell (b := rb)]; rfl); go_simp; (try exact rfl)); simp only [Act.put, List.setIfInBounds_toArray, List.set_cons_zero, List.set_cons_succ]) | (refine sch_pass (o := ?_) ?_ ?_ ?_; rotate_left; (· ((conv => lhs; whnf); try exact rfl)); (· rfl); simp only [Act.put, List.setIfInBounds_toArray, List.set_cons_zero, List.set_cons_succ]) | (refine sch_look (o := ?_) (v := .agg ?_) ?_ ?_ ?_ ?_; rotate_left 2; (· ((conv => lhs; whnf); try exact rfl)); (· rfl); (· intro w' hO'; refine run_opLoadS (b := ?_) (cs := ?_) (e := ?_) (f := ?_) hO' ?_ ?_ ?_ ?_; rotate_left 4; (· exact rfl); (· exact inferInstance); (· simp; done); (· simp; done)); simp only [Act.put, List.setIfInBounds_toArray, List.set_cons_zero, List.set_cons_succ])
        first | (refine sch_look (o := ?_) (v := ?_) ?_ ?_ ?_ ?_; rotate_left 2; (· ((conv => lhs; whnf); try exact rfl)); (· rfl); (· intro w' hO'; have c1 : w'.cell? ⟨sb, k * 3, none⟩ = some (.int .i64 t) := (HSC.out w' (hO'.as (S ++ R))).2; have c2 : w'.cell? ⟨rb, 0, none⟩ = some (.int .i64 rt) := (by rw [hO'.cell (b := rb)]; rfl); go_simp; (try exact rfl)); simp only [Act.put, List.setIfInBounds_toArray, List.set_cons_zero, List.set_cons_succ]) | (refine sch_pass (o := ?_) ?_ ?_ ?_; rotate_left; (· ((conv => lhs; whnf); try exact rfl)); (· rfl); simp only [Act.put, List.setIfInBounds_toArray, List.set_cons_zero, List.set_cons_succ]) | (refine sch_look (o := ?_) (v := .agg ?_) ?_ ?_ ?_ ?_; rotate_left 2; (· ((conv => lhs; whnf); try exact rfl)); (· rfl); (· intro w' hO'; refine run_opLoadS (b := ?_) (cs := ?_) (e := ?_) (f := ?_) hO' ?_ ?_ ?_ ?_; rotate_left 4; (· exact rfl); (· exact inferInstance); (· simp; done); (· simp; done)); simp only [Act.put, List.setIfInBounds_toArray, List.set_cons_zero, List.set_cons_succ])
        first | (refine sch_look (o := ?_) (v := ?_) ?_ ?_ ?_ ?_; rotate_left 2; (· ((conv => lhs; whnf); try exact rfl)); (· rfl); (· intro w' hO'; have c1 : w'.cell? ⟨sb, k * 3, none⟩ = some (.int .i64 t) := (HSC.out w' (hO'.as (S ++ R))).2; have c2 : w'.cell? ⟨rb, 0, none⟩ = some (.int .i64 rt) := (by rw [hO'.cell (b := rb)]; rfl); go_simp; (try exact rfl)); simp only [Act.put, List.setIfInBounds_toArray, List.set_cons_zero, List.set_cons_succ]) | (refine sch_pass (o := ?_) ?_ ?_ ?_; rotate_left; (· ((conv => lhs; whnf); try exact rfl)); (· rfl); simp only [Act.put, List.setIfInBounds_toArray, List.set_cons_zero, List.set_cons_succ]) | (refine sch_look (o := ?_) (v := .agg ?_) ?_ ?_ ?_ ?_; rotate_left 2; (· ((conv => lhs; whnf); try exact rfl)); (· rfl); (· intro w' hO'; refine run_opLoadS (b := ?_) (cs := ?_) (e := ?_) (f := ?_) hO' ?_ ?_ ?_ ?_; rotate_left 4; (· exact rfl); (· exact inferInstance); (· simp; done); (· simp; done)); simp only [Act.put, List.setIfInBounds_toArray, List.set_cons_zero, List.set_cons_succ])
        first | (refine sch_look (o := ?_) (v := ?_) ?_ ?_ ?_ ?_; rotate_left 2; (· ((conv => lhs; whnf); try exact rfl)); (· rfl); (· intro w' hO'; have c1 : w'.cell? ⟨sb, k * 3, none⟩ = some (.int .i64 t) := (HSC.out w' (hO'.as (S ++ R))).2; have c2 : w'.cell? ⟨rb, 0, none⟩ = some (.int .i64 rt) := (by rw [hO'.cell (b := rb)]; rfl); go_simp; (try exact rfl)); simp only [Act.put, List.setIfInBounds_toArray, List.set_cons_zero, List.set_cons_succ]) | (refine sch_pass (o := ?_) ?_ ?_ ?_; rotate_left; (· ((conv => lhs; whnf); try exact rfl)); (· rfl); simp only [Act.put, List.setIfInBounds_toArray, List.set_cons_zero, List.set_cons_succ]) | (refine sch_look (o := ?_) (v := .agg ?_) ?_ ?_ ?_ ?_; rotate_left 2; (· ((conv => lhs; whnf); try exact rfl)); (· rfl); (· intro w' hO'; refine run_opLoadS (b := ?_) (cs := ?_) (e := ?_) (f := ?_) hO' ?_ ?_ ?_ ?_; rotate_left 4; (· exact rfl); (· exact inferInstance); (· simp; done); (· simp; done)); simp only [Act.put, List.setIfInBounds_toArray, List.set_cons_zero, List.set_cons_succ])
        first | (refine sch_look (o := ?_) (v := ?_) ?_ ?_ ?_ ?_; rotate_left 2; (· ((conv => lhs; whnf); try exact rfl)); (· rfl); (· intro w' hO'; have c1 : w'.cell? ⟨sb, k * 3, none⟩ = some (.int .i64 t) := (HSC.out w' (hO'.as (S ++ R))).2; have c2 : w'.cell? ⟨rb, 0, none⟩ = some (.int .i64 rt) := (by rw [hO'.cell (b := rb)]; rfl); go_simp; (try exact rfl)); simp only [Act.put, List.setIfInBounds_toArray, List.set_cons_zero, List.set_cons_succ]) | (refine sch_pass (o := ?_) ?_ ?_ ?_; rotate_left; (· ((conv => lhs; whnf); try exact rfl)); (· rfl); simp only [Act.put, List.setIfInBounds_toArray, List.set_cons_zero, List.set_cons_succ]) | (refine sch_look (o := ?_) (v := .agg ?_) ?_ ?_ ?_ ?_; rotate_left 2; (· ((conv => lhs; whnf); try exact rfl)); (· rfl); (· intro w' hO'; refine run_opLoadS (b := ?_) (cs := ?_) (e := ?_) (f := ?_) hO' ?_ ?_ ?_ ?_; rotate_left 4; (· exact rfl); (· exact inferInstance); (· simp; done); (· simp; done)); simp only [Act.put, List.setIfInBounds_toArray, List.set_cons_zero, List.set_cons_succ])
        first | (refine sch_look (o := ?_) (v := ?_) ?_ ?_ ?_ ?_; rotate_left 2; (· ((conv => lhs; whnf); try exact rfl)); (· rfl); (· intro w' hO'; have c1 : w'.cell? ⟨sb, k * 3, none⟩ = some (.int .i64 t) := (HSC.out w' (hO'.as (S ++ R))).2; have c2 : w'.cell? ⟨rb, 0, none⟩ = some (.int .i64 rt) := (by rw [hO'.cell (b := rb)]; rfl); go_simp; (try exact rfl)); simp only [Act.put, List.setIfInBounds_toArray, List.set_cons_zero, List.set_cons_succ]) | (refine sch_pass (o := ?_) ?_ ?_ ?_; rotate_left; (· ((conv => lhs; whnf); try exact rfl)); (· rfl); simp only [Act.put, List.setIfInBounds_toArray, List.set_cons_zero, List.set_cons_succ]) | (refine sch_look (o := ?_) (v := .agg ?_) ?_ ?_ ?_ ?_; rotate_left 2; (· ((conv => lhs; whnf); try exact rfl)); (· rfl); (· intro w' hO'; refine run_opLoadS (b := ?_) (cs := ?_) (e := ?_) (f := ?_) hO' ?_ ?_ ?_ ?_; rotate_left 4; (· exact rfl); (· exact inferInstance); (· simp; done); (· simp; done)); simp only [Act.put, List.setIfInBounds_toArray, List.set_cons_zero, List.set_cons_succ])
        first | (refine sch_look (o := ?_) (v := ?_) ?_ ?_ ?_ ?_; rotate_left 2; (· ((conv => lhs; whnf); try exact rfl)); (· rfl); (· intro w' hO'; have c1 : w'.cell? ⟨sb, k * 3, none⟩ = some (.int .i64 t) := (HSC.out w' (hO'.as (S ++ R))).2; have c2 : w'.cell? ⟨rb, 0, none⟩ = some (.int .i64 rt) := (by rw [hO'.cell (b := rb)]; rfl); go_simp; (try exact rfl)); simp only [Act.put, List.setIfInBounds_toArray, List.set_cons_zero, List.set_cons_succ]) | (refine sch_pass (o := ?_) ?_ ?_ ?_; rotate_left; (· ((conv => lhs; whnf); try exact rfl)); (· rfl); simp only [Act.put, List.setIfInBounds_toArray, List.set_cons_zero, List.set_cons_succ]) | (refine sch_look (o := ?_) (v := .agg ?_) ?_ ?_ ?_ ?_; rotate_left 2; (· ((conv => lhs; whnf); try exact rfl)); (· rfl); (· intro w' hO'; refine run_opLoadS (b := ?_) (cs := ?_) (e := ?_) (f := ?_) hO' ?_ ?_ ?_ ?_; rotate_left 4; (· exact rfl); (· exact inferInstance); (· simp; done); (· simp; done)); simp only [Act.put, List.setIfInBounds_toArray, List.set_cons_zero, List.set_cons_succ])
        first | (refine sch_look (o := ?_) (v := ?_) ?_ ?_ ?_ ?_; rotate_left 2; (· ((conv => lhs; whnf); try exact rfl)); (· rfl); (· intro w' hO'; have c1 : w'.cell? ⟨sb, k * 3, none⟩ = some (.int .i64 t) := (HSC.out w' (hO'.as (S ++ R))).2; have c2 : w'.cell? ⟨rb, 0, none⟩ = some (.int .i64 rt) := (by rw [hO'.cell (b := rb)]; rfl); go_simp; (try exact rfl)); simp only [Act.put, List.setIfInBounds_toArray, List.set_cons_zero, List.set_cons_succ]) | (refine sch_pass (o := ?_) ?_ ?_ ?_; rotate_left; (· ((conv => lhs; whnf); try exact rfl)); (· rfl); simp only [Act.put, List.setIfInBounds_toArray, List.set_cons_zero, List.set_cons_succ]) | (refine sch_look (o := ?_) (v := .agg ?_) ?_ ?_ ?_ ?_; rotate_left 2; (· ((conv => lhs; whnf); try exact rfl)); (· rfl); (· intro w' hO'; refine run_opLoadS (b := ?_) (cs := ?_) (e := ?_) (f := ?_) hO' ?_ ?_ ?_ ?_; rotate_left 4; (· exact rfl); (· exact inferInstance); (· simp; done); (· simp; done)); simp only [Act.put, List.setIfInBounds_toArray, List.set_cons_zero, List.set_cons_succ])
        first | (refine sch_look (o := ?_) (v := ?_) ?_ ?_ ?_ ?_; rotate_left 2; (· ((conv => lhs; whnf); try exact rfl)); (· rfl); (· intro w' hO'; have c1 : w'.cell? ⟨sb, k * 3, none⟩ = some (.int .i64 t) := (HSC.out w' (hO'.as (S ++ R))).2; have c2 : w'.cell? ⟨rb, 0, none⟩ = some (.int .i64 rt) := (by rw [hO'.cell (b := rb)]; rfl); go_simp; (try exact rfl)); simp only [Act.put, List.setIfInBounds_toArray, List.set_cons_zero, List.set_cons_succ]) | (refine sch_pass (o := ?_) ?_ ?_ ?_; rotate_left; (· ((conv => lhs; whnf); try exact rfl)); (· rfl); simp only [Act.put, List.setIfInBounds_toArray, List.set_cons_zero, List.set_cons_succ]) | (refine sch_look (o := ?_) (v := .agg ?_) ?_ ?_ ?_ ?_; rotate_left 2; (· ((conv => lhs; whnf); try exact rfl)); (· rfl); (· intro w' hO'; refine run_opLoadS (b := ?_) (cs := ?_) (e := ?_) (f := ?_) hO' ?_ ?_ ?_ ?_; rotate_left 4; (· exact rfl); (· exact inferInstance); (· simp; done); (· simp; done)); simp only [Act.put, List.setIfInBounds_toArray, List.set_cons_zero, List.set_cons_succ])
        first | (refine sch_look (o := ?_) (v := ?_) ?_ ?_ ?_ ?_; rotate_left 2; (· ((conv => lhs; whnf); try exact rfl)); (· rfl); (· intro w' hO'; have c1 : w'.cell? ⟨sb, k * 3, none⟩ = some (.int .i64 t) := (HSC.out w' (hO'.as (S ++ R))).2; have c2 : w'.cell? ⟨rb, 0, none⟩ = some (.int .i64 rt) := (by rw [hO'.cell (b := rb)]; rfl); go_simp; (try exact rfl)); simp only [Act.put, List.setIfInBounds_toArray, List.set_cons_zero, List.set_cons_succ]) | (refine sch_pass (o := ?_) ?_ ?_ ?_; rotate_left; (· ((conv => lhs; whnf); try exact rfl)); (· rfl); simp only [Act.put, List.setIfInBounds_toArray, List.set_cons_zero, List.set_cons_succ]) | (refine sch_look (o := ?_) (v := .agg ?_) ?_ ?_ ?_ ?_; rotate_left 2; (· ((conv => lhs; whnf); try exact rfl)); (· rfl); (· intro w' hO'; refine run_opLoadS (b := ?_) (cs := ?_) (e := ?_) (f := ?_) hO' ?_ ?_ ?_ ?_; rotate_left 4; (· exact rfl); (· exact inferInstance); (· simp; done); (· simp; done)); simp only [Act.put, List.setIfInBounds_toArray, List.set_cons_zero, List.set_cons_succ])
        first | (refine sch_look (o := ?_) (v := ?_) ?_ ?_ ?_ ?_; rotate_left 2; (· ((conv => lhs; whnf); try exact rfl)); (· rfl); (· intro w' hO'; have c1 : w'.cell? ⟨sb, k * 3, none⟩ = some (.int .i64 t) := (HSC.out w' (hO'.as (S ++ R))).2; have c2 : w'.cell? ⟨rb, 0, none⟩ = some (.int .i64 rt) := (by rw [hO'.cell (b := rb)]; rfl); go_simp; (try exact rfl)); simp only [Act.put, List.setIfInBounds_toArray, List.set_cons_zero, List.set_cons_succ]) | (refine sch_pass (o := ?_) ?_ ?_ ?_; rotate_left; (· ((conv => lhs; whnf); try exact rfl)); (· rfl); simp only [Act.put, List.setIfInBounds_toArray, List.set_cons_zero, List.set_cons_succ]) | (refine sch_look (o := ?_) (v := .agg ?_) ?_ ?_ ?_ ?_; rotate_left 2; (· ((conv => lhs; whnf); try exact rfl)); (· rfl); (· intro w' hO'; refine run_opLoadS (b := ?_) (cs := ?_) (e := ?_) (f := ?_) hO' ?_ ?_ ?_ ?_; rotate_left 4; (· exact rfl); (· exact inferInstance); (· simp; done); (· simp; done)); simp only [Act.put, List.setIfInBounds_toArray, List.set_cons_zero, List.set_cons_succ])
        first | (refine sch_look (o := ?_) (v := ?_) ?_ ?_ ?_ ?_; rotate_left 2; (· ((conv => lhs; whnf); try exact rfl)); (· rfl); (· intro w' hO'; have c1 : w'.cell? ⟨sb, k * 3, none⟩ = some (.int .i64 t) := (HSC.out w' (hO'.as (S ++ R))).2; have c2 : w'.cell? ⟨rb, 0, none⟩ = some (.int .i64 rt) := (by rw [hO'.cell (b := rb)]; rfl); go_simp; (try exact rfl)); simp only [Act.put, List.setIfInBounds_toArray, List.set_cons_zero, List.set_cons_succ]) | (refine sch_pass (o := ?_) ?_ ?_ ?_; rotate_left; (· ((conv => lhs; whnf); try exact rfl)); (· rfl); simp only [Act.put, List.setIfInBounds_toArray, List.set_cons_zero, List.set_cons_succ]) | (refine sch_look (o := ?_) (v := .agg ?_) ?_ ?_ ?_ ?_; rotate_left 2; (· ((conv => lhs; whnf); try exact rfl)); (· rfl); (· intro w' hO'; refine run_opLoadS (b := ?_) (cs := ?_) (e := ?_) (f := ?_) hO' ?_ ?_ ?_ ?_; rotate_left 4; (· exact rfl); (· exact inferInstance); (· simp; done); (· simp; done)); simp only [Act.put, List.setIfInBounds_toArray, List.set_cons_zero, List.set_cons_succ])
        refine sch_done ?_
        go_wp2_with (first | (refine at_load (t := 90) ?_; refine own_loadC (ad := ⟨sb, k * 3, none⟩) (cs := [.int .i64 t, .string r, .bool b]) ?_ (HSC.out _ (hO.as (S ++ R))).1 ?_ ?_ ?_ ?_; (· rfl); (· ((conv => lhs; whnf); try exact rfl)); (· simp; done); (· simp; done); simp only [Act.put, List.setIfInBounds_toArray, List.set_cons_zero, List.set_cons_succ]) | (refine at_load (t := 90) ?_; refine own_loadC (ad := ⟨rb, 0, none⟩) (cs := [.int .i64 rt, .string rr, .bool rl]) ?_ (fun i v hi => by rw [add_lit, hO.cell (b := rb), Nat.zero_add]; simpa using hi) ?_ ?_ ?_ ?_; (· rfl); (· ((conv => lhs; whnf); try exact rfl)); (· simp; done); (· simp; done); simp only [Act.put, List.setIfInBounds_toArray, List.set_cons_zero, List.set_cons_succ]) | (refine at_bs ?_; go_must (refine own_build1 (v := ?_) sltRows7 hO ?_ ?_ ?_ ?_ ?_ ?_; rotate_left; (· rfl); (· ((conv => lhs; whnf); try exact rfl)); (· rfl); (· decide); (· decide); clear hO; (try clear hF); intro bs _ hO; (try simp only [Value.cells] at hO); ((try simp only [List.nil_append, List.append_nil] at hO); have hF := Own.cells hO; simp only [cellsOf_append, cellsOf_pt] at hF); simp only [Act.put, List.setIfInBounds_toArray, List.set_cons_zero, List.set_cons_succ])) | (refine at_append ?_; refine own_append_elem (b1 := ?_) (cs := ?_) (e1 := ?_) (f1 := ?_) sltRows7 hO ?_ ?_ ?_ hS4 ?_ ?_ ?_ ?_ ?_ ?_ ?_; rotate_left 4; (· rfl); (· rfl); (· rfl); (· exact inferInstance); (· rfl); (· intro u hu; simp at hu; rcases hu with rfl | rfl | rfl <;> rfl); (· first | omega | (simp only [maxLen]; omega)); (· decide); (· first | omega | (simp only [maxLen]; omega)); clear hO; (try clear hF); intro so4 co4 SO4 w5 hS5 hO; ((try simp only [List.nil_append, List.append_nil] at hO); have hF := Own.cells hO; simp only [cellsOf_append, cellsOf_pt] at hF); simp only [Act.put, List.setIfInBounds_toArray, List.set_cons_zero, List.set_cons_succ]) | (refine at_append ?_; refine own_append_elem (b1 := ?_) (cs := ?_) (e1 := ?_) (f1 := ?_) sltRows7 hO ?_ ?_ ?_ hSO ?_ ?_ ?_ ?_ ?_ ?_ ?_; rotate_left 4; (· rfl); (· rfl); (· rfl); (· exact inferInstance); (· rfl); (· intro u hu; simp at hu; rcases hu with rfl | rfl | rfl <;> rfl); (· first | omega | (simp only [maxLen]; omega)); (· decide); (· first | omega | (simp only [maxLen]; omega)); clear hO; (try clear hF); intro so3 co3 SO3 w4 hS4 hO; ((try simp only [List.nil_append, List.append_nil] at hO); have hF := Own.cells hO; simp only [cellsOf_append, cellsOf_pt] at hF); simp only [Act.put, List.setIfInBounds_toArray, List.set_cons_zero, List.set_cons_succ]))
        go_roundw
        case rel =>
          obtain ⟨e, e2⟩ := N1.out (by trivial)
          refine ⟨k + 1, so3, co3, SO3, by go_num, by have := HL.out; omega, by rw [e2], ?_, ?_, hO.as _⟩
          · rw [e]; rw [List.length_append]; rfl
          · rw [e, rwsV_app, List.length_append]; exact hS4
        case measure => have := HL.out; simp [intOf]; omega
      · go_wp2_with fail
        (try (go_wp2_with fail))
        refine region_sch (fun w' => Own E w' (pt rb (.cells #[.int .i64 rt, .string rr, .bool rl] 90 (0, 0)) ++ (S ++ R))) (.look 0 (.look 1 (.look 2 (.look 3 (.look 4 (.look 5 (.look 6 (.look 7 (.look 8 (.look 9 (.look 10 (.look 11 .done)))))))))))) (by kernel_rfl) (by kernel_rfl) (fun _ _ d _ _ h => by cases d <;> exact h) ?_ ?_
        · exact hO.drew.as _
        replace hO := hO.drew
        generalize World.drew _ = wdr at hO ⊢
        first | (refine sch_look (o := ?_) (v := ?_) ?_ ?_ ?_ ?_; rotate_left 2; (· ((conv => lhs; whnf); try exact rfl)); (· rfl); (· intro w' hO'; have c1 : w'.cell? ⟨sb, k * 3, none⟩ = some (.int .i64 t) := (HSC.out w' (hO'.as (S ++ R))).2; have c2 : w'.cell? ⟨rb, 0, none⟩ = some (.int .i64 rt) := (by rw [hO'.cell (b := rb)]; rfl); go_simp; (try exact rfl)); simp only [Act.put, List.setIfInBounds_toArray, List.set_cons_zero, List.set_cons_succ]) | (refine sch_pass (o := ?_) ?_ ?_ ?_; rotate_left; (· ((conv => lhs; whnf); try exact rfl)); (· rfl); simp only [Act.put, List.setIfInBounds_toArray, List.set_cons_zero, List.set_cons_succ]) | (refine sch_look (o := ?_) (v := .agg ?_) ?_ ?_ ?_ ?_; rotate_left 2; (· ((conv => lhs; whnf); try exact rfl)); (· rfl); (· intro w' hO'; refine run_opLoadS (b := ?_) (cs := ?_) (e := ?_) (f := ?_) hO' ?_ ?_ ?_ ?_; rotate_left 4; (· exact rfl); (· exact inferInstance); (· simp; done); (· simp; done)); simp only [Act.put, List.setIfInBounds_toArray, List.set_cons_zero, List.set_cons_succ])
        first | (refine sch_look (o := ?_) (v := ?_) ?_ ?_ ?_ ?_; rotate_left 2; (· ((conv => lhs; whnf); try exact rfl)); (· rfl); (· intro w' hO'; have c1 : w'.cell? ⟨sb, k * 3, none⟩ = some (.int .i64 t) := (HSC.out w' (hO'.as (S ++ R))).2; have c2 : w'.cell? ⟨rb, 0, none⟩ = some (.int .i64 rt) := (by rw [hO'.cell (b := rb)]; rfl); go_simp; (try exact rfl)); simp only [Act.put, List.setIfInBounds_toArray, List.set_cons_zero, List.set_cons_succ]) | (refine sch_pass (o := ?_) ?_ ?_ ?_; rotate_left; (· ((conv => lhs; whnf); try exact rfl)); (· rfl); simp only [Act.put, List.setIfInBounds_toArray, List.set_cons_zero, List.set_cons_succ]) | (refine sch_look (o := ?_) (v := .agg ?_) ?_ ?_ ?_ ?_; rotate_left 2; (· ((conv => lhs; whnf); try exact rfl)); (· rfl); (· intro w' hO'; refine run_opLoadS (b := ?_) (cs := ?_) (e := ?_) (f := ?_) hO' ?_ ?_ ?_ ?_; rotate_left 4; (· exact rfl); (· exact inferInstance); (· simp; done); (· simp; done)); simp only [Act.put, List.setIfInBounds_toArray, List.set_cons_zero, List.set_cons_succ])
        first | (refine sch_look (o := ?_) (v := ?_) ?_ ?_ ?_ ?_; rotate_left 2; (· ((conv => lhs; whnf); try exact rfl)); (· rfl); (· intro w' hO'; have c1 : w'.cell? ⟨sb, k * 3, none⟩ = some (.int .i64 t) := (HSC.out w' (hO'.as (S ++ R))).2; have c2 : w'.cell? ⟨rb, 0, none⟩ = some (.int .i64 rt) := (by rw [hO'.cell (b := rb)]; rfl); go_simp; (try exact rfl)); simp only [Act.put, List.setIfInBounds_toArray, List.set_cons_zero, List.set_cons_succ]) | (refine sch_pass (o := ?_) ?_ ?_ ?_; rotate_left; (· ((conv => lhs; whnf); try exact rfl)); (· rfl); simp only [Act.put, List.setIfInBounds_toArray, List.set_cons_zero, List.set_cons_succ]) | (refine sch_look (o := ?_) (v := .agg ?_) ?_ ?_ ?_ ?_; rotate_left 2; (· ((conv => lhs; whnf); try exact rfl)); (· rfl); (· intro w' hO'; refine run_opLoadS (b := ?_) (cs := ?_) (e := ?_) (f := ?_) hO' ?_ ?_ ?_ ?_; rotate_left 4; (· exact rfl); (· exact inferInstance); (· simp; done); (· simp; done)); simp only [Act.put, List.setIfInBounds_toArray, List.set_cons_zero, List.set_cons_succ])
        first | (refine sch_look (o := ?_) (v := ?_) ?_ ?_ ?_ ?_; rotate_left 2; (· ((conv => lhs; whnf); try exact rfl)); (· rfl); (· intro w' hO'; have c1 : w'.cell? ⟨sb, k * 3, none⟩ = some (.int .i64 t) := (HSC.out w' (hO'.as (S ++ R))).2; have c2 : w'.cell? ⟨rb, 0, none⟩ = some (.int .i64 rt) := (by rw [hO'.cell (b := rb)]; rfl); go_simp; (try exact rfl)); simp only [Act.put, List.setIfInBounds_toArray, List.set_cons_zero, List.set_cons_succ]) | (refine sch_pass (o := ?_) ?_ ?_ ?_; rotate_left; (· ((conv => lhs; whnf); try exact rfl)); (· rfl); simp only [Act.put, List.setIfInBounds_toArray, List.set_cons_zero, List.set_cons_succ]) | (refine sch_look (o := ?_) (v := .agg ?_) ?_ ?_ ?_ ?_; rotate_left 2; (· ((conv => lhs; whnf); try exact rfl)); (· rfl); (· intro w' hO'; refine run_opLoadS (b := ?_) (cs := ?_) (e := ?_) (f := ?_) hO' ?_ ?_ ?_ ?_; rotate_left 4; (· exact rfl); (· exact inferInstance); (· simp; done); (· simp; done)); simp only [Act.put, List.setIfInBounds_toArray, List.set_cons_zero, List.set_cons_succ])
        first | (refine sch_look (o := ?_) (v := ?_) ?_ ?_ ?_ ?_; rotate_left 2; (· ((conv => lhs; whnf); try exact rfl)); (· rfl); (· intro w' hO'; have c1 : w'.cell? ⟨sb, k * 3, none⟩ = some (.int .i64 t) := (HSC.out w' (hO'.as (S ++ R))).2; have c2 : w'.cell? ⟨rb, 0, none⟩ = some (.int .i64 rt) := (by rw [hO'.cell (b := rb)]; rfl); go_simp; (try exact rfl)); simp only [Act.put, List.setIfInBounds_toArray, List.set_cons_zero, List.set_cons_succ]) | (refine sch_pass (o := ?_) ?_ ?_ ?_; rotate_left; (· ((conv => lhs; whnf); try exact rfl)); (· rfl); simp only [Act.put, List.setIfInBounds_toArray, List.set_cons_zero, List.set_cons_succ]) | (refine sch_look (o := ?_) (v := .agg ?_) ?_ ?_ ?_ ?_; rotate_left 2; (· ((conv => lhs; whnf); try exact rfl)); (· rfl); (· intro w' hO'; refine run_opLoadS (b := ?_) (cs := ?_) (e := ?_) (f := ?_) hO' ?_ ?_ ?_ ?_; rotate_left 4; (· exact rfl); (· exact inferInstance); (· simp; done); (· simp; done)); simp only [Act.put, List.setIfInBounds_toArray, List.set_cons_zero, List.set_cons_succ])
        first | (refine sch_look (o := ?_) (v := ?_) ?_ ?_ ?_ ?_; rotate_left 2; (· ((conv => lhs; whnf); try exact rfl)); (· rfl); (· intro w' hO'; have c1 : w'.cell? ⟨sb, k * 3, none⟩ = some (.int .i64 t) := (HSC.out w' (hO'.as (S ++ R))).2; have c2 : w'.cell? ⟨rb, 0, none⟩ = some (.int .i64 rt) := (by rw [hO'.cell (b := rb)]; rfl); go_simp; (try exact rfl)); simp only [Act.put, List.setIfInBounds_toArray, List.set_cons_zero, List.set_cons_succ]) | (refine sch_pass (o := ?_) ?_ ?_ ?_; rotate_left; (· ((conv => lhs; whnf); try exact rfl)); (· rfl); simp only [Act.put, List.setIfInBounds_toArray, List.set_cons_zero, List.set_cons_succ]) | (refine sch_look (o := ?_) (v := .agg ?_) ?_ ?_ ?_ ?_; rotate_left 2; (· ((conv => lhs; whnf); try exact rfl)); (· rfl); (· intro w' hO'; refine run_opLoadS (b := ?_) (cs := ?_) (e := ?_) (f := ?_) hO' ?_ ?_ ?_ ?_; rotate_left 4; (· exact rfl); (· exact inferInstance); (· simp; done); (· simp; done)); simp only [Act.put, List.setIfInBounds_toArray, List.set_cons_zero, List.set_cons_succ])
        first | (refine sch_look (o := ?_) (v := ?_) ?_ ?_ ?_ ?_; rotate_left 2; (· ((conv => lhs; whnf); try exact rfl)); (· rfl); (· intro w' hO'; have c1 : w'.cell? ⟨sb, k * 3, none⟩ = some (.int .i64 t) := (HSC.out w' (hO'.as (S ++ R))).2; have c2 : w'.cell? ⟨rb, 0, none⟩ = some (.int .i64 rt) := (by rw [hO'.cell (b := rb)]; rfl); go_simp; (try exact rfl)); simp only [Act.put, List.setIfInBounds_toArray, List.set_cons_zero, List.set_cons_succ]) | (refine sch_pass (o := ?_) ?_ ?_ ?_; rotate_left; (· ((conv => lhs; whnf); try exact rfl)); (· rfl); simp only [Act.put, List.setIfInBounds_toArray, List.set_cons_zero, List.set_cons_succ]) | (refine sch_look (o := ?_) (v := .agg ?_) ?_ ?_ ?_ ?_; rotate_left 2; (· ((conv => lhs; whnf); try exact rfl)); (· rfl); (· intro w' hO'; refine run_opLoadS (b := ?_) (cs := ?_) (e := ?_) (f := ?_) hO' ?_ ?_ ?_ ?_; rotate_left 4; (· exact rfl); (· exact inferInstance); (· simp; done); (· simp; done)); simp only [Act.put, List.setIfInBounds_toArray, List.set_cons_zero, List.set_cons_succ])
        first | (refine sch_look (o := ?_) (v := ?_) ?_ ?_ ?_ ?_; rotate_left 2; (· ((conv => lhs; whnf); try exact rfl)); (· rfl); (· intro w' hO'; have c1 : w'.cell? ⟨sb, k * 3, none⟩ = some (.int .i64 t) := (HSC.out w' (hO'.as (S ++ R))).2; have c2 : w'.cell? ⟨rb, 0, none⟩ = some (.int .i64 rt) := (by rw [hO'.cell (b := rb)]; rfl); go_simp; (try exact rfl)); simp only [Act.put, List.setIfInBounds_toArray, List.set_cons_zero, List.set_cons_succ]) | (refine sch_pass (o := ?_) ?_ ?_ ?_; rotate_left; (· ((conv => lhs; whnf); try exact rfl)); (· rfl); simp only [Act.put, List.setIfInBounds_toArray, List.set_cons_zero, List.set_cons_succ]) | (refine sch_look (o := ?_) (v := .agg ?_) ?_ ?_ ?_ ?_; rotate_left 2; (· ((conv => lhs; whnf); try exact rfl)); (· rfl); (· intro w' hO'; refine run_opLoadS (b := ?_) (cs := ?_) (e := ?_) (f := ?_) hO' ?_ ?_ ?_ ?_; rotate_left 4; (· exact rfl); (· exact inferInstance); (· simp; done); (· simp; done)); simp only [Act.put, List.setIfInBounds_toArray, List.set_cons_zero, List.set_cons_succ])
        first | (refine sch_look (o := ?_) (v := ?_) ?_ ?_ ?_ ?_; rotate_left 2; (· ((conv => lhs; whnf); try exact rfl)); (· rfl); (· intro w' hO'; have c1 : w'.cell? ⟨sb, k * 3, none⟩ = some (.int .i64 t) := (HSC.out w' (hO'.as (S ++ R))).2; have c2 : w'.cell? ⟨rb, 0, none⟩ = some (.int .i64 rt) := (by rw [hO'.cell (b := rb)]; rfl); go_simp; (try exact rfl)); simp only [Act.put, List.setIfInBounds_toArray, List.set_cons_zero, List.set_cons_succ]) | (refine sch_pass (o := ?_) ?_ ?_ ?_; rotate_left; (· ((conv => lhs; whnf); try exact rfl)); (· rfl); simp only [Act.put, List.setIfInBounds_toArray, List.set_cons_zero, List.set_cons_succ]) | (refine sch_look (o := ?_) (v := .agg ?_) ?_ ?_ ?_ ?_; rotate_left 2; (· ((conv => lhs; whnf); try exact rfl)); (· rfl); (· intro w' hO'; refine run_opLoadS (b := ?_) (cs := ?_) (e := ?_) (f := ?_) hO' ?_ ?_ ?_ ?_; rotate_left 4; (· exact rfl); (· exact inferInstance); (· simp; done); (· simp; done)); simp only [Act.put, List.setIfInBounds_toArray, List.set_cons_zero, List.set_cons_succ])
        first | (refine sch_look (o := ?_) (v := ?_) ?_ ?_ ?_ ?_; rotate_left 2; (· ((conv => lhs; whnf); try exact rfl)); (· rfl); (· intro w' hO'; have c1 : w'.cell? ⟨sb, k * 3, none⟩ = some (.int .i64 t) := (HSC.out w' (hO'.as (S ++ R))).2; have c2 : w'.cell? ⟨rb, 0, none⟩ = some (.int .i64 rt) := (by rw [hO'.cell (b := rb)]; rfl); go_simp; (try exact rfl)); simp only [Act.put, List.setIfInBounds_toArray, List.set_cons_zero, List.set_cons_succ]) | (refine sch_pass (o := ?_) ?_ ?_ ?_; rotate_left; (· ((conv => lhs; whnf); try exact rfl)); (· rfl); simp only [Act.put, List.setIfInBounds_toArray, List.set_cons_zero, List.set_cons_succ]) | (refine sch_look (o := ?_) (v := .agg ?_) ?_ ?_ ?_ ?_; rotate_left 2; (· ((conv => lhs; whnf); try exact rfl)); (· rfl); (· intro w' hO'; refine run_opLoadS (b := ?_) (cs := ?_) (e := ?_) (f := ?_) hO' ?_ ?_ ?_ ?_; rotate_left 4; (· exact rfl); (· exact inferInstance); (· simp; done); (· simp; done)); simp only [Act.put, List.setIfInBounds_toArray, List.set_cons_zero, List.set_cons_succ])
        first | (refine sch_look (o := ?_) (v := ?_) ?_ ?_ ?_ ?_; rotate_left 2; (· ((conv => lhs; whnf); try exact rfl)); (· rfl); (· intro w' hO'; have c1 : w'.cell? ⟨sb, k * 3, none⟩ = some (.int .i64 t) := (HSC.out w' (hO'.as (S ++ R))).2; have c2 : w'.cell? ⟨rb, 0, none⟩ = some (.int .i64 rt) := (by rw [hO'.cell (b := rb)]; rfl); go_simp; (try exact rfl)); simp only [Act.put, List.setIfInBounds_toArray, List.set_cons_zero, List.set_cons_succ]) | (refine sch_pass (o := ?_) ?_ ?_ ?_; rotate_left; (· ((conv => lhs; whnf); try exact rfl)); (· rfl); simp only [Act.put, List.setIfInBounds_toArray, List.set_cons_zero, List.set_cons_succ]) | (refine sch_look (o := ?_) (v := .agg ?_) ?_ ?_ ?_ ?_; rotate_left 2; (· ((conv => lhs; whnf); try exact rfl)); (· rfl); (· intro w' hO'; refine run_opLoadS (b := ?_) (cs := ?_) (e := ?_) (f := ?_) hO' ?_ ?_ ?_ ?_; rotate_left 4; (· exact rfl); (· exact inferInstance); (· simp; done); (· simp; done)); simp only [Act.put, List.setIfInBounds_toArray, List.set_cons_zero, List.set_cons_succ])
        first | (refine sch_look (o := ?_) (v := ?_) ?_ ?_ ?_ ?_; rotate_left 2; (· ((conv => lhs; whnf); try exact rfl)); (· rfl); (· intro w' hO'; have c1 : w'.cell? ⟨sb, k * 3, none⟩ = some (.int .i64 t) := (HSC.out w' (hO'.as (S ++ R))).2; have c2 : w'.cell? ⟨rb, 0, none⟩ = some (.int .i64 rt) := (by rw [hO'.cell (b := rb)]; rfl); go_simp; (try exact rfl)); simp only [Act.put, List.setIfInBounds_toArray, List.set_cons_zero, List.set_cons_succ]) | (refine sch_pass (o := ?_) ?_ ?_ ?_; rotate_left; (· ((conv => lhs; whnf); try exact rfl)); (· rfl); simp only [Act.put, List.setIfInBounds_toArray, List.set_cons_zero, List.set_cons_succ]) | (refine sch_look (o := ?_) (v := .agg ?_) ?_ ?_ ?_ ?_; rotate_left 2; (· ((conv => lhs; whnf); try exact rfl)); (· rfl); (· intro w' hO'; refine run_opLoadS (b := ?_) (cs := ?_) (e := ?_) (f := ?_) hO' ?_ ?_ ?_ ?_; rotate_left 4; (· exact rfl); (· exact inferInstance); (· simp; done); (· simp; done)); simp only [Act.put, List.setIfInBounds_toArray, List.set_cons_zero, List.set_cons_succ])
        refine sch_done ?_
        go_wp2_with (first | (refine at_load (t := 90) ?_; refine own_loadC (ad := ⟨sb, k * 3, none⟩) (cs := [.int .i64 t, .string r, .bool b]) ?_ (HSC.out _ (hO.as (S ++ R))).1 ?_ ?_ ?_ ?_; (· rfl); (· ((conv => lhs; whnf); try exact rfl)); (· simp; done); (· simp; done); simp only [Act.put, List.setIfInBounds_toArray, List.set_cons_zero, List.set_cons_succ]) | (refine at_load (t := 90) ?_; refine own_loadC (ad := ⟨rb, 0, none⟩) (cs := [.int .i64 rt, .string rr, .bool rl]) ?_ (fun i v hi => by rw [add_lit, hO.cell (b := rb), Nat.zero_add]; simpa using hi) ?_ ?_ ?_ ?_; (· rfl); (· ((conv => lhs; whnf); try exact rfl)); (· simp; done); (· simp; done); simp only [Act.put, List.setIfInBounds_toArray, List.set_cons_zero, List.set_cons_succ]) | (refine at_bs ?_; go_must (refine own_build1 (v := ?_) sltRows7 hO ?_ ?_ ?_ ?_ ?_ ?_; rotate_left; (· rfl); (· ((conv => lhs; whnf); try exact rfl)); (· rfl); (· decide); (· decide); clear hO; (try clear hF); intro bs _ hO; (try simp only [Value.cells] at hO); ((try simp only [List.nil_append, List.append_nil] at hO); have hF := Own.cells hO; simp only [cellsOf_append, cellsOf_pt] at hF); simp only [Act.put, List.setIfInBounds_toArray, List.set_cons_zero, List.set_cons_succ])) | (refine at_append ?_; refine own_append_elem (b1 := ?_) (cs := ?_) (e1 := ?_) (f1 := ?_) sltRows7 hO ?_ ?_ ?_ hS4 ?_ ?_ ?_ ?_ ?_ ?_ ?_; rotate_left 4; (· rfl); (· rfl); (· rfl); (· exact inferInstance); (· rfl); (· intro u hu; simp at hu; rcases hu with rfl | rfl | rfl <;> rfl); (· first | omega | (simp only [maxLen]; omega)); (· decide); (· first | omega | (simp only [maxLen]; omega)); clear hO; (try clear hF); intro so4 co4 SO4 w5 hS5 hO; ((try simp only [List.nil_append, List.append_nil] at hO); have hF := Own.cells hO; simp only [cellsOf_append, cellsOf_pt] at hF); simp only [Act.put, List.setIfInBounds_toArray, List.set_cons_zero, List.set_cons_succ]) | (refine at_append ?_; refine own_append_elem (b1 := ?_) (cs := ?_) (e1 := ?_) (f1 := ?_) sltRows7 hO ?_ ?_ ?_ hSO ?_ ?_ ?_ ?_ ?_ ?_ ?_; rotate_left 4; (· rfl); (· rfl); (· rfl); (· exact inferInstance); (· rfl); (· intro u hu; simp at hu; rcases hu with rfl | rfl | rfl <;> rfl); (· first | omega | (simp only [maxLen]; omega)); (· decide); (· first | omega | (simp only [maxLen]; omega)); clear hO; (try clear hF); intro so3 co3 SO3 w4 hS4 hO; ((try simp only [List.nil_append, List.append_nil] at hO); have hF := Own.cells hO; simp only [cellsOf_append, cellsOf_pt] at hF); simp only [Act.put, List.setIfInBounds_toArray, List.set_cons_zero, List.set_cons_succ]))
        go_roundw
        case rel =>
          obtain ⟨e, e2⟩ := N2.out (by trivial) hg
          refine ⟨k + 1, so4, co4, SO4, by go_num, by have := HL.out; omega, by rw [e2], ?_, ?_, hO.as _⟩
          · rw [e]; simp
          · rw [e, rwsV_app, rwsV_app, List.length_append, List.length_append]; exact hS5
        case measure => have := HL.out; simp [intOf]; omega
      · go_wp2_with fail
        (try (go_wp2_with fail))
        refine region_sch (fun w' => Own E w' (pt rb (.cells #[.int .i64 rt, .string rr, .bool rl] 90 (0, 0)) ++ (S ++ R))) (.look 0 (.look 1 (.look 2 (.look 3 (.look 4 (.look 5 (.look 6 (.look 7 (.look 8 (.look 9 (.look 10 (.look 11 .done)))))))))))) (by kernel_rfl) (by kernel_rfl) (fun _ _ d _ _ h => by cases d <;> exact h) ?_ ?_
        · exact hO.drew.as _
        replace hO := hO.drew
        generalize World.drew _ = wdr at hO ⊢
        first | (refine sch_look (o := ?_) (v := ?_) ?_ ?_ ?_ ?_; rotate_left 2; (· ((conv => lhs; whnf); try exact rfl)); (· rfl); (· intro w' hO'; have c1 : w'.cell? ⟨sb, k * 3, none⟩ = some (.int .i64 t) := (HSC.out w' (hO'.as (S ++ R))).2; have c2 : w'.cell? ⟨rb, 0, none⟩ = some (.int .i64 rt) := (by rw [hO'.cell (b := rb)]; rfl); go_simp; (try exact rfl)); simp only [Act.put, List.setIfInBounds_toArray, List.set_cons_zero, List.set_cons_succ]) | (refine sch_pass (o := ?_) ?_ ?_ ?_; rotate_left; (· ((conv => lhs; whnf); try exact rfl)); (· rfl); simp only [Act.put, List.setIfInBounds_toArray, List.set_cons_zero, List.set_cons_succ]) | (refine sch_look (o := ?_) (v := .agg ?_) ?_ ?_ ?_ ?_; rotate_left 2; (· ((conv => lhs; whnf); try exact rfl)); (· rfl); (· intro w' hO'; refine run_opLoadS (b := ?_) (cs := ?_) (e := ?_) (f := ?_) hO' ?_ ?_ ?_ ?_; rotate_left 4; (· exact rfl); (· exact inferInstance); (· simp; done); (· simp; done)); simp only [Act.put, List.setIfInBounds_toArray, List.set_cons_zero, List.set_cons_succ])
        first | (refine sch_look (o := ?_) (v := ?_) ?_ ?_ ?_ ?_; rotate_left 2; (· ((conv => lhs; whnf); try exact rfl)); (· rfl); (· intro w' hO'; have c1 : w'.cell? ⟨sb, k * 3, none⟩ = some (.int .i64 t) := (HSC.out w' (hO'.as (S ++ R))).2; have c2 : w'.cell? ⟨rb, 0, none⟩ = some (.int .i64 rt) := (by rw [hO'.cell (b := rb)]; rfl); go_simp; (try exact rfl)); simp only [Act.put, List.setIfInBounds_toArray, List.set_cons_zero, List.set_cons_succ]) | (refine sch_pass (o := ?_) ?_ ?_ ?_; rotate_left; (· ((conv => lhs; whnf); try exact rfl)); (· rfl); simp only [Act.put, List.setIfInBounds_toArray, List.set_cons_zero, List.set_cons_succ]) | (refine sch_look (o := ?_) (v := .agg ?_) ?_ ?_ ?_ ?_; rotate_left 2; (· ((conv => lhs; whnf); try exact rfl)); (· rfl); (· intro w' hO'; refine run_opLoadS (b := ?_) (cs := ?_) (e := ?_) (f := ?_) hO' ?_ ?_ ?_ ?_; rotate_left 4; (· exact rfl); (· exact inferInstance); (· simp; done); (· simp; done)); simp only [Act.put, List.setIfInBounds_toArray, List.set_cons_zero, List.set_cons_succ])
        first | (refine sch_look (o := ?_) (v := ?_) ?_ ?_ ?_ ?_; rotate_left 2; (· ((conv => lhs; whnf); try exact rfl)); (· rfl); (· intro w' hO'; have c1 : w'.cell? ⟨sb, k * 3, none⟩ = some (.int .i64 t) := (HSC.out w' (hO'.as (S ++ R))).2; have c2 : w'.cell? ⟨rb, 0, none⟩ = some (.int .i64 rt) := (by rw [hO'.cell (b := rb)]; rfl); go_simp; (try exact rfl)); simp only [Act.put, List.setIfInBounds_toArray, List.set_cons_zero, List.set_cons_succ]) | (refine sch_pass (o := ?_) ?_ ?_ ?_; rotate_left; (· ((conv => lhs; whnf); try exact rfl)); (· rfl); simp only [Act.put, List.setIfInBounds_toArray, List.set_cons_zero, List.set_cons_succ]) | (refine sch_look (o := ?_) (v := .agg ?_) ?_ ?_ ?_ ?_; rotate_left 2; (· ((conv => lhs; whnf); try exact rfl)); (· rfl); (· intro w' hO'; refine run_opLoadS (b := ?_) (cs := ?_) (e := ?_) (f := ?_) hO' ?_ ?_ ?_ ?_; rotate_left 4; (· exact rfl); (· exact inferInstance); (· simp; done); (· simp; done)); simp only [Act.put, List.setIfInBounds_toArray, List.set_cons_zero, List.set_cons_succ])
        first | (refine sch_look (o := ?_) (v := ?_) ?_ ?_ ?_ ?_; rotate_left 2; (· ((conv => lhs; whnf); try exact rfl)); (· rfl); (· intro w' hO'; have c1 : w'.cell? ⟨sb, k * 3, none⟩ = some (.int .i64 t) := (HSC.out w' (hO'.as (S ++ R))).2; have c2 : w'.cell? ⟨rb, 0, none⟩ = some (.int .i64 rt) := (by rw [hO'.cell (b := rb)]; rfl); go_simp; (try exact rfl)); simp only [Act.put, List.setIfInBounds_toArray, List.set_cons_zero, List.set_cons_succ]) | (refine sch_pass (o := ?_) ?_ ?_ ?_; rotate_left; (· ((conv => lhs; whnf); try exact rfl)); (· rfl); simp only [Act.put, List.setIfInBounds_toArray, List.set_cons_zero, List.set_cons_succ]) | (refine sch_look (o := ?_) (v := .agg ?_) ?_ ?_ ?_ ?_; rotate_left 2; (· ((conv => lhs; whnf); try exact rfl)); (· rfl); (· intro w' hO'; refine run_opLoadS (b := ?_) (cs := ?_) (e := ?_) (f := ?_) hO' ?_ ?_ ?_ ?_; rotate_left 4; (· exact rfl); (· exact inferInstance); (· simp; done); (· simp; done)); simp only [Act.put, List.setIfInBounds_toArray, List.set_cons_zero, List.set_cons_succ])
        first | (refine sch_look (o := ?_) (v := ?_) ?_ ?_ ?_ ?_; rotate_left 2; (· ((conv => lhs; whnf); try exact rfl)); (· rfl); (· intro w' hO'; have c1 : w'.cell? ⟨sb, k * 3, none⟩ = some (.int .i64 t) := (HSC.out w' (hO'.as (S ++ R))).2; have c2 : w'.cell? ⟨rb, 0, none⟩ = some (.int .i64 rt) := (by rw [hO'.cell (b := rb)]; rfl); go_simp; (try exact rfl)); simp only [Act.put, List.setIfInBounds_toArray, List.set_cons_zero, List.set_cons_succ]) | (refine sch_pass (o := ?_) ?_ ?_ ?_; rotate_left; (· ((conv => lhs; whnf); try exact rfl)); (· rfl); simp only [Act.put, List.setIfInBounds_toArray, List.set_cons_zero, List.set_cons_succ]) | (refine sch_look (o := ?_) (v := .agg ?_) ?_ ?_ ?_ ?_; rotate_left 2; (· ((conv => lhs; whnf); try exact rfl)); (· rfl); (· intro w' hO'; refine run_opLoadS (b := ?_) (cs := ?_) (e := ?_) (f := ?_) hO' ?_ ?_ ?_ ?_; rotate_left 4; (· exact rfl); (· exact inferInstance); (· simp; done); (· simp; done)); simp only [Act.put, List.setIfInBounds_toArray, List.set_cons_zero, List.set_cons_succ])
        first | (refine sch_look (o := ?_) (v := ?_) ?_ ?_ ?_ ?_; rotate_left 2; (· ((conv => lhs; whnf); try exact rfl)); (· rfl); (· intro w' hO'; have c1 : w'.cell? ⟨sb, k * 3, none⟩ = some (.int .i64 t) := (HSC.out w' (hO'.as (S ++ R))).2; have c2 : w'.cell? ⟨rb, 0, none⟩ = some (.int .i64 rt) := (by rw [hO'.cell (b := rb)]; rfl); go_simp; (try exact rfl)); simp only [Act.put, List.setIfInBounds_toArray, List.set_cons_zero, List.set_cons_succ]) | (refine sch_pass (o := ?_) ?_ ?_ ?_; rotate_left; (· ((conv => lhs; whnf); try exact rfl)); (· rfl); simp only [Act.put, List.setIfInBounds_toArray, List.set_cons_zero, List.set_cons_succ]) | (refine sch_look (o := ?_) (v := .agg ?_) ?_ ?_ ?_ ?_; rotate_left 2; (· ((conv => lhs; whnf); try exact rfl)); (· rfl); (· intro w' hO'; refine run_opLoadS (b := ?_) (cs := ?_) (e := ?_) (f := ?_) hO' ?_ ?_ ?_ ?_; rotate_left 4; (· exact rfl); (· exact inferInstance); (· simp; done); (· simp; done)); simp only [Act.put, List.setIfInBounds_toArray, List.set_cons_zero, List.set_cons_succ])
        first | (refine sch_look (o := ?_) (v := ?_) ?_ ?_ ?_ ?_; rotate_left 2; (· ((conv => lhs; whnf); try exact rfl)); (· rfl); (· intro w' hO'; have c1 : w'.cell? ⟨sb, k * 3, none⟩ = some (.int .i64 t) := (HSC.out w' (hO'.as (S ++ R))).2; have c2 : w'.cell? ⟨rb, 0, none⟩ = some (.int .i64 rt) := (by rw [hO'.cell (b := rb)]; rfl); go_simp; (try exact rfl)); simp only [Act.put, List.setIfInBounds_toArray, List.set_cons_zero, List.set_cons_succ]) | (refine sch_pass (o := ?_) ?_ ?_ ?_; rotate_left; (· ((conv => lhs; whnf); try exact rfl)); (· rfl); simp only [Act.put, List.setIfInBounds_toArray, List.set_cons_zero, List.set_cons_succ]) | (refine sch_look (o := ?_) (v := .agg ?_) ?_ ?_ ?_ ?_; rotate_left 2; (· ((conv => lhs; whnf); try exact rfl)); (· rfl); (· intro w' hO'; refine run_opLoadS (b := ?_) (cs := ?_) (e := ?_) (f := ?_) hO' ?_ ?_ ?_ ?_; rotate_left 4; (· exact rfl); (· exact inferInstance); (· simp; done); (· simp; done)); simp only [Act.put, List.setIfInBounds_toArray, List.set_cons_zero, List.set_cons_succ])
        first | (refine sch_look (o := ?_) (v := ?_) ?_ ?_ ?_ ?_; rotate_left 2; (· ((conv => lhs; whnf); try exact rfl)); (· rfl); (· intro w' hO'; have c1 : w'.cell? ⟨sb, k * 3, none⟩ = some (.int .i64 t) := (HSC.out w' (hO'.as (S ++ R))).2; have c2 : w'.cell? ⟨rb, 0, none⟩ = some (.int .i64 rt) := (by rw [hO'.cell (b := rb)]; rfl); go_simp; (try exact rfl)); simp only [Act.put, List.setIfInBounds_toArray, List.set_cons_zero, List.set_cons_succ]) | (refine sch_pass (o := ?_) ?_ ?_ ?_; rotate_left; (· ((conv => lhs; whnf); try exact rfl)); (· rfl); simp only [Act.put, List.setIfInBounds_toArray, List.set_cons_zero, List.set_cons_succ]) | (refine sch_look (o := ?_) (v := .agg ?_) ?_ ?_ ?_ ?_; rotate_left 2; (· ((conv => lhs; whnf); try exact rfl)); (· rfl); (· intro w' hO'; refine run_opLoadS (b := ?_) (cs := ?_) (e := ?_) (f := ?_) hO' ?_ ?_ ?_ ?_; rotate_left 4; (· exact rfl); (· exact inferInstance); (· simp; done); (· simp; done)); simp only [Act.put, List.setIfInBounds_toArray, List.set_cons_zero, List.set_cons_succ])
        first | (refine sch_look (o := ?_) (v := ?_) ?_ ?_ ?_ ?_; rotate_left 2; (· ((conv => lhs; whnf); try exact rfl)); (· rfl); (· intro w' hO'; have c1 : w'.cell? ⟨sb, k * 3, none⟩ = some (.int .i64 t) := (HSC.out w' (hO'.as (S ++ R))).2; have c2 : w'.cell? ⟨rb, 0, none⟩ = some (.int .i64 rt) := (by rw [hO'.cell (b := rb)]; rfl); go_simp; (try exact rfl)); simp only [Act.put, List.setIfInBounds_toArray, List.set_cons_zero, List.set_cons_succ]) | (refine sch_pass (o := ?_) ?_ ?_ ?_; rotate_left; (· ((conv => lhs; whnf); try exact rfl)); (· rfl); simp only [Act.put, List.setIfInBounds_toArray, List.set_cons_zero, List.set_cons_succ]) | (refine sch_look (o := ?_) (v := .agg ?_) ?_ ?_ ?_ ?_; rotate_left 2; (· ((conv => lhs; whnf); try exact rfl)); (· rfl); (· intro w' hO'; refine run_opLoadS (b := ?_) (cs := ?_) (e := ?_) (f := ?_) hO' ?_ ?_ ?_ ?_; rotate_left 4; (· exact rfl); (· exact inferInstance); (· simp; done); (· simp; done)); simp only [Act.put, List.setIfInBounds_toArray, List.set_cons_zero, List.set_cons_succ])
        first | (refine sch_look (o := ?_) (v := ?_) ?_ ?_ ?_ ?_; rotate_left 2; (· ((conv => lhs; whnf); try exact rfl)); (· rfl); (· intro w' hO'; have c1 : w'.cell? ⟨sb, k * 3, none⟩ = some (.int .i64 t) := (HSC.out w' (hO'.as (S ++ R))).2; have c2 : w'.cell? ⟨rb, 0, none⟩ = some (.int .i64 rt) := (by rw [hO'.cell (b := rb)]; rfl); go_simp; (try exact rfl)); simp only [Act.put, List.setIfInBounds_toArray, List.set_cons_zero, List.set_cons_succ]) | (refine sch_pass (o := ?_) ?_ ?_ ?_; rotate_left; (· ((conv => lhs; whnf); try exact rfl)); (· rfl); simp only [Act.put, List.setIfInBounds_toArray, List.set_cons_zero, List.set_cons_succ]) | (refine sch_look (o := ?_) (v := .agg ?_) ?_ ?_ ?_ ?_; rotate_left 2; (· ((conv => lhs; whnf); try exact rfl)); (· rfl); (· intro w' hO'; refine run_opLoadS (b := ?_) (cs := ?_) (e := ?_) (f := ?_) hO' ?_ ?_ ?_ ?_; rotate_left 4; (· exact rfl); (· exact inferInstance); (· simp; done); (· simp; done)); simp only [Act.put, List.setIfInBounds_toArray, List.set_cons_zero, List.set_cons_succ])
        first | (refine sch_look (o := ?_) (v := ?_) ?_ ?_ ?_ ?_; rotate_left 2; (· ((conv => lhs; whnf); try exact rfl)); (· rfl); (· intro w' hO'; have c1 : w'.cell? ⟨sb, k * 3, none⟩ = some (.int .i64 t) := (HSC.out w' (hO'.as (S ++ R))).2; have c2 : w'.cell? ⟨rb, 0, none⟩ = some (.int .i64 rt) := (by rw [hO'.cell (b := rb)]; rfl); go_simp; (try exact rfl)); simp only [Act.put, List.setIfInBounds_toArray, List.set_cons_zero, List.set_cons_succ]) | (refine sch_pass (o := ?_) ?_ ?_ ?_; rotate_left; (· ((conv => lhs; whnf); try exact rfl)); (· rfl); simp only [Act.put, List.setIfInBounds_toArray, List.set_cons_zero, List.set_cons_succ]) | (refine sch_look (o := ?_) (v := .agg ?_) ?_ ?_ ?_ ?_; rotate_left 2; (· ((conv => lhs; whnf); try exact rfl)); (· rfl); (· intro w' hO'; refine run_opLoadS (b := ?_) (cs := ?_) (e := ?_) (f := ?_) hO' ?_ ?_ ?_ ?_; rotate_left 4; (· exact rfl); (· exact inferInstance); (· simp; done); (· simp; done)); simp only [Act.put, List.setIfInBounds_toArray, List.set_cons_zero, List.set_cons_succ])
        first | (refine sch_look (o := ?_) (v := ?_) ?_ ?_ ?_ ?_; rotate_left 2; (· ((conv => lhs; whnf); try exact rfl)); (· rfl); (· intro w' hO'; have c1 : w'.cell? ⟨sb, k * 3, none⟩ = some (.int .i64 t) := (HSC.out w' (hO'.as (S ++ R))).2; have c2 : w'.cell? ⟨rb, 0, none⟩ = some (.int .i64 rt) := (by rw [hO'.cell (b := rb)]; rfl); go_simp; (try exact rfl)); simp only [Act.put, List.setIfInBounds_toArray, List.set_cons_zero, List.set_cons_succ]) | (refine sch_pass (o := ?_) ?_ ?_ ?_; rotate_left; (· ((conv => lhs; whnf); try exact rfl)); (· rfl); simp only [Act.put, List.setIfInBounds_toArray, List.set_cons_zero, List.set_cons_succ]) | (refine sch_look (o := ?_) (v := .agg ?_) ?_ ?_ ?_ ?_; rotate_left 2; (· ((conv => lhs; whnf); try exact rfl)); (· rfl); (· intro w' hO'; refine run_opLoadS (b := ?_) (cs := ?_) (e := ?_) (f := ?_) hO' ?_ ?_ ?_ ?_; rotate_left 4; (· exact rfl); (· exact inferInstance); (· simp; done); (· simp; done)); simp only [Act.put, List.setIfInBounds_toArray, List.set_cons_zero, List.set_cons_succ])
        refine sch_done ?_
        go_wp2_with (first | (refine at_load (t := 90) ?_; refine own_loadC (ad := ⟨sb, k * 3, none⟩) (cs := [.int .i64 t, .string r, .bool b]) ?_ (HSC.out _ (hO.as (S ++ R))).1 ?_ ?_ ?_ ?_; (· rfl); (· ((conv => lhs; whnf); try exact rfl)); (· simp; done); (· simp; done); simp only [Act.put, List.setIfInBounds_toArray, List.set_cons_zero, List.set_cons_succ]) | (refine at_load (t := 90) ?_; refine own_loadC (ad := ⟨rb, 0, none⟩) (cs := [.int .i64 rt, .string rr, .bool rl]) ?_ (fun i v hi => by rw [add_lit, hO.cell (b := rb), Nat.zero_add]; simpa using hi) ?_ ?_ ?_ ?_; (· rfl); (· ((conv => lhs; whnf); try exact rfl)); (· simp; done); (· simp; done); simp only [Act.put, List.setIfInBounds_toArray, List.set_cons_zero, List.set_cons_succ]) | (refine at_bs ?_; go_must (refine own_build1 (v := ?_) sltRows7 hO ?_ ?_ ?_ ?_ ?_ ?_; rotate_left; (· rfl); (· ((conv => lhs; whnf); try exact rfl)); (· rfl); (· decide); (· decide); clear hO; (try clear hF); intro bs _ hO; (try simp only [Value.cells] at hO); ((try simp only [List.nil_append, List.append_nil] at hO); have hF := Own.cells hO; simp only [cellsOf_append, cellsOf_pt] at hF); simp only [Act.put, List.setIfInBounds_toArray, List.set_cons_zero, List.set_cons_succ])) | (refine at_append ?_; refine own_append_elem (b1 := ?_) (cs := ?_) (e1 := ?_) (f1 := ?_) sltRows7 hO ?_ ?_ ?_ hS4 ?_ ?_ ?_ ?_ ?_ ?_ ?_; rotate_left 4; (· rfl); (· rfl); (· rfl); (· exact inferInstance); (· rfl); (· intro u hu; simp at hu; rcases hu with rfl | rfl | rfl <;> rfl); (· first | omega | (simp only [maxLen]; omega)); (· decide); (· first | omega | (simp only [maxLen]; omega)); clear hO; (try clear hF); intro so4 co4 SO4 w5 hS5 hO; ((try simp only [List.nil_append, List.append_nil] at hO); have hF := Own.cells hO; simp only [cellsOf_append, cellsOf_pt] at hF); simp only [Act.put, List.setIfInBounds_toArray, List.set_cons_zero, List.set_cons_succ]) | (refine at_append ?_; refine own_append_elem (b1 := ?_) (cs := ?_) (e1 := ?_) (f1 := ?_) sltRows7 hO ?_ ?_ ?_ hSO ?_ ?_ ?_ ?_ ?_ ?_ ?_; rotate_left 4; (· rfl); (· rfl); (· rfl); (· exact inferInstance); (· rfl); (· intro u hu; simp at hu; rcases hu with rfl | rfl | rfl <;> rfl); (· first | omega | (simp only [maxLen]; omega)); (· decide); (· first | omega | (simp only [maxLen]; omega)); clear hO; (try clear hF); intro so3 co3 SO3 w4 hS4 hO; ((try simp only [List.nil_append, List.append_nil] at hO); have hF := Own.cells hO; simp only [cellsOf_append, cellsOf_pt] at hF); simp only [Act.put, List.setIfInBounds_toArray, List.set_cons_zero, List.set_cons_succ]))
        go_roundw
        case rel =>
          obtain ⟨e, e2⟩ := N3.out (by trivial) hg
          refine ⟨k + 1, so3, co3, SO3, by go_num, by have := HL.out; omega, by rw [e2], ?_, ?_, hO.as _⟩
          · rw [e]; rw [List.length_append]; rfl
          · rw [e, rwsV_app, List.length_append]; exact hS4
        case measure => have := HL.out; simp [intOf]; omega
    · obtain rfl : k = l.length := by omega
      have h1 : ¬ (l.length : Int) < l.length := by omega
      rw [List.take_length] at hSO ⊢
      obtain ⟨dn, hdn⟩ : ∃ dn, anyR ⟨rt, rr, rl⟩ l = dn := ⟨_, rfl⟩
      have hp : preR ⟨rt, rr, rl⟩ l = if dn then wiR ⟨rt, rr, rl⟩ l else l := by unfold preR; rw [hdn]
      have hno := wiR_no ⟨rt, rr, rl⟩ l
      rw [hdn] at hno ⊢
      clear hdn
      cases dn with
      | true =>
        rw [if_pos rfl] at hp
        rw [hp] at hSO ⊢
        clear hp hno
        go_wp2_with fail
        go_ret
        exact ⟨so, co, rfl, SO, hSO, hO.as _⟩
      | false =>
        rw [if_neg (by decide)] at hp
        rw [hp] at hSO ⊢
        have HNO := Lib.hid (hno rfl)
        clear hp hno
        go_wp2_with (first | (refine at_load (t := 90) ?_; refine own_loadC (ad := ⟨rb, 0, none⟩) (cs := [.int .i64 rt, .string rr, .bool rl]) ?_ (fun i v hi => by rw [add_lit, hO.cell (b := rb), Nat.zero_add]; simpa using hi) ?_ ?_ ?_ ?_; (· rfl); (· ((conv => lhs; whnf); try exact rfl)); (· simp; done); (· simp; done); simp only [Act.put, List.setIfInBounds_toArray, List.set_cons_zero, List.set_cons_succ]) | (refine at_bs ?_; go_must (refine own_build1 (v := ?_) sltRows7 hO ?_ ?_ ?_ ?_ ?_ ?_; rotate_left; (· rfl); (· ((conv => lhs; whnf); try exact rfl)); (· rfl); (· decide); (· decide); clear hO; (try clear hF); intro bs _ hO; (try simp only [Value.cells] at hO); ((try simp only [List.nil_append, List.append_nil] at hO); have hF := Own.cells hO; simp only [cellsOf_append, cellsOf_pt] at hF); simp only [Act.put, List.setIfInBounds_toArray, List.set_cons_zero, List.set_cons_succ])) | (refine at_append ?_; refine own_append_elem (b1 := ?_) (cs := ?_) (e1 := ?_) (f1 := ?_) sltRows7 hO ?_ ?_ ?_ hSO ?_ ?_ ?_ ?_ ?_ ?_ ?_; rotate_left 4; (· rfl); (· rfl); (· rfl); (· exact inferInstance); (· rfl); (· intro u hu; simp at hu; rcases hu with rfl | rfl | rfl <;> rfl); (· first | omega | (simp only [maxLen]; omega)); (· decide); (· first | omega | (simp only [maxLen]; omega)); clear hO; (try clear hF); intro so3 co3 SO3 w4 hS4 hO; ((try simp only [List.nil_append, List.append_nil] at hO); have hF := Own.cells hO; simp only [cellsOf_append, cellsOf_pt] at hF); simp only [Act.put, List.setIfInBounds_toArray, List.set_cons_zero, List.set_cons_succ]))
        go_ret
        rw [HNO.out, List.length_append]
        refine ⟨so3, co3, rfl, SO3, ?_, hO.as _⟩
        rw [rwsV_app]
        exact hS4
end Go.Proofs.YtkfkcloefgfkaaaGreat

/- The document's heap: what the lists are (plain). -/
namespace Go.Proofs.YtkfkcloefgfkaaaGreat
open Go Go.RowKit Go.Own Go.Dk

def UpR (l : List Rw) : Prop := l.Pairwise fun x y => x.tid < y.tid
theorem wiR_perm (r : Rw) : ∀ l, (wiR r l).Perm (r :: l)
  | [] => .refl _
  | x :: l => by
    show (if r.tid < x.tid then _ else _ : List Rw).Perm _
    split
    · exact .refl _
    · exact (List.Perm.cons x (wiR_perm r l)).trans (List.Perm.swap r x l)
theorem wiR_up (r : Rw) : ∀ l, UpR l → (∀ x ∈ l, x.tid ≠ r.tid) → UpR (wiR r l)
  | [], _, _ => List.pairwise_singleton _ _
  | x :: l, h, hn => by
    have h' := List.pairwise_cons.1 h
    show UpR (if r.tid < x.tid then _ else _)
    split
    · rename_i hx
      exact List.pairwise_cons.2 ⟨fun y hy => by
        rcases List.mem_cons.1 hy with rfl | hy
        · exact hx
        · have := h'.1 y hy; omega, h⟩
    · rename_i hx
      refine List.pairwise_cons.2 ⟨fun y hy => ?_, wiR_up r l h'.2 fun y hy => hn y (List.mem_cons_of_mem _ hy)⟩
      rcases List.mem_cons.1 ((wiR_perm r l).mem_iff.1 hy) with rfl | hy
      · have := hn x (List.mem_cons_self ..); omega
      · exact h'.1 y hy
theorem woR_up (l : List Rw) (tid : Int) (h : UpR l) : UpR (woR l tid) := List.Pairwise.filter _ h
theorem woR_perm : ∀ (l : List Rw), UpR l → ∀ x ∈ l, l.Perm (x :: woR l x.tid)
  | y :: l, h, x, hx => by
    have h' := List.pairwise_cons.1 h
    unfold woR
    rcases List.mem_cons.1 hx with rfl | hx
    · rw [List.filter_cons_of_neg (by simp)]
      rw [List.filter_eq_self.2 fun z hz => by have := h'.1 z hz; rw [bne_iff_ne]; omega]
    · have := h'.1 x hx
      rw [List.filter_cons_of_pos (by rw [bne_iff_ne]; omega)]
      exact (List.Perm.cons y (woR_perm l h'.2 x hx)).trans (List.Perm.swap x y _)
theorem woR_no (l : List Rw) (tid : Int) : ∀ x ∈ woR l tid, x.tid ≠ tid := fun x hx => bne_iff_ne.1 (List.mem_filter.1 hx).2
def celR (x : Rw) : Cell := (x.tid.toNat, ⟨if x.lives then 1 else 2, x.row⟩)
/-- A heap and the document's rows agree. -/
structure Ag (hs : Hs) (l : List Rw) : Prop where
  up : UpR l
  nn : ∀ x ∈ l, 0 ≤ x.tid
  pm : (W hs).Perm (l.map celR)
theorem Ag.mem {hs : Hs} {l : List Rw} (h : Ag hs l) {t : Nat} {x : Slot} : (t, x) ∈ W hs ↔ ∃ y ∈ l, y.tid = t ∧ x = ⟨if y.lives then 1 else 2, y.row⟩ := by
  rw [h.pm.mem_iff, List.mem_map]
  constructor
  · rintro ⟨y, hy, e⟩
    have := h.nn y hy
    cases e
    exact ⟨y, hy, by omega, rfl⟩
  · rintro ⟨y, hy, h1, rfl⟩
    refine ⟨y, hy, ?_⟩
    unfold celR
    rw [h1]
    rfl
theorem Ag.ins {hs hs' : Hs} {l : List Rw} (h : Ag hs l) {t : Nat} {row : ByteArray} (hn : ∀ x, (t, x) ∉ W hs) (hp : (W hs').Perm ((t, ⟨1, row⟩) :: W hs)) : Ag hs' (wiR ⟨t, row, true⟩ l) := by
  have hn' : ∀ x ∈ l, x.tid ≠ (t : Int) := fun x hx e => hn _ (h.mem.2 ⟨x, hx, e, rfl⟩)
  refine ⟨wiR_up _ l h.up hn', fun x hx => ?_, ?_⟩
  · rcases List.mem_cons.1 ((wiR_perm _ l).mem_iff.1 hx) with rfl | hx
    · exact Int.natCast_nonneg t
    · exact h.nn x hx
  · exact hp.trans ((List.Perm.cons _ h.pm).trans ((wiR_perm ⟨t, row, true⟩ l).map celR).symm)
theorem celR_tid {y : Rw} (h : 0 ≤ y.tid) : celR y = (y.tid.toNat, ⟨if y.lives then 1 else 2, y.row⟩) := rfl
theorem Ag.cut {hs : Hs} {l : List Rw} (h : Ag hs l) {y : Rw} (hy : y ∈ l) {Z : List Cell} (hz : (W hs).Perm (celR y :: Z)) : Z.Perm ((woR l y.tid).map celR) := by
  have h1 : (l.map celR).Perm (celR y :: (woR l y.tid).map celR) := (woR_perm l h.up y hy).map celR
  exact (hz.symm.trans (h.pm.trans h1)).cons_inv
theorem Ag.free {hs hs' : Hs} {l : List Rw} (h : Ag hs l) {y : Rw} (hy : y ∈ l) {Z : List Cell} (hz : (W hs).Perm (celR y :: Z)) (hp : (W hs').Perm Z) : Ag hs' (woR l y.tid) :=
  ⟨woR_up l _ h.up, fun x hx => h.nn x (List.mem_filter.1 hx).1, hp.trans (h.cut hy hz)⟩
theorem Ag.kill {hs hs' : Hs} {l : List Rw} (h : Ag hs l) {y : Rw} (hy : y ∈ l) {Z : List Cell} (hz : (W hs).Perm (celR y :: Z)) (hp : (W hs').Perm ((y.tid.toNat, ⟨2, y.row⟩) :: Z)) : Ag hs' (wiR ⟨y.tid, y.row, false⟩ (woR l y.tid)) := by
  refine ⟨wiR_up _ _ (woR_up l _ h.up) (woR_no l _), fun x hx => ?_, ?_⟩
  · rcases List.mem_cons.1 ((wiR_perm _ _).mem_iff.1 hx) with rfl | hx
    · exact h.nn y hy
    · exact h.nn x (List.mem_filter.1 hx).1
  · exact hp.trans ((List.Perm.cons _ (h.cut hy hz)).trans ((wiR_perm ⟨y.tid, y.row, false⟩ (woR l y.tid)).map celR).symm)
end Go.Proofs.YtkfkcloefgfkaaaGreat

/- The document's heap: Tids and Dead (plain). -/
namespace Go.Proofs.YtkfkcloefgfkaaaGreat
open Go Go.RowKit Go.Own Go.Dk

theorem srt_same {zs T : List Int} (h : zs.Perm T) (hT : T.Pairwise fun x y => x < y) : srt zs = T :=
  List.Perm.eq_of_pairwise (le := fun a b => a ≤ b) (fun a b _ _ h1 h2 => by omega) (srt_sorted zs) (hT.imp fun h => Int.le_of_lt h) ((srt_perm zs).trans h)
theorem tidR_up (l : List Rw) (dead : Bool) (h : UpR l) : (tidR l dead).Pairwise fun x y => x < y := by
  unfold tidR
  exact List.pairwise_map.2 (List.Pairwise.filter _ h)
theorem Ag.tids {hs : Hs} {l : List Rw} (h : Ag hs l) : srt (allT (· != 0) hs) = tidR l false ∧ srt (allT (· == 2) hs) = tidR l true := by
  have key : ∀ (f : Nat → Bool) (hf : f 0 = false) (d : Bool), (∀ x ∈ l, f (celR x).2.st = (!d || !x.lives)) → srt (allT f hs) = tidR l d := fun f hf d hd => by
    refine srt_same ?_ (tidR_up l d h.up)
    rw [allT_W f hf]
    refine ((h.pm.filter _).map _).trans ?_
    rw [List.filter_map, List.map_map]
    unfold tidR
    have e1 : l.filter ((fun c : Cell => f c.2.st) ∘ celR) = l.filter (fun x => !d || !x.lives) := List.filter_congr fun x hx => hd x hx
    rw [e1]
    refine List.Perm.of_eq (List.map_congr_left fun x hx => ?_)
    have := h.nn x (List.mem_filter.1 hx).1
    show ((x.tid.toNat : Nat) : Int) = x.tid
    omega
  refine ⟨key _ rfl false fun x _ => ?_, key _ rfl true fun x _ => ?_⟩
  · unfold celR; cases x.lives <;> rfl
  · unfold celR; cases x.lives <;> rfl
end Go.Proofs.YtkfkcloefgfkaaaGreat

/- Layer 7: begun. -/
namespace Go.Proofs.YtkfkcloefgfkaaaGreat
open Go Go.RowKit Go.Own Go.Dk

set_option maxRecDepth 100000 in
set_option maxHeartbeats 16000000 in
theorem beg7 (E w : World) (X : Fr) (hO : Own E w X) :
    Calls Tryz.prog 9 #[] w fun e w' => ∃ s d a A, e = .returned (.tuple #[.pointer (some ⟨d, 0, none⟩), .pointer (some ⟨s, 0, none⟩), .pointer (some ⟨a, 0, none⟩), .bool true]) ∧ Going s d a 4194305 st00 st00 A ∧ Own E w' (A ++ X) := by
  go_enter Tryz.func9, Tryz.ntmps9
  go_wp2_with fail
  refine (dNew E _ _ hO).mono ?_
  clear hO
  rintro e w1 ⟨d, D, rfl, hD, hO⟩
  go_wp2_with fail
  refine (gOpen00 E _ _ _ D d 16 hD (by decide) (by decide) hO).mono ?_
  clear hO hD
  rintro e w2 ⟨s, A, rfl, hA, hO⟩
  go_wp2_with fail
  refine (gBegin E _ _ _ A s d _ st00 hA hO).mono ?_
  clear hO hA
  rintro e w3 ⟨a, A, rfl, hA, hO⟩
  go_wp2_with fail
  refine bodyPost_ret (results_tmp4 rfl _ _ _) rfl ?_
  exact ⟨s, d, a, A, rfl, hA, hO.as _⟩
set_option maxRecDepth 100000 in
set_option maxHeartbeats 16000000 in
theorem awake7 (E w : World) (X : Fr) (hO : Own E w X) :
    Calls Tryz.prog 10 #[] w fun e w' => e = .returned (.bool true) ∧ Own E w' X := by
  go_enter Tryz.func10, Tryz.ntmps10
  go_wp2_with fail
  refine (beg7 E _ _ hO).mono ?_
  clear hO
  rintro e w1 ⟨s, d, a, A, rfl, hA, hO⟩
  go_wp2_with fail
  refine (hNew E _ _ _ A s d a _ st00 st00 1 (by decide) hA (by decide) hO).mono ?_
  clear hO hA
  rintro e w2 ⟨h, A, rfl, hA, hO⟩
  go_wp2_with fail
  refine (hInsert E _ _ _ A s d a _ h st00 st00 1 (by decide) [] (HInv.new rfl) _ hA (by decide) hO).mono ?_
  clear hO hA
  intro e w3 he
  obtain ⟨t, st, hs, A, rfl, hR, hI, hT, hA, hO⟩ := he.ok (by decide) (by decide) (by decide)
  obtain ⟨hP, hn, ht1, ht2⟩ := hR.wp (HInv.new rfl) hI
  have hT0 : st.T ≤ 1 := hT
  clear he hR hn hT
  generalize hg : st = st1 at *
  clear hg
  have hx := hP.mem_iff.2 (List.mem_cons_self ..)
  have htb : (t : Int) < 9223372036854775808 := by omega
  go_wp2_with fail
  refine (hGet E _ _ _ A s d a _ h st00 st1 1 (by decide) hs hI t htb hA (by decide) hO).mono ?_
  clear hO hA
  intro e w4 he
  obtain ⟨rfl, A, hA, hO⟩ := he.ok hI hx
  clear he
  go_wp2_with fail
  refine (hKill E _ _ _ A s d a _ h st00 st1 1 (by decide) hs hI t htb hA (by decide) hO).mono ?_
  clear hO hA
  intro e w5 he
  obtain ⟨st2, hs2, A, rfl, hI2, hT2, _, _, _, ⟨Z, hZ, hP2⟩, hA, hO⟩ := he.ok hI hx rfl (by decide)
  have hZ0 : Z = [] := by
    have h1 := hZ.length_eq
    have h2 := hP.length_eq
    simp [W] at h1 h2
    rw [h2] at h1
    exact List.eq_nil_of_length_eq_zero (by simpa using h1.symm)
  subst hZ0
  rw [List.append_nil] at hP2
  clear he hZ hP
  go_wp2_with fail
  refine (hInsert E _ _ _ A s d a _ h st00 st2 1 (by decide) hs2 hI2 _ hA (by decide) hO).mono ?_
  clear hO hA
  intro e w6 he
  obtain ⟨q, st3, hs3, A, rfl, hR, hI3, hT3, hA, hO⟩ := he.ok (by decide) (by decide) (by omega)
  obtain ⟨hP3, hn, _, _⟩ := hR.wp hI2 hI3
  have hqt : q ≠ t := fun h => hn ⟨2, _⟩ (hP2.mem_iff.2 (by rw [h]; exact List.mem_singleton.2 rfl))
  have hP4 := hP3.trans (List.Perm.cons _ hP2)
  have L1 : (allT (· != 0) hs3).length = 2 := by
    rw [allT_W _ rfl, List.length_map]
    exact (hP4.filter _).length_eq.trans rfl
  have L2 : (allT (· == 2) hs3).length = 1 := by
    rw [allT_W _ rfl, List.length_map]
    exact (hP4.filter _).length_eq.trans rfl
  clear he hR hn hP3 hP4 hP2 hx
  have hq1 : ((q : Int) == t) = false := by rw [beq_eq_false_iff_ne]; omega
  have hq2 : ((q : Int) != t) = true := by rw [bne_iff_ne]; omega
  clear hqt
  go_wp2_with fail
  refine (hTids E _ _ _ A s d a _ h st00 st3 1 (by decide) hs3 hI3 hA (by decide) hO).mono ?_
  clear hO hA
  rintro e w7 ⟨so, co, SO, A, rfl, -, hA, hO⟩
  rw [srt_length, L1]
  go_wp2_with fail
  refine (hDead E _ _ _ A s d a _ h st00 st3 1 (by decide) hs3 hI3 hA (by decide) hO).mono ?_
  clear hO hA
  rintro e w8 ⟨so2, co2, SO2, A, rfl, -, hA, hO⟩
  rw [srt_length, L2]
  go_wp2_with fail
  go_ret
  exact ⟨rfl, hO.as _⟩
end Go.Proofs.YtkfkcloefgfkaaaGreat

/- Layer 7: does. -/
namespace Go.Proofs.YtkfkcloefgfkaaaGreat
open Go Go.RowKit Go.Own Go.Dk

/-- All pages are the heap's. -/
def Full (st : SSt) (hs : Hs) : Prop := st.c = [] ∧ hs.length = st.T
theorem InsR.full {st st' : SSt} {root : Nat} {hs hs' : Hs} {row : ByteArray} {tid : Nat} (h : InsR st root hs row tid st' hs') (hf : Full st hs) : Full st' hs' := by
  rcases h with ⟨j, hj, _, rfl, _, h1, h2, _⟩ | ⟨k, st1, rfl, _, ha, h1, h2, _⟩
  · exact ⟨h2.trans hf.1, by rw [List.length_set, h1]; exact hf.2⟩
  · rcases ha.1 with ⟨h3, _⟩ | ⟨_, h3, _, h4⟩
    · rw [hf.1] at h3; cases h3
    · exact ⟨h2.trans h3, by rw [h1, h4, List.length_cons, hf.2]⟩
theorem full_same {st st' : SSt} {hs hs' : Hs} (h1 : st'.T = st.T) (h2 : st'.c = st.c) (h3 : hs'.map (·.1) = hs.map (·.1)) (hf : Full st hs) : Full st' hs' :=
  ⟨h2.trans hf.1, by have := congrArg List.length h3; rw [List.length_map, List.length_map] at this; rw [this, h1]; exact hf.2⟩
def Does7P (E : World) (s d a N h root : Nat) (st0 st : SSt) (hs : Hs) (l : List Rw) (sa : Option Addr) (cap : Nat) (S R : Fr) (e : Ending) (w' : World) : Prop :=
  ∃ (st' : SSt) (hs' : Hs) (l' : List Rw) (so : Option Addr) (co : Nat) (SO A' : Fr), e = .returned (.tuple #[.slice so l'.length co, .bool true]) ∧ Ag hs' l' ∧ HInv st' root hs' ∧ st'.T ≤ st.T + 1 ∧ l'.length ≤ l.length + 1 ∧ (Full st hs → Full st' hs') ∧ Sl 90 3 so l'.length co (rwsV l') SO ∧ Going s d a N st0 st' A' ∧ ((l' = l ∧ so = sa ∧ co = cap ∧ SO = S ∧ Own E w' (heapF h a root ++ (A' ++ (S ++ R)))) ∨ Own E w' (heapF h a root ++ (A' ++ (SO ++ (S ++ R)))))
set_option maxRecDepth 100000 in
set_option maxHeartbeats 16000000 in
theorem does7 (E w : World) (X R A S : Fr) (s d a N h : Nat) (st0 st : SSt) (root : Nat) (hr : root < 16) (hs : Hs) (hI : HInv st root hs) (hT : st.T < 4095) (l : List Rw) (hl : l.length ≤ 90000) (hAg : Ag hs l) (sa : Option Addr) (cap : Nat) (hS : Sl 90 3 sa l.length cap (rwsV l) S) (kind at_ : Int) (row : ByteArray) (hat : at_ < 9223372036854775808) (hA : Going s d a N st0 st A) (hN : N ≤ 8796000000000) (hO : Own E w X) [hp : Pick X (heapF h a root ++ (A ++ S)) R] :
    Calls Tryz.prog 12 #[.pointer (some ⟨h, 0, none⟩), .slice sa l.length cap, .agg #[.int .i64 kind, .int .i64 at_, .string row]] w (Does7P E s d a N h root st0 st hs l sa cap S R) := by
  replace hO : Own E w (heapF h a root ++ (A ++ (S ++ R))) := by have := hO.perm hp.perm; rwa [List.append_assoc, List.append_assoc] at this
  clear hp
  generalize hpost : Does7P E s d a N h root st0 st hs l sa cap S R = POST
  have HPOST := Lib.hid hpost
  clear hpost
  go_enter Tryz.func12, Tryz.ntmps12
  go_wp2_with (first | (refine at_box ?_; go_must (refine own_box (v := ?_) hO ?_ ?_ ?_; rotate_left; (· rfl); (· ((conv => lhs; whnf); try exact rfl)); clear hO; (try clear hF); intro ob _ hO; (try simp only [Value.cells] at hO); ((try simp only [List.nil_append, List.append_nil] at hO); have hF := Own.cells hO; simp only [cellsOf_append, cellsOf_pt] at hF); simp only [Act.put, List.setIfInBounds_toArray, List.set_cons_zero, List.set_cons_succ])))
  refine (pick7 E _ _ _ S sa cap l at_ hS hO).mono ?_
  rintro e w1 ⟨rfl, rfl⟩
  have htb : pickR l at_ < 9223372036854775808 := by
    unfold pickR
    split
    · rename_i hh
      have hm : l[at_.toNat]'(by omega) ∈ l := List.getElem_mem _
      have h0 := hAg.nn _ hm
      have hw := hAg.pm.mem_iff.2 (List.mem_map_of_mem hm)
      have := (W_bd hI hw).2.1
      omega
    · exact hat
  generalize pickR l at_ = tid at htb ⊢
  go_wp2_with fail
  refine (find7 E _ _ _ S sa cap l tid (by omega) hS hO).mono ?_
  rintro e w1 ⟨⟨k, hk, rfl⟩, rfl⟩
  by_cases k1 : kind = 1
  · subst k1
    go_wp2_with fail
    refine (hInsert E _ _ _ A s d a _ h st0 st root hr hs hI row hA hN hO).mono ?_
    clear hO hA hF
    intro e w3 he
    by_cases hrs : 0 < row.size ∧ row.size ≤ 400
    · obtain ⟨t, st2, hs2, A, rfl, hRi, hI2, hT2, hA, hO⟩ := he.ok hrs.1 hrs.2 hT
      obtain ⟨hP2, hn, htl, hth⟩ := hRi.wp hI hI2
      have q1 : ¬ (row.size : Int) < 1 := by omega
      have q2 : ¬ (400 : Int) < row.size := by omega
      have q3 : ¬ (t : Int) < 64 := by omega
      have q4 : ¬ (262144 : Int) ≤ t := by omega
      have HPN := Lib.hid (And.intro hP2 hn)
      obtain ⟨z, hz⟩ : ∃ z : Int, (t : Int) = z := ⟨_, rfl⟩
      rw [hz] at q3 q4 ⊢
      have HZ := Lib.hid hz
      clear hz
      have HT2 := Lib.hid hT2
      have HFU := Lib.hid (fun hf => hRi.full hf : Full st hs → Full st2 hs2)
      have HRS := Lib.hid hrs
      clear he hP2 hn htl hth hrs hRi hT2
      have hF := Own.cells hO; simp only [cellsOf_append, cellsOf_pt] at hF
      go_wp2_with fail
      refine (find7 E _ _ _ S sa cap l z (by omega) hS hO).mono ?_
      rintro e w4 ⟨⟨k2, hk2, rfl⟩, rfl⟩
      have hk3 : k2 = -1 := by
        rcases hk2 with ⟨h, _⟩ | ⟨i, hi, _, h⟩
        · exact h
        · have hw := hAg.mem.2 ⟨_, List.getElem_mem hi, h.trans HZ.out.symm, rfl⟩
          exact absurd hw (HPN.out.2 _)
      subst hk3
      clear hk2
      go_wp2_with fail
      refine (with7 E _ _ _ S sa cap l ⟨z, row, true⟩ (by omega) hS hO).mono ?_
      clear hO hF
      rintro e w5 ⟨so, co, SO, rfl, hSO, hO⟩
      go_wp2_with fail
      rw [← HPOST.out]
      rw [← HZ.out] at hSO ⊢
      have hlen : (wiR ⟨(t : Int), row, true⟩ l).length = l.length + 1 := (wiR_perm _ l).length_eq
      exact ⟨st2, hs2, _, so, co, SO, A, rfl, hAg.ins HPN.out.2 HPN.out.1, hI2, HT2.out, by omega, HFU.out, hSO, hA, .inr (hO.as _)⟩
    · obtain ⟨rfl, A, hA, hO⟩ := he.no (by omega)
      have hq : (row.size : Int) < 1 ∨ (¬ (row.size : Int) < 1 ∧ (400 : Int) < row.size) := by omega
      clear he hrs
      have hF := Own.cells hO; simp only [cellsOf_append, cellsOf_pt] at hF
      rcases hq with q1 | ⟨q1, q2⟩
      all_goals (
        go_wp2_with fail
        rw [← HPOST.out]
        exact ⟨st, hs, l, sa, cap, S, A, rfl, hAg, hI, by omega, by omega, id, hS, hA, .inl ⟨rfl, rfl, rfl, rfl, hO.as _⟩⟩)
  by_cases k2 : kind = 2
  · subst k2
    go_wp2_with fail
    refine (hKill E _ _ _ A s d a _ h st0 st root hr hs hI tid htb hA hN hO).mono ?_
    clear hO hA hF
    intro e w3 he
    rcases hk with ⟨rfl, hno⟩ | ⟨i, hi, rfl, hit⟩
    · obtain ⟨rfl, A, hA, hO⟩ := he.no fun t x ht hx => by
        obtain ⟨y, hy, h1, _⟩ := hAg.mem.1 hx
        exact absurd (h1.trans ht.symm) (hno y hy)
      have HNO := Lib.hid hno
      clear he hno
      have hF := Own.cells hO; simp only [cellsOf_append, cellsOf_pt] at hF
      go_wp2_with fail
      rw [← HPOST.out]
      exact ⟨st, hs, l, sa, cap, S, A, rfl, hAg, hI, by omega, by omega, id, hS, hA, .inl ⟨rfl, rfl, rfl, rfl, hO.as _⟩⟩
    · obtain ⟨y, hy⟩ : ∃ y, l[i]'hi = y := ⟨_, rfl⟩
      rw [hy] at hit
      have hym : y ∈ l := hy ▸ List.getElem_mem hi
      have h0 := hAg.nn y hym
      have hg1 : decide ((i : Int) < 0) = false := decide_eq_false (by omega)
      have hg2 : (i : Int) < l.length := by omega
      have hg3 : (0 : Int) ≤ i := by omega
      obtain ⟨sb, rfl⟩ := sl_some4 hS (by omega)
      obtain ⟨t, ht⟩ : ∃ t : Nat, tid = t := ⟨tid.toNat, by omega⟩
      subst ht
      have hx : (t, (⟨if y.lives then 1 else 2, y.row⟩ : Slot)) ∈ W hs := hAg.mem.2 ⟨y, hym, hit, rfl⟩
      have hcel : celR y = (t, ⟨if y.lives then 1 else 2, y.row⟩) := by unfold celR; rw [hit]; rfl
      have HTB := Lib.hid htb
      clear htb
      by_cases hlv : y.lives = true
      · rw [hlv] at hx hcel
        obtain ⟨st2, hs2, A, rfl, hI2, hT2, hcc, -, hpg, ⟨Z, z1, z2⟩, hA, hO⟩ := he.ok hI hx rfl (by decide)
        obtain ⟨hc1, hc2, hc3⟩ := rw_cells hS hO hi
        rw [hy] at hc1 hc2 hc3
        rw [hlv] at hc3
        have hag2 : Ag hs2 (wiR ⟨(t : Int), y.row, false⟩ (woR l t)) := by
          have := hAg.kill hym (Z := Z) (by rw [hcel]; exact z1) (hs' := hs2) (by rw [hit]; exact z2)
          rwa [hit] at this
        have HFU := Lib.hid (full_same hT2 hcc hpg)
        have HAG := Lib.hid hag2
        have HT2 := Lib.hid hT2
        have hrc : ∀ w', Own E w' S → w'.cell? ⟨sb, i * 3 + 1, none⟩ = some (.string y.row) := fun w' h => hy ▸ (rw_cells hS h hi).2.1
        have HRC := Lib.hid hrc
        clear he z1 z2 hag2 hT2 hcc hpg hx hcel hit hlv hrc hy hym h0
        go_wp2_with fail
        clear hc1 hc2 hc3
        (try (go_wp2_with fail))
        refine region_sch (fun w' => Own E w' (S)) (.look 0 (.look 1 (.look 3 (.look 4 (.look 5 (.look 6 (.look 7 (.look 8 (.look 9 (.look 11 (.look 12 (.act 2 (.act 10 (.look 13 (.look 14 .done))))))))))))))) (by kernel_rfl) (by kernel_rfl) (fun _ _ d _ _ h => by cases d <;> exact h) ?_ ?_
        · exact hO.drew.as _
        replace hO := hO.drew
        generalize World.drew _ = wdr at hO ⊢
        first | (refine sch_look (o := ?_) (v := ?_) ?_ ?_ ?_ ?_; rotate_left 2; (· ((conv => lhs; whnf); try exact rfl)); (· rfl); (· intro w' hO'; have c1 := HRC.out w' hO'; go_simp; (try exact rfl)); simp only [Act.put, List.setIfInBounds_toArray, List.set_cons_zero, List.set_cons_succ]) | (refine sch_pass (o := ?_) ?_ ?_ ?_; rotate_left; (· ((conv => lhs; whnf); try exact rfl)); (· rfl); simp only [Act.put, List.setIfInBounds_toArray, List.set_cons_zero, List.set_cons_succ]) | (refine sch_look (o := ?_) (v := .agg ?_) ?_ ?_ ?_ ?_; rotate_left 2; (· ((conv => lhs; whnf); try exact rfl)); (· rfl); (· intro w' hO'; refine run_opLoadS (b := ?_) (cs := ?_) (e := ?_) (f := ?_) hO' ?_ ?_ ?_ ?_; rotate_left 4; (· exact rfl); (· exact inferInstance); (· simp; done); (· simp; done)); simp only [Act.put, List.setIfInBounds_toArray, List.set_cons_zero, List.set_cons_succ])
        first | (refine sch_look (o := ?_) (v := ?_) ?_ ?_ ?_ ?_; rotate_left 2; (· ((conv => lhs; whnf); try exact rfl)); (· rfl); (· intro w' hO'; have c1 := HRC.out w' hO'; go_simp; (try exact rfl)); simp only [Act.put, List.setIfInBounds_toArray, List.set_cons_zero, List.set_cons_succ]) | (refine sch_pass (o := ?_) ?_ ?_ ?_; rotate_left; (· ((conv => lhs; whnf); try exact rfl)); (· rfl); simp only [Act.put, List.setIfInBounds_toArray, List.set_cons_zero, List.set_cons_succ]) | (refine sch_look (o := ?_) (v := .agg ?_) ?_ ?_ ?_ ?_; rotate_left 2; (· ((conv => lhs; whnf); try exact rfl)); (· rfl); (· intro w' hO'; refine run_opLoadS (b := ?_) (cs := ?_) (e := ?_) (f := ?_) hO' ?_ ?_ ?_ ?_; rotate_left 4; (· exact rfl); (· exact inferInstance); (· simp; done); (· simp; done)); simp only [Act.put, List.setIfInBounds_toArray, List.set_cons_zero, List.set_cons_succ])
        first | (refine sch_look (o := ?_) (v := ?_) ?_ ?_ ?_ ?_; rotate_left 2; (· ((conv => lhs; whnf); try exact rfl)); (· rfl); (· intro w' hO'; have c1 := HRC.out w' hO'; go_simp; (try exact rfl)); simp only [Act.put, List.setIfInBounds_toArray, List.set_cons_zero, List.set_cons_succ]) | (refine sch_pass (o := ?_) ?_ ?_ ?_; rotate_left; (· ((conv => lhs; whnf); try exact rfl)); (· rfl); simp only [Act.put, List.setIfInBounds_toArray, List.set_cons_zero, List.set_cons_succ]) | (refine sch_look (o := ?_) (v := .agg ?_) ?_ ?_ ?_ ?_; rotate_left 2; (· ((conv => lhs; whnf); try exact rfl)); (· rfl); (· intro w' hO'; refine run_opLoadS (b := ?_) (cs := ?_) (e := ?_) (f := ?_) hO' ?_ ?_ ?_ ?_; rotate_left 4; (· exact rfl); (· exact inferInstance); (· simp; done); (· simp; done)); simp only [Act.put, List.setIfInBounds_toArray, List.set_cons_zero, List.set_cons_succ])
        first | (refine sch_look (o := ?_) (v := ?_) ?_ ?_ ?_ ?_; rotate_left 2; (· ((conv => lhs; whnf); try exact rfl)); (· rfl); (· intro w' hO'; have c1 := HRC.out w' hO'; go_simp; (try exact rfl)); simp only [Act.put, List.setIfInBounds_toArray, List.set_cons_zero, List.set_cons_succ]) | (refine sch_pass (o := ?_) ?_ ?_ ?_; rotate_left; (· ((conv => lhs; whnf); try exact rfl)); (· rfl); simp only [Act.put, List.setIfInBounds_toArray, List.set_cons_zero, List.set_cons_succ]) | (refine sch_look (o := ?_) (v := .agg ?_) ?_ ?_ ?_ ?_; rotate_left 2; (· ((conv => lhs; whnf); try exact rfl)); (· rfl); (· intro w' hO'; refine run_opLoadS (b := ?_) (cs := ?_) (e := ?_) (f := ?_) hO' ?_ ?_ ?_ ?_; rotate_left 4; (· exact rfl); (· exact inferInstance); (· simp; done); (· simp; done)); simp only [Act.put, List.setIfInBounds_toArray, List.set_cons_zero, List.set_cons_succ])
        first | (refine sch_look (o := ?_) (v := ?_) ?_ ?_ ?_ ?_; rotate_left 2; (· ((conv => lhs; whnf); try exact rfl)); (· rfl); (· intro w' hO'; have c1 := HRC.out w' hO'; go_simp; (try exact rfl)); simp only [Act.put, List.setIfInBounds_toArray, List.set_cons_zero, List.set_cons_succ]) | (refine sch_pass (o := ?_) ?_ ?_ ?_; rotate_left; (· ((conv => lhs; whnf); try exact rfl)); (· rfl); simp only [Act.put, List.setIfInBounds_toArray, List.set_cons_zero, List.set_cons_succ]) | (refine sch_look (o := ?_) (v := .agg ?_) ?_ ?_ ?_ ?_; rotate_left 2; (· ((conv => lhs; whnf); try exact rfl)); (· rfl); (· intro w' hO'; refine run_opLoadS (b := ?_) (cs := ?_) (e := ?_) (f := ?_) hO' ?_ ?_ ?_ ?_; rotate_left 4; (· exact rfl); (· exact inferInstance); (· simp; done); (· simp; done)); simp only [Act.put, List.setIfInBounds_toArray, List.set_cons_zero, List.set_cons_succ])
        first | (refine sch_look (o := ?_) (v := ?_) ?_ ?_ ?_ ?_; rotate_left 2; (· ((conv => lhs; whnf); try exact rfl)); (· rfl); (· intro w' hO'; have c1 := HRC.out w' hO'; go_simp; (try exact rfl)); simp only [Act.put, List.setIfInBounds_toArray, List.set_cons_zero, List.set_cons_succ]) | (refine sch_pass (o := ?_) ?_ ?_ ?_; rotate_left; (· ((conv => lhs; whnf); try exact rfl)); (· rfl); simp only [Act.put, List.setIfInBounds_toArray, List.set_cons_zero, List.set_cons_succ]) | (refine sch_look (o := ?_) (v := .agg ?_) ?_ ?_ ?_ ?_; rotate_left 2; (· ((conv => lhs; whnf); try exact rfl)); (· rfl); (· intro w' hO'; refine run_opLoadS (b := ?_) (cs := ?_) (e := ?_) (f := ?_) hO' ?_ ?_ ?_ ?_; rotate_left 4; (· exact rfl); (· exact inferInstance); (· simp; done); (· simp; done)); simp only [Act.put, List.setIfInBounds_toArray, List.set_cons_zero, List.set_cons_succ])
        first | (refine sch_look (o := ?_) (v := ?_) ?_ ?_ ?_ ?_; rotate_left 2; (· ((conv => lhs; whnf); try exact rfl)); (· rfl); (· intro w' hO'; have c1 := HRC.out w' hO'; go_simp; (try exact rfl)); simp only [Act.put, List.setIfInBounds_toArray, List.set_cons_zero, List.set_cons_succ]) | (refine sch_pass (o := ?_) ?_ ?_ ?_; rotate_left; (· ((conv => lhs; whnf); try exact rfl)); (· rfl); simp only [Act.put, List.setIfInBounds_toArray, List.set_cons_zero, List.set_cons_succ]) | (refine sch_look (o := ?_) (v := .agg ?_) ?_ ?_ ?_ ?_; rotate_left 2; (· ((conv => lhs; whnf); try exact rfl)); (· rfl); (· intro w' hO'; refine run_opLoadS (b := ?_) (cs := ?_) (e := ?_) (f := ?_) hO' ?_ ?_ ?_ ?_; rotate_left 4; (· exact rfl); (· exact inferInstance); (· simp; done); (· simp; done)); simp only [Act.put, List.setIfInBounds_toArray, List.set_cons_zero, List.set_cons_succ])
        first | (refine sch_look (o := ?_) (v := ?_) ?_ ?_ ?_ ?_; rotate_left 2; (· ((conv => lhs; whnf); try exact rfl)); (· rfl); (· intro w' hO'; have c1 := HRC.out w' hO'; go_simp; (try exact rfl)); simp only [Act.put, List.setIfInBounds_toArray, List.set_cons_zero, List.set_cons_succ]) | (refine sch_pass (o := ?_) ?_ ?_ ?_; rotate_left; (· ((conv => lhs; whnf); try exact rfl)); (· rfl); simp only [Act.put, List.setIfInBounds_toArray, List.set_cons_zero, List.set_cons_succ]) | (refine sch_look (o := ?_) (v := .agg ?_) ?_ ?_ ?_ ?_; rotate_left 2; (· ((conv => lhs; whnf); try exact rfl)); (· rfl); (· intro w' hO'; refine run_opLoadS (b := ?_) (cs := ?_) (e := ?_) (f := ?_) hO' ?_ ?_ ?_ ?_; rotate_left 4; (· exact rfl); (· exact inferInstance); (· simp; done); (· simp; done)); simp only [Act.put, List.setIfInBounds_toArray, List.set_cons_zero, List.set_cons_succ])
        first | (refine sch_look (o := ?_) (v := ?_) ?_ ?_ ?_ ?_; rotate_left 2; (· ((conv => lhs; whnf); try exact rfl)); (· rfl); (· intro w' hO'; have c1 := HRC.out w' hO'; go_simp; (try exact rfl)); simp only [Act.put, List.setIfInBounds_toArray, List.set_cons_zero, List.set_cons_succ]) | (refine sch_pass (o := ?_) ?_ ?_ ?_; rotate_left; (· ((conv => lhs; whnf); try exact rfl)); (· rfl); simp only [Act.put, List.setIfInBounds_toArray, List.set_cons_zero, List.set_cons_succ]) | (refine sch_look (o := ?_) (v := .agg ?_) ?_ ?_ ?_ ?_; rotate_left 2; (· ((conv => lhs; whnf); try exact rfl)); (· rfl); (· intro w' hO'; refine run_opLoadS (b := ?_) (cs := ?_) (e := ?_) (f := ?_) hO' ?_ ?_ ?_ ?_; rotate_left 4; (· exact rfl); (· exact inferInstance); (· simp; done); (· simp; done)); simp only [Act.put, List.setIfInBounds_toArray, List.set_cons_zero, List.set_cons_succ])
        first | (refine sch_look (o := ?_) (v := ?_) ?_ ?_ ?_ ?_; rotate_left 2; (· ((conv => lhs; whnf); try exact rfl)); (· rfl); (· intro w' hO'; have c1 := HRC.out w' hO'; go_simp; (try exact rfl)); simp only [Act.put, List.setIfInBounds_toArray, List.set_cons_zero, List.set_cons_succ]) | (refine sch_pass (o := ?_) ?_ ?_ ?_; rotate_left; (· ((conv => lhs; whnf); try exact rfl)); (· rfl); simp only [Act.put, List.setIfInBounds_toArray, List.set_cons_zero, List.set_cons_succ]) | (refine sch_look (o := ?_) (v := .agg ?_) ?_ ?_ ?_ ?_; rotate_left 2; (· ((conv => lhs; whnf); try exact rfl)); (· rfl); (· intro w' hO'; refine run_opLoadS (b := ?_) (cs := ?_) (e := ?_) (f := ?_) hO' ?_ ?_ ?_ ?_; rotate_left 4; (· exact rfl); (· exact inferInstance); (· simp; done); (· simp; done)); simp only [Act.put, List.setIfInBounds_toArray, List.set_cons_zero, List.set_cons_succ])
        first | (refine sch_look (o := ?_) (v := ?_) ?_ ?_ ?_ ?_; rotate_left 2; (· ((conv => lhs; whnf); try exact rfl)); (· rfl); (· intro w' hO'; have c1 := HRC.out w' hO'; go_simp; (try exact rfl)); simp only [Act.put, List.setIfInBounds_toArray, List.set_cons_zero, List.set_cons_succ]) | (refine sch_pass (o := ?_) ?_ ?_ ?_; rotate_left; (· ((conv => lhs; whnf); try exact rfl)); (· rfl); simp only [Act.put, List.setIfInBounds_toArray, List.set_cons_zero, List.set_cons_succ]) | (refine sch_look (o := ?_) (v := .agg ?_) ?_ ?_ ?_ ?_; rotate_left 2; (· ((conv => lhs; whnf); try exact rfl)); (· rfl); (· intro w' hO'; refine run_opLoadS (b := ?_) (cs := ?_) (e := ?_) (f := ?_) hO' ?_ ?_ ?_ ?_; rotate_left 4; (· exact rfl); (· exact inferInstance); (· simp; done); (· simp; done)); simp only [Act.put, List.setIfInBounds_toArray, List.set_cons_zero, List.set_cons_succ])
        (refine sch_act (o := ?_) ?_ ?_; rotate_left; (· ((conv => lhs; whnf); try exact rfl)))
        go_wp2_with fail
        refine (without7 E _ _ _ S _ cap l t (by omega) hS hO).mono ?_
        clear hO
        rintro e w4 ⟨so, co, SO, rfl, hSO, hO⟩
        go_wp2_with fail
        refine ⟨hO.as _, ?_⟩
        (refine sch_act (o := ?_) ?_ ?_; rotate_left; (· ((conv => lhs; whnf); try exact rfl)))
        go_wp2_with fail
        refine (with7 E _ _ _ SO so co (woR l t) ⟨(t : Int), y.row, false⟩ (by have := woR_le l t; omega) hSO hO).mono ?_
        clear hO
        rintro e w5 ⟨so2, co2, SO2, rfl, hSO2, hO⟩
        go_wp2_with fail
        refine ⟨hO.as _, ?_⟩
        first | (refine sch_look (o := ?_) (v := ?_) ?_ ?_ ?_ ?_; rotate_left 2; (· ((conv => lhs; whnf); try exact rfl)); (· rfl); (· intro w' hO'; have c1 := HRC.out w' hO'; go_simp; (try exact rfl)); simp only [Act.put, List.setIfInBounds_toArray, List.set_cons_zero, List.set_cons_succ]) | (refine sch_pass (o := ?_) ?_ ?_ ?_; rotate_left; (· ((conv => lhs; whnf); try exact rfl)); (· rfl); simp only [Act.put, List.setIfInBounds_toArray, List.set_cons_zero, List.set_cons_succ]) | (refine sch_look (o := ?_) (v := .agg ?_) ?_ ?_ ?_ ?_; rotate_left 2; (· ((conv => lhs; whnf); try exact rfl)); (· rfl); (· intro w' hO'; refine run_opLoadS (b := ?_) (cs := ?_) (e := ?_) (f := ?_) hO' ?_ ?_ ?_ ?_; rotate_left 4; (· exact rfl); (· exact inferInstance); (· simp; done); (· simp; done)); simp only [Act.put, List.setIfInBounds_toArray, List.set_cons_zero, List.set_cons_succ])
        first | (refine sch_look (o := ?_) (v := ?_) ?_ ?_ ?_ ?_; rotate_left 2; (· ((conv => lhs; whnf); try exact rfl)); (· rfl); (· intro w' hO'; have c1 := HRC.out w' hO'; go_simp; (try exact rfl)); simp only [Act.put, List.setIfInBounds_toArray, List.set_cons_zero, List.set_cons_succ]) | (refine sch_pass (o := ?_) ?_ ?_ ?_; rotate_left; (· ((conv => lhs; whnf); try exact rfl)); (· rfl); simp only [Act.put, List.setIfInBounds_toArray, List.set_cons_zero, List.set_cons_succ]) | (refine sch_look (o := ?_) (v := .agg ?_) ?_ ?_ ?_ ?_; rotate_left 2; (· ((conv => lhs; whnf); try exact rfl)); (· rfl); (· intro w' hO'; refine run_opLoadS (b := ?_) (cs := ?_) (e := ?_) (f := ?_) hO' ?_ ?_ ?_ ?_; rotate_left 4; (· exact rfl); (· exact inferInstance); (· simp; done); (· simp; done)); simp only [Act.put, List.setIfInBounds_toArray, List.set_cons_zero, List.set_cons_succ])
        refine sch_done ?_
        go_wp2_with fail
        rw [← HPOST.out]
        have hlen : (wiR ⟨(t : Int), y.row, false⟩ (woR l t)).length = (woR l t).length + 1 := (wiR_perm _ _).length_eq
        have hlen2 := woR_le l t
        exact ⟨st2, hs2, _, so2, co2, SO2, A, rfl, HAG.out, hI2, by have := HT2.out; omega, by omega, HFU.out, hSO2, hA, .inr (hO.as _)⟩
      · rw [if_neg hlv] at hx
        obtain ⟨rfl, A, hA, hO⟩ := he.no fun t' x ht' hx' => by
          obtain rfl : t = t' := by omega
          rw [W_uniq hI hx' hx]
          show (2 : Nat) ≠ 1
          decide
        replace hlv : y.lives = false := by cases h : y.lives <;> simp_all
        obtain ⟨hc1, hc2, hc3⟩ := rw_cells hS hO hi
        rw [hy] at hc1 hc2 hc3
        rw [hlv] at hc3
        clear he hx hcel hit hlv hy hym h0
        go_wp2_with fail
        rw [← HPOST.out]
        exact ⟨st, hs, l, _, cap, S, A, rfl, hAg, hI, by omega, by omega, id, hS, hA, .inl ⟨rfl, rfl, rfl, rfl, hO.as _⟩⟩
  by_cases k3 : kind = 3
  · subst k3
    go_wp2_with fail
    refine (hFree E _ _ _ A s d a _ h st0 st root hr hs hI tid htb hA hN hO).mono ?_
    clear hO hA hF
    intro e w3 he
    rcases hk with ⟨rfl, hno⟩ | ⟨i, hi, rfl, hit⟩
    · obtain ⟨rfl, A, hA, hO⟩ := he.no fun t x ht hx => by
        obtain ⟨y, hy, h1, _⟩ := hAg.mem.1 hx
        exact absurd (h1.trans ht.symm) (hno y hy)
      have HNO := Lib.hid hno
      clear he hno
      have hF := Own.cells hO; simp only [cellsOf_append, cellsOf_pt] at hF
      go_wp2_with fail
      rw [← HPOST.out]
      exact ⟨st, hs, l, sa, cap, S, A, rfl, hAg, hI, by omega, by omega, id, hS, hA, .inl ⟨rfl, rfl, rfl, rfl, hO.as _⟩⟩
    · obtain ⟨y, hy⟩ : ∃ y, l[i]'hi = y := ⟨_, rfl⟩
      rw [hy] at hit
      have hym : y ∈ l := hy ▸ List.getElem_mem hi
      have h0 := hAg.nn y hym
      have hg1 : decide ((i : Int) < 0) = false := decide_eq_false (by omega)
      have hg2 : (i : Int) < l.length := by omega
      have hg3 : (0 : Int) ≤ i := by omega
      obtain ⟨sb, rfl⟩ := sl_some4 hS (by omega)
      obtain ⟨t, ht⟩ : ∃ t : Nat, tid = t := ⟨tid.toNat, by omega⟩
      subst ht
      have hx : (t, (⟨if y.lives then 1 else 2, y.row⟩ : Slot)) ∈ W hs := hAg.mem.2 ⟨y, hym, hit, rfl⟩
      have hcel : celR y = (t, ⟨if y.lives then 1 else 2, y.row⟩) := by unfold celR; rw [hit]; rfl
      have HTB := Lib.hid htb
      clear htb
      by_cases hlv : y.lives = true
      · rw [hlv] at hx
        obtain ⟨rfl, A, hA, hO⟩ := he.no fun t' x ht' hx' => by
          obtain rfl : t = t' := by omega
          rw [W_uniq hI hx' hx]
          show (1 : Nat) ≠ 2
          decide
        obtain ⟨hc1, hc2, hc3⟩ := rw_cells hS hO hi
        rw [hy] at hc1 hc2 hc3
        rw [hlv] at hc3
        clear he hx hcel hit hlv hy hym h0
        go_wp2_with fail
        rw [← HPOST.out]
        exact ⟨st, hs, l, _, cap, S, A, rfl, hAg, hI, by omega, by omega, id, hS, hA, .inl ⟨rfl, rfl, rfl, rfl, hO.as _⟩⟩
      · rw [if_neg hlv] at hx hcel
        obtain ⟨st2, hs2, A, rfl, hI2, hT2, hcc, -, hpg, ⟨Z, z1, z2⟩, hA, hO⟩ := he.ok hI hx rfl (by decide)
        replace hlv : y.lives = false := by cases h : y.lives <;> simp_all
        obtain ⟨hc1, hc2, hc3⟩ := rw_cells hS hO hi
        rw [hy] at hc1 hc2 hc3
        rw [hlv] at hc3
        have hag2 : Ag hs2 (woR l t) := by
          have := hAg.free hym (Z := Z) (by rw [hcel]; exact z1) (hs' := hs2) z2
          rwa [hit] at this
        have HFU := Lib.hid (full_same hT2 hcc hpg)
        have HAG := Lib.hid hag2
        have HT2 := Lib.hid hT2
        clear he z1 z2 hag2 hT2 hcc hpg hx hcel hit hlv hy hym h0
        go_wp2_with fail
        refine (without7 E _ _ _ S _ cap l t (by omega) hS hO).mono ?_
        clear hO hc1 hc2 hc3
        rintro e w4 ⟨so, co, SO, rfl, hSO, hO⟩
        go_wp2_with fail
        rw [← HPOST.out]
        have hlen2 := woR_le l t
        exact ⟨st2, hs2, _, so, co, SO, A, rfl, HAG.out, hI2, by have := HT2.out; omega, by omega, HFU.out, hSO, hA, .inr (hO.as _)⟩
  by_cases k4 : kind = 4
  · subst k4
    go_wp2_with fail
    refine (hGet E _ _ _ A s d a _ h st0 st root hr hs hI tid htb hA hN hO).mono ?_
    clear hO hA hF
    intro e w3 he
    rcases hk with ⟨rfl, hno⟩ | ⟨i, hi, rfl, hit⟩
    · obtain ⟨rfl, A, hA, hO⟩ := he.no fun t x ht hx => by
        obtain ⟨y, hy, h1, _⟩ := hAg.mem.1 hx
        exact hno y hy (h1.trans ht.symm)
      have HNO := Lib.hid hno
      clear he hno
      have hF := Own.cells hO; simp only [cellsOf_append, cellsOf_pt] at hF
      go_wp2_with fail
      rw [← HPOST.out]
      exact ⟨st, hs, l, sa, cap, S, A, rfl, hAg, hI, by omega, by omega, id, hS, hA, .inl ⟨rfl, rfl, rfl, rfl, hO.as _⟩⟩
    · obtain ⟨y, hy⟩ : ∃ y, l[i]'hi = y := ⟨_, rfl⟩
      rw [hy] at hit
      have hym : y ∈ l := hy ▸ List.getElem_mem hi
      have h0 := hAg.nn y hym
      have hg1 : decide ((i : Int) < 0) = false := decide_eq_false (by omega)
      have hg2 : (i : Int) < l.length := by omega
      have hg3 : (0 : Int) ≤ i := by omega
      obtain ⟨sb, rfl⟩ := sl_some4 hS (by omega)
      obtain ⟨t, ht⟩ : ∃ t : Nat, tid = t := ⟨tid.toNat, by omega⟩
      subst ht
      have hx : (t, (⟨if y.lives then 1 else 2, y.row⟩ : Slot)) ∈ W hs := hAg.mem.2 ⟨y, hym, hit, rfl⟩
      have hcel : celR y = (t, ⟨if y.lives then 1 else 2, y.row⟩) := by unfold celR; rw [hit]; rfl
      have HTB := Lib.hid htb
      clear htb
      obtain ⟨rfl, A, hA, hO⟩ := he.ok hI hx
      clear he hx hcel hit hym h0
      cases hlv : y.lives
      all_goals (
        obtain ⟨hc1, hc2, hc3⟩ := rw_cells hS hO hi
        rw [hy] at hc1 hc2 hc3
        rw [hlv] at hc3
        go_wp2_with fail
        rw [← HPOST.out]
        exact ⟨st, hs, l, _, cap, S, A, rfl, hAg, hI, by omega, by omega, id, hS, hA, .inl ⟨rfl, rfl, rfl, rfl, hO.as _⟩⟩)
  have j1 : (kind == 1) = false := beq_eq_false_iff_ne.2 k1
  have j2 : (kind == 2) = false := beq_eq_false_iff_ne.2 k2
  have j3 : (kind == 3) = false := beq_eq_false_iff_ne.2 k3
  have j4 : (kind == 4) = false := beq_eq_false_iff_ne.2 k4
  clear k1 k2 k3 k4
  go_wp2_with fail
  rw [← HPOST.out]
  exact ⟨st, hs, l, sa, cap, S, A, rfl, hAg, hI, by omega, by omega, id, hS, hA, .inl ⟨rfl, rfl, rfl, rfl, hO.as _⟩⟩
end Go.Proofs.YtkfkcloefgfkaaaGreat
