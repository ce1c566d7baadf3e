/- The method: the comparison of held entries. -/
import Derived.Test.YticclennllklpaaDoorK2
import Derived.Shelf.Abstract
import Derived.Lib.Overlaps
set_option linter.all false
/- The method: the comparison of held entries. -/
namespace Go.Proofs.YticclennllklpaaDoor
open Go Go.RowKit Go.Own Go.Dt

def heldV (e : En) (a : Option Addr) (c : Nat) : List Value := [.string (encB e.d), .int .i64 e.d.k, .int .i64 e.d.n, .string e.d.s, .slice a e.d.l.length c, .int .i64 e.t]
theorem encB_list (d : Dt) : (encB d).data.toList = d.enc := rfl
set_option maxRecDepth 100000 in
set_option maxHeartbeats 16000000 in
theorem cmpH (E w : World) (X : Fr) (x y : En) (ax : Option Addr) (cx : Nat) (ay : Option Addr) (cy : Nat) (hO : Own E w X) :
    Calls Tryd.prog 41 #[.agg #[.string (encB x.d), .int .i64 x.d.k, .int .i64 x.d.n, .string x.d.s, .slice ax x.d.l.length cx, .int .i64 x.t], .agg #[.string (encB y.d), .int .i64 y.d.k, .int .i64 y.d.n, .string y.d.s, .slice ay y.d.l.length cy, .int .i64 y.t]] w fun e w' => e = .returned (.int .i64 (cmpE x y)) ∧ Own E w' X := by
  have hz : orI (Lib.compareBytes (encB x.d).data.toList (encB y.d).data.toList) (cmpI x.t y.t) = cmpE x y := rfl
  have HZ := Lib.hid hz
  clear hz
  generalize cmpE x y = z at HZ ⊢
  generalize encB x.d = bx at HZ ⊢
  generalize encB y.d = by_ at HZ ⊢
  go_enter Tryd.func41, Tryd.ntmps41
  go_wp2_with (first | (refine at_box ?_; go_must (refine own_box (v := ?_) hO ?_ ?_ ?_; rotate_left; (· rfl); (· ((conv => lhs; whnf); try exact rfl)); clear hO; (try clear hF); intro ob _ hO; (try simp only [Value.cells] at hO); ((try simp only [List.nil_append, List.append_nil] at hO); have hF := Own.cells hO; simp only [cellsOf_append, cellsOf_pt] at hF); simp only [Act.put, List.setIfInBounds_toArray, List.set_cons_zero, List.set_cons_succ])))
  rename_i oa wa wb KK hKK
  clear hF
  (try (go_wp2_with fail))
  refine region_sch (fun w' => Own E w' (pt oa (.cells #[.string bx, .int .i64 x.d.k, .int .i64 x.d.n, .string x.d.s, .slice ax x.d.l.length cx, .int .i64 x.t] 79 (0, 0)) ++ pt ob (.cells #[.string by_, .int .i64 y.d.k, .int .i64 y.d.n, .string y.d.s, .slice ay y.d.l.length cy, .int .i64 y.t] 79 (0, 0)))) (.look 0 (.look 1 (.look 2 (.look 3 (.look 5 (.look 6 (.look 7 (.look 8 (.look 9 (.look 10 (.act 4 (.act 11 (.act 12 (.act 13 (.look 14 .done))))))))))))))) (by kernel_rfl) (by kernel_rfl) (fun _ _ d _ _ h => by cases d <;> exact h) ?_ ?_
  · exact hO.drew.as _
  replace hO := hO.drew
  generalize World.drew _ = wdr at hO ⊢
  first | (refine sch_look (o := ?_) (v := ?_) ?_ ?_ ?_ ?_; rotate_left 2; (· ((conv => lhs; whnf); try exact rfl)); (· rfl); (· intro w' hO'; have c1 : w'.cell? ⟨oa, 0, none⟩ = some (.string bx) := (by rw [hO'.cell (b := oa)]; rfl); have c2 : w'.cell? ⟨ob, 0, none⟩ = some (.string by_) := (by rw [hO'.cell (b := ob)]; rfl); have c3 : w'.cell? ⟨oa, 5, none⟩ = some (.int .i64 x.t) := (by rw [hO'.cell (b := oa)]; rfl); have c4 : w'.cell? ⟨ob, 5, none⟩ = some (.int .i64 y.t) := (by rw [hO'.cell (b := ob)]; rfl); go_simp; (try exact rfl)); simp only [Act.put, List.setIfInBounds_toArray, List.set_cons_zero, List.set_cons_succ]) | (refine sch_pass (o := ?_) ?_ ?_ ?_; rotate_left; (· ((conv => lhs; whnf); try exact rfl)); (· rfl); simp only [Act.put, List.setIfInBounds_toArray, List.set_cons_zero, List.set_cons_succ]) | (refine sch_look (o := ?_) (v := .agg ?_) ?_ ?_ ?_ ?_; rotate_left 2; (· ((conv => lhs; whnf); try exact rfl)); (· rfl); (· intro w' hO'; refine run_opLoadS (b := ?_) (cs := ?_) (e := ?_) (f := ?_) hO' ?_ ?_ ?_ ?_; rotate_left 4; (· exact rfl); (· exact inferInstance); (· simp; done); (· simp; done)); simp only [Act.put, List.setIfInBounds_toArray, List.set_cons_zero, List.set_cons_succ])
  first | (refine sch_look (o := ?_) (v := ?_) ?_ ?_ ?_ ?_; rotate_left 2; (· ((conv => lhs; whnf); try exact rfl)); (· rfl); (· intro w' hO'; have c1 : w'.cell? ⟨oa, 0, none⟩ = some (.string bx) := (by rw [hO'.cell (b := oa)]; rfl); have c2 : w'.cell? ⟨ob, 0, none⟩ = some (.string by_) := (by rw [hO'.cell (b := ob)]; rfl); have c3 : w'.cell? ⟨oa, 5, none⟩ = some (.int .i64 x.t) := (by rw [hO'.cell (b := oa)]; rfl); have c4 : w'.cell? ⟨ob, 5, none⟩ = some (.int .i64 y.t) := (by rw [hO'.cell (b := ob)]; rfl); go_simp; (try exact rfl)); simp only [Act.put, List.setIfInBounds_toArray, List.set_cons_zero, List.set_cons_succ]) | (refine sch_pass (o := ?_) ?_ ?_ ?_; rotate_left; (· ((conv => lhs; whnf); try exact rfl)); (· rfl); simp only [Act.put, List.setIfInBounds_toArray, List.set_cons_zero, List.set_cons_succ]) | (refine sch_look (o := ?_) (v := .agg ?_) ?_ ?_ ?_ ?_; rotate_left 2; (· ((conv => lhs; whnf); try exact rfl)); (· rfl); (· intro w' hO'; refine run_opLoadS (b := ?_) (cs := ?_) (e := ?_) (f := ?_) hO' ?_ ?_ ?_ ?_; rotate_left 4; (· exact rfl); (· exact inferInstance); (· simp; done); (· simp; done)); simp only [Act.put, List.setIfInBounds_toArray, List.set_cons_zero, List.set_cons_succ])
  first | (refine sch_look (o := ?_) (v := ?_) ?_ ?_ ?_ ?_; rotate_left 2; (· ((conv => lhs; whnf); try exact rfl)); (· rfl); (· intro w' hO'; have c1 : w'.cell? ⟨oa, 0, none⟩ = some (.string bx) := (by rw [hO'.cell (b := oa)]; rfl); have c2 : w'.cell? ⟨ob, 0, none⟩ = some (.string by_) := (by rw [hO'.cell (b := ob)]; rfl); have c3 : w'.cell? ⟨oa, 5, none⟩ = some (.int .i64 x.t) := (by rw [hO'.cell (b := oa)]; rfl); have c4 : w'.cell? ⟨ob, 5, none⟩ = some (.int .i64 y.t) := (by rw [hO'.cell (b := ob)]; rfl); go_simp; (try exact rfl)); simp only [Act.put, List.setIfInBounds_toArray, List.set_cons_zero, List.set_cons_succ]) | (refine sch_pass (o := ?_) ?_ ?_ ?_; rotate_left; (· ((conv => lhs; whnf); try exact rfl)); (· rfl); simp only [Act.put, List.setIfInBounds_toArray, List.set_cons_zero, List.set_cons_succ]) | (refine sch_look (o := ?_) (v := .agg ?_) ?_ ?_ ?_ ?_; rotate_left 2; (· ((conv => lhs; whnf); try exact rfl)); (· rfl); (· intro w' hO'; refine run_opLoadS (b := ?_) (cs := ?_) (e := ?_) (f := ?_) hO' ?_ ?_ ?_ ?_; rotate_left 4; (· exact rfl); (· exact inferInstance); (· simp; done); (· simp; done)); simp only [Act.put, List.setIfInBounds_toArray, List.set_cons_zero, List.set_cons_succ])
  first | (refine sch_look (o := ?_) (v := ?_) ?_ ?_ ?_ ?_; rotate_left 2; (· ((conv => lhs; whnf); try exact rfl)); (· rfl); (· intro w' hO'; have c1 : w'.cell? ⟨oa, 0, none⟩ = some (.string bx) := (by rw [hO'.cell (b := oa)]; rfl); have c2 : w'.cell? ⟨ob, 0, none⟩ = some (.string by_) := (by rw [hO'.cell (b := ob)]; rfl); have c3 : w'.cell? ⟨oa, 5, none⟩ = some (.int .i64 x.t) := (by rw [hO'.cell (b := oa)]; rfl); have c4 : w'.cell? ⟨ob, 5, none⟩ = some (.int .i64 y.t) := (by rw [hO'.cell (b := ob)]; rfl); go_simp; (try exact rfl)); simp only [Act.put, List.setIfInBounds_toArray, List.set_cons_zero, List.set_cons_succ]) | (refine sch_pass (o := ?_) ?_ ?_ ?_; rotate_left; (· ((conv => lhs; whnf); try exact rfl)); (· rfl); simp only [Act.put, List.setIfInBounds_toArray, List.set_cons_zero, List.set_cons_succ]) | (refine sch_look (o := ?_) (v := .agg ?_) ?_ ?_ ?_ ?_; rotate_left 2; (· ((conv => lhs; whnf); try exact rfl)); (· rfl); (· intro w' hO'; refine run_opLoadS (b := ?_) (cs := ?_) (e := ?_) (f := ?_) hO' ?_ ?_ ?_ ?_; rotate_left 4; (· exact rfl); (· exact inferInstance); (· simp; done); (· simp; done)); simp only [Act.put, List.setIfInBounds_toArray, List.set_cons_zero, List.set_cons_succ])
  first | (refine sch_look (o := ?_) (v := ?_) ?_ ?_ ?_ ?_; rotate_left 2; (· ((conv => lhs; whnf); try exact rfl)); (· rfl); (· intro w' hO'; have c1 : w'.cell? ⟨oa, 0, none⟩ = some (.string bx) := (by rw [hO'.cell (b := oa)]; rfl); have c2 : w'.cell? ⟨ob, 0, none⟩ = some (.string by_) := (by rw [hO'.cell (b := ob)]; rfl); have c3 : w'.cell? ⟨oa, 5, none⟩ = some (.int .i64 x.t) := (by rw [hO'.cell (b := oa)]; rfl); have c4 : w'.cell? ⟨ob, 5, none⟩ = some (.int .i64 y.t) := (by rw [hO'.cell (b := ob)]; rfl); go_simp; (try exact rfl)); simp only [Act.put, List.setIfInBounds_toArray, List.set_cons_zero, List.set_cons_succ]) | (refine sch_pass (o := ?_) ?_ ?_ ?_; rotate_left; (· ((conv => lhs; whnf); try exact rfl)); (· rfl); simp only [Act.put, List.setIfInBounds_toArray, List.set_cons_zero, List.set_cons_succ]) | (refine sch_look (o := ?_) (v := .agg ?_) ?_ ?_ ?_ ?_; rotate_left 2; (· ((conv => lhs; whnf); try exact rfl)); (· rfl); (· intro w' hO'; refine run_opLoadS (b := ?_) (cs := ?_) (e := ?_) (f := ?_) hO' ?_ ?_ ?_ ?_; rotate_left 4; (· exact rfl); (· exact inferInstance); (· simp; done); (· simp; done)); simp only [Act.put, List.setIfInBounds_toArray, List.set_cons_zero, List.set_cons_succ])
  first | (refine sch_look (o := ?_) (v := ?_) ?_ ?_ ?_ ?_; rotate_left 2; (· ((conv => lhs; whnf); try exact rfl)); (· rfl); (· intro w' hO'; have c1 : w'.cell? ⟨oa, 0, none⟩ = some (.string bx) := (by rw [hO'.cell (b := oa)]; rfl); have c2 : w'.cell? ⟨ob, 0, none⟩ = some (.string by_) := (by rw [hO'.cell (b := ob)]; rfl); have c3 : w'.cell? ⟨oa, 5, none⟩ = some (.int .i64 x.t) := (by rw [hO'.cell (b := oa)]; rfl); have c4 : w'.cell? ⟨ob, 5, none⟩ = some (.int .i64 y.t) := (by rw [hO'.cell (b := ob)]; rfl); go_simp; (try exact rfl)); simp only [Act.put, List.setIfInBounds_toArray, List.set_cons_zero, List.set_cons_succ]) | (refine sch_pass (o := ?_) ?_ ?_ ?_; rotate_left; (· ((conv => lhs; whnf); try exact rfl)); (· rfl); simp only [Act.put, List.setIfInBounds_toArray, List.set_cons_zero, List.set_cons_succ]) | (refine sch_look (o := ?_) (v := .agg ?_) ?_ ?_ ?_ ?_; rotate_left 2; (· ((conv => lhs; whnf); try exact rfl)); (· rfl); (· intro w' hO'; refine run_opLoadS (b := ?_) (cs := ?_) (e := ?_) (f := ?_) hO' ?_ ?_ ?_ ?_; rotate_left 4; (· exact rfl); (· exact inferInstance); (· simp; done); (· simp; done)); simp only [Act.put, List.setIfInBounds_toArray, List.set_cons_zero, List.set_cons_succ])
  first | (refine sch_look (o := ?_) (v := ?_) ?_ ?_ ?_ ?_; rotate_left 2; (· ((conv => lhs; whnf); try exact rfl)); (· rfl); (· intro w' hO'; have c1 : w'.cell? ⟨oa, 0, none⟩ = some (.string bx) := (by rw [hO'.cell (b := oa)]; rfl); have c2 : w'.cell? ⟨ob, 0, none⟩ = some (.string by_) := (by rw [hO'.cell (b := ob)]; rfl); have c3 : w'.cell? ⟨oa, 5, none⟩ = some (.int .i64 x.t) := (by rw [hO'.cell (b := oa)]; rfl); have c4 : w'.cell? ⟨ob, 5, none⟩ = some (.int .i64 y.t) := (by rw [hO'.cell (b := ob)]; rfl); go_simp; (try exact rfl)); simp only [Act.put, List.setIfInBounds_toArray, List.set_cons_zero, List.set_cons_succ]) | (refine sch_pass (o := ?_) ?_ ?_ ?_; rotate_left; (· ((conv => lhs; whnf); try exact rfl)); (· rfl); simp only [Act.put, List.setIfInBounds_toArray, List.set_cons_zero, List.set_cons_succ]) | (refine sch_look (o := ?_) (v := .agg ?_) ?_ ?_ ?_ ?_; rotate_left 2; (· ((conv => lhs; whnf); try exact rfl)); (· rfl); (· intro w' hO'; refine run_opLoadS (b := ?_) (cs := ?_) (e := ?_) (f := ?_) hO' ?_ ?_ ?_ ?_; rotate_left 4; (· exact rfl); (· exact inferInstance); (· simp; done); (· simp; done)); simp only [Act.put, List.setIfInBounds_toArray, List.set_cons_zero, List.set_cons_succ])
  first | (refine sch_look (o := ?_) (v := ?_) ?_ ?_ ?_ ?_; rotate_left 2; (· ((conv => lhs; whnf); try exact rfl)); (· rfl); (· intro w' hO'; have c1 : w'.cell? ⟨oa, 0, none⟩ = some (.string bx) := (by rw [hO'.cell (b := oa)]; rfl); have c2 : w'.cell? ⟨ob, 0, none⟩ = some (.string by_) := (by rw [hO'.cell (b := ob)]; rfl); have c3 : w'.cell? ⟨oa, 5, none⟩ = some (.int .i64 x.t) := (by rw [hO'.cell (b := oa)]; rfl); have c4 : w'.cell? ⟨ob, 5, none⟩ = some (.int .i64 y.t) := (by rw [hO'.cell (b := ob)]; rfl); go_simp; (try exact rfl)); simp only [Act.put, List.setIfInBounds_toArray, List.set_cons_zero, List.set_cons_succ]) | (refine sch_pass (o := ?_) ?_ ?_ ?_; rotate_left; (· ((conv => lhs; whnf); try exact rfl)); (· rfl); simp only [Act.put, List.setIfInBounds_toArray, List.set_cons_zero, List.set_cons_succ]) | (refine sch_look (o := ?_) (v := .agg ?_) ?_ ?_ ?_ ?_; rotate_left 2; (· ((conv => lhs; whnf); try exact rfl)); (· rfl); (· intro w' hO'; refine run_opLoadS (b := ?_) (cs := ?_) (e := ?_) (f := ?_) hO' ?_ ?_ ?_ ?_; rotate_left 4; (· exact rfl); (· exact inferInstance); (· simp; done); (· simp; done)); simp only [Act.put, List.setIfInBounds_toArray, List.set_cons_zero, List.set_cons_succ])
  first | (refine sch_look (o := ?_) (v := ?_) ?_ ?_ ?_ ?_; rotate_left 2; (· ((conv => lhs; whnf); try exact rfl)); (· rfl); (· intro w' hO'; have c1 : w'.cell? ⟨oa, 0, none⟩ = some (.string bx) := (by rw [hO'.cell (b := oa)]; rfl); have c2 : w'.cell? ⟨ob, 0, none⟩ = some (.string by_) := (by rw [hO'.cell (b := ob)]; rfl); have c3 : w'.cell? ⟨oa, 5, none⟩ = some (.int .i64 x.t) := (by rw [hO'.cell (b := oa)]; rfl); have c4 : w'.cell? ⟨ob, 5, none⟩ = some (.int .i64 y.t) := (by rw [hO'.cell (b := ob)]; rfl); go_simp; (try exact rfl)); simp only [Act.put, List.setIfInBounds_toArray, List.set_cons_zero, List.set_cons_succ]) | (refine sch_pass (o := ?_) ?_ ?_ ?_; rotate_left; (· ((conv => lhs; whnf); try exact rfl)); (· rfl); simp only [Act.put, List.setIfInBounds_toArray, List.set_cons_zero, List.set_cons_succ]) | (refine sch_look (o := ?_) (v := .agg ?_) ?_ ?_ ?_ ?_; rotate_left 2; (· ((conv => lhs; whnf); try exact rfl)); (· rfl); (· intro w' hO'; refine run_opLoadS (b := ?_) (cs := ?_) (e := ?_) (f := ?_) hO' ?_ ?_ ?_ ?_; rotate_left 4; (· exact rfl); (· exact inferInstance); (· simp; done); (· simp; done)); simp only [Act.put, List.setIfInBounds_toArray, List.set_cons_zero, List.set_cons_succ])
  first | (refine sch_look (o := ?_) (v := ?_) ?_ ?_ ?_ ?_; rotate_left 2; (· ((conv => lhs; whnf); try exact rfl)); (· rfl); (· intro w' hO'; have c1 : w'.cell? ⟨oa, 0, none⟩ = some (.string bx) := (by rw [hO'.cell (b := oa)]; rfl); have c2 : w'.cell? ⟨ob, 0, none⟩ = some (.string by_) := (by rw [hO'.cell (b := ob)]; rfl); have c3 : w'.cell? ⟨oa, 5, none⟩ = some (.int .i64 x.t) := (by rw [hO'.cell (b := oa)]; rfl); have c4 : w'.cell? ⟨ob, 5, none⟩ = some (.int .i64 y.t) := (by rw [hO'.cell (b := ob)]; rfl); go_simp; (try exact rfl)); simp only [Act.put, List.setIfInBounds_toArray, List.set_cons_zero, List.set_cons_succ]) | (refine sch_pass (o := ?_) ?_ ?_ ?_; rotate_left; (· ((conv => lhs; whnf); try exact rfl)); (· rfl); simp only [Act.put, List.setIfInBounds_toArray, List.set_cons_zero, List.set_cons_succ]) | (refine sch_look (o := ?_) (v := .agg ?_) ?_ ?_ ?_ ?_; rotate_left 2; (· ((conv => lhs; whnf); try exact rfl)); (· rfl); (· intro w' hO'; refine run_opLoadS (b := ?_) (cs := ?_) (e := ?_) (f := ?_) hO' ?_ ?_ ?_ ?_; rotate_left 4; (· exact rfl); (· exact inferInstance); (· simp; done); (· simp; done)); simp only [Act.put, List.setIfInBounds_toArray, List.set_cons_zero, List.set_cons_succ])
  (refine sch_act (o := ?_) ?_ ?_; rotate_left; (· ((conv => lhs; whnf); try exact rfl)))
  go_wp2_with fail
  refine (strCmp _ _ _).mono ?_
  rintro e w4 ⟨rfl, rfl⟩
  go_wp2_with fail
  refine ⟨hO.as _, ?_⟩
  (refine sch_act (o := ?_) ?_ ?_; rotate_left; (· ((conv => lhs; whnf); try exact rfl)))
  go_wp2_with fail
  refine (cmpInt _ _ _).mono ?_
  rintro e w4 ⟨rfl, rfl⟩
  go_wp2_with fail
  refine ⟨hO.as _, ?_⟩
  (refine sch_act (o := ?_) ?_ ?_; rotate_left; (· ((conv => lhs; whnf); try exact rfl)))
  go_wp2_with (first | (refine at_bs ?_; go_must (refine own_buildN (cells := ?_) sltI9 hO ?_ ?_ ?_ ?_ ?_ ?_; rotate_left; (· rfl); (· decide); (· decide); (· rfl); (· simp [Instr.fill, Act.eval, Value.cells, Array.replicate_succ]; exact rfl); clear hO; (try clear hF); intro b2 _ hO; ((try simp only [List.nil_append, List.append_nil] at hO); have hF := Own.cells hO; simp only [cellsOf_append, cellsOf_pt] at hF); simp only [Act.put, List.setIfInBounds_toArray, List.set_cons_zero, List.set_cons_succ])))
  refine ⟨hO.as _, ?_⟩
  (refine sch_act (o := ?_) ?_ ?_; rotate_left; (· ((conv => lhs; whnf); try exact rfl)))
  go_wp2_with fail
  refine (cmpOr E _ _ _ b2 (Lib.compareBytes bx.data.toList by_.data.toList) (cmpI x.t y.t) hO).mono ?_
  rintro e w5 ⟨rfl, rfl⟩
  rw [HZ.out]
  go_wp2_with fail
  refine ⟨hO.as _, ?_⟩
  first | (refine sch_look (o := ?_) (v := ?_) ?_ ?_ ?_ ?_; rotate_left 2; (· ((conv => lhs; whnf); try exact rfl)); (· rfl); (· intro w' hO'; have c1 : w'.cell? ⟨oa, 0, none⟩ = some (.string bx) := (by rw [hO'.cell (b := oa)]; rfl); have c2 : w'.cell? ⟨ob, 0, none⟩ = some (.string by_) := (by rw [hO'.cell (b := ob)]; rfl); have c3 : w'.cell? ⟨oa, 5, none⟩ = some (.int .i64 x.t) := (by rw [hO'.cell (b := oa)]; rfl); have c4 : w'.cell? ⟨ob, 5, none⟩ = some (.int .i64 y.t) := (by rw [hO'.cell (b := ob)]; rfl); go_simp; (try exact rfl)); simp only [Act.put, List.setIfInBounds_toArray, List.set_cons_zero, List.set_cons_succ]) | (refine sch_pass (o := ?_) ?_ ?_ ?_; rotate_left; (· ((conv => lhs; whnf); try exact rfl)); (· rfl); simp only [Act.put, List.setIfInBounds_toArray, List.set_cons_zero, List.set_cons_succ]) | (refine sch_look (o := ?_) (v := .agg ?_) ?_ ?_ ?_ ?_; rotate_left 2; (· ((conv => lhs; whnf); try exact rfl)); (· rfl); (· intro w' hO'; refine run_opLoadS (b := ?_) (cs := ?_) (e := ?_) (f := ?_) hO' ?_ ?_ ?_ ?_; rotate_left 4; (· exact rfl); (· exact inferInstance); (· simp; done); (· simp; done)); simp only [Act.put, List.setIfInBounds_toArray, List.set_cons_zero, List.set_cons_succ])
  refine sch_done ?_
  go_wp2_with fail
  go_ret
  exact ⟨rfl, hO.as _⟩
end Go.Proofs.YticclennllklpaaDoor

/- The method: the place of an entry. -/
namespace Go.Own
theorem rows_at {α : Type} (f : α → List Value) (k : Nat) (hk : ∀ x, (f x).length = k) : ∀ (l : List α) (j : Nat) (hj : j < l.length) (i : Nat), i < k → (l.flatMap f)[j * k + i]? = (f (l[j]'hj))[i]?
  | x :: l, 0, _, i, hi => by
    rw [List.flatMap_cons, Nat.zero_mul, Nat.zero_add, List.getElem?_append_left (by rw [hk]; exact hi)]
    rfl
  | x :: l, j + 1, hj, i, hi => by
    have e : (j + 1) * k + i = (f x).length + (j * k + i) := by rw [hk, Nat.succ_mul]; omega
    rw [List.flatMap_cons, e, List.getElem?_append_right (Nat.le_add_right _ _), Nat.add_sub_cancel_left]
    exact rows_at f k hk l j (Nat.lt_of_succ_lt_succ hj) i hi
theorem rows_len {α : Type} (f : α → List Value) (k : Nat) (hk : ∀ x, (f x).length = k) (l : List α) : (l.flatMap f).length = l.length * k := by
  induction l with
  | nil => exact (Nat.zero_mul k).symm
  | cons x l ih => rw [List.flatMap_cons, List.length_append, hk, ih, List.length_cons, Nat.succ_mul, Nat.add_comm]
theorem row_cells {α : Type} {E w : World} {X R S : Fr} {e sb n cap k : Nat} {f : α → List Value} (hk : ∀ x, (f x).length = k) {l : List α} (hS : Sl e k (some ⟨sb, 0, none⟩) n cap (l.flatMap f) S) (hO : Own E w X) [hp : Pick X S R] {j : Nat} (hj : j < l.length) :
    ∀ i v, (f (l[j]'hj))[i]? = some v → w.cell? ((⟨sb, j * k, none⟩ : Addr).add i) = some v := by
  intro i v hi
  have hil : i < k := by have := (List.getElem?_eq_some_iff.1 hi).1; rwa [hk] at this
  have hlt : j * k + i < (l.flatMap f).length := by
    rw [rows_len f k hk]
    have : (j + 1) * k ≤ l.length * k := Nat.mul_le_mul_right k hj
    rw [Nat.succ_mul] at this
    omega
  have := hS.cell hO ⟨sb, 0, none⟩ rfl (j * k + i) hlt
  rw [add_lit, Nat.zero_add] at this
  rw [add_lit, this, ← List.getElem?_eq_getElem hlt, rows_at f k hk l j hj i hil, hi]
theorem sl_some9 {e sz : Nat} {a : Option Addr} {n cap : Nat} {xs : List Value} {A : Fr} (h : Sl e sz a n cap xs A) (hn : 0 < n) : ∃ b, a = some ⟨b, 0, none⟩ := by
  rcases h.2.2.2 with ⟨_, hc, _⟩ | ⟨b, _, hb, _, _⟩
  · have := h.2.1; omega
  · exact ⟨b, hb⟩
end Go.Own
namespace Go.Proofs.YticclennllklpaaDoor
open Go Go.RowKit Go.Own Go.Dt

/-- An entry that is held, and where its key's list lies. -/
structure Hl where
  e : En
  a : Option Addr
  c : Nat
def Hl.v (h : Hl) : List Value := heldV h.e h.a h.c
theorem Hl.len (h : Hl) : h.v.length = 6 := rfl
def esOf (hs : List Hl) : List En := hs.map (·.e)
theorem esOf_get (hs : List Hl) (m : Nat) (h : m < (esOf hs).length) (h2 : m < hs.length) : (esOf hs)[m]'h = (hs[m]'h2).e := List.getElem_map _
theorem esOf_len (hs : List Hl) : (esOf hs).length = hs.length := List.length_map _
def BsP (E : World) (hs : List Hl) (y : En) (X : Fr) (e : Ending) (w' : World) : Prop :=
  ∃ k : Nat, At (esOf hs) y k ∧ e = .returned (.tuple #[.int .i64 k, .bool (thereE (esOf hs) y k)]) ∧ Own E w' X
set_option maxRecDepth 100000 in
set_option maxHeartbeats 16000000 in
theorem bSearch (E w : World) (X R S : Fr) (sa : Option Addr) (cap : Nat) (hs : List Hl) (hl : hs.length ≤ 2000000000000) (hE : (esOf hs).Pairwise elt) (hS : Sl 79 6 sa hs.length cap (hs.flatMap Hl.v) S) (y : En) (ay : Option Addr) (cy : Nat) (hO : Own E w X) [hp : Pick X S R] :
    Calls Tryd.prog 40 #[.slice sa hs.length cap, .agg #[.string (encB y.d), .int .i64 y.d.k, .int .i64 y.d.n, .string y.d.s, .slice ay y.d.l.length cy, .int .i64 y.t], .func (.func 41) #[] #[]] w (BsP E hs y (S ++ R)) := by
  replace hO := hO.perm hp.perm
  clear hp
  generalize hpost : BsP E hs y (S ++ R) = POST
  have HPOST := Lib.hid hpost
  clear hpost
  have eg : ∀ args w, (callFunc 41 args).run Tryd.prog w = .ok (.enter 41 args) w := enters_of Tryd.func41 (by kernel_rfl) rfl
  have HE := Lib.hid hE
  clear hE
  go_enter Tryd.func40, Tryd.ntmps40
  go_wp2_with (first | (refine at_box ?_; go_must (refine own_box (v := ?_) hO ?_ ?_ ?_; rotate_left; (· rfl); (· ((conv => lhs; whnf); try exact rfl)); clear hO; (try clear hF); intro ob _ hO; (try simp only [Value.cells] at hO); ((try simp only [List.nil_append, List.append_nil] at hO); have hF := Own.cells hO; simp only [cellsOf_append, cellsOf_pt] at hF); simp only [Act.put, List.setIfInBounds_toArray, List.set_cons_zero, List.set_cons_succ])))
  replace hO := hO.as (pt ob (.cells #[.string (encB y.d), .int .i64 y.d.k, .int .i64 y.d.n, .string y.d.s, .slice ay y.d.l.length cy, .int .i64 y.t] 79 (0, 0)) ++ (S ++ R))
  have hO1 := hO
  clear hO hF
  go_loopw [9, 10] (fun ti tj wr => ∃ i j : Nat, ti = .int .i64 i ∧ tj = .int .i64 j ∧ i ≤ j ∧ j ≤ hs.length ∧ (∀ k (hk : k < (esOf hs).length), k < i → elt (esOf hs)[k] y) ∧ (∀ k (hk : k < (esOf hs).length), j ≤ k → ¬ elt (esOf hs)[k] y) ∧ Own E wr (pt ob (.cells #[.string (encB y.d), .int .i64 y.d.k, .int .i64 y.d.n, .string y.d.s, .slice ay y.d.l.length cy, .int .i64 y.t] 79 (0, 0)) ++ (S ++ R))) (fun ti tj _ => (intOf tj - intOf ti).toNat)
  case atStart => exact ⟨0, hs.length, rfl, rfl, Nat.zero_le _, Nat.le_refl _, fun k _ h => absurd h (Nat.not_lt_zero k), fun k hk h => by unfold esOf at hk; rw [List.length_map] at hk; omega, hO1⟩
  case round =>
    clear hO1
    obtain ⟨i, j, rfl, rfl, hij, hj, hlo, hhi, hO⟩ := hrel
    have HLO := Lib.hid hlo
    have HHI := Lib.hid hhi
    clear hlo hhi
    by_cases hlt : i < j
    · have h1 : (i : Int) < j := by omega
      go_wp2_with fail
      obtain ⟨m, hm⟩ : ∃ m : Nat, ((i : Int) + j) / 2 = m := ⟨((i : Int) + j).toNat / 2, by omega⟩
      have hm1 : i ≤ m := by omega
      have hm2 : m < j := by omega
      have hm3 : (m : Int) < hs.length := by omega
      have hm4 : (0 : Int) ≤ m := by omega
      have hmh : m < hs.length := by omega
      have hme : m < (esOf hs).length := by unfold esOf; rw [List.length_map]; exact hmh
      rw [hm]
      obtain ⟨sb, rfl⟩ := sl_some9 hS (by omega)
      obtain ⟨x, hx⟩ : ∃ x, hs[m]'hmh = x := ⟨_, rfl⟩
      have hsc : ∀ w', Own E w' S → ∀ i v, x.v[i]? = some v → w'.cell? ((⟨sb, m * 6, none⟩ : Addr).add i) = some v := fun w' h => hx ▸ row_cells Hl.len hS h hmh
      have hxe : ∀ h : m < (esOf hs).length, (esOf hs)[m]'h = x.e := fun h => by rw [esOf_get hs m h hmh, hx]
      have HSC := Lib.hid hsc
      have HXE := Lib.hid hxe
      have HM := Lib.hid (And.intro hm (And.intro hm1 (And.intro hm2 (And.intro hmh (And.intro hij hj)))))
      have HME := Lib.hid hme
      clear hsc hxe hx hm hm1 hm2 hmh hme hij hlt hj
      have hcs : (cmpE x.e y < 0 ∧ elt x.e y) ∨ (¬ cmpE x.e y < 0 ∧ ¬ elt x.e y) := by
        by_cases h : elt x.e y
        · exact .inl ⟨cmpE_lt.2 h, h⟩
        · exact .inr ⟨fun h2 => h (cmpE_lt.1 h2), h⟩
      generalize hz : cmpE x.e y = z at hcs
      have HZ := Lib.hid hz
      clear hz
      rcases hcs with ⟨hq, he⟩ | ⟨hq, he⟩
      · have HEL := Lib.hid he
        clear he
        (try (go_wp2_with fail))
        refine region_sch (fun w' => Own E w' (pt ob (.cells #[.string (encB y.d), .int .i64 y.d.k, .int .i64 y.d.n, .string y.d.s, .slice ay y.d.l.length cy, .int .i64 y.t] 79 (0, 0)) ++ S)) (.look 0 (.look 1 (.look 2 (.look 3 (.look 4 (.look 5 (.act 6 (.look 7 .done)))))))) (by kernel_rfl) (by kernel_rfl) (fun _ _ d _ _ h => by cases d <;> exact h) ?_ ?_
        · exact hO.drew.as _
        replace hO := hO.drew
        generalize World.drew _ = wdr at hO ⊢
        first | (refine sch_look (o := ?_) (v := ?_) ?_ ?_ ?_ ?_; rotate_left 2; (· ((conv => lhs; whnf); try exact rfl)); (· rfl); (· intro w' hO'; (have hF' := Own.cells hO'; simp only [cellsOf_append, cellsOf_pt] at hF'); go_simp; (try exact rfl)); simp only [Act.put, List.setIfInBounds_toArray, List.set_cons_zero, List.set_cons_succ]) | (refine sch_pass (o := ?_) ?_ ?_ ?_; rotate_left; (· ((conv => lhs; whnf); try exact rfl)); (· rfl); simp only [Act.put, List.setIfInBounds_toArray, List.set_cons_zero, List.set_cons_succ]) | (refine sch_look (o := ?_) (v := .agg ?_) ?_ ?_ ?_ ?_; rotate_left 2; (· ((conv => lhs; whnf); try exact rfl)); (· rfl); (· intro w' hO'; refine run_opLoadS (b := ?_) (cs := ?_) (e := ?_) (f := ?_) hO' ?_ ?_ ?_ ?_; rotate_left 4; (· exact rfl); (· exact inferInstance); (· simp; done); (· simp; done)); simp only [Act.put, List.setIfInBounds_toArray, List.set_cons_zero, List.set_cons_succ])
        first | (refine sch_look (o := ?_) (v := ?_) ?_ ?_ ?_ ?_; rotate_left 2; (· ((conv => lhs; whnf); try exact rfl)); (· rfl); (· intro w' hO'; (have hF' := Own.cells hO'; simp only [cellsOf_append, cellsOf_pt] at hF'); go_simp; (try exact rfl)); simp only [Act.put, List.setIfInBounds_toArray, List.set_cons_zero, List.set_cons_succ]) | (refine sch_pass (o := ?_) ?_ ?_ ?_; rotate_left; (· ((conv => lhs; whnf); try exact rfl)); (· rfl); simp only [Act.put, List.setIfInBounds_toArray, List.set_cons_zero, List.set_cons_succ]) | (refine sch_look (o := ?_) (v := .agg ?_) ?_ ?_ ?_ ?_; rotate_left 2; (· ((conv => lhs; whnf); try exact rfl)); (· rfl); (· intro w' hO'; refine run_opLoadS (b := ?_) (cs := ?_) (e := ?_) (f := ?_) hO' ?_ ?_ ?_ ?_; rotate_left 4; (· exact rfl); (· exact inferInstance); (· simp; done); (· simp; done)); simp only [Act.put, List.setIfInBounds_toArray, List.set_cons_zero, List.set_cons_succ])
        first | (refine sch_look (o := ?_) (v := ?_) ?_ ?_ ?_ ?_; rotate_left 2; (· ((conv => lhs; whnf); try exact rfl)); (· rfl); (· intro w' hO'; (have hF' := Own.cells hO'; simp only [cellsOf_append, cellsOf_pt] at hF'); go_simp; (try exact rfl)); simp only [Act.put, List.setIfInBounds_toArray, List.set_cons_zero, List.set_cons_succ]) | (refine sch_pass (o := ?_) ?_ ?_ ?_; rotate_left; (· ((conv => lhs; whnf); try exact rfl)); (· rfl); simp only [Act.put, List.setIfInBounds_toArray, List.set_cons_zero, List.set_cons_succ]) | (refine sch_look (o := ?_) (v := .agg ?_) ?_ ?_ ?_ ?_; rotate_left 2; (· ((conv => lhs; whnf); try exact rfl)); (· rfl); (· intro w' hO'; refine run_opLoadS (b := ?_) (cs := ?_) (e := ?_) (f := ?_) hO' ?_ ?_ ?_ ?_; rotate_left 4; (· exact rfl); (· exact inferInstance); (· simp; done); (· simp; done)); simp only [Act.put, List.setIfInBounds_toArray, List.set_cons_zero, List.set_cons_succ])
        first | (refine sch_look (o := ?_) (v := ?_) ?_ ?_ ?_ ?_; rotate_left 2; (· ((conv => lhs; whnf); try exact rfl)); (· rfl); (· intro w' hO'; (have hF' := Own.cells hO'; simp only [cellsOf_append, cellsOf_pt] at hF'); go_simp; (try exact rfl)); simp only [Act.put, List.setIfInBounds_toArray, List.set_cons_zero, List.set_cons_succ]) | (refine sch_pass (o := ?_) ?_ ?_ ?_; rotate_left; (· ((conv => lhs; whnf); try exact rfl)); (· rfl); simp only [Act.put, List.setIfInBounds_toArray, List.set_cons_zero, List.set_cons_succ]) | (refine sch_look (o := ?_) (v := .agg ?_) ?_ ?_ ?_ ?_; rotate_left 2; (· ((conv => lhs; whnf); try exact rfl)); (· rfl); (· intro w' hO'; refine run_opLoadS (b := ?_) (cs := ?_) (e := ?_) (f := ?_) hO' ?_ ?_ ?_ ?_; rotate_left 4; (· exact rfl); (· exact inferInstance); (· simp; done); (· simp; done)); simp only [Act.put, List.setIfInBounds_toArray, List.set_cons_zero, List.set_cons_succ])
        (refine sch_look (o := ?_) (v := .agg #[.string (encB x.e.d), .int .i64 x.e.d.k, .int .i64 x.e.d.n, .string x.e.d.s, .slice x.a x.e.d.l.length x.c, .int .i64 x.e.t]) ?_ ?_ ?_ ?_; rotate_left; (· ((conv => lhs; whnf); try exact rfl)); (· rfl); (· intro w' hO'; exact run_opLoadC (ad := ⟨sb, m * 6, none⟩) (cs := x.v) (HSC.out w' (hO'.as S)) rfl (by simp) (by simp [Hl.len])); simp only [Act.put, List.setIfInBounds_toArray, List.set_cons_zero, List.set_cons_succ])
        (refine sch_look (o := ?_) (v := .agg #[.string (encB y.d), .int .i64 y.d.k, .int .i64 y.d.n, .string y.d.s, .slice ay y.d.l.length cy, .int .i64 y.t]) ?_ ?_ ?_ ?_; rotate_left; (· ((conv => lhs; whnf); try exact rfl)); (· rfl); (· intro w' hO'; exact run_opLoadS (b := ob) (cs := #[.string (encB y.d), .int .i64 y.d.k, .int .i64 y.d.n, .string y.d.s, .slice ay y.d.l.length cy, .int .i64 y.t]) (e := 79) (f := _) hO' rfl inferInstance (by simp) (by simp)); simp only [Act.put, List.setIfInBounds_toArray, List.set_cons_zero, List.set_cons_succ])
        (refine sch_act (o := ?_) ?_ ?_; rotate_left; (· ((conv => lhs; whnf); try exact rfl)))
        go_wp2_with (go_at_fn 41; refine (cmpH E _ _ x.e y x.a x.c ay cy hO).mono ?_; clear hO; rintro e w5 ⟨rfl, hO⟩; rw [HZ.out])
        refine ⟨hO.as _, ?_⟩
        first | (refine sch_look (o := ?_) (v := ?_) ?_ ?_ ?_ ?_; rotate_left 2; (· ((conv => lhs; whnf); try exact rfl)); (· rfl); (· intro w' hO'; (have hF' := Own.cells hO'; simp only [cellsOf_append, cellsOf_pt] at hF'); go_simp; (try exact rfl)); simp only [Act.put, List.setIfInBounds_toArray, List.set_cons_zero, List.set_cons_succ]) | (refine sch_pass (o := ?_) ?_ ?_ ?_; rotate_left; (· ((conv => lhs; whnf); try exact rfl)); (· rfl); simp only [Act.put, List.setIfInBounds_toArray, List.set_cons_zero, List.set_cons_succ]) | (refine sch_look (o := ?_) (v := .agg ?_) ?_ ?_ ?_ ?_; rotate_left 2; (· ((conv => lhs; whnf); try exact rfl)); (· rfl); (· intro w' hO'; refine run_opLoadS (b := ?_) (cs := ?_) (e := ?_) (f := ?_) hO' ?_ ?_ ?_ ?_; rotate_left 4; (· exact rfl); (· exact inferInstance); (· simp; done); (· simp; done)); simp only [Act.put, List.setIfInBounds_toArray, List.set_cons_zero, List.set_cons_succ])
        refine sch_done ?_
        go_wp2_with fail
        obtain ⟨hm, hm1, hm2, hmh, hij, hj⟩ := HM.out
        go_roundw
        case rel =>
          refine ⟨m + 1, j, by go_num, rfl, by omega, by omega, fun k hk h => ?_, HHI.out, hO⟩
          by_cases hkm : k = m
          · subst hkm; rw [HXE.out _]; exact HEL.out
          · have h2 := List.pairwise_iff_getElem.1 HE.out k m hk HME.out (by omega)
            rw [HXE.out _] at h2
            exact elt_trans h2 HEL.out
        case measure => simp [intOf]; omega
      · have HEL := Lib.hid he
        clear he
        (try (go_wp2_with fail))
        refine region_sch (fun w' => Own E w' (pt ob (.cells #[.string (encB y.d), .int .i64 y.d.k, .int .i64 y.d.n, .string y.d.s, .slice ay y.d.l.length cy, .int .i64 y.t] 79 (0, 0)) ++ S)) (.look 0 (.look 1 (.look 2 (.look 3 (.look 4 (.look 5 (.act 6 (.look 7 .done)))))))) (by kernel_rfl) (by kernel_rfl) (fun _ _ d _ _ h => by cases d <;> exact h) ?_ ?_
        · exact hO.drew.as _
        replace hO := hO.drew
        generalize World.drew _ = wdr at hO ⊢
        first | (refine sch_look (o := ?_) (v := ?_) ?_ ?_ ?_ ?_; rotate_left 2; (· ((conv => lhs; whnf); try exact rfl)); (· rfl); (· intro w' hO'; (have hF' := Own.cells hO'; simp only [cellsOf_append, cellsOf_pt] at hF'); go_simp; (try exact rfl)); simp only [Act.put, List.setIfInBounds_toArray, List.set_cons_zero, List.set_cons_succ]) | (refine sch_pass (o := ?_) ?_ ?_ ?_; rotate_left; (· ((conv => lhs; whnf); try exact rfl)); (· rfl); simp only [Act.put, List.setIfInBounds_toArray, List.set_cons_zero, List.set_cons_succ]) | (refine sch_look (o := ?_) (v := .agg ?_) ?_ ?_ ?_ ?_; rotate_left 2; (· ((conv => lhs; whnf); try exact rfl)); (· rfl); (· intro w' hO'; refine run_opLoadS (b := ?_) (cs := ?_) (e := ?_) (f := ?_) hO' ?_ ?_ ?_ ?_; rotate_left 4; (· exact rfl); (· exact inferInstance); (· simp; done); (· simp; done)); simp only [Act.put, List.setIfInBounds_toArray, List.set_cons_zero, List.set_cons_succ])
        first | (refine sch_look (o := ?_) (v := ?_) ?_ ?_ ?_ ?_; rotate_left 2; (· ((conv => lhs; whnf); try exact rfl)); (· rfl); (· intro w' hO'; (have hF' := Own.cells hO'; simp only [cellsOf_append, cellsOf_pt] at hF'); go_simp; (try exact rfl)); simp only [Act.put, List.setIfInBounds_toArray, List.set_cons_zero, List.set_cons_succ]) | (refine sch_pass (o := ?_) ?_ ?_ ?_; rotate_left; (· ((conv => lhs; whnf); try exact rfl)); (· rfl); simp only [Act.put, List.setIfInBounds_toArray, List.set_cons_zero, List.set_cons_succ]) | (refine sch_look (o := ?_) (v := .agg ?_) ?_ ?_ ?_ ?_; rotate_left 2; (· ((conv => lhs; whnf); try exact rfl)); (· rfl); (· intro w' hO'; refine run_opLoadS (b := ?_) (cs := ?_) (e := ?_) (f := ?_) hO' ?_ ?_ ?_ ?_; rotate_left 4; (· exact rfl); (· exact inferInstance); (· simp; done); (· simp; done)); simp only [Act.put, List.setIfInBounds_toArray, List.set_cons_zero, List.set_cons_succ])
        first | (refine sch_look (o := ?_) (v := ?_) ?_ ?_ ?_ ?_; rotate_left 2; (· ((conv => lhs; whnf); try exact rfl)); (· rfl); (· intro w' hO'; (have hF' := Own.cells hO'; simp only [cellsOf_append, cellsOf_pt] at hF'); go_simp; (try exact rfl)); simp only [Act.put, List.setIfInBounds_toArray, List.set_cons_zero, List.set_cons_succ]) | (refine sch_pass (o := ?_) ?_ ?_ ?_; rotate_left; (· ((conv => lhs; whnf); try exact rfl)); (· rfl); simp only [Act.put, List.setIfInBounds_toArray, List.set_cons_zero, List.set_cons_succ]) | (refine sch_look (o := ?_) (v := .agg ?_) ?_ ?_ ?_ ?_; rotate_left 2; (· ((conv => lhs; whnf); try exact rfl)); (· rfl); (· intro w' hO'; refine run_opLoadS (b := ?_) (cs := ?_) (e := ?_) (f := ?_) hO' ?_ ?_ ?_ ?_; rotate_left 4; (· exact rfl); (· exact inferInstance); (· simp; done); (· simp; done)); simp only [Act.put, List.setIfInBounds_toArray, List.set_cons_zero, List.set_cons_succ])
        first | (refine sch_look (o := ?_) (v := ?_) ?_ ?_ ?_ ?_; rotate_left 2; (· ((conv => lhs; whnf); try exact rfl)); (· rfl); (· intro w' hO'; (have hF' := Own.cells hO'; simp only [cellsOf_append, cellsOf_pt] at hF'); go_simp; (try exact rfl)); simp only [Act.put, List.setIfInBounds_toArray, List.set_cons_zero, List.set_cons_succ]) | (refine sch_pass (o := ?_) ?_ ?_ ?_; rotate_left; (· ((conv => lhs; whnf); try exact rfl)); (· rfl); simp only [Act.put, List.setIfInBounds_toArray, List.set_cons_zero, List.set_cons_succ]) | (refine sch_look (o := ?_) (v := .agg ?_) ?_ ?_ ?_ ?_; rotate_left 2; (· ((conv => lhs; whnf); try exact rfl)); (· rfl); (· intro w' hO'; refine run_opLoadS (b := ?_) (cs := ?_) (e := ?_) (f := ?_) hO' ?_ ?_ ?_ ?_; rotate_left 4; (· exact rfl); (· exact inferInstance); (· simp; done); (· simp; done)); simp only [Act.put, List.setIfInBounds_toArray, List.set_cons_zero, List.set_cons_succ])
        (refine sch_look (o := ?_) (v := .agg #[.string (encB x.e.d), .int .i64 x.e.d.k, .int .i64 x.e.d.n, .string x.e.d.s, .slice x.a x.e.d.l.length x.c, .int .i64 x.e.t]) ?_ ?_ ?_ ?_; rotate_left; (· ((conv => lhs; whnf); try exact rfl)); (· rfl); (· intro w' hO'; exact run_opLoadC (ad := ⟨sb, m * 6, none⟩) (cs := x.v) (HSC.out w' (hO'.as S)) rfl (by simp) (by simp [Hl.len])); simp only [Act.put, List.setIfInBounds_toArray, List.set_cons_zero, List.set_cons_succ])
        (refine sch_look (o := ?_) (v := .agg #[.string (encB y.d), .int .i64 y.d.k, .int .i64 y.d.n, .string y.d.s, .slice ay y.d.l.length cy, .int .i64 y.t]) ?_ ?_ ?_ ?_; rotate_left; (· ((conv => lhs; whnf); try exact rfl)); (· rfl); (· intro w' hO'; exact run_opLoadS (b := ob) (cs := #[.string (encB y.d), .int .i64 y.d.k, .int .i64 y.d.n, .string y.d.s, .slice ay y.d.l.length cy, .int .i64 y.t]) (e := 79) (f := _) hO' rfl inferInstance (by simp) (by simp)); simp only [Act.put, List.setIfInBounds_toArray, List.set_cons_zero, List.set_cons_succ])
        (refine sch_act (o := ?_) ?_ ?_; rotate_left; (· ((conv => lhs; whnf); try exact rfl)))
        go_wp2_with (go_at_fn 41; refine (cmpH E _ _ x.e y x.a x.c ay cy hO).mono ?_; clear hO; rintro e w5 ⟨rfl, hO⟩; rw [HZ.out])
        refine ⟨hO.as _, ?_⟩
        first | (refine sch_look (o := ?_) (v := ?_) ?_ ?_ ?_ ?_; rotate_left 2; (· ((conv => lhs; whnf); try exact rfl)); (· rfl); (· intro w' hO'; (have hF' := Own.cells hO'; simp only [cellsOf_append, cellsOf_pt] at hF'); go_simp; (try exact rfl)); simp only [Act.put, List.setIfInBounds_toArray, List.set_cons_zero, List.set_cons_succ]) | (refine sch_pass (o := ?_) ?_ ?_ ?_; rotate_left; (· ((conv => lhs; whnf); try exact rfl)); (· rfl); simp only [Act.put, List.setIfInBounds_toArray, List.set_cons_zero, List.set_cons_succ]) | (refine sch_look (o := ?_) (v := .agg ?_) ?_ ?_ ?_ ?_; rotate_left 2; (· ((conv => lhs; whnf); try exact rfl)); (· rfl); (· intro w' hO'; refine run_opLoadS (b := ?_) (cs := ?_) (e := ?_) (f := ?_) hO' ?_ ?_ ?_ ?_; rotate_left 4; (· exact rfl); (· exact inferInstance); (· simp; done); (· simp; done)); simp only [Act.put, List.setIfInBounds_toArray, List.set_cons_zero, List.set_cons_succ])
        refine sch_done ?_
        go_wp2_with fail
        obtain ⟨hm, hm1, hm2, hmh, hij, hj⟩ := HM.out
        go_roundw
        case rel =>
          refine ⟨i, m, rfl, rfl, by omega, by omega, HLO.out, fun k hk h => ?_, hO⟩
          by_cases hkm : k = m
          · subst hkm; rw [HXE.out _]; exact HEL.out
          · have h2 := List.pairwise_iff_getElem.1 HE.out m k HME.out hk (by omega)
            rw [HXE.out _] at h2
            exact fun h3 => HEL.out (elt_trans h2 h3)
        case measure => simp [intOf]; omega
    · obtain rfl : i = j := by omega
      have h1 : ¬ (i : Int) < i := by omega
      have hAt : At (esOf hs) y i := ⟨by rw [esOf_len]; exact hj, HLO.out, HHI.out⟩
      have HAT := Lib.hid hAt
      clear hAt hij hlt
      by_cases hn : i < hs.length
      · have g1 : (i : Int) < hs.length := by omega
        have g2 : (0 : Int) ≤ i := by omega
        obtain ⟨sb, rfl⟩ := sl_some9 hS (by omega)
        obtain ⟨x, hx⟩ : ∃ x, hs[i]'hn = x := ⟨_, rfl⟩
        have hsc : ∀ w', Own E w' S → ∀ j v, x.v[j]? = some v → w'.cell? ((⟨sb, i * 6, none⟩ : Addr).add j) = some v := fun w' h => hx ▸ row_cells Hl.len hS h hn
        have hth : thereE (esOf hs) y i = (cmpE x.e y == 0) := by
          unfold thereE
          have h9 : i < (esOf hs).length := by rw [esOf_len]; exact hn
          rw [List.getElem?_eq_getElem h9, Option.map_some, Option.getD_some, esOf_get hs i h9 hn, hx]
          rfl
        have HSC := Lib.hid hsc
        have HTH := Lib.hid hth
        clear hsc hth hx hn hj
        go_wp2_with fail
        (try (go_wp2_with fail))
        refine region_sch (fun w' => Own E w' (pt ob (.cells #[.string (encB y.d), .int .i64 y.d.k, .int .i64 y.d.n, .string y.d.s, .slice ay y.d.l.length cy, .int .i64 y.t] 79 (0, 0)) ++ S)) (.look 0 (.look 1 (.look 2 (.look 3 (.look 4 (.look 5 (.look 6 (.look 7 (.look 8 (.look 9 (.look 10 (.act 11 (.look 12 (.look 13 (.look 14 (.look 15 .done)))))))))))))))) (by kernel_rfl) (by kernel_rfl) (fun _ _ d _ _ h => by cases d <;> exact h) ?_ ?_
        · exact hO.drew.as _
        replace hO := hO.drew
        generalize World.drew _ = wdr at hO ⊢
        first | (refine sch_look (o := ?_) (v := ?_) ?_ ?_ ?_ ?_; rotate_left 2; (· ((conv => lhs; whnf); try exact rfl)); (· rfl); (· intro w' hO'; (have hF' := Own.cells hO'; simp only [cellsOf_append, cellsOf_pt] at hF'); go_simp; (try exact rfl)); simp only [Act.put, List.setIfInBounds_toArray, List.set_cons_zero, List.set_cons_succ]) | (refine sch_pass (o := ?_) ?_ ?_ ?_; rotate_left; (· ((conv => lhs; whnf); try exact rfl)); (· rfl); simp only [Act.put, List.setIfInBounds_toArray, List.set_cons_zero, List.set_cons_succ]) | (refine sch_look (o := ?_) (v := .agg ?_) ?_ ?_ ?_ ?_; rotate_left 2; (· ((conv => lhs; whnf); try exact rfl)); (· rfl); (· intro w' hO'; refine run_opLoadS (b := ?_) (cs := ?_) (e := ?_) (f := ?_) hO' ?_ ?_ ?_ ?_; rotate_left 4; (· exact rfl); (· exact inferInstance); (· simp; done); (· simp; done)); simp only [Act.put, List.setIfInBounds_toArray, List.set_cons_zero, List.set_cons_succ])
        first | (refine sch_look (o := ?_) (v := ?_) ?_ ?_ ?_ ?_; rotate_left 2; (· ((conv => lhs; whnf); try exact rfl)); (· rfl); (· intro w' hO'; (have hF' := Own.cells hO'; simp only [cellsOf_append, cellsOf_pt] at hF'); go_simp; (try exact rfl)); simp only [Act.put, List.setIfInBounds_toArray, List.set_cons_zero, List.set_cons_succ]) | (refine sch_pass (o := ?_) ?_ ?_ ?_; rotate_left; (· ((conv => lhs; whnf); try exact rfl)); (· rfl); simp only [Act.put, List.setIfInBounds_toArray, List.set_cons_zero, List.set_cons_succ]) | (refine sch_look (o := ?_) (v := .agg ?_) ?_ ?_ ?_ ?_; rotate_left 2; (· ((conv => lhs; whnf); try exact rfl)); (· rfl); (· intro w' hO'; refine run_opLoadS (b := ?_) (cs := ?_) (e := ?_) (f := ?_) hO' ?_ ?_ ?_ ?_; rotate_left 4; (· exact rfl); (· exact inferInstance); (· simp; done); (· simp; done)); simp only [Act.put, List.setIfInBounds_toArray, List.set_cons_zero, List.set_cons_succ])
        first | (refine sch_look (o := ?_) (v := ?_) ?_ ?_ ?_ ?_; rotate_left 2; (· ((conv => lhs; whnf); try exact rfl)); (· rfl); (· intro w' hO'; (have hF' := Own.cells hO'; simp only [cellsOf_append, cellsOf_pt] at hF'); go_simp; (try exact rfl)); simp only [Act.put, List.setIfInBounds_toArray, List.set_cons_zero, List.set_cons_succ]) | (refine sch_pass (o := ?_) ?_ ?_ ?_; rotate_left; (· ((conv => lhs; whnf); try exact rfl)); (· rfl); simp only [Act.put, List.setIfInBounds_toArray, List.set_cons_zero, List.set_cons_succ]) | (refine sch_look (o := ?_) (v := .agg ?_) ?_ ?_ ?_ ?_; rotate_left 2; (· ((conv => lhs; whnf); try exact rfl)); (· rfl); (· intro w' hO'; refine run_opLoadS (b := ?_) (cs := ?_) (e := ?_) (f := ?_) hO' ?_ ?_ ?_ ?_; rotate_left 4; (· exact rfl); (· exact inferInstance); (· simp; done); (· simp; done)); simp only [Act.put, List.setIfInBounds_toArray, List.set_cons_zero, List.set_cons_succ])
        first | (refine sch_look (o := ?_) (v := ?_) ?_ ?_ ?_ ?_; rotate_left 2; (· ((conv => lhs; whnf); try exact rfl)); (· rfl); (· intro w' hO'; (have hF' := Own.cells hO'; simp only [cellsOf_append, cellsOf_pt] at hF'); go_simp; (try exact rfl)); simp only [Act.put, List.setIfInBounds_toArray, List.set_cons_zero, List.set_cons_succ]) | (refine sch_pass (o := ?_) ?_ ?_ ?_; rotate_left; (· ((conv => lhs; whnf); try exact rfl)); (· rfl); simp only [Act.put, List.setIfInBounds_toArray, List.set_cons_zero, List.set_cons_succ]) | (refine sch_look (o := ?_) (v := .agg ?_) ?_ ?_ ?_ ?_; rotate_left 2; (· ((conv => lhs; whnf); try exact rfl)); (· rfl); (· intro w' hO'; refine run_opLoadS (b := ?_) (cs := ?_) (e := ?_) (f := ?_) hO' ?_ ?_ ?_ ?_; rotate_left 4; (· exact rfl); (· exact inferInstance); (· simp; done); (· simp; done)); simp only [Act.put, List.setIfInBounds_toArray, List.set_cons_zero, List.set_cons_succ])
        first | (refine sch_look (o := ?_) (v := ?_) ?_ ?_ ?_ ?_; rotate_left 2; (· ((conv => lhs; whnf); try exact rfl)); (· rfl); (· intro w' hO'; (have hF' := Own.cells hO'; simp only [cellsOf_append, cellsOf_pt] at hF'); go_simp; (try exact rfl)); simp only [Act.put, List.setIfInBounds_toArray, List.set_cons_zero, List.set_cons_succ]) | (refine sch_pass (o := ?_) ?_ ?_ ?_; rotate_left; (· ((conv => lhs; whnf); try exact rfl)); (· rfl); simp only [Act.put, List.setIfInBounds_toArray, List.set_cons_zero, List.set_cons_succ]) | (refine sch_look (o := ?_) (v := .agg ?_) ?_ ?_ ?_ ?_; rotate_left 2; (· ((conv => lhs; whnf); try exact rfl)); (· rfl); (· intro w' hO'; refine run_opLoadS (b := ?_) (cs := ?_) (e := ?_) (f := ?_) hO' ?_ ?_ ?_ ?_; rotate_left 4; (· exact rfl); (· exact inferInstance); (· simp; done); (· simp; done)); simp only [Act.put, List.setIfInBounds_toArray, List.set_cons_zero, List.set_cons_succ])
        first | (refine sch_look (o := ?_) (v := ?_) ?_ ?_ ?_ ?_; rotate_left 2; (· ((conv => lhs; whnf); try exact rfl)); (· rfl); (· intro w' hO'; (have hF' := Own.cells hO'; simp only [cellsOf_append, cellsOf_pt] at hF'); go_simp; (try exact rfl)); simp only [Act.put, List.setIfInBounds_toArray, List.set_cons_zero, List.set_cons_succ]) | (refine sch_pass (o := ?_) ?_ ?_ ?_; rotate_left; (· ((conv => lhs; whnf); try exact rfl)); (· rfl); simp only [Act.put, List.setIfInBounds_toArray, List.set_cons_zero, List.set_cons_succ]) | (refine sch_look (o := ?_) (v := .agg ?_) ?_ ?_ ?_ ?_; rotate_left 2; (· ((conv => lhs; whnf); try exact rfl)); (· rfl); (· intro w' hO'; refine run_opLoadS (b := ?_) (cs := ?_) (e := ?_) (f := ?_) hO' ?_ ?_ ?_ ?_; rotate_left 4; (· exact rfl); (· exact inferInstance); (· simp; done); (· simp; done)); simp only [Act.put, List.setIfInBounds_toArray, List.set_cons_zero, List.set_cons_succ])
        first | (refine sch_look (o := ?_) (v := ?_) ?_ ?_ ?_ ?_; rotate_left 2; (· ((conv => lhs; whnf); try exact rfl)); (· rfl); (· intro w' hO'; (have hF' := Own.cells hO'; simp only [cellsOf_append, cellsOf_pt] at hF'); go_simp; (try exact rfl)); simp only [Act.put, List.setIfInBounds_toArray, List.set_cons_zero, List.set_cons_succ]) | (refine sch_pass (o := ?_) ?_ ?_ ?_; rotate_left; (· ((conv => lhs; whnf); try exact rfl)); (· rfl); simp only [Act.put, List.setIfInBounds_toArray, List.set_cons_zero, List.set_cons_succ]) | (refine sch_look (o := ?_) (v := .agg ?_) ?_ ?_ ?_ ?_; rotate_left 2; (· ((conv => lhs; whnf); try exact rfl)); (· rfl); (· intro w' hO'; refine run_opLoadS (b := ?_) (cs := ?_) (e := ?_) (f := ?_) hO' ?_ ?_ ?_ ?_; rotate_left 4; (· exact rfl); (· exact inferInstance); (· simp; done); (· simp; done)); simp only [Act.put, List.setIfInBounds_toArray, List.set_cons_zero, List.set_cons_succ])
        first | (refine sch_look (o := ?_) (v := ?_) ?_ ?_ ?_ ?_; rotate_left 2; (· ((conv => lhs; whnf); try exact rfl)); (· rfl); (· intro w' hO'; (have hF' := Own.cells hO'; simp only [cellsOf_append, cellsOf_pt] at hF'); go_simp; (try exact rfl)); simp only [Act.put, List.setIfInBounds_toArray, List.set_cons_zero, List.set_cons_succ]) | (refine sch_pass (o := ?_) ?_ ?_ ?_; rotate_left; (· ((conv => lhs; whnf); try exact rfl)); (· rfl); simp only [Act.put, List.setIfInBounds_toArray, List.set_cons_zero, List.set_cons_succ]) | (refine sch_look (o := ?_) (v := .agg ?_) ?_ ?_ ?_ ?_; rotate_left 2; (· ((conv => lhs; whnf); try exact rfl)); (· rfl); (· intro w' hO'; refine run_opLoadS (b := ?_) (cs := ?_) (e := ?_) (f := ?_) hO' ?_ ?_ ?_ ?_; rotate_left 4; (· exact rfl); (· exact inferInstance); (· simp; done); (· simp; done)); simp only [Act.put, List.setIfInBounds_toArray, List.set_cons_zero, List.set_cons_succ])
        first | (refine sch_look (o := ?_) (v := ?_) ?_ ?_ ?_ ?_; rotate_left 2; (· ((conv => lhs; whnf); try exact rfl)); (· rfl); (· intro w' hO'; (have hF' := Own.cells hO'; simp only [cellsOf_append, cellsOf_pt] at hF'); go_simp; (try exact rfl)); simp only [Act.put, List.setIfInBounds_toArray, List.set_cons_zero, List.set_cons_succ]) | (refine sch_pass (o := ?_) ?_ ?_ ?_; rotate_left; (· ((conv => lhs; whnf); try exact rfl)); (· rfl); simp only [Act.put, List.setIfInBounds_toArray, List.set_cons_zero, List.set_cons_succ]) | (refine sch_look (o := ?_) (v := .agg ?_) ?_ ?_ ?_ ?_; rotate_left 2; (· ((conv => lhs; whnf); try exact rfl)); (· rfl); (· intro w' hO'; refine run_opLoadS (b := ?_) (cs := ?_) (e := ?_) (f := ?_) hO' ?_ ?_ ?_ ?_; rotate_left 4; (· exact rfl); (· exact inferInstance); (· simp; done); (· simp; done)); simp only [Act.put, List.setIfInBounds_toArray, List.set_cons_zero, List.set_cons_succ])
        (refine sch_look (o := ?_) (v := .agg #[.string (encB x.e.d), .int .i64 x.e.d.k, .int .i64 x.e.d.n, .string x.e.d.s, .slice x.a x.e.d.l.length x.c, .int .i64 x.e.t]) ?_ ?_ ?_ ?_; rotate_left; (· ((conv => lhs; whnf); try exact rfl)); (· rfl); (· intro w' hO'; exact run_opLoadC (ad := ⟨sb, i * 6, none⟩) (cs := x.v) (HSC.out w' (hO'.as S)) rfl (by simp) (by simp [Hl.len])); simp only [Act.put, List.setIfInBounds_toArray, List.set_cons_zero, List.set_cons_succ])
        (refine sch_look (o := ?_) (v := .agg #[.string (encB y.d), .int .i64 y.d.k, .int .i64 y.d.n, .string y.d.s, .slice ay y.d.l.length cy, .int .i64 y.t]) ?_ ?_ ?_ ?_; rotate_left; (· ((conv => lhs; whnf); try exact rfl)); (· rfl); (· intro w' hO'; exact run_opLoadS (b := ob) (cs := #[.string (encB y.d), .int .i64 y.d.k, .int .i64 y.d.n, .string y.d.s, .slice ay y.d.l.length cy, .int .i64 y.t]) (e := 79) (f := _) hO' rfl inferInstance (by simp) (by simp)); simp only [Act.put, List.setIfInBounds_toArray, List.set_cons_zero, List.set_cons_succ])
        (refine sch_act (o := ?_) ?_ ?_; rotate_left; (· ((conv => lhs; whnf); try exact rfl)))
        go_wp2_with (go_at_fn 41; refine (cmpH E _ _ x.e y x.a x.c ay cy hO).mono ?_; clear hO; rintro e w5 ⟨rfl, hO⟩)
        refine ⟨hO.as _, ?_⟩
        first | (refine sch_look (o := ?_) (v := ?_) ?_ ?_ ?_ ?_; rotate_left 2; (· ((conv => lhs; whnf); try exact rfl)); (· rfl); (· intro w' hO'; (have hF' := Own.cells hO'; simp only [cellsOf_append, cellsOf_pt] at hF'); go_simp; (try exact rfl)); simp only [Act.put, List.setIfInBounds_toArray, List.set_cons_zero, List.set_cons_succ]) | (refine sch_pass (o := ?_) ?_ ?_ ?_; rotate_left; (· ((conv => lhs; whnf); try exact rfl)); (· rfl); simp only [Act.put, List.setIfInBounds_toArray, List.set_cons_zero, List.set_cons_succ]) | (refine sch_look (o := ?_) (v := .agg ?_) ?_ ?_ ?_ ?_; rotate_left 2; (· ((conv => lhs; whnf); try exact rfl)); (· rfl); (· intro w' hO'; refine run_opLoadS (b := ?_) (cs := ?_) (e := ?_) (f := ?_) hO' ?_ ?_ ?_ ?_; rotate_left 4; (· exact rfl); (· exact inferInstance); (· simp; done); (· simp; done)); simp only [Act.put, List.setIfInBounds_toArray, List.set_cons_zero, List.set_cons_succ])
        first | (refine sch_look (o := ?_) (v := ?_) ?_ ?_ ?_ ?_; rotate_left 2; (· ((conv => lhs; whnf); try exact rfl)); (· rfl); (· intro w' hO'; (have hF' := Own.cells hO'; simp only [cellsOf_append, cellsOf_pt] at hF'); go_simp; (try exact rfl)); simp only [Act.put, List.setIfInBounds_toArray, List.set_cons_zero, List.set_cons_succ]) | (refine sch_pass (o := ?_) ?_ ?_ ?_; rotate_left; (· ((conv => lhs; whnf); try exact rfl)); (· rfl); simp only [Act.put, List.setIfInBounds_toArray, List.set_cons_zero, List.set_cons_succ]) | (refine sch_look (o := ?_) (v := .agg ?_) ?_ ?_ ?_ ?_; rotate_left 2; (· ((conv => lhs; whnf); try exact rfl)); (· rfl); (· intro w' hO'; refine run_opLoadS (b := ?_) (cs := ?_) (e := ?_) (f := ?_) hO' ?_ ?_ ?_ ?_; rotate_left 4; (· exact rfl); (· exact inferInstance); (· simp; done); (· simp; done)); simp only [Act.put, List.setIfInBounds_toArray, List.set_cons_zero, List.set_cons_succ])
        first | (refine sch_look (o := ?_) (v := ?_) ?_ ?_ ?_ ?_; rotate_left 2; (· ((conv => lhs; whnf); try exact rfl)); (· rfl); (· intro w' hO'; (have hF' := Own.cells hO'; simp only [cellsOf_append, cellsOf_pt] at hF'); go_simp; (try exact rfl)); simp only [Act.put, List.setIfInBounds_toArray, List.set_cons_zero, List.set_cons_succ]) | (refine sch_pass (o := ?_) ?_ ?_ ?_; rotate_left; (· ((conv => lhs; whnf); try exact rfl)); (· rfl); simp only [Act.put, List.setIfInBounds_toArray, List.set_cons_zero, List.set_cons_succ]) | (refine sch_look (o := ?_) (v := .agg ?_) ?_ ?_ ?_ ?_; rotate_left 2; (· ((conv => lhs; whnf); try exact rfl)); (· rfl); (· intro w' hO'; refine run_opLoadS (b := ?_) (cs := ?_) (e := ?_) (f := ?_) hO' ?_ ?_ ?_ ?_; rotate_left 4; (· exact rfl); (· exact inferInstance); (· simp; done); (· simp; done)); simp only [Act.put, List.setIfInBounds_toArray, List.set_cons_zero, List.set_cons_succ])
        first | (refine sch_look (o := ?_) (v := ?_) ?_ ?_ ?_ ?_; rotate_left 2; (· ((conv => lhs; whnf); try exact rfl)); (· rfl); (· intro w' hO'; (have hF' := Own.cells hO'; simp only [cellsOf_append, cellsOf_pt] at hF'); go_simp; (try exact rfl)); simp only [Act.put, List.setIfInBounds_toArray, List.set_cons_zero, List.set_cons_succ]) | (refine sch_pass (o := ?_) ?_ ?_ ?_; rotate_left; (· ((conv => lhs; whnf); try exact rfl)); (· rfl); simp only [Act.put, List.setIfInBounds_toArray, List.set_cons_zero, List.set_cons_succ]) | (refine sch_look (o := ?_) (v := .agg ?_) ?_ ?_ ?_ ?_; rotate_left 2; (· ((conv => lhs; whnf); try exact rfl)); (· rfl); (· intro w' hO'; refine run_opLoadS (b := ?_) (cs := ?_) (e := ?_) (f := ?_) hO' ?_ ?_ ?_ ?_; rotate_left 4; (· exact rfl); (· exact inferInstance); (· simp; done); (· simp; done)); simp only [Act.put, List.setIfInBounds_toArray, List.set_cons_zero, List.set_cons_succ])
        refine sch_done ?_
        go_wp2_with fail
        rw [← HPOST.out]
        refine ⟨i, HAT.out, ?_, hO.as _⟩
        rw [HTH.out]
        rfl
      · have g1 : ¬ (i : Int) < hs.length := by omega
        have g3 : decide (i < hs.length) = false := decide_eq_false hn
        have g4 : decide ((i : Int) < hs.length) = false := decide_eq_false g1
        have hth : thereE (esOf hs) y i = false := by
          unfold thereE
          rw [List.getElem?_eq_none (by rw [esOf_len]; omega)]
          rfl
        have HTH := Lib.hid hth
        clear hth hn hj
        go_wp2_with fail
        (try (go_wp2_with fail))
        refine region_sch (fun w' => Own E w' (pt ob (.cells #[.string (encB y.d), .int .i64 y.d.k, .int .i64 y.d.n, .string y.d.s, .slice ay y.d.l.length cy, .int .i64 y.t] 79 (0, 0)) ++ S)) (.look 0 (.look 1 (.look 2 (.look 3 (.look 4 (.look 5 (.look 6 (.look 7 (.look 8 (.look 9 (.look 10 (.look 11 (.look 12 (.look 13 (.look 14 (.look 15 .done)))))))))))))))) (by kernel_rfl) (by kernel_rfl) (fun _ _ d _ _ h => by cases d <;> exact h) ?_ ?_
        · exact hO.drew.as _
        replace hO := hO.drew
        generalize World.drew _ = wdr at hO ⊢
        first | (refine sch_look (o := ?_) (v := ?_) ?_ ?_ ?_ ?_; rotate_left 2; (· ((conv => lhs; whnf); try exact rfl)); (· rfl); (· intro w' hO'; (have hF' := Own.cells hO'; simp only [cellsOf_append, cellsOf_pt] at hF'); go_simp; (try exact rfl)); simp only [Act.put, List.setIfInBounds_toArray, List.set_cons_zero, List.set_cons_succ]) | (refine sch_pass (o := ?_) ?_ ?_ ?_; rotate_left; (· ((conv => lhs; whnf); try exact rfl)); (· rfl); simp only [Act.put, List.setIfInBounds_toArray, List.set_cons_zero, List.set_cons_succ]) | (refine sch_look (o := ?_) (v := .agg ?_) ?_ ?_ ?_ ?_; rotate_left 2; (· ((conv => lhs; whnf); try exact rfl)); (· rfl); (· intro w' hO'; refine run_opLoadS (b := ?_) (cs := ?_) (e := ?_) (f := ?_) hO' ?_ ?_ ?_ ?_; rotate_left 4; (· exact rfl); (· exact inferInstance); (· simp; done); (· simp; done)); simp only [Act.put, List.setIfInBounds_toArray, List.set_cons_zero, List.set_cons_succ])
        first | (refine sch_look (o := ?_) (v := ?_) ?_ ?_ ?_ ?_; rotate_left 2; (· ((conv => lhs; whnf); try exact rfl)); (· rfl); (· intro w' hO'; (have hF' := Own.cells hO'; simp only [cellsOf_append, cellsOf_pt] at hF'); go_simp; (try exact rfl)); simp only [Act.put, List.setIfInBounds_toArray, List.set_cons_zero, List.set_cons_succ]) | (refine sch_pass (o := ?_) ?_ ?_ ?_; rotate_left; (· ((conv => lhs; whnf); try exact rfl)); (· rfl); simp only [Act.put, List.setIfInBounds_toArray, List.set_cons_zero, List.set_cons_succ]) | (refine sch_look (o := ?_) (v := .agg ?_) ?_ ?_ ?_ ?_; rotate_left 2; (· ((conv => lhs; whnf); try exact rfl)); (· rfl); (· intro w' hO'; refine run_opLoadS (b := ?_) (cs := ?_) (e := ?_) (f := ?_) hO' ?_ ?_ ?_ ?_; rotate_left 4; (· exact rfl); (· exact inferInstance); (· simp; done); (· simp; done)); simp only [Act.put, List.setIfInBounds_toArray, List.set_cons_zero, List.set_cons_succ])
        first | (refine sch_look (o := ?_) (v := ?_) ?_ ?_ ?_ ?_; rotate_left 2; (· ((conv => lhs; whnf); try exact rfl)); (· rfl); (· intro w' hO'; (have hF' := Own.cells hO'; simp only [cellsOf_append, cellsOf_pt] at hF'); go_simp; (try exact rfl)); simp only [Act.put, List.setIfInBounds_toArray, List.set_cons_zero, List.set_cons_succ]) | (refine sch_pass (o := ?_) ?_ ?_ ?_; rotate_left; (· ((conv => lhs; whnf); try exact rfl)); (· rfl); simp only [Act.put, List.setIfInBounds_toArray, List.set_cons_zero, List.set_cons_succ]) | (refine sch_look (o := ?_) (v := .agg ?_) ?_ ?_ ?_ ?_; rotate_left 2; (· ((conv => lhs; whnf); try exact rfl)); (· rfl); (· intro w' hO'; refine run_opLoadS (b := ?_) (cs := ?_) (e := ?_) (f := ?_) hO' ?_ ?_ ?_ ?_; rotate_left 4; (· exact rfl); (· exact inferInstance); (· simp; done); (· simp; done)); simp only [Act.put, List.setIfInBounds_toArray, List.set_cons_zero, List.set_cons_succ])
        first | (refine sch_look (o := ?_) (v := ?_) ?_ ?_ ?_ ?_; rotate_left 2; (· ((conv => lhs; whnf); try exact rfl)); (· rfl); (· intro w' hO'; (have hF' := Own.cells hO'; simp only [cellsOf_append, cellsOf_pt] at hF'); go_simp; (try exact rfl)); simp only [Act.put, List.setIfInBounds_toArray, List.set_cons_zero, List.set_cons_succ]) | (refine sch_pass (o := ?_) ?_ ?_ ?_; rotate_left; (· ((conv => lhs; whnf); try exact rfl)); (· rfl); simp only [Act.put, List.setIfInBounds_toArray, List.set_cons_zero, List.set_cons_succ]) | (refine sch_look (o := ?_) (v := .agg ?_) ?_ ?_ ?_ ?_; rotate_left 2; (· ((conv => lhs; whnf); try exact rfl)); (· rfl); (· intro w' hO'; refine run_opLoadS (b := ?_) (cs := ?_) (e := ?_) (f := ?_) hO' ?_ ?_ ?_ ?_; rotate_left 4; (· exact rfl); (· exact inferInstance); (· simp; done); (· simp; done)); simp only [Act.put, List.setIfInBounds_toArray, List.set_cons_zero, List.set_cons_succ])
        first | (refine sch_look (o := ?_) (v := ?_) ?_ ?_ ?_ ?_; rotate_left 2; (· ((conv => lhs; whnf); try exact rfl)); (· rfl); (· intro w' hO'; (have hF' := Own.cells hO'; simp only [cellsOf_append, cellsOf_pt] at hF'); go_simp; (try exact rfl)); simp only [Act.put, List.setIfInBounds_toArray, List.set_cons_zero, List.set_cons_succ]) | (refine sch_pass (o := ?_) ?_ ?_ ?_; rotate_left; (· ((conv => lhs; whnf); try exact rfl)); (· rfl); simp only [Act.put, List.setIfInBounds_toArray, List.set_cons_zero, List.set_cons_succ]) | (refine sch_look (o := ?_) (v := .agg ?_) ?_ ?_ ?_ ?_; rotate_left 2; (· ((conv => lhs; whnf); try exact rfl)); (· rfl); (· intro w' hO'; refine run_opLoadS (b := ?_) (cs := ?_) (e := ?_) (f := ?_) hO' ?_ ?_ ?_ ?_; rotate_left 4; (· exact rfl); (· exact inferInstance); (· simp; done); (· simp; done)); simp only [Act.put, List.setIfInBounds_toArray, List.set_cons_zero, List.set_cons_succ])
        first | (refine sch_look (o := ?_) (v := ?_) ?_ ?_ ?_ ?_; rotate_left 2; (· ((conv => lhs; whnf); try exact rfl)); (· rfl); (· intro w' hO'; (have hF' := Own.cells hO'; simp only [cellsOf_append, cellsOf_pt] at hF'); go_simp; (try exact rfl)); simp only [Act.put, List.setIfInBounds_toArray, List.set_cons_zero, List.set_cons_succ]) | (refine sch_pass (o := ?_) ?_ ?_ ?_; rotate_left; (· ((conv => lhs; whnf); try exact rfl)); (· rfl); simp only [Act.put, List.setIfInBounds_toArray, List.set_cons_zero, List.set_cons_succ]) | (refine sch_look (o := ?_) (v := .agg ?_) ?_ ?_ ?_ ?_; rotate_left 2; (· ((conv => lhs; whnf); try exact rfl)); (· rfl); (· intro w' hO'; refine run_opLoadS (b := ?_) (cs := ?_) (e := ?_) (f := ?_) hO' ?_ ?_ ?_ ?_; rotate_left 4; (· exact rfl); (· exact inferInstance); (· simp; done); (· simp; done)); simp only [Act.put, List.setIfInBounds_toArray, List.set_cons_zero, List.set_cons_succ])
        first | (refine sch_look (o := ?_) (v := ?_) ?_ ?_ ?_ ?_; rotate_left 2; (· ((conv => lhs; whnf); try exact rfl)); (· rfl); (· intro w' hO'; (have hF' := Own.cells hO'; simp only [cellsOf_append, cellsOf_pt] at hF'); go_simp; (try exact rfl)); simp only [Act.put, List.setIfInBounds_toArray, List.set_cons_zero, List.set_cons_succ]) | (refine sch_pass (o := ?_) ?_ ?_ ?_; rotate_left; (· ((conv => lhs; whnf); try exact rfl)); (· rfl); simp only [Act.put, List.setIfInBounds_toArray, List.set_cons_zero, List.set_cons_succ]) | (refine sch_look (o := ?_) (v := .agg ?_) ?_ ?_ ?_ ?_; rotate_left 2; (· ((conv => lhs; whnf); try exact rfl)); (· rfl); (· intro w' hO'; refine run_opLoadS (b := ?_) (cs := ?_) (e := ?_) (f := ?_) hO' ?_ ?_ ?_ ?_; rotate_left 4; (· exact rfl); (· exact inferInstance); (· simp; done); (· simp; done)); simp only [Act.put, List.setIfInBounds_toArray, List.set_cons_zero, List.set_cons_succ])
        first | (refine sch_look (o := ?_) (v := ?_) ?_ ?_ ?_ ?_; rotate_left 2; (· ((conv => lhs; whnf); try exact rfl)); (· rfl); (· intro w' hO'; (have hF' := Own.cells hO'; simp only [cellsOf_append, cellsOf_pt] at hF'); go_simp; (try exact rfl)); simp only [Act.put, List.setIfInBounds_toArray, List.set_cons_zero, List.set_cons_succ]) | (refine sch_pass (o := ?_) ?_ ?_ ?_; rotate_left; (· ((conv => lhs; whnf); try exact rfl)); (· rfl); simp only [Act.put, List.setIfInBounds_toArray, List.set_cons_zero, List.set_cons_succ]) | (refine sch_look (o := ?_) (v := .agg ?_) ?_ ?_ ?_ ?_; rotate_left 2; (· ((conv => lhs; whnf); try exact rfl)); (· rfl); (· intro w' hO'; refine run_opLoadS (b := ?_) (cs := ?_) (e := ?_) (f := ?_) hO' ?_ ?_ ?_ ?_; rotate_left 4; (· exact rfl); (· exact inferInstance); (· simp; done); (· simp; done)); simp only [Act.put, List.setIfInBounds_toArray, List.set_cons_zero, List.set_cons_succ])
        first | (refine sch_look (o := ?_) (v := ?_) ?_ ?_ ?_ ?_; rotate_left 2; (· ((conv => lhs; whnf); try exact rfl)); (· rfl); (· intro w' hO'; (have hF' := Own.cells hO'; simp only [cellsOf_append, cellsOf_pt] at hF'); go_simp; (try exact rfl)); simp only [Act.put, List.setIfInBounds_toArray, List.set_cons_zero, List.set_cons_succ]) | (refine sch_pass (o := ?_) ?_ ?_ ?_; rotate_left; (· ((conv => lhs; whnf); try exact rfl)); (· rfl); simp only [Act.put, List.setIfInBounds_toArray, List.set_cons_zero, List.set_cons_succ]) | (refine sch_look (o := ?_) (v := .agg ?_) ?_ ?_ ?_ ?_; rotate_left 2; (· ((conv => lhs; whnf); try exact rfl)); (· rfl); (· intro w' hO'; refine run_opLoadS (b := ?_) (cs := ?_) (e := ?_) (f := ?_) hO' ?_ ?_ ?_ ?_; rotate_left 4; (· exact rfl); (· exact inferInstance); (· simp; done); (· simp; done)); simp only [Act.put, List.setIfInBounds_toArray, List.set_cons_zero, List.set_cons_succ])
        first | (refine sch_look (o := ?_) (v := ?_) ?_ ?_ ?_ ?_; rotate_left 2; (· ((conv => lhs; whnf); try exact rfl)); (· rfl); (· intro w' hO'; (have hF' := Own.cells hO'; simp only [cellsOf_append, cellsOf_pt] at hF'); go_simp; (try exact rfl)); simp only [Act.put, List.setIfInBounds_toArray, List.set_cons_zero, List.set_cons_succ]) | (refine sch_pass (o := ?_) ?_ ?_ ?_; rotate_left; (· ((conv => lhs; whnf); try exact rfl)); (· rfl); simp only [Act.put, List.setIfInBounds_toArray, List.set_cons_zero, List.set_cons_succ]) | (refine sch_look (o := ?_) (v := .agg ?_) ?_ ?_ ?_ ?_; rotate_left 2; (· ((conv => lhs; whnf); try exact rfl)); (· rfl); (· intro w' hO'; refine run_opLoadS (b := ?_) (cs := ?_) (e := ?_) (f := ?_) hO' ?_ ?_ ?_ ?_; rotate_left 4; (· exact rfl); (· exact inferInstance); (· simp; done); (· simp; done)); simp only [Act.put, List.setIfInBounds_toArray, List.set_cons_zero, List.set_cons_succ])
        first | (refine sch_look (o := ?_) (v := ?_) ?_ ?_ ?_ ?_; rotate_left 2; (· ((conv => lhs; whnf); try exact rfl)); (· rfl); (· intro w' hO'; (have hF' := Own.cells hO'; simp only [cellsOf_append, cellsOf_pt] at hF'); go_simp; (try exact rfl)); simp only [Act.put, List.setIfInBounds_toArray, List.set_cons_zero, List.set_cons_succ]) | (refine sch_pass (o := ?_) ?_ ?_ ?_; rotate_left; (· ((conv => lhs; whnf); try exact rfl)); (· rfl); simp only [Act.put, List.setIfInBounds_toArray, List.set_cons_zero, List.set_cons_succ]) | (refine sch_look (o := ?_) (v := .agg ?_) ?_ ?_ ?_ ?_; rotate_left 2; (· ((conv => lhs; whnf); try exact rfl)); (· rfl); (· intro w' hO'; refine run_opLoadS (b := ?_) (cs := ?_) (e := ?_) (f := ?_) hO' ?_ ?_ ?_ ?_; rotate_left 4; (· exact rfl); (· exact inferInstance); (· simp; done); (· simp; done)); simp only [Act.put, List.setIfInBounds_toArray, List.set_cons_zero, List.set_cons_succ])
        (refine sch_pass (o := ?_) ?_ ?_ ?_; rotate_left; (· ((conv => lhs; whnf); try exact rfl)); (· rfl); simp only [Act.put, List.setIfInBounds_toArray, List.set_cons_zero, List.set_cons_succ])
        first | (refine sch_look (o := ?_) (v := ?_) ?_ ?_ ?_ ?_; rotate_left 2; (· ((conv => lhs; whnf); try exact rfl)); (· rfl); (· intro w' hO'; (have hF' := Own.cells hO'; simp only [cellsOf_append, cellsOf_pt] at hF'); go_simp; (try exact rfl)); simp only [Act.put, List.setIfInBounds_toArray, List.set_cons_zero, List.set_cons_succ]) | (refine sch_pass (o := ?_) ?_ ?_ ?_; rotate_left; (· ((conv => lhs; whnf); try exact rfl)); (· rfl); simp only [Act.put, List.setIfInBounds_toArray, List.set_cons_zero, List.set_cons_succ]) | (refine sch_look (o := ?_) (v := .agg ?_) ?_ ?_ ?_ ?_; rotate_left 2; (· ((conv => lhs; whnf); try exact rfl)); (· rfl); (· intro w' hO'; refine run_opLoadS (b := ?_) (cs := ?_) (e := ?_) (f := ?_) hO' ?_ ?_ ?_ ?_; rotate_left 4; (· exact rfl); (· exact inferInstance); (· simp; done); (· simp; done)); simp only [Act.put, List.setIfInBounds_toArray, List.set_cons_zero, List.set_cons_succ])
        first | (refine sch_look (o := ?_) (v := ?_) ?_ ?_ ?_ ?_; rotate_left 2; (· ((conv => lhs; whnf); try exact rfl)); (· rfl); (· intro w' hO'; (have hF' := Own.cells hO'; simp only [cellsOf_append, cellsOf_pt] at hF'); go_simp; (try exact rfl)); simp only [Act.put, List.setIfInBounds_toArray, List.set_cons_zero, List.set_cons_succ]) | (refine sch_pass (o := ?_) ?_ ?_ ?_; rotate_left; (· ((conv => lhs; whnf); try exact rfl)); (· rfl); simp only [Act.put, List.setIfInBounds_toArray, List.set_cons_zero, List.set_cons_succ]) | (refine sch_look (o := ?_) (v := .agg ?_) ?_ ?_ ?_ ?_; rotate_left 2; (· ((conv => lhs; whnf); try exact rfl)); (· rfl); (· intro w' hO'; refine run_opLoadS (b := ?_) (cs := ?_) (e := ?_) (f := ?_) hO' ?_ ?_ ?_ ?_; rotate_left 4; (· exact rfl); (· exact inferInstance); (· simp; done); (· simp; done)); simp only [Act.put, List.setIfInBounds_toArray, List.set_cons_zero, List.set_cons_succ])
        first | (refine sch_look (o := ?_) (v := ?_) ?_ ?_ ?_ ?_; rotate_left 2; (· ((conv => lhs; whnf); try exact rfl)); (· rfl); (· intro w' hO'; (have hF' := Own.cells hO'; simp only [cellsOf_append, cellsOf_pt] at hF'); go_simp; (try exact rfl)); simp only [Act.put, List.setIfInBounds_toArray, List.set_cons_zero, List.set_cons_succ]) | (refine sch_pass (o := ?_) ?_ ?_ ?_; rotate_left; (· ((conv => lhs; whnf); try exact rfl)); (· rfl); simp only [Act.put, List.setIfInBounds_toArray, List.set_cons_zero, List.set_cons_succ]) | (refine sch_look (o := ?_) (v := .agg ?_) ?_ ?_ ?_ ?_; rotate_left 2; (· ((conv => lhs; whnf); try exact rfl)); (· rfl); (· intro w' hO'; refine run_opLoadS (b := ?_) (cs := ?_) (e := ?_) (f := ?_) hO' ?_ ?_ ?_ ?_; rotate_left 4; (· exact rfl); (· exact inferInstance); (· simp; done); (· simp; done)); simp only [Act.put, List.setIfInBounds_toArray, List.set_cons_zero, List.set_cons_succ])
        first | (refine sch_look (o := ?_) (v := ?_) ?_ ?_ ?_ ?_; rotate_left 2; (· ((conv => lhs; whnf); try exact rfl)); (· rfl); (· intro w' hO'; (have hF' := Own.cells hO'; simp only [cellsOf_append, cellsOf_pt] at hF'); go_simp; (try exact rfl)); simp only [Act.put, List.setIfInBounds_toArray, List.set_cons_zero, List.set_cons_succ]) | (refine sch_pass (o := ?_) ?_ ?_ ?_; rotate_left; (· ((conv => lhs; whnf); try exact rfl)); (· rfl); simp only [Act.put, List.setIfInBounds_toArray, List.set_cons_zero, List.set_cons_succ]) | (refine sch_look (o := ?_) (v := .agg ?_) ?_ ?_ ?_ ?_; rotate_left 2; (· ((conv => lhs; whnf); try exact rfl)); (· rfl); (· intro w' hO'; refine run_opLoadS (b := ?_) (cs := ?_) (e := ?_) (f := ?_) hO' ?_ ?_ ?_ ?_; rotate_left 4; (· exact rfl); (· exact inferInstance); (· simp; done); (· simp; done)); simp only [Act.put, List.setIfInBounds_toArray, List.set_cons_zero, List.set_cons_succ])
        refine sch_done ?_
        go_wp2_with fail
        rw [← HPOST.out]
        refine ⟨i, HAT.out, ?_, hO.as _⟩
        rw [HTH.out]
        rfl
end Go.Proofs.YticclennllklpaaDoor

/- The method: given, find. -/
namespace Go.Proofs.YticclennllklpaaDoor
open Go Go.RowKit Go.Own Go.Dt

def plainF (p : Nat) (sa : Option Addr) (n cap : Nat) : Fr := pt p (.cells #[.bool true, .slice sa n cap] 66 (0, 0))
set_option maxRecDepth 100000 in
set_option maxHeartbeats 16000000 in
theorem pGiven (E w : World) (X R : Fr) (p n cap : Nat) (sa : Option Addr) (hO : Own E w X) [hp : Pick X (plainF p sa n cap) R] :
    Calls Tryd.prog 33 #[.pointer (some ⟨p, 0, none⟩)] w fun e w' => e = .returned (.bool true) ∧ w = w' := by
  have hO1 := hO.perm hp.perm
  unfold plainF at hO1
  have hc : w.cell? ⟨p, 0, none⟩ = some (.bool true) := by rw [hO1.cell (b := p)]; rfl
  clear hO hO1
  go_enter Tryd.func33, Tryd.ntmps33
  go_wp2_with fail
  go_ret
  exact ⟨rfl, rfl⟩
/-- May an entry be? -/
def okE (e : En) : Bool := e.d.ok && decide (0 ≤ e.t) && decide (e.t < 16777216)
theorem okB_iff {e : En} (hw : e.d.wf) : okE e = true ↔ e.ok := by
  unfold okE En.ok
  simp only [Bool.and_eq_true, decide_eq_true_eq]
  exact ⟨fun h => ⟨h.1.1, hw, h.1.2, h.2⟩, fun h => ⟨⟨h.1, h.2.2.1⟩, h.2.2.2⟩⟩
def FindPP (E : World) (hs : List Hl) (y : En) (X : Fr) (e : Ending) (w' : World) : Prop :=
  ((okE y = true ∧ ∃ k : Nat, At (esOf hs) y k ∧ e = .returned (.tuple #[.int .i64 k, .bool (thereE (esOf hs) y k), .int .i64 0])) ∨ (okE y = false ∧ e = .returned (.tuple #[.int .i64 0, .bool false, .int .i64 1]))) ∧ Own E w' X
set_option maxRecDepth 100000 in
set_option maxHeartbeats 16000000 in
theorem pFind0 (E w : World) (X R S I : Fr) (p : Nat) (sa : Option Addr) (cap : Nat) (hs : List Hl) (hl : hs.length ≤ 2000000000000) (hE : (esOf hs).Pairwise elt) (hS : Sl 79 6 sa hs.length cap (hs.flatMap Hl.v) S) (y : En) (ay : Option Addr) (cy : Nat) (hw : y.d.wf) (hI : ItemsAt E I ay y.d.l) (hG : MaxL E I) (hO : Own E w X) [hp : Pick X (plainF p sa hs.length cap ++ (S ++ I)) R] :
    Calls Tryd.prog 27 #[.pointer (some ⟨p, 0, none⟩), .agg #[.int .i64 y.d.k, .int .i64 y.d.n, .string y.d.s, .slice ay y.d.l.length cy, .int .i64 y.t]] w (FindPP E hs y (plainF p sa hs.length cap ++ (S ++ (I ++ R)))) := by
  replace hO : Own E w (plainF p sa hs.length cap ++ (S ++ (I ++ R))) := by have := hO.perm hp.perm; rwa [List.append_assoc, List.append_assoc] at this
  clear hp
  generalize hpost : FindPP E hs y (plainF p sa hs.length cap ++ (S ++ (I ++ R))) = POST
  have HPOST := Lib.hid hpost
  clear hpost
  by_cases ht : 0 ≤ y.t ∧ y.t < 16777216
  rotate_left
  · have hb : okE y = false := by
      unfold okE
      by_cases h0 : 0 ≤ y.t
      · rw [decide_eq_false (p := y.t < 16777216) (fun h => ht ⟨h0, h⟩), Bool.and_false]
      · rw [decide_eq_false h0, Bool.and_false, Bool.false_and]
    have HB := Lib.hid hb
    clear hb
    have hcs : (y.t < 0) ∨ (¬ y.t < 0 ∧ (16777216 : Int) ≤ y.t) := by omega
    clear ht
    rcases hcs with h1 | ⟨h1, h2⟩
    all_goals (
      go_enter Tryd.func27, Tryd.ntmps27
      go_wp2_with (first | (refine at_box ?_; go_must (refine own_box (v := ?_) hO ?_ ?_ ?_; rotate_left; (· rfl); (· ((conv => lhs; whnf); try exact rfl)); clear hO; (try clear hF); intro ob _ hO; (try simp only [Value.cells] at hO); ((try simp only [List.nil_append, List.append_nil] at hO); have hF := Own.cells hO; simp only [cellsOf_append, cellsOf_pt] at hF); simp only [Act.put, List.setIfInBounds_toArray, List.set_cons_zero, List.set_cons_succ])) | (go_at_call 33; refine (pGiven E _ _ _ p hs.length cap sa hO).mono ?_; rintro e w1 ⟨rfl, rfl⟩))
      go_ret3
      rw [← HPOST.out]
      exact ⟨.inr ⟨HB.out, rfl⟩, hO.as _⟩)
  obtain ⟨h1, h2⟩ := ht
  have h3 : ¬ y.t < 0 := by omega
  have h4 : ¬ (16777216 : Int) ≤ y.t := by omega
  have hbo : okE y = y.d.ok := by unfold okE; rw [decide_eq_true h1, decide_eq_true h2, Bool.and_true, Bool.and_true]
  have HBO := Lib.hid hbo
  clear hbo h1 h2
  go_enter Tryd.func27, Tryd.ntmps27
  go_wp2_with (first | (refine at_box ?_; go_must (refine own_box (v := ?_) hO ?_ ?_ ?_; rotate_left; (· rfl); (· ((conv => lhs; whnf); try exact rfl)); clear hO; (try clear hF); intro ob _ hO; (try simp only [Value.cells] at hO); ((try simp only [List.nil_append, List.append_nil] at hO); have hF := Own.cells hO; simp only [cellsOf_append, cellsOf_pt] at hF); simp only [Act.put, List.setIfInBounds_toArray, List.set_cons_zero, List.set_cons_succ])) | (go_at_call 33; refine (pGiven E _ _ _ p hs.length cap sa hO).mono ?_; rintro e w1 ⟨rfl, rfl⟩) | (refine at_load ?_; refine own_loadS (b := ?_) (cs := ?_) (e := ?_) (f := ?_) hO ?_ ?_ ?_ ?_ ?_ ?_; rotate_left 4; (· rfl); (· rfl); (· exact inferInstance); (· simp; done); (· simp [Value.cells]; done); simp only [Act.put, List.setIfInBounds_toArray, List.set_cons_zero, List.set_cons_succ]))
  refine (datBytes E _ _ _ I y.d ay cy hw hI hG hO).mono ?_
  clear hO hF
  rintro e w2 ⟨rfl, hO⟩
  replace hO := hO.as (pt ob (.cells #[.int .i64 y.d.k, .int .i64 y.d.n, .string y.d.s, .slice ay y.d.l.length cy, .int .i64 y.t] 32 (0, 0)) ++ (plainF p sa hs.length cap ++ (S ++ (I ++ R))))
  by_cases hd : y.d.ok = true
  rotate_left
  · have hd2 : y.d.ok = false := by simpa using hd
    have HD := Lib.hid hd2
    rw [if_neg hd]
    clear hd hd2
    go_wp2_with fail
    go_ret3
    rw [← HPOST.out]
    exact ⟨.inr ⟨by rw [HBO.out, HD.out], rfl⟩, hO.as _⟩
  have HD := Lib.hid hd
  rw [if_pos hd]
  clear hd
  go_wp2_with fail
  (try (go_wp2_with fail))
  refine region_sch (fun w' => Own E w' (pt ob (.cells #[.int .i64 y.d.k, .int .i64 y.d.n, .string y.d.s, .slice ay y.d.l.length cy, .int .i64 y.t] 32 (0, 0)) ++ plainF p sa hs.length cap)) (.look 0 (.look 1 (.look 2 (.look 3 (.look 4 (.look 5 (.look 6 (.act 7 (.look 8 (.look 9 (.look 10 (.look 11 (.look 12 .done))))))))))))) (by kernel_rfl) (by kernel_rfl) (fun _ _ d _ _ h => by cases d <;> exact h) ?_ ?_
  · exact hO.drew.as _
  replace hO := hO.drew
  generalize World.drew _ = wdr at hO ⊢
  first | (refine sch_look (o := ?_) (v := ?_) ?_ ?_ ?_ ?_; rotate_left 2; (· ((conv => lhs; whnf); try exact rfl)); (· rfl); (· intro w' hO'; have c1 : w'.cell? ⟨p, 1, none⟩ = some (.slice sa hs.length cap) := (by unfold plainF at hO'; rw [hO'.cell (b := p)]; rfl); go_simp; (try exact rfl)); simp only [Act.put, List.setIfInBounds_toArray, List.set_cons_zero, List.set_cons_succ]) | (refine sch_pass (o := ?_) ?_ ?_ ?_; rotate_left; (· ((conv => lhs; whnf); try exact rfl)); (· rfl); simp only [Act.put, List.setIfInBounds_toArray, List.set_cons_zero, List.set_cons_succ]) | (refine sch_look (o := ?_) (v := .agg ?_) ?_ ?_ ?_ ?_; rotate_left 2; (· ((conv => lhs; whnf); try exact rfl)); (· rfl); (· intro w' hO'; refine run_opLoadS (b := ?_) (cs := ?_) (e := ?_) (f := ?_) hO' ?_ ?_ ?_ ?_; rotate_left 4; (· exact rfl); (· exact inferInstance); (· simp; done); (· simp; done)); simp only [Act.put, List.setIfInBounds_toArray, List.set_cons_zero, List.set_cons_succ])
  first | (refine sch_look (o := ?_) (v := ?_) ?_ ?_ ?_ ?_; rotate_left 2; (· ((conv => lhs; whnf); try exact rfl)); (· rfl); (· intro w' hO'; have c1 : w'.cell? ⟨p, 1, none⟩ = some (.slice sa hs.length cap) := (by unfold plainF at hO'; rw [hO'.cell (b := p)]; rfl); go_simp; (try exact rfl)); simp only [Act.put, List.setIfInBounds_toArray, List.set_cons_zero, List.set_cons_succ]) | (refine sch_pass (o := ?_) ?_ ?_ ?_; rotate_left; (· ((conv => lhs; whnf); try exact rfl)); (· rfl); simp only [Act.put, List.setIfInBounds_toArray, List.set_cons_zero, List.set_cons_succ]) | (refine sch_look (o := ?_) (v := .agg ?_) ?_ ?_ ?_ ?_; rotate_left 2; (· ((conv => lhs; whnf); try exact rfl)); (· rfl); (· intro w' hO'; refine run_opLoadS (b := ?_) (cs := ?_) (e := ?_) (f := ?_) hO' ?_ ?_ ?_ ?_; rotate_left 4; (· exact rfl); (· exact inferInstance); (· simp; done); (· simp; done)); simp only [Act.put, List.setIfInBounds_toArray, List.set_cons_zero, List.set_cons_succ])
  first | (refine sch_look (o := ?_) (v := ?_) ?_ ?_ ?_ ?_; rotate_left 2; (· ((conv => lhs; whnf); try exact rfl)); (· rfl); (· intro w' hO'; have c1 : w'.cell? ⟨p, 1, none⟩ = some (.slice sa hs.length cap) := (by unfold plainF at hO'; rw [hO'.cell (b := p)]; rfl); go_simp; (try exact rfl)); simp only [Act.put, List.setIfInBounds_toArray, List.set_cons_zero, List.set_cons_succ]) | (refine sch_pass (o := ?_) ?_ ?_ ?_; rotate_left; (· ((conv => lhs; whnf); try exact rfl)); (· rfl); simp only [Act.put, List.setIfInBounds_toArray, List.set_cons_zero, List.set_cons_succ]) | (refine sch_look (o := ?_) (v := .agg ?_) ?_ ?_ ?_ ?_; rotate_left 2; (· ((conv => lhs; whnf); try exact rfl)); (· rfl); (· intro w' hO'; refine run_opLoadS (b := ?_) (cs := ?_) (e := ?_) (f := ?_) hO' ?_ ?_ ?_ ?_; rotate_left 4; (· exact rfl); (· exact inferInstance); (· simp; done); (· simp; done)); simp only [Act.put, List.setIfInBounds_toArray, List.set_cons_zero, List.set_cons_succ])
  first | (refine sch_look (o := ?_) (v := ?_) ?_ ?_ ?_ ?_; rotate_left 2; (· ((conv => lhs; whnf); try exact rfl)); (· rfl); (· intro w' hO'; have c1 : w'.cell? ⟨p, 1, none⟩ = some (.slice sa hs.length cap) := (by unfold plainF at hO'; rw [hO'.cell (b := p)]; rfl); go_simp; (try exact rfl)); simp only [Act.put, List.setIfInBounds_toArray, List.set_cons_zero, List.set_cons_succ]) | (refine sch_pass (o := ?_) ?_ ?_ ?_; rotate_left; (· ((conv => lhs; whnf); try exact rfl)); (· rfl); simp only [Act.put, List.setIfInBounds_toArray, List.set_cons_zero, List.set_cons_succ]) | (refine sch_look (o := ?_) (v := .agg ?_) ?_ ?_ ?_ ?_; rotate_left 2; (· ((conv => lhs; whnf); try exact rfl)); (· rfl); (· intro w' hO'; refine run_opLoadS (b := ?_) (cs := ?_) (e := ?_) (f := ?_) hO' ?_ ?_ ?_ ?_; rotate_left 4; (· exact rfl); (· exact inferInstance); (· simp; done); (· simp; done)); simp only [Act.put, List.setIfInBounds_toArray, List.set_cons_zero, List.set_cons_succ])
  first | (refine sch_look (o := ?_) (v := ?_) ?_ ?_ ?_ ?_; rotate_left 2; (· ((conv => lhs; whnf); try exact rfl)); (· rfl); (· intro w' hO'; have c1 : w'.cell? ⟨p, 1, none⟩ = some (.slice sa hs.length cap) := (by unfold plainF at hO'; rw [hO'.cell (b := p)]; rfl); go_simp; (try exact rfl)); simp only [Act.put, List.setIfInBounds_toArray, List.set_cons_zero, List.set_cons_succ]) | (refine sch_pass (o := ?_) ?_ ?_ ?_; rotate_left; (· ((conv => lhs; whnf); try exact rfl)); (· rfl); simp only [Act.put, List.setIfInBounds_toArray, List.set_cons_zero, List.set_cons_succ]) | (refine sch_look (o := ?_) (v := .agg ?_) ?_ ?_ ?_ ?_; rotate_left 2; (· ((conv => lhs; whnf); try exact rfl)); (· rfl); (· intro w' hO'; refine run_opLoadS (b := ?_) (cs := ?_) (e := ?_) (f := ?_) hO' ?_ ?_ ?_ ?_; rotate_left 4; (· exact rfl); (· exact inferInstance); (· simp; done); (· simp; done)); simp only [Act.put, List.setIfInBounds_toArray, List.set_cons_zero, List.set_cons_succ])
  (refine sch_look (o := ?_) (v := .agg #[.int .i64 y.d.k, .int .i64 y.d.n, .string y.d.s, .slice ay y.d.l.length cy, .int .i64 y.t]) ?_ ?_ ?_ ?_; rotate_left; (· ((conv => lhs; whnf); try exact rfl)); (· rfl); (· intro w' hO'; exact run_opLoadS (b := ob) (cs := #[.int .i64 y.d.k, .int .i64 y.d.n, .string y.d.s, .slice ay y.d.l.length cy, .int .i64 y.t]) (e := 32) (f := _) hO' rfl inferInstance (by simp) (by simp)); simp only [Act.put, List.setIfInBounds_toArray, List.set_cons_zero, List.set_cons_succ])
  first | (refine sch_look (o := ?_) (v := ?_) ?_ ?_ ?_ ?_; rotate_left 2; (· ((conv => lhs; whnf); try exact rfl)); (· rfl); (· intro w' hO'; have c1 : w'.cell? ⟨p, 1, none⟩ = some (.slice sa hs.length cap) := (by unfold plainF at hO'; rw [hO'.cell (b := p)]; rfl); go_simp; (try exact rfl)); simp only [Act.put, List.setIfInBounds_toArray, List.set_cons_zero, List.set_cons_succ]) | (refine sch_pass (o := ?_) ?_ ?_ ?_; rotate_left; (· ((conv => lhs; whnf); try exact rfl)); (· rfl); simp only [Act.put, List.setIfInBounds_toArray, List.set_cons_zero, List.set_cons_succ]) | (refine sch_look (o := ?_) (v := .agg ?_) ?_ ?_ ?_ ?_; rotate_left 2; (· ((conv => lhs; whnf); try exact rfl)); (· rfl); (· intro w' hO'; refine run_opLoadS (b := ?_) (cs := ?_) (e := ?_) (f := ?_) hO' ?_ ?_ ?_ ?_; rotate_left 4; (· exact rfl); (· exact inferInstance); (· simp; done); (· simp; done)); simp only [Act.put, List.setIfInBounds_toArray, List.set_cons_zero, List.set_cons_succ])
  (refine sch_act (o := ?_) ?_ ?_; rotate_left; (· ((conv => lhs; whnf); try exact rfl)))
  go_wp2_with fail
  refine (bSearch E _ _ _ S sa cap hs hl hE hS y ay cy hO).mono ?_
  clear hO
  rintro e w5 ⟨k, hAt, rfl, hO⟩
  go_wp2_with fail
  refine ⟨hO.as _, ?_⟩
  first | (refine sch_look (o := ?_) (v := ?_) ?_ ?_ ?_ ?_; rotate_left 2; (· ((conv => lhs; whnf); try exact rfl)); (· rfl); (· intro w' hO'; have c1 : w'.cell? ⟨p, 1, none⟩ = some (.slice sa hs.length cap) := (by unfold plainF at hO'; rw [hO'.cell (b := p)]; rfl); go_simp; (try exact rfl)); simp only [Act.put, List.setIfInBounds_toArray, List.set_cons_zero, List.set_cons_succ]) | (refine sch_pass (o := ?_) ?_ ?_ ?_; rotate_left; (· ((conv => lhs; whnf); try exact rfl)); (· rfl); simp only [Act.put, List.setIfInBounds_toArray, List.set_cons_zero, List.set_cons_succ]) | (refine sch_look (o := ?_) (v := .agg ?_) ?_ ?_ ?_ ?_; rotate_left 2; (· ((conv => lhs; whnf); try exact rfl)); (· rfl); (· intro w' hO'; refine run_opLoadS (b := ?_) (cs := ?_) (e := ?_) (f := ?_) hO' ?_ ?_ ?_ ?_; rotate_left 4; (· exact rfl); (· exact inferInstance); (· simp; done); (· simp; done)); simp only [Act.put, List.setIfInBounds_toArray, List.set_cons_zero, List.set_cons_succ])
  first | (refine sch_look (o := ?_) (v := ?_) ?_ ?_ ?_ ?_; rotate_left 2; (· ((conv => lhs; whnf); try exact rfl)); (· rfl); (· intro w' hO'; have c1 : w'.cell? ⟨p, 1, none⟩ = some (.slice sa hs.length cap) := (by unfold plainF at hO'; rw [hO'.cell (b := p)]; rfl); go_simp; (try exact rfl)); simp only [Act.put, List.setIfInBounds_toArray, List.set_cons_zero, List.set_cons_succ]) | (refine sch_pass (o := ?_) ?_ ?_ ?_; rotate_left; (· ((conv => lhs; whnf); try exact rfl)); (· rfl); simp only [Act.put, List.setIfInBounds_toArray, List.set_cons_zero, List.set_cons_succ]) | (refine sch_look (o := ?_) (v := .agg ?_) ?_ ?_ ?_ ?_; rotate_left 2; (· ((conv => lhs; whnf); try exact rfl)); (· rfl); (· intro w' hO'; refine run_opLoadS (b := ?_) (cs := ?_) (e := ?_) (f := ?_) hO' ?_ ?_ ?_ ?_; rotate_left 4; (· exact rfl); (· exact inferInstance); (· simp; done); (· simp; done)); simp only [Act.put, List.setIfInBounds_toArray, List.set_cons_zero, List.set_cons_succ])
  first | (refine sch_look (o := ?_) (v := ?_) ?_ ?_ ?_ ?_; rotate_left 2; (· ((conv => lhs; whnf); try exact rfl)); (· rfl); (· intro w' hO'; have c1 : w'.cell? ⟨p, 1, none⟩ = some (.slice sa hs.length cap) := (by unfold plainF at hO'; rw [hO'.cell (b := p)]; rfl); go_simp; (try exact rfl)); simp only [Act.put, List.setIfInBounds_toArray, List.set_cons_zero, List.set_cons_succ]) | (refine sch_pass (o := ?_) ?_ ?_ ?_; rotate_left; (· ((conv => lhs; whnf); try exact rfl)); (· rfl); simp only [Act.put, List.setIfInBounds_toArray, List.set_cons_zero, List.set_cons_succ]) | (refine sch_look (o := ?_) (v := .agg ?_) ?_ ?_ ?_ ?_; rotate_left 2; (· ((conv => lhs; whnf); try exact rfl)); (· rfl); (· intro w' hO'; refine run_opLoadS (b := ?_) (cs := ?_) (e := ?_) (f := ?_) hO' ?_ ?_ ?_ ?_; rotate_left 4; (· exact rfl); (· exact inferInstance); (· simp; done); (· simp; done)); simp only [Act.put, List.setIfInBounds_toArray, List.set_cons_zero, List.set_cons_succ])
  first | (refine sch_look (o := ?_) (v := ?_) ?_ ?_ ?_ ?_; rotate_left 2; (· ((conv => lhs; whnf); try exact rfl)); (· rfl); (· intro w' hO'; have c1 : w'.cell? ⟨p, 1, none⟩ = some (.slice sa hs.length cap) := (by unfold plainF at hO'; rw [hO'.cell (b := p)]; rfl); go_simp; (try exact rfl)); simp only [Act.put, List.setIfInBounds_toArray, List.set_cons_zero, List.set_cons_succ]) | (refine sch_pass (o := ?_) ?_ ?_ ?_; rotate_left; (· ((conv => lhs; whnf); try exact rfl)); (· rfl); simp only [Act.put, List.setIfInBounds_toArray, List.set_cons_zero, List.set_cons_succ]) | (refine sch_look (o := ?_) (v := .agg ?_) ?_ ?_ ?_ ?_; rotate_left 2; (· ((conv => lhs; whnf); try exact rfl)); (· rfl); (· intro w' hO'; refine run_opLoadS (b := ?_) (cs := ?_) (e := ?_) (f := ?_) hO' ?_ ?_ ?_ ?_; rotate_left 4; (· exact rfl); (· exact inferInstance); (· simp; done); (· simp; done)); simp only [Act.put, List.setIfInBounds_toArray, List.set_cons_zero, List.set_cons_succ])
  first | (refine sch_look (o := ?_) (v := ?_) ?_ ?_ ?_ ?_; rotate_left 2; (· ((conv => lhs; whnf); try exact rfl)); (· rfl); (· intro w' hO'; have c1 : w'.cell? ⟨p, 1, none⟩ = some (.slice sa hs.length cap) := (by unfold plainF at hO'; rw [hO'.cell (b := p)]; rfl); go_simp; (try exact rfl)); simp only [Act.put, List.setIfInBounds_toArray, List.set_cons_zero, List.set_cons_succ]) | (refine sch_pass (o := ?_) ?_ ?_ ?_; rotate_left; (· ((conv => lhs; whnf); try exact rfl)); (· rfl); simp only [Act.put, List.setIfInBounds_toArray, List.set_cons_zero, List.set_cons_succ]) | (refine sch_look (o := ?_) (v := .agg ?_) ?_ ?_ ?_ ?_; rotate_left 2; (· ((conv => lhs; whnf); try exact rfl)); (· rfl); (· intro w' hO'; refine run_opLoadS (b := ?_) (cs := ?_) (e := ?_) (f := ?_) hO' ?_ ?_ ?_ ?_; rotate_left 4; (· exact rfl); (· exact inferInstance); (· simp; done); (· simp; done)); simp only [Act.put, List.setIfInBounds_toArray, List.set_cons_zero, List.set_cons_succ])
  refine sch_done ?_
  have HAT := Lib.hid hAt
  clear hAt
  go_wp2_with fail
  go_ret3
  rw [← HPOST.out]
  exact ⟨.inl ⟨by rw [HBO.out, HD.out], k, HAT.out, rfl⟩, hO.as _⟩
end Go.Proofs.YticclennllklpaaDoor

/- append of noughts where a new row is made: the old one stays. -/
namespace Go.Own
open Go.RowKit
section
variable {P : Program} {ops : Array Oper} {Q : Exit → Act → World → Prop} {rest : List Oper} {a : Act} {E w : World} {X A R : Fr} {d : Option Tmp} {ty : TypeId} {pos : String} {aft : Array Edge} {g : Option (Nat × Bool)}
theorem own_append_zeros_new {t tx e : TypeId} {xi : Int} {sz bytes : Nat} {z : Value} {s x : Operand} {sa : Option Addr} {n cap m : Nat} {xs : List Value} (hT : SlT P t e sz bytes z) (htx : P.underlying tx = some (.int .i64)) (hO : Own E w X)
    (hw : Region.wanted ⟨d, .call { callee := .builtin .append, args := #[s, x], argTypes := #[t, tx] }, ty, pos, aft, g⟩ (yielded ops a.tmps) = true)
    (hs : a.eval s = .slice sa n cap) (hx : a.eval x = .int .i64 xi) (hxm : xi = m) (hv : Sl e sz sa n cap xs A) [hp : Pick X A R]
    (hgrow : cap < n + m) (h63 : n + m ≤ maxLen) (hmb0 : m * bytes ≤ 281474976710656) (hfit : Builtin.nextslicecap (n + m) cap * bytes ≤ 281474976710656)
    (next : ∀ a' cap' A' w1, n + m ≤ cap' → Sl e sz (some a') (n + m) cap' (xs ++ (Builtin.zeroCells z.cells m).toList) A' → Own E w1 (A' ++ X) → wpList P ops Q rest (a.put d (.slice (some a') (n + m) cap')) w1) :
    wpList P ops Q (⟨d, .call { callee := .builtin .append, args := #[s, x], argTypes := #[t, tx] }, ty, pos, aft, g⟩ :: rest) a w := by
  obtain ⟨i, hi, hz, hsz, hby⟩ := hT.parts
  subst hxm
  subst hsz hby
  have hl : (Builtin.zeroCells z.cells m).toList.length = m * i.size := by rw [Array.length_toList, size_zeroCells, hT.zs]
  have hxs : (xs ++ (Builtin.zeroCells z.cells m).toList).length = (n + m) * i.size := by rw [List.length_append, hv.1, hl, Nat.add_mul]
  have hwrap : IntKind.i64.wrap (m : Int) = m := by
    have h := IntWalk.i64_in (n := (m : Int)) (by simp only [maxLen] at h63; omega)
    exact h
  have hnn : ¬ ((m : Int) < 0) := by omega
  have hmb : ¬ (281474976710656 < (m : Int) * (i.bytes : Int)) := by
    have : ((m * i.bytes : Nat) : Int) = (m : Int) * (i.bytes : Int) := by simp
    omega
  have hz0 : m * i.size = 0 → Builtin.zeroCells z.cells m = #[] := by
    intro h0
    apply Array.eq_empty_of_size_eq_zero
    rw [size_zeroCells, hT.zs]; exact h0
  have hroom : ¬ n + m ≤ cap := by omega
  have h63' : ¬ (9223372036854775807 < ((n : Int) + (m : Int)) ) := by simp only [maxLen] at h63; omega
  have hfit2 : ¬ (281474976710656 < Builtin.nextslicecap (n + m) cap * i.bytes) := by omega
  have hfo := hv.firstCells (P := P) hO.drew
  have hO2 := (hO.drew).alloc (.cells (xs.toArray ++ (Builtin.zeroCells z.cells m) ++ Builtin.zeroCells z.cells (grownCap w (n + m) cap e - (n + m))) e)
  have hge := grownCap_ge w (n + m) cap e
  have hr : (Builtin.append_ #[t, tx] ty #[.slice sa n cap, .int .i64 m]).run P w = .ok (.slice (some ⟨w.heap.size, 0, none⟩) (n + m) (grownCap w (n + m) cap e)) (w.drew.alloc (.cells (xs.toArray ++ (Builtin.zeroCells z.cells m) ++ Builtin.zeroCells z.cells (grownCap w (n + m) cap e - (n + m))) e)) := by
    simp [Builtin.append_, run_underlying hT.und, run_underlying htx, sizeOf, typeInfo, zeroValue, hi, hz, asInt, asIntOf, hwrap, hnn, hmb, hroom, h63', hfit2, Question.forced, hfo, newRow, grownCap]
    intro h0
    rw [hz0 h0]
    simp
  have e1 : (xs.toArray ++ (Builtin.zeroCells z.cells m) ++ Builtin.zeroCells z.cells (grownCap w (n + m) cap e - (n + m))) = ((xs ++ (Builtin.zeroCells z.cells m).toList) ++ (Builtin.zeroCells z.cells (grownCap w (n + m) cap e - (n + m))).toList).toArray := by
    apply Array.ext'; simp
  rw [e1] at hO2 hr
  refine wpList_run_value hw ?_ (next ⟨w.heap.size, 0, none⟩ _ _ _ hge (Sl.mk hxs hge (grownCap_le_maxLen w _ _ _ h63) ?_) hO2)
  · rw [execOp_append, hs, hx]
    simp [hr]
  · rw [List.length_append, hxs, Array.length_toList, size_zeroCells, hT.zs, ← Nat.add_mul]
    congr 1
    omega
/-- A slice, seen one element longer. -/
theorem Sl.longer {e : TypeId} {sz : Nat} {sa : Option Addr} {n cap : Nat} {xs : List Value} {A : Fr} (h : Sl e sz sa n cap xs A) (hc : n + 1 ≤ cap) : ∃ ys : List Value, ys.length = sz ∧ Sl e sz sa (n + 1) cap (xs ++ ys) A := by
  obtain ⟨h1, h2, h3, h4⟩ := h
  rcases h4 with ⟨_, hc0, _⟩ | ⟨b, rst, ha, hl, hA⟩
  · omega
  · have hm : (n + 1) * sz ≤ cap * sz := Nat.mul_le_mul_right sz hc
    rw [Nat.succ_mul] at hm
    rw [List.length_append] at hl
    refine ⟨rst.take sz, by rw [List.length_take]; omega, ?_, hc, h3, .inr ⟨b, rst.drop sz, ha, ?_, ?_⟩⟩
    · rw [List.length_append, List.length_take, h1, Nat.succ_mul]; omega
    · rw [List.append_assoc, List.take_append_drop, List.length_append]; exact hl
    · rw [hA, List.append_assoc, List.take_append_drop]
/-- The growth of a slice by one fits where the slice is not too long. -/
theorem next_fits {n cap bytes : Nat} (hc : cap = n) (hn : n ≤ 2000000000000) (hb : bytes ≤ 96) : Builtin.nextslicecap (n + 1) cap * bytes ≤ 281474976710656 := by
  subst hc
  have key : Builtin.nextslicecap (cap + 1) cap ≤ 2500000000512 := by
    unfold Builtin.nextslicecap
    split
    · omega
    · split
      · omega
      · unfold Builtin.growBy
        rw [if_neg (by omega)]
        unfold Builtin.growBy
        rw [if_pos (by omega)]
        omega
  have := Nat.mul_le_mul key hb
  omega
end
end Go.Own

/- The library's Insert at held entries. -/
namespace Go.Proofs.YticclennllklpaaDoor
open Go Go.RowKit Go.Own Go.Dt

theorem sltH : SlT Tryd.prog 64 79 6 80 (.agg #[.string .empty, .int .i64 0, .int .i64 0, .string .empty, .slice none 0 0, .int .i64 0]) := ⟨by kernel_rfl, by kernel_rfl, rfl⟩
theorem first_pt {E w : World} {X R : Fr} {b : Nat} {e : TypeId} {f : Nat × Nat} {vs : List Value} {sz : Nat} {P : Program} (h6 : vs.length = 1 * sz) (hO : Own E w X) [hp : PickPt X b (.cells vs.toArray e f) R] : (Builtin.firstCells sz 1 (.slice (some ⟨b, 0, none⟩) 1 1)).run P w = .ok vs.toArray w := by
  refine run_firstCells_some w sz 1 ⟨b, 0, none⟩ 1 1 _ h6 ?_
  intro j v hj
  have hO1 := hO.pickPt (b := b)
  rw [add_lit, hO1.cell (b := b), Nat.zero_add]
  simpa using hj
def InsP (E : World) (n i : Nat) (xs vs : List Value) (R : Fr) (e : Ending) (w' : World) : Prop :=
  ∃ (so : Option Addr) (co : Nat) (SO : Fr), e = .returned (.slice so (n + 1) co) ∧ Sl 79 6 so (n + 1) co (xs.take (i * 6) ++ vs ++ xs.drop (i * 6)) SO ∧ Own E w' (SO ++ R)
set_option maxRecDepth 100000 in
set_option maxHeartbeats 16000000 in
theorem insEnd (E w : World) (X R S : Fr) (sa : Option Addr) (cap n : Nat) (xs : List Value) (hn : n ≤ 2000000000000) (hS : Sl 79 6 sa n cap xs S) (vb : Nat) (vs : List Value) (h6 : vs.length = 6) (h1 : ∀ u ∈ vs, u.oneCell' = true) (hO : Own E w X) [hp : Pick X (S ++ pt vb (.cells vs.toArray 79 (0, 0))) R] :
    Calls Tryd.prog 29 #[.slice sa n cap, .int .i64 n, .slice (some ⟨vb, 0, none⟩) 1 1] w (InsP E n n xs vs R) := by
  replace hO : Own E w (S ++ (pt vb (.cells vs.toArray 79 (0, 0)) ++ R)) := by have := hO.perm hp.perm; rwa [List.append_assoc] at this
  clear hp
  generalize hpost : InsP E n n xs vs R = POST
  have HPOST := Lib.hid hpost
  clear hpost
  have H6 := Lib.hid h6
  have H1 := Lib.hid h1
  clear h6 h1
  have hcap := hS.le
  have g1 : (0 : Int) ≤ n := by omega
  by_cases hcn : cap = n
  · subst hcn
    go_enter Tryd.func29, Tryd.ntmps29
    go_wp2_with (first | (refine at_append ?_; refine Stop.go ?_))
    refine ⟨?_⟩
    refine own_appendG (sz := 6) (bytes := 80) (z := .agg #[.string .empty, .int .i64 0, .int .i64 0, .string .empty, .slice none 0 0, .int .i64 0]) (e := 79) (xv := .slice (some ⟨vb, 0, none⟩) 1 1) (m := 1) (news := vs) sltH (.inl (by kernel_rfl)) hO ?_ ?_ ?_ hS ?_ ?_ ?_ ?_ ?_ ?_ ?_
    · rfl
    · rfl
    · rfl
    · intro w; rfl
    · intro w' hO'; exact first_pt (sz := 6) (by rw [H6.out]) hO'
    · rw [H6.out]
    · exact H1.out
    · simp only [maxLen]; omega
    · intro hc; exact next_fits (by omega) hn (by decide)
    clear hO
    intro so2 co2 SO2 w4 hSO2 hO
    simp only [Act.put, List.setIfInBounds_toArray, List.set_cons_zero, List.set_cons_succ]
    go_wp2_with fail
    rw [← HPOST.out]
    have e1 : ∀ k, k = xs.length → xs.take k ++ vs ++ xs.drop k = xs ++ vs := fun k hk => by
      rw [hk, List.take_length, List.drop_length, List.append_nil]
    exact ⟨so2, co2, SO2, rfl, by rw [e1 _ hS.len.symm]; exact hSO2, hO.as _⟩
  · have hcn2 : ¬ n = cap := fun h => hcn h.symm
    go_enter Tryd.func29, Tryd.ntmps29
    go_wp2_with (first | (refine at_append ?_; refine Stop.go ?_))
    refine ⟨?_⟩
    refine own_appendG (sz := 6) (bytes := 80) (z := .agg #[.string .empty, .int .i64 0, .int .i64 0, .string .empty, .slice none 0 0, .int .i64 0]) (e := 79) (xv := .slice (some ⟨vb, 0, none⟩) 1 1) (m := 1) (news := vs) sltH (.inl (by kernel_rfl)) hO ?_ ?_ ?_ hS ?_ ?_ ?_ ?_ ?_ ?_ ?_
    · rfl
    · rfl
    · rfl
    · intro w; rfl
    · intro w' hO'; exact first_pt (sz := 6) (by rw [H6.out]) hO'
    · rw [H6.out]
    · exact H1.out
    · simp only [maxLen]; omega
    · intro hc; exact next_fits (by omega) hn (by decide)
    clear hO
    intro so2 co2 SO2 w4 hSO2 hO
    simp only [Act.put, List.setIfInBounds_toArray, List.set_cons_zero, List.set_cons_succ]
    go_wp2_with fail
    rw [← HPOST.out]
    have e1 : ∀ k, k = xs.length → xs.take k ++ vs ++ xs.drop k = xs ++ vs := fun k hk => by
      rw [hk, List.take_length, List.drop_length, List.append_nil]
    exact ⟨so2, co2, SO2, rfl, by rw [e1 _ hS.len.symm]; exact hSO2, hO.as _⟩
end Go.Proofs.YticclennllklpaaDoor
