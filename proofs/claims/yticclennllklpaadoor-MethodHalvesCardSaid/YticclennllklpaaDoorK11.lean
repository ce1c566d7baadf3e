/- The book's Does at a method. (printed by wip/gen/genDo.py P MP 24 K3) -/
import Derived.Test.YticclennllklpaaDoorK10
import Derived.Test.YticclennllklpaaDoorK7
import Derived.Test.YticclennllklpaaDoorK4
import Derived.OpenShut
set_option linter.all false
/- The book's Does at a method. (printed by wip/gen/genDo.py P MP 24 K3) -/
namespace Go.Proofs.YticclennllklpaaDoor
open Go Go.RowKit Go.Own Go.Dt

theorem ivFindP (v : Value) (w : World) : Sem.run Tryd.prog (method 271 24 v "Find") w = .ok (26, v) w := by kernel_rfl
theorem ivInsertP (v : Value) (w : World) : Sem.run Tryd.prog (method 271 24 v "Insert") w = .ok (11, v) w := by kernel_rfl
theorem ivDeleteP (v : Value) (w : World) : Sem.run Tryd.prog (method 271 24 v "Delete") w = .ok (105, v) w := by kernel_rfl
theorem ivEntriesP (v : Value) (w : World) : Sem.run Tryd.prog (method 271 24 v "Entries") w = .ok (15, v) w := by kernel_rfl
theorem ivCheckP (v : Value) (w : World) : Sem.run Tryd.prog (method 271 24 v "Check") w = .ok (104, v) w := by kernel_rfl
theorem ivDropP (v : Value) (w : World) : Sem.run Tryd.prog (method 271 24 v "Drop") w = .ok (106, v) w := by kernel_rfl
def DoesPP (E : World) (p c : Nat) (I X : Fr) (e : Ending) (w' : World) : Prop :=
  ∃ (A' : Fr) (so : Option Addr) (co : Nat) (os : List Oe) (SO : Fr), e = .returned (.tuple #[.slice so os.length co, .bool true]) ∧ LAt E I so co os SO ∧ StP E p (c + 1) (esO os) A' ∧ Own E w' (SO ++ (A' ++ X))
set_option maxRecDepth 100000 in
set_option maxHeartbeats 16000000 in
theorem doesIP (E w : World) (X R A SL KF I : Fr) (p c : Nat) (hc : c < CP) (ka : Option Addr) (kc : Nat) (hK : Sl 3 1 ka (K3).length kc ((K3).map (Value.int .i64)) KF) (sl : Option Addr) (cl : Nat) (os : List Oe) (hL : LAt E I sl cl os SL) (hA : StP E p c (esO os) A)
    (y : En) (ay : Option Addr) (cy : Nat) (hw : y.d.wf) (hI : ItemsAt E I ay y.d.l) (hG : MaxL E I) (hO : Own E w X) [hp : Pick X (A ++ (SL ++ (KF ++ I))) R] :
    Calls Tryd.prog 34 #[.iface 24 (.pointer (some ⟨p, 0, none⟩)), .slice ka (K3).length kc, .slice sl os.length cl, .agg #[.int .i64 1, .int .i64 y.d.k, .int .i64 y.d.n, .string y.d.s, .slice ay y.d.l.length cy, .int .i64 y.t]] w (DoesPP E p c I (KF ++ (I ++ R))) := by
  replace hO : Own E w (A ++ (SL ++ (KF ++ (I ++ R)))) := by have := hO.perm hp.perm; simp only [List.append_assoc] at this; exact this
  clear hp
  generalize hpost : DoesPP E p c I (KF ++ (I ++ R)) = POST
  have HPOST := Lib.hid hpost
  clear hpost
  have i0 := ivFindP (.pointer (some ⟨p, 0, none⟩))
  have i1 := ivInsertP (.pointer (some ⟨p, 0, none⟩))
  have i2 := ivDeleteP (.pointer (some ⟨p, 0, none⟩))
  have i6 := ivDropP (.pointer (some ⟨p, 0, none⟩))
  have hle := hA.le
  have hes := hA.es
  have hol : os.length ≤ c := by rwa [esO_len] at hle
  have hcb : c ≤ 2000000000000 := by have := hc; unfold CP at this; omega
  have HOK := Lib.hid (show ∀ o ∈ os, o.e.d.ok = true from fun o ho => (hes.ok o.e (List.mem_map.2 ⟨o, ho, rfl⟩)).1)
  have HWF := Lib.hid (show ∀ o ∈ os, o.e.d.wf from fun o ho => (hes.ok o.e (List.mem_map.2 ⟨o, ho, rfl⟩)).2.1)
  have HOL := Lib.hid (show os.length ≤ 2000000000000 by omega)
  have HWY := Lib.hid hw
  clear hle hes hol hcb hw
  go_enter Tryd.func34, Tryd.ntmps34
  go_wp2_with (first | (refine at_box ?_; go_must (refine own_box (v := ?_) hO ?_ ?_ ?_; rotate_left; (· rfl); (· ((conv => lhs; whnf); try exact rfl)); clear hO; (try clear hF); intro ob _ hO; (try simp only [Value.cells] at hO); ((try simp only [List.nil_append, List.append_nil] at hO); have hF := Own.cells hO; simp only [cellsOf_append, cellsOf_pt] at hF); simp only [Act.put, List.setIfInBounds_toArray, List.set_cons_zero, List.set_cons_succ])))
  replace hO : Own E _ (pt ob (.cells #[.int .i64 1, .int .i64 y.d.k, .int .i64 y.d.n, .string y.d.s, .slice ay y.d.l.length cy, .int .i64 y.t] 96 (0, 0)) ++ (A ++ (SL ++ (KF ++ (I ++ R))))) := hO.as _
  have hF := Own.cells hO; simp only [cellsOf_append, cellsOf_pt] at hF
  by_cases hr : refused (K3) y = 0
  · have hyd := okE_d (refused_ok hr).1
    have HYD := Lib.hid hyd
    have HWANT := Lib.hid hr
    clear hyd
    by_cases hm : y ∈ esO os
    · have HR := Lib.hid (show insR (K3) (esO os) y = (160, esO os) by unfold insR; rw [if_pos hr, if_pos hm])
      have HM := Lib.hid hm
      clear hr hm
      go_wp2_with fail
      (try (go_wp2_with fail))
      refine region_sch (fun w' => Own E w' (pt ob (.cells #[.int .i64 1, .int .i64 y.d.k, .int .i64 y.d.n, .string y.d.s, .slice ay y.d.l.length cy, .int .i64 y.t] 96 (0, 0)))) (.look 0 (.look 1 (.look 2 (.look 4 (.look 5 (.look 6 (.act 3 (.act 7 (.look 8 (.look 9 .done)))))))))) (by kernel_rfl) (by kernel_rfl) (fun _ _ d _ _ h => by cases d <;> exact h) ?_ ?_
      · exact hO.drew.as _
      replace hO := hO.drew
      generalize World.drew _ = wdr at hO ⊢
      first | (refine sch_look (o := ?_) (v := ?_) ?_ ?_ ?_ ?_; rotate_left 2; (· ((conv => lhs; whnf); try exact rfl)); (· rfl); (· intro w' hO'; skip; go_simp; (try exact rfl)); simp only [Act.put, List.setIfInBounds_toArray, List.set_cons_zero, List.set_cons_succ]) | (refine sch_pass (o := ?_) ?_ ?_ ?_; rotate_left; (· ((conv => lhs; whnf); try exact rfl)); (· rfl); simp only [Act.put, List.setIfInBounds_toArray, List.set_cons_zero, List.set_cons_succ]) | (refine sch_look (o := ?_) (v := .agg ?_) ?_ ?_ ?_ ?_; rotate_left 2; (· ((conv => lhs; whnf); try exact rfl)); (· rfl); (· intro w' hO'; refine run_opLoadS (b := ?_) (cs := ?_) (e := ?_) (f := ?_) hO' ?_ ?_ ?_ ?_; rotate_left 4; (· exact rfl); (· exact inferInstance); (· simp; done); (· simp; done)); simp only [Act.put, List.setIfInBounds_toArray, List.set_cons_zero, List.set_cons_succ])
      first | (refine sch_look (o := ?_) (v := ?_) ?_ ?_ ?_ ?_; rotate_left 2; (· ((conv => lhs; whnf); try exact rfl)); (· rfl); (· intro w' hO'; skip; go_simp; (try exact rfl)); simp only [Act.put, List.setIfInBounds_toArray, List.set_cons_zero, List.set_cons_succ]) | (refine sch_pass (o := ?_) ?_ ?_ ?_; rotate_left; (· ((conv => lhs; whnf); try exact rfl)); (· rfl); simp only [Act.put, List.setIfInBounds_toArray, List.set_cons_zero, List.set_cons_succ]) | (refine sch_look (o := ?_) (v := .agg ?_) ?_ ?_ ?_ ?_; rotate_left 2; (· ((conv => lhs; whnf); try exact rfl)); (· rfl); (· intro w' hO'; refine run_opLoadS (b := ?_) (cs := ?_) (e := ?_) (f := ?_) hO' ?_ ?_ ?_ ?_; rotate_left 4; (· exact rfl); (· exact inferInstance); (· simp; done); (· simp; done)); simp only [Act.put, List.setIfInBounds_toArray, List.set_cons_zero, List.set_cons_succ])
      (refine sch_look (o := ?_) (v := .agg ([.int .i64 y.d.k, .int .i64 y.d.n, .string y.d.s, .slice ay y.d.l.length cy, .int .i64 y.t] : List Value).toArray) ?_ ?_ ?_ ?_; rotate_left; (· ((conv => lhs; whnf); try exact rfl)); (· rfl); (· intro w' hO'; exact run_opLoadC (ad := ⟨ob, 1, none⟩) (cs := [.int .i64 y.d.k, .int .i64 y.d.n, .string y.d.s, .slice ay y.d.l.length cy, .int .i64 y.t]) (five_at1 hO' (hh := inferInstance)) rfl (by simp) (by simp)); simp only [Act.put, List.setIfInBounds_toArray, List.set_cons_zero, List.set_cons_succ])
      first | (refine sch_look (o := ?_) (v := ?_) ?_ ?_ ?_ ?_; rotate_left 2; (· ((conv => lhs; whnf); try exact rfl)); (· rfl); (· intro w' hO'; skip; go_simp; (try exact rfl)); simp only [Act.put, List.setIfInBounds_toArray, List.set_cons_zero, List.set_cons_succ]) | (refine sch_pass (o := ?_) ?_ ?_ ?_; rotate_left; (· ((conv => lhs; whnf); try exact rfl)); (· rfl); simp only [Act.put, List.setIfInBounds_toArray, List.set_cons_zero, List.set_cons_succ]) | (refine sch_look (o := ?_) (v := .agg ?_) ?_ ?_ ?_ ?_; rotate_left 2; (· ((conv => lhs; whnf); try exact rfl)); (· rfl); (· intro w' hO'; refine run_opLoadS (b := ?_) (cs := ?_) (e := ?_) (f := ?_) hO' ?_ ?_ ?_ ?_; rotate_left 4; (· exact rfl); (· exact inferInstance); (· simp; done); (· simp; done)); simp only [Act.put, List.setIfInBounds_toArray, List.set_cons_zero, List.set_cons_succ])
      first | (refine sch_look (o := ?_) (v := ?_) ?_ ?_ ?_ ?_; rotate_left 2; (· ((conv => lhs; whnf); try exact rfl)); (· rfl); (· intro w' hO'; skip; go_simp; (try exact rfl)); simp only [Act.put, List.setIfInBounds_toArray, List.set_cons_zero, List.set_cons_succ]) | (refine sch_pass (o := ?_) ?_ ?_ ?_; rotate_left; (· ((conv => lhs; whnf); try exact rfl)); (· rfl); simp only [Act.put, List.setIfInBounds_toArray, List.set_cons_zero, List.set_cons_succ]) | (refine sch_look (o := ?_) (v := .agg ?_) ?_ ?_ ?_ ?_; rotate_left 2; (· ((conv => lhs; whnf); try exact rfl)); (· rfl); (· intro w' hO'; refine run_opLoadS (b := ?_) (cs := ?_) (e := ?_) (f := ?_) hO' ?_ ?_ ?_ ?_; rotate_left 4; (· exact rfl); (· exact inferInstance); (· simp; done); (· simp; done)); simp only [Act.put, List.setIfInBounds_toArray, List.set_cons_zero, List.set_cons_succ])
      (refine sch_look (o := ?_) (v := .agg ([.int .i64 y.d.k, .int .i64 y.d.n, .string y.d.s, .slice ay y.d.l.length cy, .int .i64 y.t] : List Value).toArray) ?_ ?_ ?_ ?_; rotate_left; (· ((conv => lhs; whnf); try exact rfl)); (· rfl); (· intro w' hO'; exact run_opLoadC (ad := ⟨ob, 1, none⟩) (cs := [.int .i64 y.d.k, .int .i64 y.d.n, .string y.d.s, .slice ay y.d.l.length cy, .int .i64 y.t]) (five_at1 hO' (hh := inferInstance)) rfl (by simp) (by simp)); simp only [Act.put, List.setIfInBounds_toArray, List.set_cons_zero, List.set_cons_succ])
      (refine sch_act (o := ?_) ?_ ?_; rotate_left; (· ((conv => lhs; whnf); try exact rfl)))
      go_wp2_with fail
      refine (mInsP E _ _ (pt ob (.cells #[.int .i64 1, .int .i64 y.d.k, .int .i64 y.d.n, .string y.d.s, .slice ay y.d.l.length cy, .int .i64 y.t] 96 (0, 0)) ++ (SL ++ (KF ++ R))) A I p c (esO os) hc hA y ay cy HWY.out hI hG (hO.as ((A ++ I) ++ (pt ob (.cells #[.int .i64 1, .int .i64 y.d.k, .int .i64 y.d.n, .string y.d.s, .slice ay y.d.l.length cy, .int .i64 y.t] 96 (0, 0)) ++ (SL ++ (KF ++ R)))))).mono ?_
      rw [HR.out]
      clear hO hF hA
      rintro e w3 ⟨A', rfl, hA, hO⟩
      replace hO : Own E w3 (pt ob (.cells #[.int .i64 1, .int .i64 y.d.k, .int .i64 y.d.n, .string y.d.s, .slice ay y.d.l.length cy, .int .i64 y.t] 96 (0, 0)) ++ (A' ++ (SL ++ (KF ++ (I ++ R))))) := hO.as _
      go_wp2_with fail
      refine ⟨hO.as _, ?_⟩
      (refine sch_act (o := ?_) ?_ ?_; rotate_left; (· ((conv => lhs; whnf); try exact rfl)))
      go_wp2_with fail
      refine (refRefused E _ _ (pt ob (.cells #[.int .i64 1, .int .i64 y.d.k, .int .i64 y.d.n, .string y.d.s, .slice ay y.d.l.length cy, .int .i64 y.t] 96 (0, 0)) ++ (A' ++ (SL ++ R))) I KF ka kc (K3) hK y ay cy hI (hO.as ((KF ++ I) ++ (pt ob (.cells #[.int .i64 1, .int .i64 y.d.k, .int .i64 y.d.n, .string y.d.s, .slice ay y.d.l.length cy, .int .i64 y.t] 96 (0, 0)) ++ (A' ++ (SL ++ R)))))).mono ?_
      rw [HWANT.out]
      clear hO
      rintro e w4 ⟨rfl, hO⟩
      replace hO : Own E w4 (pt ob (.cells #[.int .i64 1, .int .i64 y.d.k, .int .i64 y.d.n, .string y.d.s, .slice ay y.d.l.length cy, .int .i64 y.t] 96 (0, 0)) ++ (A' ++ (SL ++ (KF ++ (I ++ R))))) := hO.as _
      go_wp2_with fail
      refine ⟨hO.as _, ?_⟩
      first | (refine sch_look (o := ?_) (v := ?_) ?_ ?_ ?_ ?_; rotate_left 2; (· ((conv => lhs; whnf); try exact rfl)); (· rfl); (· intro w' hO'; skip; go_simp; (try exact rfl)); simp only [Act.put, List.setIfInBounds_toArray, List.set_cons_zero, List.set_cons_succ]) | (refine sch_pass (o := ?_) ?_ ?_ ?_; rotate_left; (· ((conv => lhs; whnf); try exact rfl)); (· rfl); simp only [Act.put, List.setIfInBounds_toArray, List.set_cons_zero, List.set_cons_succ]) | (refine sch_look (o := ?_) (v := .agg ?_) ?_ ?_ ?_ ?_; rotate_left 2; (· ((conv => lhs; whnf); try exact rfl)); (· rfl); (· intro w' hO'; refine run_opLoadS (b := ?_) (cs := ?_) (e := ?_) (f := ?_) hO' ?_ ?_ ?_ ?_; rotate_left 4; (· exact rfl); (· exact inferInstance); (· simp; done); (· simp; done)); simp only [Act.put, List.setIfInBounds_toArray, List.set_cons_zero, List.set_cons_succ])
      first | (refine sch_look (o := ?_) (v := ?_) ?_ ?_ ?_ ?_; rotate_left 2; (· ((conv => lhs; whnf); try exact rfl)); (· rfl); (· intro w' hO'; skip; go_simp; (try exact rfl)); simp only [Act.put, List.setIfInBounds_toArray, List.set_cons_zero, List.set_cons_succ]) | (refine sch_pass (o := ?_) ?_ ?_ ?_; rotate_left; (· ((conv => lhs; whnf); try exact rfl)); (· rfl); simp only [Act.put, List.setIfInBounds_toArray, List.set_cons_zero, List.set_cons_succ]) | (refine sch_look (o := ?_) (v := .agg ?_) ?_ ?_ ?_ ?_; rotate_left 2; (· ((conv => lhs; whnf); try exact rfl)); (· rfl); (· intro w' hO'; refine run_opLoadS (b := ?_) (cs := ?_) (e := ?_) (f := ?_) hO' ?_ ?_ ?_ ?_; rotate_left 4; (· exact rfl); (· exact inferInstance); (· simp; done); (· simp; done)); simp only [Act.put, List.setIfInBounds_toArray, List.set_cons_zero, List.set_cons_succ])
      refine sch_done ?_
      replace hO : Own E _ (pt ob (.cells #[.int .i64 1, .int .i64 y.d.k, .int .i64 y.d.n, .string y.d.s, .slice ay y.d.l.length cy, .int .i64 y.t] 96 (0, 0)) ++ (A' ++ (SL ++ (KF ++ (I ++ R))))) := hO.as _
      have hF := Own.cells hO; simp only [cellsOf_append, cellsOf_pt] at hF
      go_wp2_with (first | (refine at_load (t := 32) ?_; go_must (refine own_loadC (ad := ⟨ob, 1, none⟩) (cs := [.int .i64 y.d.k, .int .i64 y.d.n, .string y.d.s, .slice ay y.d.l.length cy, .int .i64 y.t]) ?_ (five_at1 hO (hh := inferInstance)) ?_ ?_ ?_ ?_; (· rfl); (· ((conv => lhs; whnf); try exact rfl)); (· simp; done); (· simp; done); simp only [Act.put, List.setIfInBounds_toArray, List.set_cons_zero, List.set_cons_succ])) | (go_at_call 50; refine (refHas E _ _ (pt ob (.cells #[.int .i64 1, .int .i64 y.d.k, .int .i64 y.d.n, .string y.d.s, .slice ay y.d.l.length cy, .int .i64 y.t] 96 (0, 0)) ++ (A' ++ (KF ++ R))) SL I sl cl os HOL.out HOK.out hL y ay cy HYD.out hI (hO.as ((SL ++ I) ++ (pt ob (.cells #[.int .i64 1, .int .i64 y.d.k, .int .i64 y.d.n, .string y.d.s, .slice ay y.d.l.length cy, .int .i64 y.t] 96 (0, 0)) ++ (A' ++ (KF ++ R)))))).mono ?_; rw [decide_eq_true HM.out]; clear hO hF; rintro e w5 ⟨rfl, hO⟩; replace hO : Own E w5 (pt ob (.cells #[.int .i64 1, .int .i64 y.d.k, .int .i64 y.d.n, .string y.d.s, .slice ay y.d.l.length cy, .int .i64 y.t] 96 (0, 0)) ++ (A' ++ (SL ++ (KF ++ (I ++ R))))) := hO.as _; have hF := Own.cells hO; simp only [cellsOf_append, cellsOf_pt] at hF))
      rw [← HPOST.out]
      exact ⟨A', sl, cl, os, SL, rfl, hL, hA, hO.as _⟩
    · have HR := Lib.hid (show insR (K3) (esO os) y = (0, wiE y (esO os)) by unfold insR; rw [if_pos hr, if_neg hm])
      have HM := Lib.hid hm
      clear hr hm
      go_wp2_with fail
      (try (go_wp2_with fail))
      refine region_sch (fun w' => Own E w' (pt ob (.cells #[.int .i64 1, .int .i64 y.d.k, .int .i64 y.d.n, .string y.d.s, .slice ay y.d.l.length cy, .int .i64 y.t] 96 (0, 0)))) (.look 0 (.look 1 (.look 2 (.look 4 (.look 5 (.look 6 (.act 3 (.act 7 (.look 8 (.look 9 .done)))))))))) (by kernel_rfl) (by kernel_rfl) (fun _ _ d _ _ h => by cases d <;> exact h) ?_ ?_
      · exact hO.drew.as _
      replace hO := hO.drew
      generalize World.drew _ = wdr at hO ⊢
      first | (refine sch_look (o := ?_) (v := ?_) ?_ ?_ ?_ ?_; rotate_left 2; (· ((conv => lhs; whnf); try exact rfl)); (· rfl); (· intro w' hO'; skip; go_simp; (try exact rfl)); simp only [Act.put, List.setIfInBounds_toArray, List.set_cons_zero, List.set_cons_succ]) | (refine sch_pass (o := ?_) ?_ ?_ ?_; rotate_left; (· ((conv => lhs; whnf); try exact rfl)); (· rfl); simp only [Act.put, List.setIfInBounds_toArray, List.set_cons_zero, List.set_cons_succ]) | (refine sch_look (o := ?_) (v := .agg ?_) ?_ ?_ ?_ ?_; rotate_left 2; (· ((conv => lhs; whnf); try exact rfl)); (· rfl); (· intro w' hO'; refine run_opLoadS (b := ?_) (cs := ?_) (e := ?_) (f := ?_) hO' ?_ ?_ ?_ ?_; rotate_left 4; (· exact rfl); (· exact inferInstance); (· simp; done); (· simp; done)); simp only [Act.put, List.setIfInBounds_toArray, List.set_cons_zero, List.set_cons_succ])
      first | (refine sch_look (o := ?_) (v := ?_) ?_ ?_ ?_ ?_; rotate_left 2; (· ((conv => lhs; whnf); try exact rfl)); (· rfl); (· intro w' hO'; skip; go_simp; (try exact rfl)); simp only [Act.put, List.setIfInBounds_toArray, List.set_cons_zero, List.set_cons_succ]) | (refine sch_pass (o := ?_) ?_ ?_ ?_; rotate_left; (· ((conv => lhs; whnf); try exact rfl)); (· rfl); simp only [Act.put, List.setIfInBounds_toArray, List.set_cons_zero, List.set_cons_succ]) | (refine sch_look (o := ?_) (v := .agg ?_) ?_ ?_ ?_ ?_; rotate_left 2; (· ((conv => lhs; whnf); try exact rfl)); (· rfl); (· intro w' hO'; refine run_opLoadS (b := ?_) (cs := ?_) (e := ?_) (f := ?_) hO' ?_ ?_ ?_ ?_; rotate_left 4; (· exact rfl); (· exact inferInstance); (· simp; done); (· simp; done)); simp only [Act.put, List.setIfInBounds_toArray, List.set_cons_zero, List.set_cons_succ])
      (refine sch_look (o := ?_) (v := .agg ([.int .i64 y.d.k, .int .i64 y.d.n, .string y.d.s, .slice ay y.d.l.length cy, .int .i64 y.t] : List Value).toArray) ?_ ?_ ?_ ?_; rotate_left; (· ((conv => lhs; whnf); try exact rfl)); (· rfl); (· intro w' hO'; exact run_opLoadC (ad := ⟨ob, 1, none⟩) (cs := [.int .i64 y.d.k, .int .i64 y.d.n, .string y.d.s, .slice ay y.d.l.length cy, .int .i64 y.t]) (five_at1 hO' (hh := inferInstance)) rfl (by simp) (by simp)); simp only [Act.put, List.setIfInBounds_toArray, List.set_cons_zero, List.set_cons_succ])
      first | (refine sch_look (o := ?_) (v := ?_) ?_ ?_ ?_ ?_; rotate_left 2; (· ((conv => lhs; whnf); try exact rfl)); (· rfl); (· intro w' hO'; skip; go_simp; (try exact rfl)); simp only [Act.put, List.setIfInBounds_toArray, List.set_cons_zero, List.set_cons_succ]) | (refine sch_pass (o := ?_) ?_ ?_ ?_; rotate_left; (· ((conv => lhs; whnf); try exact rfl)); (· rfl); simp only [Act.put, List.setIfInBounds_toArray, List.set_cons_zero, List.set_cons_succ]) | (refine sch_look (o := ?_) (v := .agg ?_) ?_ ?_ ?_ ?_; rotate_left 2; (· ((conv => lhs; whnf); try exact rfl)); (· rfl); (· intro w' hO'; refine run_opLoadS (b := ?_) (cs := ?_) (e := ?_) (f := ?_) hO' ?_ ?_ ?_ ?_; rotate_left 4; (· exact rfl); (· exact inferInstance); (· simp; done); (· simp; done)); simp only [Act.put, List.setIfInBounds_toArray, List.set_cons_zero, List.set_cons_succ])
      first | (refine sch_look (o := ?_) (v := ?_) ?_ ?_ ?_ ?_; rotate_left 2; (· ((conv => lhs; whnf); try exact rfl)); (· rfl); (· intro w' hO'; skip; go_simp; (try exact rfl)); simp only [Act.put, List.setIfInBounds_toArray, List.set_cons_zero, List.set_cons_succ]) | (refine sch_pass (o := ?_) ?_ ?_ ?_; rotate_left; (· ((conv => lhs; whnf); try exact rfl)); (· rfl); simp only [Act.put, List.setIfInBounds_toArray, List.set_cons_zero, List.set_cons_succ]) | (refine sch_look (o := ?_) (v := .agg ?_) ?_ ?_ ?_ ?_; rotate_left 2; (· ((conv => lhs; whnf); try exact rfl)); (· rfl); (· intro w' hO'; refine run_opLoadS (b := ?_) (cs := ?_) (e := ?_) (f := ?_) hO' ?_ ?_ ?_ ?_; rotate_left 4; (· exact rfl); (· exact inferInstance); (· simp; done); (· simp; done)); simp only [Act.put, List.setIfInBounds_toArray, List.set_cons_zero, List.set_cons_succ])
      (refine sch_look (o := ?_) (v := .agg ([.int .i64 y.d.k, .int .i64 y.d.n, .string y.d.s, .slice ay y.d.l.length cy, .int .i64 y.t] : List Value).toArray) ?_ ?_ ?_ ?_; rotate_left; (· ((conv => lhs; whnf); try exact rfl)); (· rfl); (· intro w' hO'; exact run_opLoadC (ad := ⟨ob, 1, none⟩) (cs := [.int .i64 y.d.k, .int .i64 y.d.n, .string y.d.s, .slice ay y.d.l.length cy, .int .i64 y.t]) (five_at1 hO' (hh := inferInstance)) rfl (by simp) (by simp)); simp only [Act.put, List.setIfInBounds_toArray, List.set_cons_zero, List.set_cons_succ])
      (refine sch_act (o := ?_) ?_ ?_; rotate_left; (· ((conv => lhs; whnf); try exact rfl)))
      go_wp2_with fail
      refine (mInsP E _ _ (pt ob (.cells #[.int .i64 1, .int .i64 y.d.k, .int .i64 y.d.n, .string y.d.s, .slice ay y.d.l.length cy, .int .i64 y.t] 96 (0, 0)) ++ (SL ++ (KF ++ R))) A I p c (esO os) hc hA y ay cy HWY.out hI hG (hO.as ((A ++ I) ++ (pt ob (.cells #[.int .i64 1, .int .i64 y.d.k, .int .i64 y.d.n, .string y.d.s, .slice ay y.d.l.length cy, .int .i64 y.t] 96 (0, 0)) ++ (SL ++ (KF ++ R)))))).mono ?_
      rw [HR.out]
      clear hO hF hA
      rintro e w3 ⟨A', rfl, hA, hO⟩
      replace hO : Own E w3 (pt ob (.cells #[.int .i64 1, .int .i64 y.d.k, .int .i64 y.d.n, .string y.d.s, .slice ay y.d.l.length cy, .int .i64 y.t] 96 (0, 0)) ++ (A' ++ (SL ++ (KF ++ (I ++ R))))) := hO.as _
      go_wp2_with fail
      refine ⟨hO.as _, ?_⟩
      (refine sch_act (o := ?_) ?_ ?_; rotate_left; (· ((conv => lhs; whnf); try exact rfl)))
      go_wp2_with fail
      refine (refRefused E _ _ (pt ob (.cells #[.int .i64 1, .int .i64 y.d.k, .int .i64 y.d.n, .string y.d.s, .slice ay y.d.l.length cy, .int .i64 y.t] 96 (0, 0)) ++ (A' ++ (SL ++ R))) I KF ka kc (K3) hK y ay cy hI (hO.as ((KF ++ I) ++ (pt ob (.cells #[.int .i64 1, .int .i64 y.d.k, .int .i64 y.d.n, .string y.d.s, .slice ay y.d.l.length cy, .int .i64 y.t] 96 (0, 0)) ++ (A' ++ (SL ++ R)))))).mono ?_
      rw [HWANT.out]
      clear hO
      rintro e w4 ⟨rfl, hO⟩
      replace hO : Own E w4 (pt ob (.cells #[.int .i64 1, .int .i64 y.d.k, .int .i64 y.d.n, .string y.d.s, .slice ay y.d.l.length cy, .int .i64 y.t] 96 (0, 0)) ++ (A' ++ (SL ++ (KF ++ (I ++ R))))) := hO.as _
      go_wp2_with fail
      refine ⟨hO.as _, ?_⟩
      first | (refine sch_look (o := ?_) (v := ?_) ?_ ?_ ?_ ?_; rotate_left 2; (· ((conv => lhs; whnf); try exact rfl)); (· rfl); (· intro w' hO'; skip; go_simp; (try exact rfl)); simp only [Act.put, List.setIfInBounds_toArray, List.set_cons_zero, List.set_cons_succ]) | (refine sch_pass (o := ?_) ?_ ?_ ?_; rotate_left; (· ((conv => lhs; whnf); try exact rfl)); (· rfl); simp only [Act.put, List.setIfInBounds_toArray, List.set_cons_zero, List.set_cons_succ]) | (refine sch_look (o := ?_) (v := .agg ?_) ?_ ?_ ?_ ?_; rotate_left 2; (· ((conv => lhs; whnf); try exact rfl)); (· rfl); (· intro w' hO'; refine run_opLoadS (b := ?_) (cs := ?_) (e := ?_) (f := ?_) hO' ?_ ?_ ?_ ?_; rotate_left 4; (· exact rfl); (· exact inferInstance); (· simp; done); (· simp; done)); simp only [Act.put, List.setIfInBounds_toArray, List.set_cons_zero, List.set_cons_succ])
      first | (refine sch_look (o := ?_) (v := ?_) ?_ ?_ ?_ ?_; rotate_left 2; (· ((conv => lhs; whnf); try exact rfl)); (· rfl); (· intro w' hO'; skip; go_simp; (try exact rfl)); simp only [Act.put, List.setIfInBounds_toArray, List.set_cons_zero, List.set_cons_succ]) | (refine sch_pass (o := ?_) ?_ ?_ ?_; rotate_left; (· ((conv => lhs; whnf); try exact rfl)); (· rfl); simp only [Act.put, List.setIfInBounds_toArray, List.set_cons_zero, List.set_cons_succ]) | (refine sch_look (o := ?_) (v := .agg ?_) ?_ ?_ ?_ ?_; rotate_left 2; (· ((conv => lhs; whnf); try exact rfl)); (· rfl); (· intro w' hO'; refine run_opLoadS (b := ?_) (cs := ?_) (e := ?_) (f := ?_) hO' ?_ ?_ ?_ ?_; rotate_left 4; (· exact rfl); (· exact inferInstance); (· simp; done); (· simp; done)); simp only [Act.put, List.setIfInBounds_toArray, List.set_cons_zero, List.set_cons_succ])
      refine sch_done ?_
      replace hO : Own E _ (pt ob (.cells #[.int .i64 1, .int .i64 y.d.k, .int .i64 y.d.n, .string y.d.s, .slice ay y.d.l.length cy, .int .i64 y.t] 96 (0, 0)) ++ (A' ++ (SL ++ (KF ++ (I ++ R))))) := hO.as _
      have hF := Own.cells hO; simp only [cellsOf_append, cellsOf_pt] at hF
      go_wp2_with (first | (refine at_load (t := 32) ?_; go_must (refine own_loadC (ad := ⟨ob, 1, none⟩) (cs := [.int .i64 y.d.k, .int .i64 y.d.n, .string y.d.s, .slice ay y.d.l.length cy, .int .i64 y.t]) ?_ (five_at1 hO (hh := inferInstance)) ?_ ?_ ?_ ?_; (· rfl); (· ((conv => lhs; whnf); try exact rfl)); (· simp; done); (· simp; done); simp only [Act.put, List.setIfInBounds_toArray, List.set_cons_zero, List.set_cons_succ])) | (go_at_call 50; refine (refHas E _ _ (pt ob (.cells #[.int .i64 1, .int .i64 y.d.k, .int .i64 y.d.n, .string y.d.s, .slice ay y.d.l.length cy, .int .i64 y.t] 96 (0, 0)) ++ (A' ++ (KF ++ R))) SL I sl cl os HOL.out HOK.out hL y ay cy HYD.out hI (hO.as ((SL ++ I) ++ (pt ob (.cells #[.int .i64 1, .int .i64 y.d.k, .int .i64 y.d.n, .string y.d.s, .slice ay y.d.l.length cy, .int .i64 y.t] 96 (0, 0)) ++ (A' ++ (KF ++ R)))))).mono ?_; rw [decide_eq_false HM.out]; clear hO hF; rintro e w5 ⟨rfl, hO⟩; replace hO : Own E w5 (pt ob (.cells #[.int .i64 1, .int .i64 y.d.k, .int .i64 y.d.n, .string y.d.s, .slice ay y.d.l.length cy, .int .i64 y.t] 96 (0, 0)) ++ (A' ++ (SL ++ (KF ++ (I ++ R))))) := hO.as _; have hF := Own.cells hO; simp only [cellsOf_append, cellsOf_pt] at hF) | (go_at_call 51; refine (refWith E _ _ (pt ob (.cells #[.int .i64 1, .int .i64 y.d.k, .int .i64 y.d.n, .string y.d.s, .slice ay y.d.l.length cy, .int .i64 y.t] 96 (0, 0)) ++ (A' ++ (KF ++ R))) SL I sl cl os HOL.out HOK.out hL HWF.out y ay cy HYD.out HWY.out hI (hO.as ((SL ++ I) ++ (pt ob (.cells #[.int .i64 1, .int .i64 y.d.k, .int .i64 y.d.n, .string y.d.s, .slice ay y.d.l.length cy, .int .i64 y.t] 96 (0, 0)) ++ (A' ++ (KF ++ R)))))).mono ?_; clear hO hF; rintro e w6 ⟨so2, co2, S2, rfl, hL2, hO⟩; replace hO : Own E w6 (S2 ++ (pt ob (.cells #[.int .i64 1, .int .i64 y.d.k, .int .i64 y.d.n, .string y.d.s, .slice ay y.d.l.length cy, .int .i64 y.t] 96 (0, 0)) ++ (A' ++ (SL ++ (KF ++ (I ++ R)))))) := hO.as _; have hF := Own.cells hO; simp only [cellsOf_append, cellsOf_pt] at hF))
      rw [← HPOST.out]
      exact ⟨A', so2, co2, _, S2, rfl, hL2, by rw [wiO_es]; exact hA, hO.as _⟩
  · obtain ⟨z, hz⟩ : ∃ z, refused (K3) y = z := ⟨_, rfl⟩
    have HWANT := Lib.hid hz
    have hz0 : (z == 0) = false := beq_eq_false_iff_ne.2 (by rw [← hz]; exact hr)
    have HR := Lib.hid (show insR (K3) (esO os) y = (z, esO os) by unfold insR; rw [if_neg hr, hz])
    clear hr hz
    go_wp2_with fail
    (try (go_wp2_with fail))
    refine region_sch (fun w' => Own E w' (pt ob (.cells #[.int .i64 1, .int .i64 y.d.k, .int .i64 y.d.n, .string y.d.s, .slice ay y.d.l.length cy, .int .i64 y.t] 96 (0, 0)))) (.look 0 (.look 1 (.look 2 (.look 4 (.look 5 (.look 6 (.act 3 (.act 7 (.look 8 (.look 9 .done)))))))))) (by kernel_rfl) (by kernel_rfl) (fun _ _ d _ _ h => by cases d <;> exact h) ?_ ?_
    · exact hO.drew.as _
    replace hO := hO.drew
    generalize World.drew _ = wdr at hO ⊢
    first | (refine sch_look (o := ?_) (v := ?_) ?_ ?_ ?_ ?_; rotate_left 2; (· ((conv => lhs; whnf); try exact rfl)); (· rfl); (· intro w' hO'; skip; go_simp; (try exact rfl)); simp only [Act.put, List.setIfInBounds_toArray, List.set_cons_zero, List.set_cons_succ]) | (refine sch_pass (o := ?_) ?_ ?_ ?_; rotate_left; (· ((conv => lhs; whnf); try exact rfl)); (· rfl); simp only [Act.put, List.setIfInBounds_toArray, List.set_cons_zero, List.set_cons_succ]) | (refine sch_look (o := ?_) (v := .agg ?_) ?_ ?_ ?_ ?_; rotate_left 2; (· ((conv => lhs; whnf); try exact rfl)); (· rfl); (· intro w' hO'; refine run_opLoadS (b := ?_) (cs := ?_) (e := ?_) (f := ?_) hO' ?_ ?_ ?_ ?_; rotate_left 4; (· exact rfl); (· exact inferInstance); (· simp; done); (· simp; done)); simp only [Act.put, List.setIfInBounds_toArray, List.set_cons_zero, List.set_cons_succ])
    first | (refine sch_look (o := ?_) (v := ?_) ?_ ?_ ?_ ?_; rotate_left 2; (· ((conv => lhs; whnf); try exact rfl)); (· rfl); (· intro w' hO'; skip; go_simp; (try exact rfl)); simp only [Act.put, List.setIfInBounds_toArray, List.set_cons_zero, List.set_cons_succ]) | (refine sch_pass (o := ?_) ?_ ?_ ?_; rotate_left; (· ((conv => lhs; whnf); try exact rfl)); (· rfl); simp only [Act.put, List.setIfInBounds_toArray, List.set_cons_zero, List.set_cons_succ]) | (refine sch_look (o := ?_) (v := .agg ?_) ?_ ?_ ?_ ?_; rotate_left 2; (· ((conv => lhs; whnf); try exact rfl)); (· rfl); (· intro w' hO'; refine run_opLoadS (b := ?_) (cs := ?_) (e := ?_) (f := ?_) hO' ?_ ?_ ?_ ?_; rotate_left 4; (· exact rfl); (· exact inferInstance); (· simp; done); (· simp; done)); simp only [Act.put, List.setIfInBounds_toArray, List.set_cons_zero, List.set_cons_succ])
    (refine sch_look (o := ?_) (v := .agg ([.int .i64 y.d.k, .int .i64 y.d.n, .string y.d.s, .slice ay y.d.l.length cy, .int .i64 y.t] : List Value).toArray) ?_ ?_ ?_ ?_; rotate_left; (· ((conv => lhs; whnf); try exact rfl)); (· rfl); (· intro w' hO'; exact run_opLoadC (ad := ⟨ob, 1, none⟩) (cs := [.int .i64 y.d.k, .int .i64 y.d.n, .string y.d.s, .slice ay y.d.l.length cy, .int .i64 y.t]) (five_at1 hO' (hh := inferInstance)) rfl (by simp) (by simp)); simp only [Act.put, List.setIfInBounds_toArray, List.set_cons_zero, List.set_cons_succ])
    first | (refine sch_look (o := ?_) (v := ?_) ?_ ?_ ?_ ?_; rotate_left 2; (· ((conv => lhs; whnf); try exact rfl)); (· rfl); (· intro w' hO'; skip; go_simp; (try exact rfl)); simp only [Act.put, List.setIfInBounds_toArray, List.set_cons_zero, List.set_cons_succ]) | (refine sch_pass (o := ?_) ?_ ?_ ?_; rotate_left; (· ((conv => lhs; whnf); try exact rfl)); (· rfl); simp only [Act.put, List.setIfInBounds_toArray, List.set_cons_zero, List.set_cons_succ]) | (refine sch_look (o := ?_) (v := .agg ?_) ?_ ?_ ?_ ?_; rotate_left 2; (· ((conv => lhs; whnf); try exact rfl)); (· rfl); (· intro w' hO'; refine run_opLoadS (b := ?_) (cs := ?_) (e := ?_) (f := ?_) hO' ?_ ?_ ?_ ?_; rotate_left 4; (· exact rfl); (· exact inferInstance); (· simp; done); (· simp; done)); simp only [Act.put, List.setIfInBounds_toArray, List.set_cons_zero, List.set_cons_succ])
    first | (refine sch_look (o := ?_) (v := ?_) ?_ ?_ ?_ ?_; rotate_left 2; (· ((conv => lhs; whnf); try exact rfl)); (· rfl); (· intro w' hO'; skip; go_simp; (try exact rfl)); simp only [Act.put, List.setIfInBounds_toArray, List.set_cons_zero, List.set_cons_succ]) | (refine sch_pass (o := ?_) ?_ ?_ ?_; rotate_left; (· ((conv => lhs; whnf); try exact rfl)); (· rfl); simp only [Act.put, List.setIfInBounds_toArray, List.set_cons_zero, List.set_cons_succ]) | (refine sch_look (o := ?_) (v := .agg ?_) ?_ ?_ ?_ ?_; rotate_left 2; (· ((conv => lhs; whnf); try exact rfl)); (· rfl); (· intro w' hO'; refine run_opLoadS (b := ?_) (cs := ?_) (e := ?_) (f := ?_) hO' ?_ ?_ ?_ ?_; rotate_left 4; (· exact rfl); (· exact inferInstance); (· simp; done); (· simp; done)); simp only [Act.put, List.setIfInBounds_toArray, List.set_cons_zero, List.set_cons_succ])
    (refine sch_look (o := ?_) (v := .agg ([.int .i64 y.d.k, .int .i64 y.d.n, .string y.d.s, .slice ay y.d.l.length cy, .int .i64 y.t] : List Value).toArray) ?_ ?_ ?_ ?_; rotate_left; (· ((conv => lhs; whnf); try exact rfl)); (· rfl); (· intro w' hO'; exact run_opLoadC (ad := ⟨ob, 1, none⟩) (cs := [.int .i64 y.d.k, .int .i64 y.d.n, .string y.d.s, .slice ay y.d.l.length cy, .int .i64 y.t]) (five_at1 hO' (hh := inferInstance)) rfl (by simp) (by simp)); simp only [Act.put, List.setIfInBounds_toArray, List.set_cons_zero, List.set_cons_succ])
    (refine sch_act (o := ?_) ?_ ?_; rotate_left; (· ((conv => lhs; whnf); try exact rfl)))
    go_wp2_with fail
    refine (mInsP E _ _ (pt ob (.cells #[.int .i64 1, .int .i64 y.d.k, .int .i64 y.d.n, .string y.d.s, .slice ay y.d.l.length cy, .int .i64 y.t] 96 (0, 0)) ++ (SL ++ (KF ++ R))) A I p c (esO os) hc hA y ay cy HWY.out hI hG (hO.as ((A ++ I) ++ (pt ob (.cells #[.int .i64 1, .int .i64 y.d.k, .int .i64 y.d.n, .string y.d.s, .slice ay y.d.l.length cy, .int .i64 y.t] 96 (0, 0)) ++ (SL ++ (KF ++ R)))))).mono ?_
    rw [HR.out]
    clear hO hF hA
    rintro e w3 ⟨A', rfl, hA, hO⟩
    replace hO : Own E w3 (pt ob (.cells #[.int .i64 1, .int .i64 y.d.k, .int .i64 y.d.n, .string y.d.s, .slice ay y.d.l.length cy, .int .i64 y.t] 96 (0, 0)) ++ (A' ++ (SL ++ (KF ++ (I ++ R))))) := hO.as _
    go_wp2_with fail
    refine ⟨hO.as _, ?_⟩
    (refine sch_act (o := ?_) ?_ ?_; rotate_left; (· ((conv => lhs; whnf); try exact rfl)))
    go_wp2_with fail
    refine (refRefused E _ _ (pt ob (.cells #[.int .i64 1, .int .i64 y.d.k, .int .i64 y.d.n, .string y.d.s, .slice ay y.d.l.length cy, .int .i64 y.t] 96 (0, 0)) ++ (A' ++ (SL ++ R))) I KF ka kc (K3) hK y ay cy hI (hO.as ((KF ++ I) ++ (pt ob (.cells #[.int .i64 1, .int .i64 y.d.k, .int .i64 y.d.n, .string y.d.s, .slice ay y.d.l.length cy, .int .i64 y.t] 96 (0, 0)) ++ (A' ++ (SL ++ R)))))).mono ?_
    rw [HWANT.out]
    clear hO
    rintro e w4 ⟨rfl, hO⟩
    replace hO : Own E w4 (pt ob (.cells #[.int .i64 1, .int .i64 y.d.k, .int .i64 y.d.n, .string y.d.s, .slice ay y.d.l.length cy, .int .i64 y.t] 96 (0, 0)) ++ (A' ++ (SL ++ (KF ++ (I ++ R))))) := hO.as _
    go_wp2_with fail
    refine ⟨hO.as _, ?_⟩
    first | (refine sch_look (o := ?_) (v := ?_) ?_ ?_ ?_ ?_; rotate_left 2; (· ((conv => lhs; whnf); try exact rfl)); (· rfl); (· intro w' hO'; skip; go_simp; (try exact rfl)); simp only [Act.put, List.setIfInBounds_toArray, List.set_cons_zero, List.set_cons_succ]) | (refine sch_pass (o := ?_) ?_ ?_ ?_; rotate_left; (· ((conv => lhs; whnf); try exact rfl)); (· rfl); simp only [Act.put, List.setIfInBounds_toArray, List.set_cons_zero, List.set_cons_succ]) | (refine sch_look (o := ?_) (v := .agg ?_) ?_ ?_ ?_ ?_; rotate_left 2; (· ((conv => lhs; whnf); try exact rfl)); (· rfl); (· intro w' hO'; refine run_opLoadS (b := ?_) (cs := ?_) (e := ?_) (f := ?_) hO' ?_ ?_ ?_ ?_; rotate_left 4; (· exact rfl); (· exact inferInstance); (· simp; done); (· simp; done)); simp only [Act.put, List.setIfInBounds_toArray, List.set_cons_zero, List.set_cons_succ])
    first | (refine sch_look (o := ?_) (v := ?_) ?_ ?_ ?_ ?_; rotate_left 2; (· ((conv => lhs; whnf); try exact rfl)); (· rfl); (· intro w' hO'; skip; go_simp; (try exact rfl)); simp only [Act.put, List.setIfInBounds_toArray, List.set_cons_zero, List.set_cons_succ]) | (refine sch_pass (o := ?_) ?_ ?_ ?_; rotate_left; (· ((conv => lhs; whnf); try exact rfl)); (· rfl); simp only [Act.put, List.setIfInBounds_toArray, List.set_cons_zero, List.set_cons_succ]) | (refine sch_look (o := ?_) (v := .agg ?_) ?_ ?_ ?_ ?_; rotate_left 2; (· ((conv => lhs; whnf); try exact rfl)); (· rfl); (· intro w' hO'; refine run_opLoadS (b := ?_) (cs := ?_) (e := ?_) (f := ?_) hO' ?_ ?_ ?_ ?_; rotate_left 4; (· exact rfl); (· exact inferInstance); (· simp; done); (· simp; done)); simp only [Act.put, List.setIfInBounds_toArray, List.set_cons_zero, List.set_cons_succ])
    refine sch_done ?_
    replace hO : Own E _ (pt ob (.cells #[.int .i64 1, .int .i64 y.d.k, .int .i64 y.d.n, .string y.d.s, .slice ay y.d.l.length cy, .int .i64 y.t] 96 (0, 0)) ++ (A' ++ (SL ++ (KF ++ (I ++ R))))) := hO.as _
    have hF := Own.cells hO; simp only [cellsOf_append, cellsOf_pt] at hF
    go_wp2_with fail
    rw [← HPOST.out]
    exact ⟨A', sl, cl, os, SL, rfl, hL, hA, hO.as _⟩
set_option maxRecDepth 100000 in
set_option maxHeartbeats 16000000 in
theorem doesDP (E w : World) (X R A SL KF I : Fr) (p c : Nat) (hc : c < CP) (ka : Option Addr) (kc : Nat) (hK : Sl 3 1 ka (K3).length kc ((K3).map (Value.int .i64)) KF) (sl : Option Addr) (cl : Nat) (os : List Oe) (hL : LAt E I sl cl os SL) (hA : StP E p c (esO os) A)
    (y : En) (ay : Option Addr) (cy : Nat) (hw : y.d.wf) (hI : ItemsAt E I ay y.d.l) (hG : MaxL E I) (hO : Own E w X) [hp : Pick X (A ++ (SL ++ (KF ++ I))) R] :
    Calls Tryd.prog 34 #[.iface 24 (.pointer (some ⟨p, 0, none⟩)), .slice ka (K3).length kc, .slice sl os.length cl, .agg #[.int .i64 2, .int .i64 y.d.k, .int .i64 y.d.n, .string y.d.s, .slice ay y.d.l.length cy, .int .i64 y.t]] w (DoesPP E p c I (KF ++ (I ++ R))) := by
  replace hO : Own E w (A ++ (SL ++ (KF ++ (I ++ R)))) := by have := hO.perm hp.perm; simp only [List.append_assoc] at this; exact this
  clear hp
  generalize hpost : DoesPP E p c I (KF ++ (I ++ R)) = POST
  have HPOST := Lib.hid hpost
  clear hpost
  have i0 := ivFindP (.pointer (some ⟨p, 0, none⟩))
  have i1 := ivInsertP (.pointer (some ⟨p, 0, none⟩))
  have i2 := ivDeleteP (.pointer (some ⟨p, 0, none⟩))
  have i6 := ivDropP (.pointer (some ⟨p, 0, none⟩))
  have hle := hA.le
  have hes := hA.es
  have hol : os.length ≤ c := by rwa [esO_len] at hle
  have hcb : c ≤ 2000000000000 := by have := hc; unfold CP at this; omega
  have HOK := Lib.hid (show ∀ o ∈ os, o.e.d.ok = true from fun o ho => (hes.ok o.e (List.mem_map.2 ⟨o, ho, rfl⟩)).1)
  have HWF := Lib.hid (show ∀ o ∈ os, o.e.d.wf from fun o ho => (hes.ok o.e (List.mem_map.2 ⟨o, ho, rfl⟩)).2.1)
  have HOL := Lib.hid (show os.length ≤ 2000000000000 by omega)
  have HWY := Lib.hid hw
  clear hle hes hol hcb hw
  go_enter Tryd.func34, Tryd.ntmps34
  go_wp2_with (first | (refine at_box ?_; go_must (refine own_box (v := ?_) hO ?_ ?_ ?_; rotate_left; (· rfl); (· ((conv => lhs; whnf); try exact rfl)); clear hO; (try clear hF); intro ob _ hO; (try simp only [Value.cells] at hO); ((try simp only [List.nil_append, List.append_nil] at hO); have hF := Own.cells hO; simp only [cellsOf_append, cellsOf_pt] at hF); simp only [Act.put, List.setIfInBounds_toArray, List.set_cons_zero, List.set_cons_succ])))
  replace hO : Own E _ (pt ob (.cells #[.int .i64 2, .int .i64 y.d.k, .int .i64 y.d.n, .string y.d.s, .slice ay y.d.l.length cy, .int .i64 y.t] 96 (0, 0)) ++ (A ++ (SL ++ (KF ++ (I ++ R))))) := hO.as _
  have hF := Own.cells hO; simp only [cellsOf_append, cellsOf_pt] at hF
  by_cases hr : refused (K3) y = 0
  · have hyd := okE_d (refused_ok hr).1
    have HYD := Lib.hid hyd
    have HWANT := Lib.hid hr
    clear hyd
    by_cases hm : y ∈ esO os
    · have HR := Lib.hid (show delR (K3) (esO os) y = (0, woE (esO os) y) by unfold delR; rw [if_pos hr, if_pos hm])
      have HM := Lib.hid hm
      clear hr hm
      go_wp2_with fail
      (try (go_wp2_with fail))
      refine region_sch (fun w' => Own E w' (pt ob (.cells #[.int .i64 2, .int .i64 y.d.k, .int .i64 y.d.n, .string y.d.s, .slice ay y.d.l.length cy, .int .i64 y.t] 96 (0, 0)))) (.look 0 (.look 1 (.look 2 (.look 4 (.look 5 (.look 6 (.act 3 (.act 7 (.look 8 (.look 9 .done)))))))))) (by kernel_rfl) (by kernel_rfl) (fun _ _ d _ _ h => by cases d <;> exact h) ?_ ?_
      · exact hO.drew.as _
      replace hO := hO.drew
      generalize World.drew _ = wdr at hO ⊢
      first | (refine sch_look (o := ?_) (v := ?_) ?_ ?_ ?_ ?_; rotate_left 2; (· ((conv => lhs; whnf); try exact rfl)); (· rfl); (· intro w' hO'; skip; go_simp; (try exact rfl)); simp only [Act.put, List.setIfInBounds_toArray, List.set_cons_zero, List.set_cons_succ]) | (refine sch_pass (o := ?_) ?_ ?_ ?_; rotate_left; (· ((conv => lhs; whnf); try exact rfl)); (· rfl); simp only [Act.put, List.setIfInBounds_toArray, List.set_cons_zero, List.set_cons_succ]) | (refine sch_look (o := ?_) (v := .agg ?_) ?_ ?_ ?_ ?_; rotate_left 2; (· ((conv => lhs; whnf); try exact rfl)); (· rfl); (· intro w' hO'; refine run_opLoadS (b := ?_) (cs := ?_) (e := ?_) (f := ?_) hO' ?_ ?_ ?_ ?_; rotate_left 4; (· exact rfl); (· exact inferInstance); (· simp; done); (· simp; done)); simp only [Act.put, List.setIfInBounds_toArray, List.set_cons_zero, List.set_cons_succ])
      first | (refine sch_look (o := ?_) (v := ?_) ?_ ?_ ?_ ?_; rotate_left 2; (· ((conv => lhs; whnf); try exact rfl)); (· rfl); (· intro w' hO'; skip; go_simp; (try exact rfl)); simp only [Act.put, List.setIfInBounds_toArray, List.set_cons_zero, List.set_cons_succ]) | (refine sch_pass (o := ?_) ?_ ?_ ?_; rotate_left; (· ((conv => lhs; whnf); try exact rfl)); (· rfl); simp only [Act.put, List.setIfInBounds_toArray, List.set_cons_zero, List.set_cons_succ]) | (refine sch_look (o := ?_) (v := .agg ?_) ?_ ?_ ?_ ?_; rotate_left 2; (· ((conv => lhs; whnf); try exact rfl)); (· rfl); (· intro w' hO'; refine run_opLoadS (b := ?_) (cs := ?_) (e := ?_) (f := ?_) hO' ?_ ?_ ?_ ?_; rotate_left 4; (· exact rfl); (· exact inferInstance); (· simp; done); (· simp; done)); simp only [Act.put, List.setIfInBounds_toArray, List.set_cons_zero, List.set_cons_succ])
      (refine sch_look (o := ?_) (v := .agg ([.int .i64 y.d.k, .int .i64 y.d.n, .string y.d.s, .slice ay y.d.l.length cy, .int .i64 y.t] : List Value).toArray) ?_ ?_ ?_ ?_; rotate_left; (· ((conv => lhs; whnf); try exact rfl)); (· rfl); (· intro w' hO'; exact run_opLoadC (ad := ⟨ob, 1, none⟩) (cs := [.int .i64 y.d.k, .int .i64 y.d.n, .string y.d.s, .slice ay y.d.l.length cy, .int .i64 y.t]) (five_at1 hO' (hh := inferInstance)) rfl (by simp) (by simp)); simp only [Act.put, List.setIfInBounds_toArray, List.set_cons_zero, List.set_cons_succ])
      first | (refine sch_look (o := ?_) (v := ?_) ?_ ?_ ?_ ?_; rotate_left 2; (· ((conv => lhs; whnf); try exact rfl)); (· rfl); (· intro w' hO'; skip; go_simp; (try exact rfl)); simp only [Act.put, List.setIfInBounds_toArray, List.set_cons_zero, List.set_cons_succ]) | (refine sch_pass (o := ?_) ?_ ?_ ?_; rotate_left; (· ((conv => lhs; whnf); try exact rfl)); (· rfl); simp only [Act.put, List.setIfInBounds_toArray, List.set_cons_zero, List.set_cons_succ]) | (refine sch_look (o := ?_) (v := .agg ?_) ?_ ?_ ?_ ?_; rotate_left 2; (· ((conv => lhs; whnf); try exact rfl)); (· rfl); (· intro w' hO'; refine run_opLoadS (b := ?_) (cs := ?_) (e := ?_) (f := ?_) hO' ?_ ?_ ?_ ?_; rotate_left 4; (· exact rfl); (· exact inferInstance); (· simp; done); (· simp; done)); simp only [Act.put, List.setIfInBounds_toArray, List.set_cons_zero, List.set_cons_succ])
      first | (refine sch_look (o := ?_) (v := ?_) ?_ ?_ ?_ ?_; rotate_left 2; (· ((conv => lhs; whnf); try exact rfl)); (· rfl); (· intro w' hO'; skip; go_simp; (try exact rfl)); simp only [Act.put, List.setIfInBounds_toArray, List.set_cons_zero, List.set_cons_succ]) | (refine sch_pass (o := ?_) ?_ ?_ ?_; rotate_left; (· ((conv => lhs; whnf); try exact rfl)); (· rfl); simp only [Act.put, List.setIfInBounds_toArray, List.set_cons_zero, List.set_cons_succ]) | (refine sch_look (o := ?_) (v := .agg ?_) ?_ ?_ ?_ ?_; rotate_left 2; (· ((conv => lhs; whnf); try exact rfl)); (· rfl); (· intro w' hO'; refine run_opLoadS (b := ?_) (cs := ?_) (e := ?_) (f := ?_) hO' ?_ ?_ ?_ ?_; rotate_left 4; (· exact rfl); (· exact inferInstance); (· simp; done); (· simp; done)); simp only [Act.put, List.setIfInBounds_toArray, List.set_cons_zero, List.set_cons_succ])
      (refine sch_look (o := ?_) (v := .agg ([.int .i64 y.d.k, .int .i64 y.d.n, .string y.d.s, .slice ay y.d.l.length cy, .int .i64 y.t] : List Value).toArray) ?_ ?_ ?_ ?_; rotate_left; (· ((conv => lhs; whnf); try exact rfl)); (· rfl); (· intro w' hO'; exact run_opLoadC (ad := ⟨ob, 1, none⟩) (cs := [.int .i64 y.d.k, .int .i64 y.d.n, .string y.d.s, .slice ay y.d.l.length cy, .int .i64 y.t]) (five_at1 hO' (hh := inferInstance)) rfl (by simp) (by simp)); simp only [Act.put, List.setIfInBounds_toArray, List.set_cons_zero, List.set_cons_succ])
      (refine sch_act (o := ?_) ?_ ?_; rotate_left; (· ((conv => lhs; whnf); try exact rfl)))
      go_wp2_with fail
      refine (mDelP E _ _ (pt ob (.cells #[.int .i64 2, .int .i64 y.d.k, .int .i64 y.d.n, .string y.d.s, .slice ay y.d.l.length cy, .int .i64 y.t] 96 (0, 0)) ++ (SL ++ (KF ++ R))) A I p c (esO os) hc hA y ay cy HWY.out hI hG (hO.as ((A ++ I) ++ (pt ob (.cells #[.int .i64 2, .int .i64 y.d.k, .int .i64 y.d.n, .string y.d.s, .slice ay y.d.l.length cy, .int .i64 y.t] 96 (0, 0)) ++ (SL ++ (KF ++ R)))))).mono ?_
      rw [HR.out]
      clear hO hF hA
      rintro e w3 ⟨A', rfl, hA, hO⟩
      replace hO : Own E w3 (pt ob (.cells #[.int .i64 2, .int .i64 y.d.k, .int .i64 y.d.n, .string y.d.s, .slice ay y.d.l.length cy, .int .i64 y.t] 96 (0, 0)) ++ (A' ++ (SL ++ (KF ++ (I ++ R))))) := hO.as _
      go_wp2_with fail
      refine ⟨hO.as _, ?_⟩
      (refine sch_act (o := ?_) ?_ ?_; rotate_left; (· ((conv => lhs; whnf); try exact rfl)))
      go_wp2_with fail
      refine (refRefused E _ _ (pt ob (.cells #[.int .i64 2, .int .i64 y.d.k, .int .i64 y.d.n, .string y.d.s, .slice ay y.d.l.length cy, .int .i64 y.t] 96 (0, 0)) ++ (A' ++ (SL ++ R))) I KF ka kc (K3) hK y ay cy hI (hO.as ((KF ++ I) ++ (pt ob (.cells #[.int .i64 2, .int .i64 y.d.k, .int .i64 y.d.n, .string y.d.s, .slice ay y.d.l.length cy, .int .i64 y.t] 96 (0, 0)) ++ (A' ++ (SL ++ R)))))).mono ?_
      rw [HWANT.out]
      clear hO
      rintro e w4 ⟨rfl, hO⟩
      replace hO : Own E w4 (pt ob (.cells #[.int .i64 2, .int .i64 y.d.k, .int .i64 y.d.n, .string y.d.s, .slice ay y.d.l.length cy, .int .i64 y.t] 96 (0, 0)) ++ (A' ++ (SL ++ (KF ++ (I ++ R))))) := hO.as _
      go_wp2_with fail
      refine ⟨hO.as _, ?_⟩
      first | (refine sch_look (o := ?_) (v := ?_) ?_ ?_ ?_ ?_; rotate_left 2; (· ((conv => lhs; whnf); try exact rfl)); (· rfl); (· intro w' hO'; skip; go_simp; (try exact rfl)); simp only [Act.put, List.setIfInBounds_toArray, List.set_cons_zero, List.set_cons_succ]) | (refine sch_pass (o := ?_) ?_ ?_ ?_; rotate_left; (· ((conv => lhs; whnf); try exact rfl)); (· rfl); simp only [Act.put, List.setIfInBounds_toArray, List.set_cons_zero, List.set_cons_succ]) | (refine sch_look (o := ?_) (v := .agg ?_) ?_ ?_ ?_ ?_; rotate_left 2; (· ((conv => lhs; whnf); try exact rfl)); (· rfl); (· intro w' hO'; refine run_opLoadS (b := ?_) (cs := ?_) (e := ?_) (f := ?_) hO' ?_ ?_ ?_ ?_; rotate_left 4; (· exact rfl); (· exact inferInstance); (· simp; done); (· simp; done)); simp only [Act.put, List.setIfInBounds_toArray, List.set_cons_zero, List.set_cons_succ])
      first | (refine sch_look (o := ?_) (v := ?_) ?_ ?_ ?_ ?_; rotate_left 2; (· ((conv => lhs; whnf); try exact rfl)); (· rfl); (· intro w' hO'; skip; go_simp; (try exact rfl)); simp only [Act.put, List.setIfInBounds_toArray, List.set_cons_zero, List.set_cons_succ]) | (refine sch_pass (o := ?_) ?_ ?_ ?_; rotate_left; (· ((conv => lhs; whnf); try exact rfl)); (· rfl); simp only [Act.put, List.setIfInBounds_toArray, List.set_cons_zero, List.set_cons_succ]) | (refine sch_look (o := ?_) (v := .agg ?_) ?_ ?_ ?_ ?_; rotate_left 2; (· ((conv => lhs; whnf); try exact rfl)); (· rfl); (· intro w' hO'; refine run_opLoadS (b := ?_) (cs := ?_) (e := ?_) (f := ?_) hO' ?_ ?_ ?_ ?_; rotate_left 4; (· exact rfl); (· exact inferInstance); (· simp; done); (· simp; done)); simp only [Act.put, List.setIfInBounds_toArray, List.set_cons_zero, List.set_cons_succ])
      refine sch_done ?_
      replace hO : Own E _ (pt ob (.cells #[.int .i64 2, .int .i64 y.d.k, .int .i64 y.d.n, .string y.d.s, .slice ay y.d.l.length cy, .int .i64 y.t] 96 (0, 0)) ++ (A' ++ (SL ++ (KF ++ (I ++ R))))) := hO.as _
      have hF := Own.cells hO; simp only [cellsOf_append, cellsOf_pt] at hF
      go_wp2_with (first | (refine at_load (t := 32) ?_; go_must (refine own_loadC (ad := ⟨ob, 1, none⟩) (cs := [.int .i64 y.d.k, .int .i64 y.d.n, .string y.d.s, .slice ay y.d.l.length cy, .int .i64 y.t]) ?_ (five_at1 hO (hh := inferInstance)) ?_ ?_ ?_ ?_; (· rfl); (· ((conv => lhs; whnf); try exact rfl)); (· simp; done); (· simp; done); simp only [Act.put, List.setIfInBounds_toArray, List.set_cons_zero, List.set_cons_succ])) | (go_at_call 50; refine (refHas E _ _ (pt ob (.cells #[.int .i64 2, .int .i64 y.d.k, .int .i64 y.d.n, .string y.d.s, .slice ay y.d.l.length cy, .int .i64 y.t] 96 (0, 0)) ++ (A' ++ (KF ++ R))) SL I sl cl os HOL.out HOK.out hL y ay cy HYD.out hI (hO.as ((SL ++ I) ++ (pt ob (.cells #[.int .i64 2, .int .i64 y.d.k, .int .i64 y.d.n, .string y.d.s, .slice ay y.d.l.length cy, .int .i64 y.t] 96 (0, 0)) ++ (A' ++ (KF ++ R)))))).mono ?_; rw [decide_eq_true HM.out]; clear hO hF; rintro e w5 ⟨rfl, hO⟩; replace hO : Own E w5 (pt ob (.cells #[.int .i64 2, .int .i64 y.d.k, .int .i64 y.d.n, .string y.d.s, .slice ay y.d.l.length cy, .int .i64 y.t] 96 (0, 0)) ++ (A' ++ (SL ++ (KF ++ (I ++ R))))) := hO.as _; have hF := Own.cells hO; simp only [cellsOf_append, cellsOf_pt] at hF) | (go_at_call 52; refine (refWithout E _ _ (pt ob (.cells #[.int .i64 2, .int .i64 y.d.k, .int .i64 y.d.n, .string y.d.s, .slice ay y.d.l.length cy, .int .i64 y.t] 96 (0, 0)) ++ (A' ++ (KF ++ R))) SL I sl cl os HOL.out HOK.out hL y ay cy HYD.out hI (hO.as ((SL ++ I) ++ (pt ob (.cells #[.int .i64 2, .int .i64 y.d.k, .int .i64 y.d.n, .string y.d.s, .slice ay y.d.l.length cy, .int .i64 y.t] 96 (0, 0)) ++ (A' ++ (KF ++ R)))))).mono ?_; clear hO hF; rintro e w6 ⟨so2, co2, S2, rfl, hL2, hO⟩; replace hO : Own E w6 (S2 ++ (pt ob (.cells #[.int .i64 2, .int .i64 y.d.k, .int .i64 y.d.n, .string y.d.s, .slice ay y.d.l.length cy, .int .i64 y.t] 96 (0, 0)) ++ (A' ++ (SL ++ (KF ++ (I ++ R)))))) := hO.as _; have hF := Own.cells hO; simp only [cellsOf_append, cellsOf_pt] at hF))
      rw [← HPOST.out]
      exact ⟨A', so2, co2, _, S2, rfl, hL2, by rw [woO_es]; exact hA, hO.as _⟩
    · have HR := Lib.hid (show delR (K3) (esO os) y = (3, esO os) by unfold delR; rw [if_pos hr, if_neg hm])
      have HM := Lib.hid hm
      clear hr hm
      go_wp2_with fail
      (try (go_wp2_with fail))
      refine region_sch (fun w' => Own E w' (pt ob (.cells #[.int .i64 2, .int .i64 y.d.k, .int .i64 y.d.n, .string y.d.s, .slice ay y.d.l.length cy, .int .i64 y.t] 96 (0, 0)))) (.look 0 (.look 1 (.look 2 (.look 4 (.look 5 (.look 6 (.act 3 (.act 7 (.look 8 (.look 9 .done)))))))))) (by kernel_rfl) (by kernel_rfl) (fun _ _ d _ _ h => by cases d <;> exact h) ?_ ?_
      · exact hO.drew.as _
      replace hO := hO.drew
      generalize World.drew _ = wdr at hO ⊢
      first | (refine sch_look (o := ?_) (v := ?_) ?_ ?_ ?_ ?_; rotate_left 2; (· ((conv => lhs; whnf); try exact rfl)); (· rfl); (· intro w' hO'; skip; go_simp; (try exact rfl)); simp only [Act.put, List.setIfInBounds_toArray, List.set_cons_zero, List.set_cons_succ]) | (refine sch_pass (o := ?_) ?_ ?_ ?_; rotate_left; (· ((conv => lhs; whnf); try exact rfl)); (· rfl); simp only [Act.put, List.setIfInBounds_toArray, List.set_cons_zero, List.set_cons_succ]) | (refine sch_look (o := ?_) (v := .agg ?_) ?_ ?_ ?_ ?_; rotate_left 2; (· ((conv => lhs; whnf); try exact rfl)); (· rfl); (· intro w' hO'; refine run_opLoadS (b := ?_) (cs := ?_) (e := ?_) (f := ?_) hO' ?_ ?_ ?_ ?_; rotate_left 4; (· exact rfl); (· exact inferInstance); (· simp; done); (· simp; done)); simp only [Act.put, List.setIfInBounds_toArray, List.set_cons_zero, List.set_cons_succ])
      first | (refine sch_look (o := ?_) (v := ?_) ?_ ?_ ?_ ?_; rotate_left 2; (· ((conv => lhs; whnf); try exact rfl)); (· rfl); (· intro w' hO'; skip; go_simp; (try exact rfl)); simp only [Act.put, List.setIfInBounds_toArray, List.set_cons_zero, List.set_cons_succ]) | (refine sch_pass (o := ?_) ?_ ?_ ?_; rotate_left; (· ((conv => lhs; whnf); try exact rfl)); (· rfl); simp only [Act.put, List.setIfInBounds_toArray, List.set_cons_zero, List.set_cons_succ]) | (refine sch_look (o := ?_) (v := .agg ?_) ?_ ?_ ?_ ?_; rotate_left 2; (· ((conv => lhs; whnf); try exact rfl)); (· rfl); (· intro w' hO'; refine run_opLoadS (b := ?_) (cs := ?_) (e := ?_) (f := ?_) hO' ?_ ?_ ?_ ?_; rotate_left 4; (· exact rfl); (· exact inferInstance); (· simp; done); (· simp; done)); simp only [Act.put, List.setIfInBounds_toArray, List.set_cons_zero, List.set_cons_succ])
      (refine sch_look (o := ?_) (v := .agg ([.int .i64 y.d.k, .int .i64 y.d.n, .string y.d.s, .slice ay y.d.l.length cy, .int .i64 y.t] : List Value).toArray) ?_ ?_ ?_ ?_; rotate_left; (· ((conv => lhs; whnf); try exact rfl)); (· rfl); (· intro w' hO'; exact run_opLoadC (ad := ⟨ob, 1, none⟩) (cs := [.int .i64 y.d.k, .int .i64 y.d.n, .string y.d.s, .slice ay y.d.l.length cy, .int .i64 y.t]) (five_at1 hO' (hh := inferInstance)) rfl (by simp) (by simp)); simp only [Act.put, List.setIfInBounds_toArray, List.set_cons_zero, List.set_cons_succ])
      first | (refine sch_look (o := ?_) (v := ?_) ?_ ?_ ?_ ?_; rotate_left 2; (· ((conv => lhs; whnf); try exact rfl)); (· rfl); (· intro w' hO'; skip; go_simp; (try exact rfl)); simp only [Act.put, List.setIfInBounds_toArray, List.set_cons_zero, List.set_cons_succ]) | (refine sch_pass (o := ?_) ?_ ?_ ?_; rotate_left; (· ((conv => lhs; whnf); try exact rfl)); (· rfl); simp only [Act.put, List.setIfInBounds_toArray, List.set_cons_zero, List.set_cons_succ]) | (refine sch_look (o := ?_) (v := .agg ?_) ?_ ?_ ?_ ?_; rotate_left 2; (· ((conv => lhs; whnf); try exact rfl)); (· rfl); (· intro w' hO'; refine run_opLoadS (b := ?_) (cs := ?_) (e := ?_) (f := ?_) hO' ?_ ?_ ?_ ?_; rotate_left 4; (· exact rfl); (· exact inferInstance); (· simp; done); (· simp; done)); simp only [Act.put, List.setIfInBounds_toArray, List.set_cons_zero, List.set_cons_succ])
      first | (refine sch_look (o := ?_) (v := ?_) ?_ ?_ ?_ ?_; rotate_left 2; (· ((conv => lhs; whnf); try exact rfl)); (· rfl); (· intro w' hO'; skip; go_simp; (try exact rfl)); simp only [Act.put, List.setIfInBounds_toArray, List.set_cons_zero, List.set_cons_succ]) | (refine sch_pass (o := ?_) ?_ ?_ ?_; rotate_left; (· ((conv => lhs; whnf); try exact rfl)); (· rfl); simp only [Act.put, List.setIfInBounds_toArray, List.set_cons_zero, List.set_cons_succ]) | (refine sch_look (o := ?_) (v := .agg ?_) ?_ ?_ ?_ ?_; rotate_left 2; (· ((conv => lhs; whnf); try exact rfl)); (· rfl); (· intro w' hO'; refine run_opLoadS (b := ?_) (cs := ?_) (e := ?_) (f := ?_) hO' ?_ ?_ ?_ ?_; rotate_left 4; (· exact rfl); (· exact inferInstance); (· simp; done); (· simp; done)); simp only [Act.put, List.setIfInBounds_toArray, List.set_cons_zero, List.set_cons_succ])
      (refine sch_look (o := ?_) (v := .agg ([.int .i64 y.d.k, .int .i64 y.d.n, .string y.d.s, .slice ay y.d.l.length cy, .int .i64 y.t] : List Value).toArray) ?_ ?_ ?_ ?_; rotate_left; (· ((conv => lhs; whnf); try exact rfl)); (· rfl); (· intro w' hO'; exact run_opLoadC (ad := ⟨ob, 1, none⟩) (cs := [.int .i64 y.d.k, .int .i64 y.d.n, .string y.d.s, .slice ay y.d.l.length cy, .int .i64 y.t]) (five_at1 hO' (hh := inferInstance)) rfl (by simp) (by simp)); simp only [Act.put, List.setIfInBounds_toArray, List.set_cons_zero, List.set_cons_succ])
      (refine sch_act (o := ?_) ?_ ?_; rotate_left; (· ((conv => lhs; whnf); try exact rfl)))
      go_wp2_with fail
      refine (mDelP E _ _ (pt ob (.cells #[.int .i64 2, .int .i64 y.d.k, .int .i64 y.d.n, .string y.d.s, .slice ay y.d.l.length cy, .int .i64 y.t] 96 (0, 0)) ++ (SL ++ (KF ++ R))) A I p c (esO os) hc hA y ay cy HWY.out hI hG (hO.as ((A ++ I) ++ (pt ob (.cells #[.int .i64 2, .int .i64 y.d.k, .int .i64 y.d.n, .string y.d.s, .slice ay y.d.l.length cy, .int .i64 y.t] 96 (0, 0)) ++ (SL ++ (KF ++ R)))))).mono ?_
      rw [HR.out]
      clear hO hF hA
      rintro e w3 ⟨A', rfl, hA, hO⟩
      replace hO : Own E w3 (pt ob (.cells #[.int .i64 2, .int .i64 y.d.k, .int .i64 y.d.n, .string y.d.s, .slice ay y.d.l.length cy, .int .i64 y.t] 96 (0, 0)) ++ (A' ++ (SL ++ (KF ++ (I ++ R))))) := hO.as _
      go_wp2_with fail
      refine ⟨hO.as _, ?_⟩
      (refine sch_act (o := ?_) ?_ ?_; rotate_left; (· ((conv => lhs; whnf); try exact rfl)))
      go_wp2_with fail
      refine (refRefused E _ _ (pt ob (.cells #[.int .i64 2, .int .i64 y.d.k, .int .i64 y.d.n, .string y.d.s, .slice ay y.d.l.length cy, .int .i64 y.t] 96 (0, 0)) ++ (A' ++ (SL ++ R))) I KF ka kc (K3) hK y ay cy hI (hO.as ((KF ++ I) ++ (pt ob (.cells #[.int .i64 2, .int .i64 y.d.k, .int .i64 y.d.n, .string y.d.s, .slice ay y.d.l.length cy, .int .i64 y.t] 96 (0, 0)) ++ (A' ++ (SL ++ R)))))).mono ?_
      rw [HWANT.out]
      clear hO
      rintro e w4 ⟨rfl, hO⟩
      replace hO : Own E w4 (pt ob (.cells #[.int .i64 2, .int .i64 y.d.k, .int .i64 y.d.n, .string y.d.s, .slice ay y.d.l.length cy, .int .i64 y.t] 96 (0, 0)) ++ (A' ++ (SL ++ (KF ++ (I ++ R))))) := hO.as _
      go_wp2_with fail
      refine ⟨hO.as _, ?_⟩
      first | (refine sch_look (o := ?_) (v := ?_) ?_ ?_ ?_ ?_; rotate_left 2; (· ((conv => lhs; whnf); try exact rfl)); (· rfl); (· intro w' hO'; skip; go_simp; (try exact rfl)); simp only [Act.put, List.setIfInBounds_toArray, List.set_cons_zero, List.set_cons_succ]) | (refine sch_pass (o := ?_) ?_ ?_ ?_; rotate_left; (· ((conv => lhs; whnf); try exact rfl)); (· rfl); simp only [Act.put, List.setIfInBounds_toArray, List.set_cons_zero, List.set_cons_succ]) | (refine sch_look (o := ?_) (v := .agg ?_) ?_ ?_ ?_ ?_; rotate_left 2; (· ((conv => lhs; whnf); try exact rfl)); (· rfl); (· intro w' hO'; refine run_opLoadS (b := ?_) (cs := ?_) (e := ?_) (f := ?_) hO' ?_ ?_ ?_ ?_; rotate_left 4; (· exact rfl); (· exact inferInstance); (· simp; done); (· simp; done)); simp only [Act.put, List.setIfInBounds_toArray, List.set_cons_zero, List.set_cons_succ])
      first | (refine sch_look (o := ?_) (v := ?_) ?_ ?_ ?_ ?_; rotate_left 2; (· ((conv => lhs; whnf); try exact rfl)); (· rfl); (· intro w' hO'; skip; go_simp; (try exact rfl)); simp only [Act.put, List.setIfInBounds_toArray, List.set_cons_zero, List.set_cons_succ]) | (refine sch_pass (o := ?_) ?_ ?_ ?_; rotate_left; (· ((conv => lhs; whnf); try exact rfl)); (· rfl); simp only [Act.put, List.setIfInBounds_toArray, List.set_cons_zero, List.set_cons_succ]) | (refine sch_look (o := ?_) (v := .agg ?_) ?_ ?_ ?_ ?_; rotate_left 2; (· ((conv => lhs; whnf); try exact rfl)); (· rfl); (· intro w' hO'; refine run_opLoadS (b := ?_) (cs := ?_) (e := ?_) (f := ?_) hO' ?_ ?_ ?_ ?_; rotate_left 4; (· exact rfl); (· exact inferInstance); (· simp; done); (· simp; done)); simp only [Act.put, List.setIfInBounds_toArray, List.set_cons_zero, List.set_cons_succ])
      refine sch_done ?_
      replace hO : Own E _ (pt ob (.cells #[.int .i64 2, .int .i64 y.d.k, .int .i64 y.d.n, .string y.d.s, .slice ay y.d.l.length cy, .int .i64 y.t] 96 (0, 0)) ++ (A' ++ (SL ++ (KF ++ (I ++ R))))) := hO.as _
      have hF := Own.cells hO; simp only [cellsOf_append, cellsOf_pt] at hF
      go_wp2_with (first | (refine at_load (t := 32) ?_; go_must (refine own_loadC (ad := ⟨ob, 1, none⟩) (cs := [.int .i64 y.d.k, .int .i64 y.d.n, .string y.d.s, .slice ay y.d.l.length cy, .int .i64 y.t]) ?_ (five_at1 hO (hh := inferInstance)) ?_ ?_ ?_ ?_; (· rfl); (· ((conv => lhs; whnf); try exact rfl)); (· simp; done); (· simp; done); simp only [Act.put, List.setIfInBounds_toArray, List.set_cons_zero, List.set_cons_succ])) | (go_at_call 50; refine (refHas E _ _ (pt ob (.cells #[.int .i64 2, .int .i64 y.d.k, .int .i64 y.d.n, .string y.d.s, .slice ay y.d.l.length cy, .int .i64 y.t] 96 (0, 0)) ++ (A' ++ (KF ++ R))) SL I sl cl os HOL.out HOK.out hL y ay cy HYD.out hI (hO.as ((SL ++ I) ++ (pt ob (.cells #[.int .i64 2, .int .i64 y.d.k, .int .i64 y.d.n, .string y.d.s, .slice ay y.d.l.length cy, .int .i64 y.t] 96 (0, 0)) ++ (A' ++ (KF ++ R)))))).mono ?_; rw [decide_eq_false HM.out]; clear hO hF; rintro e w5 ⟨rfl, hO⟩; replace hO : Own E w5 (pt ob (.cells #[.int .i64 2, .int .i64 y.d.k, .int .i64 y.d.n, .string y.d.s, .slice ay y.d.l.length cy, .int .i64 y.t] 96 (0, 0)) ++ (A' ++ (SL ++ (KF ++ (I ++ R))))) := hO.as _; have hF := Own.cells hO; simp only [cellsOf_append, cellsOf_pt] at hF))
      rw [← HPOST.out]
      exact ⟨A', sl, cl, os, SL, rfl, hL, hA, hO.as _⟩
  · obtain ⟨z, hz⟩ : ∃ z, refused (K3) y = z := ⟨_, rfl⟩
    have HWANT := Lib.hid hz
    have hz0 : (z == 0) = false := beq_eq_false_iff_ne.2 (by rw [← hz]; exact hr)
    have HR := Lib.hid (show delR (K3) (esO os) y = (z, esO os) by unfold delR; rw [if_neg hr, hz])
    clear hr hz
    go_wp2_with fail
    (try (go_wp2_with fail))
    refine region_sch (fun w' => Own E w' (pt ob (.cells #[.int .i64 2, .int .i64 y.d.k, .int .i64 y.d.n, .string y.d.s, .slice ay y.d.l.length cy, .int .i64 y.t] 96 (0, 0)))) (.look 0 (.look 1 (.look 2 (.look 4 (.look 5 (.look 6 (.act 3 (.act 7 (.look 8 (.look 9 .done)))))))))) (by kernel_rfl) (by kernel_rfl) (fun _ _ d _ _ h => by cases d <;> exact h) ?_ ?_
    · exact hO.drew.as _
    replace hO := hO.drew
    generalize World.drew _ = wdr at hO ⊢
    first | (refine sch_look (o := ?_) (v := ?_) ?_ ?_ ?_ ?_; rotate_left 2; (· ((conv => lhs; whnf); try exact rfl)); (· rfl); (· intro w' hO'; skip; go_simp; (try exact rfl)); simp only [Act.put, List.setIfInBounds_toArray, List.set_cons_zero, List.set_cons_succ]) | (refine sch_pass (o := ?_) ?_ ?_ ?_; rotate_left; (· ((conv => lhs; whnf); try exact rfl)); (· rfl); simp only [Act.put, List.setIfInBounds_toArray, List.set_cons_zero, List.set_cons_succ]) | (refine sch_look (o := ?_) (v := .agg ?_) ?_ ?_ ?_ ?_; rotate_left 2; (· ((conv => lhs; whnf); try exact rfl)); (· rfl); (· intro w' hO'; refine run_opLoadS (b := ?_) (cs := ?_) (e := ?_) (f := ?_) hO' ?_ ?_ ?_ ?_; rotate_left 4; (· exact rfl); (· exact inferInstance); (· simp; done); (· simp; done)); simp only [Act.put, List.setIfInBounds_toArray, List.set_cons_zero, List.set_cons_succ])
    first | (refine sch_look (o := ?_) (v := ?_) ?_ ?_ ?_ ?_; rotate_left 2; (· ((conv => lhs; whnf); try exact rfl)); (· rfl); (· intro w' hO'; skip; go_simp; (try exact rfl)); simp only [Act.put, List.setIfInBounds_toArray, List.set_cons_zero, List.set_cons_succ]) | (refine sch_pass (o := ?_) ?_ ?_ ?_; rotate_left; (· ((conv => lhs; whnf); try exact rfl)); (· rfl); simp only [Act.put, List.setIfInBounds_toArray, List.set_cons_zero, List.set_cons_succ]) | (refine sch_look (o := ?_) (v := .agg ?_) ?_ ?_ ?_ ?_; rotate_left 2; (· ((conv => lhs; whnf); try exact rfl)); (· rfl); (· intro w' hO'; refine run_opLoadS (b := ?_) (cs := ?_) (e := ?_) (f := ?_) hO' ?_ ?_ ?_ ?_; rotate_left 4; (· exact rfl); (· exact inferInstance); (· simp; done); (· simp; done)); simp only [Act.put, List.setIfInBounds_toArray, List.set_cons_zero, List.set_cons_succ])
    (refine sch_look (o := ?_) (v := .agg ([.int .i64 y.d.k, .int .i64 y.d.n, .string y.d.s, .slice ay y.d.l.length cy, .int .i64 y.t] : List Value).toArray) ?_ ?_ ?_ ?_; rotate_left; (· ((conv => lhs; whnf); try exact rfl)); (· rfl); (· intro w' hO'; exact run_opLoadC (ad := ⟨ob, 1, none⟩) (cs := [.int .i64 y.d.k, .int .i64 y.d.n, .string y.d.s, .slice ay y.d.l.length cy, .int .i64 y.t]) (five_at1 hO' (hh := inferInstance)) rfl (by simp) (by simp)); simp only [Act.put, List.setIfInBounds_toArray, List.set_cons_zero, List.set_cons_succ])
    first | (refine sch_look (o := ?_) (v := ?_) ?_ ?_ ?_ ?_; rotate_left 2; (· ((conv => lhs; whnf); try exact rfl)); (· rfl); (· intro w' hO'; skip; go_simp; (try exact rfl)); simp only [Act.put, List.setIfInBounds_toArray, List.set_cons_zero, List.set_cons_succ]) | (refine sch_pass (o := ?_) ?_ ?_ ?_; rotate_left; (· ((conv => lhs; whnf); try exact rfl)); (· rfl); simp only [Act.put, List.setIfInBounds_toArray, List.set_cons_zero, List.set_cons_succ]) | (refine sch_look (o := ?_) (v := .agg ?_) ?_ ?_ ?_ ?_; rotate_left 2; (· ((conv => lhs; whnf); try exact rfl)); (· rfl); (· intro w' hO'; refine run_opLoadS (b := ?_) (cs := ?_) (e := ?_) (f := ?_) hO' ?_ ?_ ?_ ?_; rotate_left 4; (· exact rfl); (· exact inferInstance); (· simp; done); (· simp; done)); simp only [Act.put, List.setIfInBounds_toArray, List.set_cons_zero, List.set_cons_succ])
    first | (refine sch_look (o := ?_) (v := ?_) ?_ ?_ ?_ ?_; rotate_left 2; (· ((conv => lhs; whnf); try exact rfl)); (· rfl); (· intro w' hO'; skip; go_simp; (try exact rfl)); simp only [Act.put, List.setIfInBounds_toArray, List.set_cons_zero, List.set_cons_succ]) | (refine sch_pass (o := ?_) ?_ ?_ ?_; rotate_left; (· ((conv => lhs; whnf); try exact rfl)); (· rfl); simp only [Act.put, List.setIfInBounds_toArray, List.set_cons_zero, List.set_cons_succ]) | (refine sch_look (o := ?_) (v := .agg ?_) ?_ ?_ ?_ ?_; rotate_left 2; (· ((conv => lhs; whnf); try exact rfl)); (· rfl); (· intro w' hO'; refine run_opLoadS (b := ?_) (cs := ?_) (e := ?_) (f := ?_) hO' ?_ ?_ ?_ ?_; rotate_left 4; (· exact rfl); (· exact inferInstance); (· simp; done); (· simp; done)); simp only [Act.put, List.setIfInBounds_toArray, List.set_cons_zero, List.set_cons_succ])
    (refine sch_look (o := ?_) (v := .agg ([.int .i64 y.d.k, .int .i64 y.d.n, .string y.d.s, .slice ay y.d.l.length cy, .int .i64 y.t] : List Value).toArray) ?_ ?_ ?_ ?_; rotate_left; (· ((conv => lhs; whnf); try exact rfl)); (· rfl); (· intro w' hO'; exact run_opLoadC (ad := ⟨ob, 1, none⟩) (cs := [.int .i64 y.d.k, .int .i64 y.d.n, .string y.d.s, .slice ay y.d.l.length cy, .int .i64 y.t]) (five_at1 hO' (hh := inferInstance)) rfl (by simp) (by simp)); simp only [Act.put, List.setIfInBounds_toArray, List.set_cons_zero, List.set_cons_succ])
    (refine sch_act (o := ?_) ?_ ?_; rotate_left; (· ((conv => lhs; whnf); try exact rfl)))
    go_wp2_with fail
    refine (mDelP E _ _ (pt ob (.cells #[.int .i64 2, .int .i64 y.d.k, .int .i64 y.d.n, .string y.d.s, .slice ay y.d.l.length cy, .int .i64 y.t] 96 (0, 0)) ++ (SL ++ (KF ++ R))) A I p c (esO os) hc hA y ay cy HWY.out hI hG (hO.as ((A ++ I) ++ (pt ob (.cells #[.int .i64 2, .int .i64 y.d.k, .int .i64 y.d.n, .string y.d.s, .slice ay y.d.l.length cy, .int .i64 y.t] 96 (0, 0)) ++ (SL ++ (KF ++ R)))))).mono ?_
    rw [HR.out]
    clear hO hF hA
    rintro e w3 ⟨A', rfl, hA, hO⟩
    replace hO : Own E w3 (pt ob (.cells #[.int .i64 2, .int .i64 y.d.k, .int .i64 y.d.n, .string y.d.s, .slice ay y.d.l.length cy, .int .i64 y.t] 96 (0, 0)) ++ (A' ++ (SL ++ (KF ++ (I ++ R))))) := hO.as _
    go_wp2_with fail
    refine ⟨hO.as _, ?_⟩
    (refine sch_act (o := ?_) ?_ ?_; rotate_left; (· ((conv => lhs; whnf); try exact rfl)))
    go_wp2_with fail
    refine (refRefused E _ _ (pt ob (.cells #[.int .i64 2, .int .i64 y.d.k, .int .i64 y.d.n, .string y.d.s, .slice ay y.d.l.length cy, .int .i64 y.t] 96 (0, 0)) ++ (A' ++ (SL ++ R))) I KF ka kc (K3) hK y ay cy hI (hO.as ((KF ++ I) ++ (pt ob (.cells #[.int .i64 2, .int .i64 y.d.k, .int .i64 y.d.n, .string y.d.s, .slice ay y.d.l.length cy, .int .i64 y.t] 96 (0, 0)) ++ (A' ++ (SL ++ R)))))).mono ?_
    rw [HWANT.out]
    clear hO
    rintro e w4 ⟨rfl, hO⟩
    replace hO : Own E w4 (pt ob (.cells #[.int .i64 2, .int .i64 y.d.k, .int .i64 y.d.n, .string y.d.s, .slice ay y.d.l.length cy, .int .i64 y.t] 96 (0, 0)) ++ (A' ++ (SL ++ (KF ++ (I ++ R))))) := hO.as _
    go_wp2_with fail
    refine ⟨hO.as _, ?_⟩
    first | (refine sch_look (o := ?_) (v := ?_) ?_ ?_ ?_ ?_; rotate_left 2; (· ((conv => lhs; whnf); try exact rfl)); (· rfl); (· intro w' hO'; skip; go_simp; (try exact rfl)); simp only [Act.put, List.setIfInBounds_toArray, List.set_cons_zero, List.set_cons_succ]) | (refine sch_pass (o := ?_) ?_ ?_ ?_; rotate_left; (· ((conv => lhs; whnf); try exact rfl)); (· rfl); simp only [Act.put, List.setIfInBounds_toArray, List.set_cons_zero, List.set_cons_succ]) | (refine sch_look (o := ?_) (v := .agg ?_) ?_ ?_ ?_ ?_; rotate_left 2; (· ((conv => lhs; whnf); try exact rfl)); (· rfl); (· intro w' hO'; refine run_opLoadS (b := ?_) (cs := ?_) (e := ?_) (f := ?_) hO' ?_ ?_ ?_ ?_; rotate_left 4; (· exact rfl); (· exact inferInstance); (· simp; done); (· simp; done)); simp only [Act.put, List.setIfInBounds_toArray, List.set_cons_zero, List.set_cons_succ])
    first | (refine sch_look (o := ?_) (v := ?_) ?_ ?_ ?_ ?_; rotate_left 2; (· ((conv => lhs; whnf); try exact rfl)); (· rfl); (· intro w' hO'; skip; go_simp; (try exact rfl)); simp only [Act.put, List.setIfInBounds_toArray, List.set_cons_zero, List.set_cons_succ]) | (refine sch_pass (o := ?_) ?_ ?_ ?_; rotate_left; (· ((conv => lhs; whnf); try exact rfl)); (· rfl); simp only [Act.put, List.setIfInBounds_toArray, List.set_cons_zero, List.set_cons_succ]) | (refine sch_look (o := ?_) (v := .agg ?_) ?_ ?_ ?_ ?_; rotate_left 2; (· ((conv => lhs; whnf); try exact rfl)); (· rfl); (· intro w' hO'; refine run_opLoadS (b := ?_) (cs := ?_) (e := ?_) (f := ?_) hO' ?_ ?_ ?_ ?_; rotate_left 4; (· exact rfl); (· exact inferInstance); (· simp; done); (· simp; done)); simp only [Act.put, List.setIfInBounds_toArray, List.set_cons_zero, List.set_cons_succ])
    refine sch_done ?_
    replace hO : Own E _ (pt ob (.cells #[.int .i64 2, .int .i64 y.d.k, .int .i64 y.d.n, .string y.d.s, .slice ay y.d.l.length cy, .int .i64 y.t] 96 (0, 0)) ++ (A' ++ (SL ++ (KF ++ (I ++ R))))) := hO.as _
    have hF := Own.cells hO; simp only [cellsOf_append, cellsOf_pt] at hF
    go_wp2_with fail
    rw [← HPOST.out]
    exact ⟨A', sl, cl, os, SL, rfl, hL, hA, hO.as _⟩
set_option maxRecDepth 100000 in
set_option maxHeartbeats 16000000 in
theorem doesFP (E w : World) (X R A SL KF I : Fr) (p c : Nat) (hc : c < CP) (ka : Option Addr) (kc : Nat) (hK : Sl 3 1 ka (K3).length kc ((K3).map (Value.int .i64)) KF) (sl : Option Addr) (cl : Nat) (os : List Oe) (hL : LAt E I sl cl os SL) (hA : StP E p c (esO os) A)
    (y : En) (ay : Option Addr) (cy : Nat) (hw : y.d.wf) (hI : ItemsAt E I ay y.d.l) (hG : MaxL E I) (hO : Own E w X) [hp : Pick X (A ++ (SL ++ (KF ++ I))) R] :
    Calls Tryd.prog 34 #[.iface 24 (.pointer (some ⟨p, 0, none⟩)), .slice ka (K3).length kc, .slice sl os.length cl, .agg #[.int .i64 3, .int .i64 y.d.k, .int .i64 y.d.n, .string y.d.s, .slice ay y.d.l.length cy, .int .i64 y.t]] w (DoesPP E p c I (KF ++ (I ++ R))) := by
  replace hO : Own E w (A ++ (SL ++ (KF ++ (I ++ R)))) := by have := hO.perm hp.perm; simp only [List.append_assoc] at this; exact this
  clear hp
  generalize hpost : DoesPP E p c I (KF ++ (I ++ R)) = POST
  have HPOST := Lib.hid hpost
  clear hpost
  have i0 := ivFindP (.pointer (some ⟨p, 0, none⟩))
  have i1 := ivInsertP (.pointer (some ⟨p, 0, none⟩))
  have i2 := ivDeleteP (.pointer (some ⟨p, 0, none⟩))
  have i6 := ivDropP (.pointer (some ⟨p, 0, none⟩))
  have hle := hA.le
  have hes := hA.es
  have hol : os.length ≤ c := by rwa [esO_len] at hle
  have hcb : c ≤ 2000000000000 := by have := hc; unfold CP at this; omega
  have HOK := Lib.hid (show ∀ o ∈ os, o.e.d.ok = true from fun o ho => (hes.ok o.e (List.mem_map.2 ⟨o, ho, rfl⟩)).1)
  have HWF := Lib.hid (show ∀ o ∈ os, o.e.d.wf from fun o ho => (hes.ok o.e (List.mem_map.2 ⟨o, ho, rfl⟩)).2.1)
  have HOL := Lib.hid (show os.length ≤ 2000000000000 by omega)
  have HWY := Lib.hid hw
  clear hle hes hol hcb hw
  go_enter Tryd.func34, Tryd.ntmps34
  go_wp2_with (first | (refine at_box ?_; go_must (refine own_box (v := ?_) hO ?_ ?_ ?_; rotate_left; (· rfl); (· ((conv => lhs; whnf); try exact rfl)); clear hO; (try clear hF); intro ob _ hO; (try simp only [Value.cells] at hO); ((try simp only [List.nil_append, List.append_nil] at hO); have hF := Own.cells hO; simp only [cellsOf_append, cellsOf_pt] at hF); simp only [Act.put, List.setIfInBounds_toArray, List.set_cons_zero, List.set_cons_succ])))
  replace hO : Own E _ (pt ob (.cells #[.int .i64 3, .int .i64 y.d.k, .int .i64 y.d.n, .string y.d.s, .slice ay y.d.l.length cy, .int .i64 y.t] 96 (0, 0)) ++ (A ++ (SL ++ (KF ++ (I ++ R))))) := hO.as _
  have hF := Own.cells hO; simp only [cellsOf_append, cellsOf_pt] at hF
  by_cases hr : refused (K3) ⟨y.d, 0⟩ = 0
  · have hyd := okE_d (refused_ok hr).1
    have HYD : Hid (y.d.ok = true) := Lib.hid hyd
    have HWANT := Lib.hid hr
    have HR := Lib.hid (show fndR (K3) (esO os) y.d = (0, (keyE (esO os) y.d).map (·.t)) by unfold fndR; rw [if_pos hr])
    clear hyd hr
    go_wp2_with (first | (refine at_load (t := 30) ?_; go_must (refine own_loadC (ad := ⟨ob, 1, none⟩) (cs := [.int .i64 y.d.k, .int .i64 y.d.n, .string y.d.s, .slice ay y.d.l.length cy]) ?_ (fun j v hj => five_at1 hO (hh := inferInstance) j v (pre4 hj)) ?_ ?_ ?_ ?_; (· rfl); (· ((conv => lhs; whnf); try exact rfl)); (· simp; done); (· simp; done); simp only [Act.put, List.setIfInBounds_toArray, List.set_cons_zero, List.set_cons_succ])))
    refine (mFindP E _ _ (pt ob (.cells #[.int .i64 3, .int .i64 y.d.k, .int .i64 y.d.n, .string y.d.s, .slice ay y.d.l.length cy, .int .i64 y.t] 96 (0, 0)) ++ (SL ++ (KF ++ R))) A I p c (esO os) hc hA y.d ay cy HWY.out hI hG (hO.as ((A ++ I) ++ (pt ob (.cells #[.int .i64 3, .int .i64 y.d.k, .int .i64 y.d.n, .string y.d.s, .slice ay y.d.l.length cy, .int .i64 y.t] 96 (0, 0)) ++ (SL ++ (KF ++ R)))))).mono ?_
    rw [HR.out]
    clear hO hF hA
    rintro e w3 ⟨A', so, co, SO, rfl, hSO, hA, hO⟩
    replace hO : Own E w3 (SO ++ (pt ob (.cells #[.int .i64 3, .int .i64 y.d.k, .int .i64 y.d.n, .string y.d.s, .slice ay y.d.l.length cy, .int .i64 y.t] 96 (0, 0)) ++ (A' ++ (SL ++ (KF ++ (I ++ R)))))) := hO.as _
    have hF := Own.cells hO; simp only [cellsOf_append, cellsOf_pt] at hF
    go_wp2_with (first | (refine at_load (t := 30) ?_; go_must (refine own_loadC (ad := ⟨ob, 1, none⟩) (cs := [.int .i64 y.d.k, .int .i64 y.d.n, .string y.d.s, .slice ay y.d.l.length cy]) ?_ (fun j v hj => five_at1 hO (hh := inferInstance) j v (pre4 hj)) ?_ ?_ ?_ ?_; (· rfl); (· ((conv => lhs; whnf); try exact rfl)); (· simp; done); (· simp; done); simp only [Act.put, List.setIfInBounds_toArray, List.set_cons_zero, List.set_cons_succ])))
    refine (refRefKey E _ _ (SO ++ (pt ob (.cells #[.int .i64 3, .int .i64 y.d.k, .int .i64 y.d.n, .string y.d.s, .slice ay y.d.l.length cy, .int .i64 y.t] 96 (0, 0)) ++ (A' ++ (SL ++ R)))) I KF ka kc (K3) hK y.d ay cy hI (hO.as ((KF ++ I) ++ (SO ++ (pt ob (.cells #[.int .i64 3, .int .i64 y.d.k, .int .i64 y.d.n, .string y.d.s, .slice ay y.d.l.length cy, .int .i64 y.t] 96 (0, 0)) ++ (A' ++ (SL ++ R))))))).mono ?_
    rw [HWANT.out]
    clear hO hF
    rintro e w4 ⟨rfl, hO⟩
    replace hO : Own E w4 (SO ++ (pt ob (.cells #[.int .i64 3, .int .i64 y.d.k, .int .i64 y.d.n, .string y.d.s, .slice ay y.d.l.length cy, .int .i64 y.t] 96 (0, 0)) ++ (A' ++ (SL ++ (KF ++ (I ++ R)))))) := hO.as _
    have hF := Own.cells hO; simp only [cellsOf_append, cellsOf_pt] at hF
    have hkl : ((keyE (esO os) y.d).map (·.t)).length ≤ 4000000000000 := by
      rw [List.length_map]
      have h1 := keyE_le (esO os) y.d
      rw [esO_len] at h1
      have := HOL.out
      omega
    have HKL := Lib.hid hkl
    obtain ⟨L, hLd⟩ : ∃ L, (keyE (esO os) y.d).map (·.t) = L := ⟨_, rfl⟩
    have HLD := Lib.hid hLd
    replace hSO : Sl 3 1 so L.length co (L.map (Value.int .i64)) SO := by rw [← hLd]; exact hSO
    simp only [hLd]
    clear hkl hLd
    go_wp2_with (first | (refine at_load (t := 30) ?_; go_must (refine own_loadC (ad := ⟨ob, 1, none⟩) (cs := [.int .i64 y.d.k, .int .i64 y.d.n, .string y.d.s, .slice ay y.d.l.length cy]) ?_ (fun j v hj => five_at1 hO (hh := inferInstance) j v (pre4 hj)) ?_ ?_ ?_ ?_; (· rfl); (· ((conv => lhs; whnf); try exact rfl)); (· simp; done); (· simp; done); simp only [Act.put, List.setIfInBounds_toArray, List.set_cons_zero, List.set_cons_succ])) | (go_at_call 22; refine (refFind E _ _ (SO ++ (pt ob (.cells #[.int .i64 3, .int .i64 y.d.k, .int .i64 y.d.n, .string y.d.s, .slice ay y.d.l.length cy, .int .i64 y.t] 96 (0, 0)) ++ (A' ++ (KF ++ R)))) SL I sl cl os HOL.out HOK.out hL y.d ay cy HYD.out hI (hO.as ((SL ++ I) ++ (SO ++ (pt ob (.cells #[.int .i64 3, .int .i64 y.d.k, .int .i64 y.d.n, .string y.d.s, .slice ay y.d.l.length cy, .int .i64 y.t] 96 (0, 0)) ++ (A' ++ (KF ++ R))))))).mono ?_; clear hO hF; rintro e w6 ⟨so2, co2, S2, rfl, hS2, hO⟩; rw [tidsV_map, ← List.length_map (f := fun x : En => x.t), HLD.out] at hS2; rw [← List.length_map (f := fun x : En => x.t), HLD.out]; replace hO : Own E w6 (S2 ++ (SO ++ (pt ob (.cells #[.int .i64 3, .int .i64 y.d.k, .int .i64 y.d.n, .string y.d.s, .slice ay y.d.l.length cy, .int .i64 y.t] 96 (0, 0)) ++ (A' ++ (SL ++ (KF ++ (I ++ R))))))) := hO.as _; have hF := Own.cells hO; simp only [cellsOf_append, cellsOf_pt] at hF) | (go_at_call 54; refine (bInts E _ _ (pt ob (.cells #[.int .i64 3, .int .i64 y.d.k, .int .i64 y.d.n, .string y.d.s, .slice ay y.d.l.length cy, .int .i64 y.t] 96 (0, 0)) ++ (A' ++ (SL ++ (KF ++ (I ++ R))))) SO S2 so so2 co co2 L L (by rw [← HLD.out]; exact HKL.out) hSO hS2 (hO.as ((SO ++ S2) ++ (pt ob (.cells #[.int .i64 3, .int .i64 y.d.k, .int .i64 y.d.n, .string y.d.s, .slice ay y.d.l.length cy, .int .i64 y.t] 96 (0, 0)) ++ (A' ++ (SL ++ (KF ++ (I ++ R)))))))).mono ?_; rw [decide_eq_true rfl]; clear hO hF; rintro e w7 ⟨rfl, hO⟩; replace hO : Own E w7 (S2 ++ (SO ++ (pt ob (.cells #[.int .i64 3, .int .i64 y.d.k, .int .i64 y.d.n, .string y.d.s, .slice ay y.d.l.length cy, .int .i64 y.t] 96 (0, 0)) ++ (A' ++ (SL ++ (KF ++ (I ++ R))))))) := hO.as _; have hF := Own.cells hO; simp only [cellsOf_append, cellsOf_pt] at hF))
    rw [← HPOST.out]
    exact ⟨A', sl, cl, os, SL, rfl, hL, hA, hO.as _⟩
  · obtain ⟨z, hz⟩ : ∃ z, refused (K3) ⟨y.d, 0⟩ = z := ⟨_, rfl⟩
    have HWANT := Lib.hid hz
    have hz0 : (z == 0) = false := beq_eq_false_iff_ne.2 (by rw [← hz]; exact hr)
    have HR := Lib.hid (show fndR (K3) (esO os) y.d = (z, []) by unfold fndR; rw [if_neg hr, hz])
    clear hr hz
    go_wp2_with (first | (refine at_load (t := 30) ?_; go_must (refine own_loadC (ad := ⟨ob, 1, none⟩) (cs := [.int .i64 y.d.k, .int .i64 y.d.n, .string y.d.s, .slice ay y.d.l.length cy]) ?_ (fun j v hj => five_at1 hO (hh := inferInstance) j v (pre4 hj)) ?_ ?_ ?_ ?_; (· rfl); (· ((conv => lhs; whnf); try exact rfl)); (· simp; done); (· simp; done); simp only [Act.put, List.setIfInBounds_toArray, List.set_cons_zero, List.set_cons_succ])))
    refine (mFindP E _ _ (pt ob (.cells #[.int .i64 3, .int .i64 y.d.k, .int .i64 y.d.n, .string y.d.s, .slice ay y.d.l.length cy, .int .i64 y.t] 96 (0, 0)) ++ (SL ++ (KF ++ R))) A I p c (esO os) hc hA y.d ay cy HWY.out hI hG (hO.as ((A ++ I) ++ (pt ob (.cells #[.int .i64 3, .int .i64 y.d.k, .int .i64 y.d.n, .string y.d.s, .slice ay y.d.l.length cy, .int .i64 y.t] 96 (0, 0)) ++ (SL ++ (KF ++ R)))))).mono ?_
    rw [HR.out]
    clear hO hF hA
    rintro e w3 ⟨A', so, co, SO, rfl, hSO, hA, hO⟩
    replace hO : Own E w3 (SO ++ (pt ob (.cells #[.int .i64 3, .int .i64 y.d.k, .int .i64 y.d.n, .string y.d.s, .slice ay y.d.l.length cy, .int .i64 y.t] 96 (0, 0)) ++ (A' ++ (SL ++ (KF ++ (I ++ R)))))) := hO.as _
    have hF := Own.cells hO; simp only [cellsOf_append, cellsOf_pt] at hF
    go_wp2_with (first | (refine at_load (t := 30) ?_; go_must (refine own_loadC (ad := ⟨ob, 1, none⟩) (cs := [.int .i64 y.d.k, .int .i64 y.d.n, .string y.d.s, .slice ay y.d.l.length cy]) ?_ (fun j v hj => five_at1 hO (hh := inferInstance) j v (pre4 hj)) ?_ ?_ ?_ ?_; (· rfl); (· ((conv => lhs; whnf); try exact rfl)); (· simp; done); (· simp; done); simp only [Act.put, List.setIfInBounds_toArray, List.set_cons_zero, List.set_cons_succ])))
    refine (refRefKey E _ _ (SO ++ (pt ob (.cells #[.int .i64 3, .int .i64 y.d.k, .int .i64 y.d.n, .string y.d.s, .slice ay y.d.l.length cy, .int .i64 y.t] 96 (0, 0)) ++ (A' ++ (SL ++ R)))) I KF ka kc (K3) hK y.d ay cy hI (hO.as ((KF ++ I) ++ (SO ++ (pt ob (.cells #[.int .i64 3, .int .i64 y.d.k, .int .i64 y.d.n, .string y.d.s, .slice ay y.d.l.length cy, .int .i64 y.t] 96 (0, 0)) ++ (A' ++ (SL ++ R))))))).mono ?_
    rw [HWANT.out]
    clear hO hF
    rintro e w4 ⟨rfl, hO⟩
    replace hO : Own E w4 (SO ++ (pt ob (.cells #[.int .i64 3, .int .i64 y.d.k, .int .i64 y.d.n, .string y.d.s, .slice ay y.d.l.length cy, .int .i64 y.t] 96 (0, 0)) ++ (A' ++ (SL ++ (KF ++ (I ++ R)))))) := hO.as _
    have hF := Own.cells hO; simp only [cellsOf_append, cellsOf_pt] at hF
    go_wp2_with fail
    rw [← HPOST.out]
    exact ⟨A', sl, cl, os, SL, rfl, hL, hA, hO.as _⟩
set_option maxRecDepth 100000 in
set_option maxHeartbeats 16000000 in
theorem doesXP (E w : World) (X R A SL KF I : Fr) (p c : Nat) (hc : c < CP) (ka : Option Addr) (kc : Nat) (hK : Sl 3 1 ka (K3).length kc ((K3).map (Value.int .i64)) KF) (sl : Option Addr) (cl : Nat) (os : List Oe) (hL : LAt E I sl cl os SL) (hA : StP E p c (esO os) A)
    (y : En) (ay : Option Addr) (cy : Nat) (hw : y.d.wf) (hI : ItemsAt E I ay y.d.l) (hG : MaxL E I) (hO : Own E w X) [hp : Pick X (A ++ (SL ++ (KF ++ I))) R] :
    Calls Tryd.prog 34 #[.iface 24 (.pointer (some ⟨p, 0, none⟩)), .slice ka (K3).length kc, .slice sl os.length cl, .agg #[.int .i64 4, .int .i64 y.d.k, .int .i64 y.d.n, .string y.d.s, .slice ay y.d.l.length cy, .int .i64 y.t]] w (DoesPP E p c I (KF ++ (I ++ R))) := by
  replace hO : Own E w (A ++ (SL ++ (KF ++ (I ++ R)))) := by have := hO.perm hp.perm; simp only [List.append_assoc] at this; exact this
  clear hp
  generalize hpost : DoesPP E p c I (KF ++ (I ++ R)) = POST
  have HPOST := Lib.hid hpost
  clear hpost
  have i0 := ivFindP (.pointer (some ⟨p, 0, none⟩))
  have i1 := ivInsertP (.pointer (some ⟨p, 0, none⟩))
  have i2 := ivDeleteP (.pointer (some ⟨p, 0, none⟩))
  have i6 := ivDropP (.pointer (some ⟨p, 0, none⟩))
  have hle := hA.le
  have hes := hA.es
  have hol : os.length ≤ c := by rwa [esO_len] at hle
  have hcb : c ≤ 2000000000000 := by have := hc; unfold CP at this; omega
  have HOK := Lib.hid (show ∀ o ∈ os, o.e.d.ok = true from fun o ho => (hes.ok o.e (List.mem_map.2 ⟨o, ho, rfl⟩)).1)
  have HWF := Lib.hid (show ∀ o ∈ os, o.e.d.wf from fun o ho => (hes.ok o.e (List.mem_map.2 ⟨o, ho, rfl⟩)).2.1)
  have HOL := Lib.hid (show os.length ≤ 2000000000000 by omega)
  have HWY := Lib.hid hw
  clear hle hes hol hcb hw
  go_enter Tryd.func34, Tryd.ntmps34
  go_wp2_with (first | (refine at_box ?_; go_must (refine own_box (v := ?_) hO ?_ ?_ ?_; rotate_left; (· rfl); (· ((conv => lhs; whnf); try exact rfl)); clear hO; (try clear hF); intro ob _ hO; (try simp only [Value.cells] at hO); ((try simp only [List.nil_append, List.append_nil] at hO); have hF := Own.cells hO; simp only [cellsOf_append, cellsOf_pt] at hF); simp only [Act.put, List.setIfInBounds_toArray, List.set_cons_zero, List.set_cons_succ])))
  replace hO : Own E _ (pt ob (.cells #[.int .i64 4, .int .i64 y.d.k, .int .i64 y.d.n, .string y.d.s, .slice ay y.d.l.length cy, .int .i64 y.t] 96 (0, 0)) ++ (A ++ (SL ++ (KF ++ (I ++ R))))) := hO.as _
  go_wp2_with fail
  refine (mDropP E _ _ (pt ob (.cells #[.int .i64 4, .int .i64 y.d.k, .int .i64 y.d.n, .string y.d.s, .slice ay y.d.l.length cy, .int .i64 y.t] 96 (0, 0)) ++ (SL ++ (KF ++ (I ++ R)))) A p c (esO os) hc hA (hO.as (A ++ (pt ob (.cells #[.int .i64 4, .int .i64 y.d.k, .int .i64 y.d.n, .string y.d.s, .slice ay y.d.l.length cy, .int .i64 y.t] 96 (0, 0)) ++ (SL ++ (KF ++ (I ++ R))))))).mono ?_
  clear hO hA
  rintro e w3 ⟨A', rfl, hA, hO⟩
  go_wp2_with fail
  rw [← HPOST.out]
  exact ⟨A', none, 0, [], [], rfl, LAt.nil E I, hA, hO.as _⟩
set_option maxRecDepth 100000 in
set_option maxHeartbeats 16000000 in
theorem doesNP (E w : World) (X R A SL KF I : Fr) (p c : Nat) (hc : c < CP) (ka : Option Addr) (kc : Nat) (hK : Sl 3 1 ka (K3).length kc ((K3).map (Value.int .i64)) KF) (sl : Option Addr) (cl : Nat) (os : List Oe) (hL : LAt E I sl cl os SL) (hA : StP E p c (esO os) A)
    (k : Int) (hk : k ≠ 1 ∧ k ≠ 2 ∧ k ≠ 3 ∧ k ≠ 4) (y : En) (ay : Option Addr) (cy : Nat) (hw : y.d.wf) (hI : ItemsAt E I ay y.d.l) (hG : MaxL E I) (hO : Own E w X) [hp : Pick X (A ++ (SL ++ (KF ++ I))) R] :
    Calls Tryd.prog 34 #[.iface 24 (.pointer (some ⟨p, 0, none⟩)), .slice ka (K3).length kc, .slice sl os.length cl, .agg #[.int .i64 k, .int .i64 y.d.k, .int .i64 y.d.n, .string y.d.s, .slice ay y.d.l.length cy, .int .i64 y.t]] w (DoesPP E p c I (KF ++ (I ++ R))) := by
  replace hO : Own E w (A ++ (SL ++ (KF ++ (I ++ R)))) := by have := hO.perm hp.perm; simp only [List.append_assoc] at this; exact this
  clear hp
  generalize hpost : DoesPP E p c I (KF ++ (I ++ R)) = POST
  have HPOST := Lib.hid hpost
  clear hpost
  have i0 := ivFindP (.pointer (some ⟨p, 0, none⟩))
  have i1 := ivInsertP (.pointer (some ⟨p, 0, none⟩))
  have i2 := ivDeleteP (.pointer (some ⟨p, 0, none⟩))
  have i6 := ivDropP (.pointer (some ⟨p, 0, none⟩))
  have hle := hA.le
  have hes := hA.es
  have hol : os.length ≤ c := by rwa [esO_len] at hle
  have hcb : c ≤ 2000000000000 := by have := hc; unfold CP at this; omega
  have HOK := Lib.hid (show ∀ o ∈ os, o.e.d.ok = true from fun o ho => (hes.ok o.e (List.mem_map.2 ⟨o, ho, rfl⟩)).1)
  have HWF := Lib.hid (show ∀ o ∈ os, o.e.d.wf from fun o ho => (hes.ok o.e (List.mem_map.2 ⟨o, ho, rfl⟩)).2.1)
  have HOL := Lib.hid (show os.length ≤ 2000000000000 by omega)
  have HWY := Lib.hid hw
  clear hle hes hol hcb hw
  obtain ⟨k1, k2, k3, k4⟩ := hk
  have q1 : (k == 1) = false := beq_eq_false_iff_ne.2 k1
  have q2 : (k == 2) = false := beq_eq_false_iff_ne.2 k2
  have q3 : (k == 3) = false := beq_eq_false_iff_ne.2 k3
  have q4 : (k == 4) = false := beq_eq_false_iff_ne.2 k4
  clear k1 k2 k3 k4
  go_enter Tryd.func34, Tryd.ntmps34
  go_wp2_with (first | (refine at_box ?_; go_must (refine own_box (v := ?_) hO ?_ ?_ ?_; rotate_left; (· rfl); (· ((conv => lhs; whnf); try exact rfl)); clear hO; (try clear hF); intro ob _ hO; (try simp only [Value.cells] at hO); ((try simp only [List.nil_append, List.append_nil] at hO); have hF := Own.cells hO; simp only [cellsOf_append, cellsOf_pt] at hF); simp only [Act.put, List.setIfInBounds_toArray, List.set_cons_zero, List.set_cons_succ])))
  go_wp2_with fail
  rw [← HPOST.out]
  exact ⟨A, sl, cl, os, SL, rfl, hL, hA.mono (Nat.le_succ c), hO.as _⟩
theorem doesP (E w : World) (X R A SL KF I : Fr) (p c : Nat) (hc : c < CP) (ka : Option Addr) (kc : Nat) (hK : Sl 3 1 ka (K3).length kc ((K3).map (Value.int .i64)) KF) (sl : Option Addr) (cl : Nat) (os : List Oe) (hL : LAt E I sl cl os SL) (hA : StP E p c (esO os) A)
    (k : Int) (y : En) (ay : Option Addr) (cy : Nat) (hw : y.d.wf) (hI : ItemsAt E I ay y.d.l) (hG : MaxL E I) (hO : Own E w X) [hp : Pick X (A ++ (SL ++ (KF ++ I))) R] :
    Calls Tryd.prog 34 #[.iface 24 (.pointer (some ⟨p, 0, none⟩)), .slice ka (K3).length kc, .slice sl os.length cl, .agg #[.int .i64 k, .int .i64 y.d.k, .int .i64 y.d.n, .string y.d.s, .slice ay y.d.l.length cy, .int .i64 y.t]] w (DoesPP E p c I (KF ++ (I ++ R))) := by
  by_cases h1 : k = 1
  · subst h1; exact doesIP E w X R A SL KF I p c hc ka kc hK sl cl os hL hA y ay cy hw hI hG hO
  by_cases h2 : k = 2
  · subst h2; exact doesDP E w X R A SL KF I p c hc ka kc hK sl cl os hL hA y ay cy hw hI hG hO
  by_cases h3 : k = 3
  · subst h3; exact doesFP E w X R A SL KF I p c hc ka kc hK sl cl os hL hA y ay cy hw hI hG hO
  by_cases h4 : k = 4
  · subst h4; exact doesXP E w X R A SL KF I p c hc ka kc hK sl cl os hL hA y ay cy hw hI hG hO
  exact doesNP E w X R A SL KF I p c hc ka kc hK sl cl os hL hA k ⟨h1, h2, h3, h4⟩ y ay cy hw hI hG hO
end Go.Proofs.YticclennllklpaaDoor

/- Calls of a method, in memory and handed in. -/
namespace Go.Dt
open Go Go.RowKit Go.Own
end Go.Dt
namespace Go.Proofs.YticclennllklpaaDoor
open Go Go.RowKit Go.Own Go.Dt Go.ChangeShapes Go.WideShapes Go.Deep

def opV (o : OpB) (a : Option Addr) (c : Nat) : List Value := [.int .i64 o.k, .int .i64 o.y.d.k, .int .i64 o.y.d.n, .string o.y.d.s, .slice a o.y.d.l.length c, .int .i64 o.y.t]
/-- The calls as they came in. -/
def OpsAtB (E : World) (I : Fr) (sa : Option Addr) (l : List OpB) : Prop :=
  ∃ (ia : Nat → Option Addr) (ic : Nat → Nat), (∀ (Y : Fr) (w : World), Own E w (I ++ Y) → ∀ i (hi : i < l.length), ∃ ad, sa = some ad ∧ ∀ j u, (opV (l[i]'hi) (ia i) (ic i))[j]? = some u → w.cell? ((ad.add (i * 6)).add j) = some u) ∧
    ∀ i (hi : i < l.length), ItemsAt E I (ia i) (l[i]'hi).y.d.l
theorem OpsAtB.get {E w : World} {I Y : Fr} {sa : Option Addr} {l : List OpB} (h : OpsAtB E I sa l) (hO : Own E w (I ++ Y)) {i : Nat} (hi : i < l.length) :
    ∃ ad a c, sa = some ad ∧ (∀ (Y : Fr) (w : World), Own E w (I ++ Y) → ∀ j u, (opV (l[i]'hi) a c)[j]? = some u → w.cell? ((ad.add (i * 6)).add j) = some u) ∧ ItemsAt E I a (l[i]'hi).y.d.l := by
  obtain ⟨ia, ic, h1, h2⟩ := h
  obtain ⟨ad, rfl, _⟩ := h1 Y w hO i hi
  refine ⟨ad, ia i, ic i, rfl, fun Y w hO j u hj => ?_, h2 i hi⟩
  obtain ⟨ad', e, h3⟩ := h1 Y w hO i hi
  cases e
  exact h3 j u hj
section
variable {H : Type} {enc : TypeId × Value → H} {W : World} {spare : Nat → Bool}
theorem cO6 : Tryd.prog.cellsOf 96 = 6 := by kernel_rfl
set_option maxRecDepth 100000 in
theorem openOp {fuel : Nat} {cs : List Value} {x : DataW H × List MemPlace} (h : DataW.trod enc Tryd.prog W 0 spare true fuel 96 cs = some x) :
    ∃ (o : OpB) (sa : Option Addr) (cap : Nat), cs = opV o sa cap ∧ o.y.d.wf ∧ o.y.d.l.length ≤ cap ∧ ItemsAt W (oldFr W) sa o.y.d.l := by
  obtain ⟨xs, n, rfl, rfl, hl, hn, hf⟩ := DataW.trod_struct Tryd.underlying96 h
  rw [cO6] at hl
  match cs, hl with
  | [c0, c1, c2, c3, c4, c5], _ =>
    have t0 : DataW.trod enc Tryd.prog W 0 spare true n 3 (([c0, c1, c2, c3, c4, c5].drop 0).take (Tryd.prog.cellsOf 3)) = xs[0]? := hf 0 _ rfl
    rw [cI1] at t0
    replace t0 : DataW.trod enc Tryd.prog W 0 spare true n 3 [c0] = xs[0]? := t0
    have t1 : DataW.trod enc Tryd.prog W 0 spare true n 32 (([c0, c1, c2, c3, c4, c5].drop 1).take (Tryd.prog.cellsOf 32)) = xs[1]? := hf 1 _ rfl
    rw [cE5] at t1
    replace t1 : DataW.trod enc Tryd.prog W 0 spare true n 32 [c1, c2, c3, c4, c5] = xs[1]? := t1
    have hn4 : xs.length = 2 := hn
    have e0 : xs[0]? = some xs[0] := List.getElem?_eq_getElem (by omega)
    have e1 : xs[1]? = some xs[1] := List.getElem?_eq_getElem (by omega)
    rw [e0] at t0
    rw [e1] at t1
    obtain ⟨e, sa, cap, hc, hw, _, hlc, hI⟩ := openEn t1
    obtain ⟨k0, c0', _, w0⟩ := DataW.trod_int Tryd.underlying3 t0
    simp only [List.cons.injEq, and_true] at c0'
    subst c0'
    simp only [datV, List.cons_append, List.nil_append, List.cons.injEq, and_true] at hc
    obtain ⟨rfl, rfl, rfl, rfl, rfl⟩ := hc
    exact ⟨⟨k0, e⟩, sa, cap, rfl, hw, hlc, hI⟩
set_option maxRecDepth 100000 in
theorem openOps {fuel : Nat} {v : Value} {x : DataW H × List MemPlace} (h : DataW.trod enc Tryd.prog W 0 spare true fuel 50 [v] = some x) :
    ∃ (sa : Option Addr) (cap : Nat) (l : List OpB), v = .slice sa l.length cap ∧ l.length ≤ cap ∧ OpsAtB W (oldFr W) sa l ∧ (∀ o ∈ l, o.y.d.wf) ∧ (l.length = 0 ∨ ∃ es sp, x.1 = .slice es sp ∧ es.length = l.length) := by
  obtain ⟨sa, len, cap, rfl, hlc, _, _, hx, hr⟩ := open_rowsE Tryd.underlying50 cO6 h
  have : ∀ i, i < len → ∃ o : OpB × Option Addr × Nat, (∃ ad, sa = some ad ∧ RowAt W (ad.add (i * 6)) (opV o.1 o.2.1 o.2.2)) ∧ o.1.y.d.wf ∧ ItemsAt W (oldFr W) o.2.1 o.1.y.d.l := by
    intro i hi
    obtain ⟨ad, vs, n, y, rfl, hvl, hrow, ht⟩ := hr i hi
    obtain ⟨o, ea, ec, hc, hw, hlc, hI⟩ := openOp ht
    subst hc
    exact ⟨(o, ea, ec), ⟨ad, rfl, hrow⟩, hw, hI⟩
  obtain ⟨L, hL, hp⟩ := exists_list this
  subst hL
  refine ⟨sa, cap, L.map (·.1), by rw [List.length_map], by rw [List.length_map]; exact hlc, ⟨fun i => (L[i]?.map (·.2.1)).getD none, fun i => (L[i]?.map (·.2.2)).getD 0, fun Y w hO i hi => ?_, fun i hi => ?_⟩, fun x hx => ?_, by rw [List.length_map]; exact hx⟩
  · have hi' : i < L.length := by simpa using hi
    obtain ⟨⟨ad, h1, h2⟩, _⟩ := hp i hi'
    refine ⟨ad, h1, fun j u hj => h2.at hO j u ?_⟩
    rw [List.getElem_map] at hj
    simp only [List.getElem?_eq_getElem hi', Option.map_some, Option.getD_some] at hj
    exact hj
  · have hi' : i < L.length := by simpa using hi
    have := (hp i hi').2.2
    rw [List.getElem_map]
    simp only [List.getElem?_eq_getElem hi', Option.map_some, Option.getD_some]
    exact this
  · obtain ⟨o, ho, rfl⟩ := List.mem_map.1 hx
    obtain ⟨i, hi, rfl⟩ := List.mem_iff_getElem.1 ho
    exact (hp i hi).2.1
end
end Go.Proofs.YticclennllklpaaDoor

/- The book's Plays at a method. (printed by wip/gen/genPl.py P DoP 24 K3) -/
namespace Go.Proofs.YticclennllklpaaDoor
open Go Go.RowKit Go.Own Go.Dt

def PlaysPP (E : World) (p c : Nat) (I X : Fr) (e : Ending) (w' : World) : Prop :=
  ∃ (A' : Fr) (so : Option Addr) (co : Nat) (os : List Oe) (SO : Fr), e = .returned (.tuple #[.slice so os.length co, .bool true]) ∧ LAt E I so co os SO ∧ StP E p c (esO os) A' ∧ Own E w' (SO ++ (A' ++ X))
set_option maxRecDepth 100000 in
set_option maxHeartbeats 16000000 in
theorem playsP (E w : World) (X R A KF I : Fr) (p c : Nat) (ka : Option Addr) (kc : Nat) (hK : Sl 3 1 ka (K3).length kc ((K3).map (Value.int .i64)) KF) (sa : Option Addr) (ca : Nat) (L : List OpB) (hL0 : OpsAtB E I sa L) (hwf : ∀ o ∈ L, o.y.d.wf) (hc : c + L.length + 1 < CP) (hA : StP E p c [] A)
    (hG : MaxL E I) (hO : Own E w X) [hp : Pick X (A ++ (KF ++ I)) R] :
    Calls Tryd.prog 17 #[.iface 24 (.pointer (some ⟨p, 0, none⟩)), .slice ka (K3).length kc, .slice sa L.length ca] w (PlaysPP E p (c + L.length + 1) I (KF ++ (I ++ R))) := by
  replace hO : Own E w (A ++ (KF ++ (I ++ R))) := by have := hO.perm hp.perm; simp only [List.append_assoc] at this; exact this
  clear hp
  generalize hpost : PlaysPP E p (c + L.length + 1) I (KF ++ (I ++ R)) = POST
  have HPOST := Lib.hid hpost
  clear hpost
  have i0 := ivEntriesP (.pointer (some ⟨p, 0, none⟩))
  have i1 := ivCheckP (.pointer (some ⟨p, 0, none⟩))
  have hcb : c + L.length + 1 < 2000000000000 := by have := hc; unfold CP at this; omega
  have HC := Lib.hid (And.intro hc hcb)
  have HWF := Lib.hid hwf
  clear hc hcb hwf
  go_enter Tryd.func17, Tryd.ntmps17
  go_wp2_with fail
  have hO1 := hO
  have hA1 := hA
  clear hO hA
  go_loopw [8, 9] (fun s8 s9 wr => ∃ (j : Nat) (so : Option Addr) (co : Nat) (os : List Oe) (SL A : Fr), s8 = .slice so os.length co ∧ s9 = .int .i64 (j : Int) ∧ j ≤ L.length ∧ LAt E I so co os SL ∧ StP E p (c + j) (esO os) A ∧ Own E wr (A ++ (SL ++ (KF ++ (I ++ R))))) (fun _ s9 _ => L.length - (intOf s9).toNat)
  case atStart => exact ⟨0, none, 0, [], [], A, rfl, rfl, Nat.zero_le _, LAt.nil E I, hA1, hO1⟩
  case round =>
    clear hO1 hA1
    obtain ⟨j, so, co, os, SL, A, rfl, rfl, hj, hL, hA, hO⟩ := hrel
    obtain ⟨hc, hcb⟩ := HC.out
    by_cases hlt : j < L.length
    · have hj1 : (j : Int) < L.length := by omega
      have g2 : (0 : Int) ≤ (j : Int) := by omega
      have hw0 : IntKind.i64.wrap ((j : Int) + 1) = (j : Int) + 1 := wi_1 j (by omega)
      have hw1 : wrap64 ((j : Int) + 1) = (j : Int) + 1 := w64_1 j (by omega)
      have hcj : c + j < CP := by omega
      have hcj1 : c + j + 1 < CP := by omega
      obtain ⟨ad, a1, c1, rfl, hX1, hXI⟩ := hL0.get (hO.as (I ++ (A ++ (SL ++ (KF ++ R))))) hlt
      obtain ⟨o, ho⟩ : ∃ o, L[j]'hlt = o := ⟨_, rfl⟩
      rw [ho] at hX1 hXI
      have HOW := Lib.hid (HWF.out o (ho ▸ List.getElem_mem hlt))
      have HX1 : Hid (∀ (Y : Fr) (w : World), Own E w (I ++ Y) → ∀ i u, ([.int .i64 o.k, .int .i64 o.y.d.k, .int .i64 o.y.d.n, .string o.y.d.s, .slice a1 o.y.d.l.length c1, .int .i64 o.y.t] : List Value)[i]? = some u → w.cell? ((ad.add (j * 6)).add i) = some u) := Lib.hid hX1
      have HLT := Lib.hid hlt
      obtain ⟨r, hr⟩ : ∃ r : Nat, j % 16 = r := ⟨_, rfl⟩
      have htm : Int.tmod (j : Int) 16 = (r : Int) := by rw [Int.tmod_eq_emod_of_nonneg (by omega)]; omega
      clear ho hX1 hlt hj hc hcb
      go_wp2_with (first | (refine at_load (t := 96) ?_; go_must (refine own_loadC (ad := ad.add (j * 6)) (cs := [.int .i64 o.k, .int .i64 o.y.d.k, .int .i64 o.y.d.n, .string o.y.d.s, .slice a1 o.y.d.l.length c1, .int .i64 o.y.t]) ?_ (HX1.out _ _ (hO.as (I ++ (A ++ (SL ++ (KF ++ R)))))) ?_ ?_ ?_ ?_; (· rfl); (· ((conv => lhs; whnf); try exact rfl)); (· simp; done); (· simp; done); simp only [Act.put, List.setIfInBounds_toArray, List.set_cons_zero, List.set_cons_succ])))
      refine (doesP E _ _ R A SL KF I p (c + j) hcj ka kc hK so co os hL hA o.k o.y a1 c1 HOW.out hXI hG (hO.as (A ++ (SL ++ (KF ++ (I ++ R)))))).mono ?_
      clear hO hA hL
      rintro e w3 ⟨A', so', co', os', SL', rfl, hL, hA, hO⟩
      replace hO : Own E w3 (A' ++ (SL' ++ (KF ++ (I ++ R)))) := hO.as _
      by_cases hr0 : r = 0
      · subst hr0
        clear hr
        go_wp2_with fail
        refine (mChkP E _ _ (SL' ++ (KF ++ (I ++ R))) A' p (c + j + 1) (esO os') hcj1 hA hO).mono ?_
        clear hO hA
        rintro e w4 ⟨A2, rfl, hA, hO⟩
        go_wp2_with fail
        have hlt := HLT.out
        go_roundw
        case rel => exact ⟨j + 1, so', co', os', SL', A2, rfl, by go_num, hlt, hL, hA, hO⟩
        case measure => (clear hw0 hw1; simp [intOf]; omega)
      · have hrz : ((r : Int) == 0) = false := beq_eq_false_iff_ne.2 (by omega)
        clear hr hr0
        go_wp2_with fail
        have hlt := HLT.out
        go_roundw
        case rel => exact ⟨j + 1, so', co', os', SL', A', rfl, by go_num, hlt, hL, hA, hO⟩
        case measure => (clear hw0 hw1; simp [intOf]; omega)
    · obtain rfl : j = L.length := Nat.le_antisymm hj (Nat.le_of_not_lt hlt)
      have hjj : ¬ (L.length : Int) < L.length := by omega
      have hcj : c + L.length < CP := by omega
      have hcj1 : c + L.length + 1 < CP := by omega
      have hle := hA.le
      have hes := hA.es
      have HLE := Lib.hid (show (esO os).length ≤ 4000000000000 by omega)
      have HOK := Lib.hid (show ∀ e ∈ esO os, e.d.ok = true from fun e he => (hes.ok e he).1)
      clear hj hlt hle hes hc hcb
      go_wp2_with fail
      refine (mEntP E _ _ (SL ++ (KF ++ (I ++ R))) A p (c + L.length) (esO os) hcj hA hO).mono ?_
      clear hO hA
      rintro e w4 ⟨A2, so1, co1, os1, SO1, FO1, rfl, hes1, hL1, hA, hO⟩
      have hlen1 : os1.length = os.length := by have := congrArg List.length hes1; rwa [esO_len, esO_len] at this
      have hE1 : EntsAt E ((SO1 ++ FO1) ++ (SL ++ I)) so1 (esO os) := by rw [← hes1]; exact hL1.ents.of (.refl _)
      have hE2 : EntsAt E ((SO1 ++ FO1) ++ (SL ++ I)) so (esO os) := hL.ents.of List.perm_append_comm
      have hel : os.length = (esO os).length := (esO_len os).symm
      have HEL := Lib.hid hel
      rw [hlen1]
      clear hes1 hL1 hlen1 hel
      go_wp2_with fail
      rw [HEL.out]
      refine (refSameAll E _ _ (A2 ++ (KF ++ R)) ((SO1 ++ FO1) ++ (SL ++ I)) so1 so co1 co (esO os) (esO os) HLE.out HOK.out HOK.out hE1 hE2 (hO.as (((SO1 ++ FO1) ++ (SL ++ I)) ++ (A2 ++ (KF ++ R))))).mono ?_
      rw [← HEL.out, decide_eq_true rfl]
      clear hO hE1 hE2
      rintro e w6 ⟨rfl, hO⟩
      replace hO : Own E w6 (A2 ++ (SL ++ (KF ++ (I ++ R)))) := hO.as _
      go_wp2_with fail
      refine (mChkP E _ _ (SL ++ (KF ++ (I ++ R))) A2 p (c + L.length + 1) (esO os) hcj1 hA hO).mono ?_
      clear hO hA
      rintro e w7 ⟨A3, rfl, hA, hO⟩
      go_wp2_with fail
      rw [← HPOST.out]
      exact ⟨A3, so, co, os, SL, rfl, hL, hA, hO.as _⟩
end Go.Proofs.YticclennllklpaaDoor

/- Layer 9: two data handed in. -/
namespace Go.Proofs.YticclennllklpaaDoor
open Go Go.RowKit Go.Own Go.Dt Go.ChangeShapes Go.WideShapes Go.Deep
section
variable {H : Type} {enc : TypeId × Value → H} {W : World} {spare : Nat → Bool}
theorem okWide_arr {P : Program} {w : World} {r : Reach} {base n : Nat} {t e : TypeId} {v : Value} (ht : P.underlying t = some (.array n e)) (h : Value.okWide P w r base t v) : ∃ cs, v = .agg cs ∧ cs.size = P.cellsOf t := by
  simp only [Value.okWide, ht] at h
  obtain ⟨cs, h1, h2, _⟩ := h
  exact ⟨cs, h1, h2⟩
theorem cA8 : Tryd.prog.cellsOf 54 = 8 := by kernel_rfl
set_option maxRecDepth 100000 in
theorem openEnds {fuel : Nat} {cs : List Value} {x : DataW H × List MemPlace} (h : DataW.trod enc Tryd.prog W 0 spare true fuel 54 cs = some x) :
    ∃ (d1 d2 : Dt) (a1 a2 : Option Addr) (c1 c2 : Nat), cs = datV d1 a1 c1 ++ datV d2 a2 c2 ∧ d1.wf ∧ d2.wf ∧ ItemsAt W (oldFr W) a1 d1.l ∧ ItemsAt W (oldFr W) a2 d2.l := by
  obtain ⟨xs, m, rfl, rfl, hl, hn, hf⟩ := DataW.trod_array Tryd.underlying54 h
  rw [cA8] at hl
  match cs, hl with
  | [c0, c1, c2, c3, c4, c5, c6, c7], _ =>
    have t0 := hf 0 (by decide)
    have t1 := hf 1 (by decide)
    rw [cD4] at t0 t1
    replace t0 : DataW.trod enc Tryd.prog W 0 spare true m 30 [c0, c1, c2, c3] = xs[0]? := t0
    replace t1 : DataW.trod enc Tryd.prog W 0 spare true m 30 [c4, c5, c6, c7] = xs[1]? := t1
    have e0 : xs[0]? = some xs[0] := List.getElem?_eq_getElem (by omega)
    have e1 : xs[1]? = some xs[1] := List.getElem?_eq_getElem (by omega)
    rw [e0] at t0
    rw [e1] at t1
    obtain ⟨d1, a1, k1, h1, w1, _, i1⟩ := openDat t0
    obtain ⟨d2, a2, k2, h2, w2, _, i2⟩ := openDat t1
    refine ⟨d1, d2, a1, a2, k1, k2, ?_, w1, w2, i1, i2⟩
    rw [← h1, ← h2]
    rfl
end
end Go.Proofs.YticclennllklpaaDoor
