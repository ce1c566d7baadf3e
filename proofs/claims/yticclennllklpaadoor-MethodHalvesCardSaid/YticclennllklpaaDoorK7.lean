/- Layer 9: the reference: With, RefusedKey; the book's ints. (printed by wip/gen/genRK.py) -/
import Derived.Test.YticclennllklpaaDoorK6
set_option linter.all false
/- Layer 9: the reference: With, RefusedKey; the book's ints. (printed by wip/gen/genRK.py) -/
namespace Go.Proofs.YticclennllklpaaDoor
open Go Go.RowKit Go.Own Go.Dt

set_option maxRecDepth 100000 in
set_option maxHeartbeats 16000000 in
theorem refWith (E w : World) (X R S F : Fr) (so : Option Addr) (co : Nat) (os : List Oe) (hl : os.length ≤ 2000000000000) (hok : ∀ o ∈ os, o.e.d.ok = true) (hL : LAt E F so co os S) (hwf : ∀ o ∈ os, o.e.d.wf) (y : En) (ay : Option Addr) (cy : Nat) (hyo : y.d.ok = true) (hyw : y.d.wf) (hIy : ItemsAt E F ay y.d.l) (hO : Own E w X) [hp : Pick X (S ++ F) R] :
    Calls Tryd.prog 51 #[.slice so os.length co, .agg #[.int .i64 y.d.k, .int .i64 y.d.n, .string y.d.s, .slice ay y.d.l.length cy, .int .i64 y.t]] w (fun (e : Ending) (w' : World) => ∃ (so2 : Option Addr) (co2 : Nat) (S2 : Fr), e = .returned (.slice so2 (wiO ⟨y, ay, cy⟩ os).length co2) ∧ LAt E F so2 co2 (wiO ⟨y, ay, cy⟩ os) S2 ∧ Own E w' (S2 ++ (S ++ (F ++ R)))) := by
  replace hO : Own E w (S ++ (F ++ R)) := by have := hO.perm hp.perm; rwa [List.append_assoc] at this
  clear hp
  generalize hpost : (fun (e : Ending) (w' : World) => ∃ (so2 : Option Addr) (co2 : Nat) (S2 : Fr), e = .returned (.slice so2 (wiO ⟨y, ay, cy⟩ os).length co2) ∧ LAt E F so2 co2 (wiO ⟨y, ay, cy⟩ os) S2 ∧ Own E w' (S2 ++ (S ++ (F ++ R)))) = POST
  have HPOST := Lib.hid hpost
  clear hpost
  have HLN := Lib.hid hl
  have HOK := Lib.hid hok
  clear hok
  have HYO := Lib.hid (And.intro hyo hyw)
  have HWF := Lib.hid hwf
  clear hyo hyw hwf
  obtain ⟨Y, hY⟩ : ∃ Y : Oe, (⟨y, ay, cy⟩ : Oe) = Y := ⟨_, rfl⟩
  have HY := Lib.hid hY
  have hYv : Y.v = [.int .i64 y.d.k, .int .i64 y.d.n, .string y.d.s, .slice ay y.d.l.length cy, .int .i64 y.t] := by rw [← hY]; rfl
  have hYe : Y.e = y := by rw [← hY]
  have HYV := Lib.hid hYv
  have HYE := Lib.hid hYe
  have HIY : Hid (ItemsAt E F Y.a Y.e.d.l) := by rw [← hY]; exact hIy
  clear hY hYv hYe
  go_enter Tryd.func51, Tryd.ntmps51
  go_wp2_with (first | (refine at_box ?_; go_must (refine own_box (v := ?_) hO ?_ ?_ ?_; rotate_left; (· rfl); (· ((conv => lhs; whnf); try exact rfl)); clear hO; (try clear hF); intro ob _ hO; (try simp only [Value.cells] at hO); ((try simp only [List.nil_append, List.append_nil] at hO); have hF := Own.cells hO; simp only [cellsOf_append, cellsOf_pt] at hF); simp only [Act.put, List.setIfInBounds_toArray, List.set_cons_zero, List.set_cons_succ])))
  replace hO : Own E _ (S ++ (F ++ (pt ob (.cells #[.int .i64 y.d.k, .int .i64 y.d.n, .string y.d.s, .slice ay y.d.l.length cy, .int .i64 y.t] 32 (0, 0)) ++ R))) := hO.as _
  have hO1 := hO
  clear hO hF hl
  go_loopw [5, 6, 7] (fun o dn i wr => ∃ (j : Nat) (so2 : Option Addr) (co2 : Nat) (SO : Fr) (b : Bool) (pl : List Oe), i = .int .i64 (j : Int) ∧ dn = .bool b ∧ j ≤ os.length ∧ o = .slice so2 pl.length co2 ∧ pl.length ≤ j + 1 ∧ (b = false → pl = os.take j ∧ ∀ x ∈ os.take j, ¬ elt y x.e) ∧ (b = true → pl = wiO Y (os.take j) ∧ ∃ x ∈ os.take j, elt y x.e) ∧ Sl 32 5 so2 pl.length co2 (pl.flatMap Oe.v) SO ∧ Own E wr (SO ++ (S ++ (F ++ (pt ob (.cells #[.int .i64 y.d.k, .int .i64 y.d.n, .string y.d.s, .slice ay y.d.l.length cy, .int .i64 y.t] 32 (0, 0)) ++ R))))) (fun _ _ i _ => os.length - (intOf i).toNat)
  case atStart => exact ⟨0, none, 0, [], false, [], rfl, rfl, Nat.zero_le _, rfl, Nat.zero_le _, fun _ => ⟨rfl, fun _ h => (nomatch h)⟩, fun h => (nomatch h), Sl.nil _ _, hO1⟩
  case round =>
    clear hO1
    obtain ⟨j, so2, co2, SO, b, pl, rfl, rfl, hj, rfl, hpl, hb0, hb1, hSO, hO⟩ := hrel
    have HB0 := Lib.hid hb0
    have HB1 := Lib.hid hb1
    have HPL := Lib.hid hpl
    clear hb0 hb1
    have hF := Own.cells hO; simp only [cellsOf_append, cellsOf_pt] at hF
    have hl := HLN.out
    by_cases hlt : j < os.length
    · have hj1 : (j : Int) < os.length := by omega
      have g2 : (0 : Int) ≤ (j : Int) := by omega
      have hw0 : IntKind.i64.wrap ((j : Int) + 1) = (j : Int) + 1 := wi_1 j (by omega)
      have hw1 : wrap64 ((j : Int) + 1) = (j : Int) + 1 := w64_1 j (by omega)
      obtain ⟨sb, rfl⟩ := sl_some9 hL.row (by omega)
      obtain ⟨x, hx⟩ : ∃ x, os[j]'hlt = x := ⟨_, rfl⟩
      have hmem : x ∈ os := hx ▸ List.getElem_mem hlt
      have HSC := Lib.hid (show ∀ (Y : Fr) (w : World), Own E w (S ++ Y) → ∀ i v, ([.int .i64 x.e.d.k, .int .i64 x.e.d.n, .string x.e.d.s, .slice x.a x.e.d.l.length x.c, .int .i64 x.e.t] : List Value)[i]? = some v → w.cell? ((⟨sb, j * 5, none⟩ : Addr).add i) = some v from fun Y w h => hL.cells hlt hx h)
      have HXO := Lib.hid (HOK.out x hmem)
      have HXI := Lib.hid (hL.its x hmem)
      have HT := Lib.hid (show os.take (j + 1) = os.take j ++ [x] by rw [List.take_succ_eq_append_getElem hlt, hx])
      have HLT := Lib.hid hlt
      have HXW := Lib.hid (HWF.out x hmem)
      have hj64 : pl.length * 64 ≤ 128000000000064 := by omega
      have hj65 : (pl.length + 1) * 64 ≤ 128000000000128 := by omega
      clear hpl
      clear hx hmem hlt hj hl
      go_wp2_with fail
      cases b
      · generalize hq : decide (elt y x.e) = q
        have HQ := Lib.hid hq
        clear hq
        (try (go_wp2_with fail))
        refine region_sch (fun w' => Own E w' (S ++ pt ob (.cells #[.int .i64 y.d.k, .int .i64 y.d.n, .string y.d.s, .slice ay y.d.l.length cy, .int .i64 y.t] 32 (0, 0)))) (.look 0 (.look 1 (.look 2 (.look 3 (.look 4 (.look 5 (.look 6 (.look 7 (.act 8 (.look 9 .done)))))))))) (by kernel_rfl) (by kernel_rfl) (fun _ _ d _ _ h => by cases d <;> exact h) ?_ ?_
        · exact hO.drew.as _
        replace hO := hO.drew
        generalize World.drew _ = wdr at hO ⊢
        first | (refine sch_look (o := ?_) (v := ?_) ?_ ?_ ?_ ?_; rotate_left 2; (· ((conv => lhs; whnf); try exact rfl)); (· rfl); (· intro w' hO'; skip; go_simp; (try exact rfl)); simp only [Act.put, List.setIfInBounds_toArray, List.set_cons_zero, List.set_cons_succ]) | (refine sch_pass (o := ?_) ?_ ?_ ?_; rotate_left; (· ((conv => lhs; whnf); try exact rfl)); (· rfl); simp only [Act.put, List.setIfInBounds_toArray, List.set_cons_zero, List.set_cons_succ]) | (refine sch_look (o := ?_) (v := .agg ?_) ?_ ?_ ?_ ?_; rotate_left 2; (· ((conv => lhs; whnf); try exact rfl)); (· rfl); (· intro w' hO'; refine run_opLoadS (b := ?_) (cs := ?_) (e := ?_) (f := ?_) hO' ?_ ?_ ?_ ?_; rotate_left 4; (· exact rfl); (· exact inferInstance); (· simp; done); (· simp; done)); simp only [Act.put, List.setIfInBounds_toArray, List.set_cons_zero, List.set_cons_succ])
        first | (refine sch_look (o := ?_) (v := ?_) ?_ ?_ ?_ ?_; rotate_left 2; (· ((conv => lhs; whnf); try exact rfl)); (· rfl); (· intro w' hO'; skip; go_simp; (try exact rfl)); simp only [Act.put, List.setIfInBounds_toArray, List.set_cons_zero, List.set_cons_succ]) | (refine sch_pass (o := ?_) ?_ ?_ ?_; rotate_left; (· ((conv => lhs; whnf); try exact rfl)); (· rfl); simp only [Act.put, List.setIfInBounds_toArray, List.set_cons_zero, List.set_cons_succ]) | (refine sch_look (o := ?_) (v := .agg ?_) ?_ ?_ ?_ ?_; rotate_left 2; (· ((conv => lhs; whnf); try exact rfl)); (· rfl); (· intro w' hO'; refine run_opLoadS (b := ?_) (cs := ?_) (e := ?_) (f := ?_) hO' ?_ ?_ ?_ ?_; rotate_left 4; (· exact rfl); (· exact inferInstance); (· simp; done); (· simp; done)); simp only [Act.put, List.setIfInBounds_toArray, List.set_cons_zero, List.set_cons_succ])
        first | (refine sch_look (o := ?_) (v := ?_) ?_ ?_ ?_ ?_; rotate_left 2; (· ((conv => lhs; whnf); try exact rfl)); (· rfl); (· intro w' hO'; skip; go_simp; (try exact rfl)); simp only [Act.put, List.setIfInBounds_toArray, List.set_cons_zero, List.set_cons_succ]) | (refine sch_pass (o := ?_) ?_ ?_ ?_; rotate_left; (· ((conv => lhs; whnf); try exact rfl)); (· rfl); simp only [Act.put, List.setIfInBounds_toArray, List.set_cons_zero, List.set_cons_succ]) | (refine sch_look (o := ?_) (v := .agg ?_) ?_ ?_ ?_ ?_; rotate_left 2; (· ((conv => lhs; whnf); try exact rfl)); (· rfl); (· intro w' hO'; refine run_opLoadS (b := ?_) (cs := ?_) (e := ?_) (f := ?_) hO' ?_ ?_ ?_ ?_; rotate_left 4; (· exact rfl); (· exact inferInstance); (· simp; done); (· simp; done)); simp only [Act.put, List.setIfInBounds_toArray, List.set_cons_zero, List.set_cons_succ])
        (refine sch_look (o := ?_) (v := .agg #[.int .i64 y.d.k, .int .i64 y.d.n, .string y.d.s, .slice ay y.d.l.length cy, .int .i64 y.t]) ?_ ?_ ?_ ?_; rotate_left; (· ((conv => lhs; whnf); try exact rfl)); (· rfl); (· intro w' hO'; exact run_opLoadS (b := ob) (cs := #[.int .i64 y.d.k, .int .i64 y.d.n, .string y.d.s, .slice ay y.d.l.length cy, .int .i64 y.t]) (e := 32) (f := _) hO' rfl inferInstance (by simp) (by simp)); simp only [Act.put, List.setIfInBounds_toArray, List.set_cons_zero, List.set_cons_succ])
        first | (refine sch_look (o := ?_) (v := ?_) ?_ ?_ ?_ ?_; rotate_left 2; (· ((conv => lhs; whnf); try exact rfl)); (· rfl); (· intro w' hO'; skip; go_simp; (try exact rfl)); simp only [Act.put, List.setIfInBounds_toArray, List.set_cons_zero, List.set_cons_succ]) | (refine sch_pass (o := ?_) ?_ ?_ ?_; rotate_left; (· ((conv => lhs; whnf); try exact rfl)); (· rfl); simp only [Act.put, List.setIfInBounds_toArray, List.set_cons_zero, List.set_cons_succ]) | (refine sch_look (o := ?_) (v := .agg ?_) ?_ ?_ ?_ ?_; rotate_left 2; (· ((conv => lhs; whnf); try exact rfl)); (· rfl); (· intro w' hO'; refine run_opLoadS (b := ?_) (cs := ?_) (e := ?_) (f := ?_) hO' ?_ ?_ ?_ ?_; rotate_left 4; (· exact rfl); (· exact inferInstance); (· simp; done); (· simp; done)); simp only [Act.put, List.setIfInBounds_toArray, List.set_cons_zero, List.set_cons_succ])
        first | (refine sch_look (o := ?_) (v := ?_) ?_ ?_ ?_ ?_; rotate_left 2; (· ((conv => lhs; whnf); try exact rfl)); (· rfl); (· intro w' hO'; skip; go_simp; (try exact rfl)); simp only [Act.put, List.setIfInBounds_toArray, List.set_cons_zero, List.set_cons_succ]) | (refine sch_pass (o := ?_) ?_ ?_ ?_; rotate_left; (· ((conv => lhs; whnf); try exact rfl)); (· rfl); simp only [Act.put, List.setIfInBounds_toArray, List.set_cons_zero, List.set_cons_succ]) | (refine sch_look (o := ?_) (v := .agg ?_) ?_ ?_ ?_ ?_; rotate_left 2; (· ((conv => lhs; whnf); try exact rfl)); (· rfl); (· intro w' hO'; refine run_opLoadS (b := ?_) (cs := ?_) (e := ?_) (f := ?_) hO' ?_ ?_ ?_ ?_; rotate_left 4; (· exact rfl); (· exact inferInstance); (· simp; done); (· simp; done)); simp only [Act.put, List.setIfInBounds_toArray, List.set_cons_zero, List.set_cons_succ])
        first | (refine sch_look (o := ?_) (v := ?_) ?_ ?_ ?_ ?_; rotate_left 2; (· ((conv => lhs; whnf); try exact rfl)); (· rfl); (· intro w' hO'; skip; go_simp; (try exact rfl)); simp only [Act.put, List.setIfInBounds_toArray, List.set_cons_zero, List.set_cons_succ]) | (refine sch_pass (o := ?_) ?_ ?_ ?_; rotate_left; (· ((conv => lhs; whnf); try exact rfl)); (· rfl); simp only [Act.put, List.setIfInBounds_toArray, List.set_cons_zero, List.set_cons_succ]) | (refine sch_look (o := ?_) (v := .agg ?_) ?_ ?_ ?_ ?_; rotate_left 2; (· ((conv => lhs; whnf); try exact rfl)); (· rfl); (· intro w' hO'; refine run_opLoadS (b := ?_) (cs := ?_) (e := ?_) (f := ?_) hO' ?_ ?_ ?_ ?_; rotate_left 4; (· exact rfl); (· exact inferInstance); (· simp; done); (· simp; done)); simp only [Act.put, List.setIfInBounds_toArray, List.set_cons_zero, List.set_cons_succ])
        (refine sch_look (o := ?_) (v := .agg ([.int .i64 x.e.d.k, .int .i64 x.e.d.n, .string x.e.d.s, .slice x.a x.e.d.l.length x.c, .int .i64 x.e.t] : List Value).toArray) ?_ ?_ ?_ ?_; rotate_left; (· ((conv => lhs; whnf); try exact rfl)); (· rfl); (· intro w' hO'; exact run_opLoadC (ad := ⟨sb, j * 5, none⟩) (cs := [.int .i64 x.e.d.k, .int .i64 x.e.d.n, .string x.e.d.s, .slice x.a x.e.d.l.length x.c, .int .i64 x.e.t]) (HSC.out _ _ (hO'.as (S ++ []))) rfl (by simp) (by simp)); simp only [Act.put, List.setIfInBounds_toArray, List.set_cons_zero, List.set_cons_succ])
        (refine sch_act (o := ?_) ?_ ?_; rotate_left; (· ((conv => lhs; whnf); try exact rfl)))
        go_wp2_with fail
        refine (refAhead E _ _ (SO ++ (S ++ (pt ob (.cells #[.int .i64 y.d.k, .int .i64 y.d.n, .string y.d.s, .slice ay y.d.l.length cy, .int .i64 y.t] 32 (0, 0)) ++ R))) F y x.e ay x.a cy x.c HYO.out.1 HXO.out HYO.out.2 HXW.out hIy HXI.out (hO.as (F ++ (SO ++ (S ++ (pt ob (.cells #[.int .i64 y.d.k, .int .i64 y.d.n, .string y.d.s, .slice ay y.d.l.length cy, .int .i64 y.t] 32 (0, 0)) ++ R)))))).mono ?_
        clear hO hF
        rw [HQ.out]
        rintro e w3 ⟨rfl, hO⟩
        replace hO : Own E w3 (SO ++ (S ++ (F ++ (pt ob (.cells #[.int .i64 y.d.k, .int .i64 y.d.n, .string y.d.s, .slice ay y.d.l.length cy, .int .i64 y.t] 32 (0, 0)) ++ R)))) := hO.as _
        have hF := Own.cells hO; simp only [cellsOf_append, cellsOf_pt] at hF
        go_wp2_with fail
        refine ⟨hO.as _, ?_⟩
        first | (refine sch_look (o := ?_) (v := ?_) ?_ ?_ ?_ ?_; rotate_left 2; (· ((conv => lhs; whnf); try exact rfl)); (· rfl); (· intro w' hO'; skip; go_simp; (try exact rfl)); simp only [Act.put, List.setIfInBounds_toArray, List.set_cons_zero, List.set_cons_succ]) | (refine sch_pass (o := ?_) ?_ ?_ ?_; rotate_left; (· ((conv => lhs; whnf); try exact rfl)); (· rfl); simp only [Act.put, List.setIfInBounds_toArray, List.set_cons_zero, List.set_cons_succ]) | (refine sch_look (o := ?_) (v := .agg ?_) ?_ ?_ ?_ ?_; rotate_left 2; (· ((conv => lhs; whnf); try exact rfl)); (· rfl); (· intro w' hO'; refine run_opLoadS (b := ?_) (cs := ?_) (e := ?_) (f := ?_) hO' ?_ ?_ ?_ ?_; rotate_left 4; (· exact rfl); (· exact inferInstance); (· simp; done); (· simp; done)); simp only [Act.put, List.setIfInBounds_toArray, List.set_cons_zero, List.set_cons_succ])
        refine sch_done ?_
        replace hO : Own E _ (SO ++ (S ++ (F ++ (pt ob (.cells #[.int .i64 y.d.k, .int .i64 y.d.n, .string y.d.s, .slice ay y.d.l.length cy, .int .i64 y.t] 32 (0, 0)) ++ R)))) := hO.as _
        have hF := Own.cells hO; simp only [cellsOf_append, cellsOf_pt] at hF
        cases q
        · go_wp2_with (first | (refine at_load (t := 32) ?_; go_must (refine own_loadC (ad := ⟨sb, j * 5, none⟩) (cs := [.int .i64 x.e.d.k, .int .i64 x.e.d.n, .string x.e.d.s, .slice x.a x.e.d.l.length x.c, .int .i64 x.e.t]) ?_ (HSC.out _ _ (hO.as (S ++ [])) ) ?_ ?_ ?_ ?_; (· rfl); (· ((conv => lhs; whnf); try exact rfl)); (· simp; done); (· simp; done); simp only [Act.put, List.setIfInBounds_toArray, List.set_cons_zero, List.set_cons_succ])) | (refine at_bs ?_; go_must (refine own_build1 (v := ?_) sltE hO ?_ ?_ ?_ ?_ ?_ ?_; rotate_left; (· rfl); (· ((conv => lhs; whnf); try exact rfl)); (· rfl); (· decide); (· decide); clear hO; (try clear hF); intro bs _ hO; (try simp only [Value.cells] at hO); ((try simp only [List.nil_append, List.append_nil] at hO); have hF := Own.cells hO; simp only [cellsOf_append, cellsOf_pt] at hF); simp only [Act.put, List.setIfInBounds_toArray, List.set_cons_zero, List.set_cons_succ])) | (refine at_append ?_; go_must (refine own_append_elem (b1 := ?_) (cs := ?_) (e1 := ?_) (f1 := ?_) sltE hO ?_ ?_ ?_ hSO ?_ ?_ ?_ ?_ ?_ ?_ ?_; rotate_left 4; (· rfl); (· rfl); (· rfl); (· exact inferInstance); (· rfl); (· intro u hu; simp at hu; rcases hu with rfl | rfl | rfl | rfl | rfl <;> rfl); (· first | omega | (simp only [maxLen]; omega)); (· decide); (· first | omega | (simp only [maxLen]; omega)); clear hO; (try clear hF); intro so3 co3 SO3 w4 hSO3 hO; ((try simp only [List.nil_append, List.append_nil] at hO); have hF := Own.cells hO; simp only [cellsOf_append, cellsOf_pt] at hF); simp only [Act.put, List.setIfInBounds_toArray, List.set_cons_zero, List.set_cons_succ])))
          have hlt := HLT.out
          have hn : ¬ elt y x.e := of_decide_eq_false HQ.out
          obtain ⟨h1, h2⟩ := HB0.out (by first | rfl | trivial)
          go_roundw
          case rel =>
            refine ⟨j + 1, so3, co3, SO3, false, pl ++ [x], by go_num, by first | rfl | trivial, hlt, ?p1, ?p4, ?p5, ?p6, ?p2, ?p3⟩
            case p2 => rw [List.flatMap_append, List.length_append]; exact hSO3
            case p1 => rw [List.length_append]; rfl
            case p4 => rw [List.length_append]; have := HPL.out; simp only [List.length_cons, List.length_nil]; omega
            case p3 => exact hO.as _
            case p5 => exact fun _ => ⟨by rw [HT.out, h1], fun z hz => by rw [HT.out] at hz; rcases List.mem_append.1 hz with hz | hz; exact h2 z hz; rw [List.mem_singleton] at hz; subst hz; exact hn⟩
            case p6 => exact fun h => (nomatch h)
          case measure => (clear hw0 hw1; simp [intOf]; omega)
        · go_wp2_with (first | ((have hzz : so3 = so3 := rfl); clear hzz; first | (refine at_load (t := 32) ?_; go_must (refine own_loadC (ad := ⟨sb, j * 5, none⟩) (cs := [.int .i64 x.e.d.k, .int .i64 x.e.d.n, .string x.e.d.s, .slice x.a x.e.d.l.length x.c, .int .i64 x.e.t]) ?_ (HSC.out _ _ (hO.as (S ++ [])) ) ?_ ?_ ?_ ?_; (· rfl); (· ((conv => lhs; whnf); try exact rfl)); (· simp; done); (· simp; done); simp only [Act.put, List.setIfInBounds_toArray, List.set_cons_zero, List.set_cons_succ])) | (refine at_bs ?_; go_must (refine own_build1 (v := ?_) sltE hO ?_ ?_ ?_ ?_ ?_ ?_; rotate_left; (· rfl); (· ((conv => lhs; whnf); try exact rfl)); (· rfl); (· decide); (· decide); clear hO; (try clear hF); intro bs2 _ hO; (try simp only [Value.cells] at hO); ((try simp only [List.nil_append, List.append_nil] at hO); have hF := Own.cells hO; simp only [cellsOf_append, cellsOf_pt] at hF); simp only [Act.put, List.setIfInBounds_toArray, List.set_cons_zero, List.set_cons_succ])) | (refine at_append ?_; go_must (refine own_append_elem (b1 := ?_) (cs := ?_) (e1 := ?_) (f1 := ?_) sltE hO ?_ ?_ ?_ hSO3 ?_ ?_ ?_ ?_ ?_ ?_ ?_; rotate_left 4; (· rfl); (· rfl); (· rfl); (· exact inferInstance); (· rfl); (· intro u hu; simp at hu; rcases hu with rfl | rfl | rfl | rfl | rfl <;> rfl); (· first | omega | (simp only [maxLen]; omega)); (· decide); (· first | omega | (simp only [maxLen]; omega)); clear hO; (try clear hF); intro so4 co4 SO4 w5 hSO4 hO; ((try simp only [List.nil_append, List.append_nil] at hO); have hF := Own.cells hO; simp only [cellsOf_append, cellsOf_pt] at hF); simp only [Act.put, List.setIfInBounds_toArray, List.set_cons_zero, List.set_cons_succ]))) | (refine at_load ?_; refine own_loadS (b := ?_) (cs := ?_) (e := ?_) (f := ?_) hO ?_ ?_ ?_ ?_ ?_ ?_; rotate_left 4; (· rfl); (· rfl); (· exact inferInstance); (· simp; done); (· simp [Value.cells]; done); simp only [Act.put, List.setIfInBounds_toArray, List.set_cons_zero, List.set_cons_succ]) | (refine at_bs ?_; go_must (refine own_build1 (v := ?_) sltE hO ?_ ?_ ?_ ?_ ?_ ?_; rotate_left; (· rfl); (· ((conv => lhs; whnf); try exact rfl)); (· rfl); (· decide); (· decide); clear hO; (try clear hF); intro bs _ hO; (try simp only [Value.cells] at hO); ((try simp only [List.nil_append, List.append_nil] at hO); have hF := Own.cells hO; simp only [cellsOf_append, cellsOf_pt] at hF); simp only [Act.put, List.setIfInBounds_toArray, List.set_cons_zero, List.set_cons_succ])) | (refine at_append ?_; go_must (refine own_append_elem (b1 := ?_) (cs := ?_) (e1 := ?_) (f1 := ?_) sltE hO ?_ ?_ ?_ hSO ?_ ?_ ?_ ?_ ?_ ?_ ?_; rotate_left 4; (· rfl); (· rfl); (· rfl); (· exact inferInstance); (· rfl); (· intro u hu; simp at hu; rcases hu with rfl | rfl | rfl | rfl | rfl <;> rfl); (· first | omega | (simp only [maxLen]; omega)); (· decide); (· first | omega | (simp only [maxLen]; omega)); clear hO; (try clear hF); intro so3 co3 SO3 w4 hSO3 hO; ((try simp only [List.nil_append, List.append_nil] at hO); have hF := Own.cells hO; simp only [cellsOf_append, cellsOf_pt] at hF); simp only [Act.put, List.setIfInBounds_toArray, List.set_cons_zero, List.set_cons_succ])))
          have hlt := HLT.out
          have hn : elt y x.e := of_decide_eq_true HQ.out
          obtain ⟨h1, h2⟩ := HB0.out (by first | rfl | trivial)
          go_roundw
          case rel =>
            refine ⟨j + 1, so4, co4, SO4, true, pl ++ [Y, x], by go_num, by first | rfl | trivial, hlt, ?p1, ?p4, ?p5, ?p6, ?p2, ?p3⟩
            case p2 => rw [List.flatMap_append, List.length_append]; (have e : ([Y, x] : List Oe).flatMap Oe.v = Y.v ++ x.v := (by simp)); rw [e, HYV.out, ← List.append_assoc]; exact hSO4
            case p1 => rw [List.length_append]; rfl
            case p4 => rw [List.length_append]; have := HPL.out; have e := congrArg List.length h1; rw [List.length_take] at e; simp only [List.length_cons, List.length_nil]; omega
            case p3 => exact hO.as _
            case p5 => exact fun h => (nomatch h)
            case p6 => exact fun _ => ⟨by rw [HT.out, h1, wiO_here Y x (by rw [HYE.out]; exact hn) _ (by rw [HYE.out]; exact h2)], x, by rw [HT.out]; simp, hn⟩
          case measure => (clear hw0 hw1; simp [intOf]; omega)
      · skip
        (try (go_wp2_with fail))
        refine region_sch (fun w' => Own E w' (S ++ pt ob (.cells #[.int .i64 y.d.k, .int .i64 y.d.n, .string y.d.s, .slice ay y.d.l.length cy, .int .i64 y.t] 32 (0, 0)))) (.look 0 (.look 1 (.look 2 (.look 3 (.look 4 (.look 5 (.look 6 (.look 7 (.look 8 (.look 9 .done)))))))))) (by kernel_rfl) (by kernel_rfl) (fun _ _ d _ _ h => by cases d <;> exact h) ?_ ?_
        · exact hO.drew.as _
        replace hO := hO.drew
        generalize World.drew _ = wdr at hO ⊢
        first | (refine sch_look (o := ?_) (v := ?_) ?_ ?_ ?_ ?_; rotate_left 2; (· ((conv => lhs; whnf); try exact rfl)); (· rfl); (· intro w' hO'; skip; go_simp; (try exact rfl)); simp only [Act.put, List.setIfInBounds_toArray, List.set_cons_zero, List.set_cons_succ]) | (refine sch_pass (o := ?_) ?_ ?_ ?_; rotate_left; (· ((conv => lhs; whnf); try exact rfl)); (· rfl); simp only [Act.put, List.setIfInBounds_toArray, List.set_cons_zero, List.set_cons_succ]) | (refine sch_look (o := ?_) (v := .agg ?_) ?_ ?_ ?_ ?_; rotate_left 2; (· ((conv => lhs; whnf); try exact rfl)); (· rfl); (· intro w' hO'; refine run_opLoadS (b := ?_) (cs := ?_) (e := ?_) (f := ?_) hO' ?_ ?_ ?_ ?_; rotate_left 4; (· exact rfl); (· exact inferInstance); (· simp; done); (· simp; done)); simp only [Act.put, List.setIfInBounds_toArray, List.set_cons_zero, List.set_cons_succ])
        first | (refine sch_look (o := ?_) (v := ?_) ?_ ?_ ?_ ?_; rotate_left 2; (· ((conv => lhs; whnf); try exact rfl)); (· rfl); (· intro w' hO'; skip; go_simp; (try exact rfl)); simp only [Act.put, List.setIfInBounds_toArray, List.set_cons_zero, List.set_cons_succ]) | (refine sch_pass (o := ?_) ?_ ?_ ?_; rotate_left; (· ((conv => lhs; whnf); try exact rfl)); (· rfl); simp only [Act.put, List.setIfInBounds_toArray, List.set_cons_zero, List.set_cons_succ]) | (refine sch_look (o := ?_) (v := .agg ?_) ?_ ?_ ?_ ?_; rotate_left 2; (· ((conv => lhs; whnf); try exact rfl)); (· rfl); (· intro w' hO'; refine run_opLoadS (b := ?_) (cs := ?_) (e := ?_) (f := ?_) hO' ?_ ?_ ?_ ?_; rotate_left 4; (· exact rfl); (· exact inferInstance); (· simp; done); (· simp; done)); simp only [Act.put, List.setIfInBounds_toArray, List.set_cons_zero, List.set_cons_succ])
        first | (refine sch_look (o := ?_) (v := ?_) ?_ ?_ ?_ ?_; rotate_left 2; (· ((conv => lhs; whnf); try exact rfl)); (· rfl); (· intro w' hO'; skip; go_simp; (try exact rfl)); simp only [Act.put, List.setIfInBounds_toArray, List.set_cons_zero, List.set_cons_succ]) | (refine sch_pass (o := ?_) ?_ ?_ ?_; rotate_left; (· ((conv => lhs; whnf); try exact rfl)); (· rfl); simp only [Act.put, List.setIfInBounds_toArray, List.set_cons_zero, List.set_cons_succ]) | (refine sch_look (o := ?_) (v := .agg ?_) ?_ ?_ ?_ ?_; rotate_left 2; (· ((conv => lhs; whnf); try exact rfl)); (· rfl); (· intro w' hO'; refine run_opLoadS (b := ?_) (cs := ?_) (e := ?_) (f := ?_) hO' ?_ ?_ ?_ ?_; rotate_left 4; (· exact rfl); (· exact inferInstance); (· simp; done); (· simp; done)); simp only [Act.put, List.setIfInBounds_toArray, List.set_cons_zero, List.set_cons_succ])
        first | (refine sch_look (o := ?_) (v := ?_) ?_ ?_ ?_ ?_; rotate_left 2; (· ((conv => lhs; whnf); try exact rfl)); (· rfl); (· intro w' hO'; skip; go_simp; (try exact rfl)); simp only [Act.put, List.setIfInBounds_toArray, List.set_cons_zero, List.set_cons_succ]) | (refine sch_pass (o := ?_) ?_ ?_ ?_; rotate_left; (· ((conv => lhs; whnf); try exact rfl)); (· rfl); simp only [Act.put, List.setIfInBounds_toArray, List.set_cons_zero, List.set_cons_succ]) | (refine sch_look (o := ?_) (v := .agg ?_) ?_ ?_ ?_ ?_; rotate_left 2; (· ((conv => lhs; whnf); try exact rfl)); (· rfl); (· intro w' hO'; refine run_opLoadS (b := ?_) (cs := ?_) (e := ?_) (f := ?_) hO' ?_ ?_ ?_ ?_; rotate_left 4; (· exact rfl); (· exact inferInstance); (· simp; done); (· simp; done)); simp only [Act.put, List.setIfInBounds_toArray, List.set_cons_zero, List.set_cons_succ])
        first | (refine sch_look (o := ?_) (v := ?_) ?_ ?_ ?_ ?_; rotate_left 2; (· ((conv => lhs; whnf); try exact rfl)); (· rfl); (· intro w' hO'; skip; go_simp; (try exact rfl)); simp only [Act.put, List.setIfInBounds_toArray, List.set_cons_zero, List.set_cons_succ]) | (refine sch_pass (o := ?_) ?_ ?_ ?_; rotate_left; (· ((conv => lhs; whnf); try exact rfl)); (· rfl); simp only [Act.put, List.setIfInBounds_toArray, List.set_cons_zero, List.set_cons_succ]) | (refine sch_look (o := ?_) (v := .agg ?_) ?_ ?_ ?_ ?_; rotate_left 2; (· ((conv => lhs; whnf); try exact rfl)); (· rfl); (· intro w' hO'; refine run_opLoadS (b := ?_) (cs := ?_) (e := ?_) (f := ?_) hO' ?_ ?_ ?_ ?_; rotate_left 4; (· exact rfl); (· exact inferInstance); (· simp; done); (· simp; done)); simp only [Act.put, List.setIfInBounds_toArray, List.set_cons_zero, List.set_cons_succ])
        first | (refine sch_look (o := ?_) (v := ?_) ?_ ?_ ?_ ?_; rotate_left 2; (· ((conv => lhs; whnf); try exact rfl)); (· rfl); (· intro w' hO'; skip; go_simp; (try exact rfl)); simp only [Act.put, List.setIfInBounds_toArray, List.set_cons_zero, List.set_cons_succ]) | (refine sch_pass (o := ?_) ?_ ?_ ?_; rotate_left; (· ((conv => lhs; whnf); try exact rfl)); (· rfl); simp only [Act.put, List.setIfInBounds_toArray, List.set_cons_zero, List.set_cons_succ]) | (refine sch_look (o := ?_) (v := .agg ?_) ?_ ?_ ?_ ?_; rotate_left 2; (· ((conv => lhs; whnf); try exact rfl)); (· rfl); (· intro w' hO'; refine run_opLoadS (b := ?_) (cs := ?_) (e := ?_) (f := ?_) hO' ?_ ?_ ?_ ?_; rotate_left 4; (· exact rfl); (· exact inferInstance); (· simp; done); (· simp; done)); simp only [Act.put, List.setIfInBounds_toArray, List.set_cons_zero, List.set_cons_succ])
        first | (refine sch_look (o := ?_) (v := ?_) ?_ ?_ ?_ ?_; rotate_left 2; (· ((conv => lhs; whnf); try exact rfl)); (· rfl); (· intro w' hO'; skip; go_simp; (try exact rfl)); simp only [Act.put, List.setIfInBounds_toArray, List.set_cons_zero, List.set_cons_succ]) | (refine sch_pass (o := ?_) ?_ ?_ ?_; rotate_left; (· ((conv => lhs; whnf); try exact rfl)); (· rfl); simp only [Act.put, List.setIfInBounds_toArray, List.set_cons_zero, List.set_cons_succ]) | (refine sch_look (o := ?_) (v := .agg ?_) ?_ ?_ ?_ ?_; rotate_left 2; (· ((conv => lhs; whnf); try exact rfl)); (· rfl); (· intro w' hO'; refine run_opLoadS (b := ?_) (cs := ?_) (e := ?_) (f := ?_) hO' ?_ ?_ ?_ ?_; rotate_left 4; (· exact rfl); (· exact inferInstance); (· simp; done); (· simp; done)); simp only [Act.put, List.setIfInBounds_toArray, List.set_cons_zero, List.set_cons_succ])
        first | (refine sch_look (o := ?_) (v := ?_) ?_ ?_ ?_ ?_; rotate_left 2; (· ((conv => lhs; whnf); try exact rfl)); (· rfl); (· intro w' hO'; skip; go_simp; (try exact rfl)); simp only [Act.put, List.setIfInBounds_toArray, List.set_cons_zero, List.set_cons_succ]) | (refine sch_pass (o := ?_) ?_ ?_ ?_; rotate_left; (· ((conv => lhs; whnf); try exact rfl)); (· rfl); simp only [Act.put, List.setIfInBounds_toArray, List.set_cons_zero, List.set_cons_succ]) | (refine sch_look (o := ?_) (v := .agg ?_) ?_ ?_ ?_ ?_; rotate_left 2; (· ((conv => lhs; whnf); try exact rfl)); (· rfl); (· intro w' hO'; refine run_opLoadS (b := ?_) (cs := ?_) (e := ?_) (f := ?_) hO' ?_ ?_ ?_ ?_; rotate_left 4; (· exact rfl); (· exact inferInstance); (· simp; done); (· simp; done)); simp only [Act.put, List.setIfInBounds_toArray, List.set_cons_zero, List.set_cons_succ])
        (refine sch_pass (o := ?_) ?_ ?_ ?_; rotate_left; (· ((conv => lhs; whnf); try exact rfl)); (· rfl); simp only [Act.put, List.setIfInBounds_toArray, List.set_cons_zero, List.set_cons_succ])
        first | (refine sch_look (o := ?_) (v := ?_) ?_ ?_ ?_ ?_; rotate_left 2; (· ((conv => lhs; whnf); try exact rfl)); (· rfl); (· intro w' hO'; skip; go_simp; (try exact rfl)); simp only [Act.put, List.setIfInBounds_toArray, List.set_cons_zero, List.set_cons_succ]) | (refine sch_pass (o := ?_) ?_ ?_ ?_; rotate_left; (· ((conv => lhs; whnf); try exact rfl)); (· rfl); simp only [Act.put, List.setIfInBounds_toArray, List.set_cons_zero, List.set_cons_succ]) | (refine sch_look (o := ?_) (v := .agg ?_) ?_ ?_ ?_ ?_; rotate_left 2; (· ((conv => lhs; whnf); try exact rfl)); (· rfl); (· intro w' hO'; refine run_opLoadS (b := ?_) (cs := ?_) (e := ?_) (f := ?_) hO' ?_ ?_ ?_ ?_; rotate_left 4; (· exact rfl); (· exact inferInstance); (· simp; done); (· simp; done)); simp only [Act.put, List.setIfInBounds_toArray, List.set_cons_zero, List.set_cons_succ])
        refine sch_done ?_
        replace hO : Own E _ (SO ++ (S ++ (F ++ (pt ob (.cells #[.int .i64 y.d.k, .int .i64 y.d.n, .string y.d.s, .slice ay y.d.l.length cy, .int .i64 y.t] 32 (0, 0)) ++ R)))) := hO.as _
        have hF := Own.cells hO; simp only [cellsOf_append, cellsOf_pt] at hF
        go_wp2_with (first | (refine at_load (t := 32) ?_; go_must (refine own_loadC (ad := ⟨sb, j * 5, none⟩) (cs := [.int .i64 x.e.d.k, .int .i64 x.e.d.n, .string x.e.d.s, .slice x.a x.e.d.l.length x.c, .int .i64 x.e.t]) ?_ (HSC.out _ _ (hO.as (S ++ [])) ) ?_ ?_ ?_ ?_; (· rfl); (· ((conv => lhs; whnf); try exact rfl)); (· simp; done); (· simp; done); simp only [Act.put, List.setIfInBounds_toArray, List.set_cons_zero, List.set_cons_succ])) | (refine at_bs ?_; go_must (refine own_build1 (v := ?_) sltE hO ?_ ?_ ?_ ?_ ?_ ?_; rotate_left; (· rfl); (· ((conv => lhs; whnf); try exact rfl)); (· rfl); (· decide); (· decide); clear hO; (try clear hF); intro bs _ hO; (try simp only [Value.cells] at hO); ((try simp only [List.nil_append, List.append_nil] at hO); have hF := Own.cells hO; simp only [cellsOf_append, cellsOf_pt] at hF); simp only [Act.put, List.setIfInBounds_toArray, List.set_cons_zero, List.set_cons_succ])) | (refine at_append ?_; go_must (refine own_append_elem (b1 := ?_) (cs := ?_) (e1 := ?_) (f1 := ?_) sltE hO ?_ ?_ ?_ hSO ?_ ?_ ?_ ?_ ?_ ?_ ?_; rotate_left 4; (· rfl); (· rfl); (· rfl); (· exact inferInstance); (· rfl); (· intro u hu; simp at hu; rcases hu with rfl | rfl | rfl | rfl | rfl <;> rfl); (· first | omega | (simp only [maxLen]; omega)); (· decide); (· first | omega | (simp only [maxLen]; omega)); clear hO; (try clear hF); intro so3 co3 SO3 w4 hSO3 hO; ((try simp only [List.nil_append, List.append_nil] at hO); have hF := Own.cells hO; simp only [cellsOf_append, cellsOf_pt] at hF); simp only [Act.put, List.setIfInBounds_toArray, List.set_cons_zero, List.set_cons_succ])))
        have hlt := HLT.out
        obtain ⟨h1, h2⟩ := HB1.out (by first | rfl | trivial)
        go_roundw
        case rel =>
          refine ⟨j + 1, so3, co3, SO3, true, pl ++ [x], by go_num, by first | rfl | trivial, hlt, ?p1, ?p4, ?p5, ?p6, ?p2, ?p3⟩
          case p2 => rw [List.flatMap_append, List.length_append]; exact hSO3
          case p1 => rw [List.length_append]; rfl
          case p4 => rw [List.length_append]; have := HPL.out; simp only [List.length_cons, List.length_nil]; omega
          case p3 => exact hO.as _
          case p5 => exact fun h => (nomatch h)
          case p6 => exact fun _ => ⟨by rw [HT.out, h1, wiO_past Y x _ (by rw [HYE.out]; exact h2)], by obtain ⟨z, hz, hz2⟩ := h2; exact ⟨z, by rw [HT.out]; exact List.mem_append_left _ hz, hz2⟩⟩
        case measure => (clear hw0 hw1; simp [intOf]; omega)
    · obtain rfl : j = os.length := Nat.le_antisymm hj (Nat.le_of_not_lt hlt)
      have hjj : ¬ (os.length : Int) < os.length := by omega
      have HLL := Lib.hid hl
      have hj64 : pl.length * 64 ≤ 128000000000064 := by omega
      clear hj hlt hl hpl
      cases b
      · obtain ⟨h1, h2⟩ := HB0.out (by first | rfl | trivial)
        rw [List.take_length] at h1 h2
        have H1 := Lib.hid h1
        have H2 := Lib.hid h2
        clear h1 h2
        go_wp2_with (first | (refine at_load ?_; refine own_loadS (b := ?_) (cs := ?_) (e := ?_) (f := ?_) hO ?_ ?_ ?_ ?_ ?_ ?_; rotate_left 4; (· rfl); (· rfl); (· exact inferInstance); (· simp; done); (· simp [Value.cells]; done); simp only [Act.put, List.setIfInBounds_toArray, List.set_cons_zero, List.set_cons_succ]) | (refine at_bs ?_; go_must (refine own_build1 (v := ?_) sltE hO ?_ ?_ ?_ ?_ ?_ ?_; rotate_left; (· rfl); (· ((conv => lhs; whnf); try exact rfl)); (· rfl); (· decide); (· decide); clear hO; (try clear hF); intro bs _ hO; (try simp only [Value.cells] at hO); ((try simp only [List.nil_append, List.append_nil] at hO); have hF := Own.cells hO; simp only [cellsOf_append, cellsOf_pt] at hF); simp only [Act.put, List.setIfInBounds_toArray, List.set_cons_zero, List.set_cons_succ])) | (refine at_append ?_; go_must (refine own_append_elem (b1 := ?_) (cs := ?_) (e1 := ?_) (f1 := ?_) sltE hO ?_ ?_ ?_ hSO ?_ ?_ ?_ ?_ ?_ ?_ ?_; rotate_left 4; (· rfl); (· rfl); (· rfl); (· exact inferInstance); (· rfl); (· intro u hu; simp at hu; rcases hu with rfl | rfl | rfl | rfl | rfl <;> rfl); (· first | omega | (simp only [maxLen]; omega)); (· decide); (· first | omega | (simp only [maxLen]; omega)); clear hO; (try clear hF); intro so3 co3 SO3 w4 hSO3 hO; ((try simp only [List.nil_append, List.append_nil] at hO); have hF := Own.cells hO; simp only [cellsOf_append, cellsOf_pt] at hF); simp only [Act.put, List.setIfInBounds_toArray, List.set_cons_zero, List.set_cons_succ])))
        rw [← HPOST.out]
        have e : wiO ⟨y, ay, cy⟩ os = pl ++ [Y] := by rw [HY.out, wiO_new Y os (by rw [HYE.out]; exact H2.out), H1.out]
        rw [e, List.length_append]
        refine ⟨so3, co3, SO3, rfl, ⟨?_, ?_⟩, hO.as _⟩
        · have e2 : ([Y] : List Oe).flatMap Oe.v = Y.v := by simp
          rw [List.length_append, List.flatMap_append, e2, HYV.out]
          exact hSO3
        · intro o ho
          rcases List.mem_append.1 ho with ho | ho
          · rw [H1.out] at ho
            exact hL.its o ho
          · rw [List.mem_singleton] at ho
            subst ho
            exact HIY.out
      · obtain ⟨h1, h2⟩ := HB1.out (by first | rfl | trivial)
        rw [List.take_length] at h1
        have H1 := Lib.hid h1
        clear h1 h2
        go_wp2_with fail
        rw [← HPOST.out]
        have e : wiO ⟨y, ay, cy⟩ os = pl := by rw [HY.out, H1.out]
        rw [e]
        refine ⟨so2, co2, SO, rfl, ⟨hSO, ?_⟩, hO.as _⟩
        intro o ho
        rw [H1.out] at ho
        rcases wiO_mem ho with h | ho
        · subst h
          exact HIY.out
        · exact hL.its o ho
set_option maxRecDepth 100000 in
set_option maxHeartbeats 16000000 in
theorem refRefKey (E w : World) (X R I S : Fr) (ka : Option Addr) (kc : Nat) (ks : List Int) (hS : Sl 3 1 ka ks.length kc (ks.map (Value.int .i64)) S) (d : Dt) (sa : Option Addr) (cap : Nat) (hI : ItemsAt E I sa d.l) (hO : Own E w X) [hp : Pick X (S ++ I) R] :
    Calls Tryd.prog 53 #[.slice ka ks.length kc, .agg #[.int .i64 d.k, .int .i64 d.n, .string d.s, .slice sa d.l.length cap]] w fun e w' => e = .returned (.int .i64 (refused ks ⟨d, 0⟩)) ∧ Own E w' (S ++ (I ++ R)) := by
  replace hO : Own E w (S ++ (I ++ R)) := by have := hO.perm hp.perm; rwa [List.append_assoc] at this
  clear hp
  obtain ⟨z, hz⟩ : ∃ z, refused ks ⟨d, 0⟩ = z := ⟨_, rfl⟩
  rw [hz]
  have HZ := Lib.hid hz
  clear hz
  go_enter Tryd.func53, Tryd.ntmps53
  go_wp2_with (first | (refine at_box ?_; go_must (refine own_box (v := ?_) hO ?_ ?_ ?_; rotate_left; (· rfl); (· ((conv => lhs; whnf); try exact rfl)); clear hO; (try clear hF); intro ob _ hO; (try simp only [Value.cells] at hO); ((try simp only [List.nil_append, List.append_nil] at hO); have hF := Own.cells hO; simp only [cellsOf_append, cellsOf_pt] at hF); simp only [Act.put, List.setIfInBounds_toArray, List.set_cons_zero, List.set_cons_succ])) | (refine at_load ?_; refine own_loadS (b := ?_) (cs := ?_) (e := ?_) (f := ?_) hO ?_ ?_ ?_ ?_ ?_ ?_; rotate_left 4; (· rfl); (· rfl); (· exact inferInstance); (· simp; done); (· simp [Value.cells]; done); simp only [Act.put, List.setIfInBounds_toArray, List.set_cons_zero, List.set_cons_succ]))
  refine (refRefused E _ _ _ I S ka kc ks hS ⟨d, 0⟩ sa cap hI (hO.as ((S ++ I) ++ (pt ob (.cells #[.int .i64 d.k, .int .i64 d.n, .string d.s, .slice sa d.l.length cap] 30 (0, 0)) ++ R)))).mono ?_
  rw [HZ.out]
  clear hO hF
  rintro e w2 ⟨rfl, hO⟩
  go_wp2_with fail
  go_ret
  exact ⟨rfl, hO.as _⟩
set_option maxRecDepth 100000 in
set_option maxHeartbeats 16000000 in
theorem bInts (E w : World) (X R A B : Fr) (sa sb : Option Addr) (ca cb : Nat) (la lb : List Int) (hll : la.length ≤ 4000000000000) (hA : Sl 3 1 sa la.length ca (la.map (Value.int .i64)) A) (hB : Sl 3 1 sb lb.length cb (lb.map (Value.int .i64)) B) (hO : Own E w X) [hp : Pick X (A ++ B) R] :
    Calls Tryd.prog 54 #[.slice sa la.length ca, .slice sb lb.length cb] w fun e w' => e = .returned (.bool (decide (la = lb))) ∧ Own E w' (A ++ (B ++ R)) := by
  replace hO : Own E w (A ++ (B ++ R)) := by have := hO.perm hp.perm; rwa [List.append_assoc] at this
  clear hp
  generalize hz : decide (la = lb) = z
  have HZ := Lib.hid hz
  clear hz
  by_cases hl : la.length = lb.length
  rotate_left
  · obtain rfl : false = z := by rw [← HZ.out, decide_eq_false]; intro e; exact hl (by rw [e])
    have hl2 : ¬ (la.length : Int) = lb.length := by omega
    clear HZ hll
    go_enter Tryd.func54, Tryd.ntmps54
    go_wp2_with fail
    go_ret
    exact ⟨rfl, hO⟩
  rw [← hl]
  have HLEN := Lib.hid hl
  have HLL := Lib.hid hll
  clear hl hll
  go_enter Tryd.func54, Tryd.ntmps54
  go_wp2_with fail
  have hO1 := hO
  clear hO
  go_loopw [5] (fun i wr => ∃ (j : Nat), i = .int .i64 (j : Int) ∧ j ≤ la.length ∧ (∀ i (h1 : i < la.length) (h2 : i < lb.length), i < j → la[i]'h1 = lb[i]'h2) ∧ Own E wr (A ++ (B ++ R))) (fun i _ => la.length - (intOf i).toNat)
  case atStart => exact ⟨0, rfl, Nat.zero_le _, fun _ _ _ h => absurd h (Nat.not_lt_zero _), hO1⟩
  case round =>
    clear hO1
    obtain ⟨j, rfl, hj, hbef, hO⟩ := hrel
    have HB := Lib.hid hbef
    clear hbef
    by_cases hlt : j < la.length
    · have hj1 : (j : Int) < la.length := by omega
      have hltb : j < lb.length := by rw [← HLEN.out]; exact hlt
      have hjb : (j : Int) < lb.length := by omega
      have g2 : (0 : Int) ≤ (j : Int) := by omega
      have hll := HLL.out
      have hw0 : IntKind.i64.wrap ((j : Int) + 1) = (j : Int) + 1 := wi_1 j (by omega)
      have hw1 : wrap64 ((j : Int) + 1) = (j : Int) + 1 := w64_1 j (by omega)
      obtain ⟨b1, rfl⟩ := sl_some9 hA (by omega)
      obtain ⟨b2, rfl⟩ := sl_some9 hB (by omega)
      obtain ⟨x, hx⟩ : ∃ x, la[j]'hlt = x := ⟨_, rfl⟩
      obtain ⟨y, hy⟩ : ∃ y, lb[j]'hltb = y := ⟨_, rfl⟩
      have c1 : ∀ w', Own E w' (A ++ B) → w'.cell? ⟨b1, j, none⟩ = some (.int .i64 x) := fun w' h => by
        have := hA.cell h ⟨b1, 0, none⟩ rfl j (by rw [List.length_map]; exact hlt)
        rw [add_lit, Nat.zero_add, List.getElem_map, hx] at this
        exact this
      have c2 : ∀ w', Own E w' (A ++ B) → w'.cell? ⟨b2, j, none⟩ = some (.int .i64 y) := fun w' h => by
        have := hB.cell h ⟨b2, 0, none⟩ rfl j (by rw [List.length_map]; exact hltb)
        rw [add_lit, Nat.zero_add, List.getElem_map, hy] at this
        exact this
      have C1 := Lib.hid c1
      have C2 := Lib.hid c2
      have HNO := Lib.hid (show x ≠ y → z = false from fun h => by
        rw [← HZ.out]
        apply decide_eq_false
        intro e
        subst e
        exact h (hx.symm.trans hy))
      have HNX := Lib.hid (show x = y → ∀ i (h1 : i < la.length) (h2 : i < lb.length), i < j + 1 → la[i]'h1 = lb[i]'h2 from fun h i h1 h2 hi => by
        by_cases hij : i = j
        · subst hij
          rw [hx, hy, h]
        · exact HB.out i h1 h2 (by omega))
      have HLT := Lib.hid hlt
      clear c1 c2 hx hy hlt hltb hj hll
      go_wp2_with fail
      (try (go_wp2_with fail))
      refine region_sch (fun w' => Own E w' (A ++ B)) (.look 0 (.look 1 (.look 2 (.look 3 (.look 4 (.look 5 (.look 6 (.look 7 (.look 8 .done))))))))) (by kernel_rfl) (by kernel_rfl) (fun _ _ d _ _ h => by cases d <;> exact h) ?_ ?_
      · exact hO.drew.as _
      replace hO := hO.drew
      generalize World.drew _ = wdr at hO ⊢
      first | (refine sch_look (o := ?_) (v := ?_) ?_ ?_ ?_ ?_; rotate_left 2; (· ((conv => lhs; whnf); try exact rfl)); (· rfl); (· intro w' hO'; (have c1 := C1.out w' hO'; have c2 := C2.out w' hO'); go_simp; (try exact rfl)); simp only [Act.put, List.setIfInBounds_toArray, List.set_cons_zero, List.set_cons_succ]) | (refine sch_pass (o := ?_) ?_ ?_ ?_; rotate_left; (· ((conv => lhs; whnf); try exact rfl)); (· rfl); simp only [Act.put, List.setIfInBounds_toArray, List.set_cons_zero, List.set_cons_succ]) | (refine sch_look (o := ?_) (v := .agg ?_) ?_ ?_ ?_ ?_; rotate_left 2; (· ((conv => lhs; whnf); try exact rfl)); (· rfl); (· intro w' hO'; refine run_opLoadS (b := ?_) (cs := ?_) (e := ?_) (f := ?_) hO' ?_ ?_ ?_ ?_; rotate_left 4; (· exact rfl); (· exact inferInstance); (· simp; done); (· simp; done)); simp only [Act.put, List.setIfInBounds_toArray, List.set_cons_zero, List.set_cons_succ])
      first | (refine sch_look (o := ?_) (v := ?_) ?_ ?_ ?_ ?_; rotate_left 2; (· ((conv => lhs; whnf); try exact rfl)); (· rfl); (· intro w' hO'; (have c1 := C1.out w' hO'; have c2 := C2.out w' hO'); go_simp; (try exact rfl)); simp only [Act.put, List.setIfInBounds_toArray, List.set_cons_zero, List.set_cons_succ]) | (refine sch_pass (o := ?_) ?_ ?_ ?_; rotate_left; (· ((conv => lhs; whnf); try exact rfl)); (· rfl); simp only [Act.put, List.setIfInBounds_toArray, List.set_cons_zero, List.set_cons_succ]) | (refine sch_look (o := ?_) (v := .agg ?_) ?_ ?_ ?_ ?_; rotate_left 2; (· ((conv => lhs; whnf); try exact rfl)); (· rfl); (· intro w' hO'; refine run_opLoadS (b := ?_) (cs := ?_) (e := ?_) (f := ?_) hO' ?_ ?_ ?_ ?_; rotate_left 4; (· exact rfl); (· exact inferInstance); (· simp; done); (· simp; done)); simp only [Act.put, List.setIfInBounds_toArray, List.set_cons_zero, List.set_cons_succ])
      first | (refine sch_look (o := ?_) (v := ?_) ?_ ?_ ?_ ?_; rotate_left 2; (· ((conv => lhs; whnf); try exact rfl)); (· rfl); (· intro w' hO'; (have c1 := C1.out w' hO'; have c2 := C2.out w' hO'); go_simp; (try exact rfl)); simp only [Act.put, List.setIfInBounds_toArray, List.set_cons_zero, List.set_cons_succ]) | (refine sch_pass (o := ?_) ?_ ?_ ?_; rotate_left; (· ((conv => lhs; whnf); try exact rfl)); (· rfl); simp only [Act.put, List.setIfInBounds_toArray, List.set_cons_zero, List.set_cons_succ]) | (refine sch_look (o := ?_) (v := .agg ?_) ?_ ?_ ?_ ?_; rotate_left 2; (· ((conv => lhs; whnf); try exact rfl)); (· rfl); (· intro w' hO'; refine run_opLoadS (b := ?_) (cs := ?_) (e := ?_) (f := ?_) hO' ?_ ?_ ?_ ?_; rotate_left 4; (· exact rfl); (· exact inferInstance); (· simp; done); (· simp; done)); simp only [Act.put, List.setIfInBounds_toArray, List.set_cons_zero, List.set_cons_succ])
      first | (refine sch_look (o := ?_) (v := ?_) ?_ ?_ ?_ ?_; rotate_left 2; (· ((conv => lhs; whnf); try exact rfl)); (· rfl); (· intro w' hO'; (have c1 := C1.out w' hO'; have c2 := C2.out w' hO'); go_simp; (try exact rfl)); simp only [Act.put, List.setIfInBounds_toArray, List.set_cons_zero, List.set_cons_succ]) | (refine sch_pass (o := ?_) ?_ ?_ ?_; rotate_left; (· ((conv => lhs; whnf); try exact rfl)); (· rfl); simp only [Act.put, List.setIfInBounds_toArray, List.set_cons_zero, List.set_cons_succ]) | (refine sch_look (o := ?_) (v := .agg ?_) ?_ ?_ ?_ ?_; rotate_left 2; (· ((conv => lhs; whnf); try exact rfl)); (· rfl); (· intro w' hO'; refine run_opLoadS (b := ?_) (cs := ?_) (e := ?_) (f := ?_) hO' ?_ ?_ ?_ ?_; rotate_left 4; (· exact rfl); (· exact inferInstance); (· simp; done); (· simp; done)); simp only [Act.put, List.setIfInBounds_toArray, List.set_cons_zero, List.set_cons_succ])
      first | (refine sch_look (o := ?_) (v := ?_) ?_ ?_ ?_ ?_; rotate_left 2; (· ((conv => lhs; whnf); try exact rfl)); (· rfl); (· intro w' hO'; (have c1 := C1.out w' hO'; have c2 := C2.out w' hO'); go_simp; (try exact rfl)); simp only [Act.put, List.setIfInBounds_toArray, List.set_cons_zero, List.set_cons_succ]) | (refine sch_pass (o := ?_) ?_ ?_ ?_; rotate_left; (· ((conv => lhs; whnf); try exact rfl)); (· rfl); simp only [Act.put, List.setIfInBounds_toArray, List.set_cons_zero, List.set_cons_succ]) | (refine sch_look (o := ?_) (v := .agg ?_) ?_ ?_ ?_ ?_; rotate_left 2; (· ((conv => lhs; whnf); try exact rfl)); (· rfl); (· intro w' hO'; refine run_opLoadS (b := ?_) (cs := ?_) (e := ?_) (f := ?_) hO' ?_ ?_ ?_ ?_; rotate_left 4; (· exact rfl); (· exact inferInstance); (· simp; done); (· simp; done)); simp only [Act.put, List.setIfInBounds_toArray, List.set_cons_zero, List.set_cons_succ])
      first | (refine sch_look (o := ?_) (v := ?_) ?_ ?_ ?_ ?_; rotate_left 2; (· ((conv => lhs; whnf); try exact rfl)); (· rfl); (· intro w' hO'; (have c1 := C1.out w' hO'; have c2 := C2.out w' hO'); go_simp; (try exact rfl)); simp only [Act.put, List.setIfInBounds_toArray, List.set_cons_zero, List.set_cons_succ]) | (refine sch_pass (o := ?_) ?_ ?_ ?_; rotate_left; (· ((conv => lhs; whnf); try exact rfl)); (· rfl); simp only [Act.put, List.setIfInBounds_toArray, List.set_cons_zero, List.set_cons_succ]) | (refine sch_look (o := ?_) (v := .agg ?_) ?_ ?_ ?_ ?_; rotate_left 2; (· ((conv => lhs; whnf); try exact rfl)); (· rfl); (· intro w' hO'; refine run_opLoadS (b := ?_) (cs := ?_) (e := ?_) (f := ?_) hO' ?_ ?_ ?_ ?_; rotate_left 4; (· exact rfl); (· exact inferInstance); (· simp; done); (· simp; done)); simp only [Act.put, List.setIfInBounds_toArray, List.set_cons_zero, List.set_cons_succ])
      first | (refine sch_look (o := ?_) (v := ?_) ?_ ?_ ?_ ?_; rotate_left 2; (· ((conv => lhs; whnf); try exact rfl)); (· rfl); (· intro w' hO'; (have c1 := C1.out w' hO'; have c2 := C2.out w' hO'); go_simp; (try exact rfl)); simp only [Act.put, List.setIfInBounds_toArray, List.set_cons_zero, List.set_cons_succ]) | (refine sch_pass (o := ?_) ?_ ?_ ?_; rotate_left; (· ((conv => lhs; whnf); try exact rfl)); (· rfl); simp only [Act.put, List.setIfInBounds_toArray, List.set_cons_zero, List.set_cons_succ]) | (refine sch_look (o := ?_) (v := .agg ?_) ?_ ?_ ?_ ?_; rotate_left 2; (· ((conv => lhs; whnf); try exact rfl)); (· rfl); (· intro w' hO'; refine run_opLoadS (b := ?_) (cs := ?_) (e := ?_) (f := ?_) hO' ?_ ?_ ?_ ?_; rotate_left 4; (· exact rfl); (· exact inferInstance); (· simp; done); (· simp; done)); simp only [Act.put, List.setIfInBounds_toArray, List.set_cons_zero, List.set_cons_succ])
      first | (refine sch_look (o := ?_) (v := ?_) ?_ ?_ ?_ ?_; rotate_left 2; (· ((conv => lhs; whnf); try exact rfl)); (· rfl); (· intro w' hO'; (have c1 := C1.out w' hO'; have c2 := C2.out w' hO'); go_simp; (try exact rfl)); simp only [Act.put, List.setIfInBounds_toArray, List.set_cons_zero, List.set_cons_succ]) | (refine sch_pass (o := ?_) ?_ ?_ ?_; rotate_left; (· ((conv => lhs; whnf); try exact rfl)); (· rfl); simp only [Act.put, List.setIfInBounds_toArray, List.set_cons_zero, List.set_cons_succ]) | (refine sch_look (o := ?_) (v := .agg ?_) ?_ ?_ ?_ ?_; rotate_left 2; (· ((conv => lhs; whnf); try exact rfl)); (· rfl); (· intro w' hO'; refine run_opLoadS (b := ?_) (cs := ?_) (e := ?_) (f := ?_) hO' ?_ ?_ ?_ ?_; rotate_left 4; (· exact rfl); (· exact inferInstance); (· simp; done); (· simp; done)); simp only [Act.put, List.setIfInBounds_toArray, List.set_cons_zero, List.set_cons_succ])
      first | (refine sch_look (o := ?_) (v := ?_) ?_ ?_ ?_ ?_; rotate_left 2; (· ((conv => lhs; whnf); try exact rfl)); (· rfl); (· intro w' hO'; (have c1 := C1.out w' hO'; have c2 := C2.out w' hO'); go_simp; (try exact rfl)); simp only [Act.put, List.setIfInBounds_toArray, List.set_cons_zero, List.set_cons_succ]) | (refine sch_pass (o := ?_) ?_ ?_ ?_; rotate_left; (· ((conv => lhs; whnf); try exact rfl)); (· rfl); simp only [Act.put, List.setIfInBounds_toArray, List.set_cons_zero, List.set_cons_succ]) | (refine sch_look (o := ?_) (v := .agg ?_) ?_ ?_ ?_ ?_; rotate_left 2; (· ((conv => lhs; whnf); try exact rfl)); (· rfl); (· intro w' hO'; refine run_opLoadS (b := ?_) (cs := ?_) (e := ?_) (f := ?_) hO' ?_ ?_ ?_ ?_; rotate_left 4; (· exact rfl); (· exact inferInstance); (· simp; done); (· simp; done)); simp only [Act.put, List.setIfInBounds_toArray, List.set_cons_zero, List.set_cons_succ])
      refine sch_done ?_
      by_cases hxy : x = y
      · subst hxy
        have HE := Lib.hid (HNX.out rfl)
        go_wp2_with fail
        have hlt := HLT.out
        go_roundw
        case rel => exact ⟨j + 1, by go_num, hlt, HE.out, hO.as _⟩
        case measure => (clear hw0 hw1; simp [intOf]; omega)
      · obtain rfl : z = false := HNO.out hxy
        have hxb : (x == y) = false := beq_eq_false_iff_ne.2 hxy
        go_wp2_with fail
        go_ret
        exact ⟨rfl, hO.as _⟩
    · obtain rfl : j = la.length := Nat.le_antisymm hj (Nat.le_of_not_lt hlt)
      have hjj : ¬ (la.length : Int) < la.length := by omega
      obtain rfl : z = true := by
        rw [← HZ.out]
        apply decide_eq_true
        exact List.ext_getElem HLEN.out fun i h1 h2 => HB.out i h1 h2 h1
      clear hj hlt
      go_wp2_with fail
      go_ret
      exact ⟨rfl, hO⟩
end Go.Proofs.YticclennllklpaaDoor

/- A method: what its calls tell, by definition. -/
namespace Go.Proofs.YticclennllklpaaDoor
open Go Go.RowKit Go.Own Go.Dt

def insR (ks : List Int) (es : List En) (y : En) : Int × List En := if refused ks y = 0 then (if y ∈ es then (160, es) else (0, wiE y es)) else (refused ks y, es)
def delR (ks : List Int) (es : List En) (y : En) : Int × List En := if refused ks y = 0 then (if y ∈ es then (0, woE es y) else (3, es)) else (refused ks y, es)
def fndR (ks : List Int) (es : List En) (d : Dt) : Int × List Int := if refused ks ⟨d, 0⟩ = 0 then (0, (keyE es d).map (·.t)) else (refused ks ⟨d, 0⟩, [])
theorem refused_ok {ks : List Int} {y : En} (h : refused ks y = 0) : okE y = true ∧ ks.contains y.d.k = true := by
  unfold refused at h
  split at h
  · rename_i h1
    split at h
    · rename_i h2; exact ⟨h1, h2⟩
    · cases h
  · cases h
theorem okE_d {y : En} (h : okE y = true) : y.d.ok = true := by unfold okE at h; simp only [Bool.and_eq_true] at h; exact h.1.1
theorem tidsV_map (es : List En) : tidsV es = (es.map (·.t)).map (Value.int .i64) := by unfold tidsV; rw [List.map_map]; rfl
theorem five_at1 {E w : World} {X : Fr} {b : Nat} {e : TypeId} {f : Nat × Nat} {c0 c1 c2 c3 c4 c5 : Value} (hO : Own E w X) [hh : Has X b (.cells #[c0, c1, c2, c3, c4, c5] e f)] : ∀ j v, [c1, c2, c3, c4, c5][j]? = some v → w.cell? ((⟨b, 1, none⟩ : Addr).add j) = some v := by
  intro j v hj
  rw [add_lit, hO.cell (b := b)]
  match j, hj with
  | 0, hj => exact hj
  | 1, hj => exact hj
  | 2, hj => exact hj
  | 3, hj => exact hj
  | 4, hj => exact hj
/-- A call of a method, as it came in. -/
structure OpB where
  k : Int
  y : En
instance : Inhabited OpB := ⟨⟨0, default⟩⟩
end Go.Proofs.YticclennllklpaaDoor
