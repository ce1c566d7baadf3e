/- Layer 9: the reference: Same of entries, SameAll. -/
import Derived.Test.YticclennllklpaaDoorK5
set_option linter.all false
/- Layer 9: the reference: Same of entries, SameAll. -/
namespace Go.Proofs.YticclennllklpaaDoor
open Go Go.RowKit Go.Own Go.Dt

set_option maxRecDepth 100000 in
set_option maxHeartbeats 16000000 in
theorem refSame (E w : World) (X R I : Fr) (a b : En) (sa sb : Option Addr) (ca cb : Nat) (ha : a.d.ok = true) (hb : b.d.ok = true) (hIa : ItemsAt E I sa a.d.l) (hIb : ItemsAt E I sb b.d.l) (hO : Own E w X) [hp : Pick X I R] :
    Calls Tryd.prog 23 #[.agg #[.int .i64 a.d.k, .int .i64 a.d.n, .string a.d.s, .slice sa a.d.l.length ca, .int .i64 a.t], .agg #[.int .i64 b.d.k, .int .i64 b.d.n, .string b.d.s, .slice sb b.d.l.length cb, .int .i64 b.t]] w fun e w' => e = .returned (.bool (decide (a = b))) ∧ Own E w' (I ++ R) := by
  replace hO := hO.perm hp.perm
  clear hp
  obtain ⟨ad, at_⟩ := a
  obtain ⟨bd, bt_⟩ := b
  replace ha : ad.ok = true := ha
  replace hb : bd.ok = true := hb
  replace hIa : ItemsAt E I sa ad.l := hIa
  replace hIb : ItemsAt E I sb bd.l := hIb
  show Calls Tryd.prog 23 #[.agg #[.int .i64 ad.k, .int .i64 ad.n, .string ad.s, .slice sa ad.l.length ca, .int .i64 at_], .agg #[.int .i64 bd.k, .int .i64 bd.n, .string bd.s, .slice sb bd.l.length cb, .int .i64 bt_]] w _
  by_cases ht : at_ = bt_
  · subst ht
    have hz : decide ((⟨ad, at_⟩ : En) = ⟨bd, at_⟩) = decide (ad = bd) := by
      by_cases e : ad = bd
      · rw [e, decide_eq_true rfl, decide_eq_true rfl]
      · rw [decide_eq_false e, decide_eq_false]; intro e2; cases e2; exact e rfl
    rw [hz]
    generalize hz2 : decide (ad = bd) = z
    have HZ := Lib.hid hz2
    have HA := Lib.hid ha
    have HB := Lib.hid hb
    clear hz hz2 ha hb
    go_enter Tryd.func23, Tryd.ntmps23
    go_wp2_with (first | (refine at_box ?_; go_must (refine own_box (v := ?_) hO ?_ ?_ ?_; rotate_left; (· rfl); (· ((conv => lhs; whnf); try exact rfl)); clear hO; (try clear hF); intro ob _ hO; (try simp only [Value.cells] at hO); ((try simp only [List.nil_append, List.append_nil] at hO); have hF := Own.cells hO; simp only [cellsOf_append, cellsOf_pt] at hF); simp only [Act.put, List.setIfInBounds_toArray, List.set_cons_zero, List.set_cons_succ])) | (refine at_load ?_; refine own_loadS (b := ?_) (cs := ?_) (e := ?_) (f := ?_) hO ?_ ?_ ?_ ?_ ?_ ?_; rotate_left 4; (· rfl); (· rfl); (· exact inferInstance); (· simp; done); (· simp [Value.cells]; done); simp only [Act.put, List.setIfInBounds_toArray, List.set_cons_zero, List.set_cons_succ]) | (go_at_call 39; refine (refSameD E _ _ _ I ad bd sa sb ca cb HA.out HB.out hIa hIb (hO.as (I ++ R))).mono ?_; rw [HZ.out]; clear hO hF; rintro e w2 ⟨rfl, hO⟩))
    go_ret
    exact ⟨rfl, hO.as _⟩
  · have hz : decide ((⟨ad, at_⟩ : En) = ⟨bd, bt_⟩) = false := by
      rw [decide_eq_false]; intro e2; cases e2; exact ht rfl
    rw [hz]
    have hb2 : (at_ == bt_) = false := beq_eq_false_iff_ne.2 ht
    clear ht hz
    go_enter Tryd.func23, Tryd.ntmps23
    go_wp2_with (first | (refine at_box ?_; go_must (refine own_box (v := ?_) hO ?_ ?_ ?_; rotate_left; (· rfl); (· ((conv => lhs; whnf); try exact rfl)); clear hO; (try clear hF); intro ob _ hO; (try simp only [Value.cells] at hO); ((try simp only [List.nil_append, List.append_nil] at hO); have hF := Own.cells hO; simp only [cellsOf_append, cellsOf_pt] at hF); simp only [Act.put, List.setIfInBounds_toArray, List.set_cons_zero, List.set_cons_succ])) | (refine at_load ?_; refine own_loadS (b := ?_) (cs := ?_) (e := ?_) (f := ?_) hO ?_ ?_ ?_ ?_ ?_ ?_; rotate_left 4; (· rfl); (· rfl); (· exact inferInstance); (· simp; done); (· simp [Value.cells]; done); simp only [Act.put, List.setIfInBounds_toArray, List.set_cons_zero, List.set_cons_succ]))
    go_ret
    exact ⟨rfl, hO.as _⟩
set_option maxRecDepth 100000 in
set_option maxHeartbeats 16000000 in
theorem refSameAll (E w : World) (X R I : Fr) (sa sb : Option Addr) (ca cb : Nat) (la lb : List En) (hll : la.length ≤ 4000000000000) (hla : ∀ e ∈ la, e.d.ok = true) (hlb : ∀ e ∈ lb, e.d.ok = true) (hIa : EntsAt E I sa la) (hIb : EntsAt E I sb lb) (hO : Own E w X) [hp : Pick X I R] :
    Calls Tryd.prog 14 #[.slice sa la.length ca, .slice sb lb.length cb] w fun e w' => e = .returned (.bool (decide (la = lb))) ∧ Own E w' (I ++ R) := by
  replace hO := hO.perm hp.perm
  clear hp
  have HLL := Lib.hid hll
  clear hll
  have HLA := Lib.hid hla
  have HLB := Lib.hid hlb
  clear hla hlb
  generalize hz : decide (la = lb) = z
  have HZ := Lib.hid hz
  clear hz
  by_cases hl : la.length = lb.length
  rotate_left
  · obtain rfl : false = z := by rw [← HZ.out, decide_eq_false]; intro e; exact hl (by rw [e])
    have hl2 : ¬ (la.length : Int) = lb.length := by omega
    clear HZ HLA HLB
    go_enter Tryd.func14, Tryd.ntmps14
    go_wp2_with fail
    go_ret
    exact ⟨rfl, hO⟩
  rw [← hl]
  have HLEN := Lib.hid hl
  clear hl
  go_enter Tryd.func14, Tryd.ntmps14
  go_wp2_with fail
  have hO1 := hO
  clear hO
  go_loopw [5] (fun i wr => ∃ (j : Nat), i = .int .i64 (j : Int) ∧ j ≤ la.length ∧ (∀ i (h1 : i < la.length) (h2 : i < lb.length), i < j → la[i]'h1 = lb[i]'h2) ∧ Own E wr (I ++ R)) (fun i _ => la.length - (intOf i).toNat)
  case atStart => exact ⟨0, rfl, Nat.zero_le _, fun _ _ _ h => absurd h (Nat.not_lt_zero _), hO1⟩
  case round =>
    clear hO1
    obtain ⟨j, rfl, hj, hbef, hO⟩ := hrel
    have HB := Lib.hid hbef
    clear hbef
    by_cases hlt : j < la.length
    · have hj1 : (j : Int) < la.length := by omega
      have hltb : j < lb.length := by rw [← HLEN.out]; exact hlt
      obtain ⟨ad1, a1, c1, rfl, hX1, hXI⟩ := hIa.get hO hlt
      obtain ⟨ad2, a2, c2, rfl, hY1, hYI⟩ := hIb.get hO hltb
      obtain ⟨x, hx⟩ : ∃ x, la[j]'hlt = x := ⟨_, rfl⟩
      obtain ⟨y, hy⟩ : ∃ y, lb[j]'hltb = y := ⟨_, rfl⟩
      have hxo : x.d.ok = true := HLA.out x (hx ▸ List.getElem_mem hlt)
      have hyo : y.d.ok = true := HLB.out y (hy ▸ List.getElem_mem hltb)
      rw [hx] at hX1 hXI
      rw [hy] at hY1 hYI
      have hno : x ≠ y → z = false := fun h => by
        rw [← HZ.out]
        apply decide_eq_false
        intro e
        subst e
        exact h (hx.symm.trans hy)
      have hnx : x = y → ∀ i (h1 : i < la.length) (h2 : i < lb.length), i < j + 1 → la[i]'h1 = lb[i]'h2 := fun h i h1 h2 hi => by
        by_cases hij : i = j
        · subst hij
          rw [hx, hy, h]
        · exact HB.out i h1 h2 (by omega)
      have HNO := Lib.hid hno
      have HNX := Lib.hid hnx
      have HLT := Lib.hid hlt
      have HXO := Lib.hid hxo
      have HYO := Lib.hid hyo
      clear hno hnx hlt hltb hx hy hj hxo hyo
      have HX1 : Hid (∀ (Y : Fr) (w : World), Own E w (I ++ Y) → ∀ i u, ([.int .i64 x.d.k, .int .i64 x.d.n, .string x.d.s, .slice a1 x.d.l.length c1, .int .i64 x.t] : List Value)[i]? = some u → w.cell? ((ad1.add (j * 5)).add i) = some u) := Lib.hid hX1
      have HY1 : Hid (∀ (Y : Fr) (w : World), Own E w (I ++ Y) → ∀ i u, ([.int .i64 y.d.k, .int .i64 y.d.n, .string y.d.s, .slice a2 y.d.l.length c2, .int .i64 y.t] : List Value)[i]? = some u → w.cell? ((ad2.add (j * 5)).add i) = some u) := Lib.hid hY1
      clear hX1 hY1
      generalize hq : decide (x = y) = q
      have HQ := Lib.hid hq
      clear hq
      have g2 : (0 : Int) ≤ (j : Int) := by omega
      have hw0 : IntKind.i64.wrap ((j : Int) + 1) = (j : Int) + 1 := wi_1 j (by have := HLL.out; have := HLT.out; omega)
      have hw1 : wrap64 ((j : Int) + 1) = (j : Int) + 1 := w64_1 j (by have := HLL.out; have := HLT.out; omega)
      have hjb : (j : Int) < lb.length := by have := HLEN.out; omega
      go_wp2_with fail
      (try (go_wp2_with fail))
      refine region_sch (fun w' => Own E w' (I)) (.look 0 (.look 1 (.look 2 (.look 3 (.look 4 (.look 5 (.look 6 (.look 7 (.act 8 (.look 9 .done)))))))))) (by kernel_rfl) (by kernel_rfl) (fun _ _ d _ _ h => by cases d <;> exact h) ?_ ?_
      · exact hO.drew.as _
      replace hO := hO.drew
      generalize World.drew _ = wdr at hO ⊢
      first | (refine sch_look (o := ?_) (v := ?_) ?_ ?_ ?_ ?_; rotate_left 2; (· ((conv => lhs; whnf); try exact rfl)); (· rfl); (· intro w' hO'; skip; go_simp; (try exact rfl)); simp only [Act.put, List.setIfInBounds_toArray, List.set_cons_zero, List.set_cons_succ]) | (refine sch_pass (o := ?_) ?_ ?_ ?_; rotate_left; (· ((conv => lhs; whnf); try exact rfl)); (· rfl); simp only [Act.put, List.setIfInBounds_toArray, List.set_cons_zero, List.set_cons_succ]) | (refine sch_look (o := ?_) (v := .agg ?_) ?_ ?_ ?_ ?_; rotate_left 2; (· ((conv => lhs; whnf); try exact rfl)); (· rfl); (· intro w' hO'; refine run_opLoadS (b := ?_) (cs := ?_) (e := ?_) (f := ?_) hO' ?_ ?_ ?_ ?_; rotate_left 4; (· exact rfl); (· exact inferInstance); (· simp; done); (· simp; done)); simp only [Act.put, List.setIfInBounds_toArray, List.set_cons_zero, List.set_cons_succ])
      first | (refine sch_look (o := ?_) (v := ?_) ?_ ?_ ?_ ?_; rotate_left 2; (· ((conv => lhs; whnf); try exact rfl)); (· rfl); (· intro w' hO'; skip; go_simp; (try exact rfl)); simp only [Act.put, List.setIfInBounds_toArray, List.set_cons_zero, List.set_cons_succ]) | (refine sch_pass (o := ?_) ?_ ?_ ?_; rotate_left; (· ((conv => lhs; whnf); try exact rfl)); (· rfl); simp only [Act.put, List.setIfInBounds_toArray, List.set_cons_zero, List.set_cons_succ]) | (refine sch_look (o := ?_) (v := .agg ?_) ?_ ?_ ?_ ?_; rotate_left 2; (· ((conv => lhs; whnf); try exact rfl)); (· rfl); (· intro w' hO'; refine run_opLoadS (b := ?_) (cs := ?_) (e := ?_) (f := ?_) hO' ?_ ?_ ?_ ?_; rotate_left 4; (· exact rfl); (· exact inferInstance); (· simp; done); (· simp; done)); simp only [Act.put, List.setIfInBounds_toArray, List.set_cons_zero, List.set_cons_succ])
      first | (refine sch_look (o := ?_) (v := ?_) ?_ ?_ ?_ ?_; rotate_left 2; (· ((conv => lhs; whnf); try exact rfl)); (· rfl); (· intro w' hO'; skip; go_simp; (try exact rfl)); simp only [Act.put, List.setIfInBounds_toArray, List.set_cons_zero, List.set_cons_succ]) | (refine sch_pass (o := ?_) ?_ ?_ ?_; rotate_left; (· ((conv => lhs; whnf); try exact rfl)); (· rfl); simp only [Act.put, List.setIfInBounds_toArray, List.set_cons_zero, List.set_cons_succ]) | (refine sch_look (o := ?_) (v := .agg ?_) ?_ ?_ ?_ ?_; rotate_left 2; (· ((conv => lhs; whnf); try exact rfl)); (· rfl); (· intro w' hO'; refine run_opLoadS (b := ?_) (cs := ?_) (e := ?_) (f := ?_) hO' ?_ ?_ ?_ ?_; rotate_left 4; (· exact rfl); (· exact inferInstance); (· simp; done); (· simp; done)); simp only [Act.put, List.setIfInBounds_toArray, List.set_cons_zero, List.set_cons_succ])
      (refine sch_look (o := ?_) (v := .agg ([.int .i64 x.d.k, .int .i64 x.d.n, .string x.d.s, .slice a1 x.d.l.length c1, .int .i64 x.t] : List Value).toArray) ?_ ?_ ?_ ?_; rotate_left; (· ((conv => lhs; whnf); try exact rfl)); (· rfl); (· intro w' hO'; exact run_opLoadC (ad := ad1.add (j * 5)) (cs := [.int .i64 x.d.k, .int .i64 x.d.n, .string x.d.s, .slice a1 x.d.l.length c1, .int .i64 x.t]) (HX1.out _ _ (hO'.as (I ++ []))) rfl (by simp) (by simp)); simp only [Act.put, List.setIfInBounds_toArray, List.set_cons_zero, List.set_cons_succ])
      first | (refine sch_look (o := ?_) (v := ?_) ?_ ?_ ?_ ?_; rotate_left 2; (· ((conv => lhs; whnf); try exact rfl)); (· rfl); (· intro w' hO'; skip; go_simp; (try exact rfl)); simp only [Act.put, List.setIfInBounds_toArray, List.set_cons_zero, List.set_cons_succ]) | (refine sch_pass (o := ?_) ?_ ?_ ?_; rotate_left; (· ((conv => lhs; whnf); try exact rfl)); (· rfl); simp only [Act.put, List.setIfInBounds_toArray, List.set_cons_zero, List.set_cons_succ]) | (refine sch_look (o := ?_) (v := .agg ?_) ?_ ?_ ?_ ?_; rotate_left 2; (· ((conv => lhs; whnf); try exact rfl)); (· rfl); (· intro w' hO'; refine run_opLoadS (b := ?_) (cs := ?_) (e := ?_) (f := ?_) hO' ?_ ?_ ?_ ?_; rotate_left 4; (· exact rfl); (· exact inferInstance); (· simp; done); (· simp; done)); simp only [Act.put, List.setIfInBounds_toArray, List.set_cons_zero, List.set_cons_succ])
      first | (refine sch_look (o := ?_) (v := ?_) ?_ ?_ ?_ ?_; rotate_left 2; (· ((conv => lhs; whnf); try exact rfl)); (· rfl); (· intro w' hO'; skip; go_simp; (try exact rfl)); simp only [Act.put, List.setIfInBounds_toArray, List.set_cons_zero, List.set_cons_succ]) | (refine sch_pass (o := ?_) ?_ ?_ ?_; rotate_left; (· ((conv => lhs; whnf); try exact rfl)); (· rfl); simp only [Act.put, List.setIfInBounds_toArray, List.set_cons_zero, List.set_cons_succ]) | (refine sch_look (o := ?_) (v := .agg ?_) ?_ ?_ ?_ ?_; rotate_left 2; (· ((conv => lhs; whnf); try exact rfl)); (· rfl); (· intro w' hO'; refine run_opLoadS (b := ?_) (cs := ?_) (e := ?_) (f := ?_) hO' ?_ ?_ ?_ ?_; rotate_left 4; (· exact rfl); (· exact inferInstance); (· simp; done); (· simp; done)); simp only [Act.put, List.setIfInBounds_toArray, List.set_cons_zero, List.set_cons_succ])
      first | (refine sch_look (o := ?_) (v := ?_) ?_ ?_ ?_ ?_; rotate_left 2; (· ((conv => lhs; whnf); try exact rfl)); (· rfl); (· intro w' hO'; skip; go_simp; (try exact rfl)); simp only [Act.put, List.setIfInBounds_toArray, List.set_cons_zero, List.set_cons_succ]) | (refine sch_pass (o := ?_) ?_ ?_ ?_; rotate_left; (· ((conv => lhs; whnf); try exact rfl)); (· rfl); simp only [Act.put, List.setIfInBounds_toArray, List.set_cons_zero, List.set_cons_succ]) | (refine sch_look (o := ?_) (v := .agg ?_) ?_ ?_ ?_ ?_; rotate_left 2; (· ((conv => lhs; whnf); try exact rfl)); (· rfl); (· intro w' hO'; refine run_opLoadS (b := ?_) (cs := ?_) (e := ?_) (f := ?_) hO' ?_ ?_ ?_ ?_; rotate_left 4; (· exact rfl); (· exact inferInstance); (· simp; done); (· simp; done)); simp only [Act.put, List.setIfInBounds_toArray, List.set_cons_zero, List.set_cons_succ])
      (refine sch_look (o := ?_) (v := .agg ([.int .i64 y.d.k, .int .i64 y.d.n, .string y.d.s, .slice a2 y.d.l.length c2, .int .i64 y.t] : List Value).toArray) ?_ ?_ ?_ ?_; rotate_left; (· ((conv => lhs; whnf); try exact rfl)); (· rfl); (· intro w' hO'; exact run_opLoadC (ad := ad2.add (j * 5)) (cs := [.int .i64 y.d.k, .int .i64 y.d.n, .string y.d.s, .slice a2 y.d.l.length c2, .int .i64 y.t]) (HY1.out _ _ (hO'.as (I ++ []))) rfl (by simp) (by simp)); simp only [Act.put, List.setIfInBounds_toArray, List.set_cons_zero, List.set_cons_succ])
      (refine sch_act (o := ?_) ?_ ?_; rotate_left; (· ((conv => lhs; whnf); try exact rfl)))
      go_wp2_with fail
      refine (refSame E _ _ _ I x y a1 a2 c1 c2 HXO.out HYO.out hXI hYI hO).mono ?_
      clear hO
      rw [HQ.out]
      rintro e w3 ⟨rfl, hO⟩
      go_wp2_with fail
      refine ⟨hO.as _, ?_⟩
      first | (refine sch_look (o := ?_) (v := ?_) ?_ ?_ ?_ ?_; rotate_left 2; (· ((conv => lhs; whnf); try exact rfl)); (· rfl); (· intro w' hO'; skip; go_simp; (try exact rfl)); simp only [Act.put, List.setIfInBounds_toArray, List.set_cons_zero, List.set_cons_succ]) | (refine sch_pass (o := ?_) ?_ ?_ ?_; rotate_left; (· ((conv => lhs; whnf); try exact rfl)); (· rfl); simp only [Act.put, List.setIfInBounds_toArray, List.set_cons_zero, List.set_cons_succ]) | (refine sch_look (o := ?_) (v := .agg ?_) ?_ ?_ ?_ ?_; rotate_left 2; (· ((conv => lhs; whnf); try exact rfl)); (· rfl); (· intro w' hO'; refine run_opLoadS (b := ?_) (cs := ?_) (e := ?_) (f := ?_) hO' ?_ ?_ ?_ ?_; rotate_left 4; (· exact rfl); (· exact inferInstance); (· simp; done); (· simp; done)); simp only [Act.put, List.setIfInBounds_toArray, List.set_cons_zero, List.set_cons_succ])
      refine sch_done ?_
      cases q
      · obtain rfl : z = false := HNO.out (of_decide_eq_false HQ.out)
        go_wp2_with fail
        go_ret
        exact ⟨rfl, hO⟩
      · have e := HNX.out (of_decide_eq_true HQ.out)
        have HE := Lib.hid e
        clear e
        go_wp2_with fail
        have hlt := HLT.out
        go_roundw
        case rel => exact ⟨j + 1, by go_num, hlt, HE.out, hO⟩
        case measure => (first | (clear hw1; simp [intOf]; omega; done) | (simp [intOf, hw1]; clear hw1; omega))
    · obtain rfl : j = la.length := Nat.le_antisymm hj (Nat.le_of_not_lt hlt)
      have hjj : ¬ (la.length : Int) < la.length := by omega
      obtain rfl : z = true := by
        rw [← HZ.out]
        apply decide_eq_true
        exact List.ext_getElem HLEN.out fun i h1 h2 => HB.out i h1 h2 h1
      clear hj hlt
      go_wp2_with fail
      go_ret
      exact ⟨rfl, hO⟩
end Go.Proofs.YticclennllklpaaDoor

/- The method: Entries. -/
namespace Go.Proofs.YticclennllklpaaDoor
open Go Go.RowKit Go.Own Go.Dt

theorem sltE : SlT Tryd.prog 22 32 5 64 (.agg #[.int .i64 0, .int .i64 0, .string .empty, .slice none 0 0, .int .i64 0]) := ⟨by kernel_rfl, by kernel_rfl, rfl⟩
theorem four_at1 {E w : World} {X : Fr} {b : Nat} {e : TypeId} {f : Nat × Nat} {c0 c1 c2 c3 c4 c5 : Value} (hO : Own E w X) [hh : Has X b (.cells #[c0, c1, c2, c3, c4, c5] e f)] : ∀ j v, [c1, c2, c3, c4][j]? = some v → w.cell? ((⟨b, 1, none⟩ : Addr).add j) = some v := by
  intro j v hj
  rw [add_lit, hO.cell (b := b)]
  match j, hj with
  | 0, hj => exact hj
  | 1, hj => exact hj
  | 2, hj => exact hj
  | 3, hj => exact hj
/-- An entry in a list of one's own, and where its key's list lies. -/
structure Oe where
  e : En
  a : Option Addr
  c : Nat
def Oe.v (o : Oe) : List Value := entV o.e o.a o.c
theorem Oe.len (o : Oe) : o.v.length = 5 := rfl
theorem oes_one (os : List Oe) : ∀ u ∈ os.flatMap Oe.v, u.oneCell' = true := by
  intro u hu
  obtain ⟨x, _, hx⟩ := List.mem_flatMap.1 hu
  unfold Oe.v entV at hx
  simp only [List.mem_cons, List.not_mem_nil, or_false] at hx
  rcases hx with rfl | rfl | rfl | rfl | rfl <;> rfl
theorem ents_own {E : World} {so : Option Addr} {co : Nat} {SO F : Fr} {os : List Oe} (hS : Sl 32 5 so os.length co (os.flatMap Oe.v) SO) (hF : ∀ o ∈ os, ItemsAt E F o.a o.e.d.l) : EntsAt E (SO ++ F) so (os.map (·.e)) := by
  refine ⟨fun i => (os[i]?.map (·.a)).getD none, fun i => (os[i]?.map (·.c)).getD 0, fun Y w hO i hi => ?_, fun i hi => ?_⟩
  · have hi' : i < os.length := by simpa using hi
    obtain ⟨b, rfl⟩ := sl_some9 hS (by omega)
    refine ⟨⟨b, 0, none⟩, rfl, fun j u hj => ?_⟩
    rw [List.getElem_map] at hj
    simp only [List.getElem?_eq_getElem hi', Option.map_some, Option.getD_some] at hj
    have hO' : Own E w (SO ++ (F ++ Y)) := by rwa [List.append_assoc] at hO
    have := row_cells Oe.len hS hO' hi' j u hj
    rw [add_lit, Nat.zero_add]
    exact this
  · have hi' : i < os.length := by simpa using hi
    rw [List.getElem_map]
    simp only [List.getElem?_eq_getElem hi', Option.map_some, Option.getD_some]
    exact (hF _ (List.getElem_mem hi')).of List.perm_append_comm
def EntriesP (E : World) (es : List En) (X : Fr) (e : Ending) (w' : World) : Prop :=
  ∃ (so : Option Addr) (co : Nat) (os : List Oe) (SO FO : Fr), e = .returned (.slice so es.length co) ∧ os.map (·.e) = es ∧ Sl 32 5 so es.length co (os.flatMap Oe.v) SO ∧ (∀ o ∈ os, ItemsAt E FO o.a o.e.d.l) ∧ Own E w' (SO ++ (FO ++ X))
set_option maxRecDepth 100000 in
set_option maxHeartbeats 16000000 in
theorem pEntries (E w : World) (X R A : Fr) (p : Nat) (hs : List Hl) (hl : hs.length ≤ 2000000000000) (hA : PlainAt E p hs A) (hO : Own E w X) [hp : Pick X A R] :
    Calls Tryd.prog 15 #[.pointer (some ⟨p, 0, none⟩)] w (EntriesP E (esOf hs) (A ++ R)) := by
  replace hO := hO.perm hp.perm
  clear hp
  generalize hpost : EntriesP E (esOf hs) (A ++ R) = POST
  have HPOST := Lib.hid hpost
  clear hpost
  obtain ⟨sa, cap, S, FC, hE, hS, hFC, rfl⟩ := hA
  have HE := Lib.hid hE
  have HFC := Lib.hid hFC
  clear hE hFC
  replace hO : Own E w (plainF p sa hs.length cap ++ (S ++ (FC ++ R))) := hO.as _
  have cp : w.cell? ⟨p, 1, none⟩ = some (.slice sa hs.length cap) := by
    have h9 : Own E w (pt p (.cells #[.bool true, .slice sa hs.length cap] 66 (0, 0)) ++ (S ++ (FC ++ R))) := hO.as (plainF p sa hs.length cap ++ (S ++ (FC ++ R)))
    rw [h9.cell (b := p)]; rfl
  go_enter Tryd.func15, Tryd.ntmps15
  go_wp2_with fail
  refine (pGiven E _ _ _ p hs.length cap sa hO).mono ?_
  rintro e w1 ⟨rfl, rfl⟩
  go_wp2_with fail
  have hO1 := hO
  clear hO cp
  go_loopw [3, 14] (fun o i wr => ∃ (j : Nat) (so : Option Addr) (co : Nat) (os : List Oe) (SO FO : Fr), o = .slice so j co ∧ i = .int .i64 (j : Int) ∧ j ≤ hs.length ∧ os.map (·.e) = (esOf hs).take j ∧ Sl 32 5 so j co (os.flatMap Oe.v) SO ∧ (∀ o ∈ os, ItemsAt E FO o.a o.e.d.l) ∧ Own E wr (SO ++ (FO ++ (plainF p sa hs.length cap ++ (S ++ (FC ++ R)))))) (fun _ i _ => hs.length - (intOf i).toNat)
  case atStart => exact ⟨0, none, 0, [], [], [], rfl, rfl, Nat.zero_le _, rfl, Sl.nil _ _, fun _ h => (nomatch h), hO1⟩
  case round =>
    clear hO1
    obtain ⟨j, so, co, os, SO, FO, rfl, rfl, hj, hos, hSO, hFO, hO⟩ := hrel
    have HOS := Lib.hid hos
    have HFO := Lib.hid hFO
    clear hos hFO
    by_cases hlt : j < hs.length
    · have hj1 : (j : Int) < hs.length := by omega
      have g2 : (0 : Int) ≤ (j : Int) := by omega
      obtain ⟨sb, rfl⟩ := sl_some9 hS (by omega)
      obtain ⟨x, hx⟩ : ∃ x, hs[j]'hlt = x := ⟨_, rfl⟩
      have hsc : ∀ i v, x.v[i]? = some v → wr.cell? ((⟨sb, j * 6, none⟩ : Addr).add i) = some v := hx ▸ row_cells Hl.len hS hO hlt
      have HSC : Hid (∀ i v, ([.string (encB x.e.d), .int .i64 x.e.d.k, .int .i64 x.e.d.n, .string x.e.d.s, .slice x.a x.e.d.l.length x.c, .int .i64 x.e.t] : List Value)[i]? = some v → wr.cell? ((⟨sb, j * 6, none⟩ : Addr).add i) = some v) := Lib.hid hsc
      have hmem : x ∈ hs := hx ▸ List.getElem_mem hlt
      have hxI : ItemsAt E FC x.a x.e.d.l := HFC.out x hmem
      have hxe : (esOf hs)[j]'(by rw [esOf_len]; exact hlt) = x.e := by rw [esOf_get hs j _ hlt, hx]
      have hxo : x.e.d.ok = true := (HE.out.ok x.e (List.mem_map.2 ⟨x, hmem, rfl⟩)).1
      have hl8 : x.e.d.l.length ≤ 8 := by
        by_cases k3 : x.e.d.k = 3
        · exact (Dt.ok_list k3 hxo).2.2.1
        · have h9 : x.e.d.l.length = 0 := (It.ok_or (Dt.ok_one k3 hxo)).1
          omega
      have HT := Lib.hid (show (esOf hs).take (j + 1) = (esOf hs).take j ++ [x.e] by rw [List.take_succ_eq_append_getElem (by rw [esOf_len]; exact hlt), hxe])
      have HLT := Lib.hid hlt
      have HXI := Lib.hid hxI
      have hj64 : j * 64 ≤ 140737488355328 := by omega
      have hj65 : j < maxLen := by unfold maxLen; omega
      have hw0 : IntKind.i64.wrap ((j : Int) + 1) = (j : Int) + 1 := wi_1 j (by omega)
      have hw1 : wrap64 ((j : Int) + 1) = (j : Int) + 1 := w64_1 j (by omega)
      clear hsc hx hmem hxI hxe hxo hj hlt
      go_wp2_with (first | (refine at_load (t := 79) ?_; go_must (refine own_loadC (ad := ⟨sb, j * 6, none⟩) (cs := [.string (encB x.e.d), .int .i64 x.e.d.k, .int .i64 x.e.d.n, .string x.e.d.s, .slice x.a x.e.d.l.length x.c, .int .i64 x.e.t]) ?_ HSC.out ?_ ?_ ?_ ?_; (· rfl); (· ((conv => lhs; whnf); try exact rfl)); (· simp; done); (· simp; done); simp only [Act.put, List.setIfInBounds_toArray, List.set_cons_zero, List.set_cons_succ])) | (refine at_alloc ?_; go_must (refine own_alloc (z := .agg #[.string .empty, .int .i64 0, .int .i64 0, .string .empty, .slice none 0 0, .int .i64 0]) hO ?_ ?_ ?_; (· rfl); (· kernel_rfl); clear hO; (try clear hF); intro hb _ hO; (try simp only [Value.cells] at hO); ((try simp only [List.nil_append, List.append_nil] at hO); have hF := Own.cells hO; simp only [cellsOf_append, cellsOf_pt] at hF); simp only [Act.put, List.setIfInBounds_toArray, List.set_cons_zero, List.set_cons_succ])) | (refine own_store (v := ?_) (off := 0) (b := hb) hO ?_ ?_ ?_ ?_ ?_ ?_ ?_; rotate_left; (· rfl); (· ((conv => lhs; whnf); try exact rfl)); (· ((conv => lhs; whnf); try exact rfl)); (· simp [Value.cells]); (· simp [Value.cells, Value.oneCell']); (· simp [Value.cells]); clear hO; (try clear hF); intro _ hO; (try simp only [splice, Value.cells] at hO); ((try simp only [List.nil_append, List.append_nil] at hO); have hF := Own.cells hO; simp only [cellsOf_append, cellsOf_pt] at hF); simp only [Act.put, List.setIfInBounds_toArray, List.set_cons_zero, List.set_cons_succ]))
      simp only [List.setIfInBounds_toArray, List.set_cons_zero, List.set_cons_succ, Nat.zero_add, Nat.reduceAdd] at hO
      have hF := Own.cells hO; simp only [cellsOf_append, cellsOf_pt] at hF
      (try (go_wp2_with fail))
      refine region_sch (fun w' => Own E w' (pt hb (.cells #[.string (encB x.e.d), .int .i64 x.e.d.k, .int .i64 x.e.d.n, .string x.e.d.s, .slice x.a x.e.d.l.length x.c, .int .i64 x.e.t] 79 (0, 0)))) (.look 0 (.look 1 (.look 2 (.look 3 (.look 5 (.look 6 (.look 7 (.act 4 (.look 8 (.act 9 (.act 10 (.look 11 .done)))))))))))) (by kernel_rfl) (by kernel_rfl) (fun _ _ d _ _ h => by cases d <;> exact h) ?_ ?_
      · exact hO.drew.as _
      replace hO := hO.drew
      generalize World.drew _ = wdr at hO ⊢
      first | (refine sch_look (o := ?_) (v := ?_) ?_ ?_ ?_ ?_; rotate_left 2; (· ((conv => lhs; whnf); try exact rfl)); (· rfl); (· intro w' hO'; have c5 : w'.cell? ⟨hb, 5, none⟩ = some (.int .i64 x.e.t) := (by rw [hO'.cell (b := hb)]; rfl); go_simp; (try exact rfl)); simp only [Act.put, List.setIfInBounds_toArray, List.set_cons_zero, List.set_cons_succ]) | (refine sch_pass (o := ?_) ?_ ?_ ?_; rotate_left; (· ((conv => lhs; whnf); try exact rfl)); (· rfl); simp only [Act.put, List.setIfInBounds_toArray, List.set_cons_zero, List.set_cons_succ]) | (refine sch_look (o := ?_) (v := .agg ?_) ?_ ?_ ?_ ?_; rotate_left 2; (· ((conv => lhs; whnf); try exact rfl)); (· rfl); (· intro w' hO'; refine run_opLoadS (b := ?_) (cs := ?_) (e := ?_) (f := ?_) hO' ?_ ?_ ?_ ?_; rotate_left 4; (· exact rfl); (· exact inferInstance); (· simp; done); (· simp; done)); simp only [Act.put, List.setIfInBounds_toArray, List.set_cons_zero, List.set_cons_succ])
      first | (refine sch_look (o := ?_) (v := ?_) ?_ ?_ ?_ ?_; rotate_left 2; (· ((conv => lhs; whnf); try exact rfl)); (· rfl); (· intro w' hO'; have c5 : w'.cell? ⟨hb, 5, none⟩ = some (.int .i64 x.e.t) := (by rw [hO'.cell (b := hb)]; rfl); go_simp; (try exact rfl)); simp only [Act.put, List.setIfInBounds_toArray, List.set_cons_zero, List.set_cons_succ]) | (refine sch_pass (o := ?_) ?_ ?_ ?_; rotate_left; (· ((conv => lhs; whnf); try exact rfl)); (· rfl); simp only [Act.put, List.setIfInBounds_toArray, List.set_cons_zero, List.set_cons_succ]) | (refine sch_look (o := ?_) (v := .agg ?_) ?_ ?_ ?_ ?_; rotate_left 2; (· ((conv => lhs; whnf); try exact rfl)); (· rfl); (· intro w' hO'; refine run_opLoadS (b := ?_) (cs := ?_) (e := ?_) (f := ?_) hO' ?_ ?_ ?_ ?_; rotate_left 4; (· exact rfl); (· exact inferInstance); (· simp; done); (· simp; done)); simp only [Act.put, List.setIfInBounds_toArray, List.set_cons_zero, List.set_cons_succ])
      first | (refine sch_look (o := ?_) (v := ?_) ?_ ?_ ?_ ?_; rotate_left 2; (· ((conv => lhs; whnf); try exact rfl)); (· rfl); (· intro w' hO'; have c5 : w'.cell? ⟨hb, 5, none⟩ = some (.int .i64 x.e.t) := (by rw [hO'.cell (b := hb)]; rfl); go_simp; (try exact rfl)); simp only [Act.put, List.setIfInBounds_toArray, List.set_cons_zero, List.set_cons_succ]) | (refine sch_pass (o := ?_) ?_ ?_ ?_; rotate_left; (· ((conv => lhs; whnf); try exact rfl)); (· rfl); simp only [Act.put, List.setIfInBounds_toArray, List.set_cons_zero, List.set_cons_succ]) | (refine sch_look (o := ?_) (v := .agg ?_) ?_ ?_ ?_ ?_; rotate_left 2; (· ((conv => lhs; whnf); try exact rfl)); (· rfl); (· intro w' hO'; refine run_opLoadS (b := ?_) (cs := ?_) (e := ?_) (f := ?_) hO' ?_ ?_ ?_ ?_; rotate_left 4; (· exact rfl); (· exact inferInstance); (· simp; done); (· simp; done)); simp only [Act.put, List.setIfInBounds_toArray, List.set_cons_zero, List.set_cons_succ])
      (refine sch_look (o := ?_) (v := .agg #[.int .i64 x.e.d.k, .int .i64 x.e.d.n, .string x.e.d.s, .slice x.a x.e.d.l.length x.c]) ?_ ?_ ?_ ?_; rotate_left; (· ((conv => lhs; whnf); try exact rfl)); (· rfl); (· intro w' hO'; exact run_opLoadC (ad := ⟨hb, 1, none⟩) (cs := [.int .i64 x.e.d.k, .int .i64 x.e.d.n, .string x.e.d.s, .slice x.a x.e.d.l.length x.c]) (four_at1 hO') rfl (by simp) (by simp)); simp only [Act.put, List.setIfInBounds_toArray, List.set_cons_zero, List.set_cons_succ])
      first | (refine sch_look (o := ?_) (v := ?_) ?_ ?_ ?_ ?_; rotate_left 2; (· ((conv => lhs; whnf); try exact rfl)); (· rfl); (· intro w' hO'; have c5 : w'.cell? ⟨hb, 5, none⟩ = some (.int .i64 x.e.t) := (by rw [hO'.cell (b := hb)]; rfl); go_simp; (try exact rfl)); simp only [Act.put, List.setIfInBounds_toArray, List.set_cons_zero, List.set_cons_succ]) | (refine sch_pass (o := ?_) ?_ ?_ ?_; rotate_left; (· ((conv => lhs; whnf); try exact rfl)); (· rfl); simp only [Act.put, List.setIfInBounds_toArray, List.set_cons_zero, List.set_cons_succ]) | (refine sch_look (o := ?_) (v := .agg ?_) ?_ ?_ ?_ ?_; rotate_left 2; (· ((conv => lhs; whnf); try exact rfl)); (· rfl); (· intro w' hO'; refine run_opLoadS (b := ?_) (cs := ?_) (e := ?_) (f := ?_) hO' ?_ ?_ ?_ ?_; rotate_left 4; (· exact rfl); (· exact inferInstance); (· simp; done); (· simp; done)); simp only [Act.put, List.setIfInBounds_toArray, List.set_cons_zero, List.set_cons_succ])
      first | (refine sch_look (o := ?_) (v := ?_) ?_ ?_ ?_ ?_; rotate_left 2; (· ((conv => lhs; whnf); try exact rfl)); (· rfl); (· intro w' hO'; have c5 : w'.cell? ⟨hb, 5, none⟩ = some (.int .i64 x.e.t) := (by rw [hO'.cell (b := hb)]; rfl); go_simp; (try exact rfl)); simp only [Act.put, List.setIfInBounds_toArray, List.set_cons_zero, List.set_cons_succ]) | (refine sch_pass (o := ?_) ?_ ?_ ?_; rotate_left; (· ((conv => lhs; whnf); try exact rfl)); (· rfl); simp only [Act.put, List.setIfInBounds_toArray, List.set_cons_zero, List.set_cons_succ]) | (refine sch_look (o := ?_) (v := .agg ?_) ?_ ?_ ?_ ?_; rotate_left 2; (· ((conv => lhs; whnf); try exact rfl)); (· rfl); (· intro w' hO'; refine run_opLoadS (b := ?_) (cs := ?_) (e := ?_) (f := ?_) hO' ?_ ?_ ?_ ?_; rotate_left 4; (· exact rfl); (· exact inferInstance); (· simp; done); (· simp; done)); simp only [Act.put, List.setIfInBounds_toArray, List.set_cons_zero, List.set_cons_succ])
      first | (refine sch_look (o := ?_) (v := ?_) ?_ ?_ ?_ ?_; rotate_left 2; (· ((conv => lhs; whnf); try exact rfl)); (· rfl); (· intro w' hO'; have c5 : w'.cell? ⟨hb, 5, none⟩ = some (.int .i64 x.e.t) := (by rw [hO'.cell (b := hb)]; rfl); go_simp; (try exact rfl)); simp only [Act.put, List.setIfInBounds_toArray, List.set_cons_zero, List.set_cons_succ]) | (refine sch_pass (o := ?_) ?_ ?_ ?_; rotate_left; (· ((conv => lhs; whnf); try exact rfl)); (· rfl); simp only [Act.put, List.setIfInBounds_toArray, List.set_cons_zero, List.set_cons_succ]) | (refine sch_look (o := ?_) (v := .agg ?_) ?_ ?_ ?_ ?_; rotate_left 2; (· ((conv => lhs; whnf); try exact rfl)); (· rfl); (· intro w' hO'; refine run_opLoadS (b := ?_) (cs := ?_) (e := ?_) (f := ?_) hO' ?_ ?_ ?_ ?_; rotate_left 4; (· exact rfl); (· exact inferInstance); (· simp; done); (· simp; done)); simp only [Act.put, List.setIfInBounds_toArray, List.set_cons_zero, List.set_cons_succ])
      (refine sch_act (o := ?_) ?_ ?_; rotate_left; (· ((conv => lhs; whnf); try exact rfl)))
      go_wp2_with fail
      refine (ownD E _ _ _ FC x.e.d x.a x.c hl8 HXI.out (hO.as (FC ++ (pt hb (.cells #[.string (encB x.e.d), .int .i64 x.e.d.k, .int .i64 x.e.d.n, .string x.e.d.s, .slice x.a x.e.d.l.length x.c, .int .i64 x.e.t] 79 (0, 0)) ++ (SO ++ (FO ++ (plainF p (some ⟨sb, 0, none⟩) hs.length cap ++ (S ++ R)))))))).mono ?_
      clear hO hF
      rintro e w4 ⟨so4, co4, SO4, rfl, hSO4, hO⟩
      replace hO : Own E w4 (pt hb (.cells #[.string (encB x.e.d), .int .i64 x.e.d.k, .int .i64 x.e.d.n, .string x.e.d.s, .slice x.a x.e.d.l.length x.c, .int .i64 x.e.t] 79 (0, 0)) ++ (SO ++ (SO4 ++ (FO ++ (plainF p (some ⟨sb, 0, none⟩) hs.length cap ++ (S ++ (FC ++ R))))))) := hO.as _
      have hF := Own.cells hO; simp only [cellsOf_append, cellsOf_pt] at hF
      go_wp2_with fail
      refine ⟨hO.as _, ?_⟩
      first | (refine sch_look (o := ?_) (v := ?_) ?_ ?_ ?_ ?_; rotate_left 2; (· ((conv => lhs; whnf); try exact rfl)); (· rfl); (· intro w' hO'; have c5 : w'.cell? ⟨hb, 5, none⟩ = some (.int .i64 x.e.t) := (by rw [hO'.cell (b := hb)]; rfl); go_simp; (try exact rfl)); simp only [Act.put, List.setIfInBounds_toArray, List.set_cons_zero, List.set_cons_succ]) | (refine sch_pass (o := ?_) ?_ ?_ ?_; rotate_left; (· ((conv => lhs; whnf); try exact rfl)); (· rfl); simp only [Act.put, List.setIfInBounds_toArray, List.set_cons_zero, List.set_cons_succ]) | (refine sch_look (o := ?_) (v := .agg ?_) ?_ ?_ ?_ ?_; rotate_left 2; (· ((conv => lhs; whnf); try exact rfl)); (· rfl); (· intro w' hO'; refine run_opLoadS (b := ?_) (cs := ?_) (e := ?_) (f := ?_) hO' ?_ ?_ ?_ ?_; rotate_left 4; (· exact rfl); (· exact inferInstance); (· simp; done); (· simp; done)); simp only [Act.put, List.setIfInBounds_toArray, List.set_cons_zero, List.set_cons_succ])
      (refine sch_act (o := ?_) ?_ ?_; rotate_left; (· ((conv => lhs; whnf); try exact rfl)))
      go_wp2_with (first | (refine at_bs ?_; go_must (refine own_build1 (v := ?_) sltE hO ?_ ?_ ?_ ?_ ?_ ?_; rotate_left; (· rfl); (· ((conv => lhs; whnf); try exact rfl)); (· rfl); (· decide); (· decide); clear hO; (try clear hF); intro bs _ hO; (try simp only [Value.cells] at hO); ((try simp only [List.nil_append, List.append_nil] at hO); have hF := Own.cells hO; simp only [cellsOf_append, cellsOf_pt] at hF); simp only [Act.put, List.setIfInBounds_toArray, List.set_cons_zero, List.set_cons_succ])))
      refine ⟨hO.as _, ?_⟩
      (refine sch_act (o := ?_) ?_ ?_; rotate_left; (· ((conv => lhs; whnf); try exact rfl)))
      go_wp2_with (first | (refine at_append ?_; go_must (refine own_append_elem (b1 := ?_) (cs := ?_) (e1 := ?_) (f1 := ?_) sltE hO ?_ ?_ ?_ hSO ?_ ?_ ?_ ?_ ?_ ?_ ?_; rotate_left 4; (· rfl); (· rfl); (· rfl); (· exact inferInstance); (· rfl); (· intro u hu; simp at hu; rcases hu with rfl | rfl | rfl | rfl | rfl <;> rfl); (· first | exact hj64 | exact hj65); (· decide); (· first | exact hj64 | exact hj65); clear hO; (try clear hF); intro _ _ _ _ hS hO; ((try simp only [List.nil_append, List.append_nil] at hO); have hF := Own.cells hO; simp only [cellsOf_append, cellsOf_pt] at hF); simp only [Act.put, List.setIfInBounds_toArray, List.set_cons_zero, List.set_cons_succ])))
      refine ⟨hO.as _, ?_⟩
      first | (refine sch_look (o := ?_) (v := ?_) ?_ ?_ ?_ ?_; rotate_left 2; (· ((conv => lhs; whnf); try exact rfl)); (· rfl); (· intro w' hO'; have c5 : w'.cell? ⟨hb, 5, none⟩ = some (.int .i64 x.e.t) := (by rw [hO'.cell (b := hb)]; rfl); go_simp; (try exact rfl)); simp only [Act.put, List.setIfInBounds_toArray, List.set_cons_zero, List.set_cons_succ]) | (refine sch_pass (o := ?_) ?_ ?_ ?_; rotate_left; (· ((conv => lhs; whnf); try exact rfl)); (· rfl); simp only [Act.put, List.setIfInBounds_toArray, List.set_cons_zero, List.set_cons_succ]) | (refine sch_look (o := ?_) (v := .agg ?_) ?_ ?_ ?_ ?_; rotate_left 2; (· ((conv => lhs; whnf); try exact rfl)); (· rfl); (· intro w' hO'; refine run_opLoadS (b := ?_) (cs := ?_) (e := ?_) (f := ?_) hO' ?_ ?_ ?_ ?_; rotate_left 4; (· exact rfl); (· exact inferInstance); (· simp; done); (· simp; done)); simp only [Act.put, List.setIfInBounds_toArray, List.set_cons_zero, List.set_cons_succ])
      refine sch_done ?_
      have hlt := HLT.out
      go_wp2_with fail
      go_roundw
      case rel =>
        refine ⟨j + 1, _, _, os ++ [⟨x.e, so4, co4⟩], ?SS, SO4 ++ FO, rfl, by go_num, hlt, ?p1, ?p2, ?p3, ?p4⟩
        case p2 => rw [List.flatMap_append]; exact hS
        case p4 => exact hO.as _
        case p1 => rw [List.map_append, HOS.out, HT.out]; rfl
        case p3 =>
          intro o ho
          rcases List.mem_append.1 ho with ho | ho
          · exact (HFO.out o ho).of List.perm_append_comm
          · rw [List.mem_singleton] at ho
            subst ho
            exact hSO4.of (.refl _)
      case measure => simp [intOf]; omega
    · obtain rfl : j = hs.length := Nat.le_antisymm hj (Nat.le_of_not_lt hlt)
      have hjj : ¬ (hs.length : Int) < hs.length := by omega
      clear hj hlt
      go_wp2_with fail
      rw [← HPOST.out]
      have hel : (esOf hs).length = hs.length := esOf_len hs
      refine ⟨so, co, os, SO, FO, by rw [hel], ?_, by rw [hel]; exact hSO, HFO.out, hO.as _⟩
      rw [HOS.out, ← hel, List.take_length]
end Go.Proofs.YticclennllklpaaDoor

/- Layer 9: the reference: Has, Without, Find, With, RefusedKey; the book's ints. (printed by wip/gen/genRJ.py) -/
namespace Go.Dt
open Go Go.RowKit Go.Own
end Go.Dt
namespace Go.Proofs.YticclennllklpaaDoor
open Go Go.RowKit Go.Own Go.Dt

/-- A list of entries on a row of its own; the keys' lists lie in F. -/
structure LAt (E : World) (F : Fr) (so : Option Addr) (co : Nat) (os : List Oe) (S : Fr) : Prop where
  row : Sl 32 5 so os.length co (os.flatMap Oe.v) S
  its : ∀ o ∈ os, ItemsAt E F o.a o.e.d.l
def esO (os : List Oe) : List En := os.map (·.e)
theorem esO_len (os : List Oe) : (esO os).length = os.length := List.length_map _
theorem LAt.nil (E : World) (F : Fr) : LAt E F none 0 [] [] := ⟨Sl.nil _ _, fun _ h => (nomatch h)⟩
theorem LAt.ents {E : World} {F S : Fr} {so : Option Addr} {co : Nat} {os : List Oe} (h : LAt E F so co os S) : EntsAt E (S ++ F) so (esO os) := ents_own h.row h.its
theorem LAt.cells {E w : World} {F S X R : Fr} {sb : Nat} {co : Nat} {os : List Oe} (h : LAt E F (some ⟨sb, 0, none⟩) co os S) {j : Nat} (hj : j < os.length) {x : Oe} (hx : os[j]'hj = x) (hO : Own E w X) [hp : Pick X S R] :
    ∀ i v, ([.int .i64 x.e.d.k, .int .i64 x.e.d.n, .string x.e.d.s, .slice x.a x.e.d.l.length x.c, .int .i64 x.e.t] : List Value)[i]? = some v → w.cell? ((⟨sb, j * 5, none⟩ : Addr).add i) = some v := by
  subst hx
  exact row_cells Oe.len h.row hO hj
def wiO (y : Oe) : List Oe → List Oe
  | [] => [y]
  | x :: l => if elt y.e x.e then y :: x :: l else x :: wiO y l
theorem wiO_es (y : Oe) : ∀ l, esO (wiO y l) = wiE y.e (esO l)
  | [] => rfl
  | x :: l => by
    unfold wiO
    show _ = wiE y.e (x.e :: esO l)
    unfold wiE
    split
    · rfl
    · show x.e :: esO (wiO y l) = _
      rw [wiO_es y l]
theorem wiO_new (y : Oe) : ∀ l, (∀ x ∈ l, ¬ elt y.e x.e) → wiO y l = l ++ [y]
  | [], _ => rfl
  | x :: l, h => by
    unfold wiO
    rw [if_neg (h x (List.mem_cons_self ..)), wiO_new y l fun z hz => h z (List.mem_cons_of_mem _ hz)]
    rfl
theorem wiO_here (y z : Oe) (hz : elt y.e z.e) : ∀ l, (∀ x ∈ l, ¬ elt y.e x.e) → wiO y (l ++ [z]) = l ++ [y, z]
  | [], _ => by show wiO y [z] = _; unfold wiO; rw [if_pos hz]; rfl
  | x :: l, h => by
    show wiO y (x :: (l ++ [z])) = _
    unfold wiO
    rw [if_neg (h x (List.mem_cons_self ..)), wiO_here y z hz l fun z hz => h z (List.mem_cons_of_mem _ hz)]
    rfl
theorem wiO_past (y z : Oe) : ∀ l, (∃ x ∈ l, elt y.e x.e) → wiO y (l ++ [z]) = wiO y l ++ [z]
  | [], h => by obtain ⟨x, hx, _⟩ := h; cases hx
  | x :: l, h => by
    show wiO y (x :: (l ++ [z])) = _
    unfold wiO
    by_cases hx : elt y.e x.e
    · rw [if_pos hx, if_pos hx]; rfl
    · rw [if_neg hx, if_neg hx, wiO_past y z l]
      · rfl
      · obtain ⟨u, hu, hu2⟩ := h
        rcases List.mem_cons.1 hu with rfl | hu
        · exact absurd hu2 hx
        · exact ⟨u, hu, hu2⟩
theorem wiO_len (y : Oe) : ∀ l, (wiO y l).length = l.length + 1
  | [] => rfl
  | x :: l => by
    unfold wiO
    split
    · rfl
    · rw [List.length_cons, wiO_len y l]; rfl
theorem wiO_mem {y z : Oe} : ∀ {l : List Oe}, z ∈ wiO y l → z = y ∨ z ∈ l
  | [], h => .inl (by unfold wiO at h; simpa using h)
  | x :: l, h => by
    unfold wiO at h
    split at h
    · rcases List.mem_cons.1 h with h | h
      · exact .inl h
      · exact .inr h
    · rcases List.mem_cons.1 h with h | h
      · exact .inr (List.mem_cons.2 (.inl h))
      · rcases wiO_mem h with h | h
        · exact .inl h
        · exact .inr (List.mem_cons_of_mem _ h)
def woO (os : List Oe) (y : En) : List Oe := os.filter fun o => decide (o.e ≠ y)
theorem woO_es (os : List Oe) (y : En) : esO (woO os y) = woE (esO os) y := by
  unfold esO woO woE
  rw [List.filter_map]
  rfl
theorem keyE_snoc (l : List En) (x : En) (d : Dt) : keyE (l ++ [x]) d = keyE l d ++ (if x.d = d then [x] else []) := by
  unfold keyE
  rw [List.filter_append, List.filter_cons]
  by_cases h : x.d = d <;> simp [h]
theorem woO_snoc (l : List Oe) (x : Oe) (y : En) : woO (l ++ [x]) y = woO l y ++ (if x.e = y then [] else [x]) := by
  unfold woO
  rw [List.filter_append, List.filter_cons]
  by_cases h : x.e = y <;> simp [h]
theorem woO_le (l : List Oe) (y : En) : (woO l y).length ≤ l.length := List.length_filter_le _ _
theorem keyE_le (l : List En) (d : Dt) : (keyE l d).length ≤ l.length := List.length_filter_le _ _
set_option maxRecDepth 100000 in
set_option maxHeartbeats 16000000 in
theorem refHas (E w : World) (X R S F : Fr) (so : Option Addr) (co : Nat) (os : List Oe) (hl : os.length ≤ 2000000000000) (hok : ∀ o ∈ os, o.e.d.ok = true) (hL : LAt E F so co os S) (y : En) (ay : Option Addr) (cy : Nat) (hyo : y.d.ok = true) (hIy : ItemsAt E F ay y.d.l) (hO : Own E w X) [hp : Pick X (S ++ F) R] :
    Calls Tryd.prog 50 #[.slice so os.length co, .agg #[.int .i64 y.d.k, .int .i64 y.d.n, .string y.d.s, .slice ay y.d.l.length cy, .int .i64 y.t]] w (fun (e : Ending) (w' : World) => e = .returned (.bool (decide (y ∈ esO os))) ∧ Own E w' (S ++ (F ++ R))) := by
  replace hO : Own E w (S ++ (F ++ R)) := by have := hO.perm hp.perm; rwa [List.append_assoc] at this
  clear hp
  generalize hpost : (fun (e : Ending) (w' : World) => e = .returned (.bool (decide (y ∈ esO os))) ∧ Own E w' (S ++ (F ++ R))) = POST
  have HPOST := Lib.hid hpost
  clear hpost
  have HLN := Lib.hid hl
  have HOK := Lib.hid hok
  clear hok
  have HYO := Lib.hid hyo
  clear hyo
  go_enter Tryd.func50, Tryd.ntmps50
  go_wp2_with (first | (refine at_box ?_; go_must (refine own_box (v := ?_) hO ?_ ?_ ?_; rotate_left; (· rfl); (· ((conv => lhs; whnf); try exact rfl)); clear hO; (try clear hF); intro ob _ hO; (try simp only [Value.cells] at hO); ((try simp only [List.nil_append, List.append_nil] at hO); have hF := Own.cells hO; simp only [cellsOf_append, cellsOf_pt] at hF); simp only [Act.put, List.setIfInBounds_toArray, List.set_cons_zero, List.set_cons_succ])))
  replace hO : Own E _ (S ++ (F ++ (pt ob (.cells #[.int .i64 y.d.k, .int .i64 y.d.n, .string y.d.s, .slice ay y.d.l.length cy, .int .i64 y.t] 32 (0, 0)) ++ R))) := hO.as _
  have hO1 := hO
  clear hO hF hl
  go_loopw [5] (fun i wr => ∃ (j : Nat), i = .int .i64 (j : Int) ∧ j ≤ os.length ∧ (∀ o ∈ os.take j, o.e ≠ y) ∧ Own E wr (S ++ (F ++ (pt ob (.cells #[.int .i64 y.d.k, .int .i64 y.d.n, .string y.d.s, .slice ay y.d.l.length cy, .int .i64 y.t] 32 (0, 0)) ++ R)))) (fun i _ => os.length - (intOf i).toNat)
  case atStart => exact ⟨0, rfl, Nat.zero_le _, fun _ h => (nomatch h), hO1⟩
  case round =>
    clear hO1
    obtain ⟨j, rfl, hj, hno, hO⟩ := hrel
    have HNO := Lib.hid hno
    clear hno
    have hF := Own.cells hO; simp only [cellsOf_append, cellsOf_pt] at hF
    have hl := HLN.out
    by_cases hlt : j < os.length
    · have hj1 : (j : Int) < os.length := by omega
      have g2 : (0 : Int) ≤ (j : Int) := by omega
      have hw0 : IntKind.i64.wrap ((j : Int) + 1) = (j : Int) + 1 := wi_1 j (by omega)
      have hw1 : wrap64 ((j : Int) + 1) = (j : Int) + 1 := w64_1 j (by omega)
      obtain ⟨sb, rfl⟩ := sl_some9 hL.row (by omega)
      obtain ⟨x, hx⟩ : ∃ x, os[j]'hlt = x := ⟨_, rfl⟩
      have hmem : x ∈ os := hx ▸ List.getElem_mem hlt
      have HSC := Lib.hid (show ∀ (Y : Fr) (w : World), Own E w (S ++ Y) → ∀ i v, ([.int .i64 x.e.d.k, .int .i64 x.e.d.n, .string x.e.d.s, .slice x.a x.e.d.l.length x.c, .int .i64 x.e.t] : List Value)[i]? = some v → w.cell? ((⟨sb, j * 5, none⟩ : Addr).add i) = some v from fun Y w h => hL.cells hlt hx h)
      have HXO := Lib.hid (HOK.out x hmem)
      have HXI := Lib.hid (hL.its x hmem)
      have HT := Lib.hid (show os.take (j + 1) = os.take j ++ [x] by rw [List.take_succ_eq_append_getElem hlt, hx])
      have HLT := Lib.hid hlt
      have HMEM := Lib.hid (show x.e ∈ esO os from List.mem_map.2 ⟨x, hmem, rfl⟩)
      generalize hq : decide (x.e = y) = q
      have HQ := Lib.hid hq
      clear hq
      clear hx hmem hlt hj hl
      go_wp2_with fail
      (try (go_wp2_with fail))
      refine region_sch (fun w' => Own E w' (S ++ pt ob (.cells #[.int .i64 y.d.k, .int .i64 y.d.n, .string y.d.s, .slice ay y.d.l.length cy, .int .i64 y.t] 32 (0, 0)))) (.look 0 (.look 1 (.look 2 (.look 3 (.look 4 (.act 5 .done)))))) (by kernel_rfl) (by kernel_rfl) (fun _ _ d _ _ h => by cases d <;> exact h) ?_ ?_
      · exact hO.drew.as _
      replace hO := hO.drew
      generalize World.drew _ = wdr at hO ⊢
      first | (refine sch_look (o := ?_) (v := ?_) ?_ ?_ ?_ ?_; rotate_left 2; (· ((conv => lhs; whnf); try exact rfl)); (· rfl); (· intro w' hO'; skip; go_simp; (try exact rfl)); simp only [Act.put, List.setIfInBounds_toArray, List.set_cons_zero, List.set_cons_succ]) | (refine sch_pass (o := ?_) ?_ ?_ ?_; rotate_left; (· ((conv => lhs; whnf); try exact rfl)); (· rfl); simp only [Act.put, List.setIfInBounds_toArray, List.set_cons_zero, List.set_cons_succ]) | (refine sch_look (o := ?_) (v := .agg ?_) ?_ ?_ ?_ ?_; rotate_left 2; (· ((conv => lhs; whnf); try exact rfl)); (· rfl); (· intro w' hO'; refine run_opLoadS (b := ?_) (cs := ?_) (e := ?_) (f := ?_) hO' ?_ ?_ ?_ ?_; rotate_left 4; (· exact rfl); (· exact inferInstance); (· simp; done); (· simp; done)); simp only [Act.put, List.setIfInBounds_toArray, List.set_cons_zero, List.set_cons_succ])
      first | (refine sch_look (o := ?_) (v := ?_) ?_ ?_ ?_ ?_; rotate_left 2; (· ((conv => lhs; whnf); try exact rfl)); (· rfl); (· intro w' hO'; skip; go_simp; (try exact rfl)); simp only [Act.put, List.setIfInBounds_toArray, List.set_cons_zero, List.set_cons_succ]) | (refine sch_pass (o := ?_) ?_ ?_ ?_; rotate_left; (· ((conv => lhs; whnf); try exact rfl)); (· rfl); simp only [Act.put, List.setIfInBounds_toArray, List.set_cons_zero, List.set_cons_succ]) | (refine sch_look (o := ?_) (v := .agg ?_) ?_ ?_ ?_ ?_; rotate_left 2; (· ((conv => lhs; whnf); try exact rfl)); (· rfl); (· intro w' hO'; refine run_opLoadS (b := ?_) (cs := ?_) (e := ?_) (f := ?_) hO' ?_ ?_ ?_ ?_; rotate_left 4; (· exact rfl); (· exact inferInstance); (· simp; done); (· simp; done)); simp only [Act.put, List.setIfInBounds_toArray, List.set_cons_zero, List.set_cons_succ])
      first | (refine sch_look (o := ?_) (v := ?_) ?_ ?_ ?_ ?_; rotate_left 2; (· ((conv => lhs; whnf); try exact rfl)); (· rfl); (· intro w' hO'; skip; go_simp; (try exact rfl)); simp only [Act.put, List.setIfInBounds_toArray, List.set_cons_zero, List.set_cons_succ]) | (refine sch_pass (o := ?_) ?_ ?_ ?_; rotate_left; (· ((conv => lhs; whnf); try exact rfl)); (· rfl); simp only [Act.put, List.setIfInBounds_toArray, List.set_cons_zero, List.set_cons_succ]) | (refine sch_look (o := ?_) (v := .agg ?_) ?_ ?_ ?_ ?_; rotate_left 2; (· ((conv => lhs; whnf); try exact rfl)); (· rfl); (· intro w' hO'; refine run_opLoadS (b := ?_) (cs := ?_) (e := ?_) (f := ?_) hO' ?_ ?_ ?_ ?_; rotate_left 4; (· exact rfl); (· exact inferInstance); (· simp; done); (· simp; done)); simp only [Act.put, List.setIfInBounds_toArray, List.set_cons_zero, List.set_cons_succ])
      (refine sch_look (o := ?_) (v := .agg ([.int .i64 x.e.d.k, .int .i64 x.e.d.n, .string x.e.d.s, .slice x.a x.e.d.l.length x.c, .int .i64 x.e.t] : List Value).toArray) ?_ ?_ ?_ ?_; rotate_left; (· ((conv => lhs; whnf); try exact rfl)); (· rfl); (· intro w' hO'; exact run_opLoadC (ad := ⟨sb, j * 5, none⟩) (cs := [.int .i64 x.e.d.k, .int .i64 x.e.d.n, .string x.e.d.s, .slice x.a x.e.d.l.length x.c, .int .i64 x.e.t]) (HSC.out _ _ (hO'.as (S ++ []))) rfl (by simp) (by simp)); simp only [Act.put, List.setIfInBounds_toArray, List.set_cons_zero, List.set_cons_succ])
      (refine sch_look (o := ?_) (v := .agg #[.int .i64 y.d.k, .int .i64 y.d.n, .string y.d.s, .slice ay y.d.l.length cy, .int .i64 y.t]) ?_ ?_ ?_ ?_; rotate_left; (· ((conv => lhs; whnf); try exact rfl)); (· rfl); (· intro w' hO'; exact run_opLoadS (b := ob) (cs := #[.int .i64 y.d.k, .int .i64 y.d.n, .string y.d.s, .slice ay y.d.l.length cy, .int .i64 y.t]) (e := 32) (f := _) hO' rfl inferInstance (by simp) (by simp)); simp only [Act.put, List.setIfInBounds_toArray, List.set_cons_zero, List.set_cons_succ])
      (refine sch_act (o := ?_) ?_ ?_; rotate_left; (· ((conv => lhs; whnf); try exact rfl)))
      go_wp2_with fail
      refine (refSame E _ _ (S ++ (pt ob (.cells #[.int .i64 y.d.k, .int .i64 y.d.n, .string y.d.s, .slice ay y.d.l.length cy, .int .i64 y.t] 32 (0, 0)) ++ R)) F x.e y x.a ay x.c cy HXO.out HYO.out HXI.out hIy (hO.as (F ++ (S ++ (pt ob (.cells #[.int .i64 y.d.k, .int .i64 y.d.n, .string y.d.s, .slice ay y.d.l.length cy, .int .i64 y.t] 32 (0, 0)) ++ R))))).mono ?_
      clear hO hF
      rw [HQ.out]
      rintro e w3 ⟨rfl, hO⟩
      replace hO : Own E w3 (S ++ (F ++ (pt ob (.cells #[.int .i64 y.d.k, .int .i64 y.d.n, .string y.d.s, .slice ay y.d.l.length cy, .int .i64 y.t] 32 (0, 0)) ++ R))) := hO.as _
      have hF := Own.cells hO; simp only [cellsOf_append, cellsOf_pt] at hF
      go_wp2_with fail
      refine ⟨hO.as _, ?_⟩
      refine sch_done ?_
      cases q
      · go_wp2_with fail
        have hlt := HLT.out
        go_roundw
        case rel =>
          refine ⟨j + 1, by go_num, hlt, fun o ho => ?_, hO.as _⟩
          rw [HT.out] at ho
          rcases List.mem_append.1 ho with ho | ho
          · exact HNO.out o ho
          · rw [List.mem_singleton] at ho
            subst ho
            exact of_decide_eq_false HQ.out
        case measure => (clear hw0 hw1; simp [intOf]; omega)
      · go_wp2_with fail
        rw [← HPOST.out]
        refine ⟨?_, hO.as _⟩
        rw [decide_eq_true (show y ∈ esO os from of_decide_eq_true HQ.out ▸ HMEM.out)]
        rfl
    · obtain rfl : j = os.length := Nat.le_antisymm hj (Nat.le_of_not_lt hlt)
      have hjj : ¬ (os.length : Int) < os.length := by omega
      clear hj hlt hl
      go_wp2_with fail
      rw [← HPOST.out]
      refine ⟨?_, hO.as _⟩
      have : y ∉ esO os := fun h => by
        obtain ⟨o, ho, he⟩ := List.mem_map.1 h
        exact HNO.out o (by rw [List.take_length]; exact ho) he
      rw [decide_eq_false this]
      first | done | rfl
set_option maxRecDepth 100000 in
set_option maxHeartbeats 16000000 in
theorem refWithout (E w : World) (X R S F : Fr) (so : Option Addr) (co : Nat) (os : List Oe) (hl : os.length ≤ 2000000000000) (hok : ∀ o ∈ os, o.e.d.ok = true) (hL : LAt E F so co os S) (y : En) (ay : Option Addr) (cy : Nat) (hyo : y.d.ok = true) (hIy : ItemsAt E F ay y.d.l) (hO : Own E w X) [hp : Pick X (S ++ F) R] :
    Calls Tryd.prog 52 #[.slice so os.length co, .agg #[.int .i64 y.d.k, .int .i64 y.d.n, .string y.d.s, .slice ay y.d.l.length cy, .int .i64 y.t]] w (fun (e : Ending) (w' : World) => ∃ (so2 : Option Addr) (co2 : Nat) (S2 : Fr), e = .returned (.slice so2 (woO os y).length co2) ∧ LAt E F so2 co2 (woO os y) S2 ∧ Own E w' (S2 ++ (S ++ (F ++ R)))) := by
  replace hO : Own E w (S ++ (F ++ R)) := by have := hO.perm hp.perm; rwa [List.append_assoc] at this
  clear hp
  generalize hpost : (fun (e : Ending) (w' : World) => ∃ (so2 : Option Addr) (co2 : Nat) (S2 : Fr), e = .returned (.slice so2 (woO os y).length co2) ∧ LAt E F so2 co2 (woO os y) S2 ∧ Own E w' (S2 ++ (S ++ (F ++ R)))) = POST
  have HPOST := Lib.hid hpost
  clear hpost
  have HLN := Lib.hid hl
  have HOK := Lib.hid hok
  clear hok
  have HYO := Lib.hid hyo
  clear hyo
  go_enter Tryd.func52, Tryd.ntmps52
  go_wp2_with (first | (refine at_box ?_; go_must (refine own_box (v := ?_) hO ?_ ?_ ?_; rotate_left; (· rfl); (· ((conv => lhs; whnf); try exact rfl)); clear hO; (try clear hF); intro ob _ hO; (try simp only [Value.cells] at hO); ((try simp only [List.nil_append, List.append_nil] at hO); have hF := Own.cells hO; simp only [cellsOf_append, cellsOf_pt] at hF); simp only [Act.put, List.setIfInBounds_toArray, List.set_cons_zero, List.set_cons_succ])))
  replace hO : Own E _ (S ++ (F ++ (pt ob (.cells #[.int .i64 y.d.k, .int .i64 y.d.n, .string y.d.s, .slice ay y.d.l.length cy, .int .i64 y.t] 32 (0, 0)) ++ R))) := hO.as _
  have hO1 := hO
  clear hO hF hl
  go_loopw [5, 6] (fun o i wr => ∃ (j : Nat) (so2 : Option Addr) (co2 : Nat) (SO : Fr), i = .int .i64 (j : Int) ∧ j ≤ os.length ∧ o = .slice so2 (woO (os.take j) y).length co2 ∧ Sl 32 5 so2 (woO (os.take j) y).length co2 ((woO (os.take j) y).flatMap Oe.v) SO ∧ Own E wr (SO ++ (S ++ (F ++ (pt ob (.cells #[.int .i64 y.d.k, .int .i64 y.d.n, .string y.d.s, .slice ay y.d.l.length cy, .int .i64 y.t] 32 (0, 0)) ++ R))))) (fun _ i _ => os.length - (intOf i).toNat)
  case atStart => exact ⟨0, none, 0, [], rfl, Nat.zero_le _, rfl, Sl.nil _ _, hO1⟩
  case round =>
    clear hO1
    obtain ⟨j, so2, co2, SO, rfl, hj, rfl, hSO, hO⟩ := hrel
    have hF := Own.cells hO; simp only [cellsOf_append, cellsOf_pt] at hF
    have hl := HLN.out
    by_cases hlt : j < os.length
    · have hj1 : (j : Int) < os.length := by omega
      have g2 : (0 : Int) ≤ (j : Int) := by omega
      have hw0 : IntKind.i64.wrap ((j : Int) + 1) = (j : Int) + 1 := wi_1 j (by omega)
      have hw1 : wrap64 ((j : Int) + 1) = (j : Int) + 1 := w64_1 j (by omega)
      obtain ⟨sb, rfl⟩ := sl_some9 hL.row (by omega)
      obtain ⟨x, hx⟩ : ∃ x, os[j]'hlt = x := ⟨_, rfl⟩
      have hmem : x ∈ os := hx ▸ List.getElem_mem hlt
      have HSC := Lib.hid (show ∀ (Y : Fr) (w : World), Own E w (S ++ Y) → ∀ i v, ([.int .i64 x.e.d.k, .int .i64 x.e.d.n, .string x.e.d.s, .slice x.a x.e.d.l.length x.c, .int .i64 x.e.t] : List Value)[i]? = some v → w.cell? ((⟨sb, j * 5, none⟩ : Addr).add i) = some v from fun Y w h => hL.cells hlt hx h)
      have HXO := Lib.hid (HOK.out x hmem)
      have HXI := Lib.hid (hL.its x hmem)
      have HT := Lib.hid (show os.take (j + 1) = os.take j ++ [x] by rw [List.take_succ_eq_append_getElem hlt, hx])
      have HLT := Lib.hid hlt
      have hwl := woO_le (os.take j) y
      have hwl2 : (os.take j).length ≤ j := by rw [List.length_take]; omega
      have HSN := Lib.hid (show woO (os.take (j + 1)) y = woO (os.take j) y ++ (if x.e = y then [] else [x]) by rw [HT.out, woO_snoc])
      generalize hpl : woO (os.take j) y = pl at hSO hwl ⊢
      rw [hpl] at HSN
      have hj64 : pl.length * 64 ≤ 140737488355328 := by omega
      have hj65 : pl.length < maxLen := by unfold maxLen; omega
      clear hwl hwl2 hpl
      generalize hq : decide (x.e = y) = q
      have HQ := Lib.hid hq
      clear hq
      clear hx hmem hlt hj hl
      go_wp2_with fail
      (try (go_wp2_with fail))
      refine region_sch (fun w' => Own E w' (S ++ pt ob (.cells #[.int .i64 y.d.k, .int .i64 y.d.n, .string y.d.s, .slice ay y.d.l.length cy, .int .i64 y.t] 32 (0, 0)))) (.look 0 (.look 1 (.look 2 (.look 3 (.look 4 (.act 5 (.look 6 .done))))))) (by kernel_rfl) (by kernel_rfl) (fun _ _ d _ _ h => by cases d <;> exact h) ?_ ?_
      · exact hO.drew.as _
      replace hO := hO.drew
      generalize World.drew _ = wdr at hO ⊢
      first | (refine sch_look (o := ?_) (v := ?_) ?_ ?_ ?_ ?_; rotate_left 2; (· ((conv => lhs; whnf); try exact rfl)); (· rfl); (· intro w' hO'; skip; go_simp; (try exact rfl)); simp only [Act.put, List.setIfInBounds_toArray, List.set_cons_zero, List.set_cons_succ]) | (refine sch_pass (o := ?_) ?_ ?_ ?_; rotate_left; (· ((conv => lhs; whnf); try exact rfl)); (· rfl); simp only [Act.put, List.setIfInBounds_toArray, List.set_cons_zero, List.set_cons_succ]) | (refine sch_look (o := ?_) (v := .agg ?_) ?_ ?_ ?_ ?_; rotate_left 2; (· ((conv => lhs; whnf); try exact rfl)); (· rfl); (· intro w' hO'; refine run_opLoadS (b := ?_) (cs := ?_) (e := ?_) (f := ?_) hO' ?_ ?_ ?_ ?_; rotate_left 4; (· exact rfl); (· exact inferInstance); (· simp; done); (· simp; done)); simp only [Act.put, List.setIfInBounds_toArray, List.set_cons_zero, List.set_cons_succ])
      first | (refine sch_look (o := ?_) (v := ?_) ?_ ?_ ?_ ?_; rotate_left 2; (· ((conv => lhs; whnf); try exact rfl)); (· rfl); (· intro w' hO'; skip; go_simp; (try exact rfl)); simp only [Act.put, List.setIfInBounds_toArray, List.set_cons_zero, List.set_cons_succ]) | (refine sch_pass (o := ?_) ?_ ?_ ?_; rotate_left; (· ((conv => lhs; whnf); try exact rfl)); (· rfl); simp only [Act.put, List.setIfInBounds_toArray, List.set_cons_zero, List.set_cons_succ]) | (refine sch_look (o := ?_) (v := .agg ?_) ?_ ?_ ?_ ?_; rotate_left 2; (· ((conv => lhs; whnf); try exact rfl)); (· rfl); (· intro w' hO'; refine run_opLoadS (b := ?_) (cs := ?_) (e := ?_) (f := ?_) hO' ?_ ?_ ?_ ?_; rotate_left 4; (· exact rfl); (· exact inferInstance); (· simp; done); (· simp; done)); simp only [Act.put, List.setIfInBounds_toArray, List.set_cons_zero, List.set_cons_succ])
      first | (refine sch_look (o := ?_) (v := ?_) ?_ ?_ ?_ ?_; rotate_left 2; (· ((conv => lhs; whnf); try exact rfl)); (· rfl); (· intro w' hO'; skip; go_simp; (try exact rfl)); simp only [Act.put, List.setIfInBounds_toArray, List.set_cons_zero, List.set_cons_succ]) | (refine sch_pass (o := ?_) ?_ ?_ ?_; rotate_left; (· ((conv => lhs; whnf); try exact rfl)); (· rfl); simp only [Act.put, List.setIfInBounds_toArray, List.set_cons_zero, List.set_cons_succ]) | (refine sch_look (o := ?_) (v := .agg ?_) ?_ ?_ ?_ ?_; rotate_left 2; (· ((conv => lhs; whnf); try exact rfl)); (· rfl); (· intro w' hO'; refine run_opLoadS (b := ?_) (cs := ?_) (e := ?_) (f := ?_) hO' ?_ ?_ ?_ ?_; rotate_left 4; (· exact rfl); (· exact inferInstance); (· simp; done); (· simp; done)); simp only [Act.put, List.setIfInBounds_toArray, List.set_cons_zero, List.set_cons_succ])
      (refine sch_look (o := ?_) (v := .agg ([.int .i64 x.e.d.k, .int .i64 x.e.d.n, .string x.e.d.s, .slice x.a x.e.d.l.length x.c, .int .i64 x.e.t] : List Value).toArray) ?_ ?_ ?_ ?_; rotate_left; (· ((conv => lhs; whnf); try exact rfl)); (· rfl); (· intro w' hO'; exact run_opLoadC (ad := ⟨sb, j * 5, none⟩) (cs := [.int .i64 x.e.d.k, .int .i64 x.e.d.n, .string x.e.d.s, .slice x.a x.e.d.l.length x.c, .int .i64 x.e.t]) (HSC.out _ _ (hO'.as (S ++ []))) rfl (by simp) (by simp)); simp only [Act.put, List.setIfInBounds_toArray, List.set_cons_zero, List.set_cons_succ])
      (refine sch_look (o := ?_) (v := .agg #[.int .i64 y.d.k, .int .i64 y.d.n, .string y.d.s, .slice ay y.d.l.length cy, .int .i64 y.t]) ?_ ?_ ?_ ?_; rotate_left; (· ((conv => lhs; whnf); try exact rfl)); (· rfl); (· intro w' hO'; exact run_opLoadS (b := ob) (cs := #[.int .i64 y.d.k, .int .i64 y.d.n, .string y.d.s, .slice ay y.d.l.length cy, .int .i64 y.t]) (e := 32) (f := _) hO' rfl inferInstance (by simp) (by simp)); simp only [Act.put, List.setIfInBounds_toArray, List.set_cons_zero, List.set_cons_succ])
      (refine sch_act (o := ?_) ?_ ?_; rotate_left; (· ((conv => lhs; whnf); try exact rfl)))
      go_wp2_with fail
      refine (refSame E _ _ (SO ++ (S ++ (pt ob (.cells #[.int .i64 y.d.k, .int .i64 y.d.n, .string y.d.s, .slice ay y.d.l.length cy, .int .i64 y.t] 32 (0, 0)) ++ R))) F x.e y x.a ay x.c cy HXO.out HYO.out HXI.out hIy (hO.as (F ++ (SO ++ (S ++ (pt ob (.cells #[.int .i64 y.d.k, .int .i64 y.d.n, .string y.d.s, .slice ay y.d.l.length cy, .int .i64 y.t] 32 (0, 0)) ++ R)))))).mono ?_
      clear hO hF
      rw [HQ.out]
      rintro e w3 ⟨rfl, hO⟩
      replace hO : Own E w3 (SO ++ (S ++ (F ++ (pt ob (.cells #[.int .i64 y.d.k, .int .i64 y.d.n, .string y.d.s, .slice ay y.d.l.length cy, .int .i64 y.t] 32 (0, 0)) ++ R)))) := hO.as _
      have hF := Own.cells hO; simp only [cellsOf_append, cellsOf_pt] at hF
      go_wp2_with fail
      refine ⟨hO.as _, ?_⟩
      first | (refine sch_look (o := ?_) (v := ?_) ?_ ?_ ?_ ?_; rotate_left 2; (· ((conv => lhs; whnf); try exact rfl)); (· rfl); (· intro w' hO'; skip; go_simp; (try exact rfl)); simp only [Act.put, List.setIfInBounds_toArray, List.set_cons_zero, List.set_cons_succ]) | (refine sch_pass (o := ?_) ?_ ?_ ?_; rotate_left; (· ((conv => lhs; whnf); try exact rfl)); (· rfl); simp only [Act.put, List.setIfInBounds_toArray, List.set_cons_zero, List.set_cons_succ]) | (refine sch_look (o := ?_) (v := .agg ?_) ?_ ?_ ?_ ?_; rotate_left 2; (· ((conv => lhs; whnf); try exact rfl)); (· rfl); (· intro w' hO'; refine run_opLoadS (b := ?_) (cs := ?_) (e := ?_) (f := ?_) hO' ?_ ?_ ?_ ?_; rotate_left 4; (· exact rfl); (· exact inferInstance); (· simp; done); (· simp; done)); simp only [Act.put, List.setIfInBounds_toArray, List.set_cons_zero, List.set_cons_succ])
      refine sch_done ?_
      cases q
      · have hne : x.e ≠ y := of_decide_eq_false HQ.out
        replace hO : Own E _ (SO ++ (S ++ (F ++ (pt ob (.cells #[.int .i64 y.d.k, .int .i64 y.d.n, .string y.d.s, .slice ay y.d.l.length cy, .int .i64 y.t] 32 (0, 0)) ++ R)))) := hO.as _
        have hF := Own.cells hO; simp only [cellsOf_append, cellsOf_pt] at hF
        have HNE := Lib.hid hne
        clear hne
        go_wp2_with (first | (refine at_load (t := 32) ?_; go_must (refine own_loadC (ad := ⟨sb, j * 5, none⟩) (cs := [.int .i64 x.e.d.k, .int .i64 x.e.d.n, .string x.e.d.s, .slice x.a x.e.d.l.length x.c, .int .i64 x.e.t]) ?_ (HSC.out _ _ (hO.as (S ++ [])) ) ?_ ?_ ?_ ?_; (· rfl); (· ((conv => lhs; whnf); try exact rfl)); (· simp; done); (· simp; done); simp only [Act.put, List.setIfInBounds_toArray, List.set_cons_zero, List.set_cons_succ])) | (refine at_bs ?_; go_must (refine own_build1 (v := ?_) sltE hO ?_ ?_ ?_ ?_ ?_ ?_; rotate_left; (· rfl); (· ((conv => lhs; whnf); try exact rfl)); (· rfl); (· decide); (· decide); clear hO; (try clear hF); intro bs _ hO; (try simp only [Value.cells] at hO); ((try simp only [List.nil_append, List.append_nil] at hO); have hF := Own.cells hO; simp only [cellsOf_append, cellsOf_pt] at hF); simp only [Act.put, List.setIfInBounds_toArray, List.set_cons_zero, List.set_cons_succ])) | (refine at_append ?_; go_must (refine own_append_elem (b1 := ?_) (cs := ?_) (e1 := ?_) (f1 := ?_) sltE hO ?_ ?_ ?_ hSO ?_ ?_ ?_ ?_ ?_ ?_ ?_; rotate_left 4; (· rfl); (· rfl); (· rfl); (· exact inferInstance); (· rfl); (· intro u hu; simp at hu; rcases hu with rfl | rfl | rfl | rfl | rfl <;> rfl); (· first | exact hj64 | exact hj65); (· decide); (· first | exact hj64 | exact hj65); clear hO; (try clear hF); intro so3 co3 SO3 w4 hSO3 hO; ((try simp only [List.nil_append, List.append_nil] at hO); have hF := Own.cells hO; simp only [cellsOf_append, cellsOf_pt] at hF); simp only [Act.put, List.setIfInBounds_toArray, List.set_cons_zero, List.set_cons_succ])))
        have hlt := HLT.out
        go_roundw
        case rel =>
          refine ⟨j + 1, so3, co3, SO3, by go_num, hlt, ?p1, ?p2, ?p3⟩
          case p2 =>
            rw [HSN.out, if_neg HNE.out, List.flatMap_append, List.length_append]
            exact hSO3
          case p1 => rw [HSN.out, if_neg HNE.out, List.length_append]; rfl
          case p3 => exact hO.as _
        case measure => (clear hw0 hw1; simp [intOf]; omega)
      · have heq : x.e = y := of_decide_eq_true HQ.out
        have HEQ := Lib.hid heq
        clear heq
        go_wp2_with fail
        have hlt := HLT.out
        go_roundw
        case rel =>
          refine ⟨j + 1, so2, co2, SO, by go_num, hlt, ?p1, ?p2, ?p3⟩
          case p2 =>
            rw [HSN.out, if_pos HEQ.out, List.append_nil]
            exact hSO
          case p1 => rw [HSN.out, if_pos HEQ.out, List.append_nil]
          case p3 => exact hO.as _
        case measure => (clear hw0 hw1; simp [intOf]; omega)
    · obtain rfl : j = os.length := Nat.le_antisymm hj (Nat.le_of_not_lt hlt)
      have hjj : ¬ (os.length : Int) < os.length := by omega
      clear hj hlt hl
      rw [List.take_length] at hSO ⊢
      go_wp2_with fail
      rw [← HPOST.out]
      exact ⟨so2, co2, SO, rfl, ⟨hSO, fun o ho => hL.its o ((List.mem_filter.1 ho).1)⟩, hO.as _⟩
theorem pre4 {c0 c1 c2 c3 c4 : Value} {i : Nat} {v : Value} (h : ([c0, c1, c2, c3] : List Value)[i]? = some v) : ([c0, c1, c2, c3, c4] : List Value)[i]? = some v := by
  match i, h with
  | 0, h => exact h
  | 1, h => exact h
  | 2, h => exact h
  | 3, h => exact h
set_option maxRecDepth 100000 in
set_option maxHeartbeats 16000000 in
theorem refFind (E w : World) (X R S F : Fr) (so : Option Addr) (co : Nat) (os : List Oe) (hl : os.length ≤ 2000000000000) (hok : ∀ o ∈ os, o.e.d.ok = true) (hL : LAt E F so co os S) (d : Dt) (ay : Option Addr) (cy : Nat) (hyo : d.ok = true) (hIy : ItemsAt E F ay d.l) (hO : Own E w X) [hp : Pick X (S ++ F) R] :
    Calls Tryd.prog 22 #[.slice so os.length co, .agg #[.int .i64 d.k, .int .i64 d.n, .string d.s, .slice ay d.l.length cy]] w (fun (e : Ending) (w' : World) => ∃ (so2 : Option Addr) (co2 : Nat) (S2 : Fr), e = .returned (.slice so2 (keyE (esO os) d).length co2) ∧ Sl 3 1 so2 (keyE (esO os) d).length co2 (tidsV (keyE (esO os) d)) S2 ∧ Own E w' (S2 ++ (S ++ (F ++ R)))) := by
  replace hO : Own E w (S ++ (F ++ R)) := by have := hO.perm hp.perm; rwa [List.append_assoc] at this
  clear hp
  generalize hpost : (fun (e : Ending) (w' : World) => ∃ (so2 : Option Addr) (co2 : Nat) (S2 : Fr), e = .returned (.slice so2 (keyE (esO os) d).length co2) ∧ Sl 3 1 so2 (keyE (esO os) d).length co2 (tidsV (keyE (esO os) d)) S2 ∧ Own E w' (S2 ++ (S ++ (F ++ R)))) = POST
  have HPOST := Lib.hid hpost
  clear hpost
  have HLN := Lib.hid hl
  have HOK := Lib.hid hok
  clear hok
  have HYO := Lib.hid hyo
  clear hyo
  go_enter Tryd.func22, Tryd.ntmps22
  go_wp2_with (first | (refine at_box ?_; go_must (refine own_box (v := ?_) hO ?_ ?_ ?_; rotate_left; (· rfl); (· ((conv => lhs; whnf); try exact rfl)); clear hO; (try clear hF); intro ob _ hO; (try simp only [Value.cells] at hO); ((try simp only [List.nil_append, List.append_nil] at hO); have hF := Own.cells hO; simp only [cellsOf_append, cellsOf_pt] at hF); simp only [Act.put, List.setIfInBounds_toArray, List.set_cons_zero, List.set_cons_succ])))
  replace hO : Own E _ (S ++ (F ++ (pt ob (.cells #[.int .i64 d.k, .int .i64 d.n, .string d.s, .slice ay d.l.length cy] 30 (0, 0)) ++ R))) := hO.as _
  have hO1 := hO
  clear hO hF hl
  go_loopw [5, 6] (fun o i wr => ∃ (j : Nat) (so2 : Option Addr) (co2 : Nat) (SO : Fr), i = .int .i64 (j : Int) ∧ j ≤ os.length ∧ o = .slice so2 (keyE (esO (os.take j)) d).length co2 ∧ Sl 3 1 so2 (keyE (esO (os.take j)) d).length co2 (tidsV (keyE (esO (os.take j)) d)) SO ∧ Own E wr (SO ++ (S ++ (F ++ (pt ob (.cells #[.int .i64 d.k, .int .i64 d.n, .string d.s, .slice ay d.l.length cy] 30 (0, 0)) ++ R))))) (fun _ i _ => os.length - (intOf i).toNat)
  case atStart => exact ⟨0, none, 0, [], rfl, Nat.zero_le _, rfl, Sl.nil _ _, hO1⟩
  case round =>
    clear hO1
    obtain ⟨j, so2, co2, SO, rfl, hj, rfl, hSO, hO⟩ := hrel
    have hF := Own.cells hO; simp only [cellsOf_append, cellsOf_pt] at hF
    have hl := HLN.out
    by_cases hlt : j < os.length
    · have hj1 : (j : Int) < os.length := by omega
      have g2 : (0 : Int) ≤ (j : Int) := by omega
      have hw0 : IntKind.i64.wrap ((j : Int) + 1) = (j : Int) + 1 := wi_1 j (by omega)
      have hw1 : wrap64 ((j : Int) + 1) = (j : Int) + 1 := w64_1 j (by omega)
      obtain ⟨sb, rfl⟩ := sl_some9 hL.row (by omega)
      obtain ⟨x, hx⟩ : ∃ x, os[j]'hlt = x := ⟨_, rfl⟩
      have hmem : x ∈ os := hx ▸ List.getElem_mem hlt
      have HSC := Lib.hid (show ∀ (Y : Fr) (w : World), Own E w (S ++ Y) → ∀ i v, ([.int .i64 x.e.d.k, .int .i64 x.e.d.n, .string x.e.d.s, .slice x.a x.e.d.l.length x.c, .int .i64 x.e.t] : List Value)[i]? = some v → w.cell? ((⟨sb, j * 5, none⟩ : Addr).add i) = some v from fun Y w h => hL.cells hlt hx h)
      have HXO := Lib.hid (HOK.out x hmem)
      have HXI := Lib.hid (hL.its x hmem)
      have HT := Lib.hid (show os.take (j + 1) = os.take j ++ [x] by rw [List.take_succ_eq_append_getElem hlt, hx])
      have HLT := Lib.hid hlt
      have hwl := keyE_le (esO (os.take j)) d
      have hwl2 : (esO (os.take j)).length ≤ j := by rw [esO_len, List.length_take]; omega
      have HSN := Lib.hid (show keyE (esO (os.take (j + 1))) d = keyE (esO (os.take j)) d ++ (if x.e.d = d then [x.e] else []) by rw [HT.out]; unfold esO; rw [List.map_append]; exact keyE_snoc _ _ _)
      generalize hpl : keyE (esO (os.take j)) d = pl at hSO hwl ⊢
      rw [hpl] at HSN
      have hj64 : pl.length * 8 ≤ 140737488355328 := by omega
      have hj65 : pl.length < maxLen := by unfold maxLen; omega
      clear hwl hwl2 hpl
      generalize hq : decide (x.e.d = d) = q
      have HQ := Lib.hid hq
      clear hq
      clear hx hmem hlt hj hl
      have c4 : ∀ w', Own E w' (S ++ pt ob (.cells #[.int .i64 d.k, .int .i64 d.n, .string d.s, .slice ay d.l.length cy] 30 (0, 0))) → w'.cell? ⟨sb, j * 5 + 4, none⟩ = some (.int .i64 x.e.t) := fun w' h => by
        have := HSC.out _ _ (h.as (S ++ [])) 4 _ rfl
        rwa [add_lit] at this
      have C4 := Lib.hid c4
      clear c4
      go_wp2_with fail
      (try (go_wp2_with fail))
      refine region_sch (fun w' => Own E w' (S ++ pt ob (.cells #[.int .i64 d.k, .int .i64 d.n, .string d.s, .slice ay d.l.length cy] 30 (0, 0)))) (.look 0 (.look 1 (.look 2 (.look 3 (.look 4 (.look 5 (.act 6 .done))))))) (by kernel_rfl) (by kernel_rfl) (fun _ _ d _ _ h => by cases d <;> exact h) ?_ ?_
      · exact hO.drew.as _
      replace hO := hO.drew
      generalize World.drew _ = wdr at hO ⊢
      first | (refine sch_look (o := ?_) (v := ?_) ?_ ?_ ?_ ?_; rotate_left 2; (· ((conv => lhs; whnf); try exact rfl)); (· rfl); (· intro w' hO'; skip; go_simp; (try exact rfl)); simp only [Act.put, List.setIfInBounds_toArray, List.set_cons_zero, List.set_cons_succ]) | (refine sch_pass (o := ?_) ?_ ?_ ?_; rotate_left; (· ((conv => lhs; whnf); try exact rfl)); (· rfl); simp only [Act.put, List.setIfInBounds_toArray, List.set_cons_zero, List.set_cons_succ]) | (refine sch_look (o := ?_) (v := .agg ?_) ?_ ?_ ?_ ?_; rotate_left 2; (· ((conv => lhs; whnf); try exact rfl)); (· rfl); (· intro w' hO'; refine run_opLoadS (b := ?_) (cs := ?_) (e := ?_) (f := ?_) hO' ?_ ?_ ?_ ?_; rotate_left 4; (· exact rfl); (· exact inferInstance); (· simp; done); (· simp; done)); simp only [Act.put, List.setIfInBounds_toArray, List.set_cons_zero, List.set_cons_succ])
      first | (refine sch_look (o := ?_) (v := ?_) ?_ ?_ ?_ ?_; rotate_left 2; (· ((conv => lhs; whnf); try exact rfl)); (· rfl); (· intro w' hO'; skip; go_simp; (try exact rfl)); simp only [Act.put, List.setIfInBounds_toArray, List.set_cons_zero, List.set_cons_succ]) | (refine sch_pass (o := ?_) ?_ ?_ ?_; rotate_left; (· ((conv => lhs; whnf); try exact rfl)); (· rfl); simp only [Act.put, List.setIfInBounds_toArray, List.set_cons_zero, List.set_cons_succ]) | (refine sch_look (o := ?_) (v := .agg ?_) ?_ ?_ ?_ ?_; rotate_left 2; (· ((conv => lhs; whnf); try exact rfl)); (· rfl); (· intro w' hO'; refine run_opLoadS (b := ?_) (cs := ?_) (e := ?_) (f := ?_) hO' ?_ ?_ ?_ ?_; rotate_left 4; (· exact rfl); (· exact inferInstance); (· simp; done); (· simp; done)); simp only [Act.put, List.setIfInBounds_toArray, List.set_cons_zero, List.set_cons_succ])
      first | (refine sch_look (o := ?_) (v := ?_) ?_ ?_ ?_ ?_; rotate_left 2; (· ((conv => lhs; whnf); try exact rfl)); (· rfl); (· intro w' hO'; skip; go_simp; (try exact rfl)); simp only [Act.put, List.setIfInBounds_toArray, List.set_cons_zero, List.set_cons_succ]) | (refine sch_pass (o := ?_) ?_ ?_ ?_; rotate_left; (· ((conv => lhs; whnf); try exact rfl)); (· rfl); simp only [Act.put, List.setIfInBounds_toArray, List.set_cons_zero, List.set_cons_succ]) | (refine sch_look (o := ?_) (v := .agg ?_) ?_ ?_ ?_ ?_; rotate_left 2; (· ((conv => lhs; whnf); try exact rfl)); (· rfl); (· intro w' hO'; refine run_opLoadS (b := ?_) (cs := ?_) (e := ?_) (f := ?_) hO' ?_ ?_ ?_ ?_; rotate_left 4; (· exact rfl); (· exact inferInstance); (· simp; done); (· simp; done)); simp only [Act.put, List.setIfInBounds_toArray, List.set_cons_zero, List.set_cons_succ])
      first | (refine sch_look (o := ?_) (v := ?_) ?_ ?_ ?_ ?_; rotate_left 2; (· ((conv => lhs; whnf); try exact rfl)); (· rfl); (· intro w' hO'; skip; go_simp; (try exact rfl)); simp only [Act.put, List.setIfInBounds_toArray, List.set_cons_zero, List.set_cons_succ]) | (refine sch_pass (o := ?_) ?_ ?_ ?_; rotate_left; (· ((conv => lhs; whnf); try exact rfl)); (· rfl); simp only [Act.put, List.setIfInBounds_toArray, List.set_cons_zero, List.set_cons_succ]) | (refine sch_look (o := ?_) (v := .agg ?_) ?_ ?_ ?_ ?_; rotate_left 2; (· ((conv => lhs; whnf); try exact rfl)); (· rfl); (· intro w' hO'; refine run_opLoadS (b := ?_) (cs := ?_) (e := ?_) (f := ?_) hO' ?_ ?_ ?_ ?_; rotate_left 4; (· exact rfl); (· exact inferInstance); (· simp; done); (· simp; done)); simp only [Act.put, List.setIfInBounds_toArray, List.set_cons_zero, List.set_cons_succ])
      (refine sch_look (o := ?_) (v := .agg ([.int .i64 x.e.d.k, .int .i64 x.e.d.n, .string x.e.d.s, .slice x.a x.e.d.l.length x.c] : List Value).toArray) ?_ ?_ ?_ ?_; rotate_left; (· ((conv => lhs; whnf); try exact rfl)); (· rfl); (· intro w' hO'; exact run_opLoadC (ad := ⟨sb, j * 5, none⟩) (cs := [.int .i64 x.e.d.k, .int .i64 x.e.d.n, .string x.e.d.s, .slice x.a x.e.d.l.length x.c]) (fun i v hi => HSC.out _ _ (hO'.as (S ++ [])) i v (pre4 hi)) rfl (by simp) (by simp)); simp only [Act.put, List.setIfInBounds_toArray, List.set_cons_zero, List.set_cons_succ])
      (refine sch_look (o := ?_) (v := .agg #[.int .i64 d.k, .int .i64 d.n, .string d.s, .slice ay d.l.length cy]) ?_ ?_ ?_ ?_; rotate_left; (· ((conv => lhs; whnf); try exact rfl)); (· rfl); (· intro w' hO'; exact run_opLoadS (b := ob) (cs := #[.int .i64 d.k, .int .i64 d.n, .string d.s, .slice ay d.l.length cy]) (e := 30) (f := _) hO' rfl inferInstance (by simp) (by simp)); simp only [Act.put, List.setIfInBounds_toArray, List.set_cons_zero, List.set_cons_succ])
      (refine sch_act (o := ?_) ?_ ?_; rotate_left; (· ((conv => lhs; whnf); try exact rfl)))
      go_wp2_with fail
      refine (refSameD E _ _ (SO ++ (S ++ (pt ob (.cells #[.int .i64 d.k, .int .i64 d.n, .string d.s, .slice ay d.l.length cy] 30 (0, 0)) ++ R))) F x.e.d d x.a ay x.c cy HXO.out HYO.out HXI.out hIy (hO.as (F ++ (SO ++ (S ++ (pt ob (.cells #[.int .i64 d.k, .int .i64 d.n, .string d.s, .slice ay d.l.length cy] 30 (0, 0)) ++ R)))))).mono ?_
      clear hO hF
      rw [HQ.out]
      rintro e w3 ⟨rfl, hO⟩
      replace hO : Own E w3 (SO ++ (S ++ (F ++ (pt ob (.cells #[.int .i64 d.k, .int .i64 d.n, .string d.s, .slice ay d.l.length cy] 30 (0, 0)) ++ R)))) := hO.as _
      have hF := Own.cells hO; simp only [cellsOf_append, cellsOf_pt] at hF
      go_wp2_with fail
      refine ⟨hO.as _, ?_⟩
      refine sch_done ?_
      cases q
      · have hne : x.e.d ≠ d := of_decide_eq_false HQ.out
        have HNE := Lib.hid hne
        clear hne
        go_wp2_with fail
        have hlt := HLT.out
        go_roundw
        case rel =>
          refine ⟨j + 1, so2, co2, SO, by go_num, hlt, ?p1, ?p2, ?p3⟩
          case p2 =>
            rw [HSN.out, if_neg HNE.out, List.append_nil]
            exact hSO
          case p1 => rw [HSN.out, if_neg HNE.out, List.append_nil]
          case p3 => exact hO.as _
        case measure => (clear hw0 hw1; simp [intOf]; omega)
      · have heq : x.e.d = d := of_decide_eq_true HQ.out
        have HEQ := Lib.hid heq
        clear heq
        replace hO : Own E _ (SO ++ (S ++ (F ++ (pt ob (.cells #[.int .i64 d.k, .int .i64 d.n, .string d.s, .slice ay d.l.length cy] 30 (0, 0)) ++ R)))) := hO.as _
        have hF := Own.cells hO; simp only [cellsOf_append, cellsOf_pt] at hF
        have c4 := C4.out _ (hO.as _)
        go_wp2_with (first | (refine at_bs ?_; go_must (refine own_build1 (v := ?_) sltI9 hO ?_ ?_ ?_ ?_ ?_ ?_; rotate_left; (· rfl); (· ((conv => lhs; whnf); try exact rfl)); (· rfl); (· decide); (· decide); clear hO; (try clear hF); intro bs _ hO; (try simp only [Value.cells] at hO); ((try simp only [List.nil_append, List.append_nil] at hO); have hF := Own.cells hO; simp only [cellsOf_append, cellsOf_pt] at hF); simp only [Act.put, List.setIfInBounds_toArray, List.set_cons_zero, List.set_cons_succ])) | (refine at_append ?_; go_must (refine own_append_elem (b1 := ?_) (cs := ?_) (e1 := ?_) (f1 := ?_) sltI9 hO ?_ ?_ ?_ hSO ?_ ?_ ?_ ?_ ?_ ?_ ?_; rotate_left 4; (· rfl); (· rfl); (· rfl); (· exact inferInstance); (· rfl); (· intro u hu; simp at hu; subst hu; rfl); (· first | exact hj64 | exact hj65); (· decide); (· first | exact hj64 | exact hj65); clear hO; (try clear hF); intro so3 co3 SO3 w4 hSO3 hO; ((try simp only [List.nil_append, List.append_nil] at hO); have hF := Own.cells hO; simp only [cellsOf_append, cellsOf_pt] at hF); simp only [Act.put, List.setIfInBounds_toArray, List.set_cons_zero, List.set_cons_succ])))
        have hlt := HLT.out
        go_roundw
        case rel =>
          refine ⟨j + 1, so3, co3, SO3, by go_num, hlt, ?p1, ?p2, ?p3⟩
          case p2 =>
            rw [HSN.out, if_pos HEQ.out, List.length_append]
            unfold tidsV at hSO3 ⊢
            rw [List.map_append]
            exact hSO3
          case p1 => rw [HSN.out, if_pos HEQ.out, List.length_append]; rfl
          case p3 => exact hO.as _
        case measure => (clear hw0 hw1; simp [intOf]; omega)
    · obtain rfl : j = os.length := Nat.le_antisymm hj (Nat.le_of_not_lt hlt)
      have hjj : ¬ (os.length : Int) < os.length := by omega
      clear hj hlt hl
      rw [List.take_length] at hSO ⊢
      go_wp2_with fail
      rw [← HPOST.out]
      exact ⟨so2, co2, SO, rfl, hSO, hO.as _⟩
end Go.Proofs.YticclennllklpaaDoor
