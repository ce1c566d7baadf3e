/- Layer 9: the reference: simple, May. -/
import Derived.Test.YticclennllklpaaDoorK4
import Derived.Test.YticclennllklpaaDoorK2
set_option linter.all false
/- Layer 9: the reference: simple, May. -/
namespace Go.Proofs.YticclennllklpaaDoor
open Go Go.RowKit Go.Own Go.Dt

set_option maxRecDepth 100000 in
set_option maxHeartbeats 16000000 in
theorem refSimple (E w : World) (X : Fr) (x : It) (a : Option Addr) (c : Nat) (hO : Own E w X) :
    Calls Tryd.prog 56 #[.agg #[.int .i64 x.k, .int .i64 x.n, .string x.s, .slice a x.m c]] w fun e w' => e = .returned (.bool x.ok) ∧ Own E w' X := by
  obtain ⟨k, n, s, m⟩ := x
  show Calls Tryd.prog 56 #[.agg #[.int .i64 k, .int .i64 n, .string s, .slice a m c]] w _
  generalize hz : It.ok ⟨k, n, s, m⟩ = z
  unfold It.ok at hz
  simp only at hz
  have hs : s = ByteArray.empty ∨ ((s.toList == []) = false ∧ (s.size == 0) = false) := by
    by_cases h : s.size = 0
    · exact .inl (size0 h)
    · exact .inr ⟨ne_toList h, beq_eq_false_iff_ne.2 h⟩
  by_cases hm : m = 0
  rotate_left
  · rw [beq_eq_false_iff_ne.2 hm, Bool.false_and] at hz
    obtain rfl : false = z := hz
    have hm1 : (0 : Int) < (m : Int) := by omega
    clear hm hs
    go_enter Tryd.func56, Tryd.ntmps56
    go_wp2_with (first | (refine at_box ?_; go_must (refine own_box (v := ?_) hO ?_ ?_ ?_; rotate_left; (· rfl); (· ((conv => lhs; whnf); try exact rfl)); clear hO; (try clear hF); intro ob _ hO; (try simp only [Value.cells] at hO); ((try simp only [List.nil_append, List.append_nil] at hO); have hF := Own.cells hO; simp only [cellsOf_append, cellsOf_pt] at hF); simp only [Act.put, List.setIfInBounds_toArray, List.set_cons_zero, List.set_cons_succ])))
    go_ret
    exact ⟨rfl, hO.as _⟩
  subst hm
  rw [show ((0 : Nat) == 0) = true from rfl, Bool.true_and] at hz
  by_cases k1 : k = 1
  · subst k1
    rcases hs with rfl | ⟨hs, hs2⟩
    · obtain rfl : true = z := hz
      go_enter Tryd.func56, Tryd.ntmps56
      go_wp2_with (first | (refine at_box ?_; go_must (refine own_box (v := ?_) hO ?_ ?_ ?_; rotate_left; (· rfl); (· ((conv => lhs; whnf); try exact rfl)); clear hO; (try clear hF); intro ob _ hO; (try simp only [Value.cells] at hO); ((try simp only [List.nil_append, List.append_nil] at hO); have hF := Own.cells hO; simp only [cellsOf_append, cellsOf_pt] at hF); simp only [Act.put, List.setIfInBounds_toArray, List.set_cons_zero, List.set_cons_succ])))
      go_ret
      exact ⟨rfl, hO.as _⟩
    · have hz2 : false = z := by rw [← hz, hs2]; simp
      subst hz2
      clear hz hs2
      go_enter Tryd.func56, Tryd.ntmps56
      go_wp2_with (first | (refine at_box ?_; go_must (refine own_box (v := ?_) hO ?_ ?_ ?_; rotate_left; (· rfl); (· ((conv => lhs; whnf); try exact rfl)); clear hO; (try clear hF); intro ob _ hO; (try simp only [Value.cells] at hO); ((try simp only [List.nil_append, List.append_nil] at hO); have hF := Own.cells hO; simp only [cellsOf_append, cellsOf_pt] at hF); simp only [Act.put, List.setIfInBounds_toArray, List.set_cons_zero, List.set_cons_succ])))
      go_ret
      exact ⟨rfl, hO.as _⟩
  have k1b : (k == 1) = false := beq_eq_false_iff_ne.2 k1
  rw [k1b, Bool.false_and, Bool.false_or] at hz
  clear hs k1
  by_cases k2 : k = 2
  · subst k2
    by_cases hn : n = 0
    · subst hn
      have hz1 : decide (s.size ≤ 32) = z := hz
      by_cases h32 : s.size ≤ 32
      · rw [decide_eq_true h32] at hz1
        subst hz1
        have h5 : (s.size : Int) ≤ 32 := by omega
        clear hz h32 k1b
        go_enter Tryd.func56, Tryd.ntmps56
        go_wp2_with (first | (refine at_box ?_; go_must (refine own_box (v := ?_) hO ?_ ?_ ?_; rotate_left; (· rfl); (· ((conv => lhs; whnf); try exact rfl)); clear hO; (try clear hF); intro ob _ hO; (try simp only [Value.cells] at hO); ((try simp only [List.nil_append, List.append_nil] at hO); have hF := Own.cells hO; simp only [cellsOf_append, cellsOf_pt] at hF); simp only [Act.put, List.setIfInBounds_toArray, List.set_cons_zero, List.set_cons_succ])))
        go_ret
        exact ⟨rfl, hO.as _⟩
      · rw [decide_eq_false h32] at hz1
        subst hz1
        have h5 : ¬ (s.size : Int) ≤ 32 := by omega
        have h6 : decide ((s.size : Int) ≤ 32) = false := decide_eq_false h5
        clear hz h32 k1b
        go_enter Tryd.func56, Tryd.ntmps56
        go_wp2_with (first | (refine at_box ?_; go_must (refine own_box (v := ?_) hO ?_ ?_ ?_; rotate_left; (· rfl); (· ((conv => lhs; whnf); try exact rfl)); clear hO; (try clear hF); intro ob _ hO; (try simp only [Value.cells] at hO); ((try simp only [List.nil_append, List.append_nil] at hO); have hF := Own.cells hO; simp only [cellsOf_append, cellsOf_pt] at hF); simp only [Act.put, List.setIfInBounds_toArray, List.set_cons_zero, List.set_cons_succ])))
        go_ret
        exact ⟨rfl, hO.as _⟩
    · have hn2 : (n == 0) = false := beq_eq_false_iff_ne.2 hn
      rw [hn2, Bool.and_false, Bool.false_and] at hz
      subst hz
      clear hn k1b
      go_enter Tryd.func56, Tryd.ntmps56
      go_wp2_with (first | (refine at_box ?_; go_must (refine own_box (v := ?_) hO ?_ ?_ ?_; rotate_left; (· rfl); (· ((conv => lhs; whnf); try exact rfl)); clear hO; (try clear hF); intro ob _ hO; (try simp only [Value.cells] at hO); ((try simp only [List.nil_append, List.append_nil] at hO); have hF := Own.cells hO; simp only [cellsOf_append, cellsOf_pt] at hF); simp only [Act.put, List.setIfInBounds_toArray, List.set_cons_zero, List.set_cons_succ])))
      go_ret
      exact ⟨rfl, hO.as _⟩
  have k2b : (k == 2) = false := beq_eq_false_iff_ne.2 k2
  rw [k2b, Bool.false_and, Bool.false_and] at hz
  subst hz
  clear k2
  go_enter Tryd.func56, Tryd.ntmps56
  go_wp2_with (first | (refine at_box ?_; go_must (refine own_box (v := ?_) hO ?_ ?_ ?_; rotate_left; (· rfl); (· ((conv => lhs; whnf); try exact rfl)); clear hO; (try clear hF); intro ob _ hO; (try simp only [Value.cells] at hO); ((try simp only [List.nil_append, List.append_nil] at hO); have hF := Own.cells hO; simp only [cellsOf_append, cellsOf_pt] at hF); simp only [Act.put, List.setIfInBounds_toArray, List.set_cons_zero, List.set_cons_succ])))
  go_ret
  exact ⟨rfl, hO.as _⟩
theorem okd_not3 {d : Dt} (h : d.k ≠ 3) : d.ok = d.hd.ok := by unfold Dt.ok; rw [if_neg h]
set_option maxRecDepth 100000 in
set_option maxHeartbeats 16000000 in
theorem refMay (E w : World) (X R I : Fr) (d : Dt) (sa : Option Addr) (cap : Nat) (hI : ItemsAt E I sa d.l) (hO : Own E w X) [hp : Pick X I R] :
    Calls Tryd.prog 38 #[.agg #[.int .i64 d.k, .int .i64 d.n, .string d.s, .slice sa d.l.length cap]] w fun e w' => e = .returned (.bool d.ok) ∧ Own E w' (I ++ R) := by
  replace hO := hO.perm hp.perm
  clear hp
  by_cases k3 : d.k = 3
  rotate_left
  · have hk : (d.k == 3) = false := beq_eq_false_iff_ne.2 k3
    rw [okd_not3 k3]
    clear k3
    generalize hz : d.hd.ok = z
    go_enter Tryd.func38, Tryd.ntmps38
    go_wp2_with (first | (refine at_box ?_; go_must (refine own_box (v := ?_) hO ?_ ?_ ?_; rotate_left; (· rfl); (· ((conv => lhs; whnf); try exact rfl)); clear hO; (try clear hF); intro ob _ hO; (try simp only [Value.cells] at hO); ((try simp only [List.nil_append, List.append_nil] at hO); have hF := Own.cells hO; simp only [cellsOf_append, cellsOf_pt] at hF); simp only [Act.put, List.setIfInBounds_toArray, List.set_cons_zero, List.set_cons_succ])) | (refine at_load ?_; refine own_loadS (b := ?_) (cs := ?_) (e := ?_) (f := ?_) hO ?_ ?_ ?_ ?_ ?_ ?_; rotate_left 4; (· rfl); (· rfl); (· exact inferInstance); (· simp; done); (· simp [Value.cells]; done); simp only [Act.put, List.setIfInBounds_toArray, List.set_cons_zero, List.set_cons_succ]) | (go_at_call 56; refine (refSimple E _ _ d.hd sa cap hO).mono ?_; rw [hz]; clear hO; (try clear hF); rintro e w2 ⟨rfl, hO⟩))
    go_ret
    exact ⟨rfl, hO.as _⟩
  obtain ⟨k, n, s, l⟩ := d
  obtain rfl : k = 3 := k3
  show Calls Tryd.prog 38 #[.agg #[.int .i64 3, .int .i64 n, .string s, .slice sa l.length cap]] w _
  replace hI : ItemsAt E I sa l := hI
  generalize hz : Dt.ok ⟨3, n, s, l⟩ = z
  unfold Dt.ok at hz
  rw [if_pos rfl] at hz
  simp only at hz
  have hs : s = ByteArray.empty ∨ ((s.toList == []) = false ∧ (s.size == 0) = false) := by
    by_cases h : s.size = 0
    · exact .inl (size0 h)
    · exact .inr ⟨ne_toList h, beq_eq_false_iff_ne.2 h⟩
  by_cases hn : n = 0
  rotate_left
  · have hn2 : (n == 0) = false := beq_eq_false_iff_ne.2 hn
    rw [hn2, Bool.false_and, Bool.false_and, Bool.false_and] at hz
    subst hz
    clear hs
    go_enter Tryd.func38, Tryd.ntmps38
    go_wp2_with (first | (refine at_box ?_; go_must (refine own_box (v := ?_) hO ?_ ?_ ?_; rotate_left; (· rfl); (· ((conv => lhs; whnf); try exact rfl)); clear hO; (try clear hF); intro ob _ hO; (try simp only [Value.cells] at hO); ((try simp only [List.nil_append, List.append_nil] at hO); have hF := Own.cells hO; simp only [cellsOf_append, cellsOf_pt] at hF); simp only [Act.put, List.setIfInBounds_toArray, List.set_cons_zero, List.set_cons_succ])))
    go_ret
    exact ⟨rfl, hO.as _⟩
  subst hn
  rcases hs with rfl | ⟨hs, hs2⟩
  rotate_left
  · have hz2 : false = z := by rw [← hz, hs2]; simp
    subst hz2
    have hs0 : ¬ s.toList = [] := fun e => by rw [e] at hs; cases hs
    clear hz hs2
    go_enter Tryd.func38, Tryd.ntmps38
    go_wp2_with (first | (refine at_box ?_; go_must (refine own_box (v := ?_) hO ?_ ?_ ?_; rotate_left; (· rfl); (· ((conv => lhs; whnf); try exact rfl)); clear hO; (try clear hF); intro ob _ hO; (try simp only [Value.cells] at hO); ((try simp only [List.nil_append, List.append_nil] at hO); have hF := Own.cells hO; simp only [cellsOf_append, cellsOf_pt] at hF); simp only [Act.put, List.setIfInBounds_toArray, List.set_cons_zero, List.set_cons_succ])))
    go_ret
    exact ⟨rfl, hO.as _⟩
  have hz1 : (decide (l.length ≤ 8) && l.all It.ok) = z := hz
  clear hz
  by_cases h8 : l.length ≤ 8
  rotate_left
  · rw [decide_eq_false h8, Bool.false_and] at hz1
    subst hz1
    have h5 : (8 : Int) < (l.length : Int) := by omega
    clear h8
    go_enter Tryd.func38, Tryd.ntmps38
    go_wp2_with (first | (refine at_box ?_; go_must (refine own_box (v := ?_) hO ?_ ?_ ?_; rotate_left; (· rfl); (· ((conv => lhs; whnf); try exact rfl)); clear hO; (try clear hF); intro ob _ hO; (try simp only [Value.cells] at hO); ((try simp only [List.nil_append, List.append_nil] at hO); have hF := Own.cells hO; simp only [cellsOf_append, cellsOf_pt] at hF); simp only [Act.put, List.setIfInBounds_toArray, List.set_cons_zero, List.set_cons_succ])))
    go_ret
    exact ⟨rfl, hO.as _⟩
  rw [decide_eq_true h8, Bool.true_and] at hz1
  have HZ := Lib.hid hz1
  have h5 : ¬ (8 : Int) < (l.length : Int) := by omega
  have h6 : decide ((8 : Int) < (l.length : Int)) = false := decide_eq_false h5
  clear hz1
  go_enter Tryd.func38, Tryd.ntmps38
  go_wp2_with (first | (refine at_box ?_; go_must (refine own_box (v := ?_) hO ?_ ?_ ?_; rotate_left; (· rfl); (· ((conv => lhs; whnf); try exact rfl)); clear hO; (try clear hF); intro ob _ hO; (try simp only [Value.cells] at hO); ((try simp only [List.nil_append, List.append_nil] at hO); have hF := Own.cells hO; simp only [cellsOf_append, cellsOf_pt] at hF); simp only [Act.put, List.setIfInBounds_toArray, List.set_cons_zero, List.set_cons_succ])))
  have hO1 := hO
  clear hO hF h5 h6
  go_loopw [3] (fun s8 wr => ∃ j : Nat, s8 = .int .i64 j ∧ j ≤ l.length ∧ (∀ i (hi : i < l.length), i < j → (l[i]'hi).ok = true) ∧ Own E wr (pt ob (.cells #[.int .i64 3, .int .i64 0, .string ⟨#[]⟩, .slice sa l.length cap] 30 (0, 0)) ++ (I ++ R))) (fun s8 _ => l.length - (intOf s8).toNat)
  case atStart => exact ⟨0, rfl, Nat.zero_le _, fun i hi h => absurd h (Nat.not_lt_zero i), hO1⟩
  case round =>
    clear hO1
    obtain ⟨j, rfl, hj, hbef, hO⟩ := hrel
    have HB := Lib.hid hbef
    clear hbef
    ((try simp only [List.nil_append, List.append_nil] at hO); have hF := Own.cells hO; simp only [cellsOf_append, cellsOf_pt] at hF)
    by_cases hlt : j < l.length
    · have hj1 : (j : Int) < l.length := by omega
      have hj2 : (0 : Int) ≤ j := by omega
      obtain ⟨ad, a, c, rfl, hsc⟩ := items_cells hI (hO.as (I ++ (pt ob (.cells #[.int .i64 3, .int .i64 0, .string ⟨#[]⟩, .slice sa l.length cap] 30 (0, 0)) ++ R))) hlt
      have HSC := Lib.hid hsc
      obtain ⟨x, hx⟩ : ∃ x, l[j]'hlt = x := ⟨_, rfl⟩
      rw [hx] at HSC
      have HX := Lib.hid (show ∀ h : j < l.length, l[j]'h = x from fun _ => hx)
      have HLT := Lib.hid hlt
      clear hx hlt hsc
      obtain ⟨b, hb⟩ : ∃ b, x.ok = b := ⟨_, rfl⟩
      have HBB := Lib.hid hb
      clear hb
      cases b
      all_goals (
        go_wp2_with (first | (refine at_load (t := 30) ?_; go_must (refine own_loadC (ad := ad.add (j * 4)) (cs := [.int .i64 x.k, .int .i64 x.n, .string x.s, .slice a x.m c]) ?_ (HSC.out _ _ (hO.as (I ++ (pt ob (.cells #[.int .i64 3, .int .i64 0, .string ⟨#[]⟩, .slice (some ad) l.length cap] 30 (0, 0)) ++ R)))) ?_ ?_ ?_ ?_; (· rfl); (· ((conv => lhs; whnf); try exact rfl)); (· simp; done); (· simp; done); simp only [Act.put, List.setIfInBounds_toArray, List.set_cons_zero, List.set_cons_succ])) | (go_at_call 56; refine (refSimple E _ _ x a c hO).mono ?_; clear hO hF; rintro e w2 ⟨rfl, hO⟩; rw [HBB.out])))
      · go_ret
        have hlt := HLT.out
        have h1 : l.all It.ok = false := by
          rw [List.all_eq_false]
          exact ⟨x, HX.out hlt ▸ List.getElem_mem hlt, by rw [HBB.out]; decide⟩
        exact ⟨by rw [← HZ.out, h1]; rfl, hO.as _⟩
      · go_roundw
        case rel =>
          refine ⟨j + 1, by go_num, HLT.out, fun i hi h => ?_, hO⟩
          by_cases hij : i = j
          · subst hij
            rw [HX.out hi]
            exact HBB.out
          · exact HB.out i hi (by omega)
        case measure => have := HLT.out; simp [intOf]; omega
    · obtain rfl : j = l.length := Nat.le_antisymm hj (Nat.le_of_not_lt hlt)
      have hjj : ¬ (l.length : Int) < l.length := by omega
      clear hj hlt
      go_wp2_with fail
      go_ret
      have h1 : l.all It.ok = true := by
        rw [List.all_eq_true]
        intro x hx
        obtain ⟨i, hi, rfl⟩ := List.mem_iff_getElem.1 hx
        exact HB.out i hi hi
      exact ⟨by rw [← HZ.out, h1]; rfl, hO.as _⟩
end Go.Proofs.YticclennllklpaaDoor

/- Layer 9: the reference: May of an entry, Takes, Refused. -/
namespace Go.Proofs.YticclennllklpaaDoor
open Go Go.RowKit Go.Own Go.Dt

set_option maxRecDepth 100000 in
set_option maxHeartbeats 16000000 in
theorem refMayE (E w : World) (X R I : Fr) (y : En) (sa : Option Addr) (cap : Nat) (hI : ItemsAt E I sa y.d.l) (hO : Own E w X) [hp : Pick X I R] :
    Calls Tryd.prog 31 #[.agg #[.int .i64 y.d.k, .int .i64 y.d.n, .string y.d.s, .slice sa y.d.l.length cap, .int .i64 y.t]] w fun e w' => e = .returned (.bool (okE y)) ∧ Own E w' (I ++ R) := by
  replace hO := hO.perm hp.perm
  clear hp
  by_cases ht : 0 ≤ y.t ∧ y.t < 16777216
  rotate_left
  · have hb : okE y = false := by
      unfold okE
      by_cases h0 : 0 ≤ y.t
      · rw [decide_eq_false (p := y.t < 16777216) (fun h => ht ⟨h0, h⟩), Bool.and_false]
      · rw [decide_eq_false h0, Bool.and_false, Bool.false_and]
    rw [hb]
    clear hb
    have hcs : (¬ 0 ≤ y.t) ∨ (0 ≤ y.t ∧ ¬ y.t < 16777216) := by omega
    clear ht
    rcases hcs with h1 | ⟨h1, h2⟩
    · go_enter Tryd.func31, Tryd.ntmps31
      go_wp2_with (first | (refine at_box ?_; go_must (refine own_box (v := ?_) hO ?_ ?_ ?_; rotate_left; (· rfl); (· ((conv => lhs; whnf); try exact rfl)); clear hO; (try clear hF); intro ob _ hO; (try simp only [Value.cells] at hO); ((try simp only [List.nil_append, List.append_nil] at hO); have hF := Own.cells hO; simp only [cellsOf_append, cellsOf_pt] at hF); simp only [Act.put, List.setIfInBounds_toArray, List.set_cons_zero, List.set_cons_succ])))
      go_ret
      exact ⟨rfl, hO.as _⟩
    · go_enter Tryd.func31, Tryd.ntmps31
      go_wp2_with (first | (refine at_box ?_; go_must (refine own_box (v := ?_) hO ?_ ?_ ?_; rotate_left; (· rfl); (· ((conv => lhs; whnf); try exact rfl)); clear hO; (try clear hF); intro ob _ hO; (try simp only [Value.cells] at hO); ((try simp only [List.nil_append, List.append_nil] at hO); have hF := Own.cells hO; simp only [cellsOf_append, cellsOf_pt] at hF); simp only [Act.put, List.setIfInBounds_toArray, List.set_cons_zero, List.set_cons_succ])))
      go_ret
      exact ⟨rfl, hO.as _⟩
  obtain ⟨h1, h2⟩ := ht
  have hbo : okE y = y.d.ok := by unfold okE; rw [decide_eq_true h1, decide_eq_true h2, Bool.and_true, Bool.and_true]
  rw [hbo]
  clear hbo
  generalize hz : y.d.ok = z
  go_enter Tryd.func31, Tryd.ntmps31
  go_wp2_with (first | (refine at_box ?_; go_must (refine own_box (v := ?_) hO ?_ ?_ ?_; rotate_left; (· rfl); (· ((conv => lhs; whnf); try exact rfl)); clear hO; (try clear hF); intro ob _ hO; (try simp only [Value.cells] at hO); ((try simp only [List.nil_append, List.append_nil] at hO); have hF := Own.cells hO; simp only [cellsOf_append, cellsOf_pt] at hF); simp only [Act.put, List.setIfInBounds_toArray, List.set_cons_zero, List.set_cons_succ])) | (refine at_load ?_; refine own_loadS (b := ?_) (cs := ?_) (e := ?_) (f := ?_) hO ?_ ?_ ?_ ?_ ?_ ?_; rotate_left 4; (· rfl); (· rfl); (· exact inferInstance); (· simp; done); (· simp [Value.cells]; done); simp only [Act.put, List.setIfInBounds_toArray, List.set_cons_zero, List.set_cons_succ]) | (go_at_call 38; refine (refMay E _ _ _ I y.d sa cap hI hO).mono ?_; rw [hz]; clear hO; (try clear hF); rintro e w2 ⟨rfl, hO⟩))
  go_ret
  exact ⟨rfl, hO.as _⟩
set_option maxRecDepth 100000 in
set_option maxHeartbeats 16000000 in
theorem refTakes (E w : World) (X R S : Fr) (sa : Option Addr) (cap : Nat) (ks : List Int) (k : Int) (hS : Sl 3 1 sa ks.length cap (ks.map (Value.int .i64)) S) (hO : Own E w X) [hp : Pick X S R] :
    Calls Tryd.prog 32 #[.slice sa ks.length cap, .int .i64 k] w fun e w' => e = .returned (.bool (ks.contains k)) ∧ w = w' := by
  replace hO := hO.perm hp.perm
  clear hp
  have hmx : ks.length ≤ 9223372036854775807 := by
    have := Nat.le_trans hS.2.1 hS.2.2.1
    simp only [maxLen] at this
    omega
  generalize hz : ks.contains k = z
  have HZ := Lib.hid hz
  clear hz
  go_enter Tryd.func32, Tryd.ntmps32
  go_wp2_with fail
  have hO1 := hO
  clear hO
  go_loopw [5] (fun s8 wr => ∃ j : Nat, s8 = .int .i64 j ∧ j ≤ ks.length ∧ (∀ i (hi : i < ks.length), i < j → ks[i]'hi ≠ k) ∧ wr = w) (fun s8 _ => ks.length - (intOf s8).toNat)
  case atStart => exact ⟨0, rfl, Nat.zero_le _, fun i hi h => absurd h (Nat.not_lt_zero i), rfl⟩
  case round =>
    obtain ⟨j, rfl, hj, hbef, rfl⟩ := hrel
    have hO := hO1
    have HB := Lib.hid hbef
    clear hbef
    by_cases hlt : j < ks.length
    · have hj1 : (j : Int) < ks.length := by omega
      have hj2 : (0 : Int) ≤ j := by omega
      obtain ⟨sb, rfl⟩ := sl_some9 hS (by omega)
      obtain ⟨x, hx⟩ : ∃ x, ks[j]'hlt = x := ⟨_, rfl⟩
      have c2 : wr.cell? ⟨sb, j, none⟩ = some (.int .i64 x) := by
        have := hS.cell hO ⟨sb, 0, none⟩ rfl j (by rw [List.length_map]; exact hlt)
        rw [add_lit, Nat.zero_add, List.getElem_map, hx] at this
        exact this
      have HX := Lib.hid (show ∀ h : j < ks.length, ks[j]'h = x from fun _ => hx)
      have HLT := Lib.hid hlt
      clear hx hlt
      by_cases hk : x = k
      · subst hk
        go_wp2_with fail
        go_ret
        have hlt := HLT.out
        refine ⟨?_, rfl⟩
        rw [← HZ.out, show ks.contains x = true from List.contains_iff_mem.2 (HX.out hlt ▸ List.getElem_mem hlt)]
        rfl
      · have hk2 : (x == k) = false := beq_eq_false_iff_ne.2 hk
        have HK := Lib.hid hk
        go_wp2_with fail
        have hlt := HLT.out
        go_roundw
        case rel =>
          refine ⟨j + 1, by go_num, hlt, fun i hi h => ?_, by trivial⟩
          by_cases hij : i = j
          · subst hij
            rw [HX.out hi]
            exact HK.out
          · exact HB.out i hi (by omega)
        case measure => simp [intOf]; omega
    · obtain rfl : j = ks.length := Nat.le_antisymm hj (Nat.le_of_not_lt hlt)
      have hjj : ¬ (ks.length : Int) < ks.length := by omega
      clear hj hlt
      go_wp2_with fail
      go_ret
      refine ⟨?_, rfl⟩
      have : ks.contains k = false := by
        rw [← Bool.not_eq_true, List.contains_iff_mem]
        intro hm
        obtain ⟨i, hi, e⟩ := List.mem_iff_getElem.1 hm
        exact HB.out i hi hi e
      rw [← HZ.out, this]
      rfl
def refused (ks : List Int) (y : En) : Int := if okE y = true then (if ks.contains y.d.k = true then 0 else 10) else 1
set_option maxRecDepth 100000 in
set_option maxHeartbeats 16000000 in
theorem refRefused (E w : World) (X R I S : Fr) (ka : Option Addr) (kc : Nat) (ks : List Int) (hS : Sl 3 1 ka ks.length kc (ks.map (Value.int .i64)) S) (y : En) (sa : Option Addr) (cap : Nat) (hI : ItemsAt E I sa y.d.l) (hO : Own E w X) [hp : Pick X (S ++ I) R] :
    Calls Tryd.prog 12 #[.slice ka ks.length kc, .agg #[.int .i64 y.d.k, .int .i64 y.d.n, .string y.d.s, .slice sa y.d.l.length cap, .int .i64 y.t]] w fun e w' => e = .returned (.int .i64 (refused ks y)) ∧ Own E w' (S ++ (I ++ R)) := by
  replace hO : Own E w (S ++ (I ++ R)) := by have := hO.perm hp.perm; rwa [List.append_assoc] at this
  clear hp
  generalize hz : refused ks y = z
  unfold refused at hz
  have HZ := Lib.hid hz
  clear hz
  generalize hb : okE y = b at HZ
  generalize ht : ks.contains y.d.k = tt at HZ
  go_enter Tryd.func12, Tryd.ntmps12
  cases b
  · go_wp2_with (first | (refine at_box ?_; go_must (refine own_box (v := ?_) hO ?_ ?_ ?_; rotate_left; (· rfl); (· ((conv => lhs; whnf); try exact rfl)); clear hO; (try clear hF); intro ob _ hO; (try simp only [Value.cells] at hO); ((try simp only [List.nil_append, List.append_nil] at hO); have hF := Own.cells hO; simp only [cellsOf_append, cellsOf_pt] at hF); simp only [Act.put, List.setIfInBounds_toArray, List.set_cons_zero, List.set_cons_succ])) | (refine at_load ?_; refine own_loadS (b := ?_) (cs := ?_) (e := ?_) (f := ?_) hO ?_ ?_ ?_ ?_ ?_ ?_; rotate_left 4; (· rfl); (· rfl); (· exact inferInstance); (· simp; done); (· simp [Value.cells]; done); simp only [Act.put, List.setIfInBounds_toArray, List.set_cons_zero, List.set_cons_succ]) | (go_at_call 31; refine (refMayE E _ _ _ I y sa cap hI (hO.as (I ++ (pt ob (.cells #[.int .i64 y.d.k, .int .i64 y.d.n, .string y.d.s, .slice sa y.d.l.length cap, .int .i64 y.t] 32 (0, 0)) ++ (S ++ R))))).mono ?_; rw [hb]; clear hO; (try clear hF); rintro e w2 ⟨rfl, hO⟩; ((try simp only [List.nil_append, List.append_nil] at hO); have hF := Own.cells hO; simp only [cellsOf_append, cellsOf_pt] at hF)))
    go_ret
    exact ⟨by rw [← HZ.out]; rfl, hO.as _⟩
  · cases tt
    · go_wp2_with (first | (refine at_box ?_; go_must (refine own_box (v := ?_) hO ?_ ?_ ?_; rotate_left; (· rfl); (· ((conv => lhs; whnf); try exact rfl)); clear hO; (try clear hF); intro ob _ hO; (try simp only [Value.cells] at hO); ((try simp only [List.nil_append, List.append_nil] at hO); have hF := Own.cells hO; simp only [cellsOf_append, cellsOf_pt] at hF); simp only [Act.put, List.setIfInBounds_toArray, List.set_cons_zero, List.set_cons_succ])) | (refine at_load ?_; refine own_loadS (b := ?_) (cs := ?_) (e := ?_) (f := ?_) hO ?_ ?_ ?_ ?_ ?_ ?_; rotate_left 4; (· rfl); (· rfl); (· exact inferInstance); (· simp; done); (· simp [Value.cells]; done); simp only [Act.put, List.setIfInBounds_toArray, List.set_cons_zero, List.set_cons_succ]) | (go_at_call 31; refine (refMayE E _ _ _ I y sa cap hI (hO.as (I ++ (pt ob (.cells #[.int .i64 y.d.k, .int .i64 y.d.n, .string y.d.s, .slice sa y.d.l.length cap, .int .i64 y.t] 32 (0, 0)) ++ (S ++ R))))).mono ?_; rw [hb]; clear hO; (try clear hF); rintro e w2 ⟨rfl, hO⟩; ((try simp only [List.nil_append, List.append_nil] at hO); have hF := Own.cells hO; simp only [cellsOf_append, cellsOf_pt] at hF)) | (go_at_call 32; refine (refTakes E _ _ _ S ka kc ks y.d.k hS hO).mono ?_; rw [ht]; rintro e w2 ⟨rfl, rfl⟩))
      go_ret
      exact ⟨by rw [← HZ.out]; rfl, hO.as _⟩
    · go_wp2_with (first | (refine at_box ?_; go_must (refine own_box (v := ?_) hO ?_ ?_ ?_; rotate_left; (· rfl); (· ((conv => lhs; whnf); try exact rfl)); clear hO; (try clear hF); intro ob _ hO; (try simp only [Value.cells] at hO); ((try simp only [List.nil_append, List.append_nil] at hO); have hF := Own.cells hO; simp only [cellsOf_append, cellsOf_pt] at hF); simp only [Act.put, List.setIfInBounds_toArray, List.set_cons_zero, List.set_cons_succ])) | (refine at_load ?_; refine own_loadS (b := ?_) (cs := ?_) (e := ?_) (f := ?_) hO ?_ ?_ ?_ ?_ ?_ ?_; rotate_left 4; (· rfl); (· rfl); (· exact inferInstance); (· simp; done); (· simp [Value.cells]; done); simp only [Act.put, List.setIfInBounds_toArray, List.set_cons_zero, List.set_cons_succ]) | (go_at_call 31; refine (refMayE E _ _ _ I y sa cap hI (hO.as (I ++ (pt ob (.cells #[.int .i64 y.d.k, .int .i64 y.d.n, .string y.d.s, .slice sa y.d.l.length cap, .int .i64 y.t] 32 (0, 0)) ++ (S ++ R))))).mono ?_; rw [hb]; clear hO; (try clear hF); rintro e w2 ⟨rfl, hO⟩; ((try simp only [List.nil_append, List.append_nil] at hO); have hF := Own.cells hO; simp only [cellsOf_append, cellsOf_pt] at hF)) | (go_at_call 32; refine (refTakes E _ _ _ S ka kc ks y.d.k hS hO).mono ?_; rw [ht]; rintro e w2 ⟨rfl, rfl⟩))
      go_ret
      exact ⟨by rw [← HZ.out]; rfl, hO.as _⟩
end Go.Proofs.YticclennllklpaaDoor

/- Layer 9: the reference: Same. -/
namespace Go.Proofs.YticclennllklpaaDoor
open Go Go.RowKit Go.Own Go.Dt

theorem w64_1 (j : Nat) (h : j < 1000000000000000) : wrap64 ((j : Int) + 1) = (j : Int) + 1 := by unfold wrap64; omega
theorem wi_1 (j : Nat) (h : j < 1000000000000000) : IntKind.i64.wrap ((j : Int) + 1) = (j : Int) + 1 := by
  have e : (2 : Int) ^ 64 = 18446744073709551616 := by decide
  simp only [IntKind.wrap]
  first | omega | (unfold wrap64; omega) | (simp [IntKind.bits, IntKind.signed]; omega)
theorem bs_ne {a b : ByteArray} (h : a ≠ b) : ¬ a.toList = b.toList := by
  intro e
  rw [Lib.toList_data, Lib.toList_data] at e
  exact h (toList_inj e)
theorem dt_l8 {d : Dt} (h : d.ok = true) : d.l.length ≤ 8 := by
  by_cases k3 : d.k = 3
  · exact (Dt.ok_list k3 h).2.2.1
  · have h9 : d.l.length = 0 := (It.ok_or (Dt.ok_one k3 h)).1
    omega
set_option maxRecDepth 100000 in
set_option maxHeartbeats 16000000 in
theorem refSameD (E w : World) (X R I : Fr) (a b : Dt) (sa sb : Option Addr) (ca cb : Nat) (ha : a.ok = true) (hb : b.ok = true) (hIa : ItemsAt E I sa a.l) (hIb : ItemsAt E I sb b.l) (hO : Own E w X) [hp : Pick X I R] :
    Calls Tryd.prog 39 #[.agg #[.int .i64 a.k, .int .i64 a.n, .string a.s, .slice sa a.l.length ca], .agg #[.int .i64 b.k, .int .i64 b.n, .string b.s, .slice sb b.l.length cb]] w fun e w' => e = .returned (.bool (decide (a = b))) ∧ Own E w' (I ++ R) := by
  replace hO := hO.perm hp.perm
  clear hp
  have ha0 := Lib.hid (Dt.items0 ha)
  have hb0 := Lib.hid (Dt.items0 hb)
  have HL8 := Lib.hid (dt_l8 ha)
  clear ha hb
  generalize hz : decide (a = b) = z
  have HZ := Lib.hid hz
  clear hz
  obtain ⟨ak, an, as', al⟩ := a
  obtain ⟨bk, bn, bs', bl⟩ := b
  replace hIa : ItemsAt E I sa al := hIa
  replace HL8 : Hid (al.length ≤ 8) := HL8
  replace hIb : ItemsAt E I sb bl := hIb
  show Calls Tryd.prog 39 #[.agg #[.int .i64 ak, .int .i64 an, .string as', .slice sa al.length ca], .agg #[.int .i64 bk, .int .i64 bn, .string bs', .slice sb bl.length cb]] w _
  by_cases hk : ak = bk
  rotate_left
  · obtain rfl : false = z := by rw [← HZ.out, decide_eq_false]; intro e; cases e; exact hk rfl
    clear HZ ha0 hb0
    go_enter Tryd.func39, Tryd.ntmps39
    go_wp2_with (first | (refine at_box ?_; go_must (refine own_box (v := ?_) hO ?_ ?_ ?_; rotate_left; (· rfl); (· ((conv => lhs; whnf); try exact rfl)); clear hO; (try clear hF); intro _ _ hO; (try simp only [Value.cells] at hO); ((try simp only [List.nil_append, List.append_nil] at hO); have hF := Own.cells hO; simp only [cellsOf_append, cellsOf_pt] at hF); simp only [Act.put, List.setIfInBounds_toArray, List.set_cons_zero, List.set_cons_succ])))
    go_ret
    exact ⟨rfl, hO.as _⟩
  subst hk
  by_cases hn : an = bn
  rotate_left
  · obtain rfl : false = z := by rw [← HZ.out, decide_eq_false]; intro e; cases e; exact hn rfl
    clear HZ ha0 hb0
    go_enter Tryd.func39, Tryd.ntmps39
    go_wp2_with (first | (refine at_box ?_; go_must (refine own_box (v := ?_) hO ?_ ?_ ?_; rotate_left; (· rfl); (· ((conv => lhs; whnf); try exact rfl)); clear hO; (try clear hF); intro _ _ hO; (try simp only [Value.cells] at hO); ((try simp only [List.nil_append, List.append_nil] at hO); have hF := Own.cells hO; simp only [cellsOf_append, cellsOf_pt] at hF); simp only [Act.put, List.setIfInBounds_toArray, List.set_cons_zero, List.set_cons_succ])))
    go_ret
    exact ⟨rfl, hO.as _⟩
  subst hn
  by_cases hs : as' = bs'
  rotate_left
  · obtain rfl : false = z := by rw [← HZ.out, decide_eq_false]; intro e; cases e; exact hs rfl
    have hs2 := bs_ne hs
    have hs3 : (as'.toList == bs'.toList) = false := beq_eq_false_iff_ne.2 hs2
    clear HZ ha0 hb0 hs
    go_enter Tryd.func39, Tryd.ntmps39
    go_wp2_with (first | (refine at_box ?_; go_must (refine own_box (v := ?_) hO ?_ ?_ ?_; rotate_left; (· rfl); (· ((conv => lhs; whnf); try exact rfl)); clear hO; (try clear hF); intro _ _ hO; (try simp only [Value.cells] at hO); ((try simp only [List.nil_append, List.append_nil] at hO); have hF := Own.cells hO; simp only [cellsOf_append, cellsOf_pt] at hF); simp only [Act.put, List.setIfInBounds_toArray, List.set_cons_zero, List.set_cons_succ])))
    go_ret
    exact ⟨rfl, hO.as _⟩
  subst hs
  by_cases hl : al.length = bl.length
  rotate_left
  · obtain rfl : false = z := by rw [← HZ.out, decide_eq_false]; intro e; cases e; exact hl rfl
    have hl2 : ¬ (al.length : Int) = bl.length := by omega
    clear HZ ha0 hb0
    go_enter Tryd.func39, Tryd.ntmps39
    go_wp2_with (first | (refine at_box ?_; go_must (refine own_box (v := ?_) hO ?_ ?_ ?_; rotate_left; (· rfl); (· ((conv => lhs; whnf); try exact rfl)); clear hO; (try clear hF); intro _ _ hO; (try simp only [Value.cells] at hO); ((try simp only [List.nil_append, List.append_nil] at hO); have hF := Own.cells hO; simp only [cellsOf_append, cellsOf_pt] at hF); simp only [Act.put, List.setIfInBounds_toArray, List.set_cons_zero, List.set_cons_succ])))
    go_ret
    exact ⟨rfl, hO.as _⟩
  have hz2 : z = decide (al = bl) := by
    rw [← HZ.out]
    by_cases e : al = bl
    · rw [e, decide_eq_true rfl, decide_eq_true rfl]
    · rw [decide_eq_false e, decide_eq_false]; intro e2; cases e2; exact e rfl
  clear HZ
  rw [← hl]
  have HLEN := Lib.hid hl
  have HZ := Lib.hid hz2
  clear hz2 hl
  go_enter Tryd.func39, Tryd.ntmps39
  go_wp2_with (first | ((have hzz : ab = ab := rfl); clear hzz; (refine at_box ?_; go_must (refine own_box (v := ?_) hO ?_ ?_ ?_; rotate_left; (· rfl); (· ((conv => lhs; whnf); try exact rfl)); clear hO; (try clear hF); intro bb _ hO; (try simp only [Value.cells] at hO); ((try simp only [List.nil_append, List.append_nil] at hO); have hF := Own.cells hO; simp only [cellsOf_append, cellsOf_pt] at hF); simp only [Act.put, List.setIfInBounds_toArray, List.set_cons_zero, List.set_cons_succ]))) | (refine at_box ?_; go_must (refine own_box (v := ?_) hO ?_ ?_ ?_; rotate_left; (· rfl); (· ((conv => lhs; whnf); try exact rfl)); clear hO; (try clear hF); intro ab _ hO; (try simp only [Value.cells] at hO); ((try simp only [List.nil_append, List.append_nil] at hO); have hF := Own.cells hO; simp only [cellsOf_append, cellsOf_pt] at hF); simp only [Act.put, List.setIfInBounds_toArray, List.set_cons_zero, List.set_cons_succ])))
  replace hO : Own E _ (pt bb (.cells #[.int .i64 ak, .int .i64 an, .string as', .slice sb al.length cb] 30 (0, 0)) ++ (pt ab (.cells #[.int .i64 ak, .int .i64 an, .string as', .slice sa al.length ca] 30 (0, 0)) ++ (I ++ R))) := hO.as _
  have hO1 := hO
  clear hO hF
  go_loopw [5] (fun i wr => ∃ (j : Nat), i = .int .i64 (j : Int) ∧ j ≤ al.length ∧ (∀ i (h1 : i < al.length) (h2 : i < bl.length), i < j → al[i]'h1 = bl[i]'h2) ∧ Own E wr (pt bb (.cells #[.int .i64 ak, .int .i64 an, .string as', .slice sb al.length cb] 30 (0, 0)) ++ (pt ab (.cells #[.int .i64 ak, .int .i64 an, .string as', .slice sa al.length ca] 30 (0, 0)) ++ (I ++ R)))) (fun i _ => al.length - (intOf i).toNat)
  case atStart => exact ⟨0, rfl, Nat.zero_le _, fun _ _ _ h => absurd h (Nat.not_lt_zero _), hO1⟩
  case round =>
    clear hO1
    obtain ⟨j, rfl, hj, hbef, hO⟩ := hrel
    have HB := Lib.hid hbef
    clear hbef
    have hF := Own.cells hO; simp only [cellsOf_append, cellsOf_pt] at hF
    by_cases hlt : j < al.length
    · have hj1 : (j : Int) < al.length := by omega
      have hltb : j < bl.length := by rw [← HLEN.out]; exact hlt
      obtain ⟨ad1, a1, c1, hs1, hX1⟩ := items_cells hIa (hO.as (I ++ (pt bb (.cells #[.int .i64 ak, .int .i64 an, .string as', .slice sb al.length cb] 30 (0, 0)) ++ pt ab (.cells #[.int .i64 ak, .int .i64 an, .string as', .slice sa al.length ca] 30 (0, 0))))) hlt
      obtain ⟨ad2, a2, c2, hs2, hY1⟩ := items_cells hIb (hO.as (I ++ (pt bb (.cells #[.int .i64 ak, .int .i64 an, .string as', .slice sb al.length cb] 30 (0, 0)) ++ pt ab (.cells #[.int .i64 ak, .int .i64 an, .string as', .slice sa al.length ca] 30 (0, 0))))) hltb
      subst hs1
      subst hs2
      obtain ⟨x, hx⟩ : ∃ x, al[j]'hlt = x := ⟨_, rfl⟩
      obtain ⟨y, hy⟩ : ∃ y, bl[j]'hltb = y := ⟨_, rfl⟩
      have hx0 : x.m = 0 := ha0.out x (hx ▸ List.getElem_mem hlt)
      have hy0 : y.m = 0 := hb0.out y (hy ▸ List.getElem_mem hltb)
      rw [hx] at hX1
      rw [hy] at hY1
      have hno : x ≠ y → false = z := fun h => by
        rw [HZ.out]
        symm
        apply decide_eq_false
        intro e
        subst e
        exact h (hx.symm.trans hy)
      have hnx : x = y → ∀ i (h1 : i < al.length) (h2 : i < bl.length), i < j + 1 → al[i]'h1 = bl[i]'h2 := fun h i h1 h2 hi => by
        by_cases hij : i = j
        · subst hij
          rw [hx, hy, h]
        · exact HB.out i h1 h2 (by omega)
      have HNO := Lib.hid hno
      have HNX := Lib.hid hnx
      have HLT := Lib.hid hlt
      clear hno hnx hlt hltb hx hy hj
      obtain ⟨xk, xn, xs, xm⟩ := x
      obtain ⟨yk, yn, ys, ym⟩ := y
      obtain rfl : xm = 0 := hx0
      obtain rfl : ym = 0 := hy0
      have HX1 : Hid (∀ (Y : Fr) (w : World), Own E w (I ++ Y) → ∀ i u, ([.int .i64 xk, .int .i64 xn, .string xs, .slice a1 0 c1] : List Value)[i]? = some u → w.cell? ((ad1.add (j * 4)).add i) = some u) := Lib.hid hX1
      have HY1 : Hid (∀ (Y : Fr) (w : World), Own E w (I ++ Y) → ∀ i u, ([.int .i64 yk, .int .i64 yn, .string ys, .slice a2 0 c2] : List Value)[i]? = some u → w.cell? ((ad2.add (j * 4)).add i) = some u) := Lib.hid hY1
      clear hX1 hY1
      have hc : (xk ≠ yk) ∨ (xk = yk ∧ xn ≠ yn) ∨ (xk = yk ∧ xn = yn ∧ xs ≠ ys) ∨ (xk = yk ∧ xn = yn ∧ xs = ys) := by
        by_cases h1 : xk = yk <;> by_cases h2 : xn = yn <;> by_cases h3 : xs = ys <;> simp [h1, h2, h3]
      have HC := Lib.hid hc
      clear hc
      have g2 : (0 : Int) ≤ (j : Int) := by omega
      have hw0 : IntKind.i64.wrap ((j : Int) + 1) = (j : Int) + 1 := wi_1 j (by have := HL8.out; have := HLT.out; omega)
      have hw1 : wrap64 ((j : Int) + 1) = (j : Int) + 1 := w64_1 j (by have := HL8.out; have := HLT.out; omega)
      have hjb : (j : Int) < bl.length := by have := HLEN.out; omega
      go_wp2_with fail
      (try (go_wp2_with fail))
      refine region_sch (fun w' => Own E w' (pt bb (.cells #[.int .i64 ak, .int .i64 an, .string as', .slice (some ad2) al.length cb] 30 (0, 0)) ++ (pt ab (.cells #[.int .i64 ak, .int .i64 an, .string as', .slice (some ad1) al.length ca] 30 (0, 0)) ++ I))) (.look 0 (.look 1 (.look 2 (.look 3 (.look 4 (.look 5 (.look 6 (.look 7 (.look 8 (.look 9 (.two 10 (.act 11 (.act 12 (.act 13 .done))) 11 (.act 10 (.act 12 (.act 13 .done)))))))))))))) (by kernel_rfl) (by kernel_rfl) (fun _ _ d _ _ h => by cases d <;> exact h) ?_ ?_
      · exact hO.drew.as _
      replace hO := hO.drew
      generalize World.drew _ = wdr at hO ⊢
      first | (refine sch_look (o := ?_) (v := ?_) ?_ ?_ ?_ ?_; rotate_left 2; (· ((conv => lhs; whnf); try exact rfl)); (· rfl); (· intro w' hO'; have hF' := Own.cells (hO'.as (pt bb (.cells #[.int .i64 ak, .int .i64 an, .string as', .slice (some ad2) al.length cb] 30 (0, 0)) ++ pt ab (.cells #[.int .i64 ak, .int .i64 an, .string as', .slice (some ad1) al.length ca] 30 (0, 0)))); simp only [cellsOf_append, cellsOf_pt] at hF'; go_simp; (try exact rfl)); simp only [Act.put, List.setIfInBounds_toArray, List.set_cons_zero, List.set_cons_succ]) | (refine sch_pass (o := ?_) ?_ ?_ ?_; rotate_left; (· ((conv => lhs; whnf); try exact rfl)); (· rfl); simp only [Act.put, List.setIfInBounds_toArray, List.set_cons_zero, List.set_cons_succ]) | (refine sch_look (o := ?_) (v := .agg ?_) ?_ ?_ ?_ ?_; rotate_left 2; (· ((conv => lhs; whnf); try exact rfl)); (· rfl); (· intro w' hO'; refine run_opLoadS (b := ?_) (cs := ?_) (e := ?_) (f := ?_) hO' ?_ ?_ ?_ ?_; rotate_left 4; (· exact rfl); (· exact inferInstance); (· simp; done); (· simp; done)); simp only [Act.put, List.setIfInBounds_toArray, List.set_cons_zero, List.set_cons_succ])
      first | (refine sch_look (o := ?_) (v := ?_) ?_ ?_ ?_ ?_; rotate_left 2; (· ((conv => lhs; whnf); try exact rfl)); (· rfl); (· intro w' hO'; have hF' := Own.cells (hO'.as (pt bb (.cells #[.int .i64 ak, .int .i64 an, .string as', .slice (some ad2) al.length cb] 30 (0, 0)) ++ pt ab (.cells #[.int .i64 ak, .int .i64 an, .string as', .slice (some ad1) al.length ca] 30 (0, 0)))); simp only [cellsOf_append, cellsOf_pt] at hF'; go_simp; (try exact rfl)); simp only [Act.put, List.setIfInBounds_toArray, List.set_cons_zero, List.set_cons_succ]) | (refine sch_pass (o := ?_) ?_ ?_ ?_; rotate_left; (· ((conv => lhs; whnf); try exact rfl)); (· rfl); simp only [Act.put, List.setIfInBounds_toArray, List.set_cons_zero, List.set_cons_succ]) | (refine sch_look (o := ?_) (v := .agg ?_) ?_ ?_ ?_ ?_; rotate_left 2; (· ((conv => lhs; whnf); try exact rfl)); (· rfl); (· intro w' hO'; refine run_opLoadS (b := ?_) (cs := ?_) (e := ?_) (f := ?_) hO' ?_ ?_ ?_ ?_; rotate_left 4; (· exact rfl); (· exact inferInstance); (· simp; done); (· simp; done)); simp only [Act.put, List.setIfInBounds_toArray, List.set_cons_zero, List.set_cons_succ])
      first | (refine sch_look (o := ?_) (v := ?_) ?_ ?_ ?_ ?_; rotate_left 2; (· ((conv => lhs; whnf); try exact rfl)); (· rfl); (· intro w' hO'; have hF' := Own.cells (hO'.as (pt bb (.cells #[.int .i64 ak, .int .i64 an, .string as', .slice (some ad2) al.length cb] 30 (0, 0)) ++ pt ab (.cells #[.int .i64 ak, .int .i64 an, .string as', .slice (some ad1) al.length ca] 30 (0, 0)))); simp only [cellsOf_append, cellsOf_pt] at hF'; go_simp; (try exact rfl)); simp only [Act.put, List.setIfInBounds_toArray, List.set_cons_zero, List.set_cons_succ]) | (refine sch_pass (o := ?_) ?_ ?_ ?_; rotate_left; (· ((conv => lhs; whnf); try exact rfl)); (· rfl); simp only [Act.put, List.setIfInBounds_toArray, List.set_cons_zero, List.set_cons_succ]) | (refine sch_look (o := ?_) (v := .agg ?_) ?_ ?_ ?_ ?_; rotate_left 2; (· ((conv => lhs; whnf); try exact rfl)); (· rfl); (· intro w' hO'; refine run_opLoadS (b := ?_) (cs := ?_) (e := ?_) (f := ?_) hO' ?_ ?_ ?_ ?_; rotate_left 4; (· exact rfl); (· exact inferInstance); (· simp; done); (· simp; done)); simp only [Act.put, List.setIfInBounds_toArray, List.set_cons_zero, List.set_cons_succ])
      first | (refine sch_look (o := ?_) (v := ?_) ?_ ?_ ?_ ?_; rotate_left 2; (· ((conv => lhs; whnf); try exact rfl)); (· rfl); (· intro w' hO'; have hF' := Own.cells (hO'.as (pt bb (.cells #[.int .i64 ak, .int .i64 an, .string as', .slice (some ad2) al.length cb] 30 (0, 0)) ++ pt ab (.cells #[.int .i64 ak, .int .i64 an, .string as', .slice (some ad1) al.length ca] 30 (0, 0)))); simp only [cellsOf_append, cellsOf_pt] at hF'; go_simp; (try exact rfl)); simp only [Act.put, List.setIfInBounds_toArray, List.set_cons_zero, List.set_cons_succ]) | (refine sch_pass (o := ?_) ?_ ?_ ?_; rotate_left; (· ((conv => lhs; whnf); try exact rfl)); (· rfl); simp only [Act.put, List.setIfInBounds_toArray, List.set_cons_zero, List.set_cons_succ]) | (refine sch_look (o := ?_) (v := .agg ?_) ?_ ?_ ?_ ?_; rotate_left 2; (· ((conv => lhs; whnf); try exact rfl)); (· rfl); (· intro w' hO'; refine run_opLoadS (b := ?_) (cs := ?_) (e := ?_) (f := ?_) hO' ?_ ?_ ?_ ?_; rotate_left 4; (· exact rfl); (· exact inferInstance); (· simp; done); (· simp; done)); simp only [Act.put, List.setIfInBounds_toArray, List.set_cons_zero, List.set_cons_succ])
      (refine sch_look (o := ?_) (v := .agg ([.int .i64 xk, .int .i64 xn, .string xs, .slice a1 0 c1] : List Value).toArray) ?_ ?_ ?_ ?_; rotate_left; (· ((conv => lhs; whnf); try exact rfl)); (· rfl); (· intro w' hO'; exact run_opLoadC (ad := ad1.add (j * 4)) (cs := [.int .i64 xk, .int .i64 xn, .string xs, .slice a1 0 c1]) (HX1.out _ _ (hO'.as (I ++ (pt bb (.cells #[.int .i64 ak, .int .i64 an, .string as', .slice (some ad2) al.length cb] 30 (0, 0)) ++ pt ab (.cells #[.int .i64 ak, .int .i64 an, .string as', .slice (some ad1) al.length ca] 30 (0, 0)))))) rfl (by simp) (by simp)); simp only [Act.put, List.setIfInBounds_toArray, List.set_cons_zero, List.set_cons_succ])
      first | (refine sch_look (o := ?_) (v := ?_) ?_ ?_ ?_ ?_; rotate_left 2; (· ((conv => lhs; whnf); try exact rfl)); (· rfl); (· intro w' hO'; have hF' := Own.cells (hO'.as (pt bb (.cells #[.int .i64 ak, .int .i64 an, .string as', .slice (some ad2) al.length cb] 30 (0, 0)) ++ pt ab (.cells #[.int .i64 ak, .int .i64 an, .string as', .slice (some ad1) al.length ca] 30 (0, 0)))); simp only [cellsOf_append, cellsOf_pt] at hF'; go_simp; (try exact rfl)); simp only [Act.put, List.setIfInBounds_toArray, List.set_cons_zero, List.set_cons_succ]) | (refine sch_pass (o := ?_) ?_ ?_ ?_; rotate_left; (· ((conv => lhs; whnf); try exact rfl)); (· rfl); simp only [Act.put, List.setIfInBounds_toArray, List.set_cons_zero, List.set_cons_succ]) | (refine sch_look (o := ?_) (v := .agg ?_) ?_ ?_ ?_ ?_; rotate_left 2; (· ((conv => lhs; whnf); try exact rfl)); (· rfl); (· intro w' hO'; refine run_opLoadS (b := ?_) (cs := ?_) (e := ?_) (f := ?_) hO' ?_ ?_ ?_ ?_; rotate_left 4; (· exact rfl); (· exact inferInstance); (· simp; done); (· simp; done)); simp only [Act.put, List.setIfInBounds_toArray, List.set_cons_zero, List.set_cons_succ])
      first | (refine sch_look (o := ?_) (v := ?_) ?_ ?_ ?_ ?_; rotate_left 2; (· ((conv => lhs; whnf); try exact rfl)); (· rfl); (· intro w' hO'; have hF' := Own.cells (hO'.as (pt bb (.cells #[.int .i64 ak, .int .i64 an, .string as', .slice (some ad2) al.length cb] 30 (0, 0)) ++ pt ab (.cells #[.int .i64 ak, .int .i64 an, .string as', .slice (some ad1) al.length ca] 30 (0, 0)))); simp only [cellsOf_append, cellsOf_pt] at hF'; go_simp; (try exact rfl)); simp only [Act.put, List.setIfInBounds_toArray, List.set_cons_zero, List.set_cons_succ]) | (refine sch_pass (o := ?_) ?_ ?_ ?_; rotate_left; (· ((conv => lhs; whnf); try exact rfl)); (· rfl); simp only [Act.put, List.setIfInBounds_toArray, List.set_cons_zero, List.set_cons_succ]) | (refine sch_look (o := ?_) (v := .agg ?_) ?_ ?_ ?_ ?_; rotate_left 2; (· ((conv => lhs; whnf); try exact rfl)); (· rfl); (· intro w' hO'; refine run_opLoadS (b := ?_) (cs := ?_) (e := ?_) (f := ?_) hO' ?_ ?_ ?_ ?_; rotate_left 4; (· exact rfl); (· exact inferInstance); (· simp; done); (· simp; done)); simp only [Act.put, List.setIfInBounds_toArray, List.set_cons_zero, List.set_cons_succ])
      first | (refine sch_look (o := ?_) (v := ?_) ?_ ?_ ?_ ?_; rotate_left 2; (· ((conv => lhs; whnf); try exact rfl)); (· rfl); (· intro w' hO'; have hF' := Own.cells (hO'.as (pt bb (.cells #[.int .i64 ak, .int .i64 an, .string as', .slice (some ad2) al.length cb] 30 (0, 0)) ++ pt ab (.cells #[.int .i64 ak, .int .i64 an, .string as', .slice (some ad1) al.length ca] 30 (0, 0)))); simp only [cellsOf_append, cellsOf_pt] at hF'; go_simp; (try exact rfl)); simp only [Act.put, List.setIfInBounds_toArray, List.set_cons_zero, List.set_cons_succ]) | (refine sch_pass (o := ?_) ?_ ?_ ?_; rotate_left; (· ((conv => lhs; whnf); try exact rfl)); (· rfl); simp only [Act.put, List.setIfInBounds_toArray, List.set_cons_zero, List.set_cons_succ]) | (refine sch_look (o := ?_) (v := .agg ?_) ?_ ?_ ?_ ?_; rotate_left 2; (· ((conv => lhs; whnf); try exact rfl)); (· rfl); (· intro w' hO'; refine run_opLoadS (b := ?_) (cs := ?_) (e := ?_) (f := ?_) hO' ?_ ?_ ?_ ?_; rotate_left 4; (· exact rfl); (· exact inferInstance); (· simp; done); (· simp; done)); simp only [Act.put, List.setIfInBounds_toArray, List.set_cons_zero, List.set_cons_succ])
      first | (refine sch_look (o := ?_) (v := ?_) ?_ ?_ ?_ ?_; rotate_left 2; (· ((conv => lhs; whnf); try exact rfl)); (· rfl); (· intro w' hO'; have hF' := Own.cells (hO'.as (pt bb (.cells #[.int .i64 ak, .int .i64 an, .string as', .slice (some ad2) al.length cb] 30 (0, 0)) ++ pt ab (.cells #[.int .i64 ak, .int .i64 an, .string as', .slice (some ad1) al.length ca] 30 (0, 0)))); simp only [cellsOf_append, cellsOf_pt] at hF'; go_simp; (try exact rfl)); simp only [Act.put, List.setIfInBounds_toArray, List.set_cons_zero, List.set_cons_succ]) | (refine sch_pass (o := ?_) ?_ ?_ ?_; rotate_left; (· ((conv => lhs; whnf); try exact rfl)); (· rfl); simp only [Act.put, List.setIfInBounds_toArray, List.set_cons_zero, List.set_cons_succ]) | (refine sch_look (o := ?_) (v := .agg ?_) ?_ ?_ ?_ ?_; rotate_left 2; (· ((conv => lhs; whnf); try exact rfl)); (· rfl); (· intro w' hO'; refine run_opLoadS (b := ?_) (cs := ?_) (e := ?_) (f := ?_) hO' ?_ ?_ ?_ ?_; rotate_left 4; (· exact rfl); (· exact inferInstance); (· simp; done); (· simp; done)); simp only [Act.put, List.setIfInBounds_toArray, List.set_cons_zero, List.set_cons_succ])
      (refine sch_look (o := ?_) (v := .agg ([.int .i64 yk, .int .i64 yn, .string ys, .slice a2 0 c2] : List Value).toArray) ?_ ?_ ?_ ?_; rotate_left; (· ((conv => lhs; whnf); try exact rfl)); (· rfl); (· intro w' hO'; exact run_opLoadC (ad := ad2.add (j * 4)) (cs := [.int .i64 yk, .int .i64 yn, .string ys, .slice a2 0 c2]) (HY1.out _ _ (hO'.as (I ++ (pt bb (.cells #[.int .i64 ak, .int .i64 an, .string as', .slice (some ad2) al.length cb] 30 (0, 0)) ++ pt ab (.cells #[.int .i64 ak, .int .i64 an, .string as', .slice (some ad1) al.length ca] 30 (0, 0)))))) rfl (by simp) (by simp)); simp only [Act.put, List.setIfInBounds_toArray, List.set_cons_zero, List.set_cons_succ])
      refine sch_two (o := ?_) (o' := ?_) ?_ ?_ ?_ ?_
      rotate_left 2
      · ((conv => lhs; whnf); try exact rfl)
      · ((conv => lhs; whnf); try exact rfl)
      · go_wp2_with (first | (refine at_alloc ?_; go_must (refine own_alloc (z := .agg #[.int .i64 0, .int .i64 0, .string .empty, .slice none 0 0]) hO ?_ ?_ ?_; (· rfl); (· kernel_rfl); clear hO; intro xb _ hO; (try simp only [Value.cells] at hO); simp only [Act.put, List.setIfInBounds_toArray, List.set_cons_zero, List.set_cons_succ])))
        refine ⟨hO.as _, ?_⟩
        (refine sch_act (o := ?_) ?_ ?_; rotate_left; (· ((conv => lhs; whnf); try exact rfl)))
        go_wp2_with (first | (refine at_alloc ?_; go_must (refine own_alloc (z := .agg #[.int .i64 0, .int .i64 0, .string .empty, .slice none 0 0]) hO ?_ ?_ ?_; (· rfl); (· kernel_rfl); clear hO; intro yb _ hO; (try simp only [Value.cells] at hO); simp only [Act.put, List.setIfInBounds_toArray, List.set_cons_zero, List.set_cons_succ])))
        refine ⟨hO.as _, ?_⟩
        (refine sch_act (o := ?_) ?_ ?_; rotate_left; (· ((conv => lhs; whnf); try exact rfl)))
        go_wp2_with (first | (refine own_store (v := ?_) (off := 0) (b := xb) hO ?_ ?_ ?_ ?_ ?_ ?_ ?_; rotate_left; (· rfl); (· ((conv => lhs; whnf); try exact rfl)); (· ((conv => lhs; whnf); try exact rfl)); (· simp [Value.cells]); (· simp [Value.cells, Value.oneCell']); (· simp [Value.cells]); clear hO; (try clear hF); intro _ hO; (try simp only [splice, Value.cells] at hO); ((try simp only [List.nil_append, List.append_nil] at hO); have hF := Own.cells hO; simp only [cellsOf_append, cellsOf_pt] at hF); simp only [Act.put, List.setIfInBounds_toArray, List.set_cons_zero, List.set_cons_succ]))
        simp only [List.setIfInBounds_toArray, List.set_cons_zero, List.set_cons_succ, Nat.zero_add, Nat.reduceAdd] at hO
        refine ⟨hO.as _, ?_⟩
        (refine sch_act (o := ?_) ?_ ?_; rotate_left; (· ((conv => lhs; whnf); try exact rfl)))
        go_wp2_with (first | (refine own_store (v := ?_) (off := 0) (b := yb) hO ?_ ?_ ?_ ?_ ?_ ?_ ?_; rotate_left; (· rfl); (· ((conv => lhs; whnf); try exact rfl)); (· ((conv => lhs; whnf); try exact rfl)); (· simp [Value.cells]); (· simp [Value.cells, Value.oneCell']); (· simp [Value.cells]); clear hO; (try clear hF); intro _ hO; (try simp only [splice, Value.cells] at hO); ((try simp only [List.nil_append, List.append_nil] at hO); have hF := Own.cells hO; simp only [cellsOf_append, cellsOf_pt] at hF); simp only [Act.put, List.setIfInBounds_toArray, List.set_cons_zero, List.set_cons_succ]))
        simp only [List.setIfInBounds_toArray, List.set_cons_zero, List.set_cons_succ, Nat.zero_add, Nat.reduceAdd] at hO
        refine ⟨hO.as _, ?_⟩
        refine sch_done ?_
        replace hO : Own E _ (pt xb (.cells #[.int .i64 xk, .int .i64 xn, .string xs, .slice a1 0 c1] 30 (0, 0)) ++ (pt yb (.cells #[.int .i64 yk, .int .i64 yn, .string ys, .slice a2 0 c2] 30 (0, 0)) ++ (pt bb (.cells #[.int .i64 ak, .int .i64 an, .string as', .slice (some ad2) al.length cb] 30 (0, 0)) ++ (pt ab (.cells #[.int .i64 ak, .int .i64 an, .string as', .slice (some ad1) al.length ca] 30 (0, 0)) ++ (I ++ R))))) := hO.as _
        have hF := Own.cells hO
        simp only [cellsOf_append, cellsOf_pt] at hF
        rcases HC.out with h1 | ⟨h0, h1⟩ | ⟨h0, h9, h1⟩ | ⟨h0, h9, h1⟩
        · (go_wp2_with fail; go_ret; exact ⟨by rw [← HNO.out (fun e => h1 (by cases e; rfl))]; rfl, hO.as _⟩)
        · (subst h0; go_wp2_with fail; go_ret; exact ⟨by rw [← HNO.out (fun e => h1 (by cases e; rfl))]; rfl, hO.as _⟩)
        · (subst h0; subst h9; have hs2 := bs_ne h1; have hs3 : (xs.toList == ys.toList) = false := beq_eq_false_iff_ne.2 hs2; have HH := Lib.hid h1; clear h1; go_wp2_with fail; go_ret; exact ⟨by rw [← HNO.out (fun e => HH.out (by cases e; rfl))]; rfl, hO.as _⟩)
        · (subst h0; subst h9; subst h1; go_wp2_with fail; have hl8 := HL8.out; have hlt := HLT.out; go_roundw; (case rel => exact ⟨j + 1, by go_num, HLT.out, HNX.out rfl, hO.as _⟩); (case measure => (first | (clear hw1; simp [intOf]; omega; done) | (simp [intOf, hw1]; clear hw1; omega))))
      · go_wp2_with (first | (refine at_alloc ?_; go_must (refine own_alloc (z := .agg #[.int .i64 0, .int .i64 0, .string .empty, .slice none 0 0]) hO ?_ ?_ ?_; (· rfl); (· kernel_rfl); clear hO; intro yb _ hO; (try simp only [Value.cells] at hO); simp only [Act.put, List.setIfInBounds_toArray, List.set_cons_zero, List.set_cons_succ])))
        refine ⟨hO.as _, ?_⟩
        (refine sch_act (o := ?_) ?_ ?_; rotate_left; (· ((conv => lhs; whnf); try exact rfl)))
        go_wp2_with (first | (refine at_alloc ?_; go_must (refine own_alloc (z := .agg #[.int .i64 0, .int .i64 0, .string .empty, .slice none 0 0]) hO ?_ ?_ ?_; (· rfl); (· kernel_rfl); clear hO; intro xb _ hO; (try simp only [Value.cells] at hO); simp only [Act.put, List.setIfInBounds_toArray, List.set_cons_zero, List.set_cons_succ])))
        refine ⟨hO.as _, ?_⟩
        (refine sch_act (o := ?_) ?_ ?_; rotate_left; (· ((conv => lhs; whnf); try exact rfl)))
        go_wp2_with (first | (refine own_store (v := ?_) (off := 0) (b := xb) hO ?_ ?_ ?_ ?_ ?_ ?_ ?_; rotate_left; (· rfl); (· ((conv => lhs; whnf); try exact rfl)); (· ((conv => lhs; whnf); try exact rfl)); (· simp [Value.cells]); (· simp [Value.cells, Value.oneCell']); (· simp [Value.cells]); clear hO; (try clear hF); intro _ hO; (try simp only [splice, Value.cells] at hO); ((try simp only [List.nil_append, List.append_nil] at hO); have hF := Own.cells hO; simp only [cellsOf_append, cellsOf_pt] at hF); simp only [Act.put, List.setIfInBounds_toArray, List.set_cons_zero, List.set_cons_succ]))
        simp only [List.setIfInBounds_toArray, List.set_cons_zero, List.set_cons_succ, Nat.zero_add, Nat.reduceAdd] at hO
        refine ⟨hO.as _, ?_⟩
        (refine sch_act (o := ?_) ?_ ?_; rotate_left; (· ((conv => lhs; whnf); try exact rfl)))
        go_wp2_with (first | (refine own_store (v := ?_) (off := 0) (b := yb) hO ?_ ?_ ?_ ?_ ?_ ?_ ?_; rotate_left; (· rfl); (· ((conv => lhs; whnf); try exact rfl)); (· ((conv => lhs; whnf); try exact rfl)); (· simp [Value.cells]); (· simp [Value.cells, Value.oneCell']); (· simp [Value.cells]); clear hO; (try clear hF); intro _ hO; (try simp only [splice, Value.cells] at hO); ((try simp only [List.nil_append, List.append_nil] at hO); have hF := Own.cells hO; simp only [cellsOf_append, cellsOf_pt] at hF); simp only [Act.put, List.setIfInBounds_toArray, List.set_cons_zero, List.set_cons_succ]))
        simp only [List.setIfInBounds_toArray, List.set_cons_zero, List.set_cons_succ, Nat.zero_add, Nat.reduceAdd] at hO
        refine ⟨hO.as _, ?_⟩
        refine sch_done ?_
        replace hO : Own E _ (pt xb (.cells #[.int .i64 xk, .int .i64 xn, .string xs, .slice a1 0 c1] 30 (0, 0)) ++ (pt yb (.cells #[.int .i64 yk, .int .i64 yn, .string ys, .slice a2 0 c2] 30 (0, 0)) ++ (pt bb (.cells #[.int .i64 ak, .int .i64 an, .string as', .slice (some ad2) al.length cb] 30 (0, 0)) ++ (pt ab (.cells #[.int .i64 ak, .int .i64 an, .string as', .slice (some ad1) al.length ca] 30 (0, 0)) ++ (I ++ R))))) := hO.as _
        have hF := Own.cells hO
        simp only [cellsOf_append, cellsOf_pt] at hF
        rcases HC.out with h1 | ⟨h0, h1⟩ | ⟨h0, h9, h1⟩ | ⟨h0, h9, h1⟩
        · (go_wp2_with fail; go_ret; exact ⟨by rw [← HNO.out (fun e => h1 (by cases e; rfl))]; rfl, hO.as _⟩)
        · (subst h0; go_wp2_with fail; go_ret; exact ⟨by rw [← HNO.out (fun e => h1 (by cases e; rfl))]; rfl, hO.as _⟩)
        · (subst h0; subst h9; have hs2 := bs_ne h1; have hs3 : (xs.toList == ys.toList) = false := beq_eq_false_iff_ne.2 hs2; have HH := Lib.hid h1; clear h1; go_wp2_with fail; go_ret; exact ⟨by rw [← HNO.out (fun e => HH.out (by cases e; rfl))]; rfl, hO.as _⟩)
        · (subst h0; subst h9; subst h1; go_wp2_with fail; have hl8 := HL8.out; have hlt := HLT.out; go_roundw; (case rel => exact ⟨j + 1, by go_num, HLT.out, HNX.out rfl, hO.as _⟩); (case measure => (first | (clear hw1; simp [intOf]; omega; done) | (simp [intOf, hw1]; clear hw1; omega))))
    · obtain rfl : j = al.length := Nat.le_antisymm hj (Nat.le_of_not_lt hlt)
      have hjj : ¬ (al.length : Int) < al.length := by omega
      have hzt : true = z := by
        rw [HZ.out]
        symm
        apply decide_eq_true
        exact List.ext_getElem HLEN.out fun i h1 h2 => HB.out i h1 h2 h1
      have HZT := Lib.hid hzt
      clear hj hlt hzt
      go_wp2_with fail
      go_ret
      exact ⟨by rw [← HZT.out]; rfl, hO.as _⟩
end Go.Proofs.YticclennllklpaaDoor

/- Layer 9: the reference: the bytes of an item. -/
namespace Go.Proofs.YticclennllklpaaDoor
open Go Go.RowKit Go.Own Go.Dt

theorem and255 (x : Int) : bits .and .i64 x 255 = x % 256 := by
  have h255 : (BitVec.ofInt 64 255).toNat = 2 ^ 8 - 1 := by rw [BitVec.toNat_ofInt]; decide
  show IntKind.i64.wrap ((BitVec.ofInt 64 x &&& BitVec.ofInt 64 255).toNat : Nat) = _
  rw [BitVec.toNat_and, h255, Nat.and_two_pow_sub_one_eq_mod, BitVec.toNat_ofInt, IntKind.wrap_i64]
  have h1 : 0 ≤ x % ((2 ^ 64 : Nat) : Int) := Int.emod_nonneg _ (by decide)
  have h2 : ((x % ((2 ^ 64 : Nat) : Int)).toNat : Int) = x % 18446744073709551616 := by rw [Int.toNat_of_nonneg h1]; rfl
  have h3 : (((x % ((2 ^ 64 : Nat) : Int)).toNat % 2 ^ 8 : Nat) : Int) = x % 18446744073709551616 % 256 := by rw [Int.natCast_emod, h2]; rfl
  rw [h3]
  omega
theorem xor128 : ∀ b : Fin 256, bits .xor .u8 ((b.val : Nat) : Int) 128 = (((b.val + 128) % 256 : Nat) : Int) := by decide +kernel
theorem shl (n m q : Int) (hm : m ≠ 0) (hq : q % 256 = 0) : (n + m * q) / m % 256 = n / m % 256 := by
  rw [Int.add_mul_ediv_left _ _ hm]
  generalize n / m = z
  omega
theorem bt_lo {n : Int} (h : Dt.i64 n) {j : Nat} (h0 : j ≠ 0) (hj : j < 8) : bits .and .i64 (n / 2 ^ (56 - 8 * j)) 255 % 256 = ((bt n j).toNat : Int) := by
  rw [and255, ← bt_v h rfl hj, Int.emod_emod]
  obtain rfl | rfl | rfl | rfl | rfl | rfl | rfl : j = 1 ∨ j = 2 ∨ j = 3 ∨ j = 4 ∨ j = 5 ∨ j = 6 ∨ j = 7 := by omega
  · exact (shl n (2 ^ 48) (2 ^ 15) (by decide) (by decide)).symm
  · exact (shl n (2 ^ 40) (2 ^ 23) (by decide) (by decide)).symm
  · exact (shl n (2 ^ 32) (2 ^ 31) (by decide) (by decide)).symm
  · exact (shl n (2 ^ 24) (2 ^ 39) (by decide) (by decide)).symm
  · exact (shl n (2 ^ 16) (2 ^ 47) (by decide) (by decide)).symm
  · exact (shl n (2 ^ 8) (2 ^ 55) (by decide) (by decide)).symm
  · exact (shl n (2 ^ 0) (2 ^ 63) (by decide) (by decide)).symm
theorem bt_hi {n : Int} (h : Dt.i64 n) : bits .xor .u8 (bits .and .i64 (n / 72057594037927936) 255 % 256) 128 = ((bt n 0).toNat : Int) := by
  rw [and255, ← bt_v h rfl (j := 0) (by decide), Int.emod_emod]
  obtain ⟨b, hb⟩ : ∃ b : Nat, n / 72057594037927936 % 256 = b := ⟨(n / 72057594037927936 % 256).toNat, by omega⟩
  have hb2 : b < 256 := by omega
  rw [hb]
  rw [show bits .xor .u8 (b : Int) 128 = (((b + 128) % 256 : Nat) : Int) from xor128 ⟨b, hb2⟩]
  have e : (n + 9223372036854775808) / 2 ^ (56 - 8 * 0) = n / 72057594037927936 + 128 := by
    show (n + 72057594037927936 * 128) / 72057594037927936 = _
    rw [Int.add_mul_ediv_left _ _ (by decide)]
  rw [e]
  generalize n / 72057594037927936 = z at hb
  omega
set_option maxRecDepth 100000 in
set_option maxHeartbeats 16000000 in
theorem putInt (E w : World) (X R S : Fr) (so : Option Addr) (co : Nat) (l : List UInt8) (hl : l.length ≤ 10000) (hS : Sl 5 1 so l.length co (bytesV l) S) (n : Int) (a : Option Addr) (m c : Nat) (hn : Dt.i64 n) (hO : Own E w X) [hp : Pick X S R] :
    Calls Tryd.prog 55 #[.slice so l.length co, .agg #[.int .i64 1, .int .i64 n, .string ByteArray.empty, .slice a m c]] w (EncP E (l ++ (1 :: be8 n)) R) := by
  replace hO := hO.perm hp.perm
  clear hp
  generalize hpost : EncP E (l ++ (1 :: be8 n)) R = POST
  have HPOST := Lib.hid hpost
  clear hpost
  have HN := Lib.hid hn
  clear hn
  go_enter Tryd.func55, Tryd.ntmps55
  go_wp2_with (first | (refine at_box ?_; go_must (refine own_box (v := ?_) hO ?_ ?_ ?_; rotate_left; (· rfl); (· ((conv => lhs; whnf); try exact rfl)); clear hO; (try clear hF); intro ob _ hO; (try simp only [Value.cells] at hO); ((try simp only [List.nil_append, List.append_nil] at hO); have hF := Own.cells hO; simp only [cellsOf_append, cellsOf_pt] at hF); simp only [Act.put, List.setIfInBounds_toArray, List.set_cons_zero, List.set_cons_succ])) | (refine at_bs ?_; go_must (refine own_build1 (v := ?_) sltB9 hO ?_ ?_ ?_ ?_ ?_ ?_; rotate_left; (· rfl); (· ((conv => lhs; whnf); try exact rfl)); (· rfl); (· decide); (· decide); clear hO; (try clear hF); intro bs _ hO; (try simp only [Value.cells] at hO); ((try simp only [List.nil_append, List.append_nil] at hO); have hF := Own.cells hO; simp only [cellsOf_append, cellsOf_pt] at hF); simp only [Act.put, List.setIfInBounds_toArray, List.set_cons_zero, List.set_cons_succ])) | (refine at_append ?_; go_must (refine own_append_elem (b1 := ?_) (cs := ?_) (e1 := ?_) (f1 := ?_) sltB9 hO ?_ ?_ ?_ hS ?_ ?_ ?_ ?_ ?_ ?_ ?_; rotate_left 4; (· rfl); (· rfl); (· rfl); (· exact inferInstance); (· rfl); (· intro u hu; simp at hu; subst hu; rfl); (· first | omega | (simp only [maxLen]; omega)); (· decide); (· first | omega | (simp only [maxLen]; omega)); clear hO; (try clear hF); intro so2 co2 SO2 w4 hSO2 hO; ((try simp only [List.nil_append, List.append_nil] at hO); have hF := Own.cells hO; simp only [cellsOf_append, cellsOf_pt] at hF); simp only [Act.put, List.setIfInBounds_toArray, List.set_cons_zero, List.set_cons_succ])))
  replace hO := hO.as (SO2 ++ (pt ob (.cells #[.int .i64 1, .int .i64 n, .string ByteArray.empty, .slice a m c] 30 (0, 0)) ++ R))
  have e1 : bytesV l ++ [Value.int .u8 1] = bytesV (l ++ 1 :: (be8 n).take 0) := by rw [bytesV_append]; rfl
  rw [e1] at hSO2
  clear e1 hF
  have hO1 := hO
  have hSO1 := hSO2
  clear hO hSO2
  go_loopw [0, 5] (fun o i wr => ∃ (j : Nat) (so3 : Option Addr) (co3 : Nat) (SO3 : Fr), i = .int .i64 (56 - 8 * (j : Int)) ∧ j ≤ 8 ∧ o = .slice so3 (l.length + 1 + j) co3 ∧ Sl 5 1 so3 (l.length + 1 + j) co3 (bytesV (l ++ 1 :: (be8 n).take j)) SO3 ∧ Own E wr (SO3 ++ (pt ob (.cells #[.int .i64 1, .int .i64 n, .string ByteArray.empty, .slice a m c] 30 (0, 0)) ++ R))) (fun _ i _ => (intOf i + 8).toNat)
  case atStart => exact ⟨0, so2, co2, SO2, rfl, by decide, rfl, hSO1, hO1⟩
  case round =>
    clear hO1 hSO1
    obtain ⟨j, so3, co3, SO3, rfl, hj, rfl, hSO3, hO⟩ := hrel
    have hF := Own.cells hO; simp only [cellsOf_append, cellsOf_pt] at hF
    by_cases hlt : j < 8
    · have h1 : (0 : Int) ≤ 56 - 8 * (j : Int) := by omega
      by_cases hj0 : j = 0
      · have hb := bt_hi HN.out
        have HB := Lib.hid hb
        clear hb
        subst hj0
        go_wp2_with (first | (refine at_bs ?_; go_must (refine own_build1 (v := ?_) sltB9 hO ?_ ?_ ?_ ?_ ?_ ?_; rotate_left; (· rfl); (· ((conv => lhs; whnf); try exact rfl)); (· rfl); (· decide); (· decide); clear hO; (try clear hF); intro bs _ hO; (try simp only [Value.cells] at hO); ((try simp only [List.nil_append, List.append_nil] at hO); have hF := Own.cells hO; simp only [cellsOf_append, cellsOf_pt] at hF); simp only [Act.put, List.setIfInBounds_toArray, List.set_cons_zero, List.set_cons_succ])) | (refine at_append ?_; go_must (refine own_append_elem (b1 := ?_) (cs := ?_) (e1 := ?_) (f1 := ?_) sltB9 hO ?_ ?_ ?_ hSO3 ?_ ?_ ?_ ?_ ?_ ?_ ?_; rotate_left 4; (· rfl); (· rfl); (· rfl); (· exact inferInstance); (· rfl); (· intro u hu; simp at hu; subst hu; rfl); (· first | omega | (simp only [maxLen]; omega)); (· decide); (· first | omega | (simp only [maxLen]; omega)); clear hO; (try clear hF); intro so4 co4 SO4 w5 hSO4 hO; ((try simp only [List.nil_append, List.append_nil] at hO); have hF := Own.cells hO; simp only [cellsOf_append, cellsOf_pt] at hF); simp only [Act.put, List.setIfInBounds_toArray, List.set_cons_zero, List.set_cons_succ])))
        rw [HB.out] at hSO4
        have e1 : bytesV (l ++ 1 :: (be8 n).take 0) ++ [Value.int .u8 ((bt n 0).toNat : Int)] = bytesV (l ++ 1 :: (be8 n).take (0 + 1)) := by
          have h8 : 0 < (be8 n).length := by rw [be8_len]; exact hlt
          rw [List.take_succ_eq_append_getElem h8]
          have h9 : (be8 n)[0]'h8 = bt n 0 := by simp [be8]
          rw [h9, bytesV_append, bytesV_append]
          all_goals simp [bytesV, byteV]
        rw [e1] at hSO4
        go_roundw
        case rel => exact ⟨0 + 1, so4, co4, SO4, by go_num, hlt, by rw [Nat.add_assoc], by rw [← Nat.add_assoc]; exact hSO4, hO.as _⟩
        case measure => (simp [intOf] <;> omega)
      · have h5 : ((56 - 8 * (j : Int)) == 56) = false := beq_eq_false_iff_ne.2 (by omega)
        have hb := bt_lo HN.out hj0 hlt
        have HB := Lib.hid hb
        clear hb
        go_wp2_with (first | (refine at_bs ?_; go_must (refine own_build1 (v := ?_) sltB9 hO ?_ ?_ ?_ ?_ ?_ ?_; rotate_left; (· rfl); (· ((conv => lhs; whnf); try exact rfl)); (· rfl); (· decide); (· decide); clear hO; (try clear hF); intro bs _ hO; (try simp only [Value.cells] at hO); ((try simp only [List.nil_append, List.append_nil] at hO); have hF := Own.cells hO; simp only [cellsOf_append, cellsOf_pt] at hF); simp only [Act.put, List.setIfInBounds_toArray, List.set_cons_zero, List.set_cons_succ])) | (refine at_append ?_; go_must (refine own_append_elem (b1 := ?_) (cs := ?_) (e1 := ?_) (f1 := ?_) sltB9 hO ?_ ?_ ?_ hSO3 ?_ ?_ ?_ ?_ ?_ ?_ ?_; rotate_left 4; (· rfl); (· rfl); (· rfl); (· exact inferInstance); (· rfl); (· intro u hu; simp at hu; subst hu; rfl); (· first | omega | (simp only [maxLen]; omega)); (· decide); (· first | omega | (simp only [maxLen]; omega)); clear hO; (try clear hF); intro so4 co4 SO4 w5 hSO4 hO; ((try simp only [List.nil_append, List.append_nil] at hO); have hF := Own.cells hO; simp only [cellsOf_append, cellsOf_pt] at hF); simp only [Act.put, List.setIfInBounds_toArray, List.set_cons_zero, List.set_cons_succ])))
        rw [HB.out] at hSO4
        have e1 : bytesV (l ++ 1 :: (be8 n).take j) ++ [Value.int .u8 ((bt n j).toNat : Int)] = bytesV (l ++ 1 :: (be8 n).take (j + 1)) := by
          have h8 : j < (be8 n).length := by rw [be8_len]; exact hlt
          rw [List.take_succ_eq_append_getElem h8]
          have h9 : (be8 n)[j]'h8 = bt n j := by simp [be8]
          rw [h9, bytesV_append, bytesV_append]
          all_goals simp [bytesV, byteV]
        rw [e1] at hSO4
        go_roundw
        case rel => exact ⟨j + 1, so4, co4, SO4, by go_num, hlt, by rw [Nat.add_assoc], by rw [← Nat.add_assoc]; exact hSO4, hO.as _⟩
        case measure => simp [intOf]; omega
    · obtain rfl : j = 8 := by omega
      have h1 : ¬ (0 : Int) ≤ 56 - 8 * ((8 : Nat) : Int) := by omega
      clear hlt hj
      go_wp2_with fail
      rw [← HPOST.out]
      have h8 : (be8 n).take 8 = be8 n := List.take_of_length_le (by rw [be8_len]; decide)
      have hlen : (l ++ (1 :: be8 n)).length = l.length + 1 + 8 := by rw [List.length_append, List.length_cons, be8_len]
      rw [h8] at hSO3
      exact ⟨so3, co3, SO3, by rw [hlen], by rw [hlen]; exact hSO3, hO.as _⟩
end Go.Proofs.YticclennllklpaaDoor

/- Layer 9: the reference: the bytes of a text, of an item; Encoded. -/
namespace Go.Proofs.YticclennllklpaaDoor
open Go Go.RowKit Go.Own Go.Dt

theorem idx_str (w : World) (s : ByteArray) (j : Nat) (hj : j < s.size) (c : UInt8) (hc : s.data.toList[j]? = some c) : (Instr.index 9 (.string s) (.int .i64 (j : Int))).run Tryd.prog w = .ok (.int .u8 (c.toNat : Int)) w := by
  rw [run_index_string (P := Tryd.prog) (w := w) 9 s .i64 (j : Int) (by kernel_rfl), dif_pos ⟨by omega, by omega⟩]
  have h1 : (s[(j : Int).toNat]'(by omega)) = c := by
    have h2 : s.data.toList[j]? = some (s[(j : Int).toNat]'(by omega)) := by
      rw [Array.getElem?_toList]
      show s.data[j]? = _
      rw [Array.getElem?_eq_getElem (show j < s.data.size from hj)]
      rfl
    exact (Option.some.inj (hc.symm.trans h2)).symm
  rw [h1]
set_option maxRecDepth 100000 in
set_option maxHeartbeats 16000000 in
theorem putTxt (E w : World) (X R S : Fr) (so : Option Addr) (co : Nat) (l : List UInt8) (hl : l.length ≤ 10000) (hS : Sl 5 1 so l.length co (bytesV l) S) (s : ByteArray) (hs : s.size ≤ 32) (a : Option Addr) (m c : Nat) (hO : Own E w X) [hp : Pick X S R] :
    Calls Tryd.prog 55 #[.slice so l.length co, .agg #[.int .i64 2, .int .i64 0, .string s, .slice a m c]] w (EncP E (l ++ (2 :: (esc s.data.toList ++ [0, 0]))) R) := by
  replace hO := hO.perm hp.perm
  clear hp
  generalize hpost : EncP E (l ++ (2 :: (esc s.data.toList ++ [0, 0]))) R = POST
  have HPOST := Lib.hid hpost
  clear hpost
  go_enter Tryd.func55, Tryd.ntmps55
  go_wp2_with (first | (refine at_box ?_; go_must (refine own_box (v := ?_) hO ?_ ?_ ?_; rotate_left; (· rfl); (· ((conv => lhs; whnf); try exact rfl)); clear hO; (try clear hF); intro ob _ hO; (try simp only [Value.cells] at hO); ((try simp only [List.nil_append, List.append_nil] at hO); have hF := Own.cells hO; simp only [cellsOf_append, cellsOf_pt] at hF); simp only [Act.put, List.setIfInBounds_toArray, List.set_cons_zero, List.set_cons_succ])) | (refine at_bs ?_; go_must (refine own_build1 (v := ?_) sltB9 hO ?_ ?_ ?_ ?_ ?_ ?_; rotate_left; (· rfl); (· ((conv => lhs; whnf); try exact rfl)); (· rfl); (· decide); (· decide); clear hO; (try clear hF); intro bs _ hO; (try simp only [Value.cells] at hO); ((try simp only [List.nil_append, List.append_nil] at hO); have hF := Own.cells hO; simp only [cellsOf_append, cellsOf_pt] at hF); simp only [Act.put, List.setIfInBounds_toArray, List.set_cons_zero, List.set_cons_succ])) | (refine at_append ?_; go_must (refine own_append_elem (b1 := ?_) (cs := ?_) (e1 := ?_) (f1 := ?_) sltB9 hO ?_ ?_ ?_ hS ?_ ?_ ?_ ?_ ?_ ?_ ?_; rotate_left 4; (· rfl); (· rfl); (· rfl); (· exact inferInstance); (· rfl); (· intro u hu; simp at hu; subst hu; rfl); (· first | omega | (simp only [maxLen]; omega)); (· decide); (· first | omega | (simp only [maxLen]; omega)); clear hO; (try clear hF); intro so2 co2 SO2 w4 hSO2 hO; ((try simp only [List.nil_append, List.append_nil] at hO); have hF := Own.cells hO; simp only [cellsOf_append, cellsOf_pt] at hF); simp only [Act.put, List.setIfInBounds_toArray, List.set_cons_zero, List.set_cons_succ])))
  replace hO := hO.as (SO2 ++ (pt ob (.cells #[.int .i64 2, .int .i64 0, .string s, .slice a m c] 30 (0, 0)) ++ R))
  have hsl : s.data.toList.length = s.size := by rw [Array.length_toList]; rfl
  have e1 : bytesV l ++ [Value.int .u8 2] = bytesV (l ++ 2 :: esc (s.data.toList.take 0)) := by rw [bytesV_append]; rfl
  have e2 : l.length + 1 = (l ++ 2 :: esc (s.data.toList.take 0)).length := by rw [List.length_append]; rfl
  rw [e1, e2] at hSO2
  rw [e2]
  clear e1 e2 hF
  have hO1 := hO
  have hSO1 := hSO2
  have HSL := Lib.hid hsl
  have HS := Lib.hid hs
  clear hO hSO2 hsl hs
  go_loopw [0, 7] (fun o i wr => ∃ (j : Nat) (so3 : Option Addr) (co3 : Nat) (SO3 : Fr), i = .int .i64 (j : Int) ∧ j ≤ s.size ∧ o = .slice so3 (l ++ 2 :: esc (s.data.toList.take j)).length co3 ∧ Sl 5 1 so3 (l ++ 2 :: esc (s.data.toList.take j)).length co3 (bytesV (l ++ 2 :: esc (s.data.toList.take j))) SO3 ∧ Own E wr (SO3 ++ (pt ob (.cells #[.int .i64 2, .int .i64 0, .string s, .slice a m c] 30 (0, 0)) ++ R))) (fun _ i _ => s.size - (intOf i).toNat)
  case atStart => exact ⟨0, so2, co2, SO2, rfl, Nat.zero_le _, rfl, hSO1, hO1⟩
  case round =>
    clear hO1 hSO1
    obtain ⟨j, so3, co3, SO3, rfl, hj, rfl, hSO3, hO⟩ := hrel
    have hF := Own.cells hO; simp only [cellsOf_append, cellsOf_pt] at hF
    have hpl : (l ++ 2 :: esc (s.data.toList.take j)).length ≤ 20000 := by
      have h1 := esc_len (s.data.toList.take j)
      have h2 : (s.data.toList.take j).length ≤ s.size := by rw [List.length_take, HSL.out]; omega
      have h3 := HS.out
      rw [List.length_append, List.length_cons]
      omega
    by_cases hlt : j < s.size
    · have hj1 : (j : Int) < s.size := by omega
      have g2 : (0 : Int) ≤ (j : Int) := by omega
      have hjl : j < s.data.toList.length := by rw [HSL.out]; exact hlt
      obtain ⟨x, hx⟩ : ∃ x, s.data.toList[j]? = some x := ⟨_, List.getElem?_eq_getElem hjl⟩
      have hix : ∀ w : World, (Instr.index 9 (.string s) (.int .i64 (j : Int))).run Tryd.prog w = .ok (.int .u8 (x.toNat : Int)) w := fun w => idx_str w s j hlt x hx
      have htk : esc (s.data.toList.take (j + 1)) = esc (s.data.toList.take j) ++ (if x = 0 then [0, 255] else [x]) := by
        rw [List.take_succ_eq_append_getElem hjl, esc_app]
        congr 1
        have : s.data.toList[j]'hjl = x := Option.some.inj ((List.getElem?_eq_getElem hjl).symm.trans hx)
        rw [this]
        unfold esc
        simp
      have HTK := Lib.hid htk
      have HLT := Lib.hid hlt
      have hw0 : IntKind.i64.wrap ((j : Int) + 1) = (j : Int) + 1 := wi_1 j (by have := HS.out; omega)
      have hw1 : wrap64 ((j : Int) + 1) = (j : Int) + 1 := w64_1 j (by have := HS.out; omega)
      clear htk hx hjl hlt hj
      generalize hP : l ++ 2 :: esc (s.data.toList.take j) = P0 at hSO3 hpl ⊢
      have HP := Lib.hid hP
      clear hP
      by_cases hx0 : x = 0
      · subst hx0
        have hz : ((0 : UInt8).toNat : Int) = 0 := rfl
        have hz2 : (UInt8.toNat 0 : Int) = 0 := rfl
        go_wp2_with (first | (refine at_bs ?_; go_must (refine own_build1 (v := ?_) sltB9 hO ?_ ?_ ?_ ?_ ?_ ?_; rotate_left; (· rfl); (· ((conv => lhs; whnf); try exact rfl)); (· rfl); (· decide); (· decide); clear hO; (try clear hF); intro bs _ hO; (try simp only [Value.cells] at hO); ((try simp only [List.nil_append, List.append_nil] at hO); have hF := Own.cells hO; simp only [cellsOf_append, cellsOf_pt] at hF); simp only [Act.put, List.setIfInBounds_toArray, List.set_cons_zero, List.set_cons_succ])) | (refine at_append ?_; go_must (first | ((have hzz : so4 = so4 := rfl); clear hzz; (refine own_append_elem (b1 := ?_) (cs := ?_) (e1 := ?_) (f1 := ?_) sltB9 hO ?_ ?_ ?_ hSO4 ?_ ?_ ?_ ?_ ?_ ?_ ?_; rotate_left 4; (· rfl); (· rfl); (· rfl); (· exact inferInstance); (· rfl); (· intro u hu; simp at hu; subst hu; rfl); (· first | omega | (simp only [maxLen]; omega)); (· decide); (· first | omega | (simp only [maxLen]; omega)); clear hO; (try clear hF); intro so5 co5 SO5 w6 hSO5 hO; ((try simp only [List.nil_append, List.append_nil] at hO); have hF := Own.cells hO; simp only [cellsOf_append, cellsOf_pt] at hF); simp only [Act.put, List.setIfInBounds_toArray, List.set_cons_zero, List.set_cons_succ])) | (refine own_append_elem (b1 := ?_) (cs := ?_) (e1 := ?_) (f1 := ?_) sltB9 hO ?_ ?_ ?_ hSO3 ?_ ?_ ?_ ?_ ?_ ?_ ?_; rotate_left 4; (· rfl); (· rfl); (· rfl); (· exact inferInstance); (· rfl); (· intro u hu; simp at hu; subst hu; rfl); (· first | omega | (simp only [maxLen]; omega)); (· decide); (· first | omega | (simp only [maxLen]; omega)); clear hO; (try clear hF); intro so4 co4 SO4 w5 hSO4 hO; ((try simp only [List.nil_append, List.append_nil] at hO); have hF := Own.cells hO; simp only [cellsOf_append, cellsOf_pt] at hF); simp only [Act.put, List.setIfInBounds_toArray, List.set_cons_zero, List.set_cons_succ]))))
        have hlt := HLT.out
        have e1 : bytesV P0 ++ [Value.int .u8 0] ++ [Value.int .u8 255] = bytesV (l ++ 2 :: esc (s.data.toList.take (j + 1))) := by
          rw [HTK.out, if_pos rfl, show (2 :: (esc (s.data.toList.take j) ++ [0, 255]) : List UInt8) = (2 :: esc (s.data.toList.take j)) ++ [0, 255] from rfl, ← List.append_assoc, HP.out, bytesV_append, List.append_assoc]
          rfl
        have e2 : P0.length + 1 + 1 = (l ++ 2 :: esc (s.data.toList.take (j + 1))).length := by
          rw [HTK.out, if_pos rfl, show (2 :: (esc (s.data.toList.take j) ++ [0, 255]) : List UInt8) = (2 :: esc (s.data.toList.take j)) ++ [0, 255] from rfl, ← List.append_assoc, HP.out, List.length_append]
          rfl
        rw [e1, e2] at hSO5
        go_roundw
        case rel => exact ⟨j + 1, so5, co5, SO5, by go_num, hlt, by rw [← e2], hSO5, hO.as _⟩
        case measure => (clear hw0 hw1; simp [intOf]; omega)
      · have hz : ((x.toNat : Int) == 0) = false := beq_eq_false_iff_ne.2 (fun h => hx0 (UInt8.toNat_inj.1 (by rw [show (0 : UInt8).toNat = 0 from rfl]; omega)))
        go_wp2_with (first | (refine at_bs ?_; go_must (refine own_build1 (v := ?_) sltB9 hO ?_ ?_ ?_ ?_ ?_ ?_; rotate_left; (· rfl); (· ((conv => lhs; whnf); try exact rfl)); (· rfl); (· decide); (· decide); clear hO; (try clear hF); intro bs _ hO; (try simp only [Value.cells] at hO); ((try simp only [List.nil_append, List.append_nil] at hO); have hF := Own.cells hO; simp only [cellsOf_append, cellsOf_pt] at hF); simp only [Act.put, List.setIfInBounds_toArray, List.set_cons_zero, List.set_cons_succ])) | (refine at_append ?_; go_must (refine own_append_elem (b1 := ?_) (cs := ?_) (e1 := ?_) (f1 := ?_) sltB9 hO ?_ ?_ ?_ hSO3 ?_ ?_ ?_ ?_ ?_ ?_ ?_; rotate_left 4; (· rfl); (· rfl); (· rfl); (· exact inferInstance); (· rfl); (· intro u hu; simp at hu; subst hu; rfl); (· first | omega | (simp only [maxLen]; omega)); (· decide); (· first | omega | (simp only [maxLen]; omega)); clear hO; (try clear hF); intro so4 co4 SO4 w5 hSO4 hO; ((try simp only [List.nil_append, List.append_nil] at hO); have hF := Own.cells hO; simp only [cellsOf_append, cellsOf_pt] at hF); simp only [Act.put, List.setIfInBounds_toArray, List.set_cons_zero, List.set_cons_succ])))
        have hlt := HLT.out
        have e1 : bytesV P0 ++ [Value.int .u8 (x.toNat : Int)] = bytesV (l ++ 2 :: esc (s.data.toList.take (j + 1))) := by
          rw [HTK.out, if_neg hx0, show (2 :: (esc (s.data.toList.take j) ++ [x]) : List UInt8) = (2 :: esc (s.data.toList.take j)) ++ [x] from rfl, ← List.append_assoc, HP.out, bytesV_append]
          rfl
        have e2 : P0.length + 1 = (l ++ 2 :: esc (s.data.toList.take (j + 1))).length := by
          rw [HTK.out, if_neg hx0, show (2 :: (esc (s.data.toList.take j) ++ [x]) : List UInt8) = (2 :: esc (s.data.toList.take j)) ++ [x] from rfl, ← List.append_assoc, HP.out, List.length_append]
          rfl
        rw [e1, e2] at hSO4
        go_roundw
        case rel => exact ⟨j + 1, so4, co4, SO4, by go_num, hlt, by rw [← e2], hSO4, hO.as _⟩
        case measure => (clear hw0 hw1; simp [intOf]; omega)
    · obtain rfl : j = s.size := Nat.le_antisymm hj (Nat.le_of_not_lt hlt)
      have hjj : ¬ (s.size : Int) < s.size := by omega
      have htk : s.data.toList.take s.size = s.data.toList := List.take_of_length_le (by rw [HSL.out]; exact Nat.le_refl _)
      rw [htk] at hSO3 hpl ⊢
      clear hj hlt htk
      generalize hP : l ++ 2 :: esc s.data.toList = P0 at hSO3 hpl ⊢
      have HP := Lib.hid hP
      clear hP
      go_wp2_with (first | (refine at_bs ?_; go_must (refine own_buildN (cells := ?_) sltB9 hO ?_ ?_ ?_ ?_ ?_ ?_; rotate_left; (· rfl); (· decide); (· decide); (· rfl); (· simp [Instr.fill, Act.eval, Value.cells, Array.replicate_succ]; exact rfl); clear hO; (try clear hF); intro b3 _ hO; ((try simp only [List.nil_append, List.append_nil] at hO); have hF := Own.cells hO; simp only [cellsOf_append, cellsOf_pt] at hF); simp only [Act.put, List.setIfInBounds_toArray, List.set_cons_zero, List.set_cons_succ])) | (refine at_append ?_; refine Stop.go ?_))
      refine ⟨?_⟩
      refine own_append (sz := 1) (bytes := 1) (z := .int .u8 0) (e := 5) (xv := .slice (some ⟨b3, 0, none⟩) 2 2) (m := 2) (news := [.int .u8 0, .int .u8 0]) sltB9 (.inl (by kernel_rfl)) hO ?_ ?_ ?_ hSO3 ?_ ?_ ?_ ?_ ?_ ?_ ?_
      · rfl
      · rfl
      · rfl
      · intro w; rfl
      · intro w' hO'; exact two_cells hO' (hh := inferInstance)
      · rfl
      · intro u hu; simp at hu; subst hu; rfl
      · simp only [maxLen]; omega
      · left; omega
      clear hO hF
      intro so4 co4 SO4 w7 hSO4 hO
      simp only [Act.put, List.setIfInBounds_toArray, List.set_cons_zero, List.set_cons_succ]
      go_wp2_with fail
      rw [← HPOST.out]
      have e0 : l ++ (2 :: (esc s.data.toList ++ [0, 0])) = P0 ++ [0, 0] := by rw [← HP.out, List.append_assoc]; rfl
      rw [e0]
      refine ⟨so4, co4, SO4, by rw [List.length_append]; rfl, ?_, hO.as _⟩
      rw [List.length_append, bytesV_append]
      exact hSO4
theorem putItem (E w : World) (X R S : Fr) (so : Option Addr) (co : Nat) (l : List UInt8) (hl : l.length ≤ 10000) (hS : Sl 5 1 so l.length co (bytesV l) S) (x : It) (hx : x.ok = true) (wx : Dt.i64 x.n) (a : Option Addr) (c : Nat) (hO : Own E w X) [hp : Pick X S R] :
    Calls Tryd.prog 55 #[.slice so l.length co, .agg #[.int .i64 x.k, .int .i64 x.n, .string x.s, .slice a x.m c]] w (EncP E (l ++ x.enc) R) := by
  obtain ⟨k, n, s, m⟩ := x
  obtain ⟨h0, h⟩ := It.ok_or hx
  simp only at h0 h
  subst h0
  rcases h with ⟨rfl, rfl⟩ | ⟨rfl, rfl, hs⟩
  · exact putInt E w X R S so co l hl hS n a 0 c wx hO
  · exact putTxt E w X R S so co l hl hS s hs a 0 c hO
end Go.Proofs.YticclennllklpaaDoor

/- Layer 9: lists of entries, in memory and handed in; calls handed in. -/
namespace Go.Dt
open Go Go.RowKit Go.Own Go.ChangeShapes Go.WideShapes Go.Deep

instance : Inhabited En := ⟨⟨⟨0, 0, .empty, []⟩, 0⟩⟩
def entV (e : En) (a : Option Addr) (c : Nat) : List Value := [.int .i64 e.d.k, .int .i64 e.d.n, .string e.d.s, .slice a e.d.l.length c, .int .i64 e.t]
/-- Entries lie at sa, in memory that I lists. -/
def EntsAt (E : World) (I : Fr) (sa : Option Addr) (l : List En) : Prop :=
  ∃ (ia : Nat → Option Addr) (ic : Nat → Nat), (∀ (Y : Fr) (w : World), Own E w (I ++ Y) → ∀ i (hi : i < l.length), ∃ ad, sa = some ad ∧ ∀ j u, (entV (l[i]'hi) (ia i) (ic i))[j]? = some u → w.cell? ((ad.add (i * 5)).add j) = some u) ∧
    ∀ i (hi : i < l.length), ItemsAt E I (ia i) (l[i]'hi).d.l
theorem EntsAt.nil (E : World) (I : Fr) (sa : Option Addr) : EntsAt E I sa [] := ⟨fun _ => none, fun _ => 0, fun _ _ _ i hi => absurd hi (Nat.not_lt_zero i), fun i hi => absurd hi (Nat.not_lt_zero i)⟩
theorem EntsAt.of {E : World} {I J K : Fr} {sa : Option Addr} {l : List En} (h : EntsAt E I sa l) (hp : J.Perm (I ++ K)) : EntsAt E J sa l := by
  obtain ⟨ia, ic, h1, h2⟩ := h
  refine ⟨ia, ic, fun Y w hO => h1 (K ++ Y) w ?_, fun i hi => (h2 i hi).of hp⟩
  rw [← List.append_assoc]
  exact hO.perm (List.Perm.append_right Y hp)
/-- The i-th of them. -/
theorem EntsAt.get {E w : World} {I Y : Fr} {sa : Option Addr} {l : List En} (h : EntsAt E I sa l) (hO : Own E w (I ++ Y)) {i : Nat} (hi : i < l.length) :
    ∃ ad a c, sa = some ad ∧ (∀ (Y : Fr) (w : World), Own E w (I ++ Y) → ∀ j u, (entV (l[i]'hi) a c)[j]? = some u → w.cell? ((ad.add (i * 5)).add j) = some u) ∧ ItemsAt E I a (l[i]'hi).d.l := by
  obtain ⟨ia, ic, h1, h2⟩ := h
  obtain ⟨ad, rfl, _⟩ := h1 Y w hO i hi
  refine ⟨ad, ia i, ic i, rfl, fun Y w hO j u hj => ?_, h2 i hi⟩
  obtain ⟨ad', e, h3⟩ := h1 Y w hO i hi
  cases e
  exact h3 j u hj
section
variable {H : Type} {enc : TypeId × Value → H} {P : Program} {w : World} {base : Nat} {spare : Nat → Bool} {held : Bool}
/-- A slice: each element a row of cells of the world, read as data. -/
theorem open_rowsE {t e : TypeId} {k fuel : Nat} {v : Value} {x : DataW H × List MemPlace} (ht : P.underlying t = some (.slice e)) (hC : P.cellsOf e = k) (h : DataW.trod enc P w base spare held fuel t [v] = some x) :
    ∃ (sa : Option Addr) (len cap : Nat), v = .slice sa len cap ∧ len ≤ cap ∧ cap ≤ maxLen ∧ (sa = none → len = 0 ∧ cap = 0) ∧ (len = 0 ∨ ∃ es sp, x.1 = .slice es sp ∧ es.length = len) ∧
      ∀ i, i < len → ∃ ad vs n y, sa = some ad ∧ vs.length = k ∧ RowAt w (ad.add (i * k)) vs ∧ DataW.trod enc P w base spare held n e vs = some y := by
  rcases open_slice ht h with ⟨h0, hx⟩ | ⟨a, len, cap, m, n, D, Pl, hcs, hb, hl, hm, hmm, hx, hi⟩
  · refine ⟨none, 0, 0, by simpa using h0, by omega, by simp [maxLen], fun _ => ⟨rfl, rfl⟩, .inl rfl, fun i hi => absurd hi (by omega)⟩
  · refine ⟨some a, len, cap, by simpa using hcs, hl, hm, by simp, .inr ⟨_, _, by rw [hx], by simp⟩, fun i him => ?_⟩
    have hlm : len ≤ m := by rw [hmm]; split <;> omega
    obtain ⟨cs', hc, ht'⟩ := hi i (by omega)
    rw [hC] at hc
    obtain ⟨_, hcl, hat⟩ := World.cells?_some hc
    refine ⟨a, cs', _, _, rfl, hcl, fun j u hj => ?_, ht'⟩
    have hjl : j < cs'.length := (List.getElem?_eq_some_iff.1 hj).1
    rw [hat j (by omega), hj]
end
end Go.Dt
namespace Go.Proofs.YticclennllklpaaDoor
open Go Go.RowKit Go.Own Go.Dt Go.ChangeShapes Go.WideShapes Go.Deep
section
variable {H : Type} {enc : TypeId × Value → H} {W : World} {spare : Nat → Bool}
set_option maxRecDepth 100000 in
theorem openEnts {fuel : Nat} {v : Value} {x : DataW H × List MemPlace} (h : DataW.trod enc Tryd.prog W 0 spare true fuel 22 [v] = some x) :
    ∃ (sa : Option Addr) (cap : Nat) (l : List En), v = .slice sa l.length cap ∧ l.length ≤ cap ∧ EntsAt W (oldFr W) sa l ∧ (∀ e ∈ l, e.d.wf ∧ i64 e.t) ∧ (l.length = 0 ∨ ∃ es sp, x.1 = .slice es sp ∧ es.length = l.length) := by
  obtain ⟨sa, len, cap, rfl, hlc, _, _, hx, hr⟩ := open_rowsE Tryd.underlying22 cE5 h
  have : ∀ i, i < len → ∃ o : En × Option Addr × Nat, (∃ ad, sa = some ad ∧ RowAt W (ad.add (i * 5)) (entV o.1 o.2.1 o.2.2)) ∧ (o.1.d.wf ∧ i64 o.1.t) ∧ ItemsAt W (oldFr W) o.2.1 o.1.d.l := by
    intro i hi
    obtain ⟨ad, vs, n, y, rfl, hvl, hrow, ht⟩ := hr i hi
    obtain ⟨e, ea, ec, hc, hw, hti, hlc, hI⟩ := openEn ht
    subst hc
    exact ⟨(e, ea, ec), ⟨ad, rfl, hrow⟩, ⟨hw, hti⟩, hI⟩
  obtain ⟨L, hL, hp⟩ := exists_list this
  subst hL
  refine ⟨sa, cap, L.map (·.1), by rw [List.length_map], by rw [List.length_map]; exact hlc, ⟨fun i => (L[i]?.map (·.2.1)).getD none, fun i => (L[i]?.map (·.2.2)).getD 0, fun Y w hO i hi => ?_, fun i hi => ?_⟩, fun x hx => ?_, by rw [List.length_map]; exact hx⟩
  · have hi' : i < L.length := by simpa using hi
    obtain ⟨⟨ad, h1, h2⟩, _⟩ := hp i hi'
    refine ⟨ad, h1, fun j u hj => h2.at hO j u ?_⟩
    rw [List.getElem_map] at hj
    simp only [List.getElem?_eq_getElem hi', Option.map_some, Option.getD_some] at hj
    exact hj
  · have hi' : i < L.length := by simpa using hi
    have := (hp i hi').2.2
    rw [List.getElem_map]
    simp only [List.getElem?_eq_getElem hi', Option.map_some, Option.getD_some]
    exact this
  · obtain ⟨o, ho, rfl⟩ := List.mem_map.1 hx
    obtain ⟨i, hi, rfl⟩ := List.mem_iff_getElem.1 ho
    exact (hp i hi).2.1
end
end Go.Proofs.YticclennllklpaaDoor

/- Layer 9: the reference: Encoded, Ahead. -/
namespace Go.Proofs.YticclennllklpaaDoor
open Go Go.RowKit Go.Own Go.Dt

theorem bytes_lt : ∀ (x y : List UInt8), Op.bytesLess x y = decide (x < y)
  | [], [] => by simp [Op.bytesLess]
  | _ :: _, [] => by simp [Op.bytesLess]
  | [], _ :: _ => by simp [Op.bytesLess]
  | a :: x, b :: y => by
    rw [Op.bytesLess, bytes_lt x y]
    simp only [List.cons_lt_cons_iff]
    by_cases h1 : a < b <;> by_cases h2 : a = b <;> by_cases h3 : x < y <;> simp [h1, h2, h3]
theorem two_sl (b : Nat) (l : List It) (hl : l.length ≤ 8) : Sl 5 1 (some ⟨b, 0, none⟩) (preE l 0).length 2 (bytesV (preE l 0)) (pt b (.cells #[.int .u8 3, .int .u8 l.length] 5 (0, 0))) := by
  refine ⟨rfl, Nat.le_refl _, by simp [maxLen], .inr ⟨b, [], rfl, rfl, ?_⟩⟩
  have hcv : (l.length : Int) = ((UInt8.ofNat l.length).toNat : Int) := by rw [UInt8.toNat_ofNat']; omega
  rw [List.append_nil, hcv]
  rfl
set_option maxRecDepth 100000 in
set_option maxHeartbeats 16000000 in
theorem refEncList (E w : World) (X R I : Fr) (sa : Option Addr) (cap : Nat) (l : List It) (hl : l.length ≤ 8) (hok : ∀ x ∈ l, x.ok = true) (hw : ∀ x ∈ l, Dt.i64 x.k ∧ Dt.i64 x.n) (hI : ItemsAt E I sa l) (hO : Own E w X) [hp : Pick X I R] :
    Calls Tryd.prog 37 #[.agg #[.int .i64 3, .int .i64 0, .string ByteArray.empty, .slice sa l.length cap]] w fun e w' => e = .returned (.string ⟨(preE l l.length).toArray⟩) ∧ Own E w' (I ++ R) := by
  replace hO := hO.perm hp.perm
  clear hp
  have HOK := Lib.hid hok
  have HW := Lib.hid hw
  have HL8 := Lib.hid hl
  have hcv : (l.length : Int) % 256 = l.length := by omega
  clear hok hw
  go_enter Tryd.func37, Tryd.ntmps37
  go_wp2_with (first | (refine at_box ?_; go_must (refine own_box (v := ?_) hO ?_ ?_ ?_; rotate_left; (· rfl); (· ((conv => lhs; whnf); try exact rfl)); clear hO; (try clear hF); intro ob _ hO; (try simp only [Value.cells] at hO); ((try simp only [List.nil_append, List.append_nil] at hO); have hF := Own.cells hO; simp only [cellsOf_append, cellsOf_pt] at hF); simp only [Act.put, List.setIfInBounds_toArray, List.set_cons_zero, List.set_cons_succ])) | (refine at_bs ?_; go_must (refine own_buildN (cells := ?_) sltB9 hO ?_ ?_ ?_ ?_ ?_ ?_; rotate_left; (· rfl); (· decide); (· decide); (· rfl); (· simp [Instr.fill, Act.eval, Value.cells, Array.replicate_succ]; exact rfl); clear hO; (try clear hF); intro b3 _ hO; ((try simp only [List.nil_append, List.append_nil] at hO); have hF := Own.cells hO; simp only [cellsOf_append, cellsOf_pt] at hF); simp only [Act.put, List.setIfInBounds_toArray, List.set_cons_zero, List.set_cons_succ])))
  (try rw [hcv] at hO)
  have hS0 := two_sl b3 l hl
  replace hO : Own E _ (pt b3 (.cells #[.int .u8 3, .int .u8 l.length] 5 (0, 0)) ++ (pt ob (.cells #[.int .i64 3, .int .i64 0, .string ByteArray.empty, .slice sa l.length cap] 30 (0, 0)) ++ (I ++ R))) := hO.as _
  have hO1 := hO
  clear hO hF hl hcv
  go_loopw [3, 4] (fun o i wr => ∃ (j : Nat) (so : Option Addr) (co : Nat) (SO : Fr), i = .int .i64 (j : Int) ∧ j ≤ l.length ∧ o = .slice so (preE l j).length co ∧ Sl 5 1 so (preE l j).length co (bytesV (preE l j)) SO ∧ Own E wr (SO ++ (pt ob (.cells #[.int .i64 3, .int .i64 0, .string ByteArray.empty, .slice sa l.length cap] 30 (0, 0)) ++ (I ++ R)))) (fun _ i _ => l.length - (intOf i).toNat)
  case atStart => exact ⟨0, _, _, _, rfl, Nat.zero_le _, rfl, hS0, hO1⟩
  case round =>
    clear hO1 hS0
    obtain ⟨j, so, co, SO, rfl, hj, rfl, hSO, hO⟩ := hrel
    have hF := Own.cells hO; simp only [cellsOf_append, cellsOf_pt] at hF
    have hl := HL8.out
    have hpl := preE_len HOK.out j (by omega)
    by_cases hlt : j < l.length
    · have h1 : (j : Int) < l.length := by omega
      have h2 : (0 : Int) ≤ j := by omega
      have hw0 : IntKind.i64.wrap ((j : Int) + 1) = (j : Int) + 1 := wi_1 j (by omega)
      have hw1 : wrap64 ((j : Int) + 1) = (j : Int) + 1 := w64_1 j (by omega)
      obtain ⟨ad, a, c, rfl, hsc⟩ := items_cells hI (hO.as (I ++ R)) hlt
      have hps := preE_succ l j hlt
      obtain ⟨x, hx⟩ : ∃ x, l[j]'hlt = x := ⟨_, rfl⟩
      rw [hx] at hsc hps
      have hxm : x ∈ l := hx ▸ List.getElem_mem hlt
      have hxo := HOK.out x hxm
      have hxw := (HW.out x hxm).2
      have HSC := Lib.hid hsc
      have HPS := Lib.hid hps
      have HXO := Lib.hid hxo
      have HXW := Lib.hid hxw
      have HLT := Lib.hid hlt
      clear hx hsc hps hxm hxo hxw hlt hj hl
      generalize hpl2 : preE l j = pl at hSO hpl ⊢
      rw [hpl2] at HPS
      clear hpl2
      go_wp2_with (first | (refine at_load (t := 30) ?_; refine own_loadC (ad := ad.add (j * 4)) (cs := [.int .i64 x.k, .int .i64 x.n, .string x.s, .slice a x.m c]) ?_ (HSC.out _ _ (hO.as (I ++ R))) ?_ ?_ ?_ ?_; (· rfl); (· ((conv => lhs; whnf); try exact rfl)); (· simp; done); (· simp; done); simp only [Act.put, List.setIfInBounds_toArray, List.set_cons_zero, List.set_cons_succ]))
      refine (putItem E _ _ _ SO so co pl (by omega) hSO x HXO.out HXW.out a c hO).mono ?_
      clear hO hF hSO
      rintro e w8 ⟨so2, co2, SO2, rfl, hSO2, hO⟩
      rw [← HPS.out] at hSO2 ⊢
      go_wp2_with fail
      have hlt := HLT.out
      go_roundw
      case rel => exact ⟨j + 1, so2, co2, SO2, by go_num, hlt, rfl, hSO2, hO⟩
      case measure => (clear hw0 hw1; simp [intOf]; omega)
    · obtain rfl : j = l.length := by omega
      have h1 : ¬ (l.length : Int) < l.length := by omega
      clear hlt hj hl
      generalize hpl2 : preE l l.length = pl at hSO hpl ⊢
      go_wp2_with (refine at_conv ?_; go_must (refine own_bytes_str (e := 5) (ad := so) (n := pl.length) (cap := co) (l := pl) (by kernel_rfl) (by kernel_rfl) (by kernel_rfl) ?_ ?_ ?_ ?_ ?_ ?_; (· rfl); (· rfl); (· rfl); (· intro b hb j v hj; cases hb; obtain ⟨hlt, hv⟩ := List.getElem?_eq_some_iff.1 hj; rw [hSO.cell hO b rfl j hlt, hv]); (· intro h; subst h; rcases hSO.2.2.2 with ⟨_, hc, _⟩ | ⟨_, _, hb, _⟩ <;> first | (have := hSO.2.1; omega) | cases hb); simp only [Act.put, List.setIfInBounds_toArray, List.set_cons_zero, List.set_cons_succ]))
      go_ret
      exact ⟨rfl, hO.as _⟩
set_option maxRecDepth 100000 in
set_option maxHeartbeats 16000000 in
theorem refEncItem (E w : World) (X R : Fr) (x : It) (hx3 : x.k ≠ 3) (hx : x.ok = true) (wx : Dt.i64 x.n) (a : Option Addr) (c : Nat) (hO : Own E w X) :
    Calls Tryd.prog 37 #[.agg #[.int .i64 x.k, .int .i64 x.n, .string x.s, .slice a x.m c]] w fun e w' => e = .returned (.string ⟨x.enc.toArray⟩) ∧ Own E w' X := by
  have HX := Lib.hid (And.intro hx wx)
  have hk : (x.k == 3) = false := beq_eq_false_iff_ne.2 hx3
  clear hx wx hx3
  go_enter Tryd.func37, Tryd.ntmps37
  go_wp2_with (first | (refine at_box ?_; go_must (refine own_box (v := ?_) hO ?_ ?_ ?_; rotate_left; (· rfl); (· ((conv => lhs; whnf); try exact rfl)); clear hO; (try clear hF); intro ob _ hO; (try simp only [Value.cells] at hO); ((try simp only [List.nil_append, List.append_nil] at hO); have hF := Own.cells hO; simp only [cellsOf_append, cellsOf_pt] at hF); simp only [Act.put, List.setIfInBounds_toArray, List.set_cons_zero, List.set_cons_succ])) | (refine at_load ?_; refine own_loadS (b := ?_) (cs := ?_) (e := ?_) (f := ?_) hO ?_ ?_ ?_ ?_ ?_ ?_; rotate_left 4; (· rfl); (· rfl); (· exact inferInstance); (· simp; done); (· simp [Value.cells]; done); simp only [Act.put, List.setIfInBounds_toArray, List.set_cons_zero, List.set_cons_succ]))
  refine (putItem E _ _ _ [] none 0 [] (Nat.zero_le _) (Sl.nil _ _) x HX.out.1 HX.out.2 a c hO).mono ?_
  clear hO hF
  rintro e w8 ⟨so, co, SO, rfl, hSO, hO⟩
  rw [List.nil_append] at hSO ⊢
  obtain ⟨pl, hpl⟩ : ∃ pl, x.enc = pl := ⟨_, rfl⟩
  rw [hpl] at hSO ⊢
  have HPL := Lib.hid hpl
  clear hpl
  go_wp2_with (refine at_conv ?_; go_must (refine own_bytes_str (e := 5) (ad := so) (n := pl.length) (cap := co) (l := pl) (by kernel_rfl) (by kernel_rfl) (by kernel_rfl) ?_ ?_ ?_ ?_ ?_ ?_; (· rfl); (· rfl); (· rfl); (· intro b hb j v hj; cases hb; obtain ⟨hlt, hv⟩ := List.getElem?_eq_some_iff.1 hj; rw [hSO.cell hO b rfl j hlt, hv]); (· intro h; subst h; rcases hSO.2.2.2 with ⟨_, hc, _⟩ | ⟨_, _, hb, _⟩ <;> first | (have := hSO.2.1; omega) | cases hb); simp only [Act.put, List.setIfInBounds_toArray, List.set_cons_zero, List.set_cons_succ]))
  go_ret
  exact ⟨by rw [HPL.out]; rfl, hO.as _⟩
theorem refEncoded (E w : World) (X R I : Fr) (d : Dt) (sa : Option Addr) (cap : Nat) (hd : d.ok = true) (hw : d.wf) (hI : ItemsAt E I sa d.l) (hO : Own E w X) [hp : Pick X I R] :
    Calls Tryd.prog 37 #[.agg #[.int .i64 d.k, .int .i64 d.n, .string d.s, .slice sa d.l.length cap]] w fun e w' => e = .returned (.string (encB d)) ∧ Own E w' (I ++ R) := by
  replace hO := hO.perm hp.perm
  unfold encB
  by_cases k3 : d.k = 3
  · obtain ⟨h1, h2, h3, h4⟩ := Dt.ok_list k3 hd
    obtain ⟨k, n, s, l⟩ := d
    simp only at k3 h1 h2 h3 h4
    subst k3 h1 h2
    have e1 : Dt.enc ⟨3, 0, ByteArray.empty, l⟩ = preE l l.length := by
      unfold Dt.enc preE
      rw [if_pos rfl, List.take_length]
    rw [e1]
    exact refEncList E w _ R I sa cap l h3 h4 hw.l hI hO
  · have h1 := Dt.ok_one k3 hd
    have e1 : d.enc = d.hd.enc := by unfold Dt.enc; rw [if_neg k3]
    rw [e1]
    exact refEncItem E w _ R d.hd k3 h1 hw.n sa cap hO
set_option maxRecDepth 100000 in
set_option maxHeartbeats 16000000 in
theorem refAhead (E w : World) (X R I : Fr) (a b : En) (sa sb : Option Addr) (ca cb : Nat) (ha : a.d.ok = true) (hb : b.d.ok = true) (wa : a.d.wf) (wb : b.d.wf) (hIa : ItemsAt E I sa a.d.l) (hIb : ItemsAt E I sb b.d.l) (hO : Own E w X) [hp : Pick X I R] :
    Calls Tryd.prog 62 #[.agg #[.int .i64 a.d.k, .int .i64 a.d.n, .string a.d.s, .slice sa a.d.l.length ca, .int .i64 a.t], .agg #[.int .i64 b.d.k, .int .i64 b.d.n, .string b.d.s, .slice sb b.d.l.length cb, .int .i64 b.t]] w fun e w' => e = .returned (.bool (decide (elt a b))) ∧ Own E w' (I ++ R) := by
  replace hO := hO.perm hp.perm
  clear hp
  generalize hz : decide (elt a b) = z
  have HZ := Lib.hid hz
  have HA := Lib.hid (And.intro ha wa)
  have HB := Lib.hid (And.intro hb wb)
  clear hz ha wa hb wb
  go_enter Tryd.func62, Tryd.ntmps62
  go_wp2_with (first | ((have hzz : ab = ab := rfl); clear hzz; (refine at_box ?_; go_must (refine own_box (v := ?_) hO ?_ ?_ ?_; rotate_left; (· rfl); (· ((conv => lhs; whnf); try exact rfl)); clear hO; (try clear hF); intro bb _ hO; (try simp only [Value.cells] at hO); ((try simp only [List.nil_append, List.append_nil] at hO); have hF := Own.cells hO; simp only [cellsOf_append, cellsOf_pt] at hF); simp only [Act.put, List.setIfInBounds_toArray, List.set_cons_zero, List.set_cons_succ]))) | (refine at_box ?_; go_must (refine own_box (v := ?_) hO ?_ ?_ ?_; rotate_left; (· rfl); (· ((conv => lhs; whnf); try exact rfl)); clear hO; (try clear hF); intro ab _ hO; (try simp only [Value.cells] at hO); ((try simp only [List.nil_append, List.append_nil] at hO); have hF := Own.cells hO; simp only [cellsOf_append, cellsOf_pt] at hF); simp only [Act.put, List.setIfInBounds_toArray, List.set_cons_zero, List.set_cons_succ])))
  replace hO : Own E _ (I ++ (pt ab (.cells #[.int .i64 a.d.k, .int .i64 a.d.n, .string a.d.s, .slice sa a.d.l.length ca, .int .i64 a.t] 32 (0, 0)) ++ (pt bb (.cells #[.int .i64 b.d.k, .int .i64 b.d.n, .string b.d.s, .slice sb b.d.l.length cb, .int .i64 b.t] 32 (0, 0)) ++ R))) := hO.as _
  have hF := Own.cells hO; simp only [cellsOf_append, cellsOf_pt] at hF
  (try (go_wp2_with fail))
  refine region_sch (fun w' => Own E w' (pt ab (.cells #[.int .i64 a.d.k, .int .i64 a.d.n, .string a.d.s, .slice sa a.d.l.length ca, .int .i64 a.t] 32 (0, 0)) ++ pt bb (.cells #[.int .i64 b.d.k, .int .i64 b.d.n, .string b.d.s, .slice sb b.d.l.length cb, .int .i64 b.t] 32 (0, 0)))) (.look 0 (.look 1 (.look 3 (.look 4 (.act 2 (.act 5 (.look 6 (.look 7 .done)))))))) (by kernel_rfl) (by kernel_rfl) (fun _ _ d _ _ h => by cases d <;> exact h) ?_ ?_
  · exact hO.drew.as _
  replace hO := hO.drew
  generalize World.drew _ = wdr at hO ⊢
  first | (refine sch_look (o := ?_) (v := ?_) ?_ ?_ ?_ ?_; rotate_left 2; (· ((conv => lhs; whnf); try exact rfl)); (· rfl); (· intro w' hO'; (have hF' := Own.cells hO'; simp only [cellsOf_append, cellsOf_pt] at hF'); go_simp; (try exact rfl)); simp only [Act.put, List.setIfInBounds_toArray, List.set_cons_zero, List.set_cons_succ]) | (refine sch_pass (o := ?_) ?_ ?_ ?_; rotate_left; (· ((conv => lhs; whnf); try exact rfl)); (· rfl); simp only [Act.put, List.setIfInBounds_toArray, List.set_cons_zero, List.set_cons_succ]) | (refine sch_look (o := ?_) (v := .agg ?_) ?_ ?_ ?_ ?_; rotate_left 2; (· ((conv => lhs; whnf); try exact rfl)); (· rfl); (· intro w' hO'; refine run_opLoadS (b := ?_) (cs := ?_) (e := ?_) (f := ?_) hO' ?_ ?_ ?_ ?_; rotate_left 4; (· exact rfl); (· exact inferInstance); (· simp; done); (· simp; done)); simp only [Act.put, List.setIfInBounds_toArray, List.set_cons_zero, List.set_cons_succ])
  first | (refine sch_look (o := ?_) (v := ?_) ?_ ?_ ?_ ?_; rotate_left 2; (· ((conv => lhs; whnf); try exact rfl)); (· rfl); (· intro w' hO'; (have hF' := Own.cells hO'; simp only [cellsOf_append, cellsOf_pt] at hF'); go_simp; (try exact rfl)); simp only [Act.put, List.setIfInBounds_toArray, List.set_cons_zero, List.set_cons_succ]) | (refine sch_pass (o := ?_) ?_ ?_ ?_; rotate_left; (· ((conv => lhs; whnf); try exact rfl)); (· rfl); simp only [Act.put, List.setIfInBounds_toArray, List.set_cons_zero, List.set_cons_succ]) | (refine sch_look (o := ?_) (v := .agg ?_) ?_ ?_ ?_ ?_; rotate_left 2; (· ((conv => lhs; whnf); try exact rfl)); (· rfl); (· intro w' hO'; refine run_opLoadS (b := ?_) (cs := ?_) (e := ?_) (f := ?_) hO' ?_ ?_ ?_ ?_; rotate_left 4; (· exact rfl); (· exact inferInstance); (· simp; done); (· simp; done)); simp only [Act.put, List.setIfInBounds_toArray, List.set_cons_zero, List.set_cons_succ])
  first | (refine sch_look (o := ?_) (v := ?_) ?_ ?_ ?_ ?_; rotate_left 2; (· ((conv => lhs; whnf); try exact rfl)); (· rfl); (· intro w' hO'; (have hF' := Own.cells hO'; simp only [cellsOf_append, cellsOf_pt] at hF'); go_simp; (try exact rfl)); simp only [Act.put, List.setIfInBounds_toArray, List.set_cons_zero, List.set_cons_succ]) | (refine sch_pass (o := ?_) ?_ ?_ ?_; rotate_left; (· ((conv => lhs; whnf); try exact rfl)); (· rfl); simp only [Act.put, List.setIfInBounds_toArray, List.set_cons_zero, List.set_cons_succ]) | (refine sch_look (o := ?_) (v := .agg ?_) ?_ ?_ ?_ ?_; rotate_left 2; (· ((conv => lhs; whnf); try exact rfl)); (· rfl); (· intro w' hO'; refine run_opLoadS (b := ?_) (cs := ?_) (e := ?_) (f := ?_) hO' ?_ ?_ ?_ ?_; rotate_left 4; (· exact rfl); (· exact inferInstance); (· simp; done); (· simp; done)); simp only [Act.put, List.setIfInBounds_toArray, List.set_cons_zero, List.set_cons_succ])
  first | (refine sch_look (o := ?_) (v := ?_) ?_ ?_ ?_ ?_; rotate_left 2; (· ((conv => lhs; whnf); try exact rfl)); (· rfl); (· intro w' hO'; (have hF' := Own.cells hO'; simp only [cellsOf_append, cellsOf_pt] at hF'); go_simp; (try exact rfl)); simp only [Act.put, List.setIfInBounds_toArray, List.set_cons_zero, List.set_cons_succ]) | (refine sch_pass (o := ?_) ?_ ?_ ?_; rotate_left; (· ((conv => lhs; whnf); try exact rfl)); (· rfl); simp only [Act.put, List.setIfInBounds_toArray, List.set_cons_zero, List.set_cons_succ]) | (refine sch_look (o := ?_) (v := .agg ?_) ?_ ?_ ?_ ?_; rotate_left 2; (· ((conv => lhs; whnf); try exact rfl)); (· rfl); (· intro w' hO'; refine run_opLoadS (b := ?_) (cs := ?_) (e := ?_) (f := ?_) hO' ?_ ?_ ?_ ?_; rotate_left 4; (· exact rfl); (· exact inferInstance); (· simp; done); (· simp; done)); simp only [Act.put, List.setIfInBounds_toArray, List.set_cons_zero, List.set_cons_succ])
  (refine sch_act (o := ?_) ?_ ?_; rotate_left; (· ((conv => lhs; whnf); try exact rfl)))
  go_wp2_with fail
  refine (refEncoded E _ _ (pt ab (.cells #[.int .i64 a.d.k, .int .i64 a.d.n, .string a.d.s, .slice sa a.d.l.length ca, .int .i64 a.t] 32 (0, 0)) ++ (pt bb (.cells #[.int .i64 b.d.k, .int .i64 b.d.n, .string b.d.s, .slice sb b.d.l.length cb, .int .i64 b.t] 32 (0, 0)) ++ R)) I a.d sa ca HA.out.1 HA.out.2 hIa (hO.as (I ++ (pt ab (.cells #[.int .i64 a.d.k, .int .i64 a.d.n, .string a.d.s, .slice sa a.d.l.length ca, .int .i64 a.t] 32 (0, 0)) ++ (pt bb (.cells #[.int .i64 b.d.k, .int .i64 b.d.n, .string b.d.s, .slice sb b.d.l.length cb, .int .i64 b.t] 32 (0, 0)) ++ R))))).mono ?_
  clear hO hF
  rintro e w3 ⟨rfl, hO⟩
  have hF := Own.cells hO; simp only [cellsOf_append, cellsOf_pt] at hF
  go_wp2_with fail
  refine ⟨hO.as _, ?_⟩
  (refine sch_act (o := ?_) ?_ ?_; rotate_left; (· ((conv => lhs; whnf); try exact rfl)))
  go_wp2_with fail
  refine (refEncoded E _ _ (pt ab (.cells #[.int .i64 a.d.k, .int .i64 a.d.n, .string a.d.s, .slice sa a.d.l.length ca, .int .i64 a.t] 32 (0, 0)) ++ (pt bb (.cells #[.int .i64 b.d.k, .int .i64 b.d.n, .string b.d.s, .slice sb b.d.l.length cb, .int .i64 b.t] 32 (0, 0)) ++ R)) I b.d sb cb HB.out.1 HB.out.2 hIb (hO.as (I ++ (pt ab (.cells #[.int .i64 a.d.k, .int .i64 a.d.n, .string a.d.s, .slice sa a.d.l.length ca, .int .i64 a.t] 32 (0, 0)) ++ (pt bb (.cells #[.int .i64 b.d.k, .int .i64 b.d.n, .string b.d.s, .slice sb b.d.l.length cb, .int .i64 b.t] 32 (0, 0)) ++ R))))).mono ?_
  clear hO hF
  rintro e w4 ⟨rfl, hO⟩
  have hF := Own.cells hO; simp only [cellsOf_append, cellsOf_pt] at hF
  go_wp2_with fail
  refine ⟨hO.as _, ?_⟩
  first | (refine sch_look (o := ?_) (v := ?_) ?_ ?_ ?_ ?_; rotate_left 2; (· ((conv => lhs; whnf); try exact rfl)); (· rfl); (· intro w' hO'; (have hF' := Own.cells hO'; simp only [cellsOf_append, cellsOf_pt] at hF'); go_simp; (try exact rfl)); simp only [Act.put, List.setIfInBounds_toArray, List.set_cons_zero, List.set_cons_succ]) | (refine sch_pass (o := ?_) ?_ ?_ ?_; rotate_left; (· ((conv => lhs; whnf); try exact rfl)); (· rfl); simp only [Act.put, List.setIfInBounds_toArray, List.set_cons_zero, List.set_cons_succ]) | (refine sch_look (o := ?_) (v := .agg ?_) ?_ ?_ ?_ ?_; rotate_left 2; (· ((conv => lhs; whnf); try exact rfl)); (· rfl); (· intro w' hO'; refine run_opLoadS (b := ?_) (cs := ?_) (e := ?_) (f := ?_) hO' ?_ ?_ ?_ ?_; rotate_left 4; (· exact rfl); (· exact inferInstance); (· simp; done); (· simp; done)); simp only [Act.put, List.setIfInBounds_toArray, List.set_cons_zero, List.set_cons_succ])
  first | (refine sch_look (o := ?_) (v := ?_) ?_ ?_ ?_ ?_; rotate_left 2; (· ((conv => lhs; whnf); try exact rfl)); (· rfl); (· intro w' hO'; (have hF' := Own.cells hO'; simp only [cellsOf_append, cellsOf_pt] at hF'); go_simp; (try exact rfl)); simp only [Act.put, List.setIfInBounds_toArray, List.set_cons_zero, List.set_cons_succ]) | (refine sch_pass (o := ?_) ?_ ?_ ?_; rotate_left; (· ((conv => lhs; whnf); try exact rfl)); (· rfl); simp only [Act.put, List.setIfInBounds_toArray, List.set_cons_zero, List.set_cons_succ]) | (refine sch_look (o := ?_) (v := .agg ?_) ?_ ?_ ?_ ?_; rotate_left 2; (· ((conv => lhs; whnf); try exact rfl)); (· rfl); (· intro w' hO'; refine run_opLoadS (b := ?_) (cs := ?_) (e := ?_) (f := ?_) hO' ?_ ?_ ?_ ?_; rotate_left 4; (· exact rfl); (· exact inferInstance); (· simp; done); (· simp; done)); simp only [Act.put, List.setIfInBounds_toArray, List.set_cons_zero, List.set_cons_succ])
  refine sch_done ?_
  have hlss : Op.bytesLess (encB a.d).toList (encB b.d).toList = decide (a.d.enc < b.d.enc) := by rw [bytes_lt, Lib.toList_data, Lib.toList_data]; rfl
  have heq := encB_beq a.d b.d
  by_cases h1 : a.d.enc < b.d.enc
  · rw [decide_eq_true h1] at hlss
    have HH := Lib.hid h1
    clear heq h1
    go_wp2_with fail
    go_ret
    exact ⟨by rw [← HZ.out, decide_eq_true (.inl HH.out)]; rfl, hO.as _⟩
  · rw [decide_eq_false h1] at hlss
    have HH := Lib.hid h1
    by_cases h2 : a.d.enc = b.d.enc
    · rw [decide_eq_true h2] at heq
      have HH2 := Lib.hid h2
      clear h1 h2
      by_cases h3 : a.t < b.t
      · go_wp2_with fail
        go_ret
        exact ⟨by rw [← HZ.out, decide_eq_true (.inr ⟨HH2.out, h3⟩)]; rfl, hO.as _⟩
      · have h4 : decide (a.t < b.t) = false := decide_eq_false h3
        have H3 := Lib.hid h3
        go_wp2_with fail
        go_ret
        exact ⟨by rw [← HZ.out, decide_eq_false (fun h => h.elim HH.out fun h => absurd h.2 (Int.not_lt.2 H3.out))]; rfl, hO.as _⟩
    · rw [decide_eq_false h2] at heq
      have HH2 := Lib.hid h2
      clear h1 h2
      go_wp2_with fail
      go_ret
      exact ⟨by rw [← HZ.out, decide_eq_false (fun h => h.elim HH.out fun h => HH2.out h.1)]; rfl, hO.as _⟩
end Go.Proofs.YticclennllklpaaDoor

/- Plain: entries in order are told by what is among them. -/
namespace Go.Dt
open Go

theorem up_ext : ∀ {a b : List En}, a.Pairwise elt → b.Pairwise elt → (∀ e, e ∈ a ↔ e ∈ b) → a = b
  | [], [], _, _, _ => rfl
  | [], y :: b, _, _, h => absurd ((h y).2 (List.mem_cons_self ..)) (by simp)
  | x :: a, [], _, _, h => absurd ((h x).1 (List.mem_cons_self ..)) (by simp)
  | x :: a, y :: b, ha, hb, h => by
    have ha' := List.pairwise_cons.1 ha
    have hb' := List.pairwise_cons.1 hb
    have hxy : x = y := by
      rcases List.mem_cons.1 ((h x).1 (List.mem_cons_self ..)) with h1 | h1
      · exact h1
      rcases List.mem_cons.1 ((h y).2 (List.mem_cons_self ..)) with h2 | h2
      · exact h2.symm
      exact (elt_asymm (hb'.1 x h1) (ha'.1 y h2)).elim
    subst hxy
    rw [up_ext ha'.2 hb'.2 fun e => ⟨fun he => ?_, fun he => ?_⟩]
    · rcases List.mem_cons.1 ((h e).1 (List.mem_cons_of_mem _ he)) with rfl | h1
      · exact (elt_irrefl _ (ha'.1 _ he)).elim
      · exact h1
    · rcases List.mem_cons.1 ((h e).2 (List.mem_cons_of_mem _ he)) with rfl | h1
      · exact (elt_irrefl _ (hb'.1 _ he)).elim
      · exact h1
theorem wiE_mem (e x : En) (l : List En) : x ∈ wiE e l ↔ x = e ∨ x ∈ l := by
  rw [(wiE_perm e l).mem_iff, List.mem_cons]
/-- The places of a list, turned by a number and backward, are all places. -/
theorem turned {n k i : Nat} (hk : k < n) (hi : i < n) : ∃ j, j < n ∧ (n - 1 - j + k) % n = i := by
  by_cases h : k ≤ i
  · refine ⟨n - 1 - (i - k), by omega, ?_⟩
    have : n - 1 - (n - 1 - (i - k)) + k = i := by omega
    rw [this, Nat.mod_eq_of_lt hi]
  · refine ⟨k - 1 - i, by omega, ?_⟩
    have : n - 1 - (k - 1 - i) + k = i + n := by omega
    rw [this, Nat.add_mod_right, Nat.mod_eq_of_lt hi]
end Go.Dt
