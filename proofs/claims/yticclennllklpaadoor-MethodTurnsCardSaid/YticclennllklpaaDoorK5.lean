/- Layer 9: the reference: simple, May. -/
import Derived.Test.YticclennllklpaaDoorK4
import Derived.Test.YticclennllklpaaDoorK2
set_option linter.all false
/- Layer 9: the reference: simple, May. -/
namespace Go.Proofs.YticclennllklpaaDoor
open Go Go.RowKit Go.Own Go.Dt

set_option maxRecDepth 100000 in
set_option maxHeartbeats 16000000 in
theorem refSimple (E w : World) (X : Fr) (x : It) (a : Option Addr) (c : Nat) (hO : Own E w X) :
    Calls Tryd.prog 56 #[.agg #[.int .i64 x.k, .int .i64 x.n, .string x.s, .slice a x.m c]] w fun e w' => e = .returned (.bool x.ok) ∧ Own E w' X := by
  obtain ⟨k, n, s, m⟩ := x
  show Calls Tryd.prog 56 #[.agg #[.int .i64 k, .int .i64 n, .string s, .slice a m c]] w _
  generalize hz : It.ok ⟨k, n, s, m⟩ = z
  unfold It.ok at hz
  simp only at hz
  have hs : s = ByteArray.empty ∨ ((s.toList == []) = false ∧ (s.size == 0) = false) := by
    by_cases h : s.size = 0
    · exact .inl (size0 h)
    · exact .inr ⟨ne_toList h, beq_eq_false_iff_ne.2 h⟩
  by_cases hm : m = 0
  rotate_left
  · rw [beq_eq_false_iff_ne.2 hm, Bool.false_and] at hz
    obtain rfl : false = z := hz
    have hm1 : (0 : Int) < (m : Int) := by omega
    clear hm hs
    go_enter Tryd.func56, Tryd.ntmps56
    go_wp2_with (first | (refine at_box ?_; go_must (refine own_box (v := ?_) hO ?_ ?_ ?_; rotate_left; (· rfl); (· ((conv => lhs; whnf); try exact rfl)); clear hO; (try clear hF); intro ob _ hO; (try simp only [Value.cells] at hO); ((try simp only [List.nil_append, List.append_nil] at hO); have hF := Own.cells hO; simp only [cellsOf_append, cellsOf_pt] at hF); simp only [Act.put, List.setIfInBounds_toArray, List.set_cons_zero, List.set_cons_succ])))
    go_ret
    exact ⟨rfl, hO.as _⟩
  subst hm
  rw [show ((0 : Nat) == 0) = true from rfl, Bool.true_and] at hz
  by_cases k1 : k = 1
  · subst k1
    rcases hs with rfl | ⟨hs, hs2⟩
    · obtain rfl : true = z := hz
      go_enter Tryd.func56, Tryd.ntmps56
      go_wp2_with (first | (refine at_box ?_; go_must (refine own_box (v := ?_) hO ?_ ?_ ?_; rotate_left; (· rfl); (· ((conv => lhs; whnf); try exact rfl)); clear hO; (try clear hF); intro ob _ hO; (try simp only [Value.cells] at hO); ((try simp only [List.nil_append, List.append_nil] at hO); have hF := Own.cells hO; simp only [cellsOf_append, cellsOf_pt] at hF); simp only [Act.put, List.setIfInBounds_toArray, List.set_cons_zero, List.set_cons_succ])))
      go_ret
      exact ⟨rfl, hO.as _⟩
    · have hz2 : false = z := by rw [← hz, hs2]; simp
      subst hz2
      clear hz hs2
      go_enter Tryd.func56, Tryd.ntmps56
      go_wp2_with (first | (refine at_box ?_; go_must (refine own_box (v := ?_) hO ?_ ?_ ?_; rotate_left; (· rfl); (· ((conv => lhs; whnf); try exact rfl)); clear hO; (try clear hF); intro ob _ hO; (try simp only [Value.cells] at hO); ((try simp only [List.nil_append, List.append_nil] at hO); have hF := Own.cells hO; simp only [cellsOf_append, cellsOf_pt] at hF); simp only [Act.put, List.setIfInBounds_toArray, List.set_cons_zero, List.set_cons_succ])))
      go_ret
      exact ⟨rfl, hO.as _⟩
  have k1b : (k == 1) = false := beq_eq_false_iff_ne.2 k1
  rw [k1b, Bool.false_and, Bool.false_or] at hz
  clear hs k1
  by_cases k2 : k = 2
  · subst k2
    by_cases hn : n = 0
    · subst hn
      have hz1 : decide (s.size ≤ 32) = z := hz
      by_cases h32 : s.size ≤ 32
      · rw [decide_eq_true h32] at hz1
        subst hz1
        have h5 : (s.size : Int) ≤ 32 := by omega
        clear hz h32 k1b
        go_enter Tryd.func56, Tryd.ntmps56
        go_wp2_with (first | (refine at_box ?_; go_must (refine own_box (v := ?_) hO ?_ ?_ ?_; rotate_left; (· rfl); (· ((conv => lhs; whnf); try exact rfl)); clear hO; (try clear hF); intro ob _ hO; (try simp only [Value.cells] at hO); ((try simp only [List.nil_append, List.append_nil] at hO); have hF := Own.cells hO; simp only [cellsOf_append, cellsOf_pt] at hF); simp only [Act.put, List.setIfInBounds_toArray, List.set_cons_zero, List.set_cons_succ])))
        go_ret
        exact ⟨rfl, hO.as _⟩
      · rw [decide_eq_false h32] at hz1
        subst hz1
        have h5 : ¬ (s.size : Int) ≤ 32 := by omega
        have h6 : decide ((s.size : Int) ≤ 32) = false := decide_eq_false h5
        clear hz h32 k1b
        go_enter Tryd.func56, Tryd.ntmps56
        go_wp2_with (first | (refine at_box ?_; go_must (refine own_box (v := ?_) hO ?_ ?_ ?_; rotate_left; (· rfl); (· ((conv => lhs; whnf); try exact rfl)); clear hO; (try clear hF); intro ob _ hO; (try simp only [Value.cells] at hO); ((try simp only [List.nil_append, List.append_nil] at hO); have hF := Own.cells hO; simp only [cellsOf_append, cellsOf_pt] at hF); simp only [Act.put, List.setIfInBounds_toArray, List.set_cons_zero, List.set_cons_succ])))
        go_ret
        exact ⟨rfl, hO.as _⟩
    · have hn2 : (n == 0) = false := beq_eq_false_iff_ne.2 hn
      rw [hn2, Bool.and_false, Bool.false_and] at hz
      subst hz
      clear hn k1b
      go_enter Tryd.func56, Tryd.ntmps56
      go_wp2_with (first | (refine at_box ?_; go_must (refine own_box (v := ?_) hO ?_ ?_ ?_; rotate_left; (· rfl); (· ((conv => lhs; whnf); try exact rfl)); clear hO; (try clear hF); intro ob _ hO; (try simp only [Value.cells] at hO); ((try simp only [List.nil_append, List.append_nil] at hO); have hF := Own.cells hO; simp only [cellsOf_append, cellsOf_pt] at hF); simp only [Act.put, List.setIfInBounds_toArray, List.set_cons_zero, List.set_cons_succ])))
      go_ret
      exact ⟨rfl, hO.as _⟩
  have k2b : (k == 2) = false := beq_eq_false_iff_ne.2 k2
  rw [k2b, Bool.false_and, Bool.false_and] at hz
  subst hz
  clear k2
  go_enter Tryd.func56, Tryd.ntmps56
  go_wp2_with (first | (refine at_box ?_; go_must (refine own_box (v := ?_) hO ?_ ?_ ?_; rotate_left; (· rfl); (· ((conv => lhs; whnf); try exact rfl)); clear hO; (try clear hF); intro ob _ hO; (try simp only [Value.cells] at hO); ((try simp only [List.nil_append, List.append_nil] at hO); have hF := Own.cells hO; simp only [cellsOf_append, cellsOf_pt] at hF); simp only [Act.put, List.setIfInBounds_toArray, List.set_cons_zero, List.set_cons_succ])))
  go_ret
  exact ⟨rfl, hO.as _⟩
theorem okd_not3 {d : Dt} (h : d.k ≠ 3) : d.ok = d.hd.ok := by unfold Dt.ok; rw [if_neg h]
set_option maxRecDepth 100000 in
set_option maxHeartbeats 16000000 in
theorem refMay (E w : World) (X R I : Fr) (d : Dt) (sa : Option Addr) (cap : Nat) (hI : ItemsAt E I sa d.l) (hO : Own E w X) [hp : Pick X I R] :
    Calls Tryd.prog 38 #[.agg #[.int .i64 d.k, .int .i64 d.n, .string d.s, .slice sa d.l.length cap]] w fun e w' => e = .returned (.bool d.ok) ∧ Own E w' (I ++ R) := by
  replace hO := hO.perm hp.perm
  clear hp
  by_cases k3 : d.k = 3
  rotate_left
  · have hk : (d.k == 3) = false := beq_eq_false_iff_ne.2 k3
    rw [okd_not3 k3]
    clear k3
    generalize hz : d.hd.ok = z
    go_enter Tryd.func38, Tryd.ntmps38
    go_wp2_with (first | (refine at_box ?_; go_must (refine own_box (v := ?_) hO ?_ ?_ ?_; rotate_left; (· rfl); (· ((conv => lhs; whnf); try exact rfl)); clear hO; (try clear hF); intro ob _ hO; (try simp only [Value.cells] at hO); ((try simp only [List.nil_append, List.append_nil] at hO); have hF := Own.cells hO; simp only [cellsOf_append, cellsOf_pt] at hF); simp only [Act.put, List.setIfInBounds_toArray, List.set_cons_zero, List.set_cons_succ])) | (refine at_load ?_; refine own_loadS (b := ?_) (cs := ?_) (e := ?_) (f := ?_) hO ?_ ?_ ?_ ?_ ?_ ?_; rotate_left 4; (· rfl); (· rfl); (· exact inferInstance); (· simp; done); (· simp [Value.cells]; done); simp only [Act.put, List.setIfInBounds_toArray, List.set_cons_zero, List.set_cons_succ]) | (go_at_call 56; refine (refSimple E _ _ d.hd sa cap hO).mono ?_; rw [hz]; clear hO; (try clear hF); rintro e w2 ⟨rfl, hO⟩))
    go_ret
    exact ⟨rfl, hO.as _⟩
  obtain ⟨k, n, s, l⟩ := d
  obtain rfl : k = 3 := k3
  show Calls Tryd.prog 38 #[.agg #[.int .i64 3, .int .i64 n, .string s, .slice sa l.length cap]] w _
  replace hI : ItemsAt E I sa l := hI
  generalize hz : Dt.ok ⟨3, n, s, l⟩ = z
  unfold Dt.ok at hz
  rw [if_pos rfl] at hz
  simp only at hz
  have hs : s = ByteArray.empty ∨ ((s.toList == []) = false ∧ (s.size == 0) = false) := by
    by_cases h : s.size = 0
    · exact .inl (size0 h)
    · exact .inr ⟨ne_toList h, beq_eq_false_iff_ne.2 h⟩
  by_cases hn : n = 0
  rotate_left
  · have hn2 : (n == 0) = false := beq_eq_false_iff_ne.2 hn
    rw [hn2, Bool.false_and, Bool.false_and, Bool.false_and] at hz
    subst hz
    clear hs
    go_enter Tryd.func38, Tryd.ntmps38
    go_wp2_with (first | (refine at_box ?_; go_must (refine own_box (v := ?_) hO ?_ ?_ ?_; rotate_left; (· rfl); (· ((conv => lhs; whnf); try exact rfl)); clear hO; (try clear hF); intro ob _ hO; (try simp only [Value.cells] at hO); ((try simp only [List.nil_append, List.append_nil] at hO); have hF := Own.cells hO; simp only [cellsOf_append, cellsOf_pt] at hF); simp only [Act.put, List.setIfInBounds_toArray, List.set_cons_zero, List.set_cons_succ])))
    go_ret
    exact ⟨rfl, hO.as _⟩
  subst hn
  rcases hs with rfl | ⟨hs, hs2⟩
  rotate_left
  · have hz2 : false = z := by rw [← hz, hs2]; simp
    subst hz2
    have hs0 : ¬ s.toList = [] := fun e => by rw [e] at hs; cases hs
    clear hz hs2
    go_enter Tryd.func38, Tryd.ntmps38
    go_wp2_with (first | (refine at_box ?_; go_must (refine own_box (v := ?_) hO ?_ ?_ ?_; rotate_left; (· rfl); (· ((conv => lhs; whnf); try exact rfl)); clear hO; (try clear hF); intro ob _ hO; (try simp only [Value.cells] at hO); ((try simp only [List.nil_append, List.append_nil] at hO); have hF := Own.cells hO; simp only [cellsOf_append, cellsOf_pt] at hF); simp only [Act.put, List.setIfInBounds_toArray, List.set_cons_zero, List.set_cons_succ])))
    go_ret
    exact ⟨rfl, hO.as _⟩
  have hz1 : (decide (l.length ≤ 8) && l.all It.ok) = z := hz
  clear hz
  by_cases h8 : l.length ≤ 8
  rotate_left
  · rw [decide_eq_false h8, Bool.false_and] at hz1
    subst hz1
    have h5 : (8 : Int) < (l.length : Int) := by omega
    clear h8
    go_enter Tryd.func38, Tryd.ntmps38
    go_wp2_with (first | (refine at_box ?_; go_must (refine own_box (v := ?_) hO ?_ ?_ ?_; rotate_left; (· rfl); (· ((conv => lhs; whnf); try exact rfl)); clear hO; (try clear hF); intro ob _ hO; (try simp only [Value.cells] at hO); ((try simp only [List.nil_append, List.append_nil] at hO); have hF := Own.cells hO; simp only [cellsOf_append, cellsOf_pt] at hF); simp only [Act.put, List.setIfInBounds_toArray, List.set_cons_zero, List.set_cons_succ])))
    go_ret
    exact ⟨rfl, hO.as _⟩
  rw [decide_eq_true h8, Bool.true_and] at hz1
  have HZ := Lib.hid hz1
  have h5 : ¬ (8 : Int) < (l.length : Int) := by omega
  have h6 : decide ((8 : Int) < (l.length : Int)) = false := decide_eq_false h5
  clear hz1
  go_enter Tryd.func38, Tryd.ntmps38
  go_wp2_with (first | (refine at_box ?_; go_must (refine own_box (v := ?_) hO ?_ ?_ ?_; rotate_left; (· rfl); (· ((conv => lhs; whnf); try exact rfl)); clear hO; (try clear hF); intro ob _ hO; (try simp only [Value.cells] at hO); ((try simp only [List.nil_append, List.append_nil] at hO); have hF := Own.cells hO; simp only [cellsOf_append, cellsOf_pt] at hF); simp only [Act.put, List.setIfInBounds_toArray, List.set_cons_zero, List.set_cons_succ])))
  have hO1 := hO
  clear hO hF h5 h6
  go_loopw [3] (fun s8 wr => ∃ j : Nat, s8 = .int .i64 j ∧ j ≤ l.length ∧ (∀ i (hi : i < l.length), i < j → (l[i]'hi).ok = true) ∧ Own E wr (pt ob (.cells #[.int .i64 3, .int .i64 0, .string ⟨#[]⟩, .slice sa l.length cap] 30 (0, 0)) ++ (I ++ R))) (fun s8 _ => l.length - (intOf s8).toNat)
  case atStart => exact ⟨0, rfl, Nat.zero_le _, fun i hi h => absurd h (Nat.not_lt_zero i), hO1⟩
  case round =>
    clear hO1
    obtain ⟨j, rfl, hj, hbef, hO⟩ := hrel
    have HB := Lib.hid hbef
    clear hbef
    ((try simp only [List.nil_append, List.append_nil] at hO); have hF := Own.cells hO; simp only [cellsOf_append, cellsOf_pt] at hF)
    by_cases hlt : j < l.length
    · have hj1 : (j : Int) < l.length := by omega
      have hj2 : (0 : Int) ≤ j := by omega
      obtain ⟨ad, a, c, rfl, hsc⟩ := items_cells hI (hO.as (I ++ (pt ob (.cells #[.int .i64 3, .int .i64 0, .string ⟨#[]⟩, .slice sa l.length cap] 30 (0, 0)) ++ R))) hlt
      have HSC := Lib.hid hsc
      obtain ⟨x, hx⟩ : ∃ x, l[j]'hlt = x := ⟨_, rfl⟩
      rw [hx] at HSC
      have HX := Lib.hid (show ∀ h : j < l.length, l[j]'h = x from fun _ => hx)
      have HLT := Lib.hid hlt
      clear hx hlt hsc
      obtain ⟨b, hb⟩ : ∃ b, x.ok = b := ⟨_, rfl⟩
      have HBB := Lib.hid hb
      clear hb
      cases b
      all_goals (
        go_wp2_with (first | (refine at_load (t := 30) ?_; go_must (refine own_loadC (ad := ad.add (j * 4)) (cs := [.int .i64 x.k, .int .i64 x.n, .string x.s, .slice a x.m c]) ?_ (HSC.out _ _ (hO.as (I ++ (pt ob (.cells #[.int .i64 3, .int .i64 0, .string ⟨#[]⟩, .slice (some ad) l.length cap] 30 (0, 0)) ++ R)))) ?_ ?_ ?_ ?_; (· rfl); (· ((conv => lhs; whnf); try exact rfl)); (· simp; done); (· simp; done); simp only [Act.put, List.setIfInBounds_toArray, List.set_cons_zero, List.set_cons_succ])) | (go_at_call 56; refine (refSimple E _ _ x a c hO).mono ?_; clear hO hF; rintro e w2 ⟨rfl, hO⟩; rw [HBB.out])))
      · go_ret
        have hlt := HLT.out
        have h1 : l.all It.ok = false := by
          rw [List.all_eq_false]
          exact ⟨x, HX.out hlt ▸ List.getElem_mem hlt, by rw [HBB.out]; decide⟩
        exact ⟨by rw [← HZ.out, h1]; rfl, hO.as _⟩
      · go_roundw
        case rel =>
          refine ⟨j + 1, by go_num, HLT.out, fun i hi h => ?_, hO⟩
          by_cases hij : i = j
          · subst hij
            rw [HX.out hi]
            exact HBB.out
          · exact HB.out i hi (by omega)
        case measure => have := HLT.out; simp [intOf]; omega
    · obtain rfl : j = l.length := Nat.le_antisymm hj (Nat.le_of_not_lt hlt)
      have hjj : ¬ (l.length : Int) < l.length := by omega
      clear hj hlt
      go_wp2_with fail
      go_ret
      have h1 : l.all It.ok = true := by
        rw [List.all_eq_true]
        intro x hx
        obtain ⟨i, hi, rfl⟩ := List.mem_iff_getElem.1 hx
        exact HB.out i hi hi
      exact ⟨by rw [← HZ.out, h1]; rfl, hO.as _⟩
end Go.Proofs.YticclennllklpaaDoor

/- Layer 9: the reference: May of an entry, Takes, Refused. -/
namespace Go.Proofs.YticclennllklpaaDoor
open Go Go.RowKit Go.Own Go.Dt

set_option maxRecDepth 100000 in
set_option maxHeartbeats 16000000 in
theorem refMayE (E w : World) (X R I : Fr) (y : En) (sa : Option Addr) (cap : Nat) (hI : ItemsAt E I sa y.d.l) (hO : Own E w X) [hp : Pick X I R] :
    Calls Tryd.prog 31 #[.agg #[.int .i64 y.d.k, .int .i64 y.d.n, .string y.d.s, .slice sa y.d.l.length cap, .int .i64 y.t]] w fun e w' => e = .returned (.bool (okE y)) ∧ Own E w' (I ++ R) := by
  replace hO := hO.perm hp.perm
  clear hp
  by_cases ht : 0 ≤ y.t ∧ y.t < 16777216
  rotate_left
  · have hb : okE y = false := by
      unfold okE
      by_cases h0 : 0 ≤ y.t
      · rw [decide_eq_false (p := y.t < 16777216) (fun h => ht ⟨h0, h⟩), Bool.and_false]
      · rw [decide_eq_false h0, Bool.and_false, Bool.false_and]
    rw [hb]
    clear hb
    have hcs : (¬ 0 ≤ y.t) ∨ (0 ≤ y.t ∧ ¬ y.t < 16777216) := by omega
    clear ht
    rcases hcs with h1 | ⟨h1, h2⟩
    · go_enter Tryd.func31, Tryd.ntmps31
      go_wp2_with (first | (refine at_box ?_; go_must (refine own_box (v := ?_) hO ?_ ?_ ?_; rotate_left; (· rfl); (· ((conv => lhs; whnf); try exact rfl)); clear hO; (try clear hF); intro ob _ hO; (try simp only [Value.cells] at hO); ((try simp only [List.nil_append, List.append_nil] at hO); have hF := Own.cells hO; simp only [cellsOf_append, cellsOf_pt] at hF); simp only [Act.put, List.setIfInBounds_toArray, List.set_cons_zero, List.set_cons_succ])))
      go_ret
      exact ⟨rfl, hO.as _⟩
    · go_enter Tryd.func31, Tryd.ntmps31
      go_wp2_with (first | (refine at_box ?_; go_must (refine own_box (v := ?_) hO ?_ ?_ ?_; rotate_left; (· rfl); (· ((conv => lhs; whnf); try exact rfl)); clear hO; (try clear hF); intro ob _ hO; (try simp only [Value.cells] at hO); ((try simp only [List.nil_append, List.append_nil] at hO); have hF := Own.cells hO; simp only [cellsOf_append, cellsOf_pt] at hF); simp only [Act.put, List.setIfInBounds_toArray, List.set_cons_zero, List.set_cons_succ])))
      go_ret
      exact ⟨rfl, hO.as _⟩
  obtain ⟨h1, h2⟩ := ht
  have hbo : okE y = y.d.ok := by unfold okE; rw [decide_eq_true h1, decide_eq_true h2, Bool.and_true, Bool.and_true]
  rw [hbo]
  clear hbo
  generalize hz : y.d.ok = z
  go_enter Tryd.func31, Tryd.ntmps31
  go_wp2_with (first | (refine at_box ?_; go_must (refine own_box (v := ?_) hO ?_ ?_ ?_; rotate_left; (· rfl); (· ((conv => lhs; whnf); try exact rfl)); clear hO; (try clear hF); intro ob _ hO; (try simp only [Value.cells] at hO); ((try simp only [List.nil_append, List.append_nil] at hO); have hF := Own.cells hO; simp only [cellsOf_append, cellsOf_pt] at hF); simp only [Act.put, List.setIfInBounds_toArray, List.set_cons_zero, List.set_cons_succ])) | (refine at_load ?_; refine own_loadS (b := ?_) (cs := ?_) (e := ?_) (f := ?_) hO ?_ ?_ ?_ ?_ ?_ ?_; rotate_left 4; (· rfl); (· rfl); (· exact inferInstance); (· simp; done); (· simp [Value.cells]; done); simp only [Act.put, List.setIfInBounds_toArray, List.set_cons_zero, List.set_cons_succ]) | (go_at_call 38; refine (refMay E _ _ _ I y.d sa cap hI hO).mono ?_; rw [hz]; clear hO; (try clear hF); rintro e w2 ⟨rfl, hO⟩))
  go_ret
  exact ⟨rfl, hO.as _⟩
set_option maxRecDepth 100000 in
set_option maxHeartbeats 16000000 in
theorem refTakes (E w : World) (X R S : Fr) (sa : Option Addr) (cap : Nat) (ks : List Int) (k : Int) (hS : Sl 3 1 sa ks.length cap (ks.map (Value.int .i64)) S) (hO : Own E w X) [hp : Pick X S R] :
    Calls Tryd.prog 32 #[.slice sa ks.length cap, .int .i64 k] w fun e w' => e = .returned (.bool (ks.contains k)) ∧ w = w' := by
  replace hO := hO.perm hp.perm
  clear hp
  have hmx : ks.length ≤ 9223372036854775807 := by
    have := Nat.le_trans hS.2.1 hS.2.2.1
    simp only [maxLen] at this
    omega
  generalize hz : ks.contains k = z
  have HZ := Lib.hid hz
  clear hz
  go_enter Tryd.func32, Tryd.ntmps32
  go_wp2_with fail
  have hO1 := hO
  clear hO
  go_loopw [5] (fun s8 wr => ∃ j : Nat, s8 = .int .i64 j ∧ j ≤ ks.length ∧ (∀ i (hi : i < ks.length), i < j → ks[i]'hi ≠ k) ∧ wr = w) (fun s8 _ => ks.length - (intOf s8).toNat)
  case atStart => exact ⟨0, rfl, Nat.zero_le _, fun i hi h => absurd h (Nat.not_lt_zero i), rfl⟩
  case round =>
    obtain ⟨j, rfl, hj, hbef, rfl⟩ := hrel
    have hO := hO1
    have HB := Lib.hid hbef
    clear hbef
    by_cases hlt : j < ks.length
    · have hj1 : (j : Int) < ks.length := by omega
      have hj2 : (0 : Int) ≤ j := by omega
      obtain ⟨sb, rfl⟩ := sl_some9 hS (by omega)
      obtain ⟨x, hx⟩ : ∃ x, ks[j]'hlt = x := ⟨_, rfl⟩
      have c2 : wr.cell? ⟨sb, j, none⟩ = some (.int .i64 x) := by
        have := hS.cell hO ⟨sb, 0, none⟩ rfl j (by rw [List.length_map]; exact hlt)
        rw [add_lit, Nat.zero_add, List.getElem_map, hx] at this
        exact this
      have HX := Lib.hid (show ∀ h : j < ks.length, ks[j]'h = x from fun _ => hx)
      have HLT := Lib.hid hlt
      clear hx hlt
      by_cases hk : x = k
      · subst hk
        go_wp2_with fail
        go_ret
        have hlt := HLT.out
        refine ⟨?_, rfl⟩
        rw [← HZ.out, show ks.contains x = true from List.contains_iff_mem.2 (HX.out hlt ▸ List.getElem_mem hlt)]
        rfl
      · have hk2 : (x == k) = false := beq_eq_false_iff_ne.2 hk
        have HK := Lib.hid hk
        go_wp2_with fail
        have hlt := HLT.out
        go_roundw
        case rel =>
          refine ⟨j + 1, by go_num, hlt, fun i hi h => ?_, by trivial⟩
          by_cases hij : i = j
          · subst hij
            rw [HX.out hi]
            exact HK.out
          · exact HB.out i hi (by omega)
        case measure => simp [intOf]; omega
    · obtain rfl : j = ks.length := Nat.le_antisymm hj (Nat.le_of_not_lt hlt)
      have hjj : ¬ (ks.length : Int) < ks.length := by omega
      clear hj hlt
      go_wp2_with fail
      go_ret
      refine ⟨?_, rfl⟩
      have : ks.contains k = false := by
        rw [← Bool.not_eq_true, List.contains_iff_mem]
        intro hm
        obtain ⟨i, hi, e⟩ := List.mem_iff_getElem.1 hm
        exact HB.out i hi hi e
      rw [← HZ.out, this]
      rfl
def refused (ks : List Int) (y : En) : Int := if okE y = true then (if ks.contains y.d.k = true then 0 else 10) else 1
set_option maxRecDepth 100000 in
set_option maxHeartbeats 16000000 in
theorem refRefused (E w : World) (X R I S : Fr) (ka : Option Addr) (kc : Nat) (ks : List Int) (hS : Sl 3 1 ka ks.length kc (ks.map (Value.int .i64)) S) (y : En) (sa : Option Addr) (cap : Nat) (hI : ItemsAt E I sa y.d.l) (hO : Own E w X) [hp : Pick X (S ++ I) R] :
    Calls Tryd.prog 12 #[.slice ka ks.length kc, .agg #[.int .i64 y.d.k, .int .i64 y.d.n, .string y.d.s, .slice sa y.d.l.length cap, .int .i64 y.t]] w fun e w' => e = .returned (.int .i64 (refused ks y)) ∧ Own E w' (S ++ (I ++ R)) := by
  replace hO : Own E w (S ++ (I ++ R)) := by have := hO.perm hp.perm; rwa [List.append_assoc] at this
  clear hp
  generalize hz : refused ks y = z
  unfold refused at hz
  have HZ := Lib.hid hz
  clear hz
  generalize hb : okE y = b at HZ
  generalize ht : ks.contains y.d.k = tt at HZ
  go_enter Tryd.func12, Tryd.ntmps12
  cases b
  · go_wp2_with (first | (refine at_box ?_; go_must (refine own_box (v := ?_) hO ?_ ?_ ?_; rotate_left; (· rfl); (· ((conv => lhs; whnf); try exact rfl)); clear hO; (try clear hF); intro ob _ hO; (try simp only [Value.cells] at hO); ((try simp only [List.nil_append, List.append_nil] at hO); have hF := Own.cells hO; simp only [cellsOf_append, cellsOf_pt] at hF); simp only [Act.put, List.setIfInBounds_toArray, List.set_cons_zero, List.set_cons_succ])) | (refine at_load ?_; refine own_loadS (b := ?_) (cs := ?_) (e := ?_) (f := ?_) hO ?_ ?_ ?_ ?_ ?_ ?_; rotate_left 4; (· rfl); (· rfl); (· exact inferInstance); (· simp; done); (· simp [Value.cells]; done); simp only [Act.put, List.setIfInBounds_toArray, List.set_cons_zero, List.set_cons_succ]) | (go_at_call 31; refine (refMayE E _ _ _ I y sa cap hI (hO.as (I ++ (pt ob (.cells #[.int .i64 y.d.k, .int .i64 y.d.n, .string y.d.s, .slice sa y.d.l.length cap, .int .i64 y.t] 32 (0, 0)) ++ (S ++ R))))).mono ?_; rw [hb]; clear hO; (try clear hF); rintro e w2 ⟨rfl, hO⟩; ((try simp only [List.nil_append, List.append_nil] at hO); have hF := Own.cells hO; simp only [cellsOf_append, cellsOf_pt] at hF)))
    go_ret
    exact ⟨by rw [← HZ.out]; rfl, hO.as _⟩
  · cases tt
    · go_wp2_with (first | (refine at_box ?_; go_must (refine own_box (v := ?_) hO ?_ ?_ ?_; rotate_left; (· rfl); (· ((conv => lhs; whnf); try exact rfl)); clear hO; (try clear hF); intro ob _ hO; (try simp only [Value.cells] at hO); ((try simp only [List.nil_append, List.append_nil] at hO); have hF := Own.cells hO; simp only [cellsOf_append, cellsOf_pt] at hF); simp only [Act.put, List.setIfInBounds_toArray, List.set_cons_zero, List.set_cons_succ])) | (refine at_load ?_; refine own_loadS (b := ?_) (cs := ?_) (e := ?_) (f := ?_) hO ?_ ?_ ?_ ?_ ?_ ?_; rotate_left 4; (· rfl); (· rfl); (· exact inferInstance); (· simp; done); (· simp [Value.cells]; done); simp only [Act.put, List.setIfInBounds_toArray, List.set_cons_zero, List.set_cons_succ]) | (go_at_call 31; refine (refMayE E _ _ _ I y sa cap hI (hO.as (I ++ (pt ob (.cells #[.int .i64 y.d.k, .int .i64 y.d.n, .string y.d.s, .slice sa y.d.l.length cap, .int .i64 y.t] 32 (0, 0)) ++ (S ++ R))))).mono ?_; rw [hb]; clear hO; (try clear hF); rintro e w2 ⟨rfl, hO⟩; ((try simp only [List.nil_append, List.append_nil] at hO); have hF := Own.cells hO; simp only [cellsOf_append, cellsOf_pt] at hF)) | (go_at_call 32; refine (refTakes E _ _ _ S ka kc ks y.d.k hS hO).mono ?_; rw [ht]; rintro e w2 ⟨rfl, rfl⟩))
      go_ret
      exact ⟨by rw [← HZ.out]; rfl, hO.as _⟩
    · go_wp2_with (first | (refine at_box ?_; go_must (refine own_box (v := ?_) hO ?_ ?_ ?_; rotate_left; (· rfl); (· ((conv => lhs; whnf); try exact rfl)); clear hO; (try clear hF); intro ob _ hO; (try simp only [Value.cells] at hO); ((try simp only [List.nil_append, List.append_nil] at hO); have hF := Own.cells hO; simp only [cellsOf_append, cellsOf_pt] at hF); simp only [Act.put, List.setIfInBounds_toArray, List.set_cons_zero, List.set_cons_succ])) | (refine at_load ?_; refine own_loadS (b := ?_) (cs := ?_) (e := ?_) (f := ?_) hO ?_ ?_ ?_ ?_ ?_ ?_; rotate_left 4; (· rfl); (· rfl); (· exact inferInstance); (· simp; done); (· simp [Value.cells]; done); simp only [Act.put, List.setIfInBounds_toArray, List.set_cons_zero, List.set_cons_succ]) | (go_at_call 31; refine (refMayE E _ _ _ I y sa cap hI (hO.as (I ++ (pt ob (.cells #[.int .i64 y.d.k, .int .i64 y.d.n, .string y.d.s, .slice sa y.d.l.length cap, .int .i64 y.t] 32 (0, 0)) ++ (S ++ R))))).mono ?_; rw [hb]; clear hO; (try clear hF); rintro e w2 ⟨rfl, hO⟩; ((try simp only [List.nil_append, List.append_nil] at hO); have hF := Own.cells hO; simp only [cellsOf_append, cellsOf_pt] at hF)) | (go_at_call 32; refine (refTakes E _ _ _ S ka kc ks y.d.k hS hO).mono ?_; rw [ht]; rintro e w2 ⟨rfl, rfl⟩))
      go_ret
      exact ⟨by rw [← HZ.out]; rfl, hO.as _⟩
end Go.Proofs.YticclennllklpaaDoor

/- Layer 9: the reference: Same. -/
namespace Go.Proofs.YticclennllklpaaDoor
open Go Go.RowKit Go.Own Go.Dt

theorem w64_1 (j : Nat) (h : j < 1000000000000000) : wrap64 ((j : Int) + 1) = (j : Int) + 1 := by unfold wrap64; omega
theorem wi_1 (j : Nat) (h : j < 1000000000000000) : IntKind.i64.wrap ((j : Int) + 1) = (j : Int) + 1 := by
  have e : (2 : Int) ^ 64 = 18446744073709551616 := by decide
  simp only [IntKind.wrap]
  first | omega | (unfold wrap64; omega) | (simp [IntKind.bits, IntKind.signed]; omega)
theorem bs_ne {a b : ByteArray} (h : a ≠ b) : ¬ a.toList = b.toList := by
  intro e
  rw [Lib.toList_data, Lib.toList_data] at e
  exact h (toList_inj e)
theorem dt_l8 {d : Dt} (h : d.ok = true) : d.l.length ≤ 8 := by
  by_cases k3 : d.k = 3
  · exact (Dt.ok_list k3 h).2.2.1
  · have h9 : d.l.length = 0 := (It.ok_or (Dt.ok_one k3 h)).1
    omega
set_option maxRecDepth 100000 in
set_option maxHeartbeats 16000000 in
theorem refSameD (E w : World) (X R I : Fr) (a b : Dt) (sa sb : Option Addr) (ca cb : Nat) (ha : a.ok = true) (hb : b.ok = true) (hIa : ItemsAt E I sa a.l) (hIb : ItemsAt E I sb b.l) (hO : Own E w X) [hp : Pick X I R] :
    Calls Tryd.prog 39 #[.agg #[.int .i64 a.k, .int .i64 a.n, .string a.s, .slice sa a.l.length ca], .agg #[.int .i64 b.k, .int .i64 b.n, .string b.s, .slice sb b.l.length cb]] w fun e w' => e = .returned (.bool (decide (a = b))) ∧ Own E w' (I ++ R) := by
  replace hO := hO.perm hp.perm
  clear hp
  have ha0 := Lib.hid (Dt.items0 ha)
  have hb0 := Lib.hid (Dt.items0 hb)
  have HL8 := Lib.hid (dt_l8 ha)
  clear ha hb
  generalize hz : decide (a = b) = z
  have HZ := Lib.hid hz
  clear hz
  obtain ⟨ak, an, as', al⟩ := a
  obtain ⟨bk, bn, bs', bl⟩ := b
  replace hIa : ItemsAt E I sa al := hIa
  replace HL8 : Hid (al.length ≤ 8) := HL8
  replace hIb : ItemsAt E I sb bl := hIb
  show Calls Tryd.prog 39 #[.agg #[.int .i64 ak, .int .i64 an, .string as', .slice sa al.length ca], .agg #[.int .i64 bk, .int .i64 bn, .string bs', .slice sb bl.length cb]] w _
  by_cases hk : ak = bk
  rotate_left
  · obtain rfl : false = z := by rw [← HZ.out, decide_eq_false]; intro e; cases e; exact hk rfl
    clear HZ ha0 hb0
    go_enter Tryd.func39, Tryd.ntmps39
    go_wp2_with (first | (refine at_box ?_; go_must (refine own_box (v := ?_) hO ?_ ?_ ?_; rotate_left; (· rfl); (· ((conv => lhs; whnf); try exact rfl)); clear hO; (try clear hF); intro _ _ hO; (try simp only [Value.cells] at hO); ((try simp only [List.nil_append, List.append_nil] at hO); have hF := Own.cells hO; simp only [cellsOf_append, cellsOf_pt] at hF); simp only [Act.put, List.setIfInBounds_toArray, List.set_cons_zero, List.set_cons_succ])))
    go_ret
    exact ⟨rfl, hO.as _⟩
  subst hk
  by_cases hn : an = bn
  rotate_left
  · obtain rfl : false = z := by rw [← HZ.out, decide_eq_false]; intro e; cases e; exact hn rfl
    clear HZ ha0 hb0
    go_enter Tryd.func39, Tryd.ntmps39
    go_wp2_with (first | (refine at_box ?_; go_must (refine own_box (v := ?_) hO ?_ ?_ ?_; rotate_left; (· rfl); (· ((conv => lhs; whnf); try exact rfl)); clear hO; (try clear hF); intro _ _ hO; (try simp only [Value.cells] at hO); ((try simp only [List.nil_append, List.append_nil] at hO); have hF := Own.cells hO; simp only [cellsOf_append, cellsOf_pt] at hF); simp only [Act.put, List.setIfInBounds_toArray, List.set_cons_zero, List.set_cons_succ])))
    go_ret
    exact ⟨rfl, hO.as _⟩
  subst hn
  by_cases hs : as' = bs'
  rotate_left
  · obtain rfl : false = z := by rw [← HZ.out, decide_eq_false]; intro e; cases e; exact hs rfl
    have hs2 := bs_ne hs
    have hs3 : (as'.toList == bs'.toList) = false := beq_eq_false_iff_ne.2 hs2
    clear HZ ha0 hb0 hs
    go_enter Tryd.func39, Tryd.ntmps39
    go_wp2_with (first | (refine at_box ?_; go_must (refine own_box (v := ?_) hO ?_ ?_ ?_; rotate_left; (· rfl); (· ((conv => lhs; whnf); try exact rfl)); clear hO; (try clear hF); intro _ _ hO; (try simp only [Value.cells] at hO); ((try simp only [List.nil_append, List.append_nil] at hO); have hF := Own.cells hO; simp only [cellsOf_append, cellsOf_pt] at hF); simp only [Act.put, List.setIfInBounds_toArray, List.set_cons_zero, List.set_cons_succ])))
    go_ret
    exact ⟨rfl, hO.as _⟩
  subst hs
  by_cases hl : al.length = bl.length
  rotate_left
  · obtain rfl : false = z := by rw [← HZ.out, decide_eq_false]; intro e; cases e; exact hl rfl
    have hl2 : ¬ (al.length : Int) = bl.length := by omega
    clear HZ ha0 hb0
    go_enter Tryd.func39, Tryd.ntmps39
    go_wp2_with (first | (refine at_box ?_; go_must (refine own_box (v := ?_) hO ?_ ?_ ?_; rotate_left; (· rfl); (· ((conv => lhs; whnf); try exact rfl)); clear hO; (try clear hF); intro _ _ hO; (try simp only [Value.cells] at hO); ((try simp only [List.nil_append, List.append_nil] at hO); have hF := Own.cells hO; simp only [cellsOf_append, cellsOf_pt] at hF); simp only [Act.put, List.setIfInBounds_toArray, List.set_cons_zero, List.set_cons_succ])))
    go_ret
    exact ⟨rfl, hO.as _⟩
  have hz2 : z = decide (al = bl) := by
    rw [← HZ.out]
    by_cases e : al = bl
    · rw [e, decide_eq_true rfl, decide_eq_true rfl]
    · rw [decide_eq_false e, decide_eq_false]; intro e2; cases e2; exact e rfl
  clear HZ
  rw [← hl]
  have HLEN := Lib.hid hl
  have HZ := Lib.hid hz2
  clear hz2 hl
  go_enter Tryd.func39, Tryd.ntmps39
  go_wp2_with (first | ((have hzz : ab = ab := rfl); clear hzz; (refine at_box ?_; go_must (refine own_box (v := ?_) hO ?_ ?_ ?_; rotate_left; (· rfl); (· ((conv => lhs; whnf); try exact rfl)); clear hO; (try clear hF); intro bb _ hO; (try simp only [Value.cells] at hO); ((try simp only [List.nil_append, List.append_nil] at hO); have hF := Own.cells hO; simp only [cellsOf_append, cellsOf_pt] at hF); simp only [Act.put, List.setIfInBounds_toArray, List.set_cons_zero, List.set_cons_succ]))) | (refine at_box ?_; go_must (refine own_box (v := ?_) hO ?_ ?_ ?_; rotate_left; (· rfl); (· ((conv => lhs; whnf); try exact rfl)); clear hO; (try clear hF); intro ab _ hO; (try simp only [Value.cells] at hO); ((try simp only [List.nil_append, List.append_nil] at hO); have hF := Own.cells hO; simp only [cellsOf_append, cellsOf_pt] at hF); simp only [Act.put, List.setIfInBounds_toArray, List.set_cons_zero, List.set_cons_succ])))
  replace hO : Own E _ (pt bb (.cells #[.int .i64 ak, .int .i64 an, .string as', .slice sb al.length cb] 30 (0, 0)) ++ (pt ab (.cells #[.int .i64 ak, .int .i64 an, .string as', .slice sa al.length ca] 30 (0, 0)) ++ (I ++ R))) := hO.as _
  have hO1 := hO
  clear hO hF
  go_loopw [5] (fun i wr => ∃ (j : Nat), i = .int .i64 (j : Int) ∧ j ≤ al.length ∧ (∀ i (h1 : i < al.length) (h2 : i < bl.length), i < j → al[i]'h1 = bl[i]'h2) ∧ Own E wr (pt bb (.cells #[.int .i64 ak, .int .i64 an, .string as', .slice sb al.length cb] 30 (0, 0)) ++ (pt ab (.cells #[.int .i64 ak, .int .i64 an, .string as', .slice sa al.length ca] 30 (0, 0)) ++ (I ++ R)))) (fun i _ => al.length - (intOf i).toNat)
  case atStart => exact ⟨0, rfl, Nat.zero_le _, fun _ _ _ h => absurd h (Nat.not_lt_zero _), hO1⟩
  case round =>
    clear hO1
    obtain ⟨j, rfl, hj, hbef, hO⟩ := hrel
    have HB := Lib.hid hbef
    clear hbef
    have hF := Own.cells hO; simp only [cellsOf_append, cellsOf_pt] at hF
    by_cases hlt : j < al.length
    · have hj1 : (j : Int) < al.length := by omega
      have hltb : j < bl.length := by rw [← HLEN.out]; exact hlt
      obtain ⟨ad1, a1, c1, hs1, hX1⟩ := items_cells hIa (hO.as (I ++ (pt bb (.cells #[.int .i64 ak, .int .i64 an, .string as', .slice sb al.length cb] 30 (0, 0)) ++ pt ab (.cells #[.int .i64 ak, .int .i64 an, .string as', .slice sa al.length ca] 30 (0, 0))))) hlt
      obtain ⟨ad2, a2, c2, hs2, hY1⟩ := items_cells hIb (hO.as (I ++ (pt bb (.cells #[.int .i64 ak, .int .i64 an, .string as', .slice sb al.length cb] 30 (0, 0)) ++ pt ab (.cells #[.int .i64 ak, .int .i64 an, .string as', .slice sa al.length ca] 30 (0, 0))))) hltb
      subst hs1
      subst hs2
      obtain ⟨x, hx⟩ : ∃ x, al[j]'hlt = x := ⟨_, rfl⟩
      obtain ⟨y, hy⟩ : ∃ y, bl[j]'hltb = y := ⟨_, rfl⟩
      have hx0 : x.m = 0 := ha0.out x (hx ▸ List.getElem_mem hlt)
      have hy0 : y.m = 0 := hb0.out y (hy ▸ List.getElem_mem hltb)
      rw [hx] at hX1
      rw [hy] at hY1
      have hno : x ≠ y → false = z := fun h => by
        rw [HZ.out]
        symm
        apply decide_eq_false
        intro e
        subst e
        exact h (hx.symm.trans hy)
      have hnx : x = y → ∀ i (h1 : i < al.length) (h2 : i < bl.length), i < j + 1 → al[i]'h1 = bl[i]'h2 := fun h i h1 h2 hi => by
        by_cases hij : i = j
        · subst hij
          rw [hx, hy, h]
        · exact HB.out i h1 h2 (by omega)
      have HNO := Lib.hid hno
      have HNX := Lib.hid hnx
      have HLT := Lib.hid hlt
      clear hno hnx hlt hltb hx hy hj
      obtain ⟨xk, xn, xs, xm⟩ := x
      obtain ⟨yk, yn, ys, ym⟩ := y
      obtain rfl : xm = 0 := hx0
      obtain rfl : ym = 0 := hy0
      have HX1 : Hid (∀ (Y : Fr) (w : World), Own E w (I ++ Y) → ∀ i u, ([.int .i64 xk, .int .i64 xn, .string xs, .slice a1 0 c1] : List Value)[i]? = some u → w.cell? ((ad1.add (j * 4)).add i) = some u) := Lib.hid hX1
      have HY1 : Hid (∀ (Y : Fr) (w : World), Own E w (I ++ Y) → ∀ i u, ([.int .i64 yk, .int .i64 yn, .string ys, .slice a2 0 c2] : List Value)[i]? = some u → w.cell? ((ad2.add (j * 4)).add i) = some u) := Lib.hid hY1
      clear hX1 hY1
      have hc : (xk ≠ yk) ∨ (xk = yk ∧ xn ≠ yn) ∨ (xk = yk ∧ xn = yn ∧ xs ≠ ys) ∨ (xk = yk ∧ xn = yn ∧ xs = ys) := by
        by_cases h1 : xk = yk <;> by_cases h2 : xn = yn <;> by_cases h3 : xs = ys <;> simp [h1, h2, h3]
      have HC := Lib.hid hc
      clear hc
      have g2 : (0 : Int) ≤ (j : Int) := by omega
      have hw0 : IntKind.i64.wrap ((j : Int) + 1) = (j : Int) + 1 := wi_1 j (by have := HL8.out; have := HLT.out; omega)
      have hw1 : wrap64 ((j : Int) + 1) = (j : Int) + 1 := w64_1 j (by have := HL8.out; have := HLT.out; omega)
      have hjb : (j : Int) < bl.length := by have := HLEN.out; omega
      go_wp2_with fail
      (try (go_wp2_with fail))
      refine region_sch (fun w' => Own E w' (pt bb (.cells #[.int .i64 ak, .int .i64 an, .string as', .slice (some ad2) al.length cb] 30 (0, 0)) ++ (pt ab (.cells #[.int .i64 ak, .int .i64 an, .string as', .slice (some ad1) al.length ca] 30 (0, 0)) ++ I))) (.look 0 (.look 1 (.look 2 (.look 3 (.look 4 (.look 5 (.look 6 (.look 7 (.look 8 (.look 9 (.two 10 (.act 11 (.act 12 (.act 13 .done))) 11 (.act 10 (.act 12 (.act 13 .done)))))))))))))) (by kernel_rfl) (by kernel_rfl) (fun _ _ d _ _ h => by cases d <;> exact h) ?_ ?_
      · exact hO.drew.as _
      replace hO := hO.drew
      generalize World.drew _ = wdr at hO ⊢
      first | (refine sch_look (o := ?_) (v := ?_) ?_ ?_ ?_ ?_; rotate_left 2; (· ((conv => lhs; whnf); try exact rfl)); (· rfl); (· intro w' hO'; have hF' := Own.cells (hO'.as (pt bb (.cells #[.int .i64 ak, .int .i64 an, .string as', .slice (some ad2) al.length cb] 30 (0, 0)) ++ pt ab (.cells #[.int .i64 ak, .int .i64 an, .string as', .slice (some ad1) al.length ca] 30 (0, 0)))); simp only [cellsOf_append, cellsOf_pt] at hF'; go_simp; (try exact rfl)); simp only [Act.put, List.setIfInBounds_toArray, List.set_cons_zero, List.set_cons_succ]) | (refine sch_pass (o := ?_) ?_ ?_ ?_; rotate_left; (· ((conv => lhs; whnf); try exact rfl)); (· rfl); simp only [Act.put, List.setIfInBounds_toArray, List.set_cons_zero, List.set_cons_succ]) | (refine sch_look (o := ?_) (v := .agg ?_) ?_ ?_ ?_ ?_; rotate_left 2; (· ((conv => lhs; whnf); try exact rfl)); (· rfl); (· intro w' hO'; refine run_opLoadS (b := ?_) (cs := ?_) (e := ?_) (f := ?_) hO' ?_ ?_ ?_ ?_; rotate_left 4; (· exact rfl); (· exact inferInstance); (· simp; done); (· simp; done)); simp only [Act.put, List.setIfInBounds_toArray, List.set_cons_zero, List.set_cons_succ])
      first | (refine sch_look (o := ?_) (v := ?_) ?_ ?_ ?_ ?_; rotate_left 2; (· ((conv => lhs; whnf); try exact rfl)); (· rfl); (· intro w' hO'; have hF' := Own.cells (hO'.as (pt bb (.cells #[.int .i64 ak, .int .i64 an, .string as', .slice (some ad2) al.length cb] 30 (0, 0)) ++ pt ab (.cells #[.int .i64 ak, .int .i64 an, .string as', .slice (some ad1) al.length ca] 30 (0, 0)))); simp only [cellsOf_append, cellsOf_pt] at hF'; go_simp; (try exact rfl)); simp only [Act.put, List.setIfInBounds_toArray, List.set_cons_zero, List.set_cons_succ]) | (refine sch_pass (o := ?_) ?_ ?_ ?_; rotate_left; (· ((conv => lhs; whnf); try exact rfl)); (· rfl); simp only [Act.put, List.setIfInBounds_toArray, List.set_cons_zero, List.set_cons_succ]) | (refine sch_look (o := ?_) (v := .agg ?_) ?_ ?_ ?_ ?_; rotate_left 2; (· ((conv => lhs; whnf); try exact rfl)); (· rfl); (· intro w' hO'; refine run_opLoadS (b := ?_) (cs := ?_) (e := ?_) (f := ?_) hO' ?_ ?_ ?_ ?_; rotate_left 4; (· exact rfl); (· exact inferInstance); (· simp; done); (· simp; done)); simp only [Act.put, List.setIfInBounds_toArray, List.set_cons_zero, List.set_cons_succ])
      first | (refine sch_look (o := ?_) (v := ?_) ?_ ?_ ?_ ?_; rotate_left 2; (· ((conv => lhs; whnf); try exact rfl)); (· rfl); (· intro w' hO'; have hF' := Own.cells (hO'.as (pt bb (.cells #[.int .i64 ak, .int .i64 an, .string as', .slice (some ad2) al.length cb] 30 (0, 0)) ++ pt ab (.cells #[.int .i64 ak, .int .i64 an, .string as', .slice (some ad1) al.length ca] 30 (0, 0)))); simp only [cellsOf_append, cellsOf_pt] at hF'; go_simp; (try exact rfl)); simp only [Act.put, List.setIfInBounds_toArray, List.set_cons_zero, List.set_cons_succ]) | (refine sch_pass (o := ?_) ?_ ?_ ?_; rotate_left; (· ((conv => lhs; whnf); try exact rfl)); (· rfl); simp only [Act.put, List.setIfInBounds_toArray, List.set_cons_zero, List.set_cons_succ]) | (refine sch_look (o := ?_) (v := .agg ?_) ?_ ?_ ?_ ?_; rotate_left 2; (· ((conv => lhs; whnf); try exact rfl)); (· rfl); (· intro w' hO'; refine run_opLoadS (b := ?_) (cs := ?_) (e := ?_) (f := ?_) hO' ?_ ?_ ?_ ?_; rotate_left 4; (· exact rfl); (· exact inferInstance); (· simp; done); (· simp; done)); simp only [Act.put, List.setIfInBounds_toArray, List.set_cons_zero, List.set_cons_succ])
      first | (refine sch_look (o := ?_) (v := ?_) ?_ ?_ ?_ ?_; rotate_left 2; (· ((conv => lhs; whnf); try exact rfl)); (· rfl); (· intro w' hO'; have hF' := Own.cells (hO'.as (pt bb (.cells #[.int .i64 ak, .int .i64 an, .string as', .slice (some ad2) al.length cb] 30 (0, 0)) ++ pt ab (.cells #[.int .i64 ak, .int .i64 an, .string as', .slice (some ad1) al.length ca] 30 (0, 0)))); simp only [cellsOf_append, cellsOf_pt] at hF'; go_simp; (try exact rfl)); simp only [Act.put, List.setIfInBounds_toArray, List.set_cons_zero, List.set_cons_succ]) | (refine sch_pass (o := ?_) ?_ ?_ ?_; rotate_left; (· ((conv => lhs; whnf); try exact rfl)); (· rfl); simp only [Act.put, List.setIfInBounds_toArray, List.set_cons_zero, List.set_cons_succ]) | (refine sch_look (o := ?_) (v := .agg ?_) ?_ ?_ ?_ ?_; rotate_left 2; (· ((conv => lhs; whnf); try exact rfl)); (· rfl); (· intro w' hO'; refine run_opLoadS (b := ?_) (cs := ?_) (e := ?_) (f := ?_) hO' ?_ ?_ ?_ ?_; rotate_left 4; (· exact rfl); (· exact inferInstance); (· simp; done); (· simp; done)); simp only [Act.put, List.setIfInBounds_toArray, List.set_cons_zero, List.set_cons_succ])
      (refine sch_look (o := ?_) (v := .agg ([.int .i64 xk, .int .i64 xn, .string xs, .slice a1 0 c1] : List Value).toArray) ?_ ?_ ?_ ?_; rotate_left; (· ((conv => lhs; whnf); try exact rfl)); (· rfl); (· intro w' hO'; exact run_opLoadC (ad := ad1.add (j * 4)) (cs := [.int .i64 xk, .int .i64 xn, .string xs, .slice a1 0 c1]) (HX1.out _ _ (hO'.as (I ++ (pt bb (.cells #[.int .i64 ak, .int .i64 an, .string as', .slice (some ad2) al.length cb] 30 (0, 0)) ++ pt ab (.cells #[.int .i64 ak, .int .i64 an, .string as', .slice (some ad1) al.length ca] 30 (0, 0)))))) rfl (by simp) (by simp)); simp only [Act.put, List.setIfInBounds_toArray, List.set_cons_zero, List.set_cons_succ])
      first | (refine sch_look (o := ?_) (v := ?_) ?_ ?_ ?_ ?_; rotate_left 2; (· ((conv => lhs; whnf); try exact rfl)); (· rfl); (· intro w' hO'; have hF' := Own.cells (hO'.as (pt bb (.cells #[.int .i64 ak, .int .i64 an, .string as', .slice (some ad2) al.length cb] 30 (0, 0)) ++ pt ab (.cells #[.int .i64 ak, .int .i64 an, .string as', .slice (some ad1) al.length ca] 30 (0, 0)))); simp only [cellsOf_append, cellsOf_pt] at hF'; go_simp; (try exact rfl)); simp only [Act.put, List.setIfInBounds_toArray, List.set_cons_zero, List.set_cons_succ]) | (refine sch_pass (o := ?_) ?_ ?_ ?_; rotate_left; (· ((conv => lhs; whnf); try exact rfl)); (· rfl); simp only [Act.put, List.setIfInBounds_toArray, List.set_cons_zero, List.set_cons_succ]) | (refine sch_look (o := ?_) (v := .agg ?_) ?_ ?_ ?_ ?_; rotate_left 2; (· ((conv => lhs; whnf); try exact rfl)); (· rfl); (· intro w' hO'; refine run_opLoadS (b := ?_) (cs := ?_) (e := ?_) (f := ?_) hO' ?_ ?_ ?_ ?_; rotate_left 4; (· exact rfl); (· exact inferInstance); (· simp; done); (· simp; done)); simp only [Act.put, List.setIfInBounds_toArray, List.set_cons_zero, List.set_cons_succ])
      first | (refine sch_look (o := ?_) (v := ?_) ?_ ?_ ?_ ?_; rotate_left 2; (· ((conv => lhs; whnf); try exact rfl)); (· rfl); (· intro w' hO'; have hF' := Own.cells (hO'.as (pt bb (.cells #[.int .i64 ak, .int .i64 an, .string as', .slice (some ad2) al.length cb] 30 (0, 0)) ++ pt ab (.cells #[.int .i64 ak, .int .i64 an, .string as', .slice (some ad1) al.length ca] 30 (0, 0)))); simp only [cellsOf_append, cellsOf_pt] at hF'; go_simp; (try exact rfl)); simp only [Act.put, List.setIfInBounds_toArray, List.set_cons_zero, List.set_cons_succ]) | (refine sch_pass (o := ?_) ?_ ?_ ?_; rotate_left; (· ((conv => lhs; whnf); try exact rfl)); (· rfl); simp only [Act.put, List.setIfInBounds_toArray, List.set_cons_zero, List.set_cons_succ]) | (refine sch_look (o := ?_) (v := .agg ?_) ?_ ?_ ?_ ?_; rotate_left 2; (· ((conv => lhs; whnf); try exact rfl)); (· rfl); (· intro w' hO'; refine run_opLoadS (b := ?_) (cs := ?_) (e := ?_) (f := ?_) hO' ?_ ?_ ?_ ?_; rotate_left 4; (· exact rfl); (· exact inferInstance); (· simp; done); (· simp; done)); simp only [Act.put, List.setIfInBounds_toArray, List.set_cons_zero, List.set_cons_succ])
      first | (refine sch_look (o := ?_) (v := ?_) ?_ ?_ ?_ ?_; rotate_left 2; (· ((conv => lhs; whnf); try exact rfl)); (· rfl); (· intro w' hO'; have hF' := Own.cells (hO'.as (pt bb (.cells #[.int .i64 ak, .int .i64 an, .string as', .slice (some ad2) al.length cb] 30 (0, 0)) ++ pt ab (.cells #[.int .i64 ak, .int .i64 an, .string as', .slice (some ad1) al.length ca] 30 (0, 0)))); simp only [cellsOf_append, cellsOf_pt] at hF'; go_simp; (try exact rfl)); simp only [Act.put, List.setIfInBounds_toArray, List.set_cons_zero, List.set_cons_succ]) | (refine sch_pass (o := ?_) ?_ ?_ ?_; rotate_left; (· ((conv => lhs; whnf); try exact rfl)); (· rfl); simp only [Act.put, List.setIfInBounds_toArray, List.set_cons_zero, List.set_cons_succ]) | (refine sch_look (o := ?_) (v := .agg ?_) ?_ ?_ ?_ ?_; rotate_left 2; (· ((conv => lhs; whnf); try exact rfl)); (· rfl); (· intro w' hO'; refine run_opLoadS (b := ?_) (cs := ?_) (e := ?_) (f := ?_) hO' ?_ ?_ ?_ ?_; rotate_left 4; (· exact rfl); (· exact inferInstance); (· simp; done); (· simp; done)); simp only [Act.put, List.setIfInBounds_toArray, List.set_cons_zero, List.set_cons_succ])
      first | (refine sch_look (o := ?_) (v := ?_) ?_ ?_ ?_ ?_; rotate_left 2; (· ((conv => lhs; whnf); try exact rfl)); (· rfl); (· intro w' hO'; have hF' := Own.cells (hO'.as (pt bb (.cells #[.int .i64 ak, .int .i64 an, .string as', .slice (some ad2) al.length cb] 30 (0, 0)) ++ pt ab (.cells #[.int .i64 ak, .int .i64 an, .string as', .slice (some ad1) al.length ca] 30 (0, 0)))); simp only [cellsOf_append, cellsOf_pt] at hF'; go_simp; (try exact rfl)); simp only [Act.put, List.setIfInBounds_toArray, List.set_cons_zero, List.set_cons_succ]) | (refine sch_pass (o := ?_) ?_ ?_ ?_; rotate_left; (· ((conv => lhs; whnf); try exact rfl)); (· rfl); simp only [Act.put, List.setIfInBounds_toArray, List.set_cons_zero, List.set_cons_succ]) | (refine sch_look (o := ?_) (v := .agg ?_) ?_ ?_ ?_ ?_; rotate_left 2; (· ((conv => lhs; whnf); try exact rfl)); (· rfl); (· intro w' hO'; refine run_opLoadS (b := ?_) (cs := ?_) (e := ?_) (f := ?_) hO' ?_ ?_ ?_ ?_; rotate_left 4; (· exact rfl); (· exact inferInstance); (· simp; done); (· simp; done)); simp only [Act.put, List.setIfInBounds_toArray, List.set_cons_zero, List.set_cons_succ])
      (refine sch_look (o := ?_) (v := .agg ([.int .i64 yk, .int .i64 yn, .string ys, .slice a2 0 c2] : List Value).toArray) ?_ ?_ ?_ ?_; rotate_left; (· ((conv => lhs; whnf); try exact rfl)); (· rfl); (· intro w' hO'; exact run_opLoadC (ad := ad2.add (j * 4)) (cs := [.int .i64 yk, .int .i64 yn, .string ys, .slice a2 0 c2]) (HY1.out _ _ (hO'.as (I ++ (pt bb (.cells #[.int .i64 ak, .int .i64 an, .string as', .slice (some ad2) al.length cb] 30 (0, 0)) ++ pt ab (.cells #[.int .i64 ak, .int .i64 an, .string as', .slice (some ad1) al.length ca] 30 (0, 0)))))) rfl (by simp) (by simp)); simp only [Act.put, List.setIfInBounds_toArray, List.set_cons_zero, List.set_cons_succ])
      refine sch_two (o := ?_) (o' := ?_) ?_ ?_ ?_ ?_
      rotate_left 2
      · ((conv => lhs; whnf); try exact rfl)
      · ((conv => lhs; whnf); try exact rfl)
      · go_wp2_with (first | (refine at_alloc ?_; go_must (refine own_alloc (z := .agg #[.int .i64 0, .int .i64 0, .string .empty, .slice none 0 0]) hO ?_ ?_ ?_; (· rfl); (· kernel_rfl); clear hO; intro xb _ hO; (try simp only [Value.cells] at hO); simp only [Act.put, List.setIfInBounds_toArray, List.set_cons_zero, List.set_cons_succ])))
        refine ⟨hO.as _, ?_⟩
        (refine sch_act (o := ?_) ?_ ?_; rotate_left; (· ((conv => lhs; whnf); try exact rfl)))
        go_wp2_with (first | (refine at_alloc ?_; go_must (refine own_alloc (z := .agg #[.int .i64 0, .int .i64 0, .string .empty, .slice none 0 0]) hO ?_ ?_ ?_; (· rfl); (· kernel_rfl); clear hO; intro yb _ hO; (try simp only [Value.cells] at hO); simp only [Act.put, List.setIfInBounds_toArray, List.set_cons_zero, List.set_cons_succ])))
        refine ⟨hO.as _, ?_⟩
        (refine sch_act (o := ?_) ?_ ?_; rotate_left; (· ((conv => lhs; whnf); try exact rfl)))
        go_wp2_with (first | (refine own_store (v := ?_) (off := 0) (b := xb) hO ?_ ?_ ?_ ?_ ?_ ?_ ?_; rotate_left; (· rfl); (· ((conv => lhs; whnf); try exact rfl)); (· ((conv => lhs; whnf); try exact rfl)); (· simp [Value.cells]); (· simp [Value.cells, Value.oneCell']); (· simp [Value.cells]); clear hO; (try clear hF); intro _ hO; (try simp only [splice, Value.cells] at hO); ((try simp only [List.nil_append, List.append_nil] at hO); have hF := Own.cells hO; simp only [cellsOf_append, cellsOf_pt] at hF); simp only [Act.put, List.setIfInBounds_toArray, List.set_cons_zero, List.set_cons_succ]))
        simp only [List.setIfInBounds_toArray, List.set_cons_zero, List.set_cons_succ, Nat.zero_add, Nat.reduceAdd] at hO
        refine ⟨hO.as _, ?_⟩
        (refine sch_act (o := ?_) ?_ ?_; rotate_left; (· ((conv => lhs; whnf); try exact rfl)))
        go_wp2_with (first | (refine own_store (v := ?_) (off := 0) (b := yb) hO ?_ ?_ ?_ ?_ ?_ ?_ ?_; rotate_left; (· rfl); (· ((conv => lhs; whnf); try exact rfl)); (· ((conv => lhs; whnf); try exact rfl)); (· simp [Value.cells]); (· simp [Value.cells, Value.oneCell']); (· simp [Value.cells]); clear hO; (try clear hF); intro _ hO; (try simp only [splice, Value.cells] at hO); ((try simp only [List.nil_append, List.append_nil] at hO); have hF := Own.cells hO; simp only [cellsOf_append, cellsOf_pt] at hF); simp only [Act.put, List.setIfInBounds_toArray, List.set_cons_zero, List.set_cons_succ]))
        simp only [List.setIfInBounds_toArray, List.set_cons_zero, List.set_cons_succ, Nat.zero_add, Nat.reduceAdd] at hO
        refine ⟨hO.as _, ?_⟩
        refine sch_done ?_
        replace hO : Own E _ (pt xb (.cells #[.int .i64 xk, .int .i64 xn, .string xs, .slice a1 0 c1] 30 (0, 0)) ++ (pt yb (.cells #[.int .i64 yk, .int .i64 yn, .string ys, .slice a2 0 c2] 30 (0, 0)) ++ (pt bb (.cells #[.int .i64 ak, .int .i64 an, .string as', .slice (some ad2) al.length cb] 30 (0, 0)) ++ (pt ab (.cells #[.int .i64 ak, .int .i64 an, .string as', .slice (some ad1) al.length ca] 30 (0, 0)) ++ (I ++ R))))) := hO.as _
        have hF := Own.cells hO
        simp only [cellsOf_append, cellsOf_pt] at hF
        rcases HC.out with h1 | ⟨h0, h1⟩ | ⟨h0, h9, h1⟩ | ⟨h0, h9, h1⟩
        · (go_wp2_with fail; go_ret; exact ⟨by rw [← HNO.out (fun e => h1 (by cases e; rfl))]; rfl, hO.as _⟩)
        · (subst h0; go_wp2_with fail; go_ret; exact ⟨by rw [← HNO.out (fun e => h1 (by cases e; rfl))]; rfl, hO.as _⟩)
        · (subst h0; subst h9; have hs2 := bs_ne h1; have hs3 : (xs.toList == ys.toList) = false := beq_eq_false_iff_ne.2 hs2; have HH := Lib.hid h1; clear h1; go_wp2_with fail; go_ret; exact ⟨by rw [← HNO.out (fun e => HH.out (by cases e; rfl))]; rfl, hO.as _⟩)
        · (subst h0; subst h9; subst h1; go_wp2_with fail; have hl8 := HL8.out; have hlt := HLT.out; go_roundw; (case rel => exact ⟨j + 1, by go_num, HLT.out, HNX.out rfl, hO.as _⟩); (case measure => (first | (clear hw1; simp [intOf]; omega; done) | (simp [intOf, hw1]; clear hw1; omega))))
      · go_wp2_with (first | (refine at_alloc ?_; go_must (refine own_alloc (z := .agg #[.int .i64 0, .int .i64 0, .string .empty, .slice none 0 0]) hO ?_ ?_ ?_; (· rfl); (· kernel_rfl); clear hO; intro yb _ hO; (try simp only [Value.cells] at hO); simp only [Act.put, List.setIfInBounds_toArray, List.set_cons_zero, List.set_cons_succ])))
        refine ⟨hO.as _, ?_⟩
        (refine sch_act (o := ?_) ?_ ?_; rotate_left; (· ((conv => lhs; whnf); try exact rfl)))
        go_wp2_with (first | (refine at_alloc ?_; go_must (refine own_alloc (z := .agg #[.int .i64 0, .int .i64 0, .string .empty, .slice none 0 0]) hO ?_ ?_ ?_; (· rfl); (· kernel_rfl); clear hO; intro xb _ hO; (try simp only [Value.cells] at hO); simp only [Act.put, List.setIfInBounds_toArray, List.set_cons_zero, List.set_cons_succ])))
        refine ⟨hO.as _, ?_⟩
        (refine sch_act (o := ?_) ?_ ?_; rotate_left; (· ((conv => lhs; whnf); try exact rfl)))
        go_wp2_with (first | (refine own_store (v := ?_) (off := 0) (b := xb) hO ?_ ?_ ?_ ?_ ?_ ?_ ?_; rotate_left; (· rfl); (· ((conv => lhs; whnf); try exact rfl)); (· ((conv => lhs; whnf); try exact rfl)); (· simp [Value.cells]); (· simp [Value.cells, Value.oneCell']); (· simp [Value.cells]); clear hO; (try clear hF); intro _ hO; (try simp only [splice, Value.cells] at hO); ((try simp only [List.nil_append, List.append_nil] at hO); have hF := Own.cells hO; simp only [cellsOf_append, cellsOf_pt] at hF); simp only [Act.put, List.setIfInBounds_toArray, List.set_cons_zero, List.set_cons_succ]))
        simp only [List.setIfInBounds_toArray, List.set_cons_zero, List.set_cons_succ, Nat.zero_add, Nat.reduceAdd] at hO
        refine ⟨hO.as _, ?_⟩
        (refine sch_act (o := ?_) ?_ ?_; rotate_left; (· ((conv => lhs; whnf); try exact rfl)))
        go_wp2_with (first | (refine own_store (v := ?_) (off := 0) (b := yb) hO ?_ ?_ ?_ ?_ ?_ ?_ ?_; rotate_left; (· rfl); (· ((conv => lhs; whnf); try exact rfl)); (· ((conv => lhs; whnf); try exact rfl)); (· simp [Value.cells]); (· simp [Value.cells, Value.oneCell']); (· simp [Value.cells]); clear hO; (try clear hF); intro _ hO; (try simp only [splice, Value.cells] at hO); ((try simp only [List.nil_append, List.append_nil] at hO); have hF := Own.cells hO; simp only [cellsOf_append, cellsOf_pt] at hF); simp only [Act.put, List.setIfInBounds_toArray, List.set_cons_zero, List.set_cons_succ]))
        simp only [List.setIfInBounds_toArray, List.set_cons_zero, List.set_cons_succ, Nat.zero_add, Nat.reduceAdd] at hO
        refine ⟨hO.as _, ?_⟩
        refine sch_done ?_
        replace hO : Own E _ (pt xb (.cells #[.int .i64 xk, .int .i64 xn, .string xs, .slice a1 0 c1] 30 (0, 0)) ++ (pt yb (.cells #[.int .i64 yk, .int .i64 yn, .string ys, .slice a2 0 c2] 30 (0, 0)) ++ (pt bb (.cells #[.int .i64 ak, .int .i64 an, .string as', .slice (some ad2) al.length cb] 30 (0, 0)) ++ (pt ab (.cells #[.int .i64 ak, .int .i64 an, .string as', .slice (some ad1) al.length ca] 30 (0, 0)) ++ (I ++ R))))) := hO.as _
        have hF := Own.cells hO
        simp only [cellsOf_append, cellsOf_pt] at hF
        rcases HC.out with h1 | ⟨h0, h1⟩ | ⟨h0, h9, h1⟩ | ⟨h0, h9, h1⟩
        · (go_wp2_with fail; go_ret; exact ⟨by rw [← HNO.out (fun e => h1 (by cases e; rfl))]; rfl, hO.as _⟩)
        · (subst h0; go_wp2_with fail; go_ret; exact ⟨by rw [← HNO.out (fun e => h1 (by cases e; rfl))]; rfl, hO.as _⟩)
        · (subst h0; subst h9; have hs2 := bs_ne h1; have hs3 : (xs.toList == ys.toList) = false := beq_eq_false_iff_ne.2 hs2; have HH := Lib.hid h1; clear h1; go_wp2_with fail; go_ret; exact ⟨by rw [← HNO.out (fun e => HH.out (by cases e; rfl))]; rfl, hO.as _⟩)
        · (subst h0; subst h9; subst h1; go_wp2_with fail; have hl8 := HL8.out; have hlt := HLT.out; go_roundw; (case rel => exact ⟨j + 1, by go_num, HLT.out, HNX.out rfl, hO.as _⟩); (case measure => (first | (clear hw1; simp [intOf]; omega; done) | (simp [intOf, hw1]; clear hw1; omega))))
    · obtain rfl : j = al.length := Nat.le_antisymm hj (Nat.le_of_not_lt hlt)
      have hjj : ¬ (al.length : Int) < al.length := by omega
      have hzt : true = z := by
        rw [HZ.out]
        symm
        apply decide_eq_true
        exact List.ext_getElem HLEN.out fun i h1 h2 => HB.out i h1 h2 h1
      have HZT := Lib.hid hzt
      clear hj hlt hzt
      go_wp2_with fail
      go_ret
      exact ⟨by rw [← HZT.out]; rfl, hO.as _⟩
end Go.Proofs.YticclennllklpaaDoor

/- Layer 9: lists of entries, in memory and handed in; calls handed in. -/
namespace Go.Dt
open Go Go.RowKit Go.Own Go.ChangeShapes Go.WideShapes Go.Deep

instance : Inhabited En := ⟨⟨⟨0, 0, .empty, []⟩, 0⟩⟩
def entV (e : En) (a : Option Addr) (c : Nat) : List Value := [.int .i64 e.d.k, .int .i64 e.d.n, .string e.d.s, .slice a e.d.l.length c, .int .i64 e.t]
/-- Entries lie at sa, in memory that I lists. -/
def EntsAt (E : World) (I : Fr) (sa : Option Addr) (l : List En) : Prop :=
  ∃ (ia : Nat → Option Addr) (ic : Nat → Nat), (∀ (Y : Fr) (w : World), Own E w (I ++ Y) → ∀ i (hi : i < l.length), ∃ ad, sa = some ad ∧ ∀ j u, (entV (l[i]'hi) (ia i) (ic i))[j]? = some u → w.cell? ((ad.add (i * 5)).add j) = some u) ∧
    ∀ i (hi : i < l.length), ItemsAt E I (ia i) (l[i]'hi).d.l
theorem EntsAt.nil (E : World) (I : Fr) (sa : Option Addr) : EntsAt E I sa [] := ⟨fun _ => none, fun _ => 0, fun _ _ _ i hi => absurd hi (Nat.not_lt_zero i), fun i hi => absurd hi (Nat.not_lt_zero i)⟩
theorem EntsAt.of {E : World} {I J K : Fr} {sa : Option Addr} {l : List En} (h : EntsAt E I sa l) (hp : J.Perm (I ++ K)) : EntsAt E J sa l := by
  obtain ⟨ia, ic, h1, h2⟩ := h
  refine ⟨ia, ic, fun Y w hO => h1 (K ++ Y) w ?_, fun i hi => (h2 i hi).of hp⟩
  rw [← List.append_assoc]
  exact hO.perm (List.Perm.append_right Y hp)
/-- The i-th of them. -/
theorem EntsAt.get {E w : World} {I Y : Fr} {sa : Option Addr} {l : List En} (h : EntsAt E I sa l) (hO : Own E w (I ++ Y)) {i : Nat} (hi : i < l.length) :
    ∃ ad a c, sa = some ad ∧ (∀ (Y : Fr) (w : World), Own E w (I ++ Y) → ∀ j u, (entV (l[i]'hi) a c)[j]? = some u → w.cell? ((ad.add (i * 5)).add j) = some u) ∧ ItemsAt E I a (l[i]'hi).d.l := by
  obtain ⟨ia, ic, h1, h2⟩ := h
  obtain ⟨ad, rfl, _⟩ := h1 Y w hO i hi
  refine ⟨ad, ia i, ic i, rfl, fun Y w hO j u hj => ?_, h2 i hi⟩
  obtain ⟨ad', e, h3⟩ := h1 Y w hO i hi
  cases e
  exact h3 j u hj
section
variable {H : Type} {enc : TypeId × Value → H} {P : Program} {w : World} {base : Nat} {spare : Nat → Bool} {held : Bool}
/-- A slice: each element a row of cells of the world, read as data. -/
theorem open_rowsE {t e : TypeId} {k fuel : Nat} {v : Value} {x : DataW H × List MemPlace} (ht : P.underlying t = some (.slice e)) (hC : P.cellsOf e = k) (h : DataW.trod enc P w base spare held fuel t [v] = some x) :
    ∃ (sa : Option Addr) (len cap : Nat), v = .slice sa len cap ∧ len ≤ cap ∧ cap ≤ maxLen ∧ (sa = none → len = 0 ∧ cap = 0) ∧ (len = 0 ∨ ∃ es sp, x.1 = .slice es sp ∧ es.length = len) ∧
      ∀ i, i < len → ∃ ad vs n y, sa = some ad ∧ vs.length = k ∧ RowAt w (ad.add (i * k)) vs ∧ DataW.trod enc P w base spare held n e vs = some y := by
  rcases open_slice ht h with ⟨h0, hx⟩ | ⟨a, len, cap, m, n, D, Pl, hcs, hb, hl, hm, hmm, hx, hi⟩
  · refine ⟨none, 0, 0, by simpa using h0, by omega, by simp [maxLen], fun _ => ⟨rfl, rfl⟩, .inl rfl, fun i hi => absurd hi (by omega)⟩
  · refine ⟨some a, len, cap, by simpa using hcs, hl, hm, by simp, .inr ⟨_, _, by rw [hx], by simp⟩, fun i him => ?_⟩
    have hlm : len ≤ m := by rw [hmm]; split <;> omega
    obtain ⟨cs', hc, ht'⟩ := hi i (by omega)
    rw [hC] at hc
    obtain ⟨_, hcl, hat⟩ := World.cells?_some hc
    refine ⟨a, cs', _, _, rfl, hcl, fun j u hj => ?_, ht'⟩
    have hjl : j < cs'.length := (List.getElem?_eq_some_iff.1 hj).1
    rw [hat j (by omega), hj]
end
end Go.Dt
namespace Go.Proofs.YticclennllklpaaDoor
open Go Go.RowKit Go.Own Go.Dt Go.ChangeShapes Go.WideShapes Go.Deep
section
variable {H : Type} {enc : TypeId × Value → H} {W : World} {spare : Nat → Bool}
set_option maxRecDepth 100000 in
theorem openEnts {fuel : Nat} {v : Value} {x : DataW H × List MemPlace} (h : DataW.trod enc Tryd.prog W 0 spare true fuel 22 [v] = some x) :
    ∃ (sa : Option Addr) (cap : Nat) (l : List En), v = .slice sa l.length cap ∧ l.length ≤ cap ∧ EntsAt W (oldFr W) sa l ∧ (∀ e ∈ l, e.d.wf ∧ i64 e.t) ∧ (l.length = 0 ∨ ∃ es sp, x.1 = .slice es sp ∧ es.length = l.length) := by
  obtain ⟨sa, len, cap, rfl, hlc, _, _, hx, hr⟩ := open_rowsE Tryd.underlying22 cE5 h
  have : ∀ i, i < len → ∃ o : En × Option Addr × Nat, (∃ ad, sa = some ad ∧ RowAt W (ad.add (i * 5)) (entV o.1 o.2.1 o.2.2)) ∧ (o.1.d.wf ∧ i64 o.1.t) ∧ ItemsAt W (oldFr W) o.2.1 o.1.d.l := by
    intro i hi
    obtain ⟨ad, vs, n, y, rfl, hvl, hrow, ht⟩ := hr i hi
    obtain ⟨e, ea, ec, hc, hw, hti, hlc, hI⟩ := openEn ht
    subst hc
    exact ⟨(e, ea, ec), ⟨ad, rfl, hrow⟩, ⟨hw, hti⟩, hI⟩
  obtain ⟨L, hL, hp⟩ := exists_list this
  subst hL
  refine ⟨sa, cap, L.map (·.1), by rw [List.length_map], by rw [List.length_map]; exact hlc, ⟨fun i => (L[i]?.map (·.2.1)).getD none, fun i => (L[i]?.map (·.2.2)).getD 0, fun Y w hO i hi => ?_, fun i hi => ?_⟩, fun x hx => ?_, by rw [List.length_map]; exact hx⟩
  · have hi' : i < L.length := by simpa using hi
    obtain ⟨⟨ad, h1, h2⟩, _⟩ := hp i hi'
    refine ⟨ad, h1, fun j u hj => h2.at hO j u ?_⟩
    rw [List.getElem_map] at hj
    simp only [List.getElem?_eq_getElem hi', Option.map_some, Option.getD_some] at hj
    exact hj
  · have hi' : i < L.length := by simpa using hi
    have := (hp i hi').2.2
    rw [List.getElem_map]
    simp only [List.getElem?_eq_getElem hi', Option.map_some, Option.getD_some]
    exact this
  · obtain ⟨o, ho, rfl⟩ := List.mem_map.1 hx
    obtain ⟨i, hi, rfl⟩ := List.mem_iff_getElem.1 ho
    exact (hp i hi).2.1
end
end Go.Proofs.YticclennllklpaaDoor

/- Plain: entries in order are told by what is among them. -/
namespace Go.Dt
open Go

theorem up_ext : ∀ {a b : List En}, a.Pairwise elt → b.Pairwise elt → (∀ e, e ∈ a ↔ e ∈ b) → a = b
  | [], [], _, _, _ => rfl
  | [], y :: b, _, _, h => absurd ((h y).2 (List.mem_cons_self ..)) (by simp)
  | x :: a, [], _, _, h => absurd ((h x).1 (List.mem_cons_self ..)) (by simp)
  | x :: a, y :: b, ha, hb, h => by
    have ha' := List.pairwise_cons.1 ha
    have hb' := List.pairwise_cons.1 hb
    have hxy : x = y := by
      rcases List.mem_cons.1 ((h x).1 (List.mem_cons_self ..)) with h1 | h1
      · exact h1
      rcases List.mem_cons.1 ((h y).2 (List.mem_cons_self ..)) with h2 | h2
      · exact h2.symm
      exact (elt_asymm (hb'.1 x h1) (ha'.1 y h2)).elim
    subst hxy
    rw [up_ext ha'.2 hb'.2 fun e => ⟨fun he => ?_, fun he => ?_⟩]
    · rcases List.mem_cons.1 ((h e).1 (List.mem_cons_of_mem _ he)) with rfl | h1
      · exact (elt_irrefl _ (ha'.1 _ he)).elim
      · exact h1
    · rcases List.mem_cons.1 ((h e).2 (List.mem_cons_of_mem _ he)) with rfl | h1
      · exact (elt_irrefl _ (hb'.1 _ he)).elim
      · exact h1
theorem wiE_mem (e x : En) (l : List En) : x ∈ wiE e l ↔ x = e ∨ x ∈ l := by
  rw [(wiE_perm e l).mem_iff, List.mem_cons]
/-- The places of a list, turned by a number and backward, are all places. -/
theorem turned {n k i : Nat} (hk : k < n) (hi : i < n) : ∃ j, j < n ∧ (n - 1 - j + k) % n = i := by
  by_cases h : k ≤ i
  · refine ⟨n - 1 - (i - k), by omega, ?_⟩
    have : n - 1 - (n - 1 - (i - k)) + k = i := by omega
    rw [this, Nat.mod_eq_of_lt hi]
  · refine ⟨k - 1 - i, by omega, ?_⟩
    have : n - 1 - (k - 1 - i) + k = i + n := by omega
    rw [this, Nat.add_mod_right, Nat.mod_eq_of_lt hi]
end Go.Dt

/- Layer 9: the reference: Same of entries, SameAll. -/
namespace Go.Proofs.YticclennllklpaaDoor
open Go Go.RowKit Go.Own Go.Dt

set_option maxRecDepth 100000 in
set_option maxHeartbeats 16000000 in
theorem refSame (E w : World) (X R I : Fr) (a b : En) (sa sb : Option Addr) (ca cb : Nat) (ha : a.d.ok = true) (hb : b.d.ok = true) (hIa : ItemsAt E I sa a.d.l) (hIb : ItemsAt E I sb b.d.l) (hO : Own E w X) [hp : Pick X I R] :
    Calls Tryd.prog 23 #[.agg #[.int .i64 a.d.k, .int .i64 a.d.n, .string a.d.s, .slice sa a.d.l.length ca, .int .i64 a.t], .agg #[.int .i64 b.d.k, .int .i64 b.d.n, .string b.d.s, .slice sb b.d.l.length cb, .int .i64 b.t]] w fun e w' => e = .returned (.bool (decide (a = b))) ∧ Own E w' (I ++ R) := by
  replace hO := hO.perm hp.perm
  clear hp
  obtain ⟨ad, at_⟩ := a
  obtain ⟨bd, bt_⟩ := b
  replace ha : ad.ok = true := ha
  replace hb : bd.ok = true := hb
  replace hIa : ItemsAt E I sa ad.l := hIa
  replace hIb : ItemsAt E I sb bd.l := hIb
  show Calls Tryd.prog 23 #[.agg #[.int .i64 ad.k, .int .i64 ad.n, .string ad.s, .slice sa ad.l.length ca, .int .i64 at_], .agg #[.int .i64 bd.k, .int .i64 bd.n, .string bd.s, .slice sb bd.l.length cb, .int .i64 bt_]] w _
  by_cases ht : at_ = bt_
  · subst ht
    have hz : decide ((⟨ad, at_⟩ : En) = ⟨bd, at_⟩) = decide (ad = bd) := by
      by_cases e : ad = bd
      · rw [e, decide_eq_true rfl, decide_eq_true rfl]
      · rw [decide_eq_false e, decide_eq_false]; intro e2; cases e2; exact e rfl
    rw [hz]
    generalize hz2 : decide (ad = bd) = z
    have HZ := Lib.hid hz2
    have HA := Lib.hid ha
    have HB := Lib.hid hb
    clear hz hz2 ha hb
    go_enter Tryd.func23, Tryd.ntmps23
    go_wp2_with (first | (refine at_box ?_; go_must (refine own_box (v := ?_) hO ?_ ?_ ?_; rotate_left; (· rfl); (· ((conv => lhs; whnf); try exact rfl)); clear hO; (try clear hF); intro ob _ hO; (try simp only [Value.cells] at hO); ((try simp only [List.nil_append, List.append_nil] at hO); have hF := Own.cells hO; simp only [cellsOf_append, cellsOf_pt] at hF); simp only [Act.put, List.setIfInBounds_toArray, List.set_cons_zero, List.set_cons_succ])) | (refine at_load ?_; refine own_loadS (b := ?_) (cs := ?_) (e := ?_) (f := ?_) hO ?_ ?_ ?_ ?_ ?_ ?_; rotate_left 4; (· rfl); (· rfl); (· exact inferInstance); (· simp; done); (· simp [Value.cells]; done); simp only [Act.put, List.setIfInBounds_toArray, List.set_cons_zero, List.set_cons_succ]) | (go_at_call 39; refine (refSameD E _ _ _ I ad bd sa sb ca cb HA.out HB.out hIa hIb (hO.as (I ++ R))).mono ?_; rw [HZ.out]; clear hO hF; rintro e w2 ⟨rfl, hO⟩))
    go_ret
    exact ⟨rfl, hO.as _⟩
  · have hz : decide ((⟨ad, at_⟩ : En) = ⟨bd, bt_⟩) = false := by
      rw [decide_eq_false]; intro e2; cases e2; exact ht rfl
    rw [hz]
    have hb2 : (at_ == bt_) = false := beq_eq_false_iff_ne.2 ht
    clear ht hz
    go_enter Tryd.func23, Tryd.ntmps23
    go_wp2_with (first | (refine at_box ?_; go_must (refine own_box (v := ?_) hO ?_ ?_ ?_; rotate_left; (· rfl); (· ((conv => lhs; whnf); try exact rfl)); clear hO; (try clear hF); intro ob _ hO; (try simp only [Value.cells] at hO); ((try simp only [List.nil_append, List.append_nil] at hO); have hF := Own.cells hO; simp only [cellsOf_append, cellsOf_pt] at hF); simp only [Act.put, List.setIfInBounds_toArray, List.set_cons_zero, List.set_cons_succ])) | (refine at_load ?_; refine own_loadS (b := ?_) (cs := ?_) (e := ?_) (f := ?_) hO ?_ ?_ ?_ ?_ ?_ ?_; rotate_left 4; (· rfl); (· rfl); (· exact inferInstance); (· simp; done); (· simp [Value.cells]; done); simp only [Act.put, List.setIfInBounds_toArray, List.set_cons_zero, List.set_cons_succ]))
    go_ret
    exact ⟨rfl, hO.as _⟩
set_option maxRecDepth 100000 in
set_option maxHeartbeats 16000000 in
theorem refSameAll (E w : World) (X R I : Fr) (sa sb : Option Addr) (ca cb : Nat) (la lb : List En) (hll : la.length ≤ 4000000000000) (hla : ∀ e ∈ la, e.d.ok = true) (hlb : ∀ e ∈ lb, e.d.ok = true) (hIa : EntsAt E I sa la) (hIb : EntsAt E I sb lb) (hO : Own E w X) [hp : Pick X I R] :
    Calls Tryd.prog 14 #[.slice sa la.length ca, .slice sb lb.length cb] w fun e w' => e = .returned (.bool (decide (la = lb))) ∧ Own E w' (I ++ R) := by
  replace hO := hO.perm hp.perm
  clear hp
  have HLL := Lib.hid hll
  clear hll
  have HLA := Lib.hid hla
  have HLB := Lib.hid hlb
  clear hla hlb
  generalize hz : decide (la = lb) = z
  have HZ := Lib.hid hz
  clear hz
  by_cases hl : la.length = lb.length
  rotate_left
  · obtain rfl : false = z := by rw [← HZ.out, decide_eq_false]; intro e; exact hl (by rw [e])
    have hl2 : ¬ (la.length : Int) = lb.length := by omega
    clear HZ HLA HLB
    go_enter Tryd.func14, Tryd.ntmps14
    go_wp2_with fail
    go_ret
    exact ⟨rfl, hO⟩
  rw [← hl]
  have HLEN := Lib.hid hl
  clear hl
  go_enter Tryd.func14, Tryd.ntmps14
  go_wp2_with fail
  have hO1 := hO
  clear hO
  go_loopw [5] (fun i wr => ∃ (j : Nat), i = .int .i64 (j : Int) ∧ j ≤ la.length ∧ (∀ i (h1 : i < la.length) (h2 : i < lb.length), i < j → la[i]'h1 = lb[i]'h2) ∧ Own E wr (I ++ R)) (fun i _ => la.length - (intOf i).toNat)
  case atStart => exact ⟨0, rfl, Nat.zero_le _, fun _ _ _ h => absurd h (Nat.not_lt_zero _), hO1⟩
  case round =>
    clear hO1
    obtain ⟨j, rfl, hj, hbef, hO⟩ := hrel
    have HB := Lib.hid hbef
    clear hbef
    by_cases hlt : j < la.length
    · have hj1 : (j : Int) < la.length := by omega
      have hltb : j < lb.length := by rw [← HLEN.out]; exact hlt
      obtain ⟨ad1, a1, c1, rfl, hX1, hXI⟩ := hIa.get hO hlt
      obtain ⟨ad2, a2, c2, rfl, hY1, hYI⟩ := hIb.get hO hltb
      obtain ⟨x, hx⟩ : ∃ x, la[j]'hlt = x := ⟨_, rfl⟩
      obtain ⟨y, hy⟩ : ∃ y, lb[j]'hltb = y := ⟨_, rfl⟩
      have hxo : x.d.ok = true := HLA.out x (hx ▸ List.getElem_mem hlt)
      have hyo : y.d.ok = true := HLB.out y (hy ▸ List.getElem_mem hltb)
      rw [hx] at hX1 hXI
      rw [hy] at hY1 hYI
      have hno : x ≠ y → z = false := fun h => by
        rw [← HZ.out]
        apply decide_eq_false
        intro e
        subst e
        exact h (hx.symm.trans hy)
      have hnx : x = y → ∀ i (h1 : i < la.length) (h2 : i < lb.length), i < j + 1 → la[i]'h1 = lb[i]'h2 := fun h i h1 h2 hi => by
        by_cases hij : i = j
        · subst hij
          rw [hx, hy, h]
        · exact HB.out i h1 h2 (by omega)
      have HNO := Lib.hid hno
      have HNX := Lib.hid hnx
      have HLT := Lib.hid hlt
      have HXO := Lib.hid hxo
      have HYO := Lib.hid hyo
      clear hno hnx hlt hltb hx hy hj hxo hyo
      have HX1 : Hid (∀ (Y : Fr) (w : World), Own E w (I ++ Y) → ∀ i u, ([.int .i64 x.d.k, .int .i64 x.d.n, .string x.d.s, .slice a1 x.d.l.length c1, .int .i64 x.t] : List Value)[i]? = some u → w.cell? ((ad1.add (j * 5)).add i) = some u) := Lib.hid hX1
      have HY1 : Hid (∀ (Y : Fr) (w : World), Own E w (I ++ Y) → ∀ i u, ([.int .i64 y.d.k, .int .i64 y.d.n, .string y.d.s, .slice a2 y.d.l.length c2, .int .i64 y.t] : List Value)[i]? = some u → w.cell? ((ad2.add (j * 5)).add i) = some u) := Lib.hid hY1
      clear hX1 hY1
      generalize hq : decide (x = y) = q
      have HQ := Lib.hid hq
      clear hq
      have g2 : (0 : Int) ≤ (j : Int) := by omega
      have hw0 : IntKind.i64.wrap ((j : Int) + 1) = (j : Int) + 1 := wi_1 j (by have := HLL.out; have := HLT.out; omega)
      have hw1 : wrap64 ((j : Int) + 1) = (j : Int) + 1 := w64_1 j (by have := HLL.out; have := HLT.out; omega)
      have hjb : (j : Int) < lb.length := by have := HLEN.out; omega
      go_wp2_with fail
      (try (go_wp2_with fail))
      refine region_sch (fun w' => Own E w' (I)) (.look 0 (.look 1 (.look 2 (.look 3 (.look 4 (.look 5 (.look 6 (.look 7 (.act 8 (.look 9 .done)))))))))) (by kernel_rfl) (by kernel_rfl) (fun _ _ d _ _ h => by cases d <;> exact h) ?_ ?_
      · exact hO.drew.as _
      replace hO := hO.drew
      generalize World.drew _ = wdr at hO ⊢
      first | (refine sch_look (o := ?_) (v := ?_) ?_ ?_ ?_ ?_; rotate_left 2; (· ((conv => lhs; whnf); try exact rfl)); (· rfl); (· intro w' hO'; skip; go_simp; (try exact rfl)); simp only [Act.put, List.setIfInBounds_toArray, List.set_cons_zero, List.set_cons_succ]) | (refine sch_pass (o := ?_) ?_ ?_ ?_; rotate_left; (· ((conv => lhs; whnf); try exact rfl)); (· rfl); simp only [Act.put, List.setIfInBounds_toArray, List.set_cons_zero, List.set_cons_succ]) | (refine sch_look (o := ?_) (v := .agg ?_) ?_ ?_ ?_ ?_; rotate_left 2; (· ((conv => lhs; whnf); try exact rfl)); (· rfl); (· intro w' hO'; refine run_opLoadS (b := ?_) (cs := ?_) (e := ?_) (f := ?_) hO' ?_ ?_ ?_ ?_; rotate_left 4; (· exact rfl); (· exact inferInstance); (· simp; done); (· simp; done)); simp only [Act.put, List.setIfInBounds_toArray, List.set_cons_zero, List.set_cons_succ])
      first | (refine sch_look (o := ?_) (v := ?_) ?_ ?_ ?_ ?_; rotate_left 2; (· ((conv => lhs; whnf); try exact rfl)); (· rfl); (· intro w' hO'; skip; go_simp; (try exact rfl)); simp only [Act.put, List.setIfInBounds_toArray, List.set_cons_zero, List.set_cons_succ]) | (refine sch_pass (o := ?_) ?_ ?_ ?_; rotate_left; (· ((conv => lhs; whnf); try exact rfl)); (· rfl); simp only [Act.put, List.setIfInBounds_toArray, List.set_cons_zero, List.set_cons_succ]) | (refine sch_look (o := ?_) (v := .agg ?_) ?_ ?_ ?_ ?_; rotate_left 2; (· ((conv => lhs; whnf); try exact rfl)); (· rfl); (· intro w' hO'; refine run_opLoadS (b := ?_) (cs := ?_) (e := ?_) (f := ?_) hO' ?_ ?_ ?_ ?_; rotate_left 4; (· exact rfl); (· exact inferInstance); (· simp; done); (· simp; done)); simp only [Act.put, List.setIfInBounds_toArray, List.set_cons_zero, List.set_cons_succ])
      first | (refine sch_look (o := ?_) (v := ?_) ?_ ?_ ?_ ?_; rotate_left 2; (· ((conv => lhs; whnf); try exact rfl)); (· rfl); (· intro w' hO'; skip; go_simp; (try exact rfl)); simp only [Act.put, List.setIfInBounds_toArray, List.set_cons_zero, List.set_cons_succ]) | (refine sch_pass (o := ?_) ?_ ?_ ?_; rotate_left; (· ((conv => lhs; whnf); try exact rfl)); (· rfl); simp only [Act.put, List.setIfInBounds_toArray, List.set_cons_zero, List.set_cons_succ]) | (refine sch_look (o := ?_) (v := .agg ?_) ?_ ?_ ?_ ?_; rotate_left 2; (· ((conv => lhs; whnf); try exact rfl)); (· rfl); (· intro w' hO'; refine run_opLoadS (b := ?_) (cs := ?_) (e := ?_) (f := ?_) hO' ?_ ?_ ?_ ?_; rotate_left 4; (· exact rfl); (· exact inferInstance); (· simp; done); (· simp; done)); simp only [Act.put, List.setIfInBounds_toArray, List.set_cons_zero, List.set_cons_succ])
      (refine sch_look (o := ?_) (v := .agg ([.int .i64 x.d.k, .int .i64 x.d.n, .string x.d.s, .slice a1 x.d.l.length c1, .int .i64 x.t] : List Value).toArray) ?_ ?_ ?_ ?_; rotate_left; (· ((conv => lhs; whnf); try exact rfl)); (· rfl); (· intro w' hO'; exact run_opLoadC (ad := ad1.add (j * 5)) (cs := [.int .i64 x.d.k, .int .i64 x.d.n, .string x.d.s, .slice a1 x.d.l.length c1, .int .i64 x.t]) (HX1.out _ _ (hO'.as (I ++ []))) rfl (by simp) (by simp)); simp only [Act.put, List.setIfInBounds_toArray, List.set_cons_zero, List.set_cons_succ])
      first | (refine sch_look (o := ?_) (v := ?_) ?_ ?_ ?_ ?_; rotate_left 2; (· ((conv => lhs; whnf); try exact rfl)); (· rfl); (· intro w' hO'; skip; go_simp; (try exact rfl)); simp only [Act.put, List.setIfInBounds_toArray, List.set_cons_zero, List.set_cons_succ]) | (refine sch_pass (o := ?_) ?_ ?_ ?_; rotate_left; (· ((conv => lhs; whnf); try exact rfl)); (· rfl); simp only [Act.put, List.setIfInBounds_toArray, List.set_cons_zero, List.set_cons_succ]) | (refine sch_look (o := ?_) (v := .agg ?_) ?_ ?_ ?_ ?_; rotate_left 2; (· ((conv => lhs; whnf); try exact rfl)); (· rfl); (· intro w' hO'; refine run_opLoadS (b := ?_) (cs := ?_) (e := ?_) (f := ?_) hO' ?_ ?_ ?_ ?_; rotate_left 4; (· exact rfl); (· exact inferInstance); (· simp; done); (· simp; done)); simp only [Act.put, List.setIfInBounds_toArray, List.set_cons_zero, List.set_cons_succ])
      first | (refine sch_look (o := ?_) (v := ?_) ?_ ?_ ?_ ?_; rotate_left 2; (· ((conv => lhs; whnf); try exact rfl)); (· rfl); (· intro w' hO'; skip; go_simp; (try exact rfl)); simp only [Act.put, List.setIfInBounds_toArray, List.set_cons_zero, List.set_cons_succ]) | (refine sch_pass (o := ?_) ?_ ?_ ?_; rotate_left; (· ((conv => lhs; whnf); try exact rfl)); (· rfl); simp only [Act.put, List.setIfInBounds_toArray, List.set_cons_zero, List.set_cons_succ]) | (refine sch_look (o := ?_) (v := .agg ?_) ?_ ?_ ?_ ?_; rotate_left 2; (· ((conv => lhs; whnf); try exact rfl)); (· rfl); (· intro w' hO'; refine run_opLoadS (b := ?_) (cs := ?_) (e := ?_) (f := ?_) hO' ?_ ?_ ?_ ?_; rotate_left 4; (· exact rfl); (· exact inferInstance); (· simp; done); (· simp; done)); simp only [Act.put, List.setIfInBounds_toArray, List.set_cons_zero, List.set_cons_succ])
      first | (refine sch_look (o := ?_) (v := ?_) ?_ ?_ ?_ ?_; rotate_left 2; (· ((conv => lhs; whnf); try exact rfl)); (· rfl); (· intro w' hO'; skip; go_simp; (try exact rfl)); simp only [Act.put, List.setIfInBounds_toArray, List.set_cons_zero, List.set_cons_succ]) | (refine sch_pass (o := ?_) ?_ ?_ ?_; rotate_left; (· ((conv => lhs; whnf); try exact rfl)); (· rfl); simp only [Act.put, List.setIfInBounds_toArray, List.set_cons_zero, List.set_cons_succ]) | (refine sch_look (o := ?_) (v := .agg ?_) ?_ ?_ ?_ ?_; rotate_left 2; (· ((conv => lhs; whnf); try exact rfl)); (· rfl); (· intro w' hO'; refine run_opLoadS (b := ?_) (cs := ?_) (e := ?_) (f := ?_) hO' ?_ ?_ ?_ ?_; rotate_left 4; (· exact rfl); (· exact inferInstance); (· simp; done); (· simp; done)); simp only [Act.put, List.setIfInBounds_toArray, List.set_cons_zero, List.set_cons_succ])
      (refine sch_look (o := ?_) (v := .agg ([.int .i64 y.d.k, .int .i64 y.d.n, .string y.d.s, .slice a2 y.d.l.length c2, .int .i64 y.t] : List Value).toArray) ?_ ?_ ?_ ?_; rotate_left; (· ((conv => lhs; whnf); try exact rfl)); (· rfl); (· intro w' hO'; exact run_opLoadC (ad := ad2.add (j * 5)) (cs := [.int .i64 y.d.k, .int .i64 y.d.n, .string y.d.s, .slice a2 y.d.l.length c2, .int .i64 y.t]) (HY1.out _ _ (hO'.as (I ++ []))) rfl (by simp) (by simp)); simp only [Act.put, List.setIfInBounds_toArray, List.set_cons_zero, List.set_cons_succ])
      (refine sch_act (o := ?_) ?_ ?_; rotate_left; (· ((conv => lhs; whnf); try exact rfl)))
      go_wp2_with fail
      refine (refSame E _ _ _ I x y a1 a2 c1 c2 HXO.out HYO.out hXI hYI hO).mono ?_
      clear hO
      rw [HQ.out]
      rintro e w3 ⟨rfl, hO⟩
      go_wp2_with fail
      refine ⟨hO.as _, ?_⟩
      first | (refine sch_look (o := ?_) (v := ?_) ?_ ?_ ?_ ?_; rotate_left 2; (· ((conv => lhs; whnf); try exact rfl)); (· rfl); (· intro w' hO'; skip; go_simp; (try exact rfl)); simp only [Act.put, List.setIfInBounds_toArray, List.set_cons_zero, List.set_cons_succ]) | (refine sch_pass (o := ?_) ?_ ?_ ?_; rotate_left; (· ((conv => lhs; whnf); try exact rfl)); (· rfl); simp only [Act.put, List.setIfInBounds_toArray, List.set_cons_zero, List.set_cons_succ]) | (refine sch_look (o := ?_) (v := .agg ?_) ?_ ?_ ?_ ?_; rotate_left 2; (· ((conv => lhs; whnf); try exact rfl)); (· rfl); (· intro w' hO'; refine run_opLoadS (b := ?_) (cs := ?_) (e := ?_) (f := ?_) hO' ?_ ?_ ?_ ?_; rotate_left 4; (· exact rfl); (· exact inferInstance); (· simp; done); (· simp; done)); simp only [Act.put, List.setIfInBounds_toArray, List.set_cons_zero, List.set_cons_succ])
      refine sch_done ?_
      cases q
      · obtain rfl : z = false := HNO.out (of_decide_eq_false HQ.out)
        go_wp2_with fail
        go_ret
        exact ⟨rfl, hO⟩
      · have e := HNX.out (of_decide_eq_true HQ.out)
        have HE := Lib.hid e
        clear e
        go_wp2_with fail
        have hlt := HLT.out
        go_roundw
        case rel => exact ⟨j + 1, by go_num, hlt, HE.out, hO⟩
        case measure => (first | (clear hw1; simp [intOf]; omega; done) | (simp [intOf, hw1]; clear hw1; omega))
    · obtain rfl : j = la.length := Nat.le_antisymm hj (Nat.le_of_not_lt hlt)
      have hjj : ¬ (la.length : Int) < la.length := by omega
      obtain rfl : z = true := by
        rw [← HZ.out]
        apply decide_eq_true
        exact List.ext_getElem HLEN.out fun i h1 h2 => HB.out i h1 h2 h1
      clear hj hlt
      go_wp2_with fail
      go_ret
      exact ⟨rfl, hO⟩
end Go.Proofs.YticclennllklpaaDoor

/- The method: Entries. -/
namespace Go.Proofs.YticclennllklpaaDoor
open Go Go.RowKit Go.Own Go.Dt

theorem sltE : SlT Tryd.prog 22 32 5 64 (.agg #[.int .i64 0, .int .i64 0, .string .empty, .slice none 0 0, .int .i64 0]) := ⟨by kernel_rfl, by kernel_rfl, rfl⟩
theorem four_at1 {E w : World} {X : Fr} {b : Nat} {e : TypeId} {f : Nat × Nat} {c0 c1 c2 c3 c4 c5 : Value} (hO : Own E w X) [hh : Has X b (.cells #[c0, c1, c2, c3, c4, c5] e f)] : ∀ j v, [c1, c2, c3, c4][j]? = some v → w.cell? ((⟨b, 1, none⟩ : Addr).add j) = some v := by
  intro j v hj
  rw [add_lit, hO.cell (b := b)]
  match j, hj with
  | 0, hj => exact hj
  | 1, hj => exact hj
  | 2, hj => exact hj
  | 3, hj => exact hj
/-- An entry in a list of one's own, and where its key's list lies. -/
structure Oe where
  e : En
  a : Option Addr
  c : Nat
def Oe.v (o : Oe) : List Value := entV o.e o.a o.c
theorem Oe.len (o : Oe) : o.v.length = 5 := rfl
theorem oes_one (os : List Oe) : ∀ u ∈ os.flatMap Oe.v, u.oneCell' = true := by
  intro u hu
  obtain ⟨x, _, hx⟩ := List.mem_flatMap.1 hu
  unfold Oe.v entV at hx
  simp only [List.mem_cons, List.not_mem_nil, or_false] at hx
  rcases hx with rfl | rfl | rfl | rfl | rfl <;> rfl
theorem ents_own {E : World} {so : Option Addr} {co : Nat} {SO F : Fr} {os : List Oe} (hS : Sl 32 5 so os.length co (os.flatMap Oe.v) SO) (hF : ∀ o ∈ os, ItemsAt E F o.a o.e.d.l) : EntsAt E (SO ++ F) so (os.map (·.e)) := by
  refine ⟨fun i => (os[i]?.map (·.a)).getD none, fun i => (os[i]?.map (·.c)).getD 0, fun Y w hO i hi => ?_, fun i hi => ?_⟩
  · have hi' : i < os.length := by simpa using hi
    obtain ⟨b, rfl⟩ := sl_some9 hS (by omega)
    refine ⟨⟨b, 0, none⟩, rfl, fun j u hj => ?_⟩
    rw [List.getElem_map] at hj
    simp only [List.getElem?_eq_getElem hi', Option.map_some, Option.getD_some] at hj
    have hO' : Own E w (SO ++ (F ++ Y)) := by rwa [List.append_assoc] at hO
    have := row_cells Oe.len hS hO' hi' j u hj
    rw [add_lit, Nat.zero_add]
    exact this
  · have hi' : i < os.length := by simpa using hi
    rw [List.getElem_map]
    simp only [List.getElem?_eq_getElem hi', Option.map_some, Option.getD_some]
    exact (hF _ (List.getElem_mem hi')).of List.perm_append_comm
def EntriesP (E : World) (es : List En) (X : Fr) (e : Ending) (w' : World) : Prop :=
  ∃ (so : Option Addr) (co : Nat) (os : List Oe) (SO FO : Fr), e = .returned (.slice so es.length co) ∧ os.map (·.e) = es ∧ Sl 32 5 so es.length co (os.flatMap Oe.v) SO ∧ (∀ o ∈ os, ItemsAt E FO o.a o.e.d.l) ∧ Own E w' (SO ++ (FO ++ X))
set_option maxRecDepth 100000 in
set_option maxHeartbeats 16000000 in
theorem pEntries (E w : World) (X R A : Fr) (p : Nat) (hs : List Hl) (hl : hs.length ≤ 2000000000000) (hA : PlainAt E p hs A) (hO : Own E w X) [hp : Pick X A R] :
    Calls Tryd.prog 15 #[.pointer (some ⟨p, 0, none⟩)] w (EntriesP E (esOf hs) (A ++ R)) := by
  replace hO := hO.perm hp.perm
  clear hp
  generalize hpost : EntriesP E (esOf hs) (A ++ R) = POST
  have HPOST := Lib.hid hpost
  clear hpost
  obtain ⟨sa, cap, S, FC, hE, hS, hFC, rfl⟩ := hA
  have HE := Lib.hid hE
  have HFC := Lib.hid hFC
  clear hE hFC
  replace hO : Own E w (plainF p sa hs.length cap ++ (S ++ (FC ++ R))) := hO.as _
  have cp : w.cell? ⟨p, 1, none⟩ = some (.slice sa hs.length cap) := by
    have h9 : Own E w (pt p (.cells #[.bool true, .slice sa hs.length cap] 66 (0, 0)) ++ (S ++ (FC ++ R))) := hO.as (plainF p sa hs.length cap ++ (S ++ (FC ++ R)))
    rw [h9.cell (b := p)]; rfl
  go_enter Tryd.func15, Tryd.ntmps15
  go_wp2_with fail
  refine (pGiven E _ _ _ p hs.length cap sa hO).mono ?_
  rintro e w1 ⟨rfl, rfl⟩
  go_wp2_with fail
  have hO1 := hO
  clear hO cp
  go_loopw [3, 14] (fun o i wr => ∃ (j : Nat) (so : Option Addr) (co : Nat) (os : List Oe) (SO FO : Fr), o = .slice so j co ∧ i = .int .i64 (j : Int) ∧ j ≤ hs.length ∧ os.map (·.e) = (esOf hs).take j ∧ Sl 32 5 so j co (os.flatMap Oe.v) SO ∧ (∀ o ∈ os, ItemsAt E FO o.a o.e.d.l) ∧ Own E wr (SO ++ (FO ++ (plainF p sa hs.length cap ++ (S ++ (FC ++ R)))))) (fun _ i _ => hs.length - (intOf i).toNat)
  case atStart => exact ⟨0, none, 0, [], [], [], rfl, rfl, Nat.zero_le _, rfl, Sl.nil _ _, fun _ h => (nomatch h), hO1⟩
  case round =>
    clear hO1
    obtain ⟨j, so, co, os, SO, FO, rfl, rfl, hj, hos, hSO, hFO, hO⟩ := hrel
    have HOS := Lib.hid hos
    have HFO := Lib.hid hFO
    clear hos hFO
    by_cases hlt : j < hs.length
    · have hj1 : (j : Int) < hs.length := by omega
      have g2 : (0 : Int) ≤ (j : Int) := by omega
      obtain ⟨sb, rfl⟩ := sl_some9 hS (by omega)
      obtain ⟨x, hx⟩ : ∃ x, hs[j]'hlt = x := ⟨_, rfl⟩
      have hsc : ∀ i v, x.v[i]? = some v → wr.cell? ((⟨sb, j * 6, none⟩ : Addr).add i) = some v := hx ▸ row_cells Hl.len hS hO hlt
      have HSC : Hid (∀ i v, ([.string (encB x.e.d), .int .i64 x.e.d.k, .int .i64 x.e.d.n, .string x.e.d.s, .slice x.a x.e.d.l.length x.c, .int .i64 x.e.t] : List Value)[i]? = some v → wr.cell? ((⟨sb, j * 6, none⟩ : Addr).add i) = some v) := Lib.hid hsc
      have hmem : x ∈ hs := hx ▸ List.getElem_mem hlt
      have hxI : ItemsAt E FC x.a x.e.d.l := HFC.out x hmem
      have hxe : (esOf hs)[j]'(by rw [esOf_len]; exact hlt) = x.e := by rw [esOf_get hs j _ hlt, hx]
      have hxo : x.e.d.ok = true := (HE.out.ok x.e (List.mem_map.2 ⟨x, hmem, rfl⟩)).1
      have hl8 : x.e.d.l.length ≤ 8 := by
        by_cases k3 : x.e.d.k = 3
        · exact (Dt.ok_list k3 hxo).2.2.1
        · have h9 : x.e.d.l.length = 0 := (It.ok_or (Dt.ok_one k3 hxo)).1
          omega
      have HT := Lib.hid (show (esOf hs).take (j + 1) = (esOf hs).take j ++ [x.e] by rw [List.take_succ_eq_append_getElem (by rw [esOf_len]; exact hlt), hxe])
      have HLT := Lib.hid hlt
      have HXI := Lib.hid hxI
      have hj64 : j * 64 ≤ 140737488355328 := by omega
      have hj65 : j < maxLen := by unfold maxLen; omega
      have hw0 : IntKind.i64.wrap ((j : Int) + 1) = (j : Int) + 1 := wi_1 j (by omega)
      have hw1 : wrap64 ((j : Int) + 1) = (j : Int) + 1 := w64_1 j (by omega)
      clear hsc hx hmem hxI hxe hxo hj hlt
      go_wp2_with (first | (refine at_load (t := 79) ?_; go_must (refine own_loadC (ad := ⟨sb, j * 6, none⟩) (cs := [.string (encB x.e.d), .int .i64 x.e.d.k, .int .i64 x.e.d.n, .string x.e.d.s, .slice x.a x.e.d.l.length x.c, .int .i64 x.e.t]) ?_ HSC.out ?_ ?_ ?_ ?_; (· rfl); (· ((conv => lhs; whnf); try exact rfl)); (· simp; done); (· simp; done); simp only [Act.put, List.setIfInBounds_toArray, List.set_cons_zero, List.set_cons_succ])) | (refine at_alloc ?_; go_must (refine own_alloc (z := .agg #[.string .empty, .int .i64 0, .int .i64 0, .string .empty, .slice none 0 0, .int .i64 0]) hO ?_ ?_ ?_; (· rfl); (· kernel_rfl); clear hO; (try clear hF); intro hb _ hO; (try simp only [Value.cells] at hO); ((try simp only [List.nil_append, List.append_nil] at hO); have hF := Own.cells hO; simp only [cellsOf_append, cellsOf_pt] at hF); simp only [Act.put, List.setIfInBounds_toArray, List.set_cons_zero, List.set_cons_succ])) | (refine own_store (v := ?_) (off := 0) (b := hb) hO ?_ ?_ ?_ ?_ ?_ ?_ ?_; rotate_left; (· rfl); (· ((conv => lhs; whnf); try exact rfl)); (· ((conv => lhs; whnf); try exact rfl)); (· simp [Value.cells]); (· simp [Value.cells, Value.oneCell']); (· simp [Value.cells]); clear hO; (try clear hF); intro _ hO; (try simp only [splice, Value.cells] at hO); ((try simp only [List.nil_append, List.append_nil] at hO); have hF := Own.cells hO; simp only [cellsOf_append, cellsOf_pt] at hF); simp only [Act.put, List.setIfInBounds_toArray, List.set_cons_zero, List.set_cons_succ]))
      simp only [List.setIfInBounds_toArray, List.set_cons_zero, List.set_cons_succ, Nat.zero_add, Nat.reduceAdd] at hO
      have hF := Own.cells hO; simp only [cellsOf_append, cellsOf_pt] at hF
      (try (go_wp2_with fail))
      refine region_sch (fun w' => Own E w' (pt hb (.cells #[.string (encB x.e.d), .int .i64 x.e.d.k, .int .i64 x.e.d.n, .string x.e.d.s, .slice x.a x.e.d.l.length x.c, .int .i64 x.e.t] 79 (0, 0)))) (.look 0 (.look 1 (.look 2 (.look 3 (.look 5 (.look 6 (.look 7 (.act 4 (.look 8 (.act 9 (.act 10 (.look 11 .done)))))))))))) (by kernel_rfl) (by kernel_rfl) (fun _ _ d _ _ h => by cases d <;> exact h) ?_ ?_
      · exact hO.drew.as _
      replace hO := hO.drew
      generalize World.drew _ = wdr at hO ⊢
      first | (refine sch_look (o := ?_) (v := ?_) ?_ ?_ ?_ ?_; rotate_left 2; (· ((conv => lhs; whnf); try exact rfl)); (· rfl); (· intro w' hO'; have c5 : w'.cell? ⟨hb, 5, none⟩ = some (.int .i64 x.e.t) := (by rw [hO'.cell (b := hb)]; rfl); go_simp; (try exact rfl)); simp only [Act.put, List.setIfInBounds_toArray, List.set_cons_zero, List.set_cons_succ]) | (refine sch_pass (o := ?_) ?_ ?_ ?_; rotate_left; (· ((conv => lhs; whnf); try exact rfl)); (· rfl); simp only [Act.put, List.setIfInBounds_toArray, List.set_cons_zero, List.set_cons_succ]) | (refine sch_look (o := ?_) (v := .agg ?_) ?_ ?_ ?_ ?_; rotate_left 2; (· ((conv => lhs; whnf); try exact rfl)); (· rfl); (· intro w' hO'; refine run_opLoadS (b := ?_) (cs := ?_) (e := ?_) (f := ?_) hO' ?_ ?_ ?_ ?_; rotate_left 4; (· exact rfl); (· exact inferInstance); (· simp; done); (· simp; done)); simp only [Act.put, List.setIfInBounds_toArray, List.set_cons_zero, List.set_cons_succ])
      first | (refine sch_look (o := ?_) (v := ?_) ?_ ?_ ?_ ?_; rotate_left 2; (· ((conv => lhs; whnf); try exact rfl)); (· rfl); (· intro w' hO'; have c5 : w'.cell? ⟨hb, 5, none⟩ = some (.int .i64 x.e.t) := (by rw [hO'.cell (b := hb)]; rfl); go_simp; (try exact rfl)); simp only [Act.put, List.setIfInBounds_toArray, List.set_cons_zero, List.set_cons_succ]) | (refine sch_pass (o := ?_) ?_ ?_ ?_; rotate_left; (· ((conv => lhs; whnf); try exact rfl)); (· rfl); simp only [Act.put, List.setIfInBounds_toArray, List.set_cons_zero, List.set_cons_succ]) | (refine sch_look (o := ?_) (v := .agg ?_) ?_ ?_ ?_ ?_; rotate_left 2; (· ((conv => lhs; whnf); try exact rfl)); (· rfl); (· intro w' hO'; refine run_opLoadS (b := ?_) (cs := ?_) (e := ?_) (f := ?_) hO' ?_ ?_ ?_ ?_; rotate_left 4; (· exact rfl); (· exact inferInstance); (· simp; done); (· simp; done)); simp only [Act.put, List.setIfInBounds_toArray, List.set_cons_zero, List.set_cons_succ])
      first | (refine sch_look (o := ?_) (v := ?_) ?_ ?_ ?_ ?_; rotate_left 2; (· ((conv => lhs; whnf); try exact rfl)); (· rfl); (· intro w' hO'; have c5 : w'.cell? ⟨hb, 5, none⟩ = some (.int .i64 x.e.t) := (by rw [hO'.cell (b := hb)]; rfl); go_simp; (try exact rfl)); simp only [Act.put, List.setIfInBounds_toArray, List.set_cons_zero, List.set_cons_succ]) | (refine sch_pass (o := ?_) ?_ ?_ ?_; rotate_left; (· ((conv => lhs; whnf); try exact rfl)); (· rfl); simp only [Act.put, List.setIfInBounds_toArray, List.set_cons_zero, List.set_cons_succ]) | (refine sch_look (o := ?_) (v := .agg ?_) ?_ ?_ ?_ ?_; rotate_left 2; (· ((conv => lhs; whnf); try exact rfl)); (· rfl); (· intro w' hO'; refine run_opLoadS (b := ?_) (cs := ?_) (e := ?_) (f := ?_) hO' ?_ ?_ ?_ ?_; rotate_left 4; (· exact rfl); (· exact inferInstance); (· simp; done); (· simp; done)); simp only [Act.put, List.setIfInBounds_toArray, List.set_cons_zero, List.set_cons_succ])
      (refine sch_look (o := ?_) (v := .agg #[.int .i64 x.e.d.k, .int .i64 x.e.d.n, .string x.e.d.s, .slice x.a x.e.d.l.length x.c]) ?_ ?_ ?_ ?_; rotate_left; (· ((conv => lhs; whnf); try exact rfl)); (· rfl); (· intro w' hO'; exact run_opLoadC (ad := ⟨hb, 1, none⟩) (cs := [.int .i64 x.e.d.k, .int .i64 x.e.d.n, .string x.e.d.s, .slice x.a x.e.d.l.length x.c]) (four_at1 hO') rfl (by simp) (by simp)); simp only [Act.put, List.setIfInBounds_toArray, List.set_cons_zero, List.set_cons_succ])
      first | (refine sch_look (o := ?_) (v := ?_) ?_ ?_ ?_ ?_; rotate_left 2; (· ((conv => lhs; whnf); try exact rfl)); (· rfl); (· intro w' hO'; have c5 : w'.cell? ⟨hb, 5, none⟩ = some (.int .i64 x.e.t) := (by rw [hO'.cell (b := hb)]; rfl); go_simp; (try exact rfl)); simp only [Act.put, List.setIfInBounds_toArray, List.set_cons_zero, List.set_cons_succ]) | (refine sch_pass (o := ?_) ?_ ?_ ?_; rotate_left; (· ((conv => lhs; whnf); try exact rfl)); (· rfl); simp only [Act.put, List.setIfInBounds_toArray, List.set_cons_zero, List.set_cons_succ]) | (refine sch_look (o := ?_) (v := .agg ?_) ?_ ?_ ?_ ?_; rotate_left 2; (· ((conv => lhs; whnf); try exact rfl)); (· rfl); (· intro w' hO'; refine run_opLoadS (b := ?_) (cs := ?_) (e := ?_) (f := ?_) hO' ?_ ?_ ?_ ?_; rotate_left 4; (· exact rfl); (· exact inferInstance); (· simp; done); (· simp; done)); simp only [Act.put, List.setIfInBounds_toArray, List.set_cons_zero, List.set_cons_succ])
      first | (refine sch_look (o := ?_) (v := ?_) ?_ ?_ ?_ ?_; rotate_left 2; (· ((conv => lhs; whnf); try exact rfl)); (· rfl); (· intro w' hO'; have c5 : w'.cell? ⟨hb, 5, none⟩ = some (.int .i64 x.e.t) := (by rw [hO'.cell (b := hb)]; rfl); go_simp; (try exact rfl)); simp only [Act.put, List.setIfInBounds_toArray, List.set_cons_zero, List.set_cons_succ]) | (refine sch_pass (o := ?_) ?_ ?_ ?_; rotate_left; (· ((conv => lhs; whnf); try exact rfl)); (· rfl); simp only [Act.put, List.setIfInBounds_toArray, List.set_cons_zero, List.set_cons_succ]) | (refine sch_look (o := ?_) (v := .agg ?_) ?_ ?_ ?_ ?_; rotate_left 2; (· ((conv => lhs; whnf); try exact rfl)); (· rfl); (· intro w' hO'; refine run_opLoadS (b := ?_) (cs := ?_) (e := ?_) (f := ?_) hO' ?_ ?_ ?_ ?_; rotate_left 4; (· exact rfl); (· exact inferInstance); (· simp; done); (· simp; done)); simp only [Act.put, List.setIfInBounds_toArray, List.set_cons_zero, List.set_cons_succ])
      first | (refine sch_look (o := ?_) (v := ?_) ?_ ?_ ?_ ?_; rotate_left 2; (· ((conv => lhs; whnf); try exact rfl)); (· rfl); (· intro w' hO'; have c5 : w'.cell? ⟨hb, 5, none⟩ = some (.int .i64 x.e.t) := (by rw [hO'.cell (b := hb)]; rfl); go_simp; (try exact rfl)); simp only [Act.put, List.setIfInBounds_toArray, List.set_cons_zero, List.set_cons_succ]) | (refine sch_pass (o := ?_) ?_ ?_ ?_; rotate_left; (· ((conv => lhs; whnf); try exact rfl)); (· rfl); simp only [Act.put, List.setIfInBounds_toArray, List.set_cons_zero, List.set_cons_succ]) | (refine sch_look (o := ?_) (v := .agg ?_) ?_ ?_ ?_ ?_; rotate_left 2; (· ((conv => lhs; whnf); try exact rfl)); (· rfl); (· intro w' hO'; refine run_opLoadS (b := ?_) (cs := ?_) (e := ?_) (f := ?_) hO' ?_ ?_ ?_ ?_; rotate_left 4; (· exact rfl); (· exact inferInstance); (· simp; done); (· simp; done)); simp only [Act.put, List.setIfInBounds_toArray, List.set_cons_zero, List.set_cons_succ])
      (refine sch_act (o := ?_) ?_ ?_; rotate_left; (· ((conv => lhs; whnf); try exact rfl)))
      go_wp2_with fail
      refine (ownD E _ _ _ FC x.e.d x.a x.c hl8 HXI.out (hO.as (FC ++ (pt hb (.cells #[.string (encB x.e.d), .int .i64 x.e.d.k, .int .i64 x.e.d.n, .string x.e.d.s, .slice x.a x.e.d.l.length x.c, .int .i64 x.e.t] 79 (0, 0)) ++ (SO ++ (FO ++ (plainF p (some ⟨sb, 0, none⟩) hs.length cap ++ (S ++ R)))))))).mono ?_
      clear hO hF
      rintro e w4 ⟨so4, co4, SO4, rfl, hSO4, hO⟩
      replace hO : Own E w4 (pt hb (.cells #[.string (encB x.e.d), .int .i64 x.e.d.k, .int .i64 x.e.d.n, .string x.e.d.s, .slice x.a x.e.d.l.length x.c, .int .i64 x.e.t] 79 (0, 0)) ++ (SO ++ (SO4 ++ (FO ++ (plainF p (some ⟨sb, 0, none⟩) hs.length cap ++ (S ++ (FC ++ R))))))) := hO.as _
      have hF := Own.cells hO; simp only [cellsOf_append, cellsOf_pt] at hF
      go_wp2_with fail
      refine ⟨hO.as _, ?_⟩
      first | (refine sch_look (o := ?_) (v := ?_) ?_ ?_ ?_ ?_; rotate_left 2; (· ((conv => lhs; whnf); try exact rfl)); (· rfl); (· intro w' hO'; have c5 : w'.cell? ⟨hb, 5, none⟩ = some (.int .i64 x.e.t) := (by rw [hO'.cell (b := hb)]; rfl); go_simp; (try exact rfl)); simp only [Act.put, List.setIfInBounds_toArray, List.set_cons_zero, List.set_cons_succ]) | (refine sch_pass (o := ?_) ?_ ?_ ?_; rotate_left; (· ((conv => lhs; whnf); try exact rfl)); (· rfl); simp only [Act.put, List.setIfInBounds_toArray, List.set_cons_zero, List.set_cons_succ]) | (refine sch_look (o := ?_) (v := .agg ?_) ?_ ?_ ?_ ?_; rotate_left 2; (· ((conv => lhs; whnf); try exact rfl)); (· rfl); (· intro w' hO'; refine run_opLoadS (b := ?_) (cs := ?_) (e := ?_) (f := ?_) hO' ?_ ?_ ?_ ?_; rotate_left 4; (· exact rfl); (· exact inferInstance); (· simp; done); (· simp; done)); simp only [Act.put, List.setIfInBounds_toArray, List.set_cons_zero, List.set_cons_succ])
      (refine sch_act (o := ?_) ?_ ?_; rotate_left; (· ((conv => lhs; whnf); try exact rfl)))
      go_wp2_with (first | (refine at_bs ?_; go_must (refine own_build1 (v := ?_) sltE hO ?_ ?_ ?_ ?_ ?_ ?_; rotate_left; (· rfl); (· ((conv => lhs; whnf); try exact rfl)); (· rfl); (· decide); (· decide); clear hO; (try clear hF); intro bs _ hO; (try simp only [Value.cells] at hO); ((try simp only [List.nil_append, List.append_nil] at hO); have hF := Own.cells hO; simp only [cellsOf_append, cellsOf_pt] at hF); simp only [Act.put, List.setIfInBounds_toArray, List.set_cons_zero, List.set_cons_succ])))
      refine ⟨hO.as _, ?_⟩
      (refine sch_act (o := ?_) ?_ ?_; rotate_left; (· ((conv => lhs; whnf); try exact rfl)))
      go_wp2_with (first | (refine at_append ?_; go_must (refine own_append_elem (b1 := ?_) (cs := ?_) (e1 := ?_) (f1 := ?_) sltE hO ?_ ?_ ?_ hSO ?_ ?_ ?_ ?_ ?_ ?_ ?_; rotate_left 4; (· rfl); (· rfl); (· rfl); (· exact inferInstance); (· rfl); (· intro u hu; simp at hu; rcases hu with rfl | rfl | rfl | rfl | rfl <;> rfl); (· first | exact hj64 | exact hj65); (· decide); (· first | exact hj64 | exact hj65); clear hO; (try clear hF); intro _ _ _ _ hS hO; ((try simp only [List.nil_append, List.append_nil] at hO); have hF := Own.cells hO; simp only [cellsOf_append, cellsOf_pt] at hF); simp only [Act.put, List.setIfInBounds_toArray, List.set_cons_zero, List.set_cons_succ])))
      refine ⟨hO.as _, ?_⟩
      first | (refine sch_look (o := ?_) (v := ?_) ?_ ?_ ?_ ?_; rotate_left 2; (· ((conv => lhs; whnf); try exact rfl)); (· rfl); (· intro w' hO'; have c5 : w'.cell? ⟨hb, 5, none⟩ = some (.int .i64 x.e.t) := (by rw [hO'.cell (b := hb)]; rfl); go_simp; (try exact rfl)); simp only [Act.put, List.setIfInBounds_toArray, List.set_cons_zero, List.set_cons_succ]) | (refine sch_pass (o := ?_) ?_ ?_ ?_; rotate_left; (· ((conv => lhs; whnf); try exact rfl)); (· rfl); simp only [Act.put, List.setIfInBounds_toArray, List.set_cons_zero, List.set_cons_succ]) | (refine sch_look (o := ?_) (v := .agg ?_) ?_ ?_ ?_ ?_; rotate_left 2; (· ((conv => lhs; whnf); try exact rfl)); (· rfl); (· intro w' hO'; refine run_opLoadS (b := ?_) (cs := ?_) (e := ?_) (f := ?_) hO' ?_ ?_ ?_ ?_; rotate_left 4; (· exact rfl); (· exact inferInstance); (· simp; done); (· simp; done)); simp only [Act.put, List.setIfInBounds_toArray, List.set_cons_zero, List.set_cons_succ])
      refine sch_done ?_
      have hlt := HLT.out
      go_wp2_with fail
      go_roundw
      case rel =>
        refine ⟨j + 1, _, _, os ++ [⟨x.e, so4, co4⟩], ?SS, SO4 ++ FO, rfl, by go_num, hlt, ?p1, ?p2, ?p3, ?p4⟩
        case p2 => rw [List.flatMap_append]; exact hS
        case p4 => exact hO.as _
        case p1 => rw [List.map_append, HOS.out, HT.out]; rfl
        case p3 =>
          intro o ho
          rcases List.mem_append.1 ho with ho | ho
          · exact (HFO.out o ho).of List.perm_append_comm
          · rw [List.mem_singleton] at ho
            subst ho
            exact hSO4.of (.refl _)
      case measure => simp [intOf]; omega
    · obtain rfl : j = hs.length := Nat.le_antisymm hj (Nat.le_of_not_lt hlt)
      have hjj : ¬ (hs.length : Int) < hs.length := by omega
      clear hj hlt
      go_wp2_with fail
      rw [← HPOST.out]
      have hel : (esOf hs).length = hs.length := esOf_len hs
      refine ⟨so, co, os, SO, FO, by rw [hel], ?_, by rw [hel]; exact hSO, HFO.out, hO.as _⟩
      rw [HOS.out, ← hel, List.take_length]
end Go.Proofs.YticclennllklpaaDoor
