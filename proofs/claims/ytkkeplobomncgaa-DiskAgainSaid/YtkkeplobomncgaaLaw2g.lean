/- vestibulelaw02: DiskAgain. -/
import Derived.Test.YtkkeplobomncgaaLaw2d
set_option linter.all false
namespace Go.Proofs.Ytkkeplobomncgaa
open Go Go.RowKit Go.Own Go.Dk

theorem DP_nil {E w' : World} {rs : List Raw} {k f a : Int} {t : ByteArray} {d : Nat} {I R : Fr} {e : Ending} (h : DP E rs [] k f a t d I R e w') :
    ∃ v A' I', e = .returned v ∧ DiskAt d (st rs k f a t).1 A' ∧ Own E w' (A' ++ (I' ++ (I ++ R))) := by
  obtain ⟨q', I', A', rfl, _, hA, hO⟩ := h
  exact ⟨_, A', I', rfl, hA, hO⟩

theorem tmod_bd (x : Int) (n : Nat) : ∃ p : Nat, p ≤ n ∧ (x.tmod ((n : Int) + 1) = p ∨ (x.tmod ((n : Int) + 1) = -p ∧ -(p : Int) < 0)) := by
  have h1 : x.tmod ((n : Int) + 1) < n + 1 := Int.tmod_lt_of_pos x (by omega)
  have h2 : -((n : Int) + 1) < x.tmod ((n : Int) + 1) := Int.lt_tmod_of_pos x (by omega)
  refine ⟨(x.tmod ((n : Int) + 1)).natAbs, by omega, ?_⟩
  by_cases h : 0 ≤ x.tmod ((n : Int) + 1)
  · exact .inl (by omega)
  · exact .inr ⟨by omega, by omega⟩

set_option maxRecDepth 100000 in
set_option maxHeartbeats 4000000 in
theorem diskAgain (E w : World) (hO : Own E w (oldFr E)) (sa : Option Addr) (sc : Nat) (L : List OpT) (hL : OpsAt E sa L) (hn : L.length ≤ 3518437208883) (x y : Int) :
    Calls Try.prog 5 #[.slice sa L.length sc, .int .i64 x, .int .i64 y] w fun e w' => e = .returned (.bool true) ∧ Own E w' (oldFr E) := by
  have hz := zeroRef
  have hn1 : (L.length : Int) ≤ 3518437208883 := by omega
  have HL := Lib.hid hL
  clear hL
  go_enter Try.func5, Try.ntmps5
  go_wp2_with (first | (go_at_call 15; refine (dNew E _ _ hO).mono ?_; rintro e w1 ⟨d, A, rfl, hA, hO⟩))
  go_loopw [8] (fun i wr => ∃ (j : Nat) (rs : List Raw) (A : Fr), i = .int .i64 j ∧ j ≤ L.length ∧ rs.length ≤ j ∧ DiskAt d rs A ∧ Own E wr (A ++ oldFr E)) (fun i _ => L.length - (intOf i).toNat)
  case atStart => exact ⟨0, [], A, rfl, by omega, by simp, hA, hO⟩
  case round =>
    clear hA hO
    obtain ⟨j, rs, A, rfl, hj, hrs, hA, hO⟩ := hrel
    by_cases hlt : j < L.length
    · have hj1 : (j : Int) < L.length := by omega
      have hj2 : (0 : Int) ≤ j := by omega
      obtain ⟨ad, rfl, hrow, hts⟩ := HL.out j hlt
      have HRow := Lib.hid hrow
      clear hrow
      by_cases hs : smallB (L[j]).a (L[j]).t = true
      · go_wp2_with (first | (refine at_load ?_; go_must (refine own_loadC (ad := ad.add (j * 4)) (cs := (L[j]).cells) ?_ (HRow.out.at hO) ?_ ?_ ?_ ?_; (· rfl); (· ((conv => lhs; whnf); try exact rfl)); (· simp; done); (· simp [OpT.cells]; done); simp only [Act.put, List.setIfInBounds_toArray, List.set_cons_zero, List.set_cons_succ])) | (go_at_call 16; go_must (refine (small2 E _ _ (L[j]).k (L[j]).f (L[j]).a (L[j]).t hO).mono ?_; rintro e w1 ⟨rfl, hO⟩; rw [hs])) | (go_at_call 18; go_must (refine (does2 E _ _ _ [] A d rs [] _ (L[j]).k (L[j]).f (L[j]).a (L[j]).t hts hA (RefAt.nil []) (by omega) (by simp) okL_nil hO).mono ?_; intro e w1 hD; obtain ⟨v9, A1, I1, rfl, hA1, hO⟩ := DP_nil hD; clear hD)))
        go_roundw
        case rel => exact ⟨j + 1, (st rs (L[j]).k (L[j]).f (L[j]).a (L[j]).t).1, A1, by go_num, by omega, (by have := st_len rs (L[j]).k (L[j]).f (L[j]).a (L[j]).t; omega), hA1, hO.as _⟩
        case measure => simp [intOf]; omega
      · have hs' : smallB (L[j]).a (L[j]).t = false := by simpa using hs
        go_wp2_with (first | (refine at_load ?_; go_must (refine own_loadC (ad := ad.add (j * 4)) (cs := (L[j]).cells) ?_ (HRow.out.at hO) ?_ ?_ ?_ ?_; (· rfl); (· ((conv => lhs; whnf); try exact rfl)); (· simp; done); (· simp [OpT.cells]; done); simp only [Act.put, List.setIfInBounds_toArray, List.set_cons_zero, List.set_cons_succ])) | (go_at_call 16; go_must (refine (small2 E _ _ (L[j]).k (L[j]).f (L[j]).a (L[j]).t hO).mono ?_; rintro e w1 ⟨rfl, hO⟩; rw [hs'])) | (go_at_call 17; go_must (refine (awake2 E _ _ hO).mono ?_; rintro e w1 ⟨rfl, hO⟩)))
        go_ret
        exact ⟨rfl, hO.as _⟩
    · have hlt' : ¬ (j : Int) < L.length := by omega
      go_wp2_with (first | (go_at_call 25; go_must (refine (dWrites E _ _ _ d rs A hA hO).mono ?_; rintro e w1 ⟨rfl, rfl⟩)))
      have hn0 : (rs.length : Int) + 1 ≠ 0 := by omega
      have hwr : IntKind.i64.wrap ((rs.length : Int) + 1) = (rs.length : Int) + 1 := by
        simp only [IntKind.wrap, show IntKind.bits .i64 = 64 from rfl, show IntKind.signed .i64 = true from rfl]
        rw [Int.emod_eq_of_lt (by omega) (by omega), if_neg (by simp; omega)]
      refine own_still (by kernel_rfl) (by kernel_rfl) hO ?_; clear hO; intro _ hO
      repeat still_step
      refine wpStill_nil ?_
      clear hwr hn0
      obtain ⟨p, hp, hx⟩ := tmod_bd x rs.length
      obtain ⟨q, hq, hy⟩ := tmod_bd y rs.length
      generalize x.tmod ((rs.length : Int) + 1) = xx at hx ⊢
      generalize y.tmod ((rs.length : Int) + 1) = yy at hy ⊢
      have hp0 : (0 : Int) ≤ p := by omega
      have hq0 : (0 : Int) ≤ q := by omega
      by_cases hxy : (p : Int) < q
      · rcases hx with rfl | ⟨rfl, hp1⟩ <;> rcases hy with rfl | ⟨rfl, hq1⟩
        all_goals (
        have hpq : p ≤ q := by omega
        have hpn : q ≤ rs.length := by omega
        have hl1 : (rs.take q).length = q := by simp; omega
        have hl2 : (rs.take q).take p = rs.take p := by rw [List.take_take, Nat.min_eq_left hpq]
        have HL2 := Lib.hid hl2
        have HL1 := Lib.hid hl1
        clear hl1 hl2
        go_wp2_with fail
        refine (dCut_ok E _ _ _ d rs A q hpn (by omega) hA hO).mono ?_; rintro e w1 ⟨c, C, rfl, hC, hO⟩
        go_wp2_with fail
        refine (dCut_ok E _ _ _ c _ C p (by rw [HL1.out]; omega) (by rw [HL1.out]; omega) hC hO).mono ?_; rw [HL2.out]; rintro e w1 ⟨p1, P1, rfl, hP, hO⟩
        go_wp2_with fail
        refine (dCut_ok E _ _ _ d rs A p (by omega) (by omega) hA hO).mono ?_; rintro e w1 ⟨q1, Q1, rfl, hQ, hO⟩
        go_wp2_with fail
        have hO1 := hO
        clear hO
        go_loopw [18] (fun i wr => ∃ k : Nat, i = .int .i64 k ∧ k ≤ 4 ∧ Own E wr (Q1 ++ (P1 ++ oldFr E))) (fun i _ => 4 - (intOf i).toNat)
        case atStart => exact ⟨0, rfl, by omega, hO1.as _⟩
        case round =>
          obtain ⟨k, rfl, hk, hO⟩ := hrel
          by_cases hk4 : k < 4
          · have hk4' : (k : Int) < 4 := by omega
            go_wp2_with fail
            refine (dSize E _ _ _ p1 _ P1 k hP hO).mono ?_; rw [sz_ok _ k hk4]; rintro e w1 ⟨rfl, rfl⟩
            go_wp2_with fail
            refine (dRead E _ _ _ p1 _ P1 k 0 _ hP hO).mono ?_; rw [rd_all _ k hk4]; rintro e w1 ⟨rfl, rfl⟩
            go_wp2_with fail
            refine (dSize E _ _ _ q1 _ Q1 k hQ hO).mono ?_; rw [sz_ok _ k hk4]; rintro e w1 ⟨rfl, rfl⟩
            go_wp2_with fail
            refine (dRead E _ _ _ q1 _ Q1 k 0 _ hQ hO).mono ?_; rw [rd_all _ k hk4]; rintro e w1 ⟨rfl, rfl⟩
            go_wp2_with fail
            go_roundw
            case rel => exact ⟨k + 1, by go_num, by omega, hO⟩
            case measure => simp [intOf]; omega
          · have hk4' : ¬ (k : Int) < 4 := by omega
            go_wp2_with fail
            refine (dWrites E _ _ _ p1 _ P1 hP hO).mono ?_; rintro e w1 ⟨rfl, rfl⟩
            go_wp2_with fail
            refine (dWrites E _ _ _ q1 _ Q1 hQ hO).mono ?_; rintro e w1 ⟨rfl, rfl⟩
            go_wp2_with fail
            refine (awake2 E _ _ hO).mono ?_; rintro e w1 ⟨rfl, hO⟩
            go_wp2_with fail
            go_ret
            exact ⟨rfl, hO.as _⟩)
      · rcases hx with rfl | ⟨rfl, hp1⟩ <;> rcases hy with rfl | ⟨rfl, hq1⟩
        all_goals (
        have hpq : q ≤ p := by omega
        have hpn : p ≤ rs.length := by omega
        have hl1 : (rs.take p).length = p := by simp; omega
        have hl2 : (rs.take p).take q = rs.take q := by rw [List.take_take, Nat.min_eq_left hpq]
        have HL2 := Lib.hid hl2
        have HL1 := Lib.hid hl1
        clear hl1 hl2
        go_wp2_with fail
        refine (dCut_ok E _ _ _ d rs A p hpn (by omega) hA hO).mono ?_; rintro e w1 ⟨c, C, rfl, hC, hO⟩
        go_wp2_with fail
        refine (dCut_ok E _ _ _ c _ C q (by rw [HL1.out]; omega) (by rw [HL1.out]; omega) hC hO).mono ?_; rw [HL2.out]; rintro e w1 ⟨p1, P1, rfl, hP, hO⟩
        go_wp2_with fail
        refine (dCut_ok E _ _ _ d rs A q (by omega) (by omega) hA hO).mono ?_; rintro e w1 ⟨q1, Q1, rfl, hQ, hO⟩
        go_wp2_with fail
        have hO1 := hO
        clear hO
        go_loopw [18] (fun i wr => ∃ k : Nat, i = .int .i64 k ∧ k ≤ 4 ∧ Own E wr (Q1 ++ (P1 ++ oldFr E))) (fun i _ => 4 - (intOf i).toNat)
        case atStart => exact ⟨0, rfl, by omega, hO1.as _⟩
        case round =>
          obtain ⟨k, rfl, hk, hO⟩ := hrel
          by_cases hk4 : k < 4
          · have hk4' : (k : Int) < 4 := by omega
            go_wp2_with fail
            refine (dSize E _ _ _ p1 _ P1 k hP hO).mono ?_; rw [sz_ok _ k hk4]; rintro e w1 ⟨rfl, rfl⟩
            go_wp2_with fail
            refine (dRead E _ _ _ p1 _ P1 k 0 _ hP hO).mono ?_; rw [rd_all _ k hk4]; rintro e w1 ⟨rfl, rfl⟩
            go_wp2_with fail
            refine (dSize E _ _ _ q1 _ Q1 k hQ hO).mono ?_; rw [sz_ok _ k hk4]; rintro e w1 ⟨rfl, rfl⟩
            go_wp2_with fail
            refine (dRead E _ _ _ q1 _ Q1 k 0 _ hQ hO).mono ?_; rw [rd_all _ k hk4]; rintro e w1 ⟨rfl, rfl⟩
            go_wp2_with fail
            go_roundw
            case rel => exact ⟨k + 1, by go_num, by omega, hO⟩
            case measure => simp [intOf]; omega
          · have hk4' : ¬ (k : Int) < 4 := by omega
            go_wp2_with fail
            refine (dWrites E _ _ _ p1 _ P1 hP hO).mono ?_; rintro e w1 ⟨rfl, rfl⟩
            go_wp2_with fail
            refine (dWrites E _ _ _ q1 _ Q1 hQ hO).mono ?_; rintro e w1 ⟨rfl, rfl⟩
            go_wp2_with fail
            refine (awake2 E _ _ hO).mono ?_; rintro e w1 ⟨rfl, hO⟩
            go_wp2_with fail
            go_ret
            exact ⟨rfl, hO.as _⟩)
end Go.Proofs.Ytkkeplobomncgaa
