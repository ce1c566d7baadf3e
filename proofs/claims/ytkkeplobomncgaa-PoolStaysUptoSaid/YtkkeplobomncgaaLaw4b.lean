/- vestibulelaw04: PoolStays. -/
import Derived.Test.YtkkeplobomncgaaLaw4a
import Derived.Test.YtkkeplobomncgaaInts
set_option linter.all false
namespace Go.Proofs.Ytkkeplobomncgaa
open Go Go.RowKit Go.Own Go.Dk

theorem and7 (x : Int) : ∃ m : Nat, m ≤ 7 ∧ bits .and .i64 x 7 = m := by
  refine ⟨(BitVec.ofInt 64 x &&& BitVec.ofInt 64 7).toNat, ?_, ?_⟩
  · rw [BitVec.toNat_and]
    exact Nat.and_le_right
  · have h : (BitVec.ofInt 64 x &&& BitVec.ofInt 64 7).toNat ≤ 7 := by
      rw [BitVec.toNat_and]
      exact Nat.and_le_right
    show IntKind.i64.wrap ((BitVec.ofInt 64 x &&& BitVec.ofInt 64 7).toNat : Int) = _
    generalize (BitVec.ofInt 64 x &&& BitVec.ofInt 64 7).toNat = m at h
    simp only [IntKind.wrap, show IntKind.bits .i64 = 64 from rfl, show IntKind.signed .i64 = true from rfl]
    rw [Int.emod_eq_of_lt (by omega) (by omega), if_neg (by simp; omega)]

theorem tail_is (s : ByteArray) (C : List UInt8) (h : s.size ≤ 512) (hC : putB (List.replicate 512 0) (512 - s.size) s.data.toList = C) : (⟨C.toArray⟩ : ByteArray).size = 512 ∧ (⟨C.toArray⟩ : ByteArray).extract (512 - s.size) 512 = s := by
  have hl : s.data.toList.length = s.size := by rw [Array.length_toList]; rfl
  have hr : (List.replicate 512 (0 : UInt8)).length = 512 := List.length_replicate
  generalize List.replicate 512 (0 : UInt8) = Z at hC hr
  have hCl : C.length = 512 := by rw [← hC, putB_length (by rw [hl, hr]; omega), hr]
  refine ⟨by simp [ByteArray.size, hCl], ?_⟩
  have hd : C.drop (512 - s.size) = s.data.toList := by
    rw [← hC]
    unfold putB
    rw [List.drop_eq_nil_of_le (i := 512 - s.size + s.data.toList.length) (by omega), List.append_nil, List.drop_append_of_le_length (by rw [List.length_take]; omega), List.drop_eq_nil_of_le (by rw [List.length_take]; omega), List.nil_append]
  apply ByteArray.ext
  rw [ByteArray.data_extract]
  apply Array.ext'
  rw [Array.toList_extract]
  show (C.toArray.toList.extract (512 - s.size) 512) = _
  rw [List.extract_eq_take_drop]
  show (C.drop (512 - s.size)).take _ = _
  rw [hd, List.take_of_length_le (by omega)]

set_option maxRecDepth 100000 in
set_option maxHeartbeats 4000000 in
theorem poolStays (E w : World) (hO : Own E w (oldFr E)) (frames : Int) (sa : Option Addr) (sc : Nat) (L : List Int) (hL : IntsAt E sa L) (hn : L.length ≤ 1048576) (s : ByteArray) (hs : s.size ≤ maxLen) :
    Calls Try.prog 11 #[.int .i64 frames, .slice sa L.length sc, .string s] w fun e w' => e = .returned (.bool true) ∧ Own E w' (oldFr E) := by
  have hn1 : (L.length : Int) ≤ 1048576 := by omega
  unfold maxLen at hs
  have hs0 : (s.size : Int) ≤ 9223372036854775807 := by omega
  have HL := Lib.hid hL
  clear hL
  obtain ⟨m, hm, hmb⟩ := and7 frames
  have hm1 : (m : Int) ≤ 7 := by omega
  go_enter Try.func11, Try.ntmps11
  go_wp2_with fail
  refine (dNew E _ _ hO).mono ?_; rintro e w1 ⟨d, A, rfl, hA, hO⟩
  go_wp2_with fail
  rw [show (2 : Int) + m = ((2 + m : Nat) : Int) by omega]
  refine (pNew_ok E _ _ _ A d (2 + m) [] hA (by omega) (by omega) hO).mono ?_; rintro e w1 ⟨p, P, rfl, hP, hO⟩
  have hS := PoolS.new hP hA
  replace hO := hO.as ((P ++ A) ++ oldFr E)
  generalize P ++ A = A0 at hS hO
  clear hP hA
  clear hmb
  obtain ⟨s', hs', hcase⟩ : ∃ s' : ByteArray, s'.size ≤ 512 ∧ ((¬ (512 : Int) < s.size ∧ s' = s) ∨ ((512 : Int) < s.size ∧ s' = s.extract 0 512)) := by
    by_cases h : s.size ≤ 512
    · exact ⟨s, h, .inl ⟨by omega, rfl⟩⟩
    · exact ⟨s.extract 0 512, by simp [ByteArray.size_extract]; omega, .inr ⟨by omega, rfl⟩⟩
  have hsi : (s'.size : Int) ≤ 512 := by omega
  rcases hcase with ⟨hc, rfl⟩ | ⟨hc, hse⟩
  all_goals (
    go_wp2_with fail
    (try (rw [← hse]; clear hse hc hs hs0))
    (
    refine (pPin E _ _ _ A0 p d (2 + m) 0 _ _ 77 hS (by omega) (by omega) (by decide) (by decide) (by decide) hO).mono ?_
    rintro e w1 (⟨rfl, A1, hS1, hO⟩ | ⟨_, _, ⟨Q, _, hQl, hQp⟩, _⟩)
    case inr =>
      cases Q with
      | nil => simp at hQl; omega
      | cons q Q => exact absurd (hQp q (by simp)) (by simp)
    clear hS
    obtain ⟨pins, h77, hpb, hS1⟩ : ∃ pins : Nat → Nat, pins 77 = 1 ∧ (∀ k, pins k ≤ 1) ∧ PoolS p d (2 + m) 0 (fun _ => List.replicate 512 0) pins A1 := ⟨_, upd_same _ _ _, fun k => by simp only [upd]; split <;> omega, hS1⟩
    go_wp2_with fail
    rw [show (512 : Int) - s'.size = ((512 - s'.size : Nat) : Int) by omega]
    refine (pWrite_ok E _ _ _ A1 p d (2 + m) 0 _ _ 77 (512 - s'.size) s' hS1 (by omega) (by omega) (by omega) hO).mono ?_; rintro e w1 ⟨rfl, A2, hS2, hO⟩
    clear hS1
    generalize hC : putB (List.replicate 512 0) (512 - s'.size) s'.data.toList = C at hS2
    have hO2 := hO
    clear hO
    go_wp2_with fail
    go_loopw [9] (fun i wr => ∃ (j N : Nat) (cont : Nat → List UInt8) (A : Fr), i = .int .i64 j ∧ j ≤ L.length ∧ N ≤ j + 1 ∧ cont 77 = C ∧ PoolS p d (2 + m) N cont pins A ∧ Own E wr (A ++ oldFr E)) (fun i _ => L.length - (intOf i).toNat)
    case atStart => exact ⟨0, 0 + 1, _, A2, rfl, by omega, by omega, upd_same _ _ _, hS2, hO2⟩
    case round =>
      clear hO2 hS2
      obtain ⟨j, N, cont, A, rfl, hj, hN, hcC, hS, hO⟩ := hrel
      by_cases hlt : j < L.length
      · have hj1 : (j : Int) < L.length := by omega
        have hj2 : (0 : Int) ≤ j := by omega
        obtain ⟨ad, rfl, hrow⟩ := HL.out j hlt
        have hc0 : wr.cell? (ad.add j) = some (.int .i64 L[j]) := by have := hrow.at hO 0 _ rfl; simpa [Go.Deep.add_add] using this
        have HR := Lib.hid hrow
        clear hrow
        generalize L[j] = x at hc0 HR
        by_cases hx : x = 77
        · subst hx
          go_wp2_with fail
          go_roundw
          case rel => exact ⟨j + 1, N, cont, A, by go_num, by omega, by omega, hcC, hS, hO⟩
          case measure => simp [intOf]; omega
        · by_cases hbad : x < 0 ∨ 4096 ≤ x
          · go_wp2_with fail
            refine (pPin_bad E _ _ _ A p d (2 + m) N _ _ x hS (by omega) hbad hO).mono ?_; rintro e w1 ⟨rfl, rfl⟩
            clear hbad
            go_wp2_with fail
            go_roundw
            case rel => exact ⟨j + 1, N, cont, A, by go_num, by omega, by omega, hcC, hS, hO⟩
            case measure => simp [intOf]; omega
          · obtain ⟨k, rfl⟩ := Int.eq_ofNat_of_zero_le (show 0 ≤ x by omega)
            have hk : k < 4096 := by omega
            have hk7 : k ≠ 77 := by omega
            clear hbad
            go_wp2_with fail
            refine (pPin E _ _ _ A p d (2 + m) N _ _ k hS (by omega) (by omega) (by omega) hk (by have := hpb k; omega) hO).mono ?_
            rintro e w1 (⟨rfl, A1, hS1, hO⟩ | ⟨rfl, _, _, A1, hS1, hO⟩)
            case inr =>
              clear hc0
              go_wp2_with fail
              go_roundw
              case rel => exact ⟨j + 1, N, cont, A1, by go_num, by omega, by omega, hcC, hS1, hO⟩
              case measure => simp [intOf]; omega
            case inl =>
              clear hc0
              have hc1 : w1.cell? (ad.add j) = some (.int .i64 k) := by have := HR.out.at hO 0 _ rfl; simpa [Go.Deep.add_add] using this
              go_wp2_with fail
              refine (pWrite_ok E _ _ _ A1 p d (2 + m) N _ _ k 0 _ hS1 (by omega) (by rw [upd_same]; omega) (by decide) hO).mono ?_; rintro e w2 ⟨rfl, A2, hS2, hO⟩
              clear hc1
              have hc2 : w2.cell? (ad.add j) = some (.int .i64 k) := by have := HR.out.at hO 0 _ rfl; simpa [Go.Deep.add_add] using this
              go_wp2_with fail
              refine (pUnpin_yes E _ _ _ A2 p d (2 + m) (N + 1) _ _ k hS2 (by omega) (by rw [upd_same]; omega) (by rw [upd_same]; have := hpb k; omega) hO).mono ?_; rintro e w3 ⟨rfl, A3, hS3, hO⟩
              rw [pin_unpin] at hS3
              clear hc2
              go_wp2_with fail
              go_roundw
              case rel => exact ⟨j + 1, N + 1, _, A3, by go_num, by omega, by omega, by rw [upd_ne _ _ _ _ (Ne.symm hk7)]; exact hcC, hS3, hO⟩
              case measure => simp [intOf]; omega
      · have hlt' : ¬ (j : Int) < L.length := by omega
        go_wp2_with fail
        refine (pRead_yes E _ _ _ A p d (2 + m) N _ _ 77 hS (by omega) (by omega) hO).mono ?_; rw [hcC]; rintro e w1 ⟨rfl, rfl⟩
        obtain ⟨hts, hext⟩ := tail_is s' C hs' hC
        generalize (⟨C.toArray⟩ : ByteArray) = t at hts hext ⊢
        have hsu : (s'.size : Int) ≤ 512 := by omega
        clear hC hcC
        go_wp2_with (first | (go_at_call 39; go_must (refine (pPins E _ _ _ A p d (2 + m) N _ _ 77 hS (by omega) hO).mono ?_; rw [h77]; rintro e w1 ⟨rfl, rfl⟩)) | (go_at_call 40; go_must (refine (awake4 E _ _ hO).mono ?_; rintro e w1 ⟨rfl, hO⟩)))
        go_ret
        exact ⟨rfl, hO.as _⟩))
end Go.Proofs.Ytkkeplobomncgaa
