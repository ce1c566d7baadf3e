/- vestibulelaw08: SorterRooms. -/
import Derived.Test.YtnfclieaendgeaaSrt8
set_option linter.all false
namespace Go.Proofs.Ytnfclieaendgeaa
open Go Go.RowKit Go.Own Go.Hp

theorem land_bound (a : Int) (m : Int) (h0 : 0 ≤ m) : True := trivial

set_option maxRecDepth 100000 in
set_option maxHeartbeats 16000000 in
theorem lawRooms (E w : World) (X R I : Fr) (a0 b0 : Int) (sa : Option Addr) (l : List ByteArray) (cap : Nat) (hT : TxtIn E I sa l) (hn : l.length ≤ 8796093022208) (hO : Own E w X) [hp : Pick X I R] :
    Calls Try.prog 11 #[.int .i64 a0, .int .i64 b0, .slice sa l.length cap] w fun e w' => e = .returned (.bool true) ∧ Own E w' (I ++ R) := by
  replace hO := hO.perm hp.perm
  clear hp
  obtain ⟨n1, hn1, hb1⟩ := and_mask a0 255 255 rfl (by decide)
  obtain ⟨n2, hn2, hb2⟩ := and_mask b0 255 255 rfl (by decide)
  have hm1 : (n1 : Int) ≤ 255 := by omega
  have hm2 : (n2 : Int) ≤ 255 := by omega
  go_enter Try.func11, Try.ntmps11
  go_wp2_with fail
  refine (sNew E _ _ (1 + (n1 : Int)) hO).mono ?_
  clear hO
  rintro e w1 (⟨h1, h2, b, A, rfl, hA, hO⟩ | ⟨hno, rfl, hO⟩)
  rotate_left
  · exact absurd ⟨by omega, by omega⟩ hno
  go_wp2_with fail
  refine (sNew E _ _ (1 + (n2 : Int)) hO).mono ?_
  clear hO
  rintro e w2 (⟨h3, h4, c, B, rfl, hB, hO⟩ | ⟨hno, rfl, hO⟩)
  rotate_left
  · exact absurd ⟨by omega, by omega⟩ hno
  rw [show (1 + (n1 : Int)).toNat = n1 + 1 by omega] at hA
  rw [show (1 + (n2 : Int)).toNat = n2 + 1 by omega] at hB
  have hA0 : SInv E b (n1 + 1) [] A := SInv.new hA (by omega) (by omega)
  have hB0 : SInv E c (n2 + 1) [] B := SInv.new hB (by omega) (by omega)
  clear hA hB h1 h2 h3 h4 hb1 hb2
  replace hO := hO.as (A ++ (B ++ (I ++ R)))
  have hO1 := hO
  clear hO
  by_cases hl : l.length ≤ 2000
  · have hl1 : (l.length : Int) ≤ 2000 := by omega
    go_wp2_with fail
    go_loopw [11] (fun s7 wr => ∃ (i : Nat) (A B : Fr), s7 = .int .i64 i ∧ i ≤ l.length ∧ SInv E b (n1 + 1) (l.take i) A ∧ SInv E c (n2 + 1) (l.take i) B ∧ Own E wr (A ++ (B ++ (I ++ R)))) (fun s7 _ => l.length - (intOf s7).toNat)
    case atStart => exact ⟨0, A, B, rfl, Nat.zero_le _, hA0, hB0, hO1⟩
    case round =>
      clear hO1 hA0 hB0
      obtain ⟨i, A, B, rfl, hi, hA, hB, hO⟩ := hrel
      by_cases hil : i < l.length
      · have hi1 : (i : Int) < l.length := by omega
        have hi0 : (0 : Int) ≤ i := by omega
        obtain ⟨ad, rfl, hca⟩ := hT.ex (hO.as I) i hil
        have hsn : l.take (i + 1) = l.take i ++ [l[i]] := List.take_succ_eq_append_getElem hil
        have hcw := hca _ (hO.as I)
        have HSN := Lib.hid hsn
        have HIL := Lib.hid hil
        have hil2 : (l.take i).length ≤ 1048575 := by rw [List.length_take]; omega
        generalize l[i] = x at hca hcw HSN
        clear hsn hil
        go_wp2_with fail
        refine (sAddI E _ _ _ A b (n1 + 1) (l.take i) x hA hil2 hO).mono ?_
        clear hO hcw hA
        rintro e w4 ⟨rfl, A2, hA, hO⟩
        have hcw := hca _ (hO.as I)
        go_wp2_with fail
        refine (sAddI E _ _ _ B c (n2 + 1) (l.take i) x hB hil2 hO).mono ?_
        clear hO hcw hB
        rintro e w5 ⟨rfl, B2, hB, hO⟩
        go_wp2_with fail
        go_roundw
        case rel => exact ⟨i + 1, A2, B2, by go_num, HIL.out, by rw [HSN.out]; exact hA, by rw [HSN.out]; exact hB, hO.as _⟩
        case measure => have := HIL.out; simp [intOf]; omega
      · have hi1 : ¬ (i : Int) < l.length := by omega
        have hil2 : (l.take i).length ≤ 1048575 := by rw [List.length_take]; omega
        obtain rfl : i = l.length := by omega
        rw [List.take_length] at hA hB hil2
        go_wp2_with fail
        refine (sSortedI E _ _ _ A b (n1 + 1) l hA hil2 hO).mono ?_
        clear hO hA
        rintro e w4 ⟨xa, xc, x, XF, A2, rfl, hX, hXr, hXp, hA2, hO⟩
        go_wp2_with fail
        refine (sSortedI E _ _ _ B c (n2 + 1) l hB hil2 hO).mono ?_
        clear hO hB
        rintro e w5 ⟨ya, yc, y, YF, B2, rfl, hY, hYr, hYp, hB2, hO⟩
        have HXY := Lib.hid (rise_uniq hXr hYr fun s => (hXp.trans hYp.symm).count_eq s : x = y)
        have HXL := Lib.hid hXp.length_eq
        have hxl : x.length ≤ 2000 := by rw [hXp.length_eq]; exact hl
        have HR := Lib.hid (riseB_t hXr)
        have hxe : ((x.length : Int) == (l.length : Int)) = true := by rw [hXp.length_eq]; simp
        clear hXp hYp hXr hYr
        go_wp2_with (first
          | (go_at_call 18; go_must (refine (sSame E _ _ _ (XF ++ YF) xa ya x y xc yc ((txt_sl hX).more fun w hO => hO.as _) ((txt_sl hY).more fun w hO => hO.as _) (by omega) hO).mono ?_; clear hO; rintro e w4 ⟨rfl, hO⟩; rw [decide_eq_true HXY.out]))
          | (go_at_call 15; go_must (refine (sRises E _ _ _ XF xa x xc (txt_sl hX) (by omega) hO).mono ?_; clear hO; rintro e w4 ⟨rfl, hO⟩; rw [HR.out]))
          | (go_at_call 16; go_must (refine (awake8 E _ _ hO).mono ?_; clear hO; rintro e w4 ⟨rfl, hO⟩)))
        all_goals first | (go_ret; exact ⟨rfl, hO.as _⟩) | trace_state
  · have hl1 : ¬ (l.length : Int) ≤ 2000 := by omega
    go_wp2_with (first | (go_at_call 16; go_must (refine (awake8 E _ _ hO1).mono ?_; clear hO1; rintro e w4 ⟨rfl, hO⟩)))
    go_ret
    exact ⟨rfl, hO.as _⟩
end Go.Proofs.Ytnfclieaendgeaa
