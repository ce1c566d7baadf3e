/- vestibulelaw08: SorterSorts. -/
import Derived.Test.YtnfclieaendgeaaSrt8
set_option linter.all false
namespace Go.Proofs.Ytnfclieaendgeaa
open Go Go.RowKit Go.Own Go.Hp

theorem quo_n (a b : Nat) : (a : Int).tdiv (b : Int) = ((a / b : Nat) : Int) := by
  rw [Int.tdiv_eq_ediv_of_nonneg (by omega)]
  rfl
theorem rem_n (a b : Nat) : (a : Int).tmod (b : Int) = ((a % b : Nat) : Int) := by
  rw [Int.tmod_eq_emod_of_nonneg (by omega)]
  rfl

theorem wrap64_n (n : Nat) (h : n ≤ 8796093022208) : wrap64 (n : Int) = n := by unfold wrap64; omega
set_option maxRecDepth 100000 in
set_option maxHeartbeats 16000000 in
theorem lawSorts (E w : World) (X R I : Fr) (room : Int) (sa : Option Addr) (l : List ByteArray) (cap : Nat) (hT : TxtIn E I sa l) (hn : l.length ≤ 8796093022208) (hO : Own E w X) [hp : Pick X I R] :
    Calls Try.prog 14 #[.int .i64 room, .slice sa l.length cap] w fun e w' => e = .returned (.bool true) ∧ Own E w' (I ++ R) := by
  replace hO := hO.perm hp.perm
  clear hp
  go_enter Try.func14, Try.ntmps14
  go_wp2_with fail
  refine (sNew E _ _ room hO).mono ?_
  clear hO
  rintro e w1 (⟨h1, h2, b, A, rfl, hA, hO⟩ | ⟨hno, rfl, hO⟩)
  rotate_left
  · by_cases h1 : 1 ≤ room
    · have h2 : ¬ room ≤ 65536 := fun h => hno ⟨h1, h⟩
      have h3 : (room < 1) = False := by simp; omega
      clear hno
      go_wp2_with (first | (go_at_call 16; go_must (refine (awake8 E _ _ hO).mono ?_; clear hO; rintro e w4 ⟨rfl, hO⟩)))
      go_ret
      exact ⟨rfl, hO⟩
    · clear hno
      go_wp2_with (first | (go_at_call 16; go_must (refine (awake8 E _ _ hO).mono ?_; clear hO; rintro e w4 ⟨rfl, hO⟩)))
      go_ret
      exact ⟨rfl, hO⟩
  obtain ⟨rm, rfl⟩ : ∃ n : Nat, room = n := ⟨room.toNat, by omega⟩
  have hA0 : SInv E b rm [] A := SInv.new (by simpa using hA) (by omega) (by omega)
  clear hA
  have hO1 := hO
  clear hO
  by_cases hl : l.length ≤ 2000
  · have hl1 : (l.length : Int) ≤ 2000 := by omega
    go_wp2_with fail
    go_loopw [7] (fun s7 wr => ∃ (i : Nat) (A : Fr), s7 = .int .i64 i ∧ i ≤ l.length ∧ SInv E b rm (l.take i) A ∧ Own E wr (A ++ (I ++ R))) (fun s7 _ => l.length - (intOf s7).toNat)
    case atStart => exact ⟨0, A, rfl, Nat.zero_le _, hA0, hO1⟩
    case round =>
      clear hO1 hA0
      obtain ⟨i, A, rfl, hi, hA, hO⟩ := hrel
      by_cases hil : i < l.length
      · have hi1 : (i : Int) < l.length := by omega
        have hi0 : (0 : Int) ≤ i := by omega
        obtain ⟨ad, rfl, hca⟩ := hT.ex (hO.as I) i hil
        have hsn : l.take (i + 1) = l.take i ++ [l[i]] := List.take_succ_eq_append_getElem hil
        have hcw := hca _ (hO.as I)
        have HSN := Lib.hid hsn
        have HIL := Lib.hid hil
        have hil2 : (l.take i).length ≤ 1048575 := by rw [List.length_take]; omega
        generalize l[i] = x at hca hcw HSN
        clear hsn hil
        go_wp2_with (first | (go_at_call 34; go_must (refine (sAddI E _ _ _ A b rm (l.take i) x hA hil2 hO).mono ?_; clear hO hcw hA; rintro e w4 ⟨rfl, A2, hA, hO⟩)))
        go_roundw
        case rel => exact ⟨i + 1, A2, by go_num, HIL.out, by rw [HSN.out]; exact hA, hO⟩
        case measure => have := HIL.out; simp [intOf]; omega
      · have hi1 : ¬ (i : Int) < l.length := by omega
        have hil2 : (l.take i).length ≤ 1048575 := by rw [List.length_take]; omega
        obtain rfl : i = l.length := by omega
        rw [List.take_length] at hA hil2
        have hr0 : ¬ (rm : Int) = 0 := by omega
        have hro : runsOf l.length rm = l.length / rm + if l.length % rm = 0 then 0 else 1 := rfl
        have hqb : l.length / rm ≤ 2000 := Nat.le_trans (Nat.div_le_self _ _) hl
        have hq1 : wrap64 ((l.length : Int) / (rm : Int)) = ((l.length / rm : Nat) : Int) := by
          rw [← Int.natCast_ediv]
          exact wrap64_n _ (Nat.le_trans hqb (by decide))
        have hm1 : (l.length : Int) % (rm : Int) = ((l.length % rm : Nat) : Int) := by simp
        have hR := sRunsI E wr _ _ A b rm l hA hil2 hO
        rw [hro] at hR
        generalize l.length / rm = q at hR hqb hq1
        generalize l.length % rm = r at hR hm1
        clear hro
        have key : ∀ n : Nat, (q + if r = 0 then 0 else 1) = n → True := fun _ _ => trivial
        by_cases hr : r = 0
        · subst hr
          rw [if_pos rfl, Nat.add_zero] at hR
          clear key
          (go_wp2_with (first
            | (go_at_call 36; go_must (refine hR.mono ?_; clear hR; rintro e w4 ⟨rfl, rfl⟩))
            | (go_at_call 35; go_must (first
              | (refine (sSortedI E _ _ _ A b rm l hA hil2 hO).mono ?_; clear hO hA; rintro e w4 ⟨oa, ocap, out, O, A2, rfl, hOut, hRise, hPerm, hA2, hO⟩; have hol : out.length ≤ 2000 := (by rw [hPerm.length_eq]; exact hl))
              | (refine (sSortedO E _ _ _ A2 b hA2 hO).mono ?_; rintro e w4 ⟨rfl, rfl⟩)))
            | (go_at_call 19; go_must (refine (sSortedF E _ _ _ I sa l cap hT (by omega) hO).mono ?_; clear hO; rintro e w4 ⟨oa2, ocap2, out2, O2, rfl, hOut2, hRise2, hPerm2, hO⟩))
            | (go_at_call 18; go_must (refine (sSame E _ _ _ (O ++ O2) oa oa2 out out2 ocap ocap2 ((txt_sl hOut).more fun w hO => hO.as _) ((txt_sl hOut2).more fun w hO => hO.as _) (by omega) hO).mono ?_; clear hO; rintro e w4 ⟨rfl, hO⟩; rw [decide_eq_true (rise_uniq hRise hRise2 fun x => (hPerm.trans hPerm2.symm).count_eq x)]))
            | (go_at_call 34; go_must (refine (sAddO E _ _ _ A2 b _ hA2 hO).mono ?_; rintro e w4 ⟨rfl, rfl⟩))
            | (go_at_call 16; go_must (refine (awake8 E _ _ hO).mono ?_; clear hO; rintro e w4 ⟨rfl, hO⟩))))
          go_ret
          exact ⟨rfl, hO.as _⟩
        · rw [if_neg hr] at hR
          have hrp : ((r : Int) ≤ 0) = False := by simp; omega
          have hrp2 : (0 : Int) < r := by omega
          have hrp3 : ¬ (r : Int) ≤ 0 := by omega
          clear key
          clear hr
          have hqq : ((q + 1 : Nat) : Int) = (q : Int) + 1 := by omega
          rw [hqq] at hR
          clear hqq
          (go_wp2_with (first
            | (go_at_call 36; go_must (refine hR.mono ?_; clear hR; rintro e w4 ⟨rfl, rfl⟩))
            | (go_at_call 35; go_must (first
              | (refine (sSortedI E _ _ _ A b rm l hA hil2 hO).mono ?_; clear hO hA; rintro e w4 ⟨oa, ocap, out, O, A2, rfl, hOut, hRise, hPerm, hA2, hO⟩; have hol : out.length ≤ 2000 := (by rw [hPerm.length_eq]; exact hl))
              | (refine (sSortedO E _ _ _ A2 b hA2 hO).mono ?_; rintro e w4 ⟨rfl, rfl⟩)))
            | (go_at_call 19; go_must (refine (sSortedF E _ _ _ I sa l cap hT (by omega) hO).mono ?_; clear hO; rintro e w4 ⟨oa2, ocap2, out2, O2, rfl, hOut2, hRise2, hPerm2, hO⟩))
            | (go_at_call 18; go_must (refine (sSame E _ _ _ (O ++ O2) oa oa2 out out2 ocap ocap2 ((txt_sl hOut).more fun w hO => hO.as _) ((txt_sl hOut2).more fun w hO => hO.as _) (by omega) hO).mono ?_; clear hO; rintro e w4 ⟨rfl, hO⟩; rw [decide_eq_true (rise_uniq hRise hRise2 fun x => (hPerm.trans hPerm2.symm).count_eq x)]))
            | (go_at_call 34; go_must (refine (sAddO E _ _ _ A2 b _ hA2 hO).mono ?_; rintro e w4 ⟨rfl, rfl⟩))
            | (go_at_call 16; go_must (refine (awake8 E _ _ hO).mono ?_; clear hO; rintro e w4 ⟨rfl, hO⟩))))
          go_ret
          exact ⟨rfl, hO.as _⟩
  · have hl1 : ¬ (l.length : Int) ≤ 2000 := by omega
    go_wp2_with (first | (go_at_call 16; go_must (refine (awake8 E _ _ hO1).mono ?_; clear hO1; rintro e w4 ⟨rfl, hO⟩)))
    go_ret
    exact ⟨rfl, hO.as _⟩
end Go.Proofs.Ytnfclieaendgeaa
