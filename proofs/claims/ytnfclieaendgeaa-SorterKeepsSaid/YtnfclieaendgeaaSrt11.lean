/- vestibulelaw08: SorterKeeps. -/
import Derived.Test.YtnfclieaendgeaaSrt8
set_option linter.all false
namespace Go.Proofs.Ytnfclieaendgeaa
open Go Go.RowKit Go.Own Go.Hp

set_option maxRecDepth 100000 in
set_option maxHeartbeats 16000000 in
theorem lawKeeps (E w : World) (X R I : Fr) (t0 : Int) (x : ByteArray) (sa : Option Addr) (l : List ByteArray) (cap : Nat) (hT : TxtIn E I sa l) (hn : l.length ≤ 8796093022208) (hO : Own E w X) [hp : Pick X I R] :
    Calls Try.prog 12 #[.slice sa l.length cap, .string x, .int .i64 t0] w fun e w' => e = .returned (.bool true) ∧ Own E w' (I ++ R) := by
  replace hO := hO.perm hp.perm
  clear hp
  go_enter Try.func12, Try.ntmps12
  go_wp2_with fail
  refine (sNew E _ _ 3 hO).mono ?_
  clear hO
  rintro e w1 (⟨h1, h2, b, A, rfl, hA, hO⟩ | ⟨hno, rfl, hO⟩)
  rotate_left
  · exact absurd ⟨by omega, by omega⟩ hno
  have hA0 : SInv E b 3 [] A := SInv.new (by simpa using hA) (by omega) (by omega)
  clear hA h1 h2
  have hO1 := hO
  clear hO
  by_cases hl : l.length ≤ 2000
  · have hl1 : (l.length : Int) ≤ 2000 := by omega
    obtain ⟨n, hn1, hb1⟩ := and_mask t0 63 63 rfl (by decide)
    have hnb : (n : Int) ≤ 63 := by omega
    go_wp2_with fail
    go_loopw [10, 11] (fun s10 s11 wr => ∃ (i c : Nat) (A : Fr), s11 = .int .i64 i ∧ s10 = .int .i64 c ∧ c = n + (l.take i).count x ∧ i ≤ l.length ∧ SInv E b 3 (l.take i) A ∧ Own E wr (A ++ (I ++ R))) (fun _ s11 _ => l.length - (intOf s11).toNat)
    case atStart => exact ⟨0, n, A, rfl, rfl, by simp, Nat.zero_le _, hA0, hO1⟩
    case round =>
      clear hO1 hA0
      obtain ⟨i, c, A, rfl, rfl, hc, hi, hA, hO⟩ := hrel
      have hcb : (c : Int) ≤ 2100 := by
        have := List.count_le_length (a := x) (l := l.take i)
        rw [List.length_take] at this
        omega
      have HC := Lib.hid hc
      clear hc
      by_cases hil : i < l.length
      · have hi1 : (i : Int) < l.length := by omega
        have hi0 : (0 : Int) ≤ i := by omega
        obtain ⟨ad, rfl, hca⟩ := hT.ex (hO.as I) i hil
        have hsn : l.take (i + 1) = l.take i ++ [l[i]] := List.take_succ_eq_append_getElem hil
        have hcw := hca _ (hO.as I)
        have HSN := Lib.hid hsn
        have HIL := Lib.hid hil
        have hil2 : (l.take i).length ≤ 1048575 := by rw [List.length_take]; omega
        generalize l[i] = y at hca hcw HSN
        clear hsn hil
        cases hyx : (y.toList == x.toList)
        · go_wp2_with (first | (go_at_call 34; go_must (refine (sAddI E _ _ _ A b 3 (l.take i) y hA hil2 hO).mono ?_; clear hO hcw hA; rintro e w4 ⟨rfl, A2, hA, hO⟩)))
          go_roundw
          case rel =>
            refine ⟨i + 1, c, A2, by go_num, rfl, ?_, HIL.out, by rw [HSN.out]; exact hA, hO⟩
            have hne : ¬ y = x := fun h => by subst h; simp at hyx
            rw [HSN.out, List.count_append, List.count_singleton, HC.out]
            simp [hne]
          case measure => have := HIL.out; simp [intOf]; omega
        · go_wp2_with (first | (go_at_call 34; go_must (refine (sAddI E _ _ _ A b 3 (l.take i) y hA hil2 hO).mono ?_; clear hO hcw hA; rintro e w4 ⟨rfl, A2, hA, hO⟩)))
          go_roundw
          case rel =>
            refine ⟨i + 1, c + 1, A2, by go_num, by go_num, ?_, HIL.out, by rw [HSN.out]; exact hA, hO⟩
            have hne : y = x := ba_inj (by simpa using hyx)
            rw [HSN.out, List.count_append, List.count_singleton, HC.out]
            simp [hne]
            omega
          case measure => have := HIL.out; simp [intOf]; omega
      · have hi1 : ¬ (i : Int) < l.length := by omega
        obtain rfl : i = l.length := by omega
        rw [List.take_length] at hA HC
        have hO1 := hO
        have hA0 := hA
        clear hO hA
        go_wp2_with fail
        go_loopw [12] (fun s12 wr => ∃ (k : Nat) (A : Fr), s12 = .int .i64 k ∧ k ≤ n ∧ SInv E b 3 (l ++ List.replicate k x) A ∧ Own E wr (A ++ (I ++ R))) (fun s12 _ => n - (intOf s12).toNat)
        case atStart => exact ⟨0, A, rfl, Nat.zero_le _, by simpa using hA0, hO1⟩
        case round =>
          clear hO1 hA0
          obtain ⟨k, A, rfl, hk, hA, hO⟩ := hrel
          have hkb : (l ++ List.replicate k x).length ≤ 1048575 := by simp; omega
          by_cases hkn : k < n
          · have hk1 : (k : Int) < n := by omega
            have HKN := Lib.hid hkn
            clear hkn
            go_wp2_with (first | (go_at_call 34; go_must (refine (sAddI E _ _ _ A b 3 (l ++ List.replicate k x) x hA hkb hO).mono ?_; clear hO hA; rintro e w4 ⟨rfl, A2, hA, hO⟩)))
            go_roundw
            case rel => exact ⟨k + 1, A2, by go_num, HKN.out, by rw [List.replicate_succ', ← List.append_assoc]; exact hA, hO⟩
            case measure => have := HKN.out; simp [intOf]; omega
          · have hk1 : ¬ (k : Int) < n := by omega
            obtain rfl : k = n := by omega
            clear hk1
            go_wp2_with fail
            refine (sSortedI E _ _ _ A b 3 _ hA hkb hO).mono ?_
            clear hO hA
            rintro e w4 ⟨oa, oc, out, O, A2, rfl, hOut, hRi, hPe, hA2, hO⟩
            have hol : out.length = l.length + k := by rw [hPe.length_eq]; simp
            have hoc : out.count x = k + l.count x := by rw [hPe.count_eq, List.count_append, List.count_replicate_self]; omega
            have HOL := Lib.hid hol
            have hob : (out.length : Int) ≤ 2100 := by omega
            have hoe : ((out.length : Int) == (l.length : Int) + (k : Int)) = true := by rw [hol]; simp
            have HOC := Lib.hid hoc
            have HRI := Lib.hid (riseB_t hRi)
            have HB := Lib.hid hob
            clear hol hoc hPe hRi
            replace hO := hO.as (O ++ (I ++ R))
            have hO1 := hO
            clear hO
            go_wp2_with fail
            go_loopw [10, 15] (fun s10 s15 wr => ∃ (j d : Nat), s15 = .int .i64 j ∧ s10 = .int .i64 d ∧ d + (out.take j).count x = c ∧ j ≤ out.length ∧ Own E wr (O ++ (I ++ R))) (fun _ s15 _ => out.length - (intOf s15).toNat)
            case atStart => exact ⟨0, c, rfl, rfl, by simp, Nat.zero_le _, hO1⟩
            case round =>
              clear hO1
              obtain ⟨j, d, rfl, rfl, hd, hj, hO⟩ := hrel
              have HD := Lib.hid hd
              have hdb : (d : Int) ≤ 2100 := by omega
              clear hd
              by_cases hjl : j < out.length
              · have hj1 : (j : Int) < out.length := by omega
                have hj0 : (0 : Int) ≤ j := by omega
                obtain ⟨ad, rfl, hca⟩ := (txt_sl hOut).ex (hO.as O) j hjl
                have hcw := hca _ (hO.as O)
                have HSN := Lib.hid (List.take_succ_eq_append_getElem hjl : out.take (j + 1) = out.take j ++ [out[j]])
                have HJL := Lib.hid hjl
                have HCP := Lib.hid ((List.take_sublist (j + 1) out).count_le x)
                generalize out[j] = y at hca hcw HSN
                clear hjl
                cases hyx : (y.toList == x.toList)
                · go_wp2_with fail
                  go_roundw
                  case rel =>
                    refine ⟨j + 1, d, by go_num, rfl, ?_, HJL.out, hO⟩
                    have hne : ¬ y = x := fun h => by subst h; simp at hyx
                    rw [HSN.out, List.count_append, List.count_singleton, ← HD.out]
                    simp [hne]
                  case measure => have := HJL.out; simp [intOf]; omega
                · have hne : y = x := ba_inj (by simpa using hyx)
                  have hct : (out.take (j + 1)).count x = (out.take j).count x + 1 := by
                    rw [HSN.out, List.count_append, List.count_singleton, hne]
                    simp
                  have hd1 : 1 ≤ d := by
                    have h1 := HCP.out
                    have h2 := HD.out
                    have h3 := HOC.out
                    have h4 := HC.out
                    omega
                  obtain ⟨d', rfl⟩ : ∃ d', d = d' + 1 := ⟨d - 1, by omega⟩
                  have HCT := Lib.hid hct
                  clear hct hne
                  go_wp2_with fail
                  go_roundw
                  case rel =>
                    refine ⟨j + 1, d', by go_num, by go_num, ?_, HJL.out, hO⟩
                    have h2 := HD.out
                    rw [HCT.out]
                    omega
                  case measure => have := HJL.out; simp [intOf]; omega
              · have hj1 : ¬ (j : Int) < out.length := by omega
                have hd0 : d = 0 := by
                  have h1 := HD.out
                  rw [List.take_of_length_le (by omega)] at h1
                  have h3 := HOC.out
                  have h4 := HC.out
                  omega
                subst hd0
                clear HD
                go_wp2_with (first
                  | (go_at_call 15; go_must (refine (sRises E _ _ _ O oa out oc (txt_sl hOut) (by have := HB.out; omega) hO).mono ?_; clear hO; rintro e w4 ⟨rfl, hO⟩; rw [HRI.out]))
                  | (go_at_call 16; go_must (refine (awake8 E _ _ hO).mono ?_; clear hO; rintro e w4 ⟨rfl, hO⟩)))
                all_goals first | (go_ret; exact ⟨rfl, hO.as _⟩) | trace_state
  · have hl1 : ¬ (l.length : Int) ≤ 2000 := by omega
    go_wp2_with (first | (go_at_call 16; go_must (refine (awake8 E _ _ hO1).mono ?_; clear hO1; rintro e w4 ⟨rfl, hO⟩)))
    go_ret
    exact ⟨rfl, hO.as _⟩
end Go.Proofs.Ytnfclieaendgeaa
