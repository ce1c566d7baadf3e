/- vestibulelaw03: LogGoesOn. -/
import Derived.Test.YtkkeplobomncgaaLaw3c
set_option linter.all false
namespace Go.Proofs.Ytkkeplobomncgaa
open Go Go.RowKit Go.Own Go.Dk

set_option maxRecDepth 100000 in
set_option maxHeartbeats 4000000 in
theorem logGoesOn (E w : World) (hO : Own E w (oldFr E)) (sa : Option Addr) (sc : Nat) (L : List ByteArray) (hL : StrsAt E sa L) (hn : L.length ≤ 8796093022208) (x : Int)
    (ta : Option Addr) (tc : Nat) (M : List ByteArray) (hM : StrsAt E ta M) (hm : M.length ≤ 8796093022208) :
    Calls Try.prog 9 #[.slice sa L.length sc, .int .i64 x, .slice ta M.length tc] w fun e w' => e = .returned (.bool true) ∧ Own E w' (oldFr E) := by
  have hn1 : (L.length : Int) ≤ 8796093022208 := by omega
  have hm1 : (M.length : Int) ≤ 8796093022208 := by omega
  have HL := Lib.hid hL
  have HM := Lib.hid hM
  clear hL hM
  go_enter Try.func9, Try.ntmps9
  go_wp2_with fail
  refine (dNew E _ _ hO).mono ?_; rintro e w1 ⟨d, A, rfl, hA, hO⟩
  go_wp2_with fail
  refine (lOpen E _ _ _ A d [] hA (by simp) hO).mono ?_; rintro e w1 ⟨l, recs, rest, rs1, sa1, cp, S, A1, rfl, hpl, hst, hrec, hrs, hpl1, hA1, hS, hO⟩
  obtain rfl : recs = [] := open_same (recs := []) rfl recs_nil hpl hst hrec
  have hl1 := open_len hrs
  have hO1 := hO
  clear hrs hpl hO
  go_wp2_with fail
  go_loopw [11] (fun i wr => ∃ (j : Nat) (recs : List ByteArray) (rs : List Raw) (A : Fr), i = .int .i64 j ∧ j ≤ L.length ∧ rs.length ≤ 2 * recs.length + 1 ∧ play rs 0 = encs recs ∧ Recs recs ∧ DiskAt d rs A ∧ Own E wr (logF l d recs ++ (A ++ oldFr E))) (fun i _ => L.length - (intOf i).toNat)
  case atStart => exact ⟨0, [], rs1, A1, rfl, by omega, by simpa using hl1, hpl1, recs_nil, hA1, hO1.as _⟩
  case round =>
    clear hA hA1 hO1 hl1 hpl1 hS hst hrec
    obtain ⟨j, recs, rs, A, rfl, hj, hrs, hpl, hrec, hA, hO⟩ := hrel
    have hrl := recs_le hA hpl
    by_cases hlt : j < L.length
    · have hj1 : (j : Int) < L.length := by omega
      have hj2 : (0 : Int) ≤ j := by omega
      obtain ⟨ad, rfl, hrow, hts⟩ := HL.out j hlt
      have hc : wr.cell? (ad.add j) = some (.string L[j]) := by have := hrow.at hO 0 _ rfl; simpa [Go.Deep.add_add] using this
      clear hrow
      generalize L[j] = t at hc hts
      cases hb : (t.toList == [])
      · go_wp2_with fail
        refine (lAppend E _ _ _ A l d recs t rs hA hpl (by omega) hts hO).mono ?_; rintro e w1 ⟨rfl, A2, hA2, hO⟩
        go_wp2_with fail
        go_roundw
        case rel => exact ⟨j + 1, apL recs t, apR rs recs t, A2, by go_num, by omega, ap_bound hrs t, play_ap hpl t, recs_ap hrec t, hA2, hO⟩
        case measure => simp [intOf]; omega
      · go_wp2_with fail
        go_roundw
        case rel => exact ⟨j + 1, recs, rs, A, by go_num, by omega, hrs, hpl, hrec, hA, hO⟩
        case measure => simp [intOf]; omega
    · have hlt' : ¬ (j : Int) < L.length := by omega
      have hn0 : (rs.length : Int) + 1 ≠ 0 := by omega
      have hwr := wrap_s rs.length (by omega)
      obtain ⟨p, hp, hx⟩ := tmod_sgn x rs.length (by omega)
      rcases hx with ⟨hx0, hx⟩ | ⟨hx0, hx⟩
      all_goals (
        have HX := Lib.hid hx
        clear hx
        go_wp2_with (first | (go_at_call 25; go_must (refine (dWrites E _ _ _ d rs A hA hO).mono ?_; rintro e w1 ⟨rfl, rfl⟩)))
        rw [HX.out]
        clear HX hx0 hwr hn0
        have hpi : (p : Int) ≤ rs.length := by omega
        have hpl : (rs.take p).length = p := by rw [List.length_take]; omega
        refine (dCut_ok E _ _ _ d rs A p hp (by omega) hA hO).mono ?_; rintro e w1 ⟨c, C, rfl, hC, hO⟩
        go_wp2_with fail
        refine (lOpen E _ _ _ C c _ hC (by omega) hO).mono ?_; rintro e w1 ⟨l1, recs1, rest1, rs1, sa1, cp1, S1, C1, rfl, hpl1, hst1, hrec1, hrs1, hpl1', hC1, hS1, hO⟩
        have hl1 := open_len hrs1
        have hrl1 := recs_le hC1 hpl1'
        have hb1 : rs1.length ≤ 2 * recs1.length + 8388610 := by omega
        clear hpl1 hst1 hrs1
        (
        go_wp2_with (first | (refine at_append ?_; go_must (refine own_append (A := []) (e := 9) (sz := 1) (bytes := 16) (z := .string .empty) (n := 0) (cap := 0) (sa := none) (m := recs1.length) (xv := .slice sa1 recs1.length cp1) (xs := []) (news := recs1.map .string) sltStrs (.inl (by kernel_rfl)) hO ?_ ?_ ?_ (Sl.nil _ _) ?_ ?_ ?_ ?_ ?_ ?_ ?_; (· rfl); (· rfl); (· rfl); (· intro w; rfl); (· intro w' hO'; have := hS1.firstCells (P := Try.prog) hO'; exact this); (· simp); (· intro u hu; simp at hu; obtain ⟨s, _, rfl⟩ := hu; rfl); (· unfold maxLen; omega); (· left; omega); clear hO; (try clear hF); intro a2 cap2 S2 w2 hS2 hO; simp only [Act.put, List.setIfInBounds_toArray, List.set_cons_zero, List.set_cons_succ])))
        rw [Nat.zero_add] at *
        have hO2 := hO
        clear hO
        go_loopw [18, 19] (fun sv i wr => ∃ (j : Nat) (recs : List ByteArray) (rs : List Raw) (C S : Fr) (sa : Option Addr) (cp : Nat), i = .int .i64 j ∧ sv = .slice sa recs.length cp ∧ Sl 9 1 sa recs.length cp (recs.map .string) S ∧ j ≤ M.length ∧ rs.length ≤ 2 * recs.length + 8388610 ∧ play rs 0 = encs recs ∧ Recs recs ∧ DiskAt c rs C ∧ Own E wr (logF l1 c recs ++ (S ++ (C ++ oldFr E)))) (fun _ i _ => M.length - (intOf i).toNat)
        case atStart => exact ⟨0, recs1, rs1, C1, S2, a2, cap2, rfl, rfl, hS2, by omega, hb1, hpl1', hrec1, hC1, hO2.as _⟩
        case round =>
          clear hO2 hC1 hb1 hpl1' hrec1 hS2 hS1 hrl1 hl1
          obtain ⟨j, recs, rs, C, S, sa, cp, rfl, rfl, hS, hj, hrs, hpl, hrec, hC, hO⟩ := hrel
          have hrl := recs_le hC hpl
          by_cases hlt : j < M.length
          · have hj1 : (j : Int) < M.length := by omega
            have hj2 : (0 : Int) ≤ j := by omega
            obtain ⟨ad, rfl, hrow, hts⟩ := HM.out j hlt
            have hc : wr.cell? (ad.add j) = some (.string M[j]) := by have := hrow.at hO 0 _ rfl; simpa [Go.Deep.add_add] using this
            have HR := Lib.hid hrow
            clear hrow
            generalize M[j] = t at hc hts HR
            cases hb : (t.toList == [])
            · have hq := apE_cases recs t
              have hab := ap_bound hrs t
              have hap := play_ap hpl t
              have hra := recs_ap hrec t
              go_wp2_with fail
              refine (lAppend E _ _ _ C l1 c recs t rs hC hpl (by omega) hts hO).mono ?_; rintro e w1 ⟨rfl, C3, hC3, hO⟩
              generalize apR rs recs t = rs3 at *
              clear hc
              have hc : w1.cell? (ad.add j) = some (.string t) := by have := HR.out.at hO 0 _ rfl; simpa [Go.Deep.add_add] using this
              rcases hq with ⟨hq1, hq2⟩ | ⟨hq1, hq2⟩ | ⟨hq1, hq2⟩
              all_goals rw [hq1]; rw [hq2] at hO hab hap hra; clear hq1 hq2
              · ((try simp only [List.nil_append, List.append_nil] at hO); have hF := Own.cells hO; simp only [cellsOf_append, cellsOf_pt] at hF)
                go_wp2_with (first | (refine at_bs ?_; go_must (refine own_build1 (v := ?_) sltStrs hO ?_ ?_ ?_ ?_ ?_ ?_; rotate_left; (· rfl); (· ((conv => lhs; whnf); try exact rfl)); (· rfl); (· decide); (· decide); clear hO; (try clear hF); intro bs _ hO; (try simp only [Value.cells] at hO); ((try simp only [List.nil_append, List.append_nil] at hO); have hF := Own.cells hO; simp only [cellsOf_append, cellsOf_pt] at hF); simp only [Act.put, List.setIfInBounds_toArray, List.set_cons_zero, List.set_cons_succ])) | (refine at_append ?_; go_must (refine own_append_elem (b1 := ?_) (cs := ?_) (e1 := ?_) (f1 := ?_) sltStrs hO ?_ ?_ ?_ hS ?_ ?_ ?_ ?_ ?_ ?_ ?_; rotate_left 4; (· rfl); (· rfl); (· rfl); (· exact inferInstance); (· rfl); (· intro u hu; simp at hu; subst hu; rfl); (· first | omega | (simp only [maxLen]; omega)); (· decide); (· first | omega | (simp only [maxLen]; omega)); clear hO; (try clear hF); intro _ _ _ _ hS hO; ((try simp only [List.nil_append, List.append_nil] at hO); have hF := Own.cells hO; simp only [cellsOf_append, cellsOf_pt] at hF); simp only [Act.put, List.setIfInBounds_toArray, List.set_cons_zero, List.set_cons_succ])))
                have hlen1 : (recs ++ [t]).length = recs.length + 1 := by simp
                go_roundw
                case rel => exact ⟨j + 1, recs ++ [t], rs3, C3, _, _, _, by go_num, by rw [hlen1], (by rw [hlen1, List.map_append]; exact hS), by omega, hab, hap, hra, hC3, hO.as _⟩
                case measure => simp [intOf]; omega
              · go_wp2_with fail
                go_roundw
                case rel => exact ⟨j + 1, recs, rs3, C3, S, sa, cp, by go_num, rfl, hS, by omega, hab, hap, hra, hC3, hO.as _⟩
                case measure => simp [intOf]; omega
              · go_wp2_with fail
                go_roundw
                case rel => exact ⟨j + 1, recs, rs3, C3, S, sa, cp, by go_num, rfl, hS, by omega, hab, hap, hra, hC3, hO.as _⟩
                case measure => simp [intOf]; omega
            · go_wp2_with fail
              go_roundw
              case rel => exact ⟨j + 1, recs, rs, C, S, sa, cp, by go_num, rfl, hS, by omega, hrs, hpl, hrec, hC, hO⟩
              case measure => simp [intOf]; omega
          · have hlt' : ¬ (j : Int) < M.length := by omega
            go_wp2_with fail
            refine (lOpen E _ _ _ C c rs hC (by omega) hO).mono ?_; rintro e w1 ⟨l2, recs2, rest2, rs2, sa2, cp2, S2, C2, rfl, hpl2, hst2, hrec2, hrs2, hpl2', hC2, hS2, hO⟩
            obtain rfl : recs2 = recs := open_same hpl hrec hpl2 hst2 hrec2
            clear hpl2 hst2 hrs2
            go_wp2_with fail
            refine (same3 E _ _ _ S2 S recs2 sa2 sa cp2 cp hS2 hS hO).mono ?_; rintro e w1 ⟨rfl, hO⟩
            go_wp2_with fail
            refine (lLen E _ _ _ l1 c recs2 hO).mono ?_; rintro e w1 ⟨rfl, rfl⟩
            go_wp2_with fail
            refine (awake3 E _ _ hO).mono ?_; rintro e w1 ⟨rfl, hO⟩
            go_wp2_with fail
            go_ret
            exact ⟨rfl, hO.as _⟩))
end Go.Proofs.Ytkkeplobomncgaa
