/- vestibulelaw03: what LogTwice and LogGoesOn share, and LogTwice. -/
import Derived.Test.YtkkeplobomncgaaLaw3a
import Derived.Test.YtkkeplobomncgaaStrs
set_option linter.all false
namespace Go.Proofs.Ytkkeplobomncgaa
open Go Go.RowKit Go.Own Go.Dk

theorem tmod_bd3 (x : Int) (n : Nat) : ∃ p : Nat, p ≤ n ∧ (x.tmod ((n : Int) + 1) = p ∨ (x.tmod ((n : Int) + 1) = -p ∧ -(p : Int) < 0)) := by
  have h1 : x.tmod ((n : Int) + 1) < n + 1 := Int.tmod_lt_of_pos x (by omega)
  have h2 : -((n : Int) + 1) < x.tmod ((n : Int) + 1) := Int.lt_tmod_of_pos x (by omega)
  refine ⟨(x.tmod ((n : Int) + 1)).natAbs, by omega, ?_⟩
  by_cases h : 0 ≤ x.tmod ((n : Int) + 1)
  · exact .inl (by omega)
  · exact .inr ⟨by omega, by omega⟩
theorem tmod_sgn (x : Int) (n : Nat) (hn : n ≤ 8796093022208) : ∃ p : Nat, p ≤ n ∧ ((¬ x.tmod ((n : Int) + 1) < 0 ∧ x.tmod ((n : Int) + 1) = p) ∨ (x.tmod ((n : Int) + 1) < 0 ∧ wrap64 (-x.tmod ((n : Int) + 1)) = p)) := by
  obtain ⟨p, hp, hx⟩ := tmod_bd3 x n
  refine ⟨p, hp, ?_⟩
  rcases hx with hx | ⟨hx, h0⟩
  · exact .inl ⟨by omega, hx⟩
  · refine .inr ⟨by omega, ?_⟩
    rw [hx]
    unfold wrap64
    omega
theorem wrap_s (n : Nat) (h : n ≤ 8796093022208) : IntKind.i64.wrap ((n : Int) + 1) = (n : Int) + 1 := by
  simp only [IntKind.wrap, show IntKind.bits .i64 = 64 from rfl, show IntKind.signed .i64 = true from rfl]
  rw [Int.emod_eq_of_lt (by omega) (by omega), if_neg (by simp; omega)]
theorem ap_bound {rs : List Raw} {recs : List ByteArray} {c : Nat} (h : rs.length ≤ 2 * recs.length + c) (t : ByteArray) : (apR rs recs t).length ≤ 2 * (apL recs t).length + c := by
  unfold apR apL
  split
  · simp; omega
  · exact h
theorem apE_cases (recs : List ByteArray) (t : ByteArray) : (apE recs t = 0 ∧ apL recs t = recs ++ [t]) ∨ (apE recs t = 2 ∧ apL recs t = recs) ∨ (apE recs t = 30 ∧ apL recs t = recs) := by
  unfold apE apL
  split
  · exact .inl ⟨rfl, rfl⟩
  · split
    · exact .inr (.inl ⟨rfl, rfl⟩)
    · exact .inr (.inr ⟨rfl, rfl⟩)
theorem recs_le {rs : List Raw} {d : Nat} {A : Fr} (h : DiskAt d rs A) {recs : List ByteArray} (hp : play rs 0 = encs recs) : recs.length ≤ 4194304 := by
  have h1 := play_le h.1 0
  have h2 := Go.Dk.encs_len recs
  rw [hp] at h1
  omega

set_option maxRecDepth 100000 in
set_option maxHeartbeats 4000000 in
theorem logTwice (E w : World) (hO : Own E w (oldFr E)) (sa : Option Addr) (sc : Nat) (L : List ByteArray) (hL : StrsAt E sa L) (hn : L.length ≤ 8796093022208) (x : Int) :
    Calls Try.prog 10 #[.slice sa L.length sc, .int .i64 x] w fun e w' => e = .returned (.bool true) ∧ Own E w' (oldFr E) := by
  have hn1 : (L.length : Int) ≤ 8796093022208 := by omega
  have HL := Lib.hid hL
  clear hL
  go_enter Try.func10, Try.ntmps10
  go_wp2_with fail
  refine (dNew E _ _ hO).mono ?_; rintro e w1 ⟨d, A, rfl, hA, hO⟩
  go_wp2_with fail
  refine (lOpen E _ _ _ A d [] hA (by simp) hO).mono ?_; rintro e w1 ⟨l, recs, rest, rs1, sa1, cp, S, A1, rfl, hpl, hst, hrec, hrs, hpl1, hA1, hS, hO⟩
  obtain rfl : recs = [] := open_same (recs := []) rfl recs_nil hpl hst hrec
  have hl1 := open_len hrs
  have hO1 := hO
  clear hrs hpl hO
  go_wp2_with fail
  go_loopw [9] (fun i wr => ∃ (j : Nat) (recs : List ByteArray) (rs : List Raw) (A : Fr), i = .int .i64 j ∧ j ≤ L.length ∧ rs.length ≤ 2 * recs.length + 1 ∧ play rs 0 = encs recs ∧ Recs recs ∧ DiskAt d rs A ∧ Own E wr (logF l d recs ++ (A ++ oldFr E))) (fun i _ => L.length - (intOf i).toNat)
  case atStart => exact ⟨0, [], rs1, A1, rfl, by omega, by simpa using hl1, hpl1, recs_nil, hA1, hO1.as _⟩
  case round =>
    clear hA hA1 hO1 hl1 hpl1
    obtain ⟨j, recs, rs, A, rfl, hj, hrs, hpl, hrec, hA, hO⟩ := hrel
    have hrl := recs_le hA hpl
    by_cases hlt : j < L.length
    · have hj1 : (j : Int) < L.length := by omega
      have hj2 : (0 : Int) ≤ j := by omega
      obtain ⟨ad, rfl, hrow, hts⟩ := HL.out j hlt
      have hc : wr.cell? (ad.add j) = some (.string L[j]) := by have := hrow.at hO 0 _ rfl; simpa [Go.Deep.add_add] using this
      clear hrow
      generalize L[j] = t at hc hts
      cases hb : (t.toList == [])
      · go_wp2_with fail
        refine (lAppend E _ _ _ A l d recs t rs hA hpl (by omega) hts hO).mono ?_; rintro e w1 ⟨rfl, A2, hA2, hO⟩
        go_wp2_with fail
        go_roundw
        case rel => exact ⟨j + 1, apL recs t, apR rs recs t, A2, by go_num, by omega, ap_bound hrs t, play_ap hpl t, recs_ap hrec t, hA2, hO⟩
        case measure => simp [intOf]; omega
      · go_wp2_with fail
        go_roundw
        case rel => exact ⟨j + 1, recs, rs, A, by go_num, by omega, hrs, hpl, hrec, hA, hO⟩
        case measure => simp [intOf]; omega
    · have hlt' : ¬ (j : Int) < L.length := by omega
      have hn0 : (rs.length : Int) + 1 ≠ 0 := by omega
      have hwr := wrap_s rs.length (by omega)
      obtain ⟨p, hp, hx⟩ := tmod_sgn x rs.length (by omega)
      rcases hx with ⟨hx0, hx⟩ | ⟨hx0, hx⟩
      all_goals (
        have HX := Lib.hid hx
        clear hx
        go_wp2_with (first | (go_at_call 25; go_must (refine (dWrites E _ _ _ d rs A hA hO).mono ?_; rintro e w1 ⟨rfl, rfl⟩)))
        rw [HX.out]
        clear HX hx0 hwr hn0
        have hpi : (p : Int) ≤ rs.length := by omega
        have hpl : (rs.take p).length = p := by rw [List.length_take]; omega
        refine (dCut_ok E _ _ _ d rs A p hp (by omega) hA hO).mono ?_; rintro e w1 ⟨c, C, rfl, hC, hO⟩
        go_wp2_with fail
        refine (lOpen E _ _ _ C c _ hC (by omega) hO).mono ?_; rintro e w1 ⟨l1, recs1, rest1, rs1, sa1, cp1, S1, C1, rfl, hpl1, hst1, hrec1, hrs1, hpl1', hC1, hS1, hO⟩
        have hl1 := open_len hrs1
        have hrl1 := recs_le hC1 hpl1'
        clear hpl1 hst1 hrs1
        go_wp2_with fail
        refine (lOpen E _ _ _ C1 c _ hC1 (by omega) hO).mono ?_; rintro e w1 ⟨l2, recs2, rest2, rs2, sa2, cp2, S2, C2, rfl, hpl2, hst2, hrec2, hrs2, hpl2', hC2, hS2, hO⟩
        have hl2 := open_len hrs2
        obtain rfl : recs2 = recs1 := open_same hpl1' hrec1 hpl2 hst2 hrec2
        clear hpl2 hst2 hrs2
        go_wp2_with fail
        refine (lOpen E _ _ _ C2 c _ hC2 (by omega) hO).mono ?_; rintro e w1 ⟨l3, recs3, rest3, rs3, sa3, cp3, S3, C3, rfl, hpl3, hst3, hrec3, hrs3, hpl3', hC3, hS3, hO⟩
        obtain rfl : recs3 = recs2 := open_same hpl2' hrec2 hpl3 hst3 hrec3
        clear hpl3 hst3 hrs3
        go_wp2_with fail
        refine (same3 E _ _ _ S1 S2 recs3 sa1 sa2 cp1 cp2 hS1 hS2 hO).mono ?_; rintro e w1 ⟨rfl, hO⟩
        go_wp2_with fail
        refine (same3 E _ _ _ S1 S3 recs3 sa1 sa3 cp1 cp3 hS1 hS3 hO).mono ?_; rintro e w1 ⟨rfl, hO⟩
        go_wp2_with fail
        refine (lLen E _ _ _ l3 c recs3 hO).mono ?_; rintro e w1 ⟨rfl, rfl⟩
        go_wp2_with fail
        refine (awake3 E _ _ hO).mono ?_; rintro e w1 ⟨rfl, hO⟩
        go_wp2_with fail
        go_ret
        exact ⟨rfl, hO.as _⟩)
end Go.Proofs.Ytkkeplobomncgaa
