/- vestibulelaw02: DiskGaps. -/
import Derived.Test.YtkkeplobomncgaaLaw2c
set_option linter.all false
namespace Go.Proofs.Ytkkeplobomncgaa
open Go Go.RowKit Go.Own Go.Dk

theorem over_nil (s : List UInt8) : over [] 0 s = s := by simp [over]
theorem over_get (l : List UInt8) (k : Nat) (s : List UInt8) (i : Nat) : (over l k s).getD i 0 = if k ≤ i ∧ i < k + s.length then s.getD (i - k) 0 else l.getD i 0 := by
  unfold over
  have hk : ((l ++ List.replicate (k + s.length - l.length) 0).take k).length = k := by simp; omega
  simp only [List.getD_eq_getElem?_getD]
  have hg : ∀ i : Nat, (l ++ List.replicate (k + s.length - l.length) (0 : UInt8))[i]?.getD 0 = l[i]?.getD 0 := by
    intro i
    by_cases h : i < l.length
    · rw [List.getElem?_append_left h]
    · rw [List.getElem?_append_right (by omega), List.getElem?_eq_none (l := l) (by omega)]
      by_cases h2 : i - l.length < k + s.length - l.length
      · rw [List.getElem?_replicate_of_lt h2]; rfl
      · rw [List.getElem?_eq_none (by simp; omega)]
  by_cases h1 : i < k
  · rw [if_neg (by omega), List.append_assoc, List.getElem?_append_left (by omega), List.getElem?_take_of_lt h1, hg]
  · by_cases h2 : i < k + s.length
    · rw [if_pos ⟨by omega, h2⟩, List.getElem?_append_left (by rw [List.length_append, hk]; omega), List.getElem?_append_right (by omega), hk]
    · rw [if_neg (by omega), List.getElem?_append_right (by rw [List.length_append, hk]; omega), List.length_append, hk, List.getElem?_drop, hg]
      congr 2; omega

theorem band (x : Int) (m : Nat) (hm : m < 4294967296) : ∃ k : Nat, bits .and .i64 x m = k ∧ k ≤ m := by
  refine ⟨((BitVec.ofInt 64 x).toNat &&& m), ?_, Nat.and_le_right⟩
  simp only [bits]
  have h2 : (BitVec.ofInt 64 (m : Int)).toNat = m := by
    rw [BitVec.ofInt_natCast, BitVec.toNat_ofNat]; exact Nat.mod_eq_of_lt (by omega)
  show IntKind.wrap .i64 _ = _
  have h3 : (BitVec.ofInt 64 x).toNat &&& m ≤ m := Nat.and_le_right
  rw [show IntKind.bits .i64 = 64 from rfl, BitVec.toNat_and, h2]
  generalize (BitVec.ofInt 64 x).toNat &&& m = z at h3
  have : ((z : Int) % 2 ^ 64) = z := by omega
  simp only [IntKind.wrap, show IntKind.bits .i64 = 64 from rfl, show IntKind.signed .i64 = true from rfl, this]
  rw [if_neg (by simp; omega)]

/-- What file 2 holds. -/
def gaps (k : Nat) (s first : ByteArray) : List UInt8 := over first.data.toList k s.data.toList
theorem gaps_length (k : Nat) (s first : ByteArray) : (gaps k s first).length = max first.size (k + s.size) := by
  rw [gaps, over_length, Array.length_toList, Array.length_toList]; rfl
def gapRs (k : Nat) (s first : ByteArray) : List Raw := [.put 2 0 first, .put 2 k s]
theorem play_gaps (k : Nat) (s first : ByteArray) : play (gapRs k s first) 2 = gaps k s first := by
  simp [play, gapRs, Raw.app, upd, over_nil, gaps]
theorem wr_gap1 (first : ByteArray) (h : first.size ≤ 4096) : wr [] 2 0 first = ([.put 2 0 first], 0) := by
  unfold wr; rw [if_pos ⟨by decide, by omega, by omega, by omega⟩]; rfl
theorem wr_gap2 (k : Nat) (s first : ByteArray) (h : s.size ≤ 4096) (hk : k < 4096) : wr [.put 2 0 first] 2 k s = (gapRs k s first, 0) := by
  unfold wr; rw [if_pos ⟨by decide, by omega, by omega, by omega⟩]; simp [gapRs]
def gapT (k : Nat) (s first : ByteArray) : ByteArray := ⟨(gaps k s first).toArray⟩
theorem gapT_size (k : Nat) (s first : ByteArray) : (gapT k s first).size = (gaps k s first).length := by simp [gapT, ByteArray.size]
theorem ba_getD (s : ByteArray) (j : Nat) (h : j < s.size) : s.data.toList.getD j 0 = s[j] := by
  obtain ⟨⟨l⟩⟩ := s
  have hl : j < l.length := h
  simp only [List.getD, List.getElem?_eq_getElem hl, Option.getD_some]
  rfl
theorem gapT_get (k : Nat) (s first : ByteArray) (j : Nat) (h : j < (gapT k s first).size) : (gapT k s first)[j] = if k ≤ j ∧ j < k + s.size then s.data.toList.getD (j - k) 0 else first.data.toList.getD j 0 := by
  rw [← ba_getD _ j h]
  have : (gapT k s first).data.toList = gaps k s first := by simp [gapT]
  rw [this, gaps, over_get, Array.length_toList]
  rfl
theorem rd_gaps (k : Nat) (s first : ByteArray) (N : Int) (hN : N = (gaps k s first).length) : rd (gapRs k s first) 2 0 N = (gapT k s first, 0) := by
  have e : (2 : Int).toNat = 2 := rfl
  unfold rd
  rw [e, play_gaps, if_pos ⟨by decide, by omega, by omega, by omega, by omega⟩, hN]
  simp [gapT]
theorem sz_gaps (k : Nat) (s first : ByteArray) : sz (gapRs k s first) 2 = (gaps k s first).length := by
  have e : (2 : Int).toNat = 2 := rfl
  unfold sz
  rw [if_pos (by decide), e, play_gaps]
theorem gap_n (k : Nat) (s first : ByteArray) (X : Int) (h : X = max (first.size : Int) (k + s.size)) : ∃ N : Nat, X = N ∧ N = (gaps k s first).length := by
  have := gaps_length k s first
  exact ⟨_, by omega, rfl⟩

set_option maxRecDepth 100000 in
set_option maxHeartbeats 4000000 in
theorem diskGaps (E w : World) (hO : Own E w (oldFr E)) (at_ : Int) (s first : ByteArray) (hs : s.size ≤ maxLen) (hf : first.size ≤ maxLen) :
    Calls Try.prog 7 #[.int .i64 at_, .string s, .string first] w fun e w' => e = .returned (.bool true) ∧ Own E w' (oldFr E) := by
  by_cases h1 : (s.size : Int) ≤ 4096
  case neg =>
    have h1' : (4096 : Int) < s.size := by omega
    go_enter Try.func7, Try.ntmps7
    go_wp2_with (first | (go_at_call 15; refine (dNew E _ _ hO).mono ?_; rintro e w1 ⟨d, A, rfl, hA, hO⟩) | (go_at_call 17; go_must (refine (awake2 E _ _ hO).mono ?_; rintro e w1 ⟨rfl, hO⟩)))
    go_ret
    exact ⟨rfl, hO.as _⟩
  by_cases h2 : (first.size : Int) ≤ 4096
  case neg =>
    have h2' : (4096 : Int) < first.size := by omega
    go_enter Try.func7, Try.ntmps7
    go_wp2_with (first | (go_at_call 15; refine (dNew E _ _ hO).mono ?_; rintro e w1 ⟨d, A, rfl, hA, hO⟩) | (go_at_call 17; go_must (refine (awake2 E _ _ hO).mono ?_; rintro e w1 ⟨rfl, hO⟩)))
    go_ret
    exact ⟨rfl, hO.as _⟩
  obtain ⟨k, hk, hk4⟩ := band at_ 4095 (by decide)
  simp only [show ((4095 : Nat) : Int) = 4095 from rfl] at hk
  have HK := Lib.hid hk
  clear hk
  go_enter Try.func7, Try.ntmps7
  go_wp2_with (first | (go_at_call 15; refine (dNew E _ _ hO).mono ?_; rintro e w1 ⟨d, A, rfl, hA, hO⟩) | (go_at_call 23; refine (dWrite E _ _ _ d [] A 2 0 first hf hA (by simp) hO).mono ?_; rw [wr_gap1 first (by omega)]; clear hA; rintro e w1 ⟨rfl, A1, hA1, hO⟩) | (go_at_call 23; go_must (rw [HK.out]; refine (dWrite E _ _ _ d [.put 2 0 first] A1 2 k s hs hA1 (by simp) hO).mono ?_; rw [wr_gap2 k s first (by omega) (by omega)]; rintro e w1 ⟨rfl, A2, hA2, hO⟩)))
  all_goals (
    obtain ⟨N, hX, hN⟩ := gap_n k s first _ (by first | exact Int.max_eq_right (by omega) |>.symm | exact Int.max_eq_left (by omega) |>.symm)
    rw [hN] at hX
    have HX := Lib.hid hX
    clear hX
    go_wp2_with (first | (go_at_call 19; go_must (refine (dRead E _ _ _ d _ A2 2 0 _ hA2 hO).mono ?_; rw [rd_gaps k s first _ HX.out]; rintro e w1 ⟨rfl, rfl⟩)) | (go_at_call 26; go_must (refine (dSize E _ _ _ d _ A2 2 hA2 hO).mono ?_; rw [sz_gaps k s first, ← HX.out]; rintro e w1 ⟨rfl, rfl⟩)))
    have hX := HX.out
    clear HX
    have hTs := gapT_size k s first
    have hTg := gapT_get k s first
    rw [← hN] at hTs hX
    clear hN
    generalize gapT k s first = T at hTs hTg ⊢
    have HTg := Lib.hid hTg
    clear hTg
    have hO1 : Own E _ (oldFr E) := hO.as _
    clear hO
    have hO := hO1
    clear hO1
    go_loopw [12] (fun i wr => ∃ j : Nat, i = .int .i64 j ∧ j ≤ N ∧ Own E wr (oldFr E)) (fun i _ => N - (intOf i).toNat)
    case atStart => exact ⟨0, rfl, by omega, hO⟩
    case round =>
      obtain ⟨j, rfl, hj, hO⟩ := hrel
      by_cases hlt : j < N
      · have hlt' : (j : Int) < N := by omega
        have hj0 : (0 : Int) ≤ j := by omega
        have hjT : (j : Int) < T.size := by omega
        rw [← hX] at hlt'
        have ht := HTg.out j (by omega)
        clear hX
        by_cases c1 : (k : Int) ≤ j
        · by_cases c2 : (j : Int) < k + s.size
          · have c3 : (0 : Int) ≤ j - k := by omega
            have c4 : (j : Int) - k < s.size := by omega
            rw [if_pos ⟨by omega, by omega⟩, ba_getD _ _ (by omega)] at ht
            have HT := Lib.hid ht
            clear ht
            go_wp2_with fail
            all_goals (first | (rename_i hx; rw [HT.out] at hx; simp at hx; done) | (go_roundw; (case rel => exact ⟨j + 1, by go_num, by omega, hO⟩); (case measure => simp [intOf]; omega)))
          · rw [if_neg (by omega)] at ht
            by_cases c3 : (j : Int) < first.size
            · rw [ba_getD _ _ (by omega)] at ht
              have HT := Lib.hid ht
              clear ht
              go_wp2_with fail
              all_goals (first | (rename_i hx; rw [HT.out] at hx; simp at hx; done) | (go_roundw; (case rel => exact ⟨j + 1, by go_num, by omega, hO⟩); (case measure => simp [intOf]; omega)))
            · rw [List.getD_eq_getElem?_getD, List.getElem?_eq_none (by rw [Array.length_toList]; show first.size ≤ j; omega)] at ht
              have HT := Lib.hid ht
              clear ht
              go_wp2_with fail
              all_goals (first | (rename_i hx; rw [HT.out] at hx; simp at hx; done) | (go_roundw; (case rel => exact ⟨j + 1, by go_num, by omega, hO⟩); (case measure => simp [intOf]; omega)))
        · rw [if_neg (by omega)] at ht
          by_cases c3 : (j : Int) < first.size
          · rw [ba_getD _ _ (by omega)] at ht
            have HT := Lib.hid ht
            clear ht
            go_wp2_with fail
            all_goals (first | (rename_i hx; rw [HT.out] at hx; simp at hx; done) | (go_roundw; (case rel => exact ⟨j + 1, by go_num, by omega, hO⟩); (case measure => simp [intOf]; omega)))
          · rw [List.getD_eq_getElem?_getD, List.getElem?_eq_none (by rw [Array.length_toList]; show first.size ≤ j; omega)] at ht
            have HT := Lib.hid ht
            clear ht
            go_wp2_with fail
            all_goals (first | (rename_i hx; rw [HT.out] at hx; simp at hx; done) | (go_roundw; (case rel => exact ⟨j + 1, by go_num, by omega, hO⟩); (case measure => simp [intOf]; omega)))
      · have hge : ¬ (j : Int) < N := by omega
        rw [← hX] at hge
        go_wp2_with (go_at_call 17; go_must (refine (awake2 E _ _ hO).mono ?_; rintro e w1 ⟨rfl, hO⟩))
        go_ret
        exact ⟨rfl, hO.as _⟩)
end Go.Proofs.Ytkkeplobomncgaa
