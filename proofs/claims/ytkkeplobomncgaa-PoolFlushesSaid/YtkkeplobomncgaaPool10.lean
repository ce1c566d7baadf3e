/- The pool's contracts: Flush. -/
import Derived.Test.YtkkeplobomncgaaPool9
set_option linter.all false
namespace Go.Proofs.Ytkkeplobomncgaa
open Go Go.RowKit Go.Own Go.Dk

def FlushPost (E : World) (p d most N : Nat) (cont : Nat → List UInt8) (pins : Nat → Nat) (R : Fr) (e : Ending) (w' : World) : Prop :=
  e = .returned (.int .i64 0) ∧ ∃ hand fs l rs P D, PoolP p d most hand fs l P ∧ PInv most fs l (play rs 1) cont pins ∧ DiskAt d rs D ∧ (hand < fs.length ∨ hand = 0) ∧ rs.length + chg fs ≤ N ∧ (∀ f ∈ fs, f.changed = false) ∧ Own E w' (P ++ (D ++ R))
theorem wrR_len (rs : List Raw) (pre post : List Frm) (f : Frm) : (wrR rs f).length + chg (pre ++ { f with changed := false } :: post) = rs.length + chg (pre ++ f :: post) := by
  unfold wrR
  rw [chg_app, chg_cons, chg_app, chg_cons]
  cases hc : f.changed <;> simp
  omega

set_option maxRecDepth 100000 in
set_option maxHeartbeats 4000000 in
theorem pFlush (E w : World) (X R A : Fr) (p d most N : Nat) (cont : Nat → List UInt8) (pins : Nat → Nat) (hS : PoolS p d most N cont pins A) (hm : 0 < most) (hm2 : most ≤ 1024) (hNN : N ≤ 8796093022208) (hO : Own E w X) [hp : Pick X A R] :
    Calls Try.prog 42 #[.pointer (some ⟨p, 0, none⟩)] w (FlushPost E p d most N cont pins R) := by
  obtain ⟨hand, fs, l, rs, P, D, hP, hI, hD, hh, hN, rfl⟩ := hS
  replace hO := hO.perm hp.perm
  clear hp
  have hll : l.length = fs.length := by rw [hI.perm.length_eq, List.length_map]
  have hfl := hI.len
  go_enter Try.func42, Try.ntmps42
  go_wp2_with fail
  refine (pGiven E _ _ _ P p d most hand _ l hP hm hO).mono ?_; rintro e w1 ⟨rfl, rfl⟩
  go_wp2_with fail
  refine (pHeld E _ _ _ P p d most hand fs l hP (by omega) hm hO).mono ?_; rintro e w1 ⟨sa, cap, hs, S, P1, rfl, hperm, hrise, hS, hP1, hO⟩
  have hsl : hs.length = fs.length := by rw [hperm.length_eq, List.length_map, hll]
  have hsi : (hs.length : Int) ≤ 1024 := by omega
  have hin : ∀ k ∈ hs, ∃ f ∈ fs, (f.page : Int) = k := by
    intro k hk
    obtain ⟨q, hq, rfl⟩ := List.mem_map.1 (hperm.mem_iff.1 hk)
    obtain ⟨f, hf, rfl⟩ := List.mem_map.1 (hI.perm.mem_iff.1 hq)
    exact ⟨f, hf, rfl⟩
  have hin2 : ∀ f ∈ fs, (f.page : Int) ∈ hs := by
    intro f hf
    refine hperm.mem_iff.2 (List.mem_map.2 ⟨pairV f, hI.perm.mem_iff.2 (List.mem_map.2 ⟨f, hf, rfl⟩), rfl⟩)
  have HIN := Lib.hid hin
  have HIN2 := Lib.hid hin2
  have hO1 := hO
  clear hin hin2 hO hrise
  go_wp2_with fail
  go_loopw [11] (fun i wr => ∃ (j : Nat) (gs : List Frm) (rs : List Raw) (P D : Fr), i = .int .i64 j ∧ j ≤ hs.length ∧ PoolP p d most hand gs l P ∧ PInv most gs l (play rs 1) cont pins ∧ DiskAt d rs D ∧ rs.length + chg gs ≤ N ∧ gs.map (·.page) = fs.map (·.page) ∧
      (∀ f ∈ gs, (f.page : Int) ∈ hs.take j → f.changed = false) ∧ Own E wr (P ++ (D ++ (S ++ R)))) (fun i _ => hs.length - (intOf i).toNat)
  case atStart => exact ⟨0, fs, rs, P1, D, rfl, by omega, hP1, hI, hD, hN, rfl, fun f _ h => by simp at h, hO1.as _⟩
  case round =>
    clear hO1 hP hP1 hD hI hN
    obtain ⟨j, gs, rs, P, D, rfl, hj, hP, hI, hD, hN, hpgs, hdone, hO⟩ := hrel
    by_cases hlt : j < hs.length
    · have hj1 : (j : Int) < hs.length := by omega
      have hj2 : (0 : Int) ≤ j := by omega
      obtain ⟨sb, rfl⟩ := sl_some4 hS (by omega)
      have hcell : wr.cell? ⟨sb, j, none⟩ = some (.int .i64 hs[j]) := by
        have := hS.cell hO ⟨sb, 0, none⟩ rfl j (by simpa using hlt)
        rw [add_lit, Nat.zero_add] at this
        rw [this]
        simp
      obtain ⟨f0, hf0, hf1⟩ := HIN.out hs[j] (List.getElem_mem _)
      have hgm : f0.page ∈ gs.map (·.page) := by rw [hpgs]; exact List.mem_map.2 ⟨f0, hf0, rfl⟩
      obtain ⟨f, hf, hfp⟩ := List.mem_map.1 hgm
      have hfk : (f.page : Int) = hs[j] := by rw [hfp, hf1]
      obtain ⟨pre, post, rfl⟩ := List.append_of_mem hf
      have hl := hI.look_in (f := f) (by simp)
      rw [hfk] at hl
      unfold ptrV at hl
      have hfb := (hI.pg f (by simp)).2.1
      have hfl : f.bytes.length = 512 := by rw [hfb]; exact hI.clen _
      have hpl := (hI.pg f (by simp)).1
      have HD := Lib.hid hdone
      have HK := Lib.hid hfk
      have HPG := Lib.hid hpgs
      clear hfb hf0 hf1 hgm hf hfp hfk hdone hpgs
      generalize hk : hs[j] = k at hcell hl HK
      have hP0 := hP
      obtain ⟨la, lc, mb, S1, M, hSS, hM, rfl⟩ := hP
      ((try simp only [List.nil_append, List.append_nil] at hO); have hF := Own.cells hO; simp only [cellsOf_append, cellsOf_pt] at hF)
      go_wp2_with (refine at_lookup ?_; go_must (refine own_lookup (kt := 3) (et := 103) (b := mb) (k := k) (l := l) (by kernel_rfl) (by kernel_rfl) zeroFP hO hM ?_ ?_ ?_ ?_; (· rfl); (· rfl); (· rfl); rw [hl]; simp only [Act.put, List.setIfInBounds_toArray, List.set_cons_zero, List.set_cons_succ]))
      refine (pWr E _ _ _ _ D p d most hand pre post f l rs hP0 hD hfl hpl (by omega) hO).mono ?_; rintro e w1 ⟨rfl, P2, D2, hP2, hD2, hO⟩
      go_wp2_with fail
      go_roundw
      case rel =>
        have hne := nodup_mid hI.nodup
        refine ⟨j + 1, pre ++ { f with changed := false } :: post, wrR rs f, P2, D2, by go_num, by omega, hP2, hI.wr rs rfl, hD2, by rw [wrR_len]; exact hN, ?_, ?_, hO.as _⟩
        · rw [← HPG.out]
          simp
        · intro g hg hgt
          have hg' : g = { f with changed := false } ∨ g ∈ pre ++ post := by
            simp at hg ⊢
            rcases hg with h | h | h <;> simp [h]
          rcases hg' with rfl | hg'
          · rfl
          · rw [List.take_succ_eq_append_getElem hlt, hk] at hgt
            rcases List.mem_append.1 hgt with h | h
            · refine HD.out g ?_ h
              simp at hg' ⊢
              rcases hg' with h | h <;> simp [h]
            · have h1 := List.mem_singleton.1 h
              rw [← HK.out] at h1
              exact absurd (Int.ofNat.inj h1) (hne g hg')
      case measure => simp [intOf]; omega
    · have hlt' : ¬ (j : Int) < hs.length := by omega
      go_wp2_with fail
      go_ret
      refine ⟨rfl, hand, gs, l, rs, P, D, hP, hI, hD, ?_, hN, ?_, hO.as _⟩
      · have := congrArg List.length hpgs
        simp only [List.length_map] at this
        rw [this]
        exact hh
      · intro f hf
        refine hdone f hf ?_
        rw [List.take_of_length_le (by omega)]
        have : f.page ∈ fs.map (·.page) := by rw [← hpgs]; exact List.mem_map.2 ⟨f, hf, rfl⟩
        obtain ⟨g, hg, e⟩ := List.mem_map.1 this
        rw [← e]
        exact HIN2.out g hg
end Go.Proofs.Ytkkeplobomncgaa
