/- vestibulelaw04: PoolPlays. -/
import Derived.Test.YtkkeplobomncgaaLaw4i
import Derived.Test.YtkkeplobomncgaaOps4
set_option linter.all false
namespace Go.Proofs.Ytkkeplobomncgaa
open Go Go.RowKit Go.Own Go.Dk

theorem Rel.nil : Rel [] (fun _ => List.replicate 512 0) (fun _ => 0) := ⟨List.nodup_nil, fun e he => absurd he List.not_mem_nil, fun _ _ => ⟨rfl, rfl⟩, fun _ => List.length_replicate⟩

set_option maxRecDepth 100000 in
set_option maxHeartbeats 4000000 in
theorem poolPlays (E w : World) (hO : Own E w (oldFr E)) (frames : Int) (sa : Option Addr) (sc : Nat) (L : List OpP) (hL : OpsAt4 E sa L) (hn : L.length ≤ 3518437208883) :
    Calls Try.prog 13 #[.int .i64 frames, .slice sa L.length sc] w fun e w' => e = .returned (.bool true) ∧ Own E w' (oldFr E) := by
  have hn1 : (L.length : Int) ≤ 3518437208883 := by omega
  have HL := Lib.hid hL
  clear hL
  by_cases hbad : frames < 1 ∨ 1024 < frames
  · rcases (show frames < 1 ∨ (¬ frames < 1 ∧ 1024 < frames) by omega) with hb1 | ⟨hb1, hb2⟩
    all_goals (
      have HB := Lib.hid hbad
      clear hbad
      go_enter Try.func13, Try.ntmps13
      go_wp2_with fail
      refine (dNew E _ _ hO).mono ?_; rintro e w1 ⟨d, A, rfl, hA, hO⟩
      go_wp2_with fail
      refine (pNew_bad E _ _ _ A d frames [] hA HB.out hO).mono ?_; rintro e w1 ⟨rfl, rfl⟩
      go_wp2_with fail
      refine (awake4 E _ _ hO).mono ?_; rintro e w1 ⟨rfl, hO⟩
      go_wp2_with fail
      go_ret
      exact ⟨rfl, hO.as _⟩)
  obtain ⟨n, rfl⟩ := Int.eq_ofNat_of_zero_le (show 0 ≤ frames by omega)
  have hf1 : (1 : Int) ≤ n := by omega
  have hf2 : (n : Int) ≤ 1024 := by omega
  clear hbad
  go_enter Try.func13, Try.ntmps13
  go_wp2_with fail
  refine (dNew E _ _ hO).mono ?_; rintro e w1 ⟨d, A, rfl, hA, hO⟩
  go_wp2_with fail
  refine (pNew_ok E _ _ _ A d n [] hA (by omega) (by omega) hO).mono ?_; rintro e w1 ⟨p, P, rfl, hP, hO⟩
  have hS := PoolS.new hP hA
  replace hO := hO.as ((P ++ A) ++ oldFr E)
  generalize P ++ A = A0 at hS hO
  clear hP hA
  go_wp2_with (refine at_box ?_; go_must (refine own_box (v := ?_) hO ?_ ?_ ?_; rotate_left; (· rfl); (· ((conv => lhs; whnf); try exact rfl)); clear hO; (try clear hF); intro g _ hO; (try simp only [Value.cells] at hO); ((try simp only [List.nil_append, List.append_nil] at hO); have hF := Own.cells hO; simp only [cellsOf_append, cellsOf_pt] at hF); simp only [Act.put, List.setIfInBounds_toArray, List.set_cons_zero, List.set_cons_succ]))
  clear hF
  have hG : PgAt g n [] (pt g (.cells #[.int .i64 n, .slice none 0 0, .slice none 0 0, .slice none 0 0] 81 (0, 0))) := by
    refine ⟨none, 0, none, 0, none, 0, [], [], [], Sl.nil _ _, Sl.nil _ _, Sl.nil _ _, ?_⟩
    rw [entsF_nil]
    rfl
  have hO0 := hO.as (A0 ++ (pt g (.cells #[.int .i64 n, .slice none 0 0, .slice none 0 0, .slice none 0 0] 81 (0, 0)) ++ oldFr E))
  clear hO
  go_loopw [8] (fun i wr => ∃ (j : Nat) (es : List Ent) (cont : Nat → List UInt8) (pins : Nat → Nat) (A G : Fr), i = .int .i64 j ∧ j ≤ L.length ∧ PoolS p d n j cont pins A ∧ PgAt g n es G ∧ Rel es cont pins ∧ (∀ k, pins k ≤ j) ∧ Own E wr (A ++ (G ++ oldFr E))) (fun i _ => L.length - (intOf i).toNat)
  case atStart => exact ⟨0, [], _, _, A0, _, rfl, by omega, hS, hG, Rel.nil, fun _ => Nat.le_refl _, hO0⟩
  case round =>
    clear hO0 hS hG
    obtain ⟨j, es, cont, pins, A, G, rfl, hj, hS, hG, hR, hB, hO⟩ := hrel
    by_cases hlt : j < L.length
    · have hj1 : (j : Int) < L.length := by omega
      have hj2 : (0 : Int) ≤ j := by omega
      obtain ⟨ad, rfl, hrow, hts⟩ := HL.out j hlt
      have HRow := Lib.hid hrow
      clear hrow
      have HB := Lib.hid hB
      clear hB
      ((try simp only [List.nil_append, List.append_nil] at hO); have hF := Own.cells hO; simp only [cellsOf_append, cellsOf_pt] at hF)
      go_wp2_with (refine at_load ?_; go_must (refine own_loadC (ad := ad.add (j * 4)) (cs := (L[j]).cells) ?_ (HRow.out.at hO) ?_ ?_ ?_ ?_; (· rfl); (· ((conv => lhs; whnf); try exact rfl)); (· simp; done); (· simp [OpP.cells]; done); simp only [Act.put, List.setIfInBounds_toArray, List.set_cons_zero, List.set_cons_succ]))
      refine (does4 E _ _ _ A G p d g n j j es cont pins (L[j]).k (L[j]).p (L[j]).a (L[j]).t hS hG hR HB.out (by omega) (by omega) (by omega) (by omega) hts hO).mono ?_
      rintro e w1 ⟨rfl, A1, G1, es1, cont1, pins1, hS1, hG1, hR1, hB1, hO⟩
      have HB1 := Lib.hid hB1
      clear hB1
      go_wp2_with fail
      refine (told4 E _ _ _ A1 G1 p d g n (j + 1) es1 cont1 pins1 hS1 hG1 hR1 (by omega) (by omega) hO).mono ?_
      rintro e w1 ⟨rfl, A2, hS2, hO⟩
      go_wp2_with fail
      go_roundw
      case rel => exact ⟨j + 1, es1, cont1, pins1, A2, G1, by go_num, by omega, hS2, hG1, hR1, HB1.out, hO⟩
      case measure => simp [intOf]; omega
    · have hlt' : ¬ (j : Int) < L.length := by omega
      go_wp2_with fail
      refine (awake4 E _ _ hO).mono ?_; rintro e w1 ⟨rfl, hO⟩
      go_wp2_with fail
      go_ret
      exact ⟨rfl, hO.as _⟩
end Go.Proofs.Ytkkeplobomncgaa
