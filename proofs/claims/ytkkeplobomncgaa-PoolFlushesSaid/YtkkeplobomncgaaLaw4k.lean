/- vestibulelaw04: PoolFlushes. -/
import Derived.Test.YtkkeplobomncgaaLaw4j
set_option linter.all false
namespace Go.Proofs.Ytkkeplobomncgaa
open Go Go.RowKit Go.Own Go.Dk

/-- What another pool on the flushed disk starts with. -/
theorem PInv.fresh {most : Nat} {fs : List Frm} {l : List (Int × Value)} {F : List UInt8} {cont : Nat → List UInt8} {pins : Nat → Nat} (h : PInv most fs l F cont pins) (hc : ∀ f ∈ fs, f.changed = false) : PInv 2 [] [] F (fun k => if k < 4096 then cont k else pgOf F k) (fun _ => 0) :=
  ⟨Nat.zero_le _, .refl _, List.nodup_nil, fun f hf => absurd hf List.not_mem_nil, fun _ _ => rfl, fun k hk _ => by
    rw [if_pos hk]
    exact h.disk k hk (fun f hf _ => hc f hf), fun k => by
    split
    · exact h.clen k
    · exact pgOf_length _ _⟩

set_option maxRecDepth 100000 in
set_option maxHeartbeats 4000000 in
theorem poolFlushes (E w : World) (hO : Own E w (oldFr E)) (frames : Int) (sa : Option Addr) (sc : Nat) (L : List OpP) (hL : OpsAt4 E sa L) (hn : L.length ≤ 3518437208883) :
    Calls Try.prog 12 #[.int .i64 frames, .slice sa L.length sc] w fun e w' => e = .returned (.bool true) ∧ Own E w' (oldFr E) := by
  have hn1 : (L.length : Int) ≤ 3518437208883 := by omega
  have HL := Lib.hid hL
  clear hL
  by_cases hbad : frames < 1 ∨ 1024 < frames
  · rcases (show frames < 1 ∨ (¬ frames < 1 ∧ 1024 < frames) by omega) with hb1 | ⟨hb1, hb2⟩
    all_goals (
      have HB := Lib.hid hbad
      clear hbad
      go_enter Try.func12, Try.ntmps12
      go_wp2_with fail
      refine (dNew E _ _ hO).mono ?_; rintro e w1 ⟨d, A, rfl, hA, hO⟩
      go_wp2_with fail
      refine (pNew_bad E _ _ _ A d frames [] hA HB.out hO).mono ?_; rintro e w1 ⟨rfl, rfl⟩
      go_wp2_with fail
      refine (awake4 E _ _ hO).mono ?_; rintro e w1 ⟨rfl, hO⟩
      go_wp2_with fail
      go_ret
      exact ⟨rfl, hO.as _⟩)
  obtain ⟨n, rfl⟩ := Int.eq_ofNat_of_zero_le (show 0 ≤ frames by omega)
  have hf1 : (1 : Int) ≤ n := by omega
  have hf2 : (n : Int) ≤ 1024 := by omega
  clear hbad
  go_enter Try.func12, Try.ntmps12
  go_wp2_with fail
  refine (dNew E _ _ hO).mono ?_; rintro e w1 ⟨d, A, rfl, hA, hO⟩
  go_wp2_with fail
  refine (pNew_ok E _ _ _ A d n [] hA (by omega) (by omega) hO).mono ?_; rintro e w1 ⟨p, P, rfl, hP, hO⟩
  have hS := PoolS.new hP hA
  replace hO := hO.as ((P ++ A) ++ oldFr E)
  generalize P ++ A = A0 at hS hO
  clear hP hA
  go_wp2_with (refine at_box ?_; go_must (refine own_box (v := ?_) hO ?_ ?_ ?_; rotate_left; (· rfl); (· ((conv => lhs; whnf); try exact rfl)); clear hO; (try clear hF); intro g _ hO; (try simp only [Value.cells] at hO); ((try simp only [List.nil_append, List.append_nil] at hO); have hF := Own.cells hO; simp only [cellsOf_append, cellsOf_pt] at hF); simp only [Act.put, List.setIfInBounds_toArray, List.set_cons_zero, List.set_cons_succ]))
  clear hF
  have hG : PgAt g n [] (pt g (.cells #[.int .i64 n, .slice none 0 0, .slice none 0 0, .slice none 0 0] 81 (0, 0))) := by
    refine ⟨none, 0, none, 0, none, 0, [], [], [], Sl.nil _ _, Sl.nil _ _, Sl.nil _ _, ?_⟩
    rw [entsF_nil]
    rfl
  have hO0 := hO.as (A0 ++ (pt g (.cells #[.int .i64 n, .slice none 0 0, .slice none 0 0, .slice none 0 0] 81 (0, 0)) ++ oldFr E))
  clear hO
  go_loopw [9] (fun i wr => ∃ (j : Nat) (es : List Ent) (cont : Nat → List UInt8) (pins : Nat → Nat) (A G : Fr), i = .int .i64 j ∧ j ≤ L.length ∧ PoolS p d n j cont pins A ∧ PgAt g n es G ∧ Rel es cont pins ∧ (∀ k, pins k ≤ j) ∧ Own E wr (A ++ (G ++ oldFr E))) (fun i _ => L.length - (intOf i).toNat)
  case atStart => exact ⟨0, [], _, _, A0, _, rfl, by omega, hS, hG, Rel.nil, fun _ => Nat.le_refl _, hO0⟩
  case round =>
    clear hO0 hS hG
    obtain ⟨j, es, cont, pins, A, G, rfl, hj, hS, hG, hR, hB, hO⟩ := hrel
    by_cases hlt : j < L.length
    · have hj1 : (j : Int) < L.length := by omega
      have hj2 : (0 : Int) ≤ j := by omega
      obtain ⟨ad, rfl, hrow, hts⟩ := HL.out j hlt
      have HRow := Lib.hid hrow
      clear hrow
      have HB := Lib.hid hB
      clear hB
      ((try simp only [List.nil_append, List.append_nil] at hO); have hF := Own.cells hO; simp only [cellsOf_append, cellsOf_pt] at hF)
      go_wp2_with (refine at_load ?_; go_must (refine own_loadC (ad := ad.add (j * 4)) (cs := (L[j]).cells) ?_ (HRow.out.at hO) ?_ ?_ ?_ ?_; (· rfl); (· ((conv => lhs; whnf); try exact rfl)); (· simp; done); (· simp [OpP.cells]; done); simp only [Act.put, List.setIfInBounds_toArray, List.set_cons_zero, List.set_cons_succ]))
      refine (does4 E _ _ _ A G p d g n j j es cont pins (L[j]).k (L[j]).p (L[j]).a (L[j]).t hS hG hR HB.out (by omega) (by omega) (by omega) (by omega) hts hO).mono ?_
      rintro e w1 ⟨rfl, A1, G1, es1, cont1, pins1, hS1, hG1, hR1, hB1, hO⟩
      have HB1 := Lib.hid hB1
      clear hB1
      go_wp2_with fail
      go_roundw
      case rel => exact ⟨j + 1, es1, cont1, pins1, A1, G1, by go_num, by omega, hS1, hG1, hR1, HB1.out, hO⟩
      case measure => simp [intOf]; omega
    · have hlt' : ¬ (j : Int) < L.length := by omega
      clear hB hlt
      go_wp2_with fail
      obtain ⟨hand, fs, l, rs, P, D, hP, hI, hD, hh, hN, rfl⟩ := hS
      refine (pNew_ok E _ _ _ D d 2 rs hD (by decide) (by decide) hO).mono ?_; rintro e w1 ⟨q, Y, rfl, hY, hO⟩
      go_wp2_with fail
      have hS2 : PoolS p d n j cont pins (P ++ D) := ⟨hand, fs, l, rs, P, D, hP, hI, hD, hh, hN, rfl⟩
      replace hO := hO.as ((P ++ D) ++ (Y ++ (G ++ oldFr E)))
      refine (pFlush E _ _ _ (P ++ D) p d n j cont pins hS2 (by omega) (by omega) (by omega) hO).mono ?_
      rintro e w2 ⟨rfl, hand2, fs2, l2, rs2, P2, D2, hP2, hI2, hD2, hh2, hN2, hcl, hO⟩
      have hI3 := PInv.fresh hI2 hcl
      have hSY : PoolS q d 2 j (fun k => if k < 4096 then cont k else pgOf (play rs2 1) k) (fun _ => 0) (Y ++ D2) := ⟨0, [], [], rs2, Y, D2, hY, hI3, hD2, .inr rfl, by simp [chg]; omega, rfl⟩
      have hce : ∀ k, k < 4096 → (fun k => if k < 4096 then cont k else pgOf (play rs2 1) k) k = cont k := fun k hk => if_pos hk
      generalize (fun k => if k < 4096 then cont k else pgOf (play rs2 1) k) = cont2 at hSY hce
      have HCE := Lib.hid hce
      replace hO := hO.as ((Y ++ D2) ++ (G ++ oldFr E))
      generalize Y ++ D2 = A2 at hSY hO
      clear hI hI2 hI3 hD hD2 hP hP2 hS2 hh hh2 hN hN2 hcl hY hce
      go_wp2_with fail
      have hlen := hR.len
      obtain ⟨a1, c1, a2, c2, a3, c3, S1, S2, S3, h1, h2, h3, rfl⟩ := hG
      have hO1 := hO
      clear hO
      go_loopw [12] (fun i wr => ∃ (j' : Nat) (A : Fr), i = .int .i64 j' ∧ j' ≤ es.length ∧ PoolS q d 2 j cont2 (fun _ => 0) A ∧ Own E wr (A ++ ((pt g (.cells #[.int .i64 n, .slice a1 es.length c1, .slice a2 es.length c2, .slice a3 es.length c3] 81 (0, 0)) ++ (S1 ++ (S2 ++ (S3 ++ entsF es)))) ++ oldFr E))) (fun i _ => es.length - (intOf i).toNat)
      case atStart => exact ⟨0, A2, rfl, by omega, hSY, hO1⟩
      case round =>
        clear hO1 hSY
        obtain ⟨m, A, rfl, hm, hSY, hO⟩ := hrel
        by_cases hlt : m < es.length
        · obtain ⟨pre, e, post, rfl, hpre⟩ := esplit es m hlt
          obtain ⟨s1, rfl⟩ := sl_some4 h1 (by omega)
          obtain ⟨s2, rfl⟩ := sl_some4 h2 (by omega)
          obtain ⟨r1, rfl⟩ := sl_open h1
          obtain ⟨r2, rfl⟩ := sl_open h2
          have hrow1 : ((pre ++ e :: post).map ePage ++ r1).toArray[m]? = some (.int .i64 e.page) := by rw [← hpre]; exact row_at ePage pre post e r1
          have hrow2 : ((pre ++ e :: post).map entB ++ r2).toArray[m]? = some (.slice (some ⟨e.bb, 0, none⟩) 512 512) := by rw [← hpre]; exact row_at entB pre post e r2
          have hpgl := (hR.ent e (by simp)).1
          have heb := (hR.ent e (by simp)).2.1
          have hbl : e.bytes.length = 512 := by rw [heb]; exact hR.clen _
          rw [← HCE.out e.page hpgl] at heb
          have hO1 := hO
          rw [entsF_app, entsF_cons] at hO1
          unfold entF at hO1
          clear hO
          generalize hg1 : ((pre ++ e :: post).map ePage ++ r1).toArray = row1 at hrow1 hO1
          generalize hg2 : ((pre ++ e :: post).map entB ++ r2).toArray = row2 at hrow2 hO1
          have hj1 : (m : Int) < (pre ++ e :: post).length := by omega
          have hj0 : (0 : Int) ≤ m := by omega
          replace hO1 := hO1.as (A ++ (pt g (.cells #[.int .i64 n, .slice (some ⟨s1, 0, none⟩) (pre ++ e :: post).length c1, .slice (some ⟨s2, 0, none⟩) (pre ++ e :: post).length c2, .slice a3 (pre ++ e :: post).length c3] 81 (0, 0)) ++ (pt s1 (.cells row1 3 (0, 0)) ++ (pt s2 (.cells row2 25 (0, 0)) ++ (S3 ++ (entsF pre ++ (pt e.bb (.cells (bytesV e.bytes).toArray 5 (0, 0)) ++ (entsF post ++ oldFr E))))))))
          generalize hln : (pre ++ e :: post).length = ln at hO1 hj1
          have HLT := Lib.hid hlt
          have HEB := Lib.hid heb
          clear hlt heb
          have hO := hO1
          clear hO1
          ((try simp only [List.nil_append, List.append_nil] at hO); have hF := Own.cells hO; simp only [cellsOf_append, cellsOf_pt] at hF)
          go_wp2_with fail
          refine (pPin E _ _ _ A q d 2 j cont2 _ e.page hSY (by decide) (by decide) (by omega) hpgl (by decide) hO).mono ?_
          rintro x w3 (⟨rfl, A3, hS3, hO⟩ | ⟨_, _, ⟨Q, _, hQl, hQp⟩, _⟩)
          case inr =>
            cases Q with
            | nil => simp at hQl
            | cons k Q => exact absurd (hQp k (by simp)) (by simp)
          clear hF
          ((try simp only [List.nil_append, List.append_nil] at hO); have hF := Own.cells hO; simp only [cellsOf_append, cellsOf_pt] at hF)
          go_wp2_with fail
          refine (pRead_yes E _ _ _ A3 q d 2 j cont2 _ e.page hS3 (by decide) (by rw [upd_same]; omega) hO).mono ?_; rw [← HEB.out]; rintro x w4 ⟨rfl, rfl⟩
          go_wp2_with (first | (refine at_conv ?_; go_must (refine own_bytes_str (e := 5) (ad := some ⟨e.bb, 0, none⟩) (n := 512) (cap := 512) (l := e.bytes) (by kernel_rfl) (by kernel_rfl) (by kernel_rfl) ?_ ?_ ?_ ?_ ?_ ?_; (· rfl); (· rfl); (· exact hbl); (· intro b hb j v hj; cases hb; rw [add_lit, hO.cell (b := e.bb)]; simpa using hj); (· intro h; cases h); simp only [Act.put, List.setIfInBounds_toArray, List.set_cons_zero, List.set_cons_succ])))
          refine (pUnpin_yes E _ _ _ A3 q d 2 j cont2 _ e.page hS3 (by decide) (by rw [upd_same]; omega) (by rw [upd_same]; omega) hO).mono ?_; rintro x w5 ⟨rfl, A4, hS4, hO⟩
          rw [pin_unpin (fun _ => 0)] at hS4
          go_wp2_with fail
          go_roundw
          case rel =>
            refine ⟨m + 1, A4, by go_num, by have := HLT.out; omega, hS4, ?_⟩
            rw [entsF_app, entsF_cons]
            unfold entF
            exact hO.as _
          case measure => simp [intOf]; have := HLT.out; omega
        · have hj1 : ¬ (m : Int) < es.length := by omega
          ((try simp only [List.nil_append, List.append_nil] at hO); have hF := Own.cells hO; simp only [cellsOf_append, cellsOf_pt] at hF)
          go_wp2_with fail
          refine (awake4 E _ _ hO).mono ?_; rintro e w1 ⟨rfl, hO⟩
          go_wp2_with fail
          go_ret
          exact ⟨rfl, hO.as _⟩
end Go.Proofs.Ytkkeplobomncgaa
