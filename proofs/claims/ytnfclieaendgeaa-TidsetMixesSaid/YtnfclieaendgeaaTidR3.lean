/- The document's sets: fullest, degrades. -/
import Derived.Test.YtnfclieaendgeaaTidR2
set_option linter.all false
namespace Go.Proofs.Ytnfclieaendgeaa
open Go Go.RowKit Go.Own Go.Td

theorem pg_mono {a b : Int} (h : a ≤ b) : pg a ≤ pg b := by unfold pg; omega
theorem cnt_pos {T : List Int} {x : Int} (h : x ∈ T) : 0 < cnt T (pg x) := by
  unfold cnt
  exact List.length_pos_iff.2 (List.ne_nil_of_mem (List.mem_filter.2 ⟨h, by simp⟩))
theorem cnt_le (T : List Int) (p : Int) : cnt T p ≤ T.length := List.length_filter_le _ _

set_option maxRecDepth 100000 in
set_option maxHeartbeats 16000000 in
theorem r14full (E w : World) (X R F : Fr) (a : Option Addr) (cap : Nat) (T W : List Int) (hI : Inv T W) (h0 : T ≠ []) (hS : Sl 3 1 a T.length cap (intV T) F) (hl : T.length ≤ 1048576) (hO : Own E w X) [hp : Pick X F R] :
    Calls Try.prog 65 #[.slice a T.length cap] w fun e w' => ∃ z, e = .returned (.int .i64 z) ∧ Best T z ∧ Own E w' (F ++ R) := by
  replace hO := hO.perm hp.perm
  clear hp
  have hl1 : (T.length : Int) ≤ 1048576 := by omega
  have hN : NumIn E F a T := num_sl hS
  have hpos := List.length_pos_iff.2 h0
  have HPOS := Lib.hid hpos
  have hO1 := hO
  clear hO hpos h0
  generalize hpost : (fun (e : Ending) (w' : World) => ∃ z, e = .returned (.int .i64 z) ∧ Best T z ∧ Own E w' (F ++ R)) = POST
  have HPOST := Lib.hid hpost
  clear hpost
  go_enter Try.func65, Try.ntmps65
  go_wp2_with fail
  go_loopw [3, 4, 5] (fun s3 s4 s5 wr => ∃ (i m : Nat) (z : Int), s5 = .int .i64 i ∧ s4 = .int .i64 m ∧ s3 = .int .i64 z ∧ i ≤ T.length ∧ m ≤ T.length ∧ ((i = 0 ∧ m = 0) ∨ (BestIn T ((T.take i).map pg) z ∧ m = cnt T z)) ∧ Own E wr (F ++ R)) (fun _ _ s5 _ => T.length - (intOf s5).toNat)
  case atStart => exact ⟨0, 0, -1, rfl, rfl, rfl, Nat.zero_le _, Nat.zero_le _, .inl ⟨rfl, rfl⟩, hO1⟩
  case round =>
    clear hO1
    obtain ⟨i, m, z, rfl, rfl, rfl, hi, hm, hz, hO⟩ := hrel
    have HZ := Lib.hid hz
    have hmi : (m : Int) ≤ 1048576 := by omega
    clear hz
    by_cases hil : i < T.length
    · have hi1 : (i : Int) < T.length := by omega
      have hi0 : (0 : Int) ≤ i := by omega
      obtain ⟨ad, rfl, hca⟩ := hN.ex (hO.as F) i hil
      have HSN := Lib.hid (List.take_succ_eq_append_getElem hil : T.take (i + 1) = T.take i ++ [T[i]])
      have hmem : T[i] ∈ T := List.getElem_mem _
      have HPRE := Lib.hid (fun y hy => by
        have h1 := hI.t
        have h2 : T = T.take i ++ T[i] :: T.drop (i + 1) := by rw [← List.drop_eq_getElem_cons hil, List.take_append_drop]
        rw [h2] at h1
        exact (List.pairwise_append.1 h1).2.2 y hy _ (List.mem_cons_self ..) : ∀ y ∈ T.take i, y < T[i])
      generalize T[i] = x at hca HSN hmem HPRE
      have hxb := hI.tb x hmem
      have hpx : pg (max x 0) = pg x := by rw [show max x 0 = x by omega]
      have hpb := pg_b hxb
      have HIL := Lib.hid hil
      have HPOSX := Lib.hid (cnt_pos hmem)
      clear hil hmem
      have hO2 := hO
      clear hO
      go_wp2_with fail
      go_loopw [6, 7] (fun s6 s7 wr => ∃ (k n : Nat), s7 = .int .i64 k ∧ s6 = .int .i64 n ∧ k ≤ T.length ∧ n ≤ k ∧ n = ((T.take k).filter fun t => pg t == pg x).length ∧ Own E wr (F ++ R)) (fun _ s7 _ => T.length - (intOf s7).toNat)
      case atStart => exact ⟨0, 0, rfl, rfl, Nat.zero_le _, Nat.zero_le _, by simp, hO2⟩
      case round =>
        clear hO2
        obtain ⟨k, n, rfl, rfl, hk, hnk, hn, hO⟩ := hrel
        have HN := Lib.hid hn
        have hni : (n : Int) ≤ 1048576 := by omega
        clear hn
        by_cases hkl : k < T.length
        · have hk1 : (k : Int) < T.length := by omega
          have hk0 : (0 : Int) ≤ k := by omega
          obtain ⟨_, hae, hcb⟩ := hN.ex (hO.as F) k hkl
          cases hae
          have HSK := Lib.hid (List.take_succ_eq_append_getElem hkl : T.take (k + 1) = T.take k ++ [T[k]])
          have hmemk : T[k] ∈ T := List.getElem_mem _
          generalize T[k] = y at hcb HSK hmemk
          have hyb := hI.tb y hmemk
          have hpy : pg (max y 0) = pg y := by rw [show max y 0 = y by omega]
          have HKL := Lib.hid hkl
          clear hkl hmemk
          (try (go_wp2_with fail))
          refine region_sch (fun w' => Own E w' (F)) (.look 0 (.look 1 (.look 2 (.look 3 (.look 5 (.look 6 (.look 7 (.look 8 (.act 4 (.act 9 (.look 10 .done))))))))))) (by kernel_rfl) (by kernel_rfl) (fun _ _ d _ _ h => by cases d <;> exact h) ?_ ?_
          · exact hO.drew.as _
          replace hO := hO.drew
          generalize World.drew _ = wdr at hO ⊢
          first | (refine sch_look (o := ?_) (v := ?_) ?_ ?_ ?_ ?_; rotate_left 2; (· ((conv => lhs; whnf); try exact rfl)); (· rfl); (· intro w' hO'; have hc1 := hca w' hO'; have hc2 := hcb w' hO'; go_simp; (try exact rfl)); simp only [Act.put, List.setIfInBounds_toArray, List.set_cons_zero, List.set_cons_succ]) | (refine sch_pass (o := ?_) ?_ ?_ ?_; rotate_left; (· ((conv => lhs; whnf); try exact rfl)); (· rfl); simp only [Act.put, List.setIfInBounds_toArray, List.set_cons_zero, List.set_cons_succ]) | (refine sch_look (o := ?_) (v := .agg ?_) ?_ ?_ ?_ ?_; rotate_left 2; (· ((conv => lhs; whnf); try exact rfl)); (· rfl); (· intro w' hO'; refine run_opLoadS (b := ?_) (cs := ?_) (e := ?_) (f := ?_) hO' ?_ ?_ ?_ ?_; rotate_left 4; (· exact rfl); (· exact inferInstance); (· simp; done); (· simp; done)); simp only [Act.put, List.setIfInBounds_toArray, List.set_cons_zero, List.set_cons_succ])
          first | (refine sch_look (o := ?_) (v := ?_) ?_ ?_ ?_ ?_; rotate_left 2; (· ((conv => lhs; whnf); try exact rfl)); (· rfl); (· intro w' hO'; have hc1 := hca w' hO'; have hc2 := hcb w' hO'; go_simp; (try exact rfl)); simp only [Act.put, List.setIfInBounds_toArray, List.set_cons_zero, List.set_cons_succ]) | (refine sch_pass (o := ?_) ?_ ?_ ?_; rotate_left; (· ((conv => lhs; whnf); try exact rfl)); (· rfl); simp only [Act.put, List.setIfInBounds_toArray, List.set_cons_zero, List.set_cons_succ]) | (refine sch_look (o := ?_) (v := .agg ?_) ?_ ?_ ?_ ?_; rotate_left 2; (· ((conv => lhs; whnf); try exact rfl)); (· rfl); (· intro w' hO'; refine run_opLoadS (b := ?_) (cs := ?_) (e := ?_) (f := ?_) hO' ?_ ?_ ?_ ?_; rotate_left 4; (· exact rfl); (· exact inferInstance); (· simp; done); (· simp; done)); simp only [Act.put, List.setIfInBounds_toArray, List.set_cons_zero, List.set_cons_succ])
          first | (refine sch_look (o := ?_) (v := ?_) ?_ ?_ ?_ ?_; rotate_left 2; (· ((conv => lhs; whnf); try exact rfl)); (· rfl); (· intro w' hO'; have hc1 := hca w' hO'; have hc2 := hcb w' hO'; go_simp; (try exact rfl)); simp only [Act.put, List.setIfInBounds_toArray, List.set_cons_zero, List.set_cons_succ]) | (refine sch_pass (o := ?_) ?_ ?_ ?_; rotate_left; (· ((conv => lhs; whnf); try exact rfl)); (· rfl); simp only [Act.put, List.setIfInBounds_toArray, List.set_cons_zero, List.set_cons_succ]) | (refine sch_look (o := ?_) (v := .agg ?_) ?_ ?_ ?_ ?_; rotate_left 2; (· ((conv => lhs; whnf); try exact rfl)); (· rfl); (· intro w' hO'; refine run_opLoadS (b := ?_) (cs := ?_) (e := ?_) (f := ?_) hO' ?_ ?_ ?_ ?_; rotate_left 4; (· exact rfl); (· exact inferInstance); (· simp; done); (· simp; done)); simp only [Act.put, List.setIfInBounds_toArray, List.set_cons_zero, List.set_cons_succ])
          first | (refine sch_look (o := ?_) (v := ?_) ?_ ?_ ?_ ?_; rotate_left 2; (· ((conv => lhs; whnf); try exact rfl)); (· rfl); (· intro w' hO'; have hc1 := hca w' hO'; have hc2 := hcb w' hO'; go_simp; (try exact rfl)); simp only [Act.put, List.setIfInBounds_toArray, List.set_cons_zero, List.set_cons_succ]) | (refine sch_pass (o := ?_) ?_ ?_ ?_; rotate_left; (· ((conv => lhs; whnf); try exact rfl)); (· rfl); simp only [Act.put, List.setIfInBounds_toArray, List.set_cons_zero, List.set_cons_succ]) | (refine sch_look (o := ?_) (v := .agg ?_) ?_ ?_ ?_ ?_; rotate_left 2; (· ((conv => lhs; whnf); try exact rfl)); (· rfl); (· intro w' hO'; refine run_opLoadS (b := ?_) (cs := ?_) (e := ?_) (f := ?_) hO' ?_ ?_ ?_ ?_; rotate_left 4; (· exact rfl); (· exact inferInstance); (· simp; done); (· simp; done)); simp only [Act.put, List.setIfInBounds_toArray, List.set_cons_zero, List.set_cons_succ])
          first | (refine sch_look (o := ?_) (v := ?_) ?_ ?_ ?_ ?_; rotate_left 2; (· ((conv => lhs; whnf); try exact rfl)); (· rfl); (· intro w' hO'; have hc1 := hca w' hO'; have hc2 := hcb w' hO'; go_simp; (try exact rfl)); simp only [Act.put, List.setIfInBounds_toArray, List.set_cons_zero, List.set_cons_succ]) | (refine sch_pass (o := ?_) ?_ ?_ ?_; rotate_left; (· ((conv => lhs; whnf); try exact rfl)); (· rfl); simp only [Act.put, List.setIfInBounds_toArray, List.set_cons_zero, List.set_cons_succ]) | (refine sch_look (o := ?_) (v := .agg ?_) ?_ ?_ ?_ ?_; rotate_left 2; (· ((conv => lhs; whnf); try exact rfl)); (· rfl); (· intro w' hO'; refine run_opLoadS (b := ?_) (cs := ?_) (e := ?_) (f := ?_) hO' ?_ ?_ ?_ ?_; rotate_left 4; (· exact rfl); (· exact inferInstance); (· simp; done); (· simp; done)); simp only [Act.put, List.setIfInBounds_toArray, List.set_cons_zero, List.set_cons_succ])
          first | (refine sch_look (o := ?_) (v := ?_) ?_ ?_ ?_ ?_; rotate_left 2; (· ((conv => lhs; whnf); try exact rfl)); (· rfl); (· intro w' hO'; have hc1 := hca w' hO'; have hc2 := hcb w' hO'; go_simp; (try exact rfl)); simp only [Act.put, List.setIfInBounds_toArray, List.set_cons_zero, List.set_cons_succ]) | (refine sch_pass (o := ?_) ?_ ?_ ?_; rotate_left; (· ((conv => lhs; whnf); try exact rfl)); (· rfl); simp only [Act.put, List.setIfInBounds_toArray, List.set_cons_zero, List.set_cons_succ]) | (refine sch_look (o := ?_) (v := .agg ?_) ?_ ?_ ?_ ?_; rotate_left 2; (· ((conv => lhs; whnf); try exact rfl)); (· rfl); (· intro w' hO'; refine run_opLoadS (b := ?_) (cs := ?_) (e := ?_) (f := ?_) hO' ?_ ?_ ?_ ?_; rotate_left 4; (· exact rfl); (· exact inferInstance); (· simp; done); (· simp; done)); simp only [Act.put, List.setIfInBounds_toArray, List.set_cons_zero, List.set_cons_succ])
          first | (refine sch_look (o := ?_) (v := ?_) ?_ ?_ ?_ ?_; rotate_left 2; (· ((conv => lhs; whnf); try exact rfl)); (· rfl); (· intro w' hO'; have hc1 := hca w' hO'; have hc2 := hcb w' hO'; go_simp; (try exact rfl)); simp only [Act.put, List.setIfInBounds_toArray, List.set_cons_zero, List.set_cons_succ]) | (refine sch_pass (o := ?_) ?_ ?_ ?_; rotate_left; (· ((conv => lhs; whnf); try exact rfl)); (· rfl); simp only [Act.put, List.setIfInBounds_toArray, List.set_cons_zero, List.set_cons_succ]) | (refine sch_look (o := ?_) (v := .agg ?_) ?_ ?_ ?_ ?_; rotate_left 2; (· ((conv => lhs; whnf); try exact rfl)); (· rfl); (· intro w' hO'; refine run_opLoadS (b := ?_) (cs := ?_) (e := ?_) (f := ?_) hO' ?_ ?_ ?_ ?_; rotate_left 4; (· exact rfl); (· exact inferInstance); (· simp; done); (· simp; done)); simp only [Act.put, List.setIfInBounds_toArray, List.set_cons_zero, List.set_cons_succ])
          first | (refine sch_look (o := ?_) (v := ?_) ?_ ?_ ?_ ?_; rotate_left 2; (· ((conv => lhs; whnf); try exact rfl)); (· rfl); (· intro w' hO'; have hc1 := hca w' hO'; have hc2 := hcb w' hO'; go_simp; (try exact rfl)); simp only [Act.put, List.setIfInBounds_toArray, List.set_cons_zero, List.set_cons_succ]) | (refine sch_pass (o := ?_) ?_ ?_ ?_; rotate_left; (· ((conv => lhs; whnf); try exact rfl)); (· rfl); simp only [Act.put, List.setIfInBounds_toArray, List.set_cons_zero, List.set_cons_succ]) | (refine sch_look (o := ?_) (v := .agg ?_) ?_ ?_ ?_ ?_; rotate_left 2; (· ((conv => lhs; whnf); try exact rfl)); (· rfl); (· intro w' hO'; refine run_opLoadS (b := ?_) (cs := ?_) (e := ?_) (f := ?_) hO' ?_ ?_ ?_ ?_; rotate_left 4; (· exact rfl); (· exact inferInstance); (· simp; done); (· simp; done)); simp only [Act.put, List.setIfInBounds_toArray, List.set_cons_zero, List.set_cons_succ])
          (refine sch_act (o := ?_) ?_ ?_; rotate_left; (· ((conv => lhs; whnf); try exact rfl)))
          go_wp2_with fail
          refine (r7Page _ y (by omega) (by omega)).mono ?_
          rw [hpy]
          rintro e w4 ⟨rfl, rfl⟩
          go_wp2_with fail
          refine ⟨hO.as _, ?_⟩
          (refine sch_act (o := ?_) ?_ ?_; rotate_left; (· ((conv => lhs; whnf); try exact rfl)))
          go_wp2_with fail
          refine (r7Page _ x (by omega) (by omega)).mono ?_
          rw [hpx]
          rintro e w5 ⟨rfl, rfl⟩
          go_wp2_with fail
          refine ⟨hO.as _, ?_⟩
          first | (refine sch_look (o := ?_) (v := ?_) ?_ ?_ ?_ ?_; rotate_left 2; (· ((conv => lhs; whnf); try exact rfl)); (· rfl); (· intro w' hO'; have hc1 := hca w' hO'; have hc2 := hcb w' hO'; go_simp; (try exact rfl)); simp only [Act.put, List.setIfInBounds_toArray, List.set_cons_zero, List.set_cons_succ]) | (refine sch_pass (o := ?_) ?_ ?_ ?_; rotate_left; (· ((conv => lhs; whnf); try exact rfl)); (· rfl); simp only [Act.put, List.setIfInBounds_toArray, List.set_cons_zero, List.set_cons_succ]) | (refine sch_look (o := ?_) (v := .agg ?_) ?_ ?_ ?_ ?_; rotate_left 2; (· ((conv => lhs; whnf); try exact rfl)); (· rfl); (· intro w' hO'; refine run_opLoadS (b := ?_) (cs := ?_) (e := ?_) (f := ?_) hO' ?_ ?_ ?_ ?_; rotate_left 4; (· exact rfl); (· exact inferInstance); (· simp; done); (· simp; done)); simp only [Act.put, List.setIfInBounds_toArray, List.set_cons_zero, List.set_cons_succ])
          refine sch_done ?_
          cases hb : (pg y == pg x)
          · go_wp2_with fail
            go_roundw
            case rel =>
              refine ⟨k + 1, n, by go_num, rfl, HKL.out, by omega, ?_, hO⟩
              rw [HSK.out, List.filter_append, List.filter_cons_of_neg (p := fun t => pg t == pg x) (by rw [hb]; simp), HN.out]
              simp
            case measure => have := HKL.out; simp [intOf]; omega
          · go_wp2_with fail
            go_roundw
            case rel =>
              refine ⟨k + 1, n + 1, by go_num, by go_num, HKL.out, by omega, ?_, hO⟩
              rw [HSK.out, List.filter_append, List.filter_cons_of_pos (p := fun t => pg t == pg x) hb, HN.out]
              simp
            case measure => have := HKL.out; simp [intOf]; omega
        · have hk1 : ¬ (k : Int) < T.length := by omega
          have hnc : n = cnt T (pg x) := by rw [HN.out, List.take_of_length_le (by omega)]; rfl
          have HNC := Lib.hid hnc
          have hcx := hca _ (hO.as F)
          clear HN hnc
          by_cases hgt : m < n
          · have hgt1 : (m : Int) < n := by omega
            have HGT := Lib.hid hgt
            clear hgt
            go_wp2_with fail
            refine (r7Page _ x (by omega) (by omega)).mono ?_
            rw [hpx]
            rintro e w5 ⟨rfl, rfl⟩
            go_wp2_with fail
            go_roundw
            case rel =>
              refine ⟨i + 1, n, pg x, by go_num, rfl, rfl, HIL.out, by omega, .inr ⟨?_, HNC.out⟩, hO⟩
              rw [HSN.out, List.map_append]
              rcases HZ.out with ⟨h1, h2⟩ | ⟨h1, h2⟩
              · rw [h1]
                exact BestIn.one _ _
              · exact h1.more (.inl (by rw [← h2, ← HNC.out]; exact HGT.out))
            case measure => have := HIL.out; simp [intOf]; omega
          · have hgt1 : ¬ (m : Int) < n := by omega
            have HGT := Lib.hid hgt
            clear hgt
            go_wp2_with fail
            go_roundw
            case rel =>
              rcases HZ.out with ⟨h1, h2⟩ | ⟨h1, h2⟩
              · exfalso
                have := HPOSX.out
                have := HNC.out
                have := HGT.out
                omega
              · refine ⟨i + 1, m, z, by go_num, rfl, rfl, HIL.out, hm, .inr ⟨?_, h2⟩, hO⟩
                rw [HSN.out, List.map_append]
                refine h1.stay ?_
                rw [← h2, ← HNC.out]
                have h3 : z ≤ pg x := by
                  obtain ⟨y, hy, rfl⟩ := List.mem_map.1 h1.ex
                  have := HPRE.out y hy
                  exact pg_mono (by omega)
                have := HGT.out
                omega
            case measure => have := HIL.out; simp [intOf]; omega
    · have hi1 : ¬ (i : Int) < T.length := by omega
      have hta : T.take i = T := List.take_of_length_le (by omega)
      go_wp2_with fail
      rw [← HPOST.out]
      refine ⟨z, rfl, ?_, hO⟩
      rcases HZ.out with ⟨h1, h2⟩ | ⟨h1, h2⟩
      · exfalso
        have := HPOS.out
        omega
      · rw [hta] at h1
        refine h1.best fun q => ?_
        rw [List.mem_map]

/-- A set of the document's: its lists lie in blocks of ours. -/
def QAt (most : Nat) (T W : List Int) (v : Value) (F : Fr) : Prop :=
  ∃ ta tc pa pc FT FP, v = .agg #[.int .i64 most, .slice ta T.length tc, .slice pa W.length pc] ∧ Sl 3 1 ta T.length tc (intV T) FT ∧ Sl 3 1 pa W.length pc (intV W) FP ∧ F = FT ++ FP
def DegR (E : World) (R : Fr) (most : Nat) (T W : List Int) (e : Ending) (w' : World) : Prop :=
  ∃ v' T' W' F', e = .returned v' ∧ Deg most T W T' W' ∧ QAt most T' W' v' F' ∧ Own E w' (F' ++ R)
def lenN (w : World) (a : Addr) : Nat := match w.cell? a with | some (.slice _ n _) => n | _ => 0
theorem zeroRS14 (w : World) : (zeroValue 38).run Try.prog w = .ok (.agg #[.int .i64 0, .slice none 0 0, .slice none 0 0]) w := by kernel_rfl
theorem take_filter_len (p : Int → Bool) (T : List Int) (i : Nat) : ((T.take i).filter p).length ≤ T.length :=
  Nat.le_trans (List.length_filter_le _ _) (by rw [List.length_take]; omega)

set_option maxRecDepth 100000 in
set_option maxHeartbeats 16000000 in
theorem r14deg (E w : World) (X R F : Fr) (most : Nat) (T W : List Int) (v : Value) (hI : Inv T W) (hl : T.length ≤ 1048576) (hQ : QAt most T W v F) (hO : Own E w X) [hp : Pick X F R] :
    Calls Try.prog 52 #[v] w (DegR E R most T W) := by
  replace hO := hO.perm hp.perm
  clear hp
  obtain ⟨ta, tc, pa, pc, FT, FP, rfl, hT, hP, rfl⟩ := hQ
  generalize hpost : DegR E R most T W = POST
  have HPOST := Lib.hid hpost
  clear hpost
  go_enter Try.func52, Try.ntmps52
  go_wp2_with (first | (refine at_box ?_; go_must (refine own_box (v := ?_) hO ?_ ?_ ?_; rotate_left; (· rfl); (· ((conv => lhs; whnf); try exact rfl)); clear hO; (try clear hF); intro q _ hO; (try simp only [Value.cells] at hO); ((try simp only [List.nil_append, List.append_nil] at hO); have hF := Own.cells hO; simp only [cellsOf_append, cellsOf_pt] at hF); simp only [Act.put, List.setIfInBounds_toArray, List.set_cons_zero, List.set_cons_succ])) | (refine at_alloc ?_; go_must (refine own_alloc (z := ?_) hO ?_ ?_ ?_; rotate_left; (· rfl); (· exact zeroRS14 _); clear hO; (try clear hF); intro u _ hO; (try simp only [Value.cells] at hO); ((try simp only [List.nil_append, List.append_nil] at hO); have hF := Own.cells hO; simp only [cellsOf_append, cellsOf_pt] at hF); simp only [Act.put, List.setIfInBounds_toArray, List.set_cons_zero, List.set_cons_succ])))
  replace hO := hO.as (pt q (.cells #[.int .i64 most, .slice ta T.length tc, .slice pa W.length pc] 38 (0, 0)) ++ (pt u (.cells #[.int .i64 0, .slice none 0 0, .slice none 0 0] 38 (0, 0)) ++ (FT ++ (FP ++ R))))
  have hO1 := hO
  clear hO hF
  go_loopw [3] (fun _ wr => ∃ (T1 W1 : List Int) (ta pa : Option Addr) (tc pc : Nat) (FT FP : Fr), Inv T1 W1 ∧ T1.length ≤ 1048576 ∧ (∀ T' W', Deg most T1 W1 T' W' → Deg most T W T' W') ∧ Sl 3 1 ta T1.length tc (intV T1) FT ∧ Sl 3 1 pa W1.length pc (intV W1) FP ∧
    Own E wr (pt q (.cells #[.int .i64 most, .slice ta T1.length tc, .slice pa W1.length pc] 38 (0, 0)) ++ (pt u (.cells #[.int .i64 0, .slice none 0 0, .slice none 0 0] 38 (0, 0)) ++ (FT ++ (FP ++ R))))) (fun _ w => lenN w ⟨q, 1, none⟩)
  case atStart => exact ⟨T, W, ta, pa, tc, pc, FT, FP, hI, hl, fun _ _ h => h, hT, hP, hO1⟩
  case round =>
    clear hO1 hT hP hI hl
    obtain ⟨T1, W1, ta, pa, tc, pc, FT, FP, hI, hl, hD, hT, hP, hO⟩ := hrel
    have hTl : (T1.length : Int) ≤ 1048576 := by omega
    have HLEN := Lib.hid (show lenN _ ⟨q, 1, none⟩ = T1.length by
      have hF := Own.cells hO; simp only [cellsOf_append, cellsOf_pt] at hF
      unfold lenN
      rw [hF.1.1 1]
      simp)
    ((try simp only [List.nil_append, List.append_nil] at hO); have hF := Own.cells hO; simp only [cellsOf_append, cellsOf_pt] at hF)
    by_cases hm : most < T1.length
    · have hm1 : (most : Int) < T1.length := by omega
      have HM := Lib.hid hm
      have hne : T1 ≠ [] := fun h => by rw [h] at hm; simp at hm
      have HNE := Lib.hid hne
      clear hm hne
      go_wp2_with fail
      refine (r14full E _ _ _ FT ta tc T1 W1 hI HNE.out hT hl hO).mono ?_
      clear hO hF
      rintro e w2 ⟨z, rfl, hB, hO⟩
      have HB := Lib.hid hB
      have hzb : 0 ≤ z ∧ z < 262144 := by
        obtain ⟨t, ht, rfl⟩ := hB.ex
        exact pg_b (hI.tb t ht)
      clear hB
      replace hO := hO.as (pt q (.cells #[.int .i64 most, .slice ta T1.length tc, .slice pa W1.length pc] 38 (0, 0)) ++ (pt u (.cells #[.int .i64 0, .slice none 0 0, .slice none 0 0] 38 (0, 0)) ++ (FT ++ (FP ++ R))))
      have hO1 := hO
      clear hO
      go_wp2_with fail
      go_loopw [4, 5] (fun s4 s5 wr => ∃ (i : Nat) (rest : List Int) (ra : Option Addr) (rc : Nat) (S : Fr), s5 = .int .i64 i ∧ s4 = .slice ra (List.length rest) rc ∧ i ≤ T1.length ∧ rest = (T1.take i).filter (fun t => pg t != z) ∧ Sl 3 1 ra (List.length rest) rc (intV rest) S ∧
        Own E wr (S ++ (pt q (.cells #[.int .i64 most, .slice ta T1.length tc, .slice pa W1.length pc] 38 (0, 0)) ++ (pt u (.cells #[.int .i64 0, .slice none 0 0, .slice none 0 0] 38 (0, 0)) ++ (FT ++ (FP ++ R)))))) (fun _ s5 _ => T1.length - (intOf s5).toNat)
      case atStart => exact ⟨0, [], none, 0, [], rfl, rfl, Nat.zero_le _, by simp, Sl.nil _ _, hO1.as _⟩
      case round =>
        clear hO1
        obtain ⟨i, rest, ra, rc, S, rfl, rfl, hi, hr, hRest, hO⟩ := hrel
        have hrl : rest.length ≤ T1.length := by rw [hr]; exact take_filter_len _ _ _
        have hrli : (rest.length : Int) ≤ 1048576 := by omega
        have HR := Lib.hid hr
        clear hr
        by_cases hil : i < T1.length
        · have hi1 : (i : Int) < T1.length := by omega
          have hi0 : (0 : Int) ≤ i := by omega
          obtain ⟨sb, rfl⟩ := tsome hT (by omega)
          have hcx := tcell hT (hO.as (FT ++ [])) i hil
          have HCA := Lib.hid (fun (w' : World) (h : Own E w' FT) => tcell hT (h.as (FT ++ [])) i hil)
          have HSN := Lib.hid (List.take_succ_eq_append_getElem hil : T1.take (i + 1) = T1.take i ++ [T1[i]])
          have hmem : T1[i] ∈ T1 := List.getElem_mem _
          generalize T1[i] = x at hcx HSN hmem HCA
          have hxb := hI.tb x hmem
          have hpx : pg (max x 0) = pg x := by rw [show max x 0 = x by omega]
          have HIL := Lib.hid hil
          clear hil hmem
          ((try simp only [List.nil_append, List.append_nil] at hO); have hF := Own.cells hO; simp only [cellsOf_append, cellsOf_pt] at hF)
          cases hb : (pg x != z)
          · go_wp2_with (first | (go_at_call 53; go_must (refine (r7Page _ x (by omega) (by omega)).mono ?_; rw [hpx]; rintro e w5 ⟨rfl, rfl⟩)))
            go_roundw
            case rel =>
              refine ⟨i + 1, rest, ra, rc, S, by go_num, rfl, HIL.out, ?_, hRest, hO⟩
              rw [HSN.out, List.filter_append, List.filter_cons_of_neg (p := fun t => pg t != z) (by rw [hb]; simp), HR.out]
              simp
            case measure => have := HIL.out; simp [intOf]; omega
          · go_wp2_with (first | (go_at_call 53; go_must (refine (r7Page _ x (by omega) (by omega)).mono ?_; rw [hpx]; rintro e w5 ⟨rfl, rfl⟩)) | (refine at_bs ?_; go_must (refine own_build1 (v := ?_) sltInts hO ?_ ?_ ?_ ?_ ?_ ?_; rotate_left; (· rfl); (· ((conv => lhs; whnf); try exact rfl)); (· rfl); (· decide); (· decide); clear hO; (try clear hF); intro bs _ hO; (try simp only [Value.cells] at hO); ((try simp only [List.nil_append, List.append_nil] at hO); have hF := Own.cells hO; simp only [cellsOf_append, cellsOf_pt] at hF); simp only [Act.put, List.setIfInBounds_toArray, List.set_cons_zero, List.set_cons_succ])) | (refine at_append ?_; go_must ((refine own_append_elem (b1 := ?_) (cs := ?_) (e1 := ?_) (f1 := ?_) sltInts hO ?_ ?_ ?_ hRest ?_ ?_ ?_ ?_ ?_ ?_ ?_; rotate_left 4; (· rfl); (· rfl); (· rfl); (· exact inferInstance); (· rfl); (· intro u hu; simp at hu; subst hu; rfl); (· first | omega | (simp only [maxLen]; omega)); (· decide); (· first | omega | (simp only [maxLen]; omega)); clear hO; (try clear hF); intro a2 c2 S2 w3 hS2 hO; ((try simp only [List.nil_append, List.append_nil] at hO); have hF := Own.cells hO; simp only [cellsOf_append, cellsOf_pt] at hF); simp only [Act.put, List.setIfInBounds_toArray, List.set_cons_zero, List.set_cons_succ]))))
            have h5 : rest.length + 1 = (rest ++ [x]).length := by simp
            rw [h5] at hS2 ⊢
            go_roundw
            case rel =>
              refine ⟨i + 1, rest ++ [x], a2, c2, S2, by go_num, rfl, HIL.out, ?_, ?_, hO.as _⟩
              · rw [HSN.out, List.filter_append, List.filter_cons_of_pos (p := fun t => pg t != z) hb, HR.out]
                simp
              · simp only [List.map_append]
                exact hS2
            case measure => have := HIL.out; simp [intOf]; omega
        · have hi1 : ¬ (i : Int) < T1.length := by omega
          have hrf : rest = T1.filter (fun t => pg t != z) := by rw [HR.out, List.take_of_length_le (by omega)]
          have HRF := Lib.hid hrf
          clear HR hrf
          have hwl : W1.length ≤ 1048576 := Nat.le_trans (up_bound hI.w hI.wb) (by decide)
          ((try simp only [List.nil_append, List.append_nil] at hO); have hF := Own.cells hO; simp only [cellsOf_append, cellsOf_pt] at hF)
          go_wp2_with (first | (refine own_store (v := ?_) (off := 1) (b := q) hO ?_ ?_ ?_ ?_ ?_ ?_ ?_; rotate_left; (· rfl); (· ((conv => lhs; whnf); try exact rfl)); (· ((conv => lhs; whnf); try exact rfl)); (· simp [Value.cells]); (· simp [Value.cells, Value.oneCell']); (· simp [Value.cells]); clear hO; (try clear hF); intro _ hO; (try simp only [splice, Value.cells] at hO); ((try simp only [List.nil_append, List.append_nil] at hO); have hF := Own.cells hO; simp only [cellsOf_append, cellsOf_pt] at hF); simp only [Act.put, List.setIfInBounds_toArray, List.set_cons_zero, List.set_cons_succ]) | (go_at_call 51; go_must (refine (r14put E _ _ _ FP pa pc W1 z hP hwl hI.w hO).mono ?_; clear hO hF; rintro e w6 ⟨a3, c3, FP2, rfl, hP2, hO⟩; ((try simp only [List.nil_append, List.append_nil] at hO); have hF := Own.cells hO; simp only [cellsOf_append, cellsOf_pt] at hF))) | (refine own_store (v := ?_) (off := 2) (b := q) hO ?_ ?_ ?_ ?_ ?_ ?_ ?_; rotate_left; (· rfl); (· ((conv => lhs; whnf); try exact rfl)); (· ((conv => lhs; whnf); try exact rfl)); (· simp [Value.cells]); (· simp [Value.cells, Value.oneCell']); (· simp [Value.cells]); clear hO; (try clear hF); intro _ hO; (try simp only [splice, Value.cells] at hO); ((try simp only [List.nil_append, List.append_nil] at hO); have hF := Own.cells hO; simp only [cellsOf_append, cellsOf_pt] at hF); simp only [Act.put, List.setIfInBounds_toArray, List.set_cons_zero, List.set_cons_succ]))
          (try simp only [splice, Value.cells, List.setIfInBounds_toArray, List.set_cons_zero, List.set_cons_succ] at hO)
          have hflt : (T1.filter fun t => pg t != z).length < T1.length := by
            obtain ⟨t, ht, htz⟩ := HB.out.ex
            have h1 := filter_split (fun t => pg t == z) T1
            have h2 : 0 < (T1.filter fun t => pg t == z).length := List.length_pos_iff.2 (List.ne_nil_of_mem (List.mem_filter.2 ⟨ht, by simpa using htz⟩))
            have h3 : (T1.filter fun t => !(pg t == z)) = T1.filter fun t => pg t != z := rfl
            rw [h3] at h1
            omega
          have h9 := HRF.out
          subst h9
          go_roundw
          case rel => exact ⟨T1.filter fun t => pg t != z, ins z W1, ra, a3, rc, c3, S, FP2, hI.step HB.out.ex, by omega, fun T' W' h => hD T' W' (.step HM.out HB.out h), hRest, hP2, hO.as _⟩
          case measure =>
            rw [HLEN.out]
            have hF := Own.cells hO; simp only [cellsOf_append, cellsOf_pt] at hF
            unfold lenN
            rw [hF.1.1 1]
            first | exact hflt | (simp; exact hflt)
    · have hm1 : ¬ (most : Int) < T1.length := by omega
      have HM := Lib.hid hm
      clear hm
      go_wp2_with (first | (refine at_load ?_; refine own_loadS (b := ?_) (cs := ?_) (e := ?_) (f := ?_) hO ?_ ?_ ?_ ?_ ?_ ?_; rotate_left 4; (· rfl); (· rfl); (· exact inferInstance); (· simp; done); (· simp []; done); simp only [Act.put, List.setIfInBounds_toArray, List.set_cons_zero, List.set_cons_succ]) | (refine at_store ?_; refine own_storeS (b := ?_) (cs := ?_) (cs' := ?_) (e := ?_) (R := ?_) hO ?_ ?_ ?_ ?_ ?_ ?_ ?_ ?_; rotate_left 5; (· rfl); (· rfl); (· ((conv => lhs; whnf); try exact rfl)); (· exact inferInstance); (· simp []; done); (· simp [Value.oneCell']); (· simp []; done); clear hO; (try clear hF); intro _ hO; ((try simp only [List.nil_append, List.append_nil] at hO); have hF := Own.cells hO; simp only [cellsOf_append, cellsOf_pt] at hF); simp only [Act.put, List.setIfInBounds_toArray, List.set_cons_zero, List.set_cons_succ]))
      refine bodyPost_ret (results_cell_own (t := 38) (b := _) (cs := _) (e := _) (f := _) rfl hO (by exact rfl) (by exact inferInstance) (by simp) (by simp)) rfl ?_
      rw [← HPOST.out]
      exact ⟨_, T1, W1, _, rfl, hD _ _ (.done (by have := HM.out; omega)), ⟨ta, tc, pa, pc, FT, FP, rfl, hT, hP, rfl⟩, hO.as _⟩
end Go.Proofs.Ytnfclieaendgeaa
