/- vestibulelaw02: DiskPlays. -/
import Derived.Test.YtkkeplobomncgaaLaw2c
import Derived.Test.YtkkeplobomncgaaArgs
set_option linter.all false
namespace Go.Proofs.Ytkkeplobomncgaa
open Go Go.RowKit Go.Own Go.Dk

structure OpT where
  k : Int
  f : Int
  a : Int
  t : ByteArray
def OpT.cells (o : OpT) : List Value := [.int .i64 o.k, .int .i64 o.f, .int .i64 o.a, .string o.t]
instance : Inhabited OpT := ⟨⟨0, 0, 0, .empty⟩⟩
/-- The slice of operations (sa, sn) as it came in. -/
def OpsAt (E : World) (sa : Option Addr) (L : List OpT) : Prop :=
  ∀ i (h : i < L.length), ∃ ad, sa = some ad ∧ RowAt E (ad.add (i * 4)) (L[i]).cells ∧ (L[i]).t.size ≤ maxLen

theorem st_len (rs : List Raw) (k f a : Int) (t : ByteArray) : (st rs k f a t).1.length ≤ rs.length + 1 := by
  unfold st tr wr
  repeat' split
  all_goals simp

theorem DP_same {E w' : World} {rs : List Raw} {k f a : Int} {t : ByteArray} {d : Nat} {I R : Fr} {e : Ending} (h : DP E rs rs k f a t d I R e w') :
    ∃ fa fc I' A', e = .returned (.tuple #[.agg (rcells (fileVs fa (play (st rs k f a t).1) fc) (.int .i64 (st rs k f a t).1.length)), .bool true]) ∧ (∀ j, j < 4 → Rd (fa j) (play (st rs k f a t).1 j) (fc j) (I' ++ I)) ∧
      DiskAt d (st rs k f a t).1 A' ∧ Own E w' (A' ++ (I' ++ (I ++ R))) := by
  obtain ⟨q', I', A', rfl, ⟨fa, fc, rfl, hr⟩, hA, hO⟩ := h
  exact ⟨fa, fc, I', A', by simp, hr, hA, hO⟩

set_option maxRecDepth 100000 in
set_option maxHeartbeats 4000000 in
theorem diskPlays (E w : World) (hO : Own E w (oldFr E)) (sa : Option Addr) (sc : Nat) (L : List OpT) (hL : OpsAt E sa L) (hn : L.length ≤ 3518437208883) (at_ n : Int) :
    Calls Try.prog 3 #[.slice sa L.length sc, .int .i64 at_, .int .i64 n] w fun e w' => e = .returned (.bool true) ∧ Own E w' (oldFr E) := by
  have hz := zeroRef
  have hn1 : (L.length : Int) ≤ 3518437208883 := by omega
  have HL := Lib.hid hL
  clear hL
  go_enter Try.func3, Try.ntmps3
  go_wp2_with (first | (refine at_alloc ?_; go_must (refine own_alloc (z := ?_) hO ?_ ?_ ?_; rotate_left; (· rfl); (· exact hz _); clear hO; (try clear hF); intro b8 _ hO; (try simp only [Value.cells] at hO); ((try simp only [List.nil_append, List.append_nil] at hO); have hF := Own.cells hO; simp only [cellsOf_append, cellsOf_pt] at hF); simp only [Act.put, List.setIfInBounds_toArray, List.set_cons_zero, List.set_cons_succ])) | (go_at_call 15; refine (dNew E _ _ hO).mono ?_; rintro e w1 ⟨d, A, rfl, hA, hO⟩) | (refine at_store ?_; refine own_storeS (b := ?_) (cs := ?_) (cs' := ?_) (e := ?_) (R := ?_) hO ?_ ?_ ?_ ?_ ?_ ?_ ?_ ?_; rotate_left 5; (· rfl); (· rfl); (· ((conv => lhs; whnf); try exact rfl)); (· exact inferInstance); (· simp [rcells]; done); (· refine rcells_one _ _ ?_ rfl; intro i; rfl); (· simp [rcells]; done); clear hO; (try clear hF); intro _ hO; ((try simp only [List.nil_append, List.append_nil] at hO); have hF := Own.cells hO; simp only [cellsOf_append, cellsOf_pt] at hF); simp only [Act.put, List.setIfInBounds_toArray, List.set_cons_zero, List.set_cons_succ]))
  clear hF
  have hO0 := hO
  clear hO
  go_loopw [9] (fun i wr => ∃ (j : Nat) (rs : List Raw) (fa : Nat → Option Addr) (fc : Nat → Nat) (A I : Fr), i = .int .i64 j ∧ j ≤ L.length ∧ rs.length ≤ j ∧ DiskAt d rs A ∧ (∀ k, k < 4 → Rd (fa k) (play rs k) (fc k) I) ∧
      Own E wr (pt b8 (.cells (rcells (fileVs fa (play rs) fc) (.int .i64 rs.length)) 28) ++ (A ++ (I ++ oldFr E)))) (fun i _ => L.length - (intOf i).toNat)
  case atStart => exact ⟨0, [], fun _ => none, fun _ => 0, A, [], rfl, by omega, by simp, hA, fun k _ => Rd.nil _, hO0⟩
  case round =>
    clear hO0 hA
    obtain ⟨j, rs, fa, fc, A, I, rfl, hj, hrs, hA, hr, hO⟩ := hrel
    have HR := Lib.hid hr
    clear hr
    by_cases hlt : j < L.length
    · have hj1 : (j : Int) < L.length := by omega
      have hj2 : (0 : Int) ≤ j := by omega
      obtain ⟨ad, rfl, hrow, hts⟩ := HL.out j hlt
      have HRow := Lib.hid hrow
      clear hrow
      by_cases hs : smallB (L[j]).a (L[j]).t = true
      · ((try simp only [List.nil_append, List.append_nil] at hO); have hF := Own.cells hO; simp only [cellsOf_append, cellsOf_pt] at hF)
        go_wp2_with (first | (refine at_load ?_; go_must (refine own_loadC (ad := ad.add (j * 4)) (cs := (L[j]).cells) ?_ (HRow.out.at hO) ?_ ?_ ?_ ?_; (· rfl); (· ((conv => lhs; whnf); try exact rfl)); (· simp; done); (· simp [OpT.cells]; done); simp only [Act.put, List.setIfInBounds_toArray, List.set_cons_zero, List.set_cons_succ])) | (go_at_call 16; go_must (refine (small2 E _ _ (L[j]).k (L[j]).f (L[j]).a (L[j]).t hO).mono ?_; rintro e w1 ⟨rfl, hO⟩; rw [hs]; ((try simp only [List.nil_append, List.append_nil] at hO); have hF := Own.cells hO; simp only [cellsOf_append, cellsOf_pt] at hF))))
        have hOl : Own E _ (pt b8 (.cells (rcells (fileVs fa (play rs) fc) (.int .i64 rs.length)) 28) ++ (oldFr E ++ (A ++ I))) := hO.as _
        clear hO hF
        have hO := hOl
        clear hOl
        refine region_sch (fun w' => Own E w' (pt b8 (.cells (rcells (fileVs fa (play rs) fc) (.int .i64 rs.length)) 28) ++ oldFr E)) (.look 0 (.look 1 (.look 2 (.look 3 (.look 4 (.look 5 (.two 6 (.look 7 (.look 8 (.look 9 (.act 10 (.act 11 (.look 12 .done)))))) 10 (.act 6 (.look 7 (.look 8 (.look 9 (.act 11 (.look 12 .done))))))))))))) (by kernel_rfl) (by kernel_rfl) (fun _ _ d _ _ h => by cases d <;> exact h) ?_ ?_
        · exact hO.drew.as _
        replace hO := hO.drew
        generalize World.drew _ = w2 at hO ⊢
        (refine sch_look (o := ?_) (v := ?_) ?_ ?_ ?_ ?_; rotate_left 2; (· ((conv => lhs; whnf); try exact rfl)); (· rfl); (· intro w' hO'; (have hF' := Own.cells hO'; simp only [cellsOf_append, cellsOf_pt] at hF'); go_simp; (try exact rfl)); simp only [Act.put, List.setIfInBounds_toArray, List.set_cons_zero, List.set_cons_succ])
        (refine sch_look (o := ?_) (v := .agg (rcells (fileVs fa (play rs) fc) (.int .i64 rs.length))) ?_ ?_ ?_ ?_; rotate_left; (· ((conv => lhs; whnf); try exact rfl)); (· rfl); (· intro w' hO'; exact run_opLoadS (b := b8) (cs := rcells (fileVs fa (play rs) fc) (.int .i64 rs.length)) (e := 28) (f := _) hO' rfl inferInstance (by simp) (by simp [rcells])); simp only [Act.put, List.setIfInBounds_toArray, List.set_cons_zero, List.set_cons_succ])
        (refine sch_look (o := ?_) (v := ?_) ?_ ?_ ?_ ?_; rotate_left 2; (· ((conv => lhs; whnf); try exact rfl)); (· rfl); (· intro w' hO'; (have hF' := Own.cells hO'; simp only [cellsOf_append, cellsOf_pt] at hF'); go_simp; (try exact rfl)); simp only [Act.put, List.setIfInBounds_toArray, List.set_cons_zero, List.set_cons_succ])
        (refine sch_look (o := ?_) (v := ?_) ?_ ?_ ?_ ?_; rotate_left 2; (· ((conv => lhs; whnf); try exact rfl)); (· rfl); (· intro w' hO'; (have hF' := Own.cells hO'; simp only [cellsOf_append, cellsOf_pt] at hF'); go_simp; (try exact rfl)); simp only [Act.put, List.setIfInBounds_toArray, List.set_cons_zero, List.set_cons_succ])
        (refine sch_look (o := ?_) (v := ?_) ?_ ?_ ?_ ?_; rotate_left 2; (· ((conv => lhs; whnf); try exact rfl)); (· rfl); (· intro w' hO'; (have hF' := Own.cells hO'; simp only [cellsOf_append, cellsOf_pt] at hF'); go_simp; (try exact rfl)); simp only [Act.put, List.setIfInBounds_toArray, List.set_cons_zero, List.set_cons_succ])
        (refine sch_look (o := ?_) (v := .agg (L[j]).cells.toArray) ?_ ?_ ?_ ?_; rotate_left; (· ((conv => lhs; whnf); try exact rfl)); (· rfl); (· intro w' hO'; exact run_opLoadC (ad := ad.add (j * 4)) (cs := (L[j]).cells) (HRow.out.at hO') rfl (by simp) (by simp [OpT.cells])); simp only [Act.put, List.setIfInBounds_toArray, List.set_cons_zero, List.set_cons_succ])
        refine sch_two (o := ?_) (o' := ?_) ?_ ?_ ?_ ?_
        rotate_left 2
        · ((conv => lhs; whnf); try exact rfl)
        · ((conv => lhs; whnf); try exact rfl)
        · go_wp2_with (go_at_call 18; go_must (refine (does2 E _ _ _ I A d rs rs _ (L[j]).k (L[j]).f (L[j]).a (L[j]).t hts hA ⟨fa, fc, rfl, HR.out⟩ (by omega) (by omega) hA.1 hO).mono ?_; intro e w1 hD; obtain ⟨fa1, fc1, I1, A1, rfl, hr1, hA1, hO⟩ := DP_same hD; clear hD; ((try simp only [List.nil_append, List.append_nil] at hO); have hF := Own.cells hO; simp only [cellsOf_append, cellsOf_pt] at hF); have HR1 := Lib.hid hr1; clear hr1))
          refine ⟨hO.as _, ?_⟩
          (refine sch_look (o := ?_) (v := ?_) ?_ ?_ ?_ ?_; rotate_left 2; (· ((conv => lhs; whnf); try exact rfl)); (· rfl); (· intro w' hO'; (have hF' := Own.cells hO'; simp only [cellsOf_append, cellsOf_pt] at hF'); go_simp; (try exact rfl)); simp only [Act.put, List.setIfInBounds_toArray, List.set_cons_zero, List.set_cons_succ])
          (refine sch_look (o := ?_) (v := ?_) ?_ ?_ ?_ ?_; rotate_left 2; (· ((conv => lhs; whnf); try exact rfl)); (· rfl); (· intro w' hO'; (have hF' := Own.cells hO'; simp only [cellsOf_append, cellsOf_pt] at hF'); go_simp; (try exact rfl)); simp only [Act.put, List.setIfInBounds_toArray, List.set_cons_zero, List.set_cons_succ])
          (refine sch_look (o := ?_) (v := ?_) ?_ ?_ ?_ ?_; rotate_left 2; (· ((conv => lhs; whnf); try exact rfl)); (· rfl); (· intro w' hO'; (have hF' := Own.cells hO'; simp only [cellsOf_append, cellsOf_pt] at hF'); go_simp; (try exact rfl)); simp only [Act.put, List.setIfInBounds_toArray, List.set_cons_zero, List.set_cons_succ])
          (refine sch_act (o := ?_) ?_ ?_; rotate_left; (· ((conv => lhs; whnf); try exact rfl)))
          go_wp2_with (refine at_alloc ?_; go_must (refine own_alloc (z := ?_) hO ?_ ?_ ?_; rotate_left; (· rfl); (· exact hz _); clear hO; (try clear hF); intro b10 _ hO; (try simp only [Value.cells] at hO); ((try simp only [List.nil_append, List.append_nil] at hO); have hF := Own.cells hO; simp only [cellsOf_append, cellsOf_pt] at hF); simp only [Act.put, List.setIfInBounds_toArray, List.set_cons_zero, List.set_cons_succ]))
          refine ⟨hO.as _, ?_⟩
          (refine sch_act (o := ?_) ?_ ?_; rotate_left; (· ((conv => lhs; whnf); try exact rfl)))
          go_wp2_with (refine at_store ?_; refine own_storeS (b := ?_) (cs := ?_) (cs' := ?_) (e := ?_) (R := ?_) hO ?_ ?_ ?_ ?_ ?_ ?_ ?_ ?_; rotate_left 5; (· rfl); (· rfl); (· ((conv => lhs; whnf); try exact rfl)); (· exact inferInstance); (· simp [rcells]; done); (· refine rcells_one _ _ ?_ rfl; intro i; rfl); (· simp [rcells]; done); clear hO; (try clear hF); intro _ hO; ((try simp only [List.nil_append, List.append_nil] at hO); have hF := Own.cells hO; simp only [cellsOf_append, cellsOf_pt] at hF); simp only [Act.put, List.setIfInBounds_toArray, List.set_cons_zero, List.set_cons_succ])
          refine ⟨hO.as _, ?_⟩
          (refine sch_look (o := ?_) (v := ?_) ?_ ?_ ?_ ?_; rotate_left 2; (· ((conv => lhs; whnf); try exact rfl)); (· rfl); (· intro w' hO'; (have hF' := Own.cells hO'; simp only [cellsOf_append, cellsOf_pt] at hF'); go_simp; (try exact rfl)); simp only [Act.put, List.setIfInBounds_toArray, List.set_cons_zero, List.set_cons_succ])
          refine sch_done ?_
          go_wp2_with (first | (refine at_load ?_; refine own_loadS (b := ?_) (cs := ?_) (e := ?_) (f := ?_) hO ?_ ?_ ?_ ?_ ?_ ?_; rotate_left 4; (· rfl); (· rfl); (· exact inferInstance); (· simp; done); (· simp [rcells]; done); simp only [Act.put, List.setIfInBounds_toArray, List.set_cons_zero, List.set_cons_succ]) | (refine at_store ?_; refine own_storeS (b := ?_) (cs := ?_) (cs' := ?_) (e := ?_) (R := ?_) hO ?_ ?_ ?_ ?_ ?_ ?_ ?_ ?_; rotate_left 5; (· rfl); (· rfl); (· ((conv => lhs; whnf); try exact rfl)); (· exact inferInstance); (· simp [rcells]; done); (· refine rcells_one _ _ ?_ rfl; intro i; rfl); (· simp [rcells]; done); clear hO; (try clear hF); intro _ hO; ((try simp only [List.nil_append, List.append_nil] at hO); have hF := Own.cells hO; simp only [cellsOf_append, cellsOf_pt] at hF); simp only [Act.put, List.setIfInBounds_toArray, List.set_cons_zero, List.set_cons_succ]))
          go_roundw
          case rel => exact ⟨j + 1, (st rs (L[j]).k (L[j]).f (L[j]).a (L[j]).t).1, fa1, fc1, A1, I1 ++ I, by go_num, by omega, (by have := st_len rs (L[j]).k (L[j]).f (L[j]).a (L[j]).t; omega), hA1, HR1.out, hO.as _⟩
          case measure => simp [intOf]; omega
        · go_wp2_with (refine at_alloc ?_; go_must (refine own_alloc (z := ?_) hO ?_ ?_ ?_; rotate_left; (· rfl); (· exact hz _); clear hO; (try clear hF); intro b10 _ hO; (try simp only [Value.cells] at hO); ((try simp only [List.nil_append, List.append_nil] at hO); have hF := Own.cells hO; simp only [cellsOf_append, cellsOf_pt] at hF); simp only [Act.put, List.setIfInBounds_toArray, List.set_cons_zero, List.set_cons_succ]))
          refine ⟨hO.as _, ?_⟩
          (refine sch_act (o := ?_) ?_ ?_; rotate_left; (· ((conv => lhs; whnf); try exact rfl)))
          go_wp2_with (go_at_call 18; go_must (refine (does2 E _ _ _ I A d rs rs _ (L[j]).k (L[j]).f (L[j]).a (L[j]).t hts hA ⟨fa, fc, rfl, HR.out⟩ (by omega) (by omega) hA.1 hO).mono ?_; intro e w1 hD; obtain ⟨fa1, fc1, I1, A1, rfl, hr1, hA1, hO⟩ := DP_same hD; clear hD; ((try simp only [List.nil_append, List.append_nil] at hO); have hF := Own.cells hO; simp only [cellsOf_append, cellsOf_pt] at hF); have HR1 := Lib.hid hr1; clear hr1))
          refine ⟨hO.as _, ?_⟩
          (refine sch_look (o := ?_) (v := ?_) ?_ ?_ ?_ ?_; rotate_left 2; (· ((conv => lhs; whnf); try exact rfl)); (· rfl); (· intro w' hO'; (have hF' := Own.cells hO'; simp only [cellsOf_append, cellsOf_pt] at hF'); go_simp; (try exact rfl)); simp only [Act.put, List.setIfInBounds_toArray, List.set_cons_zero, List.set_cons_succ])
          (refine sch_look (o := ?_) (v := ?_) ?_ ?_ ?_ ?_; rotate_left 2; (· ((conv => lhs; whnf); try exact rfl)); (· rfl); (· intro w' hO'; (have hF' := Own.cells hO'; simp only [cellsOf_append, cellsOf_pt] at hF'); go_simp; (try exact rfl)); simp only [Act.put, List.setIfInBounds_toArray, List.set_cons_zero, List.set_cons_succ])
          (refine sch_look (o := ?_) (v := ?_) ?_ ?_ ?_ ?_; rotate_left 2; (· ((conv => lhs; whnf); try exact rfl)); (· rfl); (· intro w' hO'; (have hF' := Own.cells hO'; simp only [cellsOf_append, cellsOf_pt] at hF'); go_simp; (try exact rfl)); simp only [Act.put, List.setIfInBounds_toArray, List.set_cons_zero, List.set_cons_succ])
          (refine sch_act (o := ?_) ?_ ?_; rotate_left; (· ((conv => lhs; whnf); try exact rfl)))
          go_wp2_with (refine at_store ?_; refine own_storeS (b := ?_) (cs := ?_) (cs' := ?_) (e := ?_) (R := ?_) hO ?_ ?_ ?_ ?_ ?_ ?_ ?_ ?_; rotate_left 5; (· rfl); (· rfl); (· ((conv => lhs; whnf); try exact rfl)); (· exact inferInstance); (· simp [rcells]; done); (· refine rcells_one _ _ ?_ rfl; intro i; rfl); (· simp [rcells]; done); clear hO; (try clear hF); intro _ hO; ((try simp only [List.nil_append, List.append_nil] at hO); have hF := Own.cells hO; simp only [cellsOf_append, cellsOf_pt] at hF); simp only [Act.put, List.setIfInBounds_toArray, List.set_cons_zero, List.set_cons_succ])
          refine ⟨hO.as _, ?_⟩
          (refine sch_look (o := ?_) (v := ?_) ?_ ?_ ?_ ?_; rotate_left 2; (· ((conv => lhs; whnf); try exact rfl)); (· rfl); (· intro w' hO'; (have hF' := Own.cells hO'; simp only [cellsOf_append, cellsOf_pt] at hF'); go_simp; (try exact rfl)); simp only [Act.put, List.setIfInBounds_toArray, List.set_cons_zero, List.set_cons_succ])
          refine sch_done ?_
          go_wp2_with (first | (refine at_load ?_; refine own_loadS (b := ?_) (cs := ?_) (e := ?_) (f := ?_) hO ?_ ?_ ?_ ?_ ?_ ?_; rotate_left 4; (· rfl); (· rfl); (· exact inferInstance); (· simp; done); (· simp [rcells]; done); simp only [Act.put, List.setIfInBounds_toArray, List.set_cons_zero, List.set_cons_succ]) | (refine at_store ?_; refine own_storeS (b := ?_) (cs := ?_) (cs' := ?_) (e := ?_) (R := ?_) hO ?_ ?_ ?_ ?_ ?_ ?_ ?_ ?_; rotate_left 5; (· rfl); (· rfl); (· ((conv => lhs; whnf); try exact rfl)); (· exact inferInstance); (· simp [rcells]; done); (· refine rcells_one _ _ ?_ rfl; intro i; rfl); (· simp [rcells]; done); clear hO; (try clear hF); intro _ hO; ((try simp only [List.nil_append, List.append_nil] at hO); have hF := Own.cells hO; simp only [cellsOf_append, cellsOf_pt] at hF); simp only [Act.put, List.setIfInBounds_toArray, List.set_cons_zero, List.set_cons_succ]))
          go_roundw
          case rel => exact ⟨j + 1, (st rs (L[j]).k (L[j]).f (L[j]).a (L[j]).t).1, fa1, fc1, A1, I1 ++ I, by go_num, by omega, (by have := st_len rs (L[j]).k (L[j]).f (L[j]).a (L[j]).t; omega), hA1, HR1.out, hO.as _⟩
          case measure => simp [intOf]; omega
      · have hs' : smallB (L[j]).a (L[j]).t = false := by simpa using hs
        ((try simp only [List.nil_append, List.append_nil] at hO); have hF := Own.cells hO; simp only [cellsOf_append, cellsOf_pt] at hF)
        go_wp2_with (first | (refine at_load ?_; go_must (refine own_loadC (ad := ad.add (j * 4)) (cs := (L[j]).cells) ?_ (HRow.out.at hO) ?_ ?_ ?_ ?_; (· rfl); (· ((conv => lhs; whnf); try exact rfl)); (· simp; done); (· simp [OpT.cells]; done); simp only [Act.put, List.setIfInBounds_toArray, List.set_cons_zero, List.set_cons_succ])) | (go_at_call 16; go_must (refine (small2 E _ _ (L[j]).k (L[j]).f (L[j]).a (L[j]).t hO).mono ?_; rintro e w1 ⟨rfl, hO⟩; rw [hs']; ((try simp only [List.nil_append, List.append_nil] at hO); have hF := Own.cells hO; simp only [cellsOf_append, cellsOf_pt] at hF))) | (go_at_call 17; go_must (refine (awake2 E _ _ hO).mono ?_; rintro e w1 ⟨rfl, hO⟩; ((try simp only [List.nil_append, List.append_nil] at hO); have hF := Own.cells hO; simp only [cellsOf_append, cellsOf_pt] at hF))))
        go_ret
        exact ⟨rfl, hO.as _⟩
    · have hlt' : ¬ (j : Int) < L.length := by omega
      ((try simp only [List.nil_append, List.append_nil] at hO); have hF := Own.cells hO; simp only [cellsOf_append, cellsOf_pt] at hF)
      go_wp2_with (first | (refine at_load ?_; refine own_loadS (b := ?_) (cs := ?_) (e := ?_) (f := ?_) hO ?_ ?_ ?_ ?_ ?_ ?_; rotate_left 4; (· rfl); (· rfl); (· exact inferInstance); (· simp; done); (· simp [rcells]; done); simp only [Act.put, List.setIfInBounds_toArray, List.set_cons_zero, List.set_cons_succ]) | (go_at_call 19; go_must (refine (dRead E _ _ _ d rs A 1 at_ n hA hO).mono ?_; rintro e w1 ⟨rfl, rfl⟩)) | (go_at_call 20; go_must (refine (rRead E _ _ _ I rs _ 1 at_ n ⟨fa, fc, rfl, HR.out⟩ hA.1 hO).mono ?_; rintro e w1 ⟨rfl, hO⟩; ((try simp only [List.nil_append, List.append_nil] at hO); have hF := Own.cells hO; simp only [cellsOf_append, cellsOf_pt] at hF))) | (go_at_call 21; go_must (refine (same2 E _ _ _ I A d rs _ hA ⟨fa, fc, rfl, HR.out⟩ (by omega) hO).mono ?_; rintro e w1 ⟨rfl, hO⟩; ((try simp only [List.nil_append, List.append_nil] at hO); have hF := Own.cells hO; simp only [cellsOf_append, cellsOf_pt] at hF))) | (go_at_call 17; go_must (refine (awake2 E _ _ hO).mono ?_; rintro e w1 ⟨rfl, hO⟩; ((try simp only [List.nil_append, List.append_nil] at hO); have hF := Own.cells hO; simp only [cellsOf_append, cellsOf_pt] at hF))))
      go_ret
      exact ⟨rfl, hO.as _⟩
end Go.Proofs.Ytkkeplobomncgaa
