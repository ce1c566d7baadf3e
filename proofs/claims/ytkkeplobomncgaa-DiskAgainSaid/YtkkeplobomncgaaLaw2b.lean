/- vestibulelaw02: small, does. -/
import Derived.Test.YtkkeplobomncgaaRef3
import Derived.Test.YtkkeplobomncgaaLaw2a
set_option linter.all false
namespace Go.Proofs.Ytkkeplobomncgaa
open Go Go.RowKit Go.Own Go.Dk

def opV (k f a : Int) (t : ByteArray) : Value := .agg #[.int .i64 k, .int .i64 f, .int .i64 a, .string t]
def smallB (a : Int) (t : ByteArray) : Bool := (decide (a < 4096) && decide ((t.size : Int) < 4096)) || decide (a > 4194304) || decide (a < 0)

set_option maxRecDepth 100000 in
set_option maxHeartbeats 4000000 in
theorem small2 (E w : World) (X : Fr) (k f a : Int) (t : ByteArray) (hO : Own E w X) :
    Calls Try.prog 16 #[opV k f a t] w fun e w' => e = .returned (.bool (smallB a t)) ∧ Own E w' X := by
  unfold opV
  by_cases h1 : a < 4096
  · by_cases h2 : (t.size : Int) < 4096
    · have hs : smallB a t = true := by simp [smallB, h1, h2]
      rw [hs]
      go_enter Try.func16, Try.ntmps16
      go_wp2_with (refine at_box ?_; go_must (refine own_box (v := ?_) hO ?_ ?_ ?_; rotate_left; (· rfl); (· ((conv => lhs; whnf); try exact rfl)); clear hO; (try clear hF); intro _ _ hO; (try simp only [Value.cells] at hO); ((try simp only [List.nil_append, List.append_nil] at hO); have hF := Own.cells hO; simp only [cellsOf_append, cellsOf_pt] at hF); simp only [Act.put, List.setIfInBounds_toArray, List.set_cons_zero, List.set_cons_succ]))
      all_goals (go_ret; exact ⟨rfl, hO.as _⟩)
    · by_cases h3 : a < 0
      · have hs : smallB a t = true := by simp [smallB, h3]
        rw [hs]
        go_enter Try.func16, Try.ntmps16
        go_wp2_with (refine at_box ?_; go_must (refine own_box (v := ?_) hO ?_ ?_ ?_; rotate_left; (· rfl); (· ((conv => lhs; whnf); try exact rfl)); clear hO; (try clear hF); intro _ _ hO; (try simp only [Value.cells] at hO); ((try simp only [List.nil_append, List.append_nil] at hO); have hF := Own.cells hO; simp only [cellsOf_append, cellsOf_pt] at hF); simp only [Act.put, List.setIfInBounds_toArray, List.set_cons_zero, List.set_cons_succ]))
        all_goals (go_ret; exact ⟨by first | rfl | (simp [h3]; done), hO.as _⟩)
      · have hs : smallB a t = false := by simp [smallB, h2, h3]; omega
        rw [hs]
        have h4 : ¬ 4194304 < a := by omega
        go_enter Try.func16, Try.ntmps16
        go_wp2_with (refine at_box ?_; go_must (refine own_box (v := ?_) hO ?_ ?_ ?_; rotate_left; (· rfl); (· ((conv => lhs; whnf); try exact rfl)); clear hO; (try clear hF); intro _ _ hO; (try simp only [Value.cells] at hO); ((try simp only [List.nil_append, List.append_nil] at hO); have hF := Own.cells hO; simp only [cellsOf_append, cellsOf_pt] at hF); simp only [Act.put, List.setIfInBounds_toArray, List.set_cons_zero, List.set_cons_succ]))
        all_goals (go_ret; exact ⟨by first | (simp; done) | (simp; omega), hO.as _⟩)
  · have h3 : ¬ a < 0 := by omega
    by_cases h4 : 4194304 < a
    · have hs : smallB a t = true := by simp [smallB, h4]
      rw [hs]
      go_enter Try.func16, Try.ntmps16
      go_wp2_with (refine at_box ?_; go_must (refine own_box (v := ?_) hO ?_ ?_ ?_; rotate_left; (· rfl); (· ((conv => lhs; whnf); try exact rfl)); clear hO; (try clear hF); intro _ _ hO; (try simp only [Value.cells] at hO); ((try simp only [List.nil_append, List.append_nil] at hO); have hF := Own.cells hO; simp only [cellsOf_append, cellsOf_pt] at hF); simp only [Act.put, List.setIfInBounds_toArray, List.set_cons_zero, List.set_cons_succ]))
      all_goals (go_ret; exact ⟨by first | rfl | (simp [h4]; done), hO.as _⟩)
    · have hs : smallB a t = false := by simp [smallB, h1, h3]; omega
      rw [hs]
      go_enter Try.func16, Try.ntmps16
      go_wp2_with (refine at_box ?_; go_must (refine own_box (v := ?_) hO ?_ ?_ ?_; rotate_left; (· rfl); (· ((conv => lhs; whnf); try exact rfl)); clear hO; (try clear hF); intro _ _ hO; (try simp only [Value.cells] at hO); ((try simp only [List.nil_append, List.append_nil] at hO); have hF := Own.cells hO; simp only [cellsOf_append, cellsOf_pt] at hF); simp only [Act.put, List.setIfInBounds_toArray, List.set_cons_zero, List.set_cons_succ]))
      all_goals (go_ret; exact ⟨by first | (simp; done) | (simp; omega), hO.as _⟩)

def st (rs : List Raw) (k f a : Int) (t : ByteArray) : List Raw × Int := if k = 2 then tr rs f a else wr rs f a t

def DP (E : World) (rs rq : List Raw) (k f a : Int) (t : ByteArray) (d : Nat) (I R : Fr) (e : Ending) (w' : World) : Prop :=
  ∃ q' I' A', e = .returned (.tuple #[q', .bool (decide ((st rs k f a t).2 = (st rq k f a t).2))]) ∧ RefAt q' (st rq k f a t).1 (I' ++ I) ∧ DiskAt d (st rs k f a t).1 A' ∧ Own E w' (A' ++ (I' ++ (I ++ R)))

set_option maxRecDepth 100000 in
set_option maxHeartbeats 4000000 in
theorem does2_trim (E w : World) (X R I A : Fr) (d : Nat) (rs rq : List Raw) (q : Value) (f a : Int) (t : ByteArray) (hA : DiskAt d rs A) (hq : RefAt q rq I) (hlen : rs.length ≤ 8796093022208) (hlenq : rq.length ≤ 8796093022208) (hokq : OkL rq)
    (hO : Own E w X) [hp : Pick X (A ++ I) R] :
    Calls Try.prog 18 #[.pointer (some ⟨d, 0, none⟩), q, opV 2 f a t] w (DP E rs rq 2 f a t d I R) := by
  have hO0 := hO.perm hp.perm
  clear hp hO
  have hO := hO0
  clear hO0
  have hz := zeroRef
  have HQ := Lib.hid hq
  obtain ⟨fa, fc, rfl, hr⟩ := hq
  unfold opV
  go_enter Try.func18, Try.ntmps18
  go_wp2_with (first | (refine at_box (t := 28) ?_; go_must (refine own_box (v := ?_) hO ?_ ?_ ?_; rotate_left; (· rfl); (· ((conv => lhs; whnf); try exact rfl)); clear hO; (try clear hF); intro bq _ hO; (try simp only [Value.cells] at hO); ((try simp only [List.nil_append, List.append_nil] at hO); have hF := Own.cells hO; simp only [cellsOf_append, cellsOf_pt] at hF); simp only [Act.put, List.setIfInBounds_toArray, List.set_cons_zero, List.set_cons_succ])) | (refine at_box (t := 31) ?_; go_must (refine own_box (v := ?_) hO ?_ ?_ ?_; rotate_left; (· rfl); (· ((conv => lhs; whnf); try exact rfl)); clear hO; (try clear hF); intro bo _ hO; (try simp only [Value.cells] at hO); ((try simp only [List.nil_append, List.append_nil] at hO); have hF := Own.cells hO; simp only [cellsOf_append, cellsOf_pt] at hF); simp only [Act.put, List.setIfInBounds_toArray, List.set_cons_zero, List.set_cons_succ])) | (refine at_alloc ?_; go_must (refine own_alloc (z := ?_) hO ?_ ?_ ?_; rotate_left; (· rfl); (· exact hz _); clear hO; (try clear hF); intro bn _ hO; (try simp only [Value.cells] at hO); ((try simp only [List.nil_append, List.append_nil] at hO); have hF := Own.cells hO; simp only [cellsOf_append, cellsOf_pt] at hF); simp only [Act.put, List.setIfInBounds_toArray, List.set_cons_zero, List.set_cons_succ])) | (refine at_load ?_; refine own_loadS (b := ?_) (cs := ?_) (e := ?_) (f := ?_) hO ?_ ?_ ?_ ?_ ?_ ?_; rotate_left 4; (· rfl); (· rfl); (· exact inferInstance); (· simp; done); (· simp [rcells]; done); simp only [Act.put, List.setIfInBounds_toArray, List.set_cons_zero, List.set_cons_succ]) | (refine at_store ?_; refine own_storeS (b := ?_) (cs := ?_) (cs' := ?_) (e := ?_) (R := ?_) hO ?_ ?_ ?_ ?_ ?_ ?_ ?_ ?_; rotate_left 5; (· rfl); (· rfl); (· ((conv => lhs; whnf); try exact rfl)); (· exact inferInstance); (· simp [rcells]; done); (· refine rcells_one _ _ ?_ rfl; intro i; first | rfl | (simp only [upd]; split <;> rfl)); (· simp [rcells]; done); clear hO; (try clear hF); intro _ hO; ((try simp only [List.nil_append, List.append_nil] at hO); have hF := Own.cells hO; simp only [cellsOf_append, cellsOf_pt] at hF); simp only [Act.put, List.setIfInBounds_toArray, List.set_cons_zero, List.set_cons_succ]) | (go_at_call 45; go_must (refine (rTrim E _ _ _ I rq _ f a HQ.out hlenq hokq hO).mono ?_; rintro e w1 ⟨q', I', rfl, hq', hO⟩; have HQ' := Lib.hid hq'; obtain ⟨fa', fc', rfl, hr'⟩ := hq'; ((try simp only [List.nil_append, List.append_nil] at hO); have hF := Own.cells hO; simp only [cellsOf_append, cellsOf_pt] at hF))))
  refine region_mix (fun w' => Own E w' (pt bn (.cells (rcells (fileVs fa' (play (tr rq f a).1) fc') (.int .i64 (tr rq f a).1.length)) 28) ++ pt bo (.cells #[.int .i64 2, .int .i64 f, .int .i64 a, .string t] 31))) [(0,true),(1,true),(2,true),(3,true),(4,true),(5,true),(7,true),(6,false),(8,true),(9,false),(10,true)] (by kernel_rfl) (by kernel_rfl) (fun _ _ d _ _ h => by cases d <;> exact h) ?_ ?_
  · exact hO.drew.as _
  replace hO := hO.drew
  generalize World.drew _ = w2 at hO ⊢
  simp only [mixOps, List.map_cons, List.map_nil, Array.getD_eq_getD_getElem?, List.getElem?_toArray, List.getElem?_cons_zero, List.getElem?_cons_succ, Option.getD_some]
  (refine mix_look (v := .agg (rcells (fileVs fa' (play (tr rq f a).1) fc') (.int .i64 (tr rq f a).1.length))) ?_ ?_ ?_; (· rfl); (· intro w' hO'; refine run_opLoadS (b := bn) (cs := (rcells (fileVs fa' (play (tr rq f a).1) fc') (.int .i64 (tr rq f a).1.length))) (e := ?_) (f := ?_) hO' ?_ ?_ ?_ ?_; rotate_left 2; (· exact rfl); (· exact inferInstance); (· simp; done); (· simp [rcells]; done)); simp only [Act.put, List.setIfInBounds_toArray, List.set_cons_zero, List.set_cons_succ])
  (refine mix_look (v := ?_) ?_ ?_ ?_; rotate_left; (· rfl); (· intro w' hO'; (have hF' := Own.cells hO'; simp only [cellsOf_append, cellsOf_pt] at hF'); go_simp; (try exact rfl)); simp only [Act.put, List.setIfInBounds_toArray, List.set_cons_zero, List.set_cons_succ])
  (refine mix_look (v := ?_) ?_ ?_ ?_; rotate_left; (· rfl); (· intro w' hO'; (have hF' := Own.cells hO'; simp only [cellsOf_append, cellsOf_pt] at hF'); go_simp; (try exact rfl)); simp only [Act.put, List.setIfInBounds_toArray, List.set_cons_zero, List.set_cons_succ])
  (refine mix_look (v := ?_) ?_ ?_ ?_; rotate_left; (· rfl); (· intro w' hO'; (have hF' := Own.cells hO'; simp only [cellsOf_append, cellsOf_pt] at hF'); go_simp; (try exact rfl)); simp only [Act.put, List.setIfInBounds_toArray, List.set_cons_zero, List.set_cons_succ])
  (refine mix_look (v := ?_) ?_ ?_ ?_; rotate_left; (· rfl); (· intro w' hO'; (have hF' := Own.cells hO'; simp only [cellsOf_append, cellsOf_pt] at hF'); go_simp; (try exact rfl)); simp only [Act.put, List.setIfInBounds_toArray, List.set_cons_zero, List.set_cons_succ])
  (refine mix_look (v := ?_) ?_ ?_ ?_; rotate_left; (· rfl); (· intro w' hO'; (have hF' := Own.cells hO'; simp only [cellsOf_append, cellsOf_pt] at hF'); go_simp; (try exact rfl)); simp only [Act.put, List.setIfInBounds_toArray, List.set_cons_zero, List.set_cons_succ])
  (refine mix_look (v := ?_) ?_ ?_ ?_; rotate_left; (· rfl); (· intro w' hO'; (have hF' := Own.cells hO'; simp only [cellsOf_append, cellsOf_pt] at hF'); go_simp; (try exact rfl)); simp only [Act.put, List.setIfInBounds_toArray, List.set_cons_zero, List.set_cons_succ])
  refine mix_act ?_
  go_wp2_with (go_at_call 27; go_must (refine (dTrim E _ _ _ d rs A f a hA hlen hO).mono ?_; rintro e w1 ⟨rfl, A', hA', hO⟩))
  refine ⟨hO.as _, ?_⟩
  (refine mix_look (v := ?_) ?_ ?_ ?_; rotate_left; (· rfl); (· intro w' hO'; (have hF' := Own.cells hO'; simp only [cellsOf_append, cellsOf_pt] at hF'); go_simp; (try exact rfl)); simp only [Act.put, List.setIfInBounds_toArray, List.set_cons_zero, List.set_cons_succ])
  refine mix_act ?_
  go_wp2_with (first | (refine at_store ?_; refine own_storeS (b := ?_) (cs := ?_) (cs' := ?_) (e := ?_) (R := ?_) hO ?_ ?_ ?_ ?_ ?_ ?_ ?_ ?_; rotate_left 5; (· rfl); (· rfl); (· ((conv => lhs; whnf); try exact rfl)); (· exact inferInstance); (· simp [rcells]; done); (· refine rcells_one _ _ ?_ rfl; intro i; first | rfl | (simp only [upd]; split <;> rfl)); (· simp [rcells]; done); clear hO; (try clear hF); intro _ hO; ((try simp only [List.nil_append, List.append_nil] at hO); have hF := Own.cells hO; simp only [cellsOf_append, cellsOf_pt] at hF); simp only [Act.put, List.setIfInBounds_toArray, List.set_cons_zero, List.set_cons_succ]))
  refine ⟨hO.as _, ?_⟩
  (refine mix_look (v := ?_) ?_ ?_ ?_; rotate_left; (· rfl); (· intro w' hO'; (have hF' := Own.cells hO'; simp only [cellsOf_append, cellsOf_pt] at hF'); go_simp; (try exact rfl)); simp only [Act.put, List.setIfInBounds_toArray, List.set_cons_zero, List.set_cons_succ])
  refine mix_done ?_
  go_wp2
  refine bodyPost_ret (results_cell_tmp_own (t := 28) (b := _) (cs := _) (e := _) (f := _) rfl hO (by exact rfl) (by exact rfl) (by exact inferInstance) (by simp) (by simp [rcells])) rfl ?_
  refine ⟨.agg (rcells (fileVs fa' (play (tr rq f a).1) fc') (.int .i64 (tr rq f a).1.length)), I', A', ?_, ?_, ?_, hO.as _⟩
  · simp only [st, if_true]; rfl
  · simp only [st, if_true]; exact HQ'.out
  · simp only [st, if_true]; exact hA'

set_option maxRecDepth 100000 in
set_option maxHeartbeats 4000000 in
theorem does2_put (E w : World) (X R I A : Fr) (d : Nat) (rs rq : List Raw) (q : Value) (k f a : Int) (t : ByteArray) (hk2 : k ≠ 2) (ht : t.size ≤ maxLen) (hA : DiskAt d rs A) (hq : RefAt q rq I) (hlen : rs.length ≤ 8796093022208) (hlenq : rq.length ≤ 8796093022208) (hokq : OkL rq)
    (hO : Own E w X) [hp : Pick X (A ++ I) R] :
    Calls Try.prog 18 #[.pointer (some ⟨d, 0, none⟩), q, opV k f a t] w (DP E rs rq k f a t d I R) := by
  have hO0 := hO.perm hp.perm
  clear hp hO
  have hO := hO0
  clear hO0
  have hz := zeroRef
  have HQ := Lib.hid hq
  obtain ⟨fa, fc, rfl, hr⟩ := hq
  have hkb : (k == 2) = false := by simpa using hk2
  have hst : ∀ r, st r k f a t = wr r f a t := fun r => by unfold st; rw [if_neg hk2]
  have HST := Lib.hid hst
  clear hst
  unfold opV
  go_enter Try.func18, Try.ntmps18
  go_wp2_with (first | (refine at_box (t := 28) ?_; go_must (refine own_box (v := ?_) hO ?_ ?_ ?_; rotate_left; (· rfl); (· ((conv => lhs; whnf); try exact rfl)); clear hO; (try clear hF); intro bq _ hO; (try simp only [Value.cells] at hO); ((try simp only [List.nil_append, List.append_nil] at hO); have hF := Own.cells hO; simp only [cellsOf_append, cellsOf_pt] at hF); simp only [Act.put, List.setIfInBounds_toArray, List.set_cons_zero, List.set_cons_succ])) | (refine at_box (t := 31) ?_; go_must (refine own_box (v := ?_) hO ?_ ?_ ?_; rotate_left; (· rfl); (· ((conv => lhs; whnf); try exact rfl)); clear hO; (try clear hF); intro bo _ hO; (try simp only [Value.cells] at hO); ((try simp only [List.nil_append, List.append_nil] at hO); have hF := Own.cells hO; simp only [cellsOf_append, cellsOf_pt] at hF); simp only [Act.put, List.setIfInBounds_toArray, List.set_cons_zero, List.set_cons_succ])) | (refine at_alloc ?_; go_must (refine own_alloc (z := ?_) hO ?_ ?_ ?_; rotate_left; (· rfl); (· exact hz _); clear hO; (try clear hF); intro bn _ hO; (try simp only [Value.cells] at hO); ((try simp only [List.nil_append, List.append_nil] at hO); have hF := Own.cells hO; simp only [cellsOf_append, cellsOf_pt] at hF); simp only [Act.put, List.setIfInBounds_toArray, List.set_cons_zero, List.set_cons_succ])) | (refine at_load ?_; refine own_loadS (b := ?_) (cs := ?_) (e := ?_) (f := ?_) hO ?_ ?_ ?_ ?_ ?_ ?_; rotate_left 4; (· rfl); (· rfl); (· exact inferInstance); (· simp; done); (· simp [rcells]; done); simp only [Act.put, List.setIfInBounds_toArray, List.set_cons_zero, List.set_cons_succ]) | (refine at_store ?_; refine own_storeS (b := ?_) (cs := ?_) (cs' := ?_) (e := ?_) (R := ?_) hO ?_ ?_ ?_ ?_ ?_ ?_ ?_ ?_; rotate_left 5; (· rfl); (· rfl); (· ((conv => lhs; whnf); try exact rfl)); (· exact inferInstance); (· simp [rcells]; done); (· refine rcells_one _ _ ?_ rfl; intro i; first | rfl | (simp only [upd]; split <;> rfl)); (· simp [rcells]; done); clear hO; (try clear hF); intro _ hO; ((try simp only [List.nil_append, List.append_nil] at hO); have hF := Own.cells hO; simp only [cellsOf_append, cellsOf_pt] at hF); simp only [Act.put, List.setIfInBounds_toArray, List.set_cons_zero, List.set_cons_succ]) | (go_at_call 24; go_must (refine (rWrite E _ _ _ I rq _ f a t ht HQ.out hlenq hokq hO).mono ?_; rintro e w1 ⟨q', I', rfl, hq', hO⟩; have HQ' := Lib.hid hq'; obtain ⟨fa', fc', rfl, hr'⟩ := hq'; ((try simp only [List.nil_append, List.append_nil] at hO); have hF := Own.cells hO; simp only [cellsOf_append, cellsOf_pt] at hF))))
  refine region_mix (fun w' => Own E w' (pt bn (.cells (rcells (fileVs fa' (play (wr rq f a t).1) fc') (.int .i64 (wr rq f a t).1.length)) 28) ++ pt bo (.cells #[.int .i64 k, .int .i64 f, .int .i64 a, .string t] 31))) [(0,true),(1,true),(2,true),(3,true),(4,true),(5,true),(6,true),(7,true),(9,true),(8,false),(10,true),(11,false),(12,true)] (by kernel_rfl) (by kernel_rfl) (fun _ _ d _ _ h => by cases d <;> exact h) ?_ ?_
  · exact hO.drew.as _
  replace hO := hO.drew
  generalize World.drew _ = w2 at hO ⊢
  simp only [mixOps, List.map_cons, List.map_nil, Array.getD_eq_getD_getElem?, List.getElem?_toArray, List.getElem?_cons_zero, List.getElem?_cons_succ, Option.getD_some]
  (refine mix_look (v := .agg (rcells (fileVs fa' (play (wr rq f a t).1) fc') (.int .i64 (wr rq f a t).1.length))) ?_ ?_ ?_; (· rfl); (· intro w' hO'; refine run_opLoadS (b := bn) (cs := (rcells (fileVs fa' (play (wr rq f a t).1) fc') (.int .i64 (wr rq f a t).1.length))) (e := ?_) (f := ?_) hO' ?_ ?_ ?_ ?_; rotate_left 2; (· exact rfl); (· exact inferInstance); (· simp; done); (· simp [rcells]; done)); simp only [Act.put, List.setIfInBounds_toArray, List.set_cons_zero, List.set_cons_succ])
  (refine mix_look (v := ?_) ?_ ?_ ?_; rotate_left; (· rfl); (· intro w' hO'; (have hF' := Own.cells hO'; simp only [cellsOf_append, cellsOf_pt] at hF'); go_simp; (try exact rfl)); simp only [Act.put, List.setIfInBounds_toArray, List.set_cons_zero, List.set_cons_succ])
  (refine mix_look (v := ?_) ?_ ?_ ?_; rotate_left; (· rfl); (· intro w' hO'; (have hF' := Own.cells hO'; simp only [cellsOf_append, cellsOf_pt] at hF'); go_simp; (try exact rfl)); simp only [Act.put, List.setIfInBounds_toArray, List.set_cons_zero, List.set_cons_succ])
  (refine mix_look (v := ?_) ?_ ?_ ?_; rotate_left; (· rfl); (· intro w' hO'; (have hF' := Own.cells hO'; simp only [cellsOf_append, cellsOf_pt] at hF'); go_simp; (try exact rfl)); simp only [Act.put, List.setIfInBounds_toArray, List.set_cons_zero, List.set_cons_succ])
  (refine mix_look (v := ?_) ?_ ?_ ?_; rotate_left; (· rfl); (· intro w' hO'; (have hF' := Own.cells hO'; simp only [cellsOf_append, cellsOf_pt] at hF'); go_simp; (try exact rfl)); simp only [Act.put, List.setIfInBounds_toArray, List.set_cons_zero, List.set_cons_succ])
  (refine mix_look (v := ?_) ?_ ?_ ?_; rotate_left; (· rfl); (· intro w' hO'; (have hF' := Own.cells hO'; simp only [cellsOf_append, cellsOf_pt] at hF'); go_simp; (try exact rfl)); simp only [Act.put, List.setIfInBounds_toArray, List.set_cons_zero, List.set_cons_succ])
  (refine mix_look (v := ?_) ?_ ?_ ?_; rotate_left; (· rfl); (· intro w' hO'; (have hF' := Own.cells hO'; simp only [cellsOf_append, cellsOf_pt] at hF'); go_simp; (try exact rfl)); simp only [Act.put, List.setIfInBounds_toArray, List.set_cons_zero, List.set_cons_succ])
  (refine mix_look (v := ?_) ?_ ?_ ?_; rotate_left; (· rfl); (· intro w' hO'; (have hF' := Own.cells hO'; simp only [cellsOf_append, cellsOf_pt] at hF'); go_simp; (try exact rfl)); simp only [Act.put, List.setIfInBounds_toArray, List.set_cons_zero, List.set_cons_succ])
  (refine mix_look (v := ?_) ?_ ?_ ?_; rotate_left; (· rfl); (· intro w' hO'; (have hF' := Own.cells hO'; simp only [cellsOf_append, cellsOf_pt] at hF'); go_simp; (try exact rfl)); simp only [Act.put, List.setIfInBounds_toArray, List.set_cons_zero, List.set_cons_succ])
  refine mix_act ?_
  go_wp2_with (go_at_call 23; go_must (refine (dWrite E _ _ _ d rs A f a t ht hA hlen hO).mono ?_; rintro e w1 ⟨rfl, A', hA', hO⟩))
  refine ⟨hO.as _, ?_⟩
  (refine mix_look (v := ?_) ?_ ?_ ?_; rotate_left; (· rfl); (· intro w' hO'; (have hF' := Own.cells hO'; simp only [cellsOf_append, cellsOf_pt] at hF'); go_simp; (try exact rfl)); simp only [Act.put, List.setIfInBounds_toArray, List.set_cons_zero, List.set_cons_succ])
  refine mix_act ?_
  go_wp2_with (first | (refine at_store ?_; refine own_storeS (b := ?_) (cs := ?_) (cs' := ?_) (e := ?_) (R := ?_) hO ?_ ?_ ?_ ?_ ?_ ?_ ?_ ?_; rotate_left 5; (· rfl); (· rfl); (· ((conv => lhs; whnf); try exact rfl)); (· exact inferInstance); (· simp [rcells]; done); (· refine rcells_one _ _ ?_ rfl; intro i; first | rfl | (simp only [upd]; split <;> rfl)); (· simp [rcells]; done); clear hO; (try clear hF); intro _ hO; ((try simp only [List.nil_append, List.append_nil] at hO); have hF := Own.cells hO; simp only [cellsOf_append, cellsOf_pt] at hF); simp only [Act.put, List.setIfInBounds_toArray, List.set_cons_zero, List.set_cons_succ]))
  refine ⟨hO.as _, ?_⟩
  (refine mix_look (v := ?_) ?_ ?_ ?_; rotate_left; (· rfl); (· intro w' hO'; (have hF' := Own.cells hO'; simp only [cellsOf_append, cellsOf_pt] at hF'); go_simp; (try exact rfl)); simp only [Act.put, List.setIfInBounds_toArray, List.set_cons_zero, List.set_cons_succ])
  refine mix_done ?_
  go_wp2
  refine bodyPost_ret (results_cell_tmp_own (t := 28) (b := _) (cs := _) (e := _) (f := _) rfl hO (by exact rfl) (by exact rfl) (by exact inferInstance) (by simp) (by simp [rcells])) rfl ?_
  refine ⟨.agg (rcells (fileVs fa' (play (wr rq f a t).1) fc') (.int .i64 (wr rq f a t).1.length)), I', A', ?_, ?_, ?_, hO.as _⟩
  · rw [HST.out, HST.out]; rfl
  · rw [HST.out]; exact HQ'.out
  · rw [HST.out]; exact hA'


theorem does2 (E w : World) (X R I A : Fr) (d : Nat) (rs rq : List Raw) (q : Value) (k f a : Int) (t : ByteArray) (ht : t.size ≤ maxLen) (hA : DiskAt d rs A) (hq : RefAt q rq I) (hlen : rs.length ≤ 8796093022208) (hlenq : rq.length ≤ 8796093022208) (hokq : OkL rq)
    (hO : Own E w X) [hp : Pick X (A ++ I) R] :
    Calls Try.prog 18 #[.pointer (some ⟨d, 0, none⟩), q, opV k f a t] w (DP E rs rq k f a t d I R) := by
  by_cases hk : k = 2
  · subst hk
    exact does2_trim E w X R I A d rs rq q f a t hA hq hlen hlenq hokq hO
  · exact does2_put E w X R I A d rs rq q k f a t hk ht hA hq hlen hlenq hokq hO
end Go.Proofs.Ytkkeplobomncgaa
