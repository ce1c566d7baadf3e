/- The log's contracts: Append, Len, Reset. -/
import Derived.Test.YtkkeplobomncgaaLog1
import Derived.Test.YtkkeplobomncgaaArgs
set_option linter.all false
namespace Go.Dk
open Go.Own Go.RowKit

/-- The log at block l: of the disk d, with these records. -/
def logF (l d : Nat) (recs : List ByteArray) : Fr := pt l (.cells #[.pointer (some ⟨d, 0, none⟩), .int .i64 (encs recs).length, .int .i64 recs.length] 63 (0, 0))
/-- Can a record be appended? -/
def apOk (recs : List ByteArray) (t : ByteArray) : Prop := 0 < t.size ∧ t.size ≤ 1048576 ∧ (encs recs).length + 4 + t.size ≤ 4194304
instance (recs : List ByteArray) (t : ByteArray) : Decidable (apOk recs t) := inferInstanceAs (Decidable (_ ∧ _))
def apE (recs : List ByteArray) (t : ByteArray) : Int := if apOk recs t then 0 else if 0 < t.size ∧ t.size ≤ 1048576 then 2 else 30
def apL (recs : List ByteArray) (t : ByteArray) : List ByteArray := if apOk recs t then recs ++ [t] else recs
def hdB (n : Nat) : ByteArray := ⟨(hd4 n).toArray⟩
def apR (rs : List Raw) (recs : List ByteArray) (t : ByteArray) : List Raw := if apOk recs t then rs ++ [.put 0 ((encs recs).length + 4) t, .put 0 (encs recs).length (hdB t.size)] else rs
theorem play_ap {rs : List Raw} {recs : List ByteArray} (h : play rs 0 = encs recs) (t : ByteArray) : play (apR rs recs t) 0 = encs (apL recs t) := by
  unfold apR apL
  split
  · rw [show rs ++ [Raw.put 0 ((encs recs).length + 4) t, .put 0 (encs recs).length (hdB t.size)] = (rs ++ [Raw.put 0 ((encs recs).length + 4) t]) ++ [.put 0 (encs recs).length (hdB t.size)] by simp]
    rw [play_snoc, play_snoc]
    simp only [Raw.app, upd_same, h, over_app]
    rw [over_hd _ _ _ rfl, encs_snoc, encR]
    simp [hdB]
  · exact h

theorem encs_len : ∀ l : List ByteArray, l.length ≤ (encs l).length
  | [] => by simp
  | s :: l => by
    have := encs_len l
    rw [encs_cons, List.length_append, encR_length, List.length_cons]
    omega
theorem wrap_u8 (n : Nat) : IntKind.u8.wrap (n : Int) = ((UInt8.ofNat n).toNat : Int) := by
  simp only [IntKind.wrap, show IntKind.bits .u8 = 8 from rfl, show IntKind.signed .u8 = false from rfl, UInt8.toNat_ofNat']
  simp
theorem hdV (n : Nat) : #[Value.int .u8 (IntKind.u8.wrap ((n : Int) / 16777216)), .int .u8 (IntKind.u8.wrap ((n : Int) / 65536)), .int .u8 (IntKind.u8.wrap ((n : Int) / 256)), .int .u8 (IntKind.u8.wrap (n : Int))] = (bytesV (hd4 n)).toArray := by
  have e1 : (n : Int) / 16777216 = ((n / 16777216 : Nat) : Int) := by omega
  have e2 : (n : Int) / 65536 = ((n / 65536 : Nat) : Int) := by omega
  have e3 : (n : Int) / 256 = ((n / 256 : Nat) : Int) := by omega
  rw [e1, e2, e3, wrap_u8, wrap_u8, wrap_u8, wrap_u8]
  rfl
end Go.Dk
namespace Go.Proofs.Ytkkeplobomncgaa
open Go Go.RowKit Go.Own Go.Dk
theorem wr_1 {rs : List Raw} {recs : List ByteArray} {t : ByteArray} (h : apOk recs t) : wr rs 0 (((encs recs).length : Int) + 4) t = (rs ++ [.put 0 ((encs recs).length + 4) t], 0) := by
  obtain ⟨h1, h2, h3⟩ := h
  unfold wr
  rw [if_pos ⟨by decide, by omega, by omega, by omega⟩]
  congr 3
theorem wr_2 {rs : List Raw} {recs : List ByteArray} {t : ByteArray} (h : apOk recs t) : wr (rs ++ [.put 0 ((encs recs).length + 4) t]) 0 ((encs recs).length : Int) (hdB t.size) = (rs ++ [.put 0 ((encs recs).length + 4) t, .put 0 (encs recs).length (hdB t.size)], 0) := by
  obtain ⟨h1, h2, h3⟩ := h
  have h4 : (hdB t.size).size = 4 := rfl
  unfold wr
  rw [if_pos ⟨by decide, by omega, by omega, by omega⟩]
  simp
/-- What an append leaves. -/
def AP (E : World) (rs : List Raw) (recs : List ByteArray) (t : ByteArray) (l d : Nat) (R : Fr) (e : Ending) (w' : World) : Prop :=
  e = .returned (.int .i64 (apE recs t)) ∧ ∃ A', DiskAt d (apR rs recs t) A' ∧ Own E w' (logF l d (apL recs t) ++ (A' ++ R))

set_option maxRecDepth 100000 in
set_option maxHeartbeats 4000000 in
theorem lLen (E w : World) (X R : Fr) (l d : Nat) (recs : List ByteArray) (hO : Own E w X) [hp : Pick X (logF l d recs) R] :
    Calls Try.prog 30 #[.pointer (some ⟨l, 0, none⟩)] w fun e w' => e = .returned (.int .i64 recs.length) ∧ w = w' := by
  replace hO := hO.perm hp.perm
  clear hp
  unfold logF at hO
  ((try simp only [List.nil_append, List.append_nil] at hO); have hF := Own.cells hO; simp only [cellsOf_append, cellsOf_pt] at hF)
  go_enter Try.func30, Try.ntmps30
  go_wp2
  go_ret
  exact ⟨rfl, rfl⟩

theorem tr_00 (rs : List Raw) : tr rs 0 0 = (rs ++ [.trim 0 0], 0) := by
  unfold tr
  rw [if_pos ⟨by decide, by omega, by omega⟩]
  rfl

set_option maxRecDepth 100000 in
set_option maxHeartbeats 4000000 in
theorem lReset (E w : World) (X R A : Fr) (l d : Nat) (recs : List ByteArray) (rs : List Raw) (hA : DiskAt d rs A) (hlen : rs.length ≤ 8796093022208) (hO : Own E w X) [hp : Pick X (logF l d recs ++ A) R] :
    Calls Try.prog 31 #[.pointer (some ⟨l, 0, none⟩)] w fun e w' => e = .returned (.int .i64 0) ∧ ∃ A', DiskAt d (rs ++ [.trim 0 0]) A' ∧ Own E w' (logF l d [] ++ (A' ++ R)) := by
  replace hO := hO.perm hp.perm
  clear hp
  unfold logF at hO
  ((try simp only [List.nil_append, List.append_nil] at hO); have hF := Own.cells hO; simp only [cellsOf_append, cellsOf_pt] at hF)
  go_enter Try.func31, Try.ntmps31
  go_wp2_with (first | (refine own_store (v := ?_) (off := 1) (b := l) hO ?_ ?_ ?_ ?_ ?_ ?_ ?_; rotate_left; (· rfl); (· ((conv => lhs; whnf); try exact rfl)); (· ((conv => lhs; whnf); try exact rfl)); (· simp [Value.cells]); (· simp [Value.cells, Value.oneCell']); (· simp [Value.cells]); clear hO; (try clear hF); intro _ hO; (try simp only [splice, Value.cells] at hO); ((try simp only [List.nil_append, List.append_nil] at hO); have hF := Own.cells hO; simp only [cellsOf_append, cellsOf_pt] at hF); simp only [Act.put, List.setIfInBounds_toArray, List.set_cons_zero, List.set_cons_succ]) | (refine own_store (v := ?_) (off := 2) (b := l) hO ?_ ?_ ?_ ?_ ?_ ?_ ?_; rotate_left; (· rfl); (· ((conv => lhs; whnf); try exact rfl)); (· ((conv => lhs; whnf); try exact rfl)); (· simp [Value.cells]); (· simp [Value.cells, Value.oneCell']); (· simp [Value.cells]); clear hO; (try clear hF); intro _ hO; (try simp only [splice, Value.cells] at hO); ((try simp only [List.nil_append, List.append_nil] at hO); have hF := Own.cells hO; simp only [cellsOf_append, cellsOf_pt] at hF); simp only [Act.put, List.setIfInBounds_toArray, List.set_cons_zero, List.set_cons_succ]) | (go_at_call 27; go_must (refine (dTrim E _ _ _ d rs A 0 0 hA hlen hO).mono ?_; rintro e w1 ⟨rfl, A1, hA1, hO⟩; ((try simp only [List.nil_append, List.append_nil] at hO); have hF := Own.cells hO; simp only [cellsOf_append, cellsOf_pt] at hF))))
  rw [tr_00] at hA1
  go_ret
  simp only [splice, Value.cells, List.setIfInBounds_toArray, List.set_cons_zero, List.set_cons_succ] at hO
  have h := hO.as (pt l (.cells #[.pointer (some ⟨d, 0, none⟩), .int .i64 0, .int .i64 0] 63 (0, 0)) ++ (A1 ++ R))
  exact ⟨rfl, A1, hA1, h⟩

set_option maxRecDepth 100000 in
set_option maxHeartbeats 4000000 in
theorem lAppend (E w : World) (X R A : Fr) (l d : Nat) (recs : List ByteArray) (t : ByteArray) (rs : List Raw) (hA : DiskAt d rs A) (hF : play rs 0 = encs recs) (hlen : rs.length + 1 ≤ 8796093022208) (ht : t.size ≤ maxLen) (hO : Own E w X) [hp : Pick X (logF l d recs ++ A) R] :
    Calls Try.prog 29 #[.pointer (some ⟨l, 0, none⟩), .string t] w (AP E rs recs t l d R) := by
  replace hO := hO.perm hp.perm
  clear hp
  have hle : (encs recs).length ≤ 4194304 := by rw [← hF]; exact play_le hA.1 0
  have hrl : (recs.length : Int) ≤ 4194304 := by have := encs_len recs; omega
  unfold maxLen at ht
  by_cases h0 : 0 < t.size
  case neg =>
    have ht0 : t = .empty := by
      obtain ⟨⟨x⟩⟩ := t
      have : x.length = 0 := by simpa [ByteArray.size] using h0
      obtain rfl := List.length_eq_zero_iff.1 this
      rfl
    subst ht0
    have he : ¬ apOk recs .empty := fun h => absurd h.1 (by decide)
    unfold AP apE apR apL
    rw [if_neg he, if_neg he, if_neg he, if_neg (by decide)]
    unfold logF at hO ⊢
    ((try simp only [List.nil_append, List.append_nil] at hO); have hF := Own.cells hO; simp only [cellsOf_append, cellsOf_pt] at hF)
    go_enter Try.func29, Try.ntmps29
    go_wp2
    go_ret
    exact ⟨rfl, A, hA, hO⟩
  have hne : (t.toList == []) = false := by
    obtain ⟨⟨x⟩⟩ := t
    cases x with
    | nil => simp [ByteArray.size] at h0
    | cons a x => rw [ByteArray.toList_eq]; rfl
  by_cases h1 : (t.size : Int) ≤ 1048576
  case neg =>
    have he : ¬ apOk recs t := fun h => by have := h.2.1; omega
    unfold AP apE apR apL
    rw [if_neg he, if_neg he, if_neg he, if_neg (by omega)]
    unfold logF at hO ⊢
    ((try simp only [List.nil_append, List.append_nil] at hO); have hF := Own.cells hO; simp only [cellsOf_append, cellsOf_pt] at hF)
    have h1' : (1048576 : Int) < t.size := by omega
    go_enter Try.func29, Try.ntmps29
    go_wp2
    go_ret
    exact ⟨rfl, A, hA, hO⟩
  by_cases h2 : ((encs recs).length : Int) + 4 + t.size ≤ 4194304
  case neg =>
    have he : ¬ apOk recs t := fun h => by have := h.2.2; omega
    unfold AP apE apR apL
    rw [if_neg he, if_neg he, if_neg he, if_pos (by omega)]
    unfold logF at hO ⊢
    ((try simp only [List.nil_append, List.append_nil] at hO); have hF := Own.cells hO; simp only [cellsOf_append, cellsOf_pt] at hF)
    have h1' : ¬ (1048576 : Int) < t.size := by omega
    have h2' : (4194304 : Int) < (encs recs).length + 4 + t.size := by omega
    go_enter Try.func29, Try.ntmps29
    go_wp2
    go_ret
    exact ⟨rfl, A, hA, hO⟩
  have he : apOk recs t := ⟨h0, by omega, by omega⟩
  unfold AP apE apR apL
  rw [if_pos he, if_pos he, if_pos he]
  unfold logF at hO ⊢
  have h1' : ¬ (1048576 : Int) < t.size := by omega
  have h2' : ¬ (4194304 : Int) < (encs recs).length + 4 + t.size := by omega
  ((try simp only [List.nil_append, List.append_nil] at hO); have hF := Own.cells hO; simp only [cellsOf_append, cellsOf_pt] at hF)
  go_enter Try.func29, Try.ntmps29
  go_wp2_with fail
  (refine own_still_tail 10 (by kernel_rfl) (by kernel_rfl) hO ?_; clear hO; (try clear hF); intro _ hO; ((try simp only [List.nil_append, List.append_nil] at hO); have hF := Own.cells hO; simp only [cellsOf_append, cellsOf_pt] at hF); simp only [List.take_succ_cons, List.take_zero, List.drop_succ_cons, List.drop_zero]; (repeat still_step); (try refine wpStill_nil ?_))
  go_wp2_with fail
  refine (dWrite E _ _ _ d rs A 0 _ t (by unfold maxLen; omega) hA (by omega) hO).mono ?_; rw [wr_1 he]; rintro e w1 ⟨rfl, A1, hA1, hO⟩; ((try simp only [List.nil_append, List.append_nil] at hO); have hF := Own.cells hO; simp only [cellsOf_append, cellsOf_pt] at hF)
  go_wp2_with fail
  refine region_sch (fun w' => Own E w' (pt l (.cells #[.pointer (some ⟨d, 0, none⟩), .int .i64 (encs recs).length, .int .i64 recs.length] 63 (0, 0)))) (.look 0 (.look 1 (.look 2 (.look 3 (.look 4 (.look 5 (.look 6 (.look 7 (.look 8 (.look 9 (.look 10 (.look 11 (.look 12 (.look 13 (.look 14 (.look 15 (.look 16 (.look 17 (.look 18 (.act 19 (.act 20 (.act 21 .done)))))))))))))))))))))) (by kernel_rfl) (by kernel_rfl) (fun _ _ d _ _ h => by cases d <;> exact h) ?_ ?_
  · exact hO.drew.as _
  replace hO := hO.drew
  generalize World.drew _ = w2 at hO ⊢
  (refine sch_look (o := ?_) (v := ?_) ?_ ?_ ?_ ?_; rotate_left 2; (· ((conv => lhs; whnf); try exact rfl)); (· rfl); (· intro w' hO'; (have hF' := Own.cells hO'; simp only [cellsOf_append, cellsOf_pt] at hF'); go_simp; (try exact rfl)); simp only [Act.put, List.setIfInBounds_toArray, List.set_cons_zero, List.set_cons_succ])
  (refine sch_look (o := ?_) (v := ?_) ?_ ?_ ?_ ?_; rotate_left 2; (· ((conv => lhs; whnf); try exact rfl)); (· rfl); (· intro w' hO'; (have hF' := Own.cells hO'; simp only [cellsOf_append, cellsOf_pt] at hF'); go_simp; (try exact rfl)); simp only [Act.put, List.setIfInBounds_toArray, List.set_cons_zero, List.set_cons_succ])
  (refine sch_look (o := ?_) (v := ?_) ?_ ?_ ?_ ?_; rotate_left 2; (· ((conv => lhs; whnf); try exact rfl)); (· rfl); (· intro w' hO'; (have hF' := Own.cells hO'; simp only [cellsOf_append, cellsOf_pt] at hF'); go_simp; (try exact rfl)); simp only [Act.put, List.setIfInBounds_toArray, List.set_cons_zero, List.set_cons_succ])
  (refine sch_look (o := ?_) (v := ?_) ?_ ?_ ?_ ?_; rotate_left 2; (· ((conv => lhs; whnf); try exact rfl)); (· rfl); (· intro w' hO'; (have hF' := Own.cells hO'; simp only [cellsOf_append, cellsOf_pt] at hF'); go_simp; (try exact rfl)); simp only [Act.put, List.setIfInBounds_toArray, List.set_cons_zero, List.set_cons_succ])
  (refine sch_look (o := ?_) (v := ?_) ?_ ?_ ?_ ?_; rotate_left 2; (· ((conv => lhs; whnf); try exact rfl)); (· rfl); (· intro w' hO'; (have hF' := Own.cells hO'; simp only [cellsOf_append, cellsOf_pt] at hF'); go_simp; (try exact rfl)); simp only [Act.put, List.setIfInBounds_toArray, List.set_cons_zero, List.set_cons_succ])
  (refine sch_look (o := ?_) (v := ?_) ?_ ?_ ?_ ?_; rotate_left 2; (· ((conv => lhs; whnf); try exact rfl)); (· rfl); (· intro w' hO'; (have hF' := Own.cells hO'; simp only [cellsOf_append, cellsOf_pt] at hF'); go_simp; (try exact rfl)); simp only [Act.put, List.setIfInBounds_toArray, List.set_cons_zero, List.set_cons_succ])
  (refine sch_look (o := ?_) (v := ?_) ?_ ?_ ?_ ?_; rotate_left 2; (· ((conv => lhs; whnf); try exact rfl)); (· rfl); (· intro w' hO'; (have hF' := Own.cells hO'; simp only [cellsOf_append, cellsOf_pt] at hF'); go_simp; (try exact rfl)); simp only [Act.put, List.setIfInBounds_toArray, List.set_cons_zero, List.set_cons_succ])
  (refine sch_look (o := ?_) (v := ?_) ?_ ?_ ?_ ?_; rotate_left 2; (· ((conv => lhs; whnf); try exact rfl)); (· rfl); (· intro w' hO'; (have hF' := Own.cells hO'; simp only [cellsOf_append, cellsOf_pt] at hF'); go_simp; (try exact rfl)); simp only [Act.put, List.setIfInBounds_toArray, List.set_cons_zero, List.set_cons_succ])
  (refine sch_look (o := ?_) (v := ?_) ?_ ?_ ?_ ?_; rotate_left 2; (· ((conv => lhs; whnf); try exact rfl)); (· rfl); (· intro w' hO'; (have hF' := Own.cells hO'; simp only [cellsOf_append, cellsOf_pt] at hF'); go_simp; (try exact rfl)); simp only [Act.put, List.setIfInBounds_toArray, List.set_cons_zero, List.set_cons_succ])
  (refine sch_look (o := ?_) (v := ?_) ?_ ?_ ?_ ?_; rotate_left 2; (· ((conv => lhs; whnf); try exact rfl)); (· rfl); (· intro w' hO'; (have hF' := Own.cells hO'; simp only [cellsOf_append, cellsOf_pt] at hF'); go_simp; (try exact rfl)); simp only [Act.put, List.setIfInBounds_toArray, List.set_cons_zero, List.set_cons_succ])
  (refine sch_look (o := ?_) (v := ?_) ?_ ?_ ?_ ?_; rotate_left 2; (· ((conv => lhs; whnf); try exact rfl)); (· rfl); (· intro w' hO'; (have hF' := Own.cells hO'; simp only [cellsOf_append, cellsOf_pt] at hF'); go_simp; (try exact rfl)); simp only [Act.put, List.setIfInBounds_toArray, List.set_cons_zero, List.set_cons_succ])
  (refine sch_look (o := ?_) (v := ?_) ?_ ?_ ?_ ?_; rotate_left 2; (· ((conv => lhs; whnf); try exact rfl)); (· rfl); (· intro w' hO'; (have hF' := Own.cells hO'; simp only [cellsOf_append, cellsOf_pt] at hF'); go_simp; (try exact rfl)); simp only [Act.put, List.setIfInBounds_toArray, List.set_cons_zero, List.set_cons_succ])
  (refine sch_look (o := ?_) (v := ?_) ?_ ?_ ?_ ?_; rotate_left 2; (· ((conv => lhs; whnf); try exact rfl)); (· rfl); (· intro w' hO'; (have hF' := Own.cells hO'; simp only [cellsOf_append, cellsOf_pt] at hF'); go_simp; (try exact rfl)); simp only [Act.put, List.setIfInBounds_toArray, List.set_cons_zero, List.set_cons_succ])
  (refine sch_look (o := ?_) (v := ?_) ?_ ?_ ?_ ?_; rotate_left 2; (· ((conv => lhs; whnf); try exact rfl)); (· rfl); (· intro w' hO'; (have hF' := Own.cells hO'; simp only [cellsOf_append, cellsOf_pt] at hF'); go_simp; (try exact rfl)); simp only [Act.put, List.setIfInBounds_toArray, List.set_cons_zero, List.set_cons_succ])
  (refine sch_look (o := ?_) (v := ?_) ?_ ?_ ?_ ?_; rotate_left 2; (· ((conv => lhs; whnf); try exact rfl)); (· rfl); (· intro w' hO'; (have hF' := Own.cells hO'; simp only [cellsOf_append, cellsOf_pt] at hF'); go_simp; (try exact rfl)); simp only [Act.put, List.setIfInBounds_toArray, List.set_cons_zero, List.set_cons_succ])
  (refine sch_look (o := ?_) (v := ?_) ?_ ?_ ?_ ?_; rotate_left 2; (· ((conv => lhs; whnf); try exact rfl)); (· rfl); (· intro w' hO'; (have hF' := Own.cells hO'; simp only [cellsOf_append, cellsOf_pt] at hF'); go_simp; (try exact rfl)); simp only [Act.put, List.setIfInBounds_toArray, List.set_cons_zero, List.set_cons_succ])
  (refine sch_look (o := ?_) (v := ?_) ?_ ?_ ?_ ?_; rotate_left 2; (· ((conv => lhs; whnf); try exact rfl)); (· rfl); (· intro w' hO'; (have hF' := Own.cells hO'; simp only [cellsOf_append, cellsOf_pt] at hF'); go_simp; (try exact rfl)); simp only [Act.put, List.setIfInBounds_toArray, List.set_cons_zero, List.set_cons_succ])
  (refine sch_look (o := ?_) (v := ?_) ?_ ?_ ?_ ?_; rotate_left 2; (· ((conv => lhs; whnf); try exact rfl)); (· rfl); (· intro w' hO'; (have hF' := Own.cells hO'; simp only [cellsOf_append, cellsOf_pt] at hF'); go_simp; (try exact rfl)); simp only [Act.put, List.setIfInBounds_toArray, List.set_cons_zero, List.set_cons_succ])
  (refine sch_look (o := ?_) (v := ?_) ?_ ?_ ?_ ?_; rotate_left 2; (· ((conv => lhs; whnf); try exact rfl)); (· rfl); (· intro w' hO'; (have hF' := Own.cells hO'; simp only [cellsOf_append, cellsOf_pt] at hF'); go_simp; (try exact rfl)); simp only [Act.put, List.setIfInBounds_toArray, List.set_cons_zero, List.set_cons_succ])
  (refine sch_act (o := ?_) ?_ ?_; rotate_left; (· ((conv => lhs; whnf); try exact rfl)))
  go_wp2_with (first | (refine at_bs ?_; go_must (refine own_buildN (cells := ?_) sltBytes hO ?_ ?_ ?_ ?_ ?_ ?_; rotate_left; (· rfl); (· decide); (· decide); (· rfl); (· simp [Instr.fill, Act.eval, Value.cells, Array.replicate_succ]; exact rfl); clear hO; (try clear hF); intro bh _ hO; ((try simp only [List.nil_append, List.append_nil] at hO); have hF := Own.cells hO; simp only [cellsOf_append, cellsOf_pt] at hF); simp only [Act.put, List.setIfInBounds_toArray, List.set_cons_zero, List.set_cons_succ])))
  rw [hdV] at hO
  refine ⟨hO.as _, ?_⟩
  clear hF
  ((try simp only [List.nil_append, List.append_nil] at hO); have hF := Own.cells hO; simp only [cellsOf_append, cellsOf_pt] at hF)
  (refine sch_act (o := ?_) ?_ ?_; rotate_left; (· ((conv => lhs; whnf); try exact rfl)))
  go_wp2_with (first | (refine at_conv ?_; go_must (refine own_bytes_str (e := 5) (ad := ?_) (n := ?_) (cap := ?_) (l := hd4 t.size) (by kernel_rfl) (by kernel_rfl) (by kernel_rfl) ?_ ?_ ?_ ?_ ?_ ?_; rotate_left 3; (· rfl); (· ((conv => lhs; whnf); try exact rfl)); (· rfl); (· intro b hb j v hj; cases hb; rw [add_lit, hO.cell (b := bh)]; simpa using hj); (· intro h; cases h); simp only [Act.put, List.setIfInBounds_toArray, List.set_cons_zero, List.set_cons_succ])))
  refine ⟨hO.as _, ?_⟩
  (refine sch_act (o := ?_) ?_ ?_; rotate_left; (· ((conv => lhs; whnf); try exact rfl)))
  go_wp2_with fail
  refine (dWrite E _ _ _ d _ A1 0 _ (hdB t.size) (by show 4 ≤ maxLen; decide) hA1 (by simp; omega) hO).mono ?_; rw [wr_2 he]; rintro e w1 ⟨rfl, A2, hA2, hO⟩; ((try simp only [List.nil_append, List.append_nil] at hO); have hF := Own.cells hO; simp only [cellsOf_append, cellsOf_pt] at hF)
  go_wp2_with fail
  refine ⟨hO.as _, ?_⟩
  refine sch_done ?_
  go_wp2_with (first | (refine own_store (v := ?_) (off := 1) (b := l) hO ?_ ?_ ?_ ?_ ?_ ?_ ?_; rotate_left; (· rfl); (· ((conv => lhs; whnf); try exact rfl)); (· ((conv => lhs; whnf); try exact rfl)); (· simp [Value.cells]); (· simp [Value.cells, Value.oneCell']); (· simp [Value.cells]); clear hO; (try clear hF); intro _ hO; (try simp only [splice, Value.cells] at hO); ((try simp only [List.nil_append, List.append_nil] at hO); have hF := Own.cells hO; simp only [cellsOf_append, cellsOf_pt] at hF); simp only [Act.put, List.setIfInBounds_toArray, List.set_cons_zero, List.set_cons_succ]) | (refine own_store (v := ?_) (off := 2) (b := l) hO ?_ ?_ ?_ ?_ ?_ ?_ ?_; rotate_left; (· rfl); (· ((conv => lhs; whnf); try exact rfl)); (· ((conv => lhs; whnf); try exact rfl)); (· simp [Value.cells]); (· simp [Value.cells, Value.oneCell']); (· simp [Value.cells]); clear hO; (try clear hF); intro _ hO; (try simp only [splice, Value.cells] at hO); ((try simp only [List.nil_append, List.append_nil] at hO); have hF := Own.cells hO; simp only [cellsOf_append, cellsOf_pt] at hF); simp only [Act.put, List.setIfInBounds_toArray, List.set_cons_zero, List.set_cons_succ]))
  simp only [splice, Value.cells, List.setIfInBounds_toArray, List.set_cons_zero, List.set_cons_succ] at hO
  go_ret
  have el : ((encs (recs ++ [t])).length : Int) = (encs recs).length + (4 + t.size) := by rw [encs_snoc, List.length_append, encR_length]; omega
  have en : ((recs ++ [t]).length : Int) = recs.length + 1 := by simp
  rw [el, en]
  exact ⟨rfl, A2, hA2, hO.as _⟩
end Go.Proofs.Ytkkeplobomncgaa
