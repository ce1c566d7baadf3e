/- The log: Open's walk. -/
import Derived.Test.YtkkeplobomncgaaLog4
set_option linter.all false
namespace Go.Proofs.Ytkkeplobomncgaa
open Go Go.RowKit Go.Own Go.Dk

theorem sltStrs : SlT Try.prog 58 9 1 16 (.string .empty) := ⟨by kernel_rfl, by kernel_rfl, rfl⟩
theorem sz_0 (rs : List Raw) : sz rs 0 = (play rs 0).length := by
  unfold sz
  rw [if_pos (by decide)]
  rfl
theorem rd_0 (rs : List Raw) : rd rs 0 0 (play rs 0).length = (⟨(play rs 0).toArray⟩, 0) := by
  unfold rd
  have e : (0 : Int).toNat = 0 := rfl
  rw [e, if_pos ⟨by decide, by omega, by omega, by omega, by omega⟩]
  simp

/-- What opening leaves. -/
def OP (E : World) (rs : List Raw) (d : Nat) (R : Fr) (e : Ending) (w' : World) : Prop :=
  ∃ (l : Nat) (recs : List ByteArray) (rest : List UInt8) (rs' : List Raw) (sa : Option Addr) (cp : Nat) (S A' : Fr), e = .returned (.tuple #[.pointer (some ⟨l, 0, none⟩), .slice sa recs.length cp, .int .i64 0]) ∧
    play rs 0 = encs recs ++ rest ∧ Stuck rest ∧ Recs recs ∧ (rs' = rs ∨ rs' = rs ++ [.trim 0 (encs recs).length]) ∧ play rs' 0 = encs recs ∧ DiskAt d rs' A' ∧
    Sl 9 1 sa recs.length cp (recs.map .string) S ∧ Own E w' (logF l d recs ++ (S ++ (A' ++ R)))

theorem tr_p {rs : List Raw} {F : List UInt8} {p : Nat} (hF : play rs 0 = F) (h : p ≤ F.length) : tr rs 0 p = (rs ++ [.trim 0 p], 0) := by
  unfold tr
  have e : (0 : Int).toNat = 0 := rfl
  rw [e, hF, if_pos ⟨by decide, by omega, by omega⟩]
  simp
theorem bytes_at {E w : World} {X : Fr} {b : Nat} {F : List UInt8} {tl : List Value} {e : TypeId} {f : Nat × Nat} (hO : Own E w X) (hh : Has X b (.cells (bytesV F ++ tl).toArray e f)) (i : Nat) (h : i < F.length) : w.cell? ⟨b, i, none⟩ = some (.int .u8 (F[i]).toNat) := by
  rw [hO.cell (b := b)]
  have : i < (bytesV F).length := by simpa [bytesV] using h
  simp only [List.getElem?_toArray, List.getElem?_append_left this]
  simp [bytesV, h, byteV]
theorem bytes_sub {E w : World} {X : Fr} {b : Nat} {F : List UInt8} {tl : List Value} {e : TypeId} {f : Nat × Nat} (hO : Own E w X) (hh : Has X b (.cells (bytesV F ++ tl).toArray e f)) (p k n : Nat) (h : p + k + n ≤ F.length) :
    ∀ ad, some (⟨b, p + k, none⟩ : Addr) = some ad → ∀ j v, (bytesV (((F.drop p).drop k).take n))[j]? = some v → w.cell? (ad.add j) = some v := by
  intro ad ha j v hj
  cases ha
  have hjl : j < n := by
    have := (List.getElem?_eq_some_iff.1 hj).1
    simp [bytesV] at this
    omega
  have hjn : (bytesV (((F.drop p).drop k).take n))[j]? = some (byteV (F[p + k + j]'(by omega))) := by
    rw [bytesV, List.getElem?_map, List.getElem?_take_of_lt hjl, List.getElem?_drop, List.getElem?_drop, ← Nat.add_assoc, List.getElem?_eq_getElem (by omega)]
    rfl
  rw [hjn] at hj
  cases hj
  rw [add_lit]
  exact bytes_at hO hh (p + k + j) (by omega)
theorem or_step (n c : Nat) (hn : n < 16777216) (hc : c < 256) : bits .or .i64 (wrap64 ((n : Int) * 256)) (wrap64 (c : Int)) = ((n * 256 + c : Nat) : Int) := by
  have e1 : wrap64 ((n : Int) * 256) = ((n * 256 : Nat) : Int) := by unfold wrap64; omega
  have e2 : wrap64 (c : Int) = (c : Int) := by unfold wrap64; omega
  have hw : ∀ m : Int, 0 ≤ m → m < 2 ^ 62 → IntKind.i64.wrap m = m := by
    intro m h0 h1
    simp only [IntKind.wrap, show IntKind.bits .i64 = 64 from rfl, show IntKind.signed .i64 = true from rfl]
    rw [Int.emod_eq_of_lt h0 (by omega), if_neg (by simp; omega)]
  rw [e1, e2, (bits_nat .i64 62 (by decide) hw (n * 256) c (by omega) (by omega)).2]
  congr 1
  have := Nat.two_pow_add_eq_or_of_lt (i := 8) (b := c) (by omega) n
  rw [show n * 256 = 2 ^ 8 * n by omega, ← this]
theorem encs_len : ∀ {l : List ByteArray}, Recs l → l.length ≤ (encs l).length
  | [], _ => by simp
  | s :: l, h => by
    have := encs_len (l := l) (fun x hx => h x (List.mem_cons_of_mem _ hx))
    rw [encs_cons, List.length_append, encR_length, List.length_cons]
    omega
def slLen : Value → Nat
  | .slice _ n _ => n
  | _ => 0

set_option maxRecDepth 100000 in
set_option maxHeartbeats 4000000 in
theorem lOpen (E w : World) (X R A : Fr) (d : Nat) (rs : List Raw) (hA : DiskAt d rs A) (hlen : rs.length ≤ 8796093022208) (hO : Own E w X) [hp : Pick X A R] :
    Calls Try.prog 28 #[.pointer (some ⟨d, 0, none⟩)] w (OP E rs d R) := by
  replace hO := hO.perm hp.perm
  clear hp
  have hle : (play rs 0).length ≤ 4194304 := play_le hA.1 0
  go_enter Try.func28, Try.ntmps28
  go_wp2_with fail
  refine (dSize E _ _ _ d rs A 0 hA hO).mono ?_; rw [sz_0]; rintro e w1 ⟨rfl, rfl⟩
  go_wp2_with fail
  refine (dRead E _ _ _ d rs A 0 0 _ hA hO).mono ?_; rw [rd_0]; rintro e w1 ⟨rfl, rfl⟩
  have hFs : (⟨(play rs 0).toArray⟩ : ByteArray).size = (play rs 0).length := by simp [ByteArray.size]
  go_wp2_with (first | (refine at_box ?_; go_must (refine own_box (v := ?_) hO ?_ ?_ ?_; rotate_left; (· rfl); (· ((conv => lhs; whnf); try exact rfl)); clear hO; (try clear hF); intro bl _ hO; (try simp only [Value.cells] at hO); ((try simp only [List.nil_append, List.append_nil] at hO); have hF := Own.cells hO; simp only [cellsOf_append, cellsOf_pt] at hF); simp only [Act.put, List.setIfInBounds_toArray, List.set_cons_zero, List.set_cons_succ])) | (refine at_conv ?_; go_must (refine own_str_bytes (e := 5) (s := ⟨(play rs 0).toArray⟩) (by kernel_rfl) (by kernel_rfl) (by kernel_rfl) hO (by rw [hFs]; unfold maxLen; omega) ?_ ?_ ?_; (· rfl); (· ((conv => lhs; whnf); try exact rfl)); clear hO; (try clear hF); intro bb cap tl fz _ hcap hcm hO; ((try simp only [List.nil_append, List.append_nil] at hO); have hF := Own.cells hO; simp only [cellsOf_append, cellsOf_pt] at hF); simp only [Act.put, List.setIfInBounds_toArray, List.set_cons_zero, List.set_cons_succ])))
  generalize hPF : play rs 0 = F at hle hFs hcap hO ⊢
  have hO0 := hO
  clear hO hF
  rw [hFs]
  go_loopw [8, 9] (fun s8 s9 wr => ∃ (out : List ByteArray) (p rc : Nat) (ra sa : Option Addr) (cp : Nat) (S : Fr), s8 = .slice sa out.length cp ∧ s9 = .slice ra (F.length - p) rc ∧ p ≤ F.length ∧ F.take p = encs out ∧ Recs out ∧
      (p < F.length → ra = some ⟨bb, p, none⟩) ∧ F.length - p ≤ rc ∧ rc ≤ maxLen ∧ Sl 9 1 sa out.length cp (out.map .string) S ∧
      Own E wr (pt bl (.cells #[.pointer (some ⟨d, 0, none⟩), .int .i64 p, .int .i64 0] 63 (0, 0)) ++ (S ++ (pt bb (.cells (bytesV F ++ tl).toArray 5 fz) ++ (A ++ R))))) (fun _ s9 _ => slLen s9)
  case atStart => exact ⟨[], 0, cap, _, none, 0, [], rfl, rfl, by omega, rfl, fun s hs => by simp at hs, fun _ => rfl, by omega, hcm, Sl.nil _ _, hO0.as _⟩
  case round =>
    clear hO0
    obtain ⟨out, p, rc, ra, sa, cp, S, rfl, rfl, hp, hTake, hRecs, hra, hrc, hrm, hSl, hO⟩ := hrel
    by_cases h4 : 4 ≤ F.length - p
    case neg =>
      have hStuck : Stuck (F.drop p) := .inl (by rw [List.length_drop]; omega)
      have h4' : ((F.length - p : Nat) : Int) < 4 := by omega
      ((try simp only [List.nil_append, List.append_nil] at hO); have hF := Own.cells hO; simp only [cellsOf_append, cellsOf_pt] at hF)
      (
        go_wp2_with (first | (refine own_store (v := ?_) (off := 2) (b := bl) hO ?_ ?_ ?_ ?_ ?_ ?_ ?_; rotate_left; (· rfl); (· ((conv => lhs; whnf); try exact rfl)); (· ((conv => lhs; whnf); try exact rfl)); (· simp [Value.cells]); (· simp [Value.cells, Value.oneCell']); (· simp [Value.cells]); clear hO; (try clear hF); intro _ hO; (try simp only [splice, Value.cells] at hO); ((try simp only [List.nil_append, List.append_nil] at hO); have hF := Own.cells hO; simp only [cellsOf_append, cellsOf_pt] at hF); simp only [Act.put, List.setIfInBounds_toArray, List.set_cons_zero, List.set_cons_succ]))
        simp only [splice, Value.cells, List.setIfInBounds_toArray, List.set_cons_zero, List.set_cons_succ] at hO
        refine region_sch (fun w' => Own E w' (pt bl (.cells #[.pointer (some ⟨d, 0, none⟩), .int .i64 p, .int .i64 out.length] 63 (0, 0)))) (.look 0 (.look 2 (.look 3 (.look 4 (.look 5 (.act 1 (.look 6 .done))))))) (by kernel_rfl) (by kernel_rfl) (fun _ _ d _ _ h => by cases d <;> exact h) ?_ ?_
        · exact hO.drew.as _
        replace hO := hO.drew
        generalize World.drew _ = w2 at hO ⊢
        (refine sch_look (o := ?_) (v := ?_) ?_ ?_ ?_ ?_; rotate_left 2; (· ((conv => lhs; whnf); try exact rfl)); (· rfl); (· intro w' hO'; (have hF' := Own.cells hO'; simp only [cellsOf_append, cellsOf_pt] at hF'); go_simp; (try exact rfl)); simp only [Act.put, List.setIfInBounds_toArray, List.set_cons_zero, List.set_cons_succ])
        (refine sch_look (o := ?_) (v := ?_) ?_ ?_ ?_ ?_; rotate_left 2; (· ((conv => lhs; whnf); try exact rfl)); (· rfl); (· intro w' hO'; (have hF' := Own.cells hO'; simp only [cellsOf_append, cellsOf_pt] at hF'); go_simp; (try exact rfl)); simp only [Act.put, List.setIfInBounds_toArray, List.set_cons_zero, List.set_cons_succ])
        (refine sch_look (o := ?_) (v := ?_) ?_ ?_ ?_ ?_; rotate_left 2; (· ((conv => lhs; whnf); try exact rfl)); (· rfl); (· intro w' hO'; (have hF' := Own.cells hO'; simp only [cellsOf_append, cellsOf_pt] at hF'); go_simp; (try exact rfl)); simp only [Act.put, List.setIfInBounds_toArray, List.set_cons_zero, List.set_cons_succ])
        (refine sch_look (o := ?_) (v := ?_) ?_ ?_ ?_ ?_; rotate_left 2; (· ((conv => lhs; whnf); try exact rfl)); (· rfl); (· intro w' hO'; (have hF' := Own.cells hO'; simp only [cellsOf_append, cellsOf_pt] at hF'); go_simp; (try exact rfl)); simp only [Act.put, List.setIfInBounds_toArray, List.set_cons_zero, List.set_cons_succ])
        (refine sch_look (o := ?_) (v := ?_) ?_ ?_ ?_ ?_; rotate_left 2; (· ((conv => lhs; whnf); try exact rfl)); (· rfl); (· intro w' hO'; (have hF' := Own.cells hO'; simp only [cellsOf_append, cellsOf_pt] at hF'); go_simp; (try exact rfl)); simp only [Act.put, List.setIfInBounds_toArray, List.set_cons_zero, List.set_cons_succ])
        (refine sch_act (o := ?_) ?_ ?_; rotate_left; (· ((conv => lhs; whnf); try exact rfl)))
        go_wp2_with fail
        refine (dSize E _ _ _ d rs A 0 hA hO).mono ?_; rw [sz_0, hPF]; rintro e w1 ⟨rfl, rfl⟩
        go_wp2_with fail
        refine ⟨hO.as _, ?_⟩
        (refine sch_look (o := ?_) (v := ?_) ?_ ?_ ?_ ?_; rotate_left 2; (· ((conv => lhs; whnf); try exact rfl)); (· rfl); (· intro w' hO'; (have hF' := Own.cells hO'; simp only [cellsOf_append, cellsOf_pt] at hF'); go_simp; (try exact rfl)); simp only [Act.put, List.setIfInBounds_toArray, List.set_cons_zero, List.set_cons_succ])
        refine sch_done ?_
        have hlE : (encs out).length = p := by rw [← hTake, List.length_take]; omega
        by_cases hpl : p < F.length
        · have hpl' : (p : Int) < F.length := by omega
          clear hF
          ((try simp only [List.nil_append, List.append_nil] at hO); have hF := Own.cells hO; simp only [cellsOf_append, cellsOf_pt] at hF)
          go_wp2_with fail
          refine (dTrim E _ _ _ d rs A 0 p hA hlen hO).mono ?_
          rw [tr_p hPF (by omega)]
          rintro e w1 ⟨rfl, A1, hA1, hO⟩
          go_wp2_with fail
          go_ret3
          exact ⟨bl, out, F.drop p, rs ++ [.trim 0 p], sa, cp, S, A1, rfl, by rw [hPF, ← hTake, List.take_append_drop], hStuck, hRecs, .inr (by rw [hlE]), by rw [play_snoc]; simp only [Raw.app, upd_same, hPF, hTake], hA1, hSl, by unfold logF; rw [hlE]; exact hO.as _⟩
        · first | (exfalso; omega; done) | skip
          all_goals (
          have hpl' : ¬ (p : Int) < F.length := by omega
          clear hF
          ((try simp only [List.nil_append, List.append_nil] at hO); have hF := Own.cells hO; simp only [cellsOf_append, cellsOf_pt] at hF)
          go_wp2_with fail
          go_ret3
          exact ⟨bl, out, F.drop p, rs, sa, cp, S, A, rfl, by rw [hPF, ← hTake, List.take_append_drop], hStuck, hRecs, .inl rfl, by rw [hPF, ← hTake, List.take_of_length_le (by omega)], hA, hSl, by unfold logF; rw [hlE]; exact hO.as _⟩))
    have hpl : p < F.length := by omega
    obtain rfl := hra hpl
    have h4' : ¬ ((F.length - p : Nat) : Int) < 4 := by omega
    have h5 : (4 : Int) ≤ rc := by omega
    have hO1 := hO
    go_wp2_with fail
    clear hO
    go_loopw [10, 34] (fun s10 s34 w' => ∃ i : Nat, s34 = .int .i64 i ∧ s10 = .int .i64 (pre (F.drop p) i) ∧ i ≤ 4 ∧ Own E w' (pt bl (.cells #[.pointer (some ⟨d, 0, none⟩), .int .i64 p, .int .i64 0] 63 (0, 0)) ++ (S ++ (pt bb (.cells (bytesV F ++ tl).toArray 5 fz) ++ (A ++ R))))) (fun _ s34 _ => 4 - (intOf s34).toNat)
    case atStart => exact ⟨0, rfl, by rw [pre_0]; rfl, by omega, hO1⟩
    case round =>
      clear hO1
      obtain ⟨i, rfl, rfl, hi, hO⟩ := hrel
      by_cases hi4 : i < 4
      · have hi4' : (i : Int) < 4 := by omega
        have hc := bytes_at (b := bb) (F := F) (tl := tl) (e := 5) (f := fz) hO inferInstance (p + i) (by omega)
        have hps := pre_succ (F.drop p) i (by rw [List.length_drop]; omega)
        rw [List.getElem_drop] at hps
        have hpl := pre_lt (F.drop p) i (by rw [List.length_drop]; omega)
        go_wp2_with fail
        go_roundw
        case rel =>
          have hlt : pre (F.drop p) i < 16777216 := Nat.lt_of_lt_of_le hpl (Nat.pow_le_pow_right (n := 256) (by decide) (show i ≤ 3 by omega))
          refine ⟨i + 1, by go_num, ?_, by omega, hO⟩
          rw [or_step _ _ hlt (F[p + i]'(by omega)).toNat_lt, hps]
        case measure => simp [intOf]; omega
      · have hi4' : ¬ (i : Int) < 4 := by omega
        obtain rfl : i = 4 := by omega
        rw [pre_4 _ (by rw [List.length_drop]; omega)]
        have hv := val4_lt (F.drop p)
        have hld : (F.drop p).length = F.length - p := List.length_drop
        by_cases hn0 : val4 (F.drop p) = 0
        · have hStuck : Stuck (F.drop p) := .inr (.inl hn0)
          rw [hn0]
          ((try simp only [List.nil_append, List.append_nil] at hO); have hF := Own.cells hO; simp only [cellsOf_append, cellsOf_pt] at hF)
          (
        go_wp2_with (first | (refine own_store (v := ?_) (off := 2) (b := bl) hO ?_ ?_ ?_ ?_ ?_ ?_ ?_; rotate_left; (· rfl); (· ((conv => lhs; whnf); try exact rfl)); (· ((conv => lhs; whnf); try exact rfl)); (· simp [Value.cells]); (· simp [Value.cells, Value.oneCell']); (· simp [Value.cells]); clear hO; (try clear hF); intro _ hO; (try simp only [splice, Value.cells] at hO); ((try simp only [List.nil_append, List.append_nil] at hO); have hF := Own.cells hO; simp only [cellsOf_append, cellsOf_pt] at hF); simp only [Act.put, List.setIfInBounds_toArray, List.set_cons_zero, List.set_cons_succ]))
        simp only [splice, Value.cells, List.setIfInBounds_toArray, List.set_cons_zero, List.set_cons_succ] at hO
        refine region_sch (fun w' => Own E w' (pt bl (.cells #[.pointer (some ⟨d, 0, none⟩), .int .i64 p, .int .i64 out.length] 63 (0, 0)))) (.look 0 (.look 2 (.look 3 (.look 4 (.look 5 (.act 1 (.look 6 .done))))))) (by kernel_rfl) (by kernel_rfl) (fun _ _ d _ _ h => by cases d <;> exact h) ?_ ?_
        · exact hO.drew.as _
        replace hO := hO.drew
        generalize World.drew _ = w2 at hO ⊢
        (refine sch_look (o := ?_) (v := ?_) ?_ ?_ ?_ ?_; rotate_left 2; (· ((conv => lhs; whnf); try exact rfl)); (· rfl); (· intro w' hO'; (have hF' := Own.cells hO'; simp only [cellsOf_append, cellsOf_pt] at hF'); go_simp; (try exact rfl)); simp only [Act.put, List.setIfInBounds_toArray, List.set_cons_zero, List.set_cons_succ])
        (refine sch_look (o := ?_) (v := ?_) ?_ ?_ ?_ ?_; rotate_left 2; (· ((conv => lhs; whnf); try exact rfl)); (· rfl); (· intro w' hO'; (have hF' := Own.cells hO'; simp only [cellsOf_append, cellsOf_pt] at hF'); go_simp; (try exact rfl)); simp only [Act.put, List.setIfInBounds_toArray, List.set_cons_zero, List.set_cons_succ])
        (refine sch_look (o := ?_) (v := ?_) ?_ ?_ ?_ ?_; rotate_left 2; (· ((conv => lhs; whnf); try exact rfl)); (· rfl); (· intro w' hO'; (have hF' := Own.cells hO'; simp only [cellsOf_append, cellsOf_pt] at hF'); go_simp; (try exact rfl)); simp only [Act.put, List.setIfInBounds_toArray, List.set_cons_zero, List.set_cons_succ])
        (refine sch_look (o := ?_) (v := ?_) ?_ ?_ ?_ ?_; rotate_left 2; (· ((conv => lhs; whnf); try exact rfl)); (· rfl); (· intro w' hO'; (have hF' := Own.cells hO'; simp only [cellsOf_append, cellsOf_pt] at hF'); go_simp; (try exact rfl)); simp only [Act.put, List.setIfInBounds_toArray, List.set_cons_zero, List.set_cons_succ])
        (refine sch_look (o := ?_) (v := ?_) ?_ ?_ ?_ ?_; rotate_left 2; (· ((conv => lhs; whnf); try exact rfl)); (· rfl); (· intro w' hO'; (have hF' := Own.cells hO'; simp only [cellsOf_append, cellsOf_pt] at hF'); go_simp; (try exact rfl)); simp only [Act.put, List.setIfInBounds_toArray, List.set_cons_zero, List.set_cons_succ])
        (refine sch_act (o := ?_) ?_ ?_; rotate_left; (· ((conv => lhs; whnf); try exact rfl)))
        go_wp2_with fail
        refine (dSize E _ _ _ d rs A 0 hA hO).mono ?_; rw [sz_0, hPF]; rintro e w1 ⟨rfl, rfl⟩
        go_wp2_with fail
        refine ⟨hO.as _, ?_⟩
        (refine sch_look (o := ?_) (v := ?_) ?_ ?_ ?_ ?_; rotate_left 2; (· ((conv => lhs; whnf); try exact rfl)); (· rfl); (· intro w' hO'; (have hF' := Own.cells hO'; simp only [cellsOf_append, cellsOf_pt] at hF'); go_simp; (try exact rfl)); simp only [Act.put, List.setIfInBounds_toArray, List.set_cons_zero, List.set_cons_succ])
        refine sch_done ?_
        have hlE : (encs out).length = p := by rw [← hTake, List.length_take]; omega
        by_cases hpl : p < F.length
        · have hpl' : (p : Int) < F.length := by omega
          clear hF
          ((try simp only [List.nil_append, List.append_nil] at hO); have hF := Own.cells hO; simp only [cellsOf_append, cellsOf_pt] at hF)
          go_wp2_with fail
          refine (dTrim E _ _ _ d rs A 0 p hA hlen hO).mono ?_
          rw [tr_p hPF (by omega)]
          rintro e w1 ⟨rfl, A1, hA1, hO⟩
          go_wp2_with fail
          go_ret3
          exact ⟨bl, out, F.drop p, rs ++ [.trim 0 p], sa, cp, S, A1, rfl, by rw [hPF, ← hTake, List.take_append_drop], hStuck, hRecs, .inr (by rw [hlE]), by rw [play_snoc]; simp only [Raw.app, upd_same, hPF, hTake], hA1, hSl, by unfold logF; rw [hlE]; exact hO.as _⟩
        · first | (exfalso; omega; done) | skip
          all_goals (
          have hpl' : ¬ (p : Int) < F.length := by omega
          clear hF
          ((try simp only [List.nil_append, List.append_nil] at hO); have hF := Own.cells hO; simp only [cellsOf_append, cellsOf_pt] at hF)
          go_wp2_with fail
          go_ret3
          exact ⟨bl, out, F.drop p, rs, sa, cp, S, A, rfl, by rw [hPF, ← hTake, List.take_append_drop], hStuck, hRecs, .inl rfl, by rw [hPF, ← hTake, List.take_of_length_le (by omega)], hA, hSl, by unfold logF; rw [hlE]; exact hO.as _⟩))
        by_cases hn1 : val4 (F.drop p) ≤ F.length - p - 4
        case neg =>
          have hStuck : Stuck (F.drop p) := .inr (.inr (by omega))
          generalize val4 (F.drop p) = n at hv hn0 hn1 ⊢
          have hn0' : ¬ (n : Int) = 0 := by omega
          have hn1' : ((F.length - p : Nat) : Int) - 4 < n := by omega
          ((try simp only [List.nil_append, List.append_nil] at hO); have hF := Own.cells hO; simp only [cellsOf_append, cellsOf_pt] at hF)
          (
        go_wp2_with (first | (refine own_store (v := ?_) (off := 2) (b := bl) hO ?_ ?_ ?_ ?_ ?_ ?_ ?_; rotate_left; (· rfl); (· ((conv => lhs; whnf); try exact rfl)); (· ((conv => lhs; whnf); try exact rfl)); (· simp [Value.cells]); (· simp [Value.cells, Value.oneCell']); (· simp [Value.cells]); clear hO; (try clear hF); intro _ hO; (try simp only [splice, Value.cells] at hO); ((try simp only [List.nil_append, List.append_nil] at hO); have hF := Own.cells hO; simp only [cellsOf_append, cellsOf_pt] at hF); simp only [Act.put, List.setIfInBounds_toArray, List.set_cons_zero, List.set_cons_succ]))
        simp only [splice, Value.cells, List.setIfInBounds_toArray, List.set_cons_zero, List.set_cons_succ] at hO
        refine region_sch (fun w' => Own E w' (pt bl (.cells #[.pointer (some ⟨d, 0, none⟩), .int .i64 p, .int .i64 out.length] 63 (0, 0)))) (.look 0 (.look 2 (.look 3 (.look 4 (.look 5 (.act 1 (.look 6 .done))))))) (by kernel_rfl) (by kernel_rfl) (fun _ _ d _ _ h => by cases d <;> exact h) ?_ ?_
        · exact hO.drew.as _
        replace hO := hO.drew
        generalize World.drew _ = w2 at hO ⊢
        (refine sch_look (o := ?_) (v := ?_) ?_ ?_ ?_ ?_; rotate_left 2; (· ((conv => lhs; whnf); try exact rfl)); (· rfl); (· intro w' hO'; (have hF' := Own.cells hO'; simp only [cellsOf_append, cellsOf_pt] at hF'); go_simp; (try exact rfl)); simp only [Act.put, List.setIfInBounds_toArray, List.set_cons_zero, List.set_cons_succ])
        (refine sch_look (o := ?_) (v := ?_) ?_ ?_ ?_ ?_; rotate_left 2; (· ((conv => lhs; whnf); try exact rfl)); (· rfl); (· intro w' hO'; (have hF' := Own.cells hO'; simp only [cellsOf_append, cellsOf_pt] at hF'); go_simp; (try exact rfl)); simp only [Act.put, List.setIfInBounds_toArray, List.set_cons_zero, List.set_cons_succ])
        (refine sch_look (o := ?_) (v := ?_) ?_ ?_ ?_ ?_; rotate_left 2; (· ((conv => lhs; whnf); try exact rfl)); (· rfl); (· intro w' hO'; (have hF' := Own.cells hO'; simp only [cellsOf_append, cellsOf_pt] at hF'); go_simp; (try exact rfl)); simp only [Act.put, List.setIfInBounds_toArray, List.set_cons_zero, List.set_cons_succ])
        (refine sch_look (o := ?_) (v := ?_) ?_ ?_ ?_ ?_; rotate_left 2; (· ((conv => lhs; whnf); try exact rfl)); (· rfl); (· intro w' hO'; (have hF' := Own.cells hO'; simp only [cellsOf_append, cellsOf_pt] at hF'); go_simp; (try exact rfl)); simp only [Act.put, List.setIfInBounds_toArray, List.set_cons_zero, List.set_cons_succ])
        (refine sch_look (o := ?_) (v := ?_) ?_ ?_ ?_ ?_; rotate_left 2; (· ((conv => lhs; whnf); try exact rfl)); (· rfl); (· intro w' hO'; (have hF' := Own.cells hO'; simp only [cellsOf_append, cellsOf_pt] at hF'); go_simp; (try exact rfl)); simp only [Act.put, List.setIfInBounds_toArray, List.set_cons_zero, List.set_cons_succ])
        (refine sch_act (o := ?_) ?_ ?_; rotate_left; (· ((conv => lhs; whnf); try exact rfl)))
        go_wp2_with fail
        refine (dSize E _ _ _ d rs A 0 hA hO).mono ?_; rw [sz_0, hPF]; rintro e w1 ⟨rfl, rfl⟩
        go_wp2_with fail
        refine ⟨hO.as _, ?_⟩
        (refine sch_look (o := ?_) (v := ?_) ?_ ?_ ?_ ?_; rotate_left 2; (· ((conv => lhs; whnf); try exact rfl)); (· rfl); (· intro w' hO'; (have hF' := Own.cells hO'; simp only [cellsOf_append, cellsOf_pt] at hF'); go_simp; (try exact rfl)); simp only [Act.put, List.setIfInBounds_toArray, List.set_cons_zero, List.set_cons_succ])
        refine sch_done ?_
        have hlE : (encs out).length = p := by rw [← hTake, List.length_take]; omega
        by_cases hpl : p < F.length
        · have hpl' : (p : Int) < F.length := by omega
          clear hF
          ((try simp only [List.nil_append, List.append_nil] at hO); have hF := Own.cells hO; simp only [cellsOf_append, cellsOf_pt] at hF)
          go_wp2_with fail
          refine (dTrim E _ _ _ d rs A 0 p hA hlen hO).mono ?_
          rw [tr_p hPF (by omega)]
          rintro e w1 ⟨rfl, A1, hA1, hO⟩
          go_wp2_with fail
          go_ret3
          exact ⟨bl, out, F.drop p, rs ++ [.trim 0 p], sa, cp, S, A1, rfl, by rw [hPF, ← hTake, List.take_append_drop], hStuck, hRecs, .inr (by rw [hlE]), by rw [play_snoc]; simp only [Raw.app, upd_same, hPF, hTake], hA1, hSl, by unfold logF; rw [hlE]; exact hO.as _⟩
        · first | (exfalso; omega; done) | skip
          all_goals (
          have hpl' : ¬ (p : Int) < F.length := by omega
          clear hF
          ((try simp only [List.nil_append, List.append_nil] at hO); have hF := Own.cells hO; simp only [cellsOf_append, cellsOf_pt] at hF)
          go_wp2_with fail
          go_ret3
          exact ⟨bl, out, F.drop p, rs, sa, cp, S, A, rfl, by rw [hPF, ← hTake, List.take_append_drop], hStuck, hRecs, .inl rfl, by rw [hPF, ← hTake, List.take_of_length_le (by omega)], hA, hSl, by unfold logF; rw [hlE]; exact hO.as _⟩))
        obtain ⟨hs1, hs2⟩ := rec_of (l := F.drop p) (by omega) (by omega)
        have hd4 : ((F.drop p).drop 4).take (val4 (F.drop p)) = ((F.drop p).drop 4).take (val4 (F.drop p)) := rfl
        generalize val4 (F.drop p) = n at hv hn0 hn1 hs1 hs2 ⊢
        clear hd4
        have hn0' : ¬ (n : Int) = 0 := by omega
        have hn1' : ¬ ((F.length - p : Nat) : Int) - 4 < n := by omega
        have hn2 : (4 : Int) + n ≤ rc := by omega
        have hn3 : (4 : Int) ≤ 4 + n := by omega
        have hon : out.length ≤ 4194304 := by have := encs_len hRecs; rw [← hTake, List.length_take] at this; omega
        have HS1 := Lib.hid hs1
        have HS2 := Lib.hid hs2
        clear hs1 hs2
        ((try simp only [List.nil_append, List.append_nil] at hO); have hF := Own.cells hO; simp only [cellsOf_append, cellsOf_pt] at hF)
        have hll : (((F.drop p).drop 4).take n).length = n := by rw [List.length_take, List.length_drop, List.length_drop]; omega
        go_wp2_with (first | (refine at_conv ?_; go_must (refine own_bytes_str (e := 5) (ad := some ⟨bb, p + 4, none⟩) (n := n) (cap := n) (l := ((F.drop p).drop 4).take n) (by kernel_rfl) (by kernel_rfl) (by kernel_rfl) ?_ ?_ ?_ ?_ ?_ ?_; (· rfl); (· ((conv => lhs; whnf); rw [Nat.add_sub_cancel_left])); (· exact hll); (· exact bytes_sub hO inferInstance p 4 n (by omega)); (· intro h; cases h); simp only [Act.put, List.setIfInBounds_toArray, List.set_cons_zero, List.set_cons_succ])) | (refine at_bs ?_; go_must (refine own_build1 (v := ?_) sltStrs hO ?_ ?_ ?_ ?_ ?_ ?_; rotate_left; (· rfl); (· ((conv => lhs; whnf); try exact rfl)); (· rfl); (· decide); (· decide); clear hO; (try clear hF); intro bs _ hO; (try simp only [Value.cells] at hO); ((try simp only [List.nil_append, List.append_nil] at hO); have hF := Own.cells hO; simp only [cellsOf_append, cellsOf_pt] at hF); simp only [Act.put, List.setIfInBounds_toArray, List.set_cons_zero, List.set_cons_succ])) | (refine at_append ?_; go_must (refine own_append_elem (b1 := ?_) (cs := ?_) (e1 := ?_) (f1 := ?_) sltStrs hO ?_ ?_ ?_ hSl ?_ ?_ ?_ ?_ ?_ ?_ ?_; rotate_left 4; (· rfl); (· rfl); (· rfl); (· exact inferInstance); (· rfl); (· intro u hu; simp at hu; subst hu; rfl); (· first | omega | (simp only [maxLen]; omega)); (· decide); (· first | omega | (simp only [maxLen]; omega)); clear hO; (try clear hF); intro _ _ _ _ hS hO; ((try simp only [List.nil_append, List.append_nil] at hO); have hF := Own.cells hO; simp only [cellsOf_append, cellsOf_pt] at hF); simp only [Act.put, List.setIfInBounds_toArray, List.set_cons_zero, List.set_cons_succ])) | (refine own_store (v := ?_) (off := 1) (b := bl) hO ?_ ?_ ?_ ?_ ?_ ?_ ?_; rotate_left; (· rfl); (· ((conv => lhs; whnf); try exact rfl)); (· ((conv => lhs; whnf); try exact rfl)); (· simp [Value.cells]); (· simp [Value.cells, Value.oneCell']); (· simp [Value.cells]); clear hO; (try clear hF); intro _ hO; (try simp only [splice, Value.cells] at hO); ((try simp only [List.nil_append, List.append_nil] at hO); have hF := Own.cells hO; simp only [cellsOf_append, cellsOf_pt] at hF); simp only [Act.put, List.setIfInBounds_toArray, List.set_cons_zero, List.set_cons_succ]))
        simp only [List.setIfInBounds_toArray, List.set_cons_zero, List.set_cons_succ] at hO
        rw [show (p : Int) + (4 + n) = ((p + (4 + n) : Nat) : Int) by omega] at hO
        go_roundw
        case rel =>
          have hs1 := HS1.out
          have hs2 := HS2.out
          have hlen1 : (out ++ [(⟨(((F.drop p).drop 4).take n).toArray⟩ : ByteArray)]).length = out.length + 1 := by simp
          refine ⟨out ++ [⟨(((F.drop p).drop 4).take n).toArray⟩], p + (4 + n), rc - (4 + n), _, _, _, _, by rw [hlen1], by rw [Nat.sub_sub], by omega, ?_, ?_, ?_, by omega, by omega, (by rw [hlen1, List.map_append]; exact hS), hO.as _⟩
          · rw [List.take_add, encs_snoc, hTake, hs2]
          · intro s hs
            rcases List.mem_append.1 hs with h | h
            · exact hRecs s h
            · cases List.mem_singleton.1 h
              omega
          · intro hlt
            rw [if_neg (by omega)]
        case measure => simp [slLen]; omega
end Go.Proofs.Ytkkeplobomncgaa
