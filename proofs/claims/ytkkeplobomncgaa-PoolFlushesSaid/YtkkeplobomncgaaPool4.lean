/- The pool's contracts: the writing back of a frame. -/
import Derived.Test.YtkkeplobomncgaaPool3
set_option linter.all false
namespace Go.Proofs.Ytkkeplobomncgaa
open Go Go.RowKit Go.Own Go.Dk

def wrR (rs : List Raw) (f : Frm) : List Raw := if f.changed then rs ++ [.put 1 (512 * f.page) ⟨f.bytes.toArray⟩] else rs
theorem wr_pg {rs : List Raw} {f : Frm} (hfl : f.bytes.length = 512) (hpg : f.page < 4096) : wr rs 1 ((f.page : Int) * 512) ⟨f.bytes.toArray⟩ = (rs ++ [.put 1 (512 * f.page) ⟨f.bytes.toArray⟩], 0) := by
  have h4 : (⟨f.bytes.toArray⟩ : ByteArray).size = 512 := by simp [ByteArray.size, hfl]
  unfold wr
  rw [if_pos ⟨by decide, by omega, by omega, by omega⟩]
  congr 4
  omega

theorem run_opBytesPt {P : Program} {E w : World} {X : Fr} {a : Act} {d : Option Tmp} {ty : TypeId} {pos : String} {aft : Array Edge} {g : Option (Nat × Bool)} {src dst e e' : TypeId} {x : Operand} {b : Nat} {l : List UInt8} {c : Nat} {f : Nat × Nat} (hO : Own E w X) [hh : Has X b (.cells (bytesV l).toArray e' f)]
    (hx : a.eval x = .slice (some ⟨b, 0, none⟩) l.length c) (hs : P.underlying src = some (.slice e)) (he : P.underlying e = some (.int .u8)) (hd : P.underlying dst = some .string) :
    (execOp a.eval ⟨d, .convert src dst x, ty, pos, aft, g⟩).run P w = .ok (.value (.string ⟨l.toArray⟩)) w := by
  have := run_bytes_str (P := P) (w := w) (src := src) (dst := dst) (cap := c) hs he hd (ad := some ⟨b, 0, none⟩) (l := l) rfl (by intro b' hb j v hj; cases hb; rw [add_lit, hO.cell (b := b)]; simpa using hj) (fun h => by cases h)
  simp [execOp, hx, this]

set_option maxRecDepth 100000 in
set_option maxHeartbeats 4000000 in
theorem pWr (E w : World) (X R P D : Fr) (p d most hand : Nat) (pre post : List Frm) (f : Frm) (l : List (Int × Value)) (rs : List Raw) (hP : PoolP p d most hand (pre ++ f :: post) l P) (hD : DiskAt d rs D) (hfl : f.bytes.length = 512) (hpg : f.page < 4096) (hlen : rs.length ≤ 8796093022208) (hO : Own E w X) [hp : Pick X (P ++ D) R] :
    Calls Try.prog 53 #[.pointer (some ⟨p, 0, none⟩), .pointer (some ⟨f.blk, 0, none⟩)] w fun e w' => e = .returned (.tuple #[]) ∧ ∃ P' D', PoolP p d most hand (pre ++ { f with changed := false } :: post) l P' ∧ DiskAt d (wrR rs f) D' ∧ Own E w' (P' ++ (D' ++ R)) := by
  obtain ⟨la, lc, mb, S, M, hS, hM, rfl⟩ := hP
  replace hO := hO.perm hp.perm
  clear hp
  have hpg1 : (f.page : Int) < 4096 := by omega
  rw [frmsF_app, frmsF_cons] at hO
  unfold frmF at hO
  have el : ∀ g : Frm, (pre ++ g :: post).length = (pre ++ f :: post).length := fun g => by simp
  unfold wrR
  generalize hnl : (pre ++ f :: post).length = nl at hO
  cases hc : f.changed
  · rw [hc] at hO
    ((try simp only [List.nil_append, List.append_nil] at hO); have hF := Own.cells hO; simp only [cellsOf_append, cellsOf_pt] at hF)
    go_enter Try.func53, Try.ntmps53
    go_wp2
    go_end0
    have ef : { f with changed := false } = f := by rw [← hc]
    rw [ef]
    refine ⟨rfl, _, ⟨la, lc, mb, S, M, hS, hM, rfl⟩, D, hD, ?_⟩
    rw [frmsF_app, frmsF_cons, hnl]
    unfold frmF
    rw [hc]
    exact hO.as _
  · rw [hc] at hO
    rw [if_pos rfl]
    have hw := wr_pg (rs := rs) hfl hpg
    ((try simp only [List.nil_append, List.append_nil] at hO); have hF := Own.cells hO; simp only [cellsOf_append, cellsOf_pt] at hF)
    go_enter Try.func53, Try.ntmps53
    go_wp2_with fail
    refine region_sch (fun w' => Own E w' (pt p (.cells #[.pointer (some ⟨d, 0, none⟩), .int .i64 most, .slice la nl lc, .int .i64 hand, .map (some mb)] 90 (0, 0)) ++ (pt f.blk (.cells #[.int .i64 f.page, .slice (some ⟨f.bb, 0, none⟩) 512 512, .int .i64 f.pins, .bool true, .bool f.lately] 106 (0, 0)) ++ pt f.bb (.cells (bytesV f.bytes).toArray 5 (0, 0))))) (.look 0 (.look 1 (.look 2 (.look 3 (.look 4 (.look 5 (.look 6 (.look 7 (.look 8 (.look 9 (.look 10 (.look 11 (.look 12 (.look 13 (.act 14 .done))))))))))))))) (by kernel_rfl) (by kernel_rfl) (fun _ _ d _ _ h => by cases d <;> exact h) ?_ ?_
    · exact hO.drew.as _
    replace hO := hO.drew
    generalize World.drew _ = w2 at hO ⊢
    (refine sch_look (o := ?_) (v := ?_) ?_ ?_ ?_ ?_; rotate_left 2; (· ((conv => lhs; whnf); try exact rfl)); (· rfl); (· intro w' hO'; (have hF' := Own.cells hO'; simp only [cellsOf_append, cellsOf_pt] at hF'); go_simp; (try exact rfl)); simp only [Act.put, List.setIfInBounds_toArray, List.set_cons_zero, List.set_cons_succ])
    (refine sch_look (o := ?_) (v := ?_) ?_ ?_ ?_ ?_; rotate_left 2; (· ((conv => lhs; whnf); try exact rfl)); (· rfl); (· intro w' hO'; (have hF' := Own.cells hO'; simp only [cellsOf_append, cellsOf_pt] at hF'); go_simp; (try exact rfl)); simp only [Act.put, List.setIfInBounds_toArray, List.set_cons_zero, List.set_cons_succ])
    (refine sch_look (o := ?_) (v := ?_) ?_ ?_ ?_ ?_; rotate_left 2; (· ((conv => lhs; whnf); try exact rfl)); (· rfl); (· intro w' hO'; (have hF' := Own.cells hO'; simp only [cellsOf_append, cellsOf_pt] at hF'); go_simp; (try exact rfl)); simp only [Act.put, List.setIfInBounds_toArray, List.set_cons_zero, List.set_cons_succ])
    (refine sch_look (o := ?_) (v := ?_) ?_ ?_ ?_ ?_; rotate_left 2; (· ((conv => lhs; whnf); try exact rfl)); (· rfl); (· intro w' hO'; (have hF' := Own.cells hO'; simp only [cellsOf_append, cellsOf_pt] at hF'); go_simp; (try exact rfl)); simp only [Act.put, List.setIfInBounds_toArray, List.set_cons_zero, List.set_cons_succ])
    (refine sch_look (o := ?_) (v := ?_) ?_ ?_ ?_ ?_; rotate_left 2; (· ((conv => lhs; whnf); try exact rfl)); (· rfl); (· intro w' hO'; (have hF' := Own.cells hO'; simp only [cellsOf_append, cellsOf_pt] at hF'); go_simp; (try exact rfl)); simp only [Act.put, List.setIfInBounds_toArray, List.set_cons_zero, List.set_cons_succ])
    (refine sch_look (o := ?_) (v := ?_) ?_ ?_ ?_ ?_; rotate_left 2; (· ((conv => lhs; whnf); try exact rfl)); (· rfl); (· intro w' hO'; (have hF' := Own.cells hO'; simp only [cellsOf_append, cellsOf_pt] at hF'); go_simp; (try exact rfl)); simp only [Act.put, List.setIfInBounds_toArray, List.set_cons_zero, List.set_cons_succ])
    (refine sch_look (o := ?_) (v := ?_) ?_ ?_ ?_ ?_; rotate_left 2; (· ((conv => lhs; whnf); try exact rfl)); (· rfl); (· intro w' hO'; (have hF' := Own.cells hO'; simp only [cellsOf_append, cellsOf_pt] at hF'); go_simp; (try exact rfl)); simp only [Act.put, List.setIfInBounds_toArray, List.set_cons_zero, List.set_cons_succ])
    (refine sch_look (o := ?_) (v := ?_) ?_ ?_ ?_ ?_; rotate_left 2; (· ((conv => lhs; whnf); try exact rfl)); (· rfl); (· intro w' hO'; (have hF' := Own.cells hO'; simp only [cellsOf_append, cellsOf_pt] at hF'); go_simp; (try exact rfl)); simp only [Act.put, List.setIfInBounds_toArray, List.set_cons_zero, List.set_cons_succ])
    (refine sch_look (o := ?_) (v := ?_) ?_ ?_ ?_ ?_; rotate_left 2; (· ((conv => lhs; whnf); try exact rfl)); (· rfl); (· intro w' hO'; (have hF' := Own.cells hO'; simp only [cellsOf_append, cellsOf_pt] at hF'); go_simp; (try exact rfl)); simp only [Act.put, List.setIfInBounds_toArray, List.set_cons_zero, List.set_cons_succ])
    (refine sch_look (o := ?_) (v := ?_) ?_ ?_ ?_ ?_; rotate_left 2; (· ((conv => lhs; whnf); try exact rfl)); (· rfl); (· intro w' hO'; (have hF' := Own.cells hO'; simp only [cellsOf_append, cellsOf_pt] at hF'); go_simp; (try exact rfl)); simp only [Act.put, List.setIfInBounds_toArray, List.set_cons_zero, List.set_cons_succ])
    (refine sch_look (o := ?_) (v := ?_) ?_ ?_ ?_ ?_; rotate_left 2; (· ((conv => lhs; whnf); try exact rfl)); (· rfl); (· intro w' hO'; (have hF' := Own.cells hO'; simp only [cellsOf_append, cellsOf_pt] at hF'); go_simp; (try exact rfl)); simp only [Act.put, List.setIfInBounds_toArray, List.set_cons_zero, List.set_cons_succ])
    (refine sch_look (o := ?_) (v := ?_) ?_ ?_ ?_ ?_; rotate_left 2; (· ((conv => lhs; whnf); try exact rfl)); (· rfl); (· intro w' hO'; (have hF' := Own.cells hO'; simp only [cellsOf_append, cellsOf_pt] at hF'); go_simp; (try exact rfl)); simp only [Act.put, List.setIfInBounds_toArray, List.set_cons_zero, List.set_cons_succ])
    (refine sch_look (o := ?_) (v := ?_) ?_ ?_ ?_ ?_; rotate_left 2; (· ((conv => lhs; whnf); try exact rfl)); (· rfl); (· intro w' hO'; (have hF' := Own.cells hO'; simp only [cellsOf_append, cellsOf_pt] at hF'); go_simp; (try exact rfl)); simp only [Act.put, List.setIfInBounds_toArray, List.set_cons_zero, List.set_cons_succ])
    (refine sch_look (o := ?_) (v := .string ⟨f.bytes.toArray⟩) ?_ ?_ ?_ ?_; rotate_left; (· ((conv => lhs; whnf); try exact rfl)); (· rfl); (· intro w' hO'; exact run_opBytesPt (e := 5) (b := f.bb) (l := f.bytes) hO' (by rw [hfl]; rfl) (by kernel_rfl) (by kernel_rfl) (by kernel_rfl)); simp only [Act.put, List.setIfInBounds_toArray, List.set_cons_zero, List.set_cons_succ])
    (refine sch_act (o := ?_) ?_ ?_; rotate_left; (· ((conv => lhs; whnf); try exact rfl)))
    go_wp2_with fail
    refine (dWrite E _ _ _ d rs D 1 _ ⟨f.bytes.toArray⟩ (by simp [ByteArray.size, hfl, maxLen]) hD hlen hO).mono ?_; rw [hw]; rintro e w1 ⟨rfl, D1, hD1, hO⟩
    go_wp2_with fail
    refine ⟨hO.as _, ?_⟩
    refine sch_done ?_
    clear hF
    ((try simp only [List.nil_append, List.append_nil] at hO); have hF := Own.cells hO; simp only [cellsOf_append, cellsOf_pt] at hF)
    go_wp2_with (first | (refine own_store (v := ?_) (off := 3) (b := f.blk) hO ?_ ?_ ?_ ?_ ?_ ?_ ?_; rotate_left; (· rfl); (· ((conv => lhs; whnf); try exact rfl)); (· ((conv => lhs; whnf); try exact rfl)); (· simp [Value.cells]); (· simp [Value.cells, Value.oneCell']); (· simp [Value.cells]); clear hO; (try clear hF); intro _ hO; (try simp only [splice, Value.cells] at hO); ((try simp only [List.nil_append, List.append_nil] at hO); have hF := Own.cells hO; simp only [cellsOf_append, cellsOf_pt] at hF); simp only [Act.put, List.setIfInBounds_toArray, List.set_cons_zero, List.set_cons_succ]))
    simp only [splice, Value.cells, List.setIfInBounds_toArray, List.set_cons_zero, List.set_cons_succ] at hO
    go_end0
    refine ⟨rfl, _, D1, ⟨la, lc, mb, S, M, PoolP.same f _ rfl hS, hM, rfl⟩, hD1, ?_⟩
    rw [frmsF_app, frmsF_cons, el, hnl]
    unfold frmF
    exact hO.as _
end Go.Proofs.Ytkkeplobomncgaa
