/- vestibulelaw02: same. -/
import Derived.Test.YtkkeplobomncgaaLaw2b
set_option linter.all false
namespace Go.Proofs.Ytkkeplobomncgaa
open Go Go.RowKit Go.Own Go.Dk

theorem sz_ok (rs : List Raw) (j : Nat) (hj : j < 4) : sz rs j = (play rs j).length := by
  unfold sz
  rw [if_pos (by simp [fileOk]; omega)]
  simp
theorem rd_all (rs : List Raw) (j : Nat) (hj : j < 4) : rd rs j 0 (play rs j).length = (⟨(play rs j).toArray⟩, 0) := by
  unfold rd
  rw [if_pos ⟨by simp [fileOk]; omega, by omega, by omega, by simp, by simp⟩]
  simp
theorem sz_neg (rs : List Raw) : sz rs (-1) = 0 := rfl
theorem sz_4 (rs : List Raw) : sz rs 4 = 0 := rfl

theorem run_opBytes {P : Program} {E w : World} {X I R : Fr} {a : Act} {d : Option Tmp} {ty : TypeId} {pos : String} {aft : Array Edge} {g : Option (Nat × Bool)} {src dst e : TypeId} {x : Operand} {fa : Option Addr} {l : List UInt8} {c : Nat} (hO : Own E w X) (hr : Rd fa l c I) [hp : Pick X I R]
    (hx : a.eval x = .slice fa l.length c) (hs : P.underlying src = some (.slice e)) (he : P.underlying e = some (.int .u8)) (hd : P.underlying dst = some .string) :
    (execOp a.eval ⟨d, .convert src dst x, ty, pos, aft, g⟩).run P w = .ok (.value (.string ⟨l.toArray⟩)) w := by
  have := run_bytes_str (P := P) (w := w) (src := src) (dst := dst) (cap := c) hs he hd (ad := fa) (l := l) rfl (hr.cells hO) (fun h => by have := hr.nilLen h; have := hr.1; omega)
  simp [execOp, hx, this]

set_option maxRecDepth 100000 in
set_option maxHeartbeats 4000000 in
theorem same2 (E w : World) (X R I A : Fr) (d : Nat) (rs : List Raw) (q : Value) (hA : DiskAt d rs A) (hq : RefAt q rs I) (hlen : rs.length ≤ 8796093022208) (hO : Own E w X) [hp : Pick X (A ++ I) R] :
    Calls Try.prog 21 #[.pointer (some ⟨d, 0, none⟩), q] w fun e w' => e = .returned (.bool true) ∧ Own E w' (A ++ (I ++ R)) := by
  have hO0 := hO.perm hp.perm
  clear hp hO
  have hO := hO0
  clear hO0
  obtain ⟨fa, fc, rfl, hr⟩ := hq
  go_enter Try.func21, Try.ntmps21
  go_wp2_with (refine at_box (t := 28) ?_; go_must (refine own_box (v := ?_) hO ?_ ?_ ?_; rotate_left; (· rfl); (· ((conv => lhs; whnf); try exact rfl)); clear hO; (try clear hF); intro bq _ hO; (try simp only [Value.cells] at hO); ((try simp only [List.nil_append, List.append_nil] at hO); have hF := Own.cells hO; simp only [cellsOf_append, cellsOf_pt] at hF); simp only [Act.put, List.setIfInBounds_toArray, List.set_cons_zero, List.set_cons_succ]))
  have hOl : Own E _ (pt bq (.cells (rcells (fileVs fa (play rs) fc) (.int .i64 rs.length)) 28) ++ (A ++ (I ++ R))) := hO.as _
  clear hO hF
  go_loopw [5] (fun i wr => ∃ j : Nat, i = .int .i64 j ∧ j ≤ 4 ∧ Own E wr (pt bq (.cells (rcells (fileVs fa (play rs) fc) (.int .i64 rs.length)) 28) ++ (A ++ (I ++ R)))) (fun i _ => 4 - (intOf i).toNat)
  case atStart => exact ⟨0, rfl, by omega, hOl⟩
  case round =>
    clear hOl
    obtain ⟨j, rfl, hj, hO⟩ := hrel
    by_cases hlt : j < 4
    · have hj1 : (j : Int) < 4 := by omega
      have hj2 : (0 : Int) ≤ j := by omega
      have hget := rcells_get (fileVs fa (play rs) fc) (.int .i64 rs.length) j hlt
      have hfv : fileVs fa (play rs) fc j = .slice (fa j) (play rs j).length (fc j) := rfl
      rw [hfv] at hget
      clear hfv
      have HR := Lib.hid (hr j hlt)
      ((try simp only [List.nil_append, List.append_nil] at hO); have hF := Own.cells hO; simp only [cellsOf_append, cellsOf_pt] at hF)
      go_wp2_with (go_at_call 19; go_must (refine (dRead E _ _ _ d rs A j 0 _ hA hO).mono ?_; rintro e w1 ⟨rfl, rfl⟩; rw [rd_all rs j hlt]))
      refine region_mix (fun w' => Own E w' (pt bq (.cells (rcells (fileVs fa (play rs) fc) (.int .i64 rs.length)) 28) ++ I)) [(0,true),(1,true),(3,true),(4,true),(5,true),(6,true),(7,true),(2,false),(8,true),(9,true),(10,true),(11,true),(12,true),(13,true),(14,true),(15,true),(16,true),(17,true),(18,true),(19,true),(20,true),(21,true)] (by kernel_rfl) (by kernel_rfl) (fun _ _ d _ _ h => by cases d <;> exact h) ?_ ?_
      · exact hO.drew.as _
      replace hO := hO.drew
      generalize World.drew _ = w2 at hO ⊢
      simp only [mixOps, List.map_cons, List.map_nil, Array.getD_eq_getD_getElem?, List.getElem?_toArray, List.getElem?_cons_zero, List.getElem?_cons_succ, Option.getD_some]
      (refine mix_look (v := ?_) ?_ ?_ ?_; rotate_left; (· rfl); (· intro w' hO'; (have hF' := Own.cells hO'; simp only [cellsOf_append, cellsOf_pt] at hF'); go_simp; (try exact rfl)); simp only [Act.put, List.setIfInBounds_toArray, List.set_cons_zero, List.set_cons_succ])
      (refine mix_look (v := ?_) ?_ ?_ ?_; rotate_left; (· rfl); (· intro w' hO'; (have hF' := Own.cells hO'; simp only [cellsOf_append, cellsOf_pt] at hF'); go_simp; (try exact rfl)); simp only [Act.put, List.setIfInBounds_toArray, List.set_cons_zero, List.set_cons_succ])
      (refine mix_look (v := ?_) ?_ ?_ ?_; rotate_left; (· rfl); (· intro w' hO'; (have hF' := Own.cells hO'; simp only [cellsOf_append, cellsOf_pt] at hF'); go_simp; (try exact rfl)); simp only [Act.put, List.setIfInBounds_toArray, List.set_cons_zero, List.set_cons_succ])
      (refine mix_look (v := ?_) ?_ ?_ ?_; rotate_left; (· rfl); (· intro w' hO'; (have hF' := Own.cells hO'; simp only [cellsOf_append, cellsOf_pt] at hF'); go_simp; (try exact rfl)); simp only [Act.put, List.setIfInBounds_toArray, List.set_cons_zero, List.set_cons_succ])
      (refine mix_look (v := ?_) ?_ ?_ ?_; rotate_left; (· rfl); (· intro w' hO'; (have hF' := Own.cells hO'; simp only [cellsOf_append, cellsOf_pt] at hF'); go_simp; (try exact rfl)); simp only [Act.put, List.setIfInBounds_toArray, List.set_cons_zero, List.set_cons_succ])
      (refine mix_look (v := ?_) ?_ ?_ ?_; rotate_left; (· rfl); (· intro w' hO'; (have hF' := Own.cells hO'; simp only [cellsOf_append, cellsOf_pt] at hF'); go_simp; (try exact rfl)); simp only [Act.put, List.setIfInBounds_toArray, List.set_cons_zero, List.set_cons_succ])
      (refine mix_look (v := ?_) ?_ ?_ ?_; rotate_left; (· rfl); (· intro w' hO'; (have hF' := Own.cells hO'; simp only [cellsOf_append, cellsOf_pt] at hF'); go_simp; (try exact rfl)); simp only [Act.put, List.setIfInBounds_toArray, List.set_cons_zero, List.set_cons_succ])
      refine mix_act ?_
      go_wp2_with (go_at_call 26; go_must (refine (dSize E _ _ _ d rs A j hA hO).mono ?_; rintro e w1 ⟨rfl, rfl⟩; rw [sz_ok rs j hlt]))
      refine ⟨hO.as _, ?_⟩
      (refine mix_look (v := ?_) ?_ ?_ ?_; rotate_left; (· rfl); (· intro w' hO'; (have hF' := Own.cells hO'; simp only [cellsOf_append, cellsOf_pt] at hF'); go_simp; (try exact rfl)); simp only [Act.put, List.setIfInBounds_toArray, List.set_cons_zero, List.set_cons_succ])
      (refine mix_look (v := ?_) ?_ ?_ ?_; rotate_left; (· rfl); (· intro w' hO'; (have hF' := Own.cells hO'; simp only [cellsOf_append, cellsOf_pt] at hF'); go_simp; (try exact rfl)); simp only [Act.put, List.setIfInBounds_toArray, List.set_cons_zero, List.set_cons_succ])
      (refine mix_look (v := ?_) ?_ ?_ ?_; rotate_left; (· rfl); (· intro w' hO'; (have hF' := Own.cells hO'; simp only [cellsOf_append, cellsOf_pt] at hF'); go_simp; (try exact rfl)); simp only [Act.put, List.setIfInBounds_toArray, List.set_cons_zero, List.set_cons_succ])
      (refine mix_look (v := ?_) ?_ ?_ ?_; rotate_left; (· rfl); (· intro w' hO'; (have hF' := Own.cells hO'; simp only [cellsOf_append, cellsOf_pt] at hF'); go_simp; (try exact rfl)); simp only [Act.put, List.setIfInBounds_toArray, List.set_cons_zero, List.set_cons_succ])
      (refine mix_look (v := ?_) ?_ ?_ ?_; rotate_left; (· rfl); (· intro w' hO'; (have hF' := Own.cells hO'; simp only [cellsOf_append, cellsOf_pt] at hF'); go_simp; (try exact rfl)); simp only [Act.put, List.setIfInBounds_toArray, List.set_cons_zero, List.set_cons_succ])
      (refine mix_look (v := ?_) ?_ ?_ ?_; rotate_left; (· rfl); (· intro w' hO'; (have hF' := Own.cells hO'; simp only [cellsOf_append, cellsOf_pt] at hF'); go_simp; (try exact rfl)); simp only [Act.put, List.setIfInBounds_toArray, List.set_cons_zero, List.set_cons_succ])
      (refine mix_look (v := ?_) ?_ ?_ ?_; rotate_left; (· rfl); (· intro w' hO'; (have hF' := Own.cells hO'; simp only [cellsOf_append, cellsOf_pt] at hF'); go_simp; (try exact rfl)); simp only [Act.put, List.setIfInBounds_toArray, List.set_cons_zero, List.set_cons_succ])
      (refine mix_look (v := ?_) ?_ ?_ ?_; rotate_left; (· rfl); (· intro w' hO'; (have hF' := Own.cells hO'; simp only [cellsOf_append, cellsOf_pt] at hF'); go_simp; (try exact rfl)); simp only [Act.put, List.setIfInBounds_toArray, List.set_cons_zero, List.set_cons_succ])
      (refine mix_look (v := ?_) ?_ ?_ ?_; rotate_left; (· rfl); (· intro w' hO'; (have hF' := Own.cells hO'; simp only [cellsOf_append, cellsOf_pt] at hF'); go_simp; (try exact rfl)); simp only [Act.put, List.setIfInBounds_toArray, List.set_cons_zero, List.set_cons_succ])
      (refine mix_look (v := ?_) ?_ ?_ ?_; rotate_left; (· rfl); (· intro w' hO'; (have hF' := Own.cells hO'; simp only [cellsOf_append, cellsOf_pt] at hF'); go_simp; (try exact rfl)); simp only [Act.put, List.setIfInBounds_toArray, List.set_cons_zero, List.set_cons_succ])
      (refine mix_look (v := ?_) ?_ ?_ ?_; rotate_left; (· rfl); (· intro w' hO'; (have hF' := Own.cells hO'; simp only [cellsOf_append, cellsOf_pt] at hF'); go_simp; (try exact rfl)); simp only [Act.put, List.setIfInBounds_toArray, List.set_cons_zero, List.set_cons_succ])
      refine mix_look (v := .string ⟨(play rs j).toArray⟩) ?_ ?_ ?_
      · rfl
      · intro w' hO'; exact run_opBytes (e := 5) hO' HR.out rfl (by kernel_rfl) (by kernel_rfl) (by kernel_rfl)
      simp only [Act.put, List.setIfInBounds_toArray, List.set_cons_zero, List.set_cons_succ]
      (refine mix_look (v := ?_) ?_ ?_ ?_; rotate_left; (· rfl); (· intro w' hO'; (have hF' := Own.cells hO'; simp only [cellsOf_append, cellsOf_pt] at hF'); go_simp; (try exact rfl)); simp only [Act.put, List.setIfInBounds_toArray, List.set_cons_zero, List.set_cons_succ])
      (refine mix_look (v := ?_) ?_ ?_ ?_; rotate_left; (· rfl); (· intro w' hO'; (have hF' := Own.cells hO'; simp only [cellsOf_append, cellsOf_pt] at hF'); go_simp; (try exact rfl)); simp only [Act.put, List.setIfInBounds_toArray, List.set_cons_zero, List.set_cons_succ])
      refine mix_done ?_
      go_wp2
      go_roundw
      case rel => exact ⟨j + 1, by go_num, by omega, hO⟩
      case measure => simp [intOf]; omega
    · have hj4 : j = 4 := by omega
      subst hj4
      ((try simp only [List.nil_append, List.append_nil] at hO); have hF := Own.cells hO; simp only [cellsOf_append, cellsOf_pt] at hF)
      go_wp2_with fail
      refine region_mix (fun w' => Own E w' (pt bq (.cells (rcells (fileVs fa (play rs) fc) (.int .i64 rs.length)) 28) ++ I)) [(0,true),(2,true),(3,true),(1,false),(4,true),(5,true),(6,true),(7,false),(8,true),(9,true),(10,true),(11,true),(12,false),(13,true),(14,true),(15,true)] (by kernel_rfl) (by kernel_rfl) (fun _ _ d _ _ h => by cases d <;> exact h) ?_ ?_
      · exact hO.drew.as _
      replace hO := hO.drew
      generalize World.drew _ = w2 at hO ⊢
      simp only [mixOps, List.map_cons, List.map_nil, Array.getD_eq_getD_getElem?, List.getElem?_toArray, List.getElem?_cons_zero, List.getElem?_cons_succ, Option.getD_some]
      (refine mix_look (v := ?_) ?_ ?_ ?_; rotate_left; (· rfl); (· intro w' hO'; (have hF' := Own.cells hO'; simp only [cellsOf_append, cellsOf_pt] at hF'); go_simp; (try exact rfl)); simp only [Act.put, List.setIfInBounds_toArray, List.set_cons_zero, List.set_cons_succ])
      (refine mix_look (v := ?_) ?_ ?_ ?_; rotate_left; (· rfl); (· intro w' hO'; (have hF' := Own.cells hO'; simp only [cellsOf_append, cellsOf_pt] at hF'); go_simp; (try exact rfl)); simp only [Act.put, List.setIfInBounds_toArray, List.set_cons_zero, List.set_cons_succ])
      (refine mix_look (v := ?_) ?_ ?_ ?_; rotate_left; (· rfl); (· intro w' hO'; (have hF' := Own.cells hO'; simp only [cellsOf_append, cellsOf_pt] at hF'); go_simp; (try exact rfl)); simp only [Act.put, List.setIfInBounds_toArray, List.set_cons_zero, List.set_cons_succ])
      refine mix_act ?_
      go_wp2_with (go_at_call 25; go_must (refine (dWrites E _ _ _ d rs A hA hO).mono ?_; rintro e w1 ⟨rfl, rfl⟩))
      refine ⟨hO.as _, ?_⟩
      (refine mix_look (v := ?_) ?_ ?_ ?_; rotate_left; (· rfl); (· intro w' hO'; (have hF' := Own.cells hO'; simp only [cellsOf_append, cellsOf_pt] at hF'); go_simp; (try exact rfl)); simp only [Act.put, List.setIfInBounds_toArray, List.set_cons_zero, List.set_cons_succ])
      (refine mix_look (v := ?_) ?_ ?_ ?_; rotate_left; (· rfl); (· intro w' hO'; (have hF' := Own.cells hO'; simp only [cellsOf_append, cellsOf_pt] at hF'); go_simp; (try exact rfl)); simp only [Act.put, List.setIfInBounds_toArray, List.set_cons_zero, List.set_cons_succ])
      (refine mix_look (v := ?_) ?_ ?_ ?_; rotate_left; (· rfl); (· intro w' hO'; (have hF' := Own.cells hO'; simp only [cellsOf_append, cellsOf_pt] at hF'); go_simp; (try exact rfl)); simp only [Act.put, List.setIfInBounds_toArray, List.set_cons_zero, List.set_cons_succ])
      refine mix_act ?_
      go_wp2_with (go_at_call 26; go_must (refine (dSize E _ _ _ d rs A (-1) hA hO).mono ?_; rintro e w1 ⟨rfl, rfl⟩; rw [sz_neg]))
      refine ⟨hO.as _, ?_⟩
      (refine mix_look (v := ?_) ?_ ?_ ?_; rotate_left; (· rfl); (· intro w' hO'; (have hF' := Own.cells hO'; simp only [cellsOf_append, cellsOf_pt] at hF'); go_simp; (try exact rfl)); simp only [Act.put, List.setIfInBounds_toArray, List.set_cons_zero, List.set_cons_succ])
      (refine mix_look (v := ?_) ?_ ?_ ?_; rotate_left; (· rfl); (· intro w' hO'; (have hF' := Own.cells hO'; simp only [cellsOf_append, cellsOf_pt] at hF'); go_simp; (try exact rfl)); simp only [Act.put, List.setIfInBounds_toArray, List.set_cons_zero, List.set_cons_succ])
      (refine mix_look (v := ?_) ?_ ?_ ?_; rotate_left; (· rfl); (· intro w' hO'; (have hF' := Own.cells hO'; simp only [cellsOf_append, cellsOf_pt] at hF'); go_simp; (try exact rfl)); simp only [Act.put, List.setIfInBounds_toArray, List.set_cons_zero, List.set_cons_succ])
      (refine mix_look (v := ?_) ?_ ?_ ?_; rotate_left; (· rfl); (· intro w' hO'; (have hF' := Own.cells hO'; simp only [cellsOf_append, cellsOf_pt] at hF'); go_simp; (try exact rfl)); simp only [Act.put, List.setIfInBounds_toArray, List.set_cons_zero, List.set_cons_succ])
      refine mix_act ?_
      go_wp2_with (go_at_call 26; go_must (refine (dSize E _ _ _ d rs A 4 hA hO).mono ?_; rintro e w1 ⟨rfl, rfl⟩; rw [sz_4]))
      refine ⟨hO.as _, ?_⟩
      (refine mix_look (v := ?_) ?_ ?_ ?_; rotate_left; (· rfl); (· intro w' hO'; (have hF' := Own.cells hO'; simp only [cellsOf_append, cellsOf_pt] at hF'); go_simp; (try exact rfl)); simp only [Act.put, List.setIfInBounds_toArray, List.set_cons_zero, List.set_cons_succ])
      (refine mix_look (v := ?_) ?_ ?_ ?_; rotate_left; (· rfl); (· intro w' hO'; (have hF' := Own.cells hO'; simp only [cellsOf_append, cellsOf_pt] at hF'); go_simp; (try exact rfl)); simp only [Act.put, List.setIfInBounds_toArray, List.set_cons_zero, List.set_cons_succ])
      (refine mix_look (v := ?_) ?_ ?_ ?_; rotate_left; (· rfl); (· intro w' hO'; (have hF' := Own.cells hO'; simp only [cellsOf_append, cellsOf_pt] at hF'); go_simp; (try exact rfl)); simp only [Act.put, List.setIfInBounds_toArray, List.set_cons_zero, List.set_cons_succ])
      refine mix_done ?_
      go_wp2
      go_ret
      exact ⟨rfl, hO.as _⟩
end Go.Proofs.Ytkkeplobomncgaa
