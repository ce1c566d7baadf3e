/- The pool's contracts: Held. -/
import Derived.Test.YtkkeplobomncgaaPool8
import Derived.Test.YtkkeplobomncgaaMapR
import Derived.Test.YtkkeplobomncgaaSortI
set_option linter.all false
namespace Go.Proofs.Ytkkeplobomncgaa
open Go Go.RowKit Go.Own Go.Dk

theorem sltInts : SlT Try.prog 70 3 1 8 (.int .i64 0) := ⟨by kernel_rfl, by kernel_rfl, rfl⟩
def HeldPost (E : World) (p d most hand : Nat) (fs : List Frm) (l : List (Int × Value)) (R : Fr) (e : Ending) (w' : World) : Prop :=
  ∃ (sa : Option Addr) (cap : Nat) (hs : List Int) (S P : Fr), e = .returned (.slice sa hs.length cap) ∧ hs.Perm (l.map (·.1)) ∧ hs.Pairwise (fun x y => x < y) ∧ Sl 3 1 sa hs.length cap (hs.map (Value.int .i64)) S ∧ PoolP p d most hand fs l P ∧ Own E w' (S ++ (P ++ R))

def slN : Value → Nat
  | .slice _ n _ => n
  | _ => 0

set_option maxRecDepth 100000 in
set_option maxHeartbeats 4000000 in
theorem pHeld (E w : World) (X R P : Fr) (p d most hand : Nat) (fs : List Frm) (l : List (Int × Value)) (hP : PoolP p d most hand fs l P) (hl : l.length ≤ 4096) (hm : 0 < most) (hO : Own E w X) [hp : Pick X P R] :
    Calls Try.prog 44 #[.pointer (some ⟨p, 0, none⟩)] w (HeldPost E p d most hand fs l R) := by
  replace hO := hO.perm hp.perm
  clear hp
  go_enter Try.func44, Try.ntmps44
  go_wp2_with fail
  refine (pGiven E _ _ _ P p d most hand _ l hP hm hO).mono ?_; rintro e w1 ⟨rfl, rfl⟩
  obtain ⟨la, lc, mb, S, M, hSS, hM, rfl⟩ := hP
  ((try simp only [List.nil_append, List.append_nil] at hO); have hF := Own.cells hO; simp only [cellsOf_append, cellsOf_pt] at hF)
  go_wp2_with (refine at_rng ?_; go_must (refine own_range (kt := 3) (et := 103) (b := mb) (l := l) (by kernel_rfl) hO hM ?_ ?_ ?_; (· rfl); (· rfl); clear hO; (try clear hF); intro r _ A1 hR hO; ((try simp only [List.nil_append, List.append_nil] at hO); have hF := Own.cells hO; simp only [cellsOf_append, cellsOf_pt] at hF); simp only [Act.put, List.setIfInBounds_toArray, List.set_cons_zero, List.set_cons_succ]))
  have hO0 := hO
  clear hO hF
  go_loopw [3] (fun s3 wr => ∃ (done : List Int) (sa : Option Addr) (cap : Nat) (Z A1 : Fr), s3 = .slice sa done.length cap ∧ Sl 3 1 sa done.length cap (done.map (Value.int .i64)) Z ∧ Ranging r mb l done A1 ∧
      Own E wr (pt p (.cells #[.pointer (some ⟨d, 0, none⟩), .int .i64 most, .slice la fs.length lc, .int .i64 hand, .map (some mb)] 90 (0, 0)) ++ (S ++ (Z ++ (A1 ++ (frmsF fs ++ R)))))) (fun s3 _ => l.length - slN s3)
  case atStart => exact ⟨[], none, 0, [], A1, rfl, Sl.nil _ _, hR, hO0.as _⟩
  case round =>
    clear hO0 hR
    obtain ⟨done, sa, cap, Z, A1, rfl, hZ, hR, hO⟩ := hrel
    have hle := hR.le
    ((try simp only [List.nil_append, List.append_nil] at hO); have hF := Own.cells hO; simp only [cellsOf_append, cellsOf_pt] at hF)
    go_wp2_with (refine at_nxt ?_; go_must (refine own_next (r := r) (b := mb) (l := l) (done := done) hO hR ?_ ?_ ?_ ?_; (· rfl); (· rfl)))
    · intro hperm
      simp only [Act.put, List.setIfInBounds_toArray, List.set_cons_zero, List.set_cons_succ]
      go_wp2_with fail
      refine (sortI E _ _ _ Z sa cap done hZ (by omega) hO).mono ?_; rintro e w1 ⟨rfl, Z2, hZ2, hO⟩
      go_wp2_with fail
      go_ret
      obtain ⟨I, M2, hM2, rfl⟩ := hR.back
      refine ⟨sa, cap, srt done, Z2, _, by rw [srt_length]; rfl, (srt_perm done).trans hperm, srt_rise hR.nodup.1, by rw [srt_length]; exact hZ2, ⟨la, lc, mb, S, M2, hSS, hM2, rfl⟩, ?_⟩
      exact hO.as _
    · intro k v w2 A2 hR2 hO hen
      simp only [Act.put, List.setIfInBounds_toArray, List.set_cons_zero, List.set_cons_succ]
      clear hF
      ((try simp only [List.nil_append, List.append_nil] at hO); have hF := Own.cells hO; simp only [cellsOf_append, cellsOf_pt] at hF)
      go_wp2_with (first | (refine at_bs ?_; go_must (refine own_build1 (v := ?_) sltInts hO ?_ ?_ ?_ ?_ ?_ ?_; rotate_left; (· rfl); (· ((conv => lhs; whnf); try exact rfl)); (· rfl); (· decide); (· decide); clear hO; (try clear hF); intro bs _ hO; (try simp only [Value.cells] at hO); ((try simp only [List.nil_append, List.append_nil] at hO); have hF := Own.cells hO; simp only [cellsOf_append, cellsOf_pt] at hF); simp only [Act.put, List.setIfInBounds_toArray, List.set_cons_zero, List.set_cons_succ])) | (refine at_append ?_; go_must (refine own_append_elem (b1 := ?_) (cs := ?_) (e1 := ?_) (f1 := ?_) sltInts hO ?_ ?_ ?_ hZ ?_ ?_ ?_ ?_ ?_ ?_ ?_; rotate_left 4; (· rfl); (· rfl); (· rfl); (· exact inferInstance); (· rfl); (· intro u hu; simp at hu; subst hu; rfl); (· first | omega | (simp only [maxLen]; omega)); (· decide); (· first | omega | (simp only [maxLen]; omega)); clear hO; (try clear hF); intro _ _ _ _ hS hO; ((try simp only [List.nil_append, List.append_nil] at hO); have hF := Own.cells hO; simp only [cellsOf_append, cellsOf_pt] at hF); simp only [Act.put, List.setIfInBounds_toArray, List.set_cons_zero, List.set_cons_succ])))
      have hlen1 : (done ++ [k]).length = done.length + 1 := by simp
      have hle2 := hR2.le
      go_roundw
      case rel => exact ⟨done ++ [k], _, _, _, A2, by rw [hlen1], (by rw [hlen1, List.map_append]; exact hS), hR2, hO.as _⟩
      case measure => simp [slN]; omega
end Go.Proofs.Ytkkeplobomncgaa
