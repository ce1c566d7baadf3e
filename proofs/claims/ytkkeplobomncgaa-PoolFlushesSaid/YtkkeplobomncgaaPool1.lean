/- The pool's contracts: given, pinned, Unpin, Read, Pins. -/
import Derived.Test.YtkkeplobomncgaaPoolM
set_option linter.all false
namespace Go.Proofs.Ytkkeplobomncgaa
open Go Go.RowKit Go.Own Go.Dk

theorem zeroFP (w : World) : (zeroValue 103).run Try.prog w = .ok (.pointer none) w := by kernel_rfl

/-- The pool at block p: over the disk d, with these frames and this map. -/
def PoolP (p d most hand : Nat) (fs : List Frm) (l : List (Int × Value)) (A : Fr) : Prop :=
  ∃ la lc mb S M, Sl 103 1 la fs.length lc (fs.map ptrV) S ∧ MapAt mb l M ∧
    A = pt p (.cells #[.pointer (some ⟨d, 0, none⟩), .int .i64 most, .slice la fs.length lc, .int .i64 hand, .map (some mb)] 90 (0, 0)) ++ (S ++ (M ++ frmsF fs))

set_option maxRecDepth 100000 in
set_option maxHeartbeats 4000000 in
theorem pGiven (E w : World) (X R A : Fr) (p d most hand : Nat) (fs : List Frm) (l : List (Int × Value)) (hP : PoolP p d most hand fs l A) (hm : 0 < most) (hO : Own E w X) [hp : Pick X A R] :
    Calls Try.prog 48 #[.pointer (some ⟨p, 0, none⟩)] w fun e w' => e = .returned (.bool true) ∧ w = w' := by
  obtain ⟨la, lc, mb, S, M, hS, hM, rfl⟩ := hP
  replace hO := hO.perm hp.perm
  clear hp
  have hm1 : (0 : Int) < most := by omega
  ((try simp only [List.nil_append, List.append_nil] at hO); have hF := Own.cells hO; simp only [cellsOf_append, cellsOf_pt] at hF)
  go_enter Try.func48, Try.ntmps48
  go_wp2
  go_ret
  exact ⟨rfl, rfl⟩

set_option maxRecDepth 100000 in
set_option maxHeartbeats 4000000 in
theorem pPinned_yes (E w : World) (X R A : Fr) (p d most hand : Nat) (pre post : List Frm) (f : Frm) (l : List (Int × Value)) (hP : PoolP p d most hand (pre ++ f :: post) l A) (hl : mlook l (f.page : Int) = some (ptrV f)) (hf : 0 < f.pins) (hO : Own E w X) [hp : Pick X A R] :
    Calls Try.prog 50 #[.pointer (some ⟨p, 0, none⟩), .int .i64 f.page] w fun e w' => e = .returned (.pointer (some ⟨f.blk, 0, none⟩)) ∧ w = w' := by
  obtain ⟨la, lc, mb, S, M, hS, hM, rfl⟩ := hP
  replace hO := hO.perm hp.perm
  clear hp
  have hm1 : (0 : Int) < f.pins := by omega
  rw [frmsF_app, frmsF_cons] at hO
  unfold frmF at hO
  ((try simp only [List.nil_append, List.append_nil] at hO); have hF := Own.cells hO; simp only [cellsOf_append, cellsOf_pt] at hF)
  unfold ptrV at *
  go_enter Try.func50, Try.ntmps50
  go_wp2_with (refine at_lookup ?_; go_must (refine own_lookup (kt := 3) (et := 103) (b := mb) (k := f.page) (l := l) (by kernel_rfl) (by kernel_rfl) zeroFP hO hM ?_ ?_ ?_ ?_; (· rfl); (· rfl); (· rfl); rw [hl]; simp only [Act.put, List.setIfInBounds_toArray, List.set_cons_zero, List.set_cons_succ]))
  go_ret
  exact ⟨rfl, rfl⟩

set_option maxRecDepth 100000 in
set_option maxHeartbeats 4000000 in
theorem pPinned_no (E w : World) (X R A : Fr) (p d most hand : Nat) (fs : List Frm) (l : List (Int × Value)) (page : Int) (hP : PoolP p d most hand fs l A) (hl : ∀ f ∈ fs, (f.page : Int) = page → mlook l page = some (ptrV f) ∧ f.pins = 0) (hl2 : (∀ f ∈ fs, (f.page : Int) ≠ page) → mlook l page = none) (hO : Own E w X) [hp : Pick X A R] :
    Calls Try.prog 50 #[.pointer (some ⟨p, 0, none⟩), .int .i64 page] w fun e w' => e = .returned (.pointer none) ∧ w = w' := by
  obtain ⟨la, lc, mb, S, M, hS, hM, rfl⟩ := hP
  replace hO := hO.perm hp.perm
  clear hp
  rcases page_cases fs page with ⟨pre, f, post, rfl, hk⟩ | hk
  · obtain ⟨h1, h2⟩ := hl f (by simp) hk
    have hm1 : ¬ (0 : Int) < f.pins := by omega
    rw [frmsF_app, frmsF_cons] at hO
    unfold frmF at hO
    ((try simp only [List.nil_append, List.append_nil] at hO); have hF := Own.cells hO; simp only [cellsOf_append, cellsOf_pt] at hF)
    unfold ptrV at *
    clear hl hl2
    go_enter Try.func50, Try.ntmps50
    go_wp2_with (refine at_lookup ?_; go_must (refine own_lookup (kt := 3) (et := 103) (b := mb) (k := page) (l := l) (by kernel_rfl) (by kernel_rfl) zeroFP hO hM ?_ ?_ ?_ ?_; (· rfl); (· rfl); (· rfl); rw [h1]; simp only [Act.put, List.setIfInBounds_toArray, List.set_cons_zero, List.set_cons_succ]))
    go_ret
    exact ⟨rfl, rfl⟩
  · have h1 := hl2 hk
    ((try simp only [List.nil_append, List.append_nil] at hO); have hF := Own.cells hO; simp only [cellsOf_append, cellsOf_pt] at hF)
    clear hl hl2
    go_enter Try.func50, Try.ntmps50
    go_wp2_with (refine at_lookup ?_; go_must (refine own_lookup (kt := 3) (et := 103) (b := mb) (k := page) (l := l) (by kernel_rfl) (by kernel_rfl) zeroFP hO hM ?_ ?_ ?_ ?_; (· rfl); (· rfl); (· rfl); rw [h1]; simp only [Act.put, List.setIfInBounds_toArray, List.set_cons_zero, List.set_cons_succ]))
    go_ret
    exact ⟨rfl, rfl⟩
end Go.Proofs.Ytkkeplobomncgaa
