/- vestibulelaw04: awake, PoolNobody. -/
import Derived.Test.YtkkeplobomncgaaPool8
set_option linter.all false
namespace Go.Proofs.Ytkkeplobomncgaa
open Go Go.RowKit Go.Own Go.Dk

theorem len_sub : ∀ {Q L : List Nat}, Q.Nodup → (∀ k ∈ Q, k ∈ L) → Q.length ≤ L.length
  | [], _, _, _ => by simp
  | q :: Q, L, hn, hs => by
    rw [List.nodup_cons] at hn
    have hq : q ∈ L := hs q (by simp)
    have := len_sub (Q := Q) (L := L.erase q) hn.2 (fun k hk => (List.mem_erase_of_ne (by intro e; subst e; exact hn.1 hk)).2 (hs k (by simp [hk])))
    rw [List.length_erase_of_mem hq] at this
    have := List.length_pos_of_mem hq
    simp
    omega
theorem PoolS.le {p d most N : Nat} {cont : Nat → List UInt8} {pins : Nat → Nat} {A : Fr} (h : PoolS p d most N cont pins A) {Q : List Nat} (hn : Q.Nodup) (hq : ∀ k ∈ Q, 0 < pins k) : Q.length ≤ most := by
  obtain ⟨hand, fs, l, rs, P, D, hP, hI, hD, hh, hN, rfl⟩ := h
  have := len_sub (L := fs.map (·.page)) hn (fun k hk => by
    obtain ⟨pre, f, post, rfl, e, _⟩ := hI.mid (hq k hk)
    exact List.mem_map.2 ⟨f, by simp, e⟩)
  have h2 := hI.len
  rw [List.length_map] at this
  omega
theorem pin_unpin (f : Nat → Nat) (k : Nat) : upd (upd f k (f k + 1)) k (upd f k (f k + 1) k - 1) = f := by
  rw [upd_same, Nat.add_sub_cancel]
  funext i
  simp only [upd]
  split
  · rename_i h; rw [h]
  · rfl
def c0 : Nat → List UInt8 := fun _ => List.replicate 512 0
def z0 : Nat → Nat := fun _ => 0

set_option maxRecDepth 100000 in
set_option maxHeartbeats 4000000 in
theorem awake4 (E w : World) (X : Fr) (hO : Own E w X) : Calls Try.prog 40 #[] w fun e w' => e = .returned (.bool true) ∧ Own E w' X := by
  go_enter Try.func40, Try.ntmps40
  go_wp2_with fail
  refine (dNew E _ _ hO).mono ?_; rintro e w1 ⟨d, A, rfl, hA, hO⟩
  go_wp2_with fail
  refine (pNew_ok E _ _ _ A d 1 [] hA (by decide) (by decide) hO).mono ?_; rintro e w1 ⟨p, P, rfl, hP, hO⟩
  have hS := PoolS.new hP hA
  replace hO := hO.as ((P ++ A) ++ X)
  generalize P ++ A = A0 at hS hO
  clear hP hA
  go_wp2_with fail
  refine (pPin E _ _ _ A0 p d 1 0 _ _ 3 hS (by decide) (by decide) (by decide) (by decide) (by decide) hO).mono ?_
  rintro e w1 (⟨rfl, A1, hS1, hO⟩ | ⟨_, _, ⟨Q, _, hQl, hQp⟩, _⟩)
  case inr =>
    match Q, hQl with
    | [q], _ => exact absurd (hQp q (by simp)) (by simp)
  clear hS
  go_wp2_with fail
  refine (pPin E _ _ _ A1 p d 1 0 _ _ 4 hS1 (by decide) (by decide) (by decide) (by decide) (by decide) hO).mono ?_
  rintro e w1 (⟨_, A2, hS2, _⟩ | ⟨rfl, _, _, A2, hS2, hO⟩)
  case inl =>
    have := hS2.le (Q := [3, 4]) (by decide) (by decide)
    exact absurd this (by decide)
  clear hS1
  go_wp2_with fail
  refine (pWrite_ok E _ _ _ A2 p d 1 0 _ _ 3 0 _ hS2 (by decide) (by decide) (by decide) hO).mono ?_; rintro e w1 ⟨rfl, A3, hS3, hO⟩
  go_wp2_with fail
  refine (pUnpin_yes E _ _ _ A3 p d 1 _ _ _ 3 hS3 (by decide) (by decide) (by decide) hO).mono ?_; rintro e w1 ⟨rfl, A4, hS4, hO⟩
  rw [pin_unpin] at hS4
  go_wp2_with fail
  refine (pPin E _ _ _ A4 p d 1 _ _ _ 4 hS4 (by decide) (by decide) (by decide) (by decide) (by decide) hO).mono ?_
  rintro e w1 (⟨rfl, A5, hS5, hO⟩ | ⟨_, _, ⟨Q, _, hQl, hQp⟩, _⟩)
  case inr =>
    match Q, hQl with
    | [q], _ => exact absurd (hQp q (by simp)) (by simp)
  clear hS4 hS3 hS2
  go_wp2_with fail
  refine (pUnpin_yes E _ _ _ A5 p d 1 _ _ _ 4 hS5 (by decide) (by decide) (by decide) hO).mono ?_; rintro e w1 ⟨rfl, A6, hS6, hO⟩
  rw [pin_unpin] at hS6
  go_wp2_with fail
  refine (pPin E _ _ _ A6 p d 1 _ _ _ 3 hS6 (by decide) (by decide) (by decide) (by decide) (by decide) hO).mono ?_
  rintro e w1 (⟨rfl, A7, hS7, hO⟩ | ⟨_, _, ⟨Q, _, hQl, hQp⟩, _⟩)
  case inr =>
    match Q, hQl with
    | [q], _ => exact absurd (hQp q (by simp)) (by simp)
  clear hS5 hS6
  go_wp2_with fail
  refine (pRead_yes E _ _ _ A7 p d 1 _ _ _ 3 hS7 (by decide) (by decide) hO).mono ?_; rintro e w1 ⟨he, rfl⟩
  obtain ⟨s, hs, rfl⟩ : ∃ s : ByteArray, s = ⟨(120 :: List.replicate 511 0).toArray⟩ ∧ e = .returned (.tuple #[.string s, .int .i64 0]) := ⟨_, rfl, he⟩
  have hO1 := hO.as X
  have hsz : s.size = 512 := by rw [hs]; simp [ByteArray.size]
  clear hS7 hO
  go_wp2_with fail
  go_ret
  exact ⟨rfl, hO1⟩

theorem sltPools : SlT Try.prog 91 71 1 8 (.pointer none) := ⟨by kernel_rfl, by kernel_rfl, rfl⟩

set_option maxRecDepth 100000 in
set_option maxHeartbeats 4000000 in
theorem poolNobody (E w : World) (X : Fr) (hO : Own E w X) (n : Int) (s : ByteArray) :
    Calls Try.prog 14 #[.int .i64 n, .string s] w fun e w' => e = .returned (.bool true) ∧ Own E w' X := by
  go_enter Try.func14, Try.ntmps14
  go_wp2_with fail
  refine (pNew_nil _ _).mono ?_; rintro e w1 ⟨rfl, rfl⟩
  go_wp2_with (first | (refine at_box ?_; go_must (refine own_box (v := ?_) hO ?_ ?_ ?_; rotate_left; (· rfl); (· ((conv => lhs; whnf); try exact rfl)); clear hO; (try clear hF); intro b1 _ hO; (try simp only [Value.cells] at hO); ((try simp only [List.nil_append, List.append_nil] at hO); have hF := Own.cells hO; simp only [cellsOf_append, cellsOf_pt] at hF); simp only [Act.put, List.setIfInBounds_toArray, List.set_cons_zero, List.set_cons_succ])) | (refine at_bs ?_; go_must (refine own_buildN (cells := ?_) sltPools hO ?_ ?_ ?_ ?_ ?_ ?_; rotate_left; (· rfl); (· decide); (· decide); (· rfl); (· simp [Instr.fill, Act.eval, Value.cells, Array.replicate_succ]; exact rfl); clear hO; (try clear hF); intro b2 _ hO; ((try simp only [List.nil_append, List.append_nil] at hO); have hF := Own.cells hO; simp only [cellsOf_append, cellsOf_pt] at hF); simp only [Act.put, List.setIfInBounds_toArray, List.set_cons_zero, List.set_cons_succ])))
  clear hF
  have hO0 := hO
  clear hO
  go_loopw [8] (fun i wr => (i = .int .i64 0 ∨ i = .int .i64 1 ∨ i = .int .i64 2) ∧ Own E wr (pt b2 (.cells #[.pointer none, .pointer (some ⟨b1, 0, none⟩)] 71) ++ (pt b1 (.cells #[.pointer none, .int .i64 0, .slice none 0 0, .int .i64 0, .map none] 90) ++ X))) (fun i _ => 2 - (intOf i).toNat)
  case atStart => exact ⟨.inl rfl, hO0.as _⟩
  case round =>
    clear hO0
    obtain ⟨hi, hO⟩ := hrel
    ((try simp only [List.nil_append, List.append_nil] at hO); have hF := Own.cells hO; simp only [cellsOf_append, cellsOf_pt] at hF)
    rcases hi with rfl | rfl | rfl
    · have hN : NoPool (.pointer none) wr := .inl rfl
      go_wp2_with (first | (go_at_call 35; go_must (refine (nPin _ _ _ hN).mono ?_; rintro e w1 ⟨rfl, rfl⟩)) | (go_at_call 37; go_must (refine (nUnpin _ _ _ hN).mono ?_; rintro e w1 ⟨rfl, rfl⟩)) | (go_at_call 38; go_must (refine (nPRead _ _ _ hN).mono ?_; rintro e w1 ⟨rfl, rfl⟩)) | (go_at_call 36; go_must (refine (nPWrite _ _ _ _ _ hN).mono ?_; rintro e w1 ⟨rfl, rfl⟩)) | (go_at_call 42; go_must (refine (nFlush _ _ hN).mono ?_; rintro e w1 ⟨rfl, rfl⟩)) | (go_at_call 39; go_must (refine (nPins _ _ _ hN).mono ?_; rintro e w1 ⟨rfl, rfl⟩)) | (go_at_call 44; go_must (refine (nHeld _ _ hN).mono ?_; rintro e w1 ⟨rfl, rfl⟩)))
      go_roundw
      case rel => exact ⟨.inr (.inl rfl), hO⟩
      case measure => simp [intOf]
    · have hN : NoPool (.pointer (some ⟨b1, 0, none⟩)) wr := .inr ⟨b1, rfl, by rw [hO.cell (b := b1)]; rfl⟩
      go_wp2_with (first | (go_at_call 35; go_must (refine (nPin _ _ _ hN).mono ?_; rintro e w1 ⟨rfl, rfl⟩)) | (go_at_call 37; go_must (refine (nUnpin _ _ _ hN).mono ?_; rintro e w1 ⟨rfl, rfl⟩)) | (go_at_call 38; go_must (refine (nPRead _ _ _ hN).mono ?_; rintro e w1 ⟨rfl, rfl⟩)) | (go_at_call 36; go_must (refine (nPWrite _ _ _ _ _ hN).mono ?_; rintro e w1 ⟨rfl, rfl⟩)) | (go_at_call 42; go_must (refine (nFlush _ _ hN).mono ?_; rintro e w1 ⟨rfl, rfl⟩)) | (go_at_call 39; go_must (refine (nPins _ _ _ hN).mono ?_; rintro e w1 ⟨rfl, rfl⟩)) | (go_at_call 44; go_must (refine (nHeld _ _ hN).mono ?_; rintro e w1 ⟨rfl, rfl⟩)))
      go_roundw
      case rel => exact ⟨.inr (.inr rfl), hO⟩
      case measure => simp [intOf]
    · go_wp2_with (go_at_call 40; refine (awake4 E _ X (hO.as X)).mono ?_; rintro e w1 ⟨rfl, hO⟩)
      go_ret
      exact ⟨rfl, hO⟩
end Go.Proofs.Ytkkeplobomncgaa
