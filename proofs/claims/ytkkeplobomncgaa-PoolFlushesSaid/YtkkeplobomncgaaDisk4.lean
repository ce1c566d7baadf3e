/- Contracts of package disk: Write, Trim, Size, Writes, Read. -/
import Derived.Test.YtkkeplobomncgaaDisk3
set_option linter.all false
namespace Go.Proofs.Ytkkeplobomncgaa
open Go Go.RowKit Go.Own Go.Dk

def wr (rs : List Raw) (file at_ : Int) (s : ByteArray) : List Raw × Int :=
  if fileOk file = true ∧ 0 ≤ at_ ∧ at_ ≤ 4194304 ∧ (s.size : Int) ≤ 4194304 - at_ then (rs ++ [.put file.toNat at_.toNat s], 0) else (rs, 1)

set_option maxRecDepth 100000 in
set_option maxHeartbeats 4000000 in
theorem dWrite (E w : World) (X R : Fr) (d : Nat) (rs : List Raw) (A : Fr) (file at_ : Int) (s : ByteArray) (hs : s.size ≤ maxLen) (hA : DiskAt d rs A) (hlen : rs.length ≤ 8796093022208) (hO : Own E w X) [hp : Pick X A R] :
    Calls Try.prog 23 #[.pointer (some ⟨d, 0, none⟩), .int .i64 file, .int .i64 at_, .string s] w fun e w' => e = .returned (.int .i64 (wr rs file at_ s).2) ∧ ∃ A', DiskAt d (wr rs file at_ s).1 A' ∧ Own E w' (A' ++ R) := by
  have hg := hA.given hO
  have hR := hO.perm hp.perm
  unfold maxLen at hs
  by_cases h1 : fileOk file = true
  case neg =>
    have hw : wr rs file at_ s = (rs, 1) := by unfold wr; rw [if_neg (by simp [h1])]
    have h1' : fileOk file = false := by simpa using h1
    rw [hw]
    go_enter Try.func23, Try.ntmps23
    go_wp2_with (go_at_call 46; refine (dGiven d file _ hg).mono ?_; rintro e w1 ⟨rfl, rfl⟩; rw [h1'])
    go_ret
    exact ⟨rfl, A, hA, hR⟩
  by_cases h2 : 0 ≤ at_
  case neg =>
    have hw : wr rs file at_ s = (rs, 1) := by unfold wr; rw [if_neg (by simp [h2])]
    rw [hw]
    go_enter Try.func23, Try.ntmps23
    go_wp2_with (go_at_call 46; refine (dGiven d file _ hg).mono ?_; rintro e w1 ⟨rfl, rfl⟩; rw [h1])
    go_ret
    exact ⟨rfl, A, hA, hR⟩
  by_cases h3 : at_ ≤ 4194304
  case neg =>
    have hw : wr rs file at_ s = (rs, 1) := by unfold wr; rw [if_neg (by simp [h3])]
    rw [hw]
    go_enter Try.func23, Try.ntmps23
    go_wp2_with (go_at_call 46; refine (dGiven d file _ hg).mono ?_; rintro e w1 ⟨rfl, rfl⟩; rw [h1])
    go_ret
    exact ⟨rfl, A, hA, hR⟩
  by_cases h4 : (s.size : Int) ≤ 4194304 - at_
  case neg =>
    have hw : wr rs file at_ s = (rs, 1) := by unfold wr; rw [if_neg (by simp [h4])]
    rw [hw]
    go_enter Try.func23, Try.ntmps23
    go_wp2_with (go_at_call 46; refine (dGiven d file _ hg).mono ?_; rintro e w1 ⟨rfl, rfl⟩; rw [h1])
    go_ret
    exact ⟨rfl, A, hA, hR⟩
  have hw : wr rs file at_ s = (rs ++ [.put file.toNat at_.toNat s], 0) := by unfold wr; rw [if_pos ⟨h1, h2, h3, h4⟩]
  rw [hw]
  obtain ⟨k, rfl, hk⟩ := fileOk_of h1
  obtain ⟨p, rfl⟩ : ∃ p : Nat, at_ = p := ⟨at_.toNat, by omega⟩
  simp only [Int.toNat_natCast]
  have hok : (Raw.put k p s).ok (play rs) := ⟨hk, by omega⟩
  clear hw
  go_enter Try.func23, Try.ntmps23
  go_wp2_with (first | (go_at_call 46; refine (dGiven d _ _ hg).mono ?_; rintro e w1 ⟨rfl, rfl⟩; rw [h1]) | (go_at_call 47; go_must (refine (dDoes_put E _ _ _ d rs A k p s hA hok hlen hO).mono ?_; rintro e w1 ⟨rfl, hA'⟩)))
  go_ret
  exact ⟨rfl, hA'⟩
end Go.Proofs.Ytkkeplobomncgaa
