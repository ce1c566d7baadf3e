/- Contracts of package disk: Trim, Size, Writes, Read. -/
import Derived.Test.YtkkeplobomncgaaDisk4
set_option linter.all false
namespace Go.Proofs.Ytkkeplobomncgaa
open Go Go.RowKit Go.Own Go.Dk

def tr (rs : List Raw) (file size : Int) : List Raw × Int :=
  if fileOk file = true ∧ 0 ≤ size ∧ size ≤ (play rs file.toNat).length then (rs ++ [.trim file.toNat size.toNat], 0) else (rs, 1)

set_option maxRecDepth 100000 in
set_option maxHeartbeats 4000000 in
theorem dTrim (E w : World) (X R : Fr) (d : Nat) (rs : List Raw) (A : Fr) (file size : Int) (hA : DiskAt d rs A) (hlen : rs.length ≤ 8796093022208) (hO : Own E w X) [hp : Pick X A R] :
    Calls Try.prog 27 #[.pointer (some ⟨d, 0, none⟩), .int .i64 file, .int .i64 size] w fun e w' => e = .returned (.int .i64 (tr rs file size).2) ∧ ∃ A', DiskAt d (tr rs file size).1 A' ∧ Own E w' (A' ++ R) := by
  have hg := hA.given hO
  have hR := hO.perm hp.perm
  by_cases h1 : fileOk file = true
  case neg =>
    have hw : tr rs file size = (rs, 1) := by unfold tr; rw [if_neg (by simp [h1])]
    have h1' : fileOk file = false := by simpa using h1
    rw [hw]
    go_enter Try.func27, Try.ntmps27
    go_wp2_with (go_at_call 46; refine (dGiven d file _ hg).mono ?_; rintro e w1 ⟨rfl, rfl⟩; rw [h1'])
    go_ret
    exact ⟨rfl, A, hA, hR⟩
  by_cases h2 : 0 ≤ size
  case neg =>
    have hw : tr rs file size = (rs, 1) := by unfold tr; rw [if_neg (by simp [h2])]
    rw [hw]
    go_enter Try.func27, Try.ntmps27
    go_wp2_with (go_at_call 46; refine (dGiven d file _ hg).mono ?_; rintro e w1 ⟨rfl, rfl⟩; rw [h1])
    go_ret
    exact ⟨rfl, A, hA, hR⟩
  obtain ⟨k, rfl, hk⟩ := fileOk_of h1
  obtain ⟨fa, fc, hc, hfl, _, _, _⟩ := hA.fcell hO k hk
  have hk1 : (k : Int) < 4 := by omega
  have hk2 : (0 : Int) ≤ k := by omega
  by_cases h3 : size ≤ (play rs k).length
  case neg =>
    have hw : tr rs k size = (rs, 1) := by unfold tr; rw [if_neg (by simp [h3])]
    rw [hw]
    clear hw
    go_enter Try.func27, Try.ntmps27
    go_wp2_with (go_at_call 46; refine (dGiven d _ _ hg).mono ?_; rintro e w1 ⟨rfl, rfl⟩; rw [h1])
    go_ret
    exact ⟨rfl, A, hA, hR⟩
  obtain ⟨m, rfl⟩ : ∃ p : Nat, size = p := ⟨size.toNat, by omega⟩
  have hw : tr rs k m = (rs ++ [.trim k m], 0) := by unfold tr; rw [if_pos ⟨h1, h2, by simpa using h3⟩]; simp
  rw [hw]
  have hok : (Raw.trim k m).ok (play rs) := ⟨hk, by omega⟩
  clear hw
  go_enter Try.func27, Try.ntmps27
  go_wp2_with (first | (go_at_call 46; refine (dGiven d _ _ hg).mono ?_; rintro e w1 ⟨rfl, rfl⟩; rw [h1]) | (go_at_call 47; go_must (refine (dDoes_trim E _ _ _ d rs A k m hA hok hlen hO).mono ?_; rintro e w1 ⟨rfl, hA'⟩)))
  go_ret
  exact ⟨rfl, hA'⟩

def sz (rs : List Raw) (file : Int) : Nat := if fileOk file = true then (play rs file.toNat).length else 0

set_option maxRecDepth 100000 in
set_option maxHeartbeats 4000000 in
theorem dSize (E w : World) (X R : Fr) (d : Nat) (rs : List Raw) (A : Fr) (file : Int) (hA : DiskAt d rs A) (hO : Own E w X) [hp : Pick X A R] :
    Calls Try.prog 26 #[.pointer (some ⟨d, 0, none⟩), .int .i64 file] w fun e w' => e = .returned (.int .i64 (sz rs file)) ∧ w = w' := by
  have hg := hA.given hO
  by_cases h1 : fileOk file = true
  case neg =>
    have hw : sz rs file = 0 := by unfold sz; rw [if_neg (by simp [h1])]
    have h1' : fileOk file = false := by simpa using h1
    rw [hw]
    go_enter Try.func26, Try.ntmps26
    go_wp2_with (go_at_call 46; refine (dGiven d file _ hg).mono ?_; rintro e w1 ⟨rfl, rfl⟩; rw [h1'])
    go_ret
    exact ⟨rfl, rfl⟩
  obtain ⟨k, rfl, hk⟩ := fileOk_of h1
  obtain ⟨fa, fc, hc, hfl, _, _, _⟩ := hA.fcell hO k hk
  have hk1 : (k : Int) < 4 := by omega
  have hk2 : (0 : Int) ≤ k := by omega
  have hw : sz rs k = (play rs k).length := by unfold sz; rw [if_pos h1]; simp
  rw [hw]
  clear hw
  go_enter Try.func26, Try.ntmps26
  go_wp2_with (go_at_call 46; refine (dGiven d _ _ hg).mono ?_; rintro e w1 ⟨rfl, rfl⟩; rw [h1])
  go_ret
  exact ⟨rfl, rfl⟩

theorem fileOk_0 : fileOk 0 = true := rfl

set_option maxRecDepth 100000 in
set_option maxHeartbeats 4000000 in
theorem dWrites (E w : World) (X R : Fr) (d : Nat) (rs : List Raw) (A : Fr) (hA : DiskAt d rs A) (hO : Own E w X) [hp : Pick X A R] :
    Calls Try.prog 25 #[.pointer (some ⟨d, 0, none⟩)] w fun e w' => e = .returned (.int .i64 rs.length) ∧ w = w' := by
  have hg := hA.given hO
  obtain ⟨ra, rc, hc, hl, hle⟩ := hA.rcell hO
  go_enter Try.func25, Try.ntmps25
  go_wp2_with (go_at_call 46; refine (dGiven d _ _ hg).mono ?_; rintro e w1 ⟨rfl, rfl⟩; rw [fileOk_0])
  go_ret
  exact ⟨rfl, rfl⟩

def rd (rs : List Raw) (file at_ n : Int) : ByteArray × Int :=
  if fileOk file = true ∧ 0 ≤ at_ ∧ 0 ≤ n ∧ at_ ≤ (play rs file.toNat).length ∧ n ≤ (play rs file.toNat).length - at_ then (⟨(((play rs file.toNat).drop at_.toNat).take n.toNat).toArray⟩, 0) else (ByteArray.empty, 1)

set_option maxRecDepth 100000 in
set_option maxHeartbeats 4000000 in
theorem dRead (E w : World) (X R : Fr) (d : Nat) (rs : List Raw) (A : Fr) (file at_ n : Int) (hA : DiskAt d rs A) (hO : Own E w X) [hp : Pick X A R] :
    Calls Try.prog 19 #[.pointer (some ⟨d, 0, none⟩), .int .i64 file, .int .i64 at_, .int .i64 n] w fun e w' => e = .returned (.tuple #[.string (rd rs file at_ n).1, .int .i64 (rd rs file at_ n).2]) ∧ w = w' := by
  have hg := hA.given hO
  by_cases h1 : fileOk file = true
  case neg =>
    have hw : rd rs file at_ n = (ByteArray.empty, 1) := by unfold rd; rw [if_neg (by simp [h1])]
    have h1' : fileOk file = false := by simpa using h1
    rw [hw]
    go_enter Try.func19, Try.ntmps19
    go_wp2_with (go_at_call 46; refine (dGiven d file _ hg).mono ?_; rintro e w1 ⟨rfl, rfl⟩; rw [h1'])
    go_ret2
    exact ⟨rfl, rfl⟩
  by_cases h2 : 0 ≤ at_
  case neg =>
    have hw : rd rs file at_ n = (ByteArray.empty, 1) := by unfold rd; rw [if_neg (by simp [h2])]
    rw [hw]
    go_enter Try.func19, Try.ntmps19
    go_wp2_with (go_at_call 46; refine (dGiven d _ _ hg).mono ?_; rintro e w1 ⟨rfl, rfl⟩; rw [h1])
    go_ret2
    exact ⟨rfl, rfl⟩
  by_cases h3 : 0 ≤ n
  case neg =>
    have hw : rd rs file at_ n = (ByteArray.empty, 1) := by unfold rd; rw [if_neg (by simp [h3])]
    rw [hw]
    go_enter Try.func19, Try.ntmps19
    go_wp2_with (go_at_call 46; refine (dGiven d _ _ hg).mono ?_; rintro e w1 ⟨rfl, rfl⟩; rw [h1])
    go_ret2
    exact ⟨rfl, rfl⟩
  obtain ⟨k, rfl, hk⟩ := fileOk_of h1
  obtain ⟨fa, fc, hc, hfl, hcm, hcell, hnil⟩ := hA.fcell hO k hk
  have hk1 : (k : Int) < 4 := by omega
  have hk2 : (0 : Int) ≤ k := by omega
  have hle := play_le hA.1 k
  have hle' : ((play rs k).length : Int) ≤ 4194304 := by omega
  by_cases h4 : at_ ≤ (play rs k).length
  case neg =>
    have hw : rd rs k at_ n = (ByteArray.empty, 1) := by unfold rd; rw [if_neg (by simp [h4])]
    rw [hw]
    clear hw hcell hnil
    go_enter Try.func19, Try.ntmps19
    go_wp2_with (go_at_call 46; refine (dGiven d _ _ hg).mono ?_; rintro e w1 ⟨rfl, rfl⟩; rw [h1])
    go_ret2
    exact ⟨rfl, rfl⟩
  by_cases h5 : n ≤ (play rs k).length - at_
  case neg =>
    have hw : rd rs k at_ n = (ByteArray.empty, 1) := by unfold rd; rw [if_neg (by simp [h5])]
    rw [hw]
    clear hw hcell hnil
    go_enter Try.func19, Try.ntmps19
    go_wp2_with (go_at_call 46; refine (dGiven d _ _ hg).mono ?_; rintro e w1 ⟨rfl, rfl⟩; rw [h1])
    go_ret2
    exact ⟨rfl, rfl⟩
  obtain ⟨p, rfl⟩ : ∃ p : Nat, at_ = p := ⟨at_.toNat, by omega⟩
  obtain ⟨m, rfl⟩ : ∃ p : Nat, n = p := ⟨n.toNat, by omega⟩
  have hw : rd rs k p m = (⟨(((play rs k).drop p).take m).toArray⟩, 0) := by unfold rd; rw [if_pos ⟨h1, h2, h3, by simpa using h4, by simpa using h5⟩]; simp
  rw [hw]
  clear hw
  have hcell' : Hid (∀ b, fa = some b → ∀ j v, (bytesV (play rs k))[j]? = some v → w.cell? (b.add j) = some v) := hcell
  have hnil' : Hid (fa = none → fc = 0) := hnil
  clear hcell hnil
  have h6 : (p : Int) + m ≤ fc := by omega
  have h7 : (p : Int) ≤ p + m := by omega
  go_enter Try.func19, Try.ntmps19
  go_wp2_with (first | (go_at_call 46; refine (dGiven d _ _ hg).mono ?_; rintro e w1 ⟨rfl, rfl⟩; rw [h1]) | (refine own_bytes_str (e := 5) (ad := ?_) (n := ?_) (cap := ?_) (l := ((play rs k).drop p).take m) (by kernel_rfl) (by kernel_rfl) (by kernel_rfl) ?_ ?_ ?_ ?_ ?_ ?_; rotate_left 3; (· rfl); (· ((conv => lhs; whnf); try exact rfl)); (· simp; omega); (· exact cut_cells hcell'.out (by omega) (by omega)); (· intro h; have := cut_none hnil'.out (m := m) (by omega) h; omega); simp only [Act.put, List.setIfInBounds_toArray, List.set_cons_zero, List.set_cons_succ]))
  all_goals (go_ret2; exact ⟨rfl, rfl⟩)
end Go.Proofs.Ytkkeplobomncgaa
