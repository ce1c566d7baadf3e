/- The pool's contracts: New; a pool that nobody made. -/
import Derived.Test.YtkkeplobomncgaaPool7
set_option linter.all false
namespace Go.Proofs.Ytkkeplobomncgaa
open Go Go.RowKit Go.Own Go.Dk

theorem rd_00 (rs : List Raw) : rd rs 1 0 0 = (⟨#[]⟩, 0) := by
  have := rd_pg rs 0 0 0 rfl (by omega)
  simpa using this

set_option maxRecDepth 100000 in
set_option maxHeartbeats 4000000 in
theorem pNew_ok (E w : World) (X R D : Fr) (d most : Nat) (rs : List Raw) (hD : DiskAt d rs D) (hm : 0 < most) (hm2 : most ≤ 1024) (hO : Own E w X) [hp : Pick X D R] :
    Calls Try.prog 34 #[.pointer (some ⟨d, 0, none⟩), .int .i64 most] w fun e w' => ∃ p P, e = .returned (.tuple #[.pointer (some ⟨p, 0, none⟩), .int .i64 0]) ∧ PoolP p d most 0 [] [] P ∧ Own E w' (P ++ (D ++ R)) := by
  replace hO := hO.perm hp.perm
  clear hp
  have hm3 : (1 : Int) ≤ most := by omega
  have hm4 : (most : Int) ≤ 1024 := by omega
  go_enter Try.func34, Try.ntmps34
  go_wp2_with fail
  refine (dRead E _ _ _ d rs D 1 0 0 hD hO).mono ?_; rw [rd_00]; rintro e w1 ⟨rfl, rfl⟩
  go_wp2_with (first | (refine at_box ?_; go_must (refine own_box (v := ?_) hO ?_ ?_ ?_; rotate_left; (· rfl); (· ((conv => lhs; whnf); try exact rfl)); clear hO; (try clear hF); intro b _ hO; (try simp only [Value.cells] at hO); ((try simp only [List.nil_append, List.append_nil] at hO); have hF := Own.cells hO; simp only [cellsOf_append, cellsOf_pt] at hF); simp only [Act.put, List.setIfInBounds_toArray, List.set_cons_zero, List.set_cons_succ])) | (refine at_mkMap ?_; go_must (refine own_makeMap hO ?_ ?_; (· rfl); clear hO; (try clear hF); intro mb M _ hM hO; ((try simp only [List.nil_append, List.append_nil] at hO); have hF := Own.cells hO; simp only [cellsOf_append, cellsOf_pt] at hF); simp only [Act.put, List.setIfInBounds_toArray, List.set_cons_zero, List.set_cons_succ])))
  go_ret2
  refine ⟨b, _, rfl, ⟨none, 0, mb, [], M, Sl.nil _ _, hM, rfl⟩, ?_⟩
  show Own E _ ((pt b (.cells #[.pointer (some ⟨d, 0, none⟩), .int .i64 most, .slice none 0 0, .int .i64 0, .map (some mb)] 90 (0, 0)) ++ (M ++ [])) ++ (D ++ R))
  rw [List.append_nil]
  exact hO.as _

set_option maxRecDepth 100000 in
set_option maxHeartbeats 4000000 in
theorem pNew_bad (E w : World) (X R D : Fr) (d : Nat) (frames : Int) (rs : List Raw) (hD : DiskAt d rs D) (hf : frames < 1 ∨ 1024 < frames) (hO : Own E w X) [hp : Pick X D R] :
    Calls Try.prog 34 #[.pointer (some ⟨d, 0, none⟩), .int .i64 frames] w fun e w' => e = .returned (.tuple #[.pointer none, .int .i64 1]) ∧ w = w' := by
  replace hO := hO.perm hp.perm
  clear hp
  by_cases h1 : frames < 1
  · clear hf
    go_enter Try.func34, Try.ntmps34
    go_wp2_with fail
    refine (dRead E _ _ _ d rs D 1 0 0 hD hO).mono ?_; rw [rd_00]; rintro e w1 ⟨rfl, rfl⟩
    go_wp2_with fail
    go_ret2
    exact ⟨rfl, rfl⟩
  · have h2 : 1024 < frames := by omega
    clear hf
    go_enter Try.func34, Try.ntmps34
    go_wp2_with fail
    refine (dRead E _ _ _ d rs D 1 0 0 hD hO).mono ?_; rw [rd_00]; rintro e w1 ⟨rfl, rfl⟩
    go_wp2_with fail
    go_ret2
    exact ⟨rfl, rfl⟩

set_option maxRecDepth 100000 in
set_option maxHeartbeats 4000000 in
theorem pNew_nil (w : World) (frames : Int) : Calls Try.prog 34 #[.pointer none, .int .i64 frames] w fun e w' => e = .returned (.tuple #[.pointer none, .int .i64 1]) ∧ w = w' := by
  have hN : Nob w (.pointer none) := .inl rfl
  go_enter Try.func34, Try.ntmps34
  go_wp2_with fail
  refine (nRead _ _ _ _ _ hN).mono ?_; rintro e w1 ⟨rfl, rfl⟩
  go_wp2_with fail
  go_ret2
  exact ⟨rfl, rfl⟩

theorem PInv.new (most : Nat) : PInv most [] [] [] (fun _ => List.replicate 512 0) (fun _ => 0) :=
  ⟨Nat.zero_le _, .refl _, List.nodup_nil, fun f hf => absurd hf (by simp), fun _ _ => rfl, fun k _ _ => pgOf_nil k, fun _ => List.length_replicate⟩
theorem PoolS.new {p d most : Nat} {P D : Fr} (hP : PoolP p d most 0 [] [] P) (hD : DiskAt d [] D) : PoolS p d most 0 (fun _ => List.replicate 512 0) (fun _ => 0) (P ++ D) :=
  ⟨0, [], [], [], P, D, hP, PInv.new most, hD, .inr rfl, by simp [chg], rfl⟩

/-- A pointer to no pool: nil, or a pool of no frames. -/
def NoPool (v : Value) (w : World) : Prop := v = .pointer none ∨ ∃ b, v = .pointer (some ⟨b, 0, none⟩) ∧ w.cell? ⟨b, 1, none⟩ = some (.int .i64 0)

set_option maxRecDepth 100000 in
set_option maxHeartbeats 4000000 in
theorem nGiven (w : World) (v : Value) (h : NoPool v w) : Calls Try.prog 48 #[v] w fun e w' => e = .returned (.bool false) ∧ w = w' := by
  rcases h with rfl | ⟨l, rfl, hl⟩
  · go_enter Try.func48, Try.ntmps48
    go_wp2
    go_ret
    exact ⟨rfl, rfl⟩
  · go_enter Try.func48, Try.ntmps48
    go_wp2
    go_ret
    exact ⟨rfl, rfl⟩
set_option maxRecDepth 100000 in
set_option maxHeartbeats 4000000 in
theorem nPin (w : World) (v : Value) (n : Int) (h : NoPool v w) : Calls Try.prog 35 #[v, .int .i64 n] w fun e w' => e = .returned (.int .i64 1) ∧ w = w' := by
  go_enter Try.func35, Try.ntmps35
  go_wp2_with fail
  refine (nGiven _ _ h).mono ?_; rintro e w1 ⟨rfl, rfl⟩
  go_wp2_with fail
  go_ret
  exact ⟨rfl, rfl⟩
set_option maxRecDepth 100000 in
set_option maxHeartbeats 4000000 in
theorem nUnpin (w : World) (v : Value) (n : Int) (h : NoPool v w) : Calls Try.prog 37 #[v, .int .i64 n] w fun e w' => e = .returned (.int .i64 1) ∧ w = w' := by
  go_enter Try.func37, Try.ntmps37
  go_wp2_with fail
  refine (nGiven _ _ h).mono ?_; rintro e w1 ⟨rfl, rfl⟩
  go_wp2_with fail
  go_ret
  exact ⟨rfl, rfl⟩
set_option maxRecDepth 100000 in
set_option maxHeartbeats 4000000 in
theorem nPRead (w : World) (v : Value) (n : Int) (h : NoPool v w) : Calls Try.prog 38 #[v, .int .i64 n] w fun e w' => e = .returned (.tuple #[.string .empty, .int .i64 1]) ∧ w = w' := by
  go_enter Try.func38, Try.ntmps38
  go_wp2_with fail
  refine (nGiven _ _ h).mono ?_; rintro e w1 ⟨rfl, rfl⟩
  go_wp2_with fail
  go_ret2
  exact ⟨rfl, rfl⟩
set_option maxRecDepth 100000 in
set_option maxHeartbeats 4000000 in
theorem nPWrite (w : World) (v : Value) (n m : Int) (s : ByteArray) (h : NoPool v w) : Calls Try.prog 36 #[v, .int .i64 n, .int .i64 m, .string s] w fun e w' => e = .returned (.int .i64 1) ∧ w = w' := by
  go_enter Try.func36, Try.ntmps36
  go_wp2_with fail
  refine (nGiven _ _ h).mono ?_; rintro e w1 ⟨rfl, rfl⟩
  go_wp2_with fail
  go_ret
  exact ⟨rfl, rfl⟩
set_option maxRecDepth 100000 in
set_option maxHeartbeats 4000000 in
theorem nFlush (w : World) (v : Value) (h : NoPool v w) : Calls Try.prog 42 #[v] w fun e w' => e = .returned (.int .i64 1) ∧ w = w' := by
  go_enter Try.func42, Try.ntmps42
  go_wp2_with fail
  refine (nGiven _ _ h).mono ?_; rintro e w1 ⟨rfl, rfl⟩
  go_wp2_with fail
  go_ret
  exact ⟨rfl, rfl⟩
set_option maxRecDepth 100000 in
set_option maxHeartbeats 4000000 in
theorem nPins (w : World) (v : Value) (n : Int) (h : NoPool v w) : Calls Try.prog 39 #[v, .int .i64 n] w fun e w' => e = .returned (.int .i64 0) ∧ w = w' := by
  go_enter Try.func39, Try.ntmps39
  go_wp2_with fail
  refine (nGiven _ _ h).mono ?_; rintro e w1 ⟨rfl, rfl⟩
  go_wp2_with fail
  go_ret
  exact ⟨rfl, rfl⟩
set_option maxRecDepth 100000 in
set_option maxHeartbeats 4000000 in
theorem nHeld (w : World) (v : Value) (h : NoPool v w) : Calls Try.prog 44 #[v] w fun e w' => e = .returned (.slice none 0 0) ∧ w = w' := by
  go_enter Try.func44, Try.ntmps44
  go_wp2_with fail
  refine (nGiven _ _ h).mono ?_; rintro e w1 ⟨rfl, rfl⟩
  go_wp2_with fail
  go_ret
  exact ⟨rfl, rfl⟩
end Go.Proofs.Ytkkeplobomncgaa
