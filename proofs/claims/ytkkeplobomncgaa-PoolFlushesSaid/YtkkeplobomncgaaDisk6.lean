/- Contracts of package disk: Cut. -/
import Derived.Test.YtkkeplobomncgaaDisk5
set_option linter.all false
namespace Go.Proofs.Ytkkeplobomncgaa
open Go Go.RowKit Go.Own Go.Dk

theorem dDoes (E w : World) (X R : Fr) (d : Nat) (rs : List Raw) (A : Fr) (r : Raw) (hA : DiskAt d rs A) (hr : r.ok (play rs)) (hlen : rs.length ≤ 8796093022208)
   (hO : Own E w X) [hp : Pick X A R] :
    Calls Try.prog 47 #[.pointer (some ⟨d, 0, none⟩), rawV r] w fun e w' => e = .returned (.int .i64 0) ∧ ∃ A', DiskAt d (rs ++ [r]) A' ∧ Own E w' (A' ++ R) := by
  cases r with
  | put k p t => exact dDoes_put E w X R d rs A k p t hA hr hlen hO
  | trim k n => exact dDoes_trim E w X R d rs A k n hA hr hlen hO

theorem raws_of {d : Nat} {rs : List Raw} {A : Fr} (hA : DiskAt d rs A) : ∃ ra rc, rs.length ≤ rc ∧ rc ≤ maxLen ∧ ∀ E w X R, Own E w X → Pick X A R →
    w.cell? ⟨d, 5, none⟩ = some (.slice ra rs.length rc) ∧ ∀ i (hi : i < rs.length), ∃ b, ra = some ⟨b, 0, none⟩ ∧ w.cell? ⟨b, i, none⟩ = some (rawV rs[i]) := by
  obtain ⟨hok, fa, fc, FA, ra, rc, RA, rfl, hf, hra⟩ := hA
  refine ⟨ra, rc, hra.le, hra.cap_le, fun E w X R hO hp => ?_⟩
  have h1 := hO.perm hp.perm
  refine ⟨by rw [h1.cell (b := d), dcells_5], fun i hi => ?_⟩
  rcases hra.2.2.2 with ⟨_, hc, _⟩ | ⟨b, rest, hb, hl, hA⟩
  · have := hra.2.1; omega
  · refine ⟨b, hb, ?_⟩
    subst hA
    rw [h1.cell (b := b)]
    have hi' : i < (rs.map rawV).length := by simpa using hi
    simp [List.getElem?_append_left hi', hi]

set_option maxRecDepth 100000 in
set_option maxHeartbeats 4000000 in
theorem dCut_bad (E w : World) (X R : Fr) (d : Nat) (rs : List Raw) (A : Fr) (n : Int) (hn : n < 0 ∨ rs.length < n) (hA : DiskAt d rs A) (hO : Own E w X) [hp : Pick X A R] :
    Calls Try.prog 22 #[.pointer (some ⟨d, 0, none⟩), .int .i64 n] w fun e w' => e = .returned (.tuple #[.pointer none, .int .i64 1]) ∧ w = w' := by
  have hg := hA.given hO
  obtain ⟨ra, rc, hc, hl, hle⟩ := hA.rcell hO
  rcases hn with h | h
  · go_enter Try.func22, Try.ntmps22
    go_wp2_with (go_at_call 46; refine (dGiven d _ _ hg).mono ?_; rintro e w1 ⟨rfl, rfl⟩; rw [fileOk_0])
    go_ret2
    exact ⟨rfl, rfl⟩
  · have h0 : 0 ≤ n := by omega
    go_enter Try.func22, Try.ntmps22
    go_wp2_with (go_at_call 46; refine (dGiven d _ _ hg).mono ?_; rintro e w1 ⟨rfl, rfl⟩; rw [fileOk_0])
    go_ret2
    exact ⟨rfl, rfl⟩

set_option maxRecDepth 100000 in
set_option maxHeartbeats 4000000 in
theorem dCut_ok (E w : World) (X R : Fr) (d : Nat) (rs : List Raw) (A : Fr) (m : Nat) (hm : m ≤ rs.length) (hlen : rs.length ≤ 8796093022208) (hA : DiskAt d rs A) (hO : Own E w X) [hp : Pick X A R] :
    Calls Try.prog 22 #[.pointer (some ⟨d, 0, none⟩), .int .i64 m] w fun e w' => ∃ c C, e = .returned (.tuple #[.pointer (some ⟨c, 0, none⟩), .int .i64 0]) ∧ DiskAt c (rs.take m) C ∧ Own E w' (C ++ (A ++ R)) := by
  have hg := hA.given hO
  obtain ⟨ra, rc, hle, hl, hraw⟩ := raws_of hA
  replace hO := hO.perm hp.perm
  clear hp
  have hc := (hraw E w _ _ hO inferInstance).1
  have h1 : (m : Int) ≤ rs.length := by omega
  have h2 : (0 : Int) ≤ m := by omega
  have h3 : (m : Int) ≤ rc := by omega
  have h4 : (m : Int) ≤ 8796093022208 := by omega
  have HR := Lib.hid hraw
  clear hraw
  go_enter Try.func22, Try.ntmps22
  go_wp2_with (first | (go_at_call 46; refine (dGiven d _ _ hg).mono ?_; rintro e w1 ⟨rfl, rfl⟩; rw [fileOk_0]) | (go_at_call 15; refine (dNew E _ _ hO).mono ?_; rintro e w1 ⟨c, C, rfl, hC, hO1⟩; clear hO hg hc; have hO := hO1; clear hO1; have hc := (HR.out E _ _ _ hO inferInstance).1))
  clear hc
  go_loopw [33] (fun i wr => ∃ j : Nat, j ≤ m ∧ i = .int .i64 j ∧ ∃ C, DiskAt c (rs.take j) C ∧ Own E wr (C ++ (A ++ R))) (fun i _ => m - (intOf i).toNat)
  case atStart => exact ⟨0, by omega, rfl, C, by simpa using hC, hO⟩
  case round =>
    obtain ⟨j, hj, rfl, C, hC, hO⟩ := hrel
    by_cases hlt : j < m
    · have hlt' : (j : Int) < m := by omega
      have hj0 : (0 : Int) ≤ j := by omega
      have hjr : j < rs.length := by omega
      obtain ⟨b, rfl, hcell⟩ := (HR.out E _ _ _ hO inferInstance).2 j hjr
      have hok := hA.1 j hjr
      have htk : (rs.take j).length ≤ 8796093022208 := by rw [List.length_take]; omega
      go_wp2_with (go_at_call 47; go_must (refine (dDoes E _ _ _ c (rs.take j) C _ hC hok htk hO).mono ?_; rintro e w1 ⟨rfl, C', hC', hO'⟩))
      go_roundw
      case rel => 
        rw [← List.take_succ_eq_append_getElem hjr] at hC'
        exact ⟨j + 1, by omega, by go_num, C', hC', hO'⟩
      case measure => simp [intOf]; omega
    · have hjm : j = m := by omega
      subst hjm
      go_wp2
      go_ret2
      exact ⟨c, C, rfl, hC, hO⟩
end Go.Proofs.Ytkkeplobomncgaa
