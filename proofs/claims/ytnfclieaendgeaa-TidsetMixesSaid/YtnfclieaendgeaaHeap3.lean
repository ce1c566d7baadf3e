/- container/heap over the sorter's heads: up at the root, Init, Fix, Pop. -/
import Derived.Test.YtnfclieaendgeaaHeap2
import Derived.Test.YtnfclieaendgeaaMix2
set_option linter.all false
namespace Go.Proofs.Ytnfclieaendgeaa
open Go Go.RowKit Go.Own Go.Hp

theorem wrap_n (n : Nat) (h : n ≤ 8796093022208) : IntKind.i64.wrap (n : Int) = (n : Int) := by
  simp only [IntKind.wrap, show IntKind.bits .i64 = 64 from rfl, show IntKind.signed .i64 = true from rfl]
  rw [Int.emod_eq_of_lt (by omega) (by omega), if_neg (by simp; omega)]

set_option maxRecDepth 100000 in
set_option maxHeartbeats 16000000 in
theorem hUp0 (w : World) (hb : Nat) : Calls Try.prog 69 #[.iface 87 (.pointer (some ⟨hb, 0, none⟩)), .int .i64 0] w fun e w' => e = .returned (.tuple #[]) ∧ w' = w := by
  go_enter Try.func69, Try.ntmps69
  go_wp2_with fail
  go_loopw [1] (fun s1 wr => s1 = .int .i64 0 ∧ wr = w) (fun _ _ => 0)
  case atStart => exact ⟨rfl, rfl⟩
  case round =>
    obtain ⟨rfl, rfl⟩ := hrel
    go_wp2_with fail
    go_end0
    exact ⟨rfl, rfl⟩

set_option maxRecDepth 100000 in
set_option maxHeartbeats 16000000 in
theorem hPopM (E w : World) (X R A : Fr) (hb N : Nat) (f : Nat → Run) (hA : HeapAt hb (N + 1) f A) (hN : N ≤ 5864062014805) (hO : Own E w X) [hp : Pick X A R] :
    Calls Try.prog 125 #[.pointer (some ⟨hb, 0, none⟩)] w fun e w' => ∃ v A', e = .returned v ∧ HeapAt hb N f A' ∧ Own E w' (A' ++ R) := by
  replace hO := hO.perm hp.perm
  clear hp
  obtain ⟨a, cap, S, hSl, rfl⟩ := hA
  obtain ⟨b, rfl⟩ := sl_some8 hSl (by omega)
  have hgl := rows_get f (N + 1) N (by omega)
  have hcap := hSl.le
  have hcl := hSl.cap_le
  have hS2 : Sl 23 1 (some ⟨b, 0, none⟩) N cap (rows f N) S := by
    have h1 := hSl.take N (by omega)
    have h2 : (rows f (N + 1)).take (N * 1) = rows f N := by simp [rows, List.range_succ]
    rw [h2] at h1
    exact h1
  obtain ⟨rest, rfl⟩ := sl_open8 hSl
  have hrn : (rows f (N + 1) ++ rest).toArray[N]? = some (runV (f N)) := by rw [List.getElem?_toArray, List.getElem?_append_left (by rw [rows_length]; omega), hgl]
  generalize (rows f (N + 1) ++ rest).toArray = row at hO hrn hS2
  unfold runV at hrn
  clear hSl hgl
  have hM : ∃ M : Nat, M = N + 1 := ⟨_, rfl⟩
  obtain ⟨M, hM⟩ := hM
  rw [← hM] at hO
  have hn1 : (N : Int) < M := by omega
  have hn2 : (N : Int) ≤ M := by omega
  have hn3 : (M : Int) ≤ cap := by omega
  have hn4 : (N : Int) ≤ cap := by omega
  have hN1 : (M : Int) ≤ 5864062014806 := by omega
  have hn0 : (0 : Int) ≤ N := by omega
  have hw : wrap64 ((M : Int) - 1) = N := by unfold wrap64; omega
  have hwr : IntKind.i64.wrap ((M : Int) - 1) = N := by rw [show (M : Int) - 1 = N by omega]; exact wrap_n N (by omega)
  have HS2 := Lib.hid hS2
  have HN := Lib.hid hN
  clear hcap hS2 hM hN
  go_enter Try.func125, Try.ntmps125
  go_wp2_with fail
  refine own_still (by kernel_rfl) (by kernel_rfl) hO ?_
  clear hO
  intro w2 hO
  ((try simp only [List.nil_append, List.append_nil] at hO); have hF := Own.cells hO; simp only [cellsOf_append, cellsOf_pt] at hF)
  (repeat still_step)
  refine wpStill_nil ?_
  go_wp2_with fail
  refine region_k (fun w' => Own E w' (pt hb (.cells #[.slice (some ⟨b, 0, none⟩) M cap] 85 (0, 0)))) 11 (.look 0 (.look 1 (.look 2 (.look 3 (.look 4 (.look 5 (.look 6 (.look 7 (.look 8 (.look 9 (.act 10 (.act 11 .done)))))))))))) (by kernel_rfl) (by kernel_rfl) (fun _ _ d _ _ h => by cases d <;> exact h) ?_ ?_
  · exact hO.drew.as _
  replace hO := hO.drew
  generalize World.drew _ = w3 at hO ⊢
  (refine k_look (o := ?_) (v := ?_) ?_ ?_ ?_ ?_; rotate_left 2; (· ((conv => lhs; whnf); try exact rfl)); (· rfl); (· intro w' hO'; (have hF' := Own.cells hO'; simp only [cellsOf_append, cellsOf_pt] at hF'); go_simp; (try exact rfl)); simp only [Act.put, List.setIfInBounds_toArray, List.set_cons_zero, List.set_cons_succ])
  (refine k_look (o := ?_) (v := ?_) ?_ ?_ ?_ ?_; rotate_left 2; (· ((conv => lhs; whnf); try exact rfl)); (· rfl); (· intro w' hO'; (have hF' := Own.cells hO'; simp only [cellsOf_append, cellsOf_pt] at hF'); go_simp; (try exact rfl)); simp only [Act.put, List.setIfInBounds_toArray, List.set_cons_zero, List.set_cons_succ])
  (refine k_look (o := ?_) (v := ?_) ?_ ?_ ?_ ?_; rotate_left 2; (· ((conv => lhs; whnf); try exact rfl)); (· rfl); (· intro w' hO'; (have hF' := Own.cells hO'; simp only [cellsOf_append, cellsOf_pt] at hF'); go_simp; (try exact rfl)); simp only [Act.put, List.setIfInBounds_toArray, List.set_cons_zero, List.set_cons_succ])
  (refine k_look (o := ?_) (v := ?_) ?_ ?_ ?_ ?_; rotate_left 2; (· ((conv => lhs; whnf); try exact rfl)); (· rfl); (· intro w' hO'; (have hF' := Own.cells hO'; simp only [cellsOf_append, cellsOf_pt] at hF'); go_simp; (try exact rfl)); simp only [Act.put, List.setIfInBounds_toArray, List.set_cons_zero, List.set_cons_succ])
  (refine k_look (o := ?_) (v := ?_) ?_ ?_ ?_ ?_; rotate_left 2; (· ((conv => lhs; whnf); try exact rfl)); (· rfl); (· intro w' hO'; (have hF' := Own.cells hO'; simp only [cellsOf_append, cellsOf_pt] at hF'); go_simp; (try exact rfl)); simp only [Act.put, List.setIfInBounds_toArray, List.set_cons_zero, List.set_cons_succ])
  (refine k_look (o := ?_) (v := ?_) ?_ ?_ ?_ ?_; rotate_left 2; (· ((conv => lhs; whnf); try exact rfl)); (· rfl); (· intro w' hO'; (have hF' := Own.cells hO'; simp only [cellsOf_append, cellsOf_pt] at hF'); go_simp; (try exact rfl)); simp only [Act.put, List.setIfInBounds_toArray, List.set_cons_zero, List.set_cons_succ])
  (refine k_look (o := ?_) (v := ?_) ?_ ?_ ?_ ?_; rotate_left 2; (· ((conv => lhs; whnf); try exact rfl)); (· rfl); (· intro w' hO'; (have hF' := Own.cells hO'; simp only [cellsOf_append, cellsOf_pt] at hF'); go_simp; (try exact rfl)); simp only [Act.put, List.setIfInBounds_toArray, List.set_cons_zero, List.set_cons_succ])
  (refine k_look (o := ?_) (v := ?_) ?_ ?_ ?_ ?_; rotate_left 2; (· ((conv => lhs; whnf); try exact rfl)); (· rfl); (· intro w' hO'; (have hF' := Own.cells hO'; simp only [cellsOf_append, cellsOf_pt] at hF'); go_simp; (try exact rfl)); simp only [Act.put, List.setIfInBounds_toArray, List.set_cons_zero, List.set_cons_succ])
  (refine k_look (o := ?_) (v := ?_) ?_ ?_ ?_ ?_; rotate_left 2; (· ((conv => lhs; whnf); try exact rfl)); (· rfl); (· intro w' hO'; (have hF' := Own.cells hO'; simp only [cellsOf_append, cellsOf_pt] at hF'); go_simp; (try exact rfl)); simp only [Act.put, List.setIfInBounds_toArray, List.set_cons_zero, List.set_cons_succ])
  (refine k_look (o := ?_) (v := ?_) ?_ ?_ ?_ ?_; rotate_left 2; (· ((conv => lhs; whnf); try exact rfl)); (· rfl); (· intro w' hO'; (have hF' := Own.cells hO'; simp only [cellsOf_append, cellsOf_pt] at hF'); go_simp; (try exact rfl)); simp only [Act.put, List.setIfInBounds_toArray, List.set_cons_zero, List.set_cons_succ])
  (refine k_act (o := ?_) ?_ ?_; rotate_left; (· ((conv => lhs; whnf); try exact rfl)))
  go_wp2_with fail
  refine ⟨hO.as _, ?_⟩
  (refine k_act (o := ?_) ?_ ?_; rotate_left; (· ((conv => lhs; whnf); try exact rfl)))
  ((try simp only [List.nil_append, List.append_nil] at hO); have hF := Own.cells hO; simp only [cellsOf_append, cellsOf_pt] at hF)
  go_wp2_with (first | (refine own_store (v := ?_) (off := 0) (b := hb) hO ?_ ?_ ?_ ?_ ?_ ?_ ?_; rotate_left; (· rfl); (· ((conv => lhs; whnf); try exact rfl)); (· ((conv => lhs; whnf); try exact rfl)); (· simp [Value.cells]); (· simp [Value.cells, Value.oneCell']); (· simp [Value.cells]); clear hO; (try clear hF); intro _ hO; (try simp only [splice, Value.cells] at hO); ((try simp only [List.nil_append, List.append_nil] at hO); have hF := Own.cells hO; simp only [cellsOf_append, cellsOf_pt] at hF); simp only [Act.put, List.setIfInBounds_toArray, List.set_cons_zero, List.set_cons_succ]))
  (try simp only [splice, Value.cells, List.setIfInBounds_toArray, List.set_cons_zero, List.set_cons_succ] at hO)
  refine k_done ?_
  go_wp2_with fail
  go_ret
  exact ⟨_, _, rfl, ⟨_, cap, _, HS2.out, rfl⟩, hO.as _⟩

theorem HeapAt.cell {E w : World} {hb N : Nat} {f : Nat → Run} {A X R : Fr} (h : HeapAt hb N f A) (hO : Own E w X) [hp : Pick X A R] : ∃ a cap S, A = pt hb (.cells #[.slice a N cap] 85 (0, 0)) ++ S ∧ Sl 23 1 a N cap (rows f N) S ∧ w.cell? ⟨hb, 0, none⟩ = some (.slice a N cap) := by
  obtain ⟨a, cap, S, h1, rfl⟩ := h
  refine ⟨a, cap, S, rfl, h1, ?_⟩
  have h2 := (hO.perm hp.perm).as (pt hb (.cells #[.slice a N cap] 85 (0, 0)) ++ (S ++ R))
  exact h2.cell (b := hb) 0

set_option maxRecDepth 100000 in
set_option maxHeartbeats 16000000 in
theorem hInit (E w : World) (X R A I : Fr) (hb N : Nat) (f : Nat → Run) (hA : HeapAt hb N f A) (hI : RunsIn E I f N) (hN : N ≤ 5864062014805) (hne : ∀ k, k < N → (f k).l ≠ []) (hO : Own E w X) [hp : Pick X (A ++ I) R] :
    Calls Try.prog 57 #[.iface 87 (.pointer (some ⟨hb, 0, none⟩))] w fun e w' =>
      ∃ f' A', e = .returned (.tuple #[]) ∧ HeapAt hb N f' A' ∧ Hp leR f' 0 N ∧ Sm f f' N ∧ Own E w' (A' ++ (I ++ R)) := by
  have hO0 : Own E w (A ++ (I ++ R)) := (hO.perm hp.perm).as _
  clear hp hO
  have hn1 : (N : Int) ≤ 5864062014805 := by omega
  obtain ⟨a, cap, S, rfl, hSl, hcl⟩ := hA.cell hO0
  have hm := methLen hcl
  go_enter Try.func57, Try.ntmps57
  go_wp2_with fail
  refine (hLen _ _ _ _).mono ?_
  rintro e w1 ⟨rfl, rfl⟩
  clear hm hcl
  go_wp2_with fail
  go_loopw [3] (fun s3 wr => ∃ (z : Int) (k : Nat) (f' : Nat → Run) (A' : Fr), s3 = .int .i64 z ∧ z + 1 = k ∧ k ≤ N ∧ HeapAt hb N f' A' ∧ Hp leR f' k N ∧ Sm f f' N ∧ Own E wr (A' ++ (I ++ R))) (fun s3 _ => (intOf s3 + 1).toNat)
  case atStart => exact ⟨_, N / 2, f, _, rfl, by omega, by omega, hA, Hp.top (by omega), Sm.refl _ _, hO0⟩
  case round =>
    clear hO0 hA hSl
    obtain ⟨z, k, f', A', rfl, hz, hk, hA, hH, hS, hO⟩ := hrel
    cases k with
    | zero =>
      obtain rfl : z = -1 := by omega
      go_wp2_with fail
      go_end0
      exact ⟨f', A', rfl, hA, hH, hS, hO⟩
    | succ j =>
      obtain rfl : z = (j : Nat) := by omega
      have hj0 : (0 : Int) ≤ j := by omega
      have hj1 : (j : Int) ≤ 5864062014805 := by omega
      clear hz
      go_wp2_with fail
      refine (hDown E _ _ _ A' I hb N j N f' hA (RunsIn.sm hI (Nat.le_refl _) hS) (Nat.le_refl _) hN (by omega) (hS.all (fun r => r.l ≠ []) hne) hH hO).mono ?_
      rintro e w2 ⟨b, f2, A2, rfl, hA2, hH2, hS2, hO⟩
      go_wp2_with fail
      go_roundw
      case rel => exact ⟨_, j, f2, A2, rfl, by omega, by omega, hA2, hH2, hS.trans hS2, hO.as _⟩
      case measure => simp [intOf]

set_option maxRecDepth 100000 in
set_option maxHeartbeats 16000000 in
theorem hFix0 (E w : World) (X R A I : Fr) (hb N : Nat) (f : Nat → Run) (hA : HeapAt hb N f A) (hI : RunsIn E I f N) (hN : N ≤ 5864062014805) (hne : ∀ k, k < N → (f k).l ≠ []) (hp0 : Hp leR f 1 N) (hO : Own E w X) [hp : Pick X (A ++ I) R] :
    Calls Try.prog 59 #[.iface 87 (.pointer (some ⟨hb, 0, none⟩)), .int .i64 0] w fun e w' =>
      ∃ f' A', e = .returned (.tuple #[]) ∧ HeapAt hb N f' A' ∧ Hp leR f' 0 N ∧ Sm f f' N ∧ Own E w' (A' ++ (I ++ R)) := by
  have hO0 : Own E w (A ++ (I ++ R)) := (hO.perm hp.perm).as _
  clear hp hO
  have hO := hO0
  clear hO0
  have hn1 : (N : Int) ≤ 5864062014805 := by omega
  obtain ⟨a, cap, S, hA1, hSl, hcl⟩ := hA.cell hO
  have hm := methLen hcl
  go_enter Try.func59, Try.ntmps59
  go_wp2_with fail
  refine (hLen _ _ _ _).mono ?_
  rintro e w1 ⟨rfl, rfl⟩
  clear hm hcl hA1 hSl
  go_wp2_with fail
  refine (hDown E _ _ _ A I hb N 0 N f hA hI (Nat.le_refl _) hN (Nat.zero_le _) hne hp0 hO).mono ?_
  rintro e w2 ⟨b, f', A', rfl, hA', hH', hS', hO⟩
  cases b
  · go_wp2_with fail
    refine (hUp0 _ _).mono ?_
    rintro e w3 ⟨rfl, rfl⟩
    go_wp2_with fail
    go_end0
    exact ⟨f', A', rfl, hA', hH', hS', hO.as _⟩
  · go_wp2_with fail
    go_end0
    exact ⟨f', A', rfl, hA', hH', hS', hO.as _⟩

set_option maxRecDepth 100000 in
set_option maxHeartbeats 16000000 in
theorem hPop (E w : World) (X R A I : Fr) (hb N : Nat) (f : Nat → Run) (hA : HeapAt hb (N + 1) f A) (hI : RunsIn E I f (N + 1)) (hN : N + 1 ≤ 5864062014805) (hne : ∀ k, 0 < k → k < N + 1 → (f k).l ≠ []) (hp0 : Hp leR f 1 (N + 1)) (hO : Own E w X) [hp : Pick X (A ++ I) R] :
    Calls Try.prog 58 #[.iface 87 (.pointer (some ⟨hb, 0, none⟩))] w fun e w' =>
      ∃ v f' A', e = .returned v ∧ HeapAt hb N f' A' ∧ Hp leR f' 0 N ∧ Sm (swp f 0 N) f' N ∧ Own E w' (A' ++ (I ++ R)) := by
  have hO0 : Own E w (A ++ (I ++ R)) := (hO.perm hp.perm).as _
  clear hp hO
  have hO := hO0
  clear hO0
  have hn1 : (N : Int) ≤ 5864062014805 := by omega
  obtain ⟨a, cap, S, rfl, hSl, hcl⟩ := hA.cell hO
  have hm := methLen hcl
  go_enter Try.func58, Try.ntmps58
  go_wp2_with fail
  refine (hLen _ _ _ _).mono ?_
  rintro e w1 ⟨rfl, rfl⟩
  clear hm
  have hm := methSwap hcl
  have hwr : IntKind.i64.wrap (((N + 1 : Nat) : Int) - 1) = N := by rw [show ((N + 1 : Nat) : Int) - 1 = N by omega]; exact wrap_n N (by omega)
  have hw : wrap64 (((N + 1 : Nat) : Int) - 1) = N := by unfold wrap64; omega
  go_wp2_with fail
  replace hO := hO.as (S ++ (pt hb (.cells #[.slice a (N + 1) cap] 85 (0, 0)) ++ (I ++ R)))
  refine (hSwapZ E _ _ _ S a (N + 1) cap 0 N f 0 N rfl rfl hSl (by omega) (by omega) hO).mono ?_
  rintro e w2 ⟨rfl, S2, hS2, hO⟩
  clear hm hcl hw hwr
  have hA2 : HeapAt hb (N + 1) (swp f 0 N) (pt hb (.cells #[.slice a (N + 1) cap] 85 (0, 0)) ++ S2) := ⟨a, cap, S2, hS2, rfl⟩
  replace hO := hO.as ((pt hb (.cells #[.slice a (N + 1) cap] 85 (0, 0)) ++ S2) ++ (I ++ R))
  generalize (pt hb (.cells #[.slice a (N + 1) cap] 85 (0, 0)) ++ S2) = A2 at hA2 hO
  have hsw := (Sm.refl f (N + 1)).swp (i := 0) (j := N) (by omega) (by omega)
  have hp2 : Hp leR (swp f 0 N) 1 N := by
    intro p c h1 h2 h3
    rw [swp_o _ _ _ _ (by omega) (by omega), swp_o _ _ _ _ (by omega) (by omega)]
    exact hp0 p c h1 h2 (by omega)
  have hne2 : ∀ k, k < N → (swp f 0 N k).l ≠ [] := by
    intro k hk
    by_cases h0 : k = 0
    · subst h0
      rw [swp_i]
      exact hne N hk (by omega)
    · rw [swp_o _ _ _ _ h0 (by omega)]
      exact hne k (by omega) (by omega)
  go_wp2_with fail
  refine (hDown E _ _ _ A2 I hb (N + 1) 0 N (swp f 0 N) hA2 (RunsIn.sm hI (Nat.le_refl _) hsw) (Nat.le_succ N) hN (Nat.zero_le _) hne2 hp2 hO).mono ?_
  rintro e w3 ⟨b, f3, A3, rfl, hA3, hH3, hS3, hO⟩
  have hm := methPop (.pointer (some ⟨hb, 0, none⟩)) w3
  go_wp2_with fail
  refine (hPopM E _ _ _ A3 hb N f3 hA3 (by omega) hO).mono ?_
  rintro e w4 ⟨v, A4, rfl, hA4, hO⟩
  go_wp2_with fail
  go_ret
  exact ⟨_, f3, A4, rfl, hA4, hH3, hS3, hO.as _⟩
end Go.Proofs.Ytnfclieaendgeaa
