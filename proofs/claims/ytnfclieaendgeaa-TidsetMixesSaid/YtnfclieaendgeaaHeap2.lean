/- container/heap over the sorter's heads: down. -/
import Derived.Test.YtnfclieaendgeaaHeap1
import Derived.Test.YtnfclieaendgeaaHeap0
import Derived.Sort.Walk0
set_option linter.all false
namespace Go.Proofs.Ytnfclieaendgeaa
open Go Go.RowKit Go.Own Go.Hp

def HeapAt (hb N : Nat) (f : Nat → Run) (A : Fr) : Prop := ∃ a cap S, Sl 23 1 a N cap (rows f N) S ∧ A = pt hb (.cells #[.slice a N cap] 85 (0, 0)) ++ S
def leR (r s : Run) : Prop := bl (hdR s) (hdR r) = false
/-- The same runs below n, in another order. -/
structure Sm (f f' : Nat → Run) (n : Nat) : Prop where
  sum : ∀ m : Run → Nat, tot (fun k => m (f' k)) n = tot (fun k => m (f k)) n
  hi : ∀ k, n ≤ k → f' k = f k
  all : ∀ P : Run → Prop, (∀ k, k < n → P (f k)) → ∀ k, k < n → P (f' k)
theorem Sm.refl (f : Nat → Run) (n : Nat) : Sm f f n := ⟨fun _ => rfl, fun _ _ => rfl, fun _ h => h⟩
theorem Sm.swp {f f' : Nat → Run} {n : Nat} (h : Sm f f' n) {i j : Nat} (hi : i < n) (hj : j < n) : Sm f (swp f' i j) n := by
  refine ⟨fun m => (tot_swp m f' i j n hi hj).trans (h.sum m), fun k hk => by rw [swp_o _ _ _ _ (by omega) (by omega)]; exact h.hi k hk, fun P hP k hk => ?_⟩
  have h1 := h.all P hP
  unfold Hp.swp
  split
  · exact h1 j hj
  · split
    · exact h1 i hi
    · exact h1 k hk
theorem Sm.trans {f g h : Nat → Run} {n : Nat} (h1 : Sm f g n) (h2 : Sm g h n) : Sm f h n :=
  ⟨fun m => (h2.sum m).trans (h1.sum m), fun k hk => (h2.hi k hk).trans (h1.hi k hk), fun P hP => h2.all P (h1.all P hP)⟩
theorem RunsIn.sm {E : World} {I : Fr} {f f' : Nat → Run} {n N : Nat} (h : RunsIn E I f N) (hn : n ≤ N) (hs : Sm f f' n) : RunsIn E I f' N := by
  intro k hk
  by_cases hkn : k < n
  · exact hs.all (fun r => ∀ w, Own E w I → ∀ i (h : i < r.l.length), w.cell? (r.ad.add i) = some (.string r.l[i])) (fun k hk => h k (by omega)) k hkn
  · rw [hs.hi k (by omega)]
    exact h k hk

theorem bl_eq (a b : ByteArray) : bl a b = decide (a.toList < b.toList) := bytesLess_eq _ _
theorem bl_asym {a b : ByteArray} (h : bl a b = true) : bl b a = false := by
  rw [bl_eq] at h ⊢
  exact decide_eq_false (List.lt_asymm (of_decide_eq_true h))
theorem leR_iff (r s : Run) : leR r s ↔ (hdR r).toList ≤ (hdR s).toList := by
  unfold leR
  rw [bl_eq, decide_eq_false_iff_not]
  exact List.not_lt
theorem leR_refl (r : Run) : leR r r := (leR_iff r r).2 (List.le_refl _)
theorem leR_trans (r s t : Run) (h1 : leR r s) (h2 : leR s t) : leR r t := (leR_iff r t).2 (List.le_trans ((leR_iff r s).1 h1) ((leR_iff s t).1 h2))

theorem hLessZ (E w : World) (X R S I : Fr) (a : Option Addr) (n cap i j : Nat) (f : Nat → Run) (ii jj : Int) (hii : ii = (i : Nat)) (hjj : jj = (j : Nat)) (hS : Sl 23 1 a n cap (rows f n) S) (hI : RunsIn E I f n) (hi : i < n) (hj : j < n) (hni : (f i).l ≠ []) (hnj : (f j).l ≠ []) (hO : Own E w X) [hp : Pick X (S ++ I) R] :
    Calls Try.prog 123 #[.slice a n cap, .int .i64 ii, .int .i64 jj] w fun e w' => e = .returned (.bool (bl (hdR (f i)) (hdR (f j)))) ∧ Own E w' (S ++ (I ++ R)) := by
  subst hii hjj
  exact hLess E w X R S I a n cap i j f hS hI hi hj hni hnj hO
theorem hSwapZ (E w : World) (X R S : Fr) (a : Option Addr) (n cap i j : Nat) (f : Nat → Run) (ii jj : Int) (hii : ii = (i : Nat)) (hjj : jj = (j : Nat)) (hS : Sl 23 1 a n cap (rows f n) S) (hi : i < n) (hj : j < n) (hO : Own E w X) [hp : Pick X S R] :
    Calls Try.prog 124 #[.slice a n cap, .int .i64 ii, .int .i64 jj] w fun e w' => e = .returned (.tuple #[]) ∧ ∃ S', Sl 23 1 a n cap (rows (swp f i j) n) S' ∧ Own E w' (S' ++ R) := by
  subst hii hjj
  exact hSwap E w X R S a n cap i j f hS hi hj hO

set_option maxRecDepth 100000 in
set_option maxHeartbeats 16000000 in
theorem hDown (E w : World) (X R A I : Fr) (hb N i0 n : Nat) (f : Nat → Run) (hA : HeapAt hb N f A) (hI : RunsIn E I f N) (hn : n ≤ N) (hN : N ≤ 5864062014805) (hi : i0 ≤ n) (hne : ∀ k, k < n → (f k).l ≠ []) (hp0 : Hp leR f (i0 + 1) n) (hO : Own E w X) [hp : Pick X (A ++ I) R] :
    Calls Try.prog 68 #[.iface 87 (.pointer (some ⟨hb, 0, none⟩)), .int .i64 i0, .int .i64 n] w fun e w' =>
      ∃ b f' A', e = .returned (.bool b) ∧ HeapAt hb N f' A' ∧ Hp leR f' i0 n ∧ Sm f f' n ∧ Own E w' (A' ++ (I ++ R)) := by
  have hO0 : Own E w (A ++ (I ++ R)) := (hO.perm hp.perm).as _
  clear hp hO
  have hn1 : (n : Int) ≤ 5864062014805 := by omega
  go_enter Try.func68, Try.ntmps68
  go_wp2_with fail
  go_loopw [7] (fun s7 wr => ∃ (x : Nat) (f' : Nat → Run) (A' : Fr), s7 = .int .i64 x ∧ i0 ≤ x ∧ x ≤ n ∧ HeapAt hb N f' A' ∧ Hpx leR f' i0 n x ∧ Sm f f' n ∧ Own E wr (A' ++ (I ++ R))) (fun s7 _ => n - (intOf s7).toNat)
  case atStart => exact ⟨i0, f, A, rfl, Nat.le_refl _, hi, hA, Hpx.start hp0, Sm.refl _ _, hO0⟩
  case round =>
    clear hO0 hA
    obtain ⟨x, f', A', rfl, hx, hxn, hA, hH, hS, hO⟩ := hrel
    have hx1 : (x : Int) ≤ 5864062014805 := by omega
    have hx0 : (0 : Int) ≤ x := by omega
    by_cases h1 : 2 * x + 1 < n
    · have h1i : (2 : Int) * x + 1 < n := by omega
      have hnx := hS.all (fun r => r.l ≠ []) hne
      have hI' := RunsIn.sm hI hn hS
      by_cases h2 : 2 * x + 2 < n
      · have h2i : (2 : Int) * x + 1 + 1 < n := by omega
        obtain ⟨a, cap, S, hSl, rfl⟩ := hA
        have hm := methLess (a := ⟨hb, 0, none⟩) (hO.cell (b := hb) 0)
        ((try simp only [List.nil_append, List.append_nil] at hO); have hF := Own.cells hO; simp only [cellsOf_append, cellsOf_pt] at hF)
        go_wp2_with fail
        refine (hLessZ E _ _ _ S I a N cap (2 * x + 2) (2 * x + 1) f' (2 * (x : Int) + 1 + 1) (2 * (x : Int) + 1) (by omega) (by omega) hSl hI' (by omega) (by omega) (hnx _ (by omega)) (hnx _ (by omega)) hO).mono ?_
        rintro e w2 ⟨rfl, hO⟩
        clear hm
        replace hO := hO.as (pt hb (.cells #[.slice a N cap] 85 (0, 0)) ++ (S ++ (I ++ R)))
        cases hb2 : bl (hdR (f' (2 * x + 2))) (hdR (f' (2 * x + 1)))
        · (
          have hmin : ∀ c, (c = 2 * x + 1 ∨ c = 2 * x + 2) → c < n → leR (f' (2 * x + 1)) (f' c) := (by intro c h3 h4; rcases h3 with rfl | rfl; (· exact leR_refl _); (· exact hb2))
          have hm := methLess (a := ⟨hb, 0, none⟩) (hO.cell (b := hb) 0)
          ((try simp only [List.nil_append, List.append_nil] at hO); have hF := Own.cells hO; simp only [cellsOf_append, cellsOf_pt] at hF)
          go_wp2_with fail
          refine (hLessZ E _ _ _ S I a N cap (2 * x + 1) x f' (2 * (x : Int) + 1) x (by omega) (by omega) hSl hI' (by omega) (by omega) (hnx _ (by omega)) (hnx _ (by omega)) hO).mono ?_
          rintro e w3 ⟨rfl, hO⟩
          cases hb3 : bl (hdR (f' (2 * x + 1))) (hdR (f' x))
          · go_wp2_with fail
            go_ret
            exact ⟨_, f', _, rfl, ⟨a, cap, S, hSl, rfl⟩, hH.stop (fun c h3 h4 => leR_trans _ _ _ hb3 (hmin c h3 h4)), hS, hO.as _⟩
          · have hm := methSwap (a := ⟨hb, 0, none⟩) (hO.cell (b := hb) 0)
            ((try simp only [List.nil_append, List.append_nil] at hO); have hF := Own.cells hO; simp only [cellsOf_append, cellsOf_pt] at hF)
            go_wp2_with fail
            refine (hSwapZ E _ _ _ S a N cap x (2 * x + 1) f' x (2 * (x : Int) + 1) (by omega) (by omega) hSl (by omega) (by omega) hO).mono ?_
            rintro e w4 ⟨rfl, S2, hS2, hO⟩
            go_wp2_with fail
            go_roundw
            case rel => exact ⟨(2 * x + 1), swp f' x (2 * x + 1), _, by go_num, by omega, by omega, ⟨a, cap, S2, hS2, rfl⟩, hH.step hx (by omega) (by omega) (bl_asym hb3) hmin, hS.swp (by omega) (by omega), hO.as _⟩
            case measure => simp [intOf]; omega)
        · (
          have hmin : ∀ c, (c = 2 * x + 1 ∨ c = 2 * x + 2) → c < n → leR (f' (2 * x + 2)) (f' c) := (by intro c h3 h4; rcases h3 with rfl | rfl; (· exact bl_asym hb2); (· exact leR_refl _))
          have hm := methLess (a := ⟨hb, 0, none⟩) (hO.cell (b := hb) 0)
          ((try simp only [List.nil_append, List.append_nil] at hO); have hF := Own.cells hO; simp only [cellsOf_append, cellsOf_pt] at hF)
          go_wp2_with fail
          refine (hLessZ E _ _ _ S I a N cap (2 * x + 2) x f' (2 * (x : Int) + 1 + 1) x (by omega) (by omega) hSl hI' (by omega) (by omega) (hnx _ (by omega)) (hnx _ (by omega)) hO).mono ?_
          rintro e w3 ⟨rfl, hO⟩
          cases hb3 : bl (hdR (f' (2 * x + 2))) (hdR (f' x))
          · go_wp2_with fail
            go_ret
            exact ⟨_, f', _, rfl, ⟨a, cap, S, hSl, rfl⟩, hH.stop (fun c h3 h4 => leR_trans _ _ _ hb3 (hmin c h3 h4)), hS, hO.as _⟩
          · have hm := methSwap (a := ⟨hb, 0, none⟩) (hO.cell (b := hb) 0)
            ((try simp only [List.nil_append, List.append_nil] at hO); have hF := Own.cells hO; simp only [cellsOf_append, cellsOf_pt] at hF)
            go_wp2_with fail
            refine (hSwapZ E _ _ _ S a N cap x (2 * x + 2) f' x (2 * (x : Int) + 1 + 1) (by omega) (by omega) hSl (by omega) (by omega) hO).mono ?_
            rintro e w4 ⟨rfl, S2, hS2, hO⟩
            go_wp2_with fail
            go_roundw
            case rel => exact ⟨(2 * x + 2), swp f' x (2 * x + 2), _, by go_num, by omega, by omega, ⟨a, cap, S2, hS2, rfl⟩, hH.step hx (by omega) (by omega) (bl_asym hb3) hmin, hS.swp (by omega) (by omega), hO.as _⟩
            case measure => simp [intOf]; omega)
      · have h2i : ¬ (2 : Int) * x + 1 + 1 < n := by omega
        obtain ⟨a, cap, S, hSl, rfl⟩ := hA
        have hO := hO.as (pt hb (.cells #[.slice a N cap] 85 (0, 0)) ++ (S ++ (I ++ R)))
        (
          have hmin : ∀ c, (c = 2 * x + 1 ∨ c = 2 * x + 2) → c < n → leR (f' (2 * x + 1)) (f' c) := (by intro c h3 h4; rcases h3 with rfl | rfl; (· exact leR_refl _); (· omega))
          have hm := methLess (a := ⟨hb, 0, none⟩) (hO.cell (b := hb) 0)
          ((try simp only [List.nil_append, List.append_nil] at hO); have hF := Own.cells hO; simp only [cellsOf_append, cellsOf_pt] at hF)
          go_wp2_with fail
          refine (hLessZ E _ _ _ S I a N cap (2 * x + 1) x f' (2 * (x : Int) + 1) x (by omega) (by omega) hSl hI' (by omega) (by omega) (hnx _ (by omega)) (hnx _ (by omega)) hO).mono ?_
          rintro e w3 ⟨rfl, hO⟩
          cases hb3 : bl (hdR (f' (2 * x + 1))) (hdR (f' x))
          · go_wp2_with fail
            go_ret
            exact ⟨_, f', _, rfl, ⟨a, cap, S, hSl, rfl⟩, hH.stop (fun c h3 h4 => leR_trans _ _ _ hb3 (hmin c h3 h4)), hS, hO.as _⟩
          · have hm := methSwap (a := ⟨hb, 0, none⟩) (hO.cell (b := hb) 0)
            ((try simp only [List.nil_append, List.append_nil] at hO); have hF := Own.cells hO; simp only [cellsOf_append, cellsOf_pt] at hF)
            go_wp2_with fail
            refine (hSwapZ E _ _ _ S a N cap x (2 * x + 1) f' x (2 * (x : Int) + 1) (by omega) (by omega) hSl (by omega) (by omega) hO).mono ?_
            rintro e w4 ⟨rfl, S2, hS2, hO⟩
            go_wp2_with fail
            go_roundw
            case rel => exact ⟨(2 * x + 1), swp f' x (2 * x + 1), _, by go_num, by omega, by omega, ⟨a, cap, S2, hS2, rfl⟩, hH.step hx (by omega) (by omega) (bl_asym hb3) hmin, hS.swp (by omega) (by omega), hO.as _⟩
            case measure => simp [intOf]; omega)
    · have h1i : ¬ (2 : Int) * x + 1 < n := by omega
      have h1j : n ≤ 2 * x + 1 := by omega
      go_wp2_with fail
      go_ret
      exact ⟨by cases (decide (i0 < x)) <;> simp, f', A', hA, hH.stop (fun c h3 h4 => by omega), hS, hO⟩
end Go.Proofs.Ytnfclieaendgeaa
