/- The sorter's heads: Len, Less, Swap. -/
import Derived.Test.YtnfclieaendgeaaRows
import Derived.Test.YtnfclieaendgeaaHeapM
import Derived.Test.YtnfclieaendgeaaArgs
set_option linter.all false
namespace Go.Hp
open Go.Own Go.RowKit

/-- A run: where it lies, and its texts. -/
structure Run where
  ad : Addr
  cap : Nat
  l : List ByteArray
def runV (r : Run) : Value := .slice (some r.ad) r.l.length r.cap
/-- The first n runs can be read where the blocks I are ours. -/
def RunsIn (E : World) (I : Fr) (f : Nat → Run) (n : Nat) : Prop := ∀ k, k < n → ∀ w, Own E w I → ∀ i (h : i < (f k).l.length), w.cell? ((f k).ad.add i) = some (.string (f k).l[i])
def rows (f : Nat → Run) (n : Nat) : List Value := (List.range n).map fun k => runV (f k)
theorem rows_length (f : Nat → Run) (n : Nat) : (rows f n).length = n := by simp [rows]
theorem rows_get (f : Nat → Run) (n k : Nat) (h : k < n) : (rows f n)[k]? = some (runV (f k)) := by simp [rows, h]
/-- The order of texts. -/
def bl (a b : ByteArray) : Bool := Op.bytesLess a.toList b.toList
def hdR (r : Run) : ByteArray := r.l.headD .empty
end Go.Hp
namespace Go.Proofs.Ytnfclieaendgeaa
open Go Go.RowKit Go.Own Go.Hp

theorem sl_get8 {e : TypeId} {E w : World} {X R A : Fr} {b n cap : Nat} {xs : List Value} (h : Sl e 1 (some ⟨b, 0, none⟩) n cap xs A) (hO : Own E w X) [hp : Pick X A R] (i : Nat) (v : Value) (hi : xs[i]? = some v) : w.cell? ⟨b, i, none⟩ = some v := by
  obtain ⟨hlt, hv⟩ := List.getElem?_eq_some_iff.1 hi
  have := h.cell hO ⟨b, 0, none⟩ rfl i hlt
  rw [add_lit, Nat.zero_add, hv] at this
  exact this
theorem sl_some8 {e : TypeId} {sz : Nat} {a : Option Addr} {n cap : Nat} {xs : List Value} {A : Fr} (h : Sl e sz a n cap xs A) (hn : 0 < n) : ∃ b, a = some ⟨b, 0, none⟩ := by
  rcases h.2.2.2 with ⟨_, hc, _⟩ | ⟨b, rest, hb, _, _⟩
  · have := h.le; omega
  · exact ⟨b, hb⟩

set_option maxRecDepth 100000 in
set_option maxHeartbeats 16000000 in
theorem hLen (w : World) (a : Option Addr) (n cap : Nat) : Calls Try.prog 122 #[.slice a n cap] w fun e w' => e = .returned (.int .i64 n) ∧ w = w' := by
  go_enter Try.func122, Try.ntmps122
  go_wp2
  go_ret
  exact ⟨rfl, rfl⟩

set_option maxRecDepth 100000 in
set_option maxHeartbeats 16000000 in
theorem hLess (E w : World) (X R S I : Fr) (a : Option Addr) (n cap i j : Nat) (f : Nat → Run) (hS : Sl 23 1 a n cap (rows f n) S) (hI : RunsIn E I f n) (hi : i < n) (hj : j < n) (hni : (f i).l ≠ []) (hnj : (f j).l ≠ []) (hO : Own E w X) [hp : Pick X (S ++ I) R] :
    Calls Try.prog 123 #[.slice a n cap, .int .i64 i, .int .i64 j] w fun e w' => e = .returned (.bool (bl (hdR (f i)) (hdR (f j)))) ∧ Own E w' (S ++ (I ++ R)) := by
  have hO0 : Own E w (S ++ (I ++ R)) := (hO.perm hp.perm).as _
  clear hp hO
  have hO := hO0
  clear hO0
  obtain ⟨b, rfl⟩ := sl_some8 hS (by omega)
  have hi1 : (i : Int) < n := by omega
  have hj1 : (j : Int) < n := by omega
  have hi0 : (0 : Int) ≤ i := by omega
  have hj0 : (0 : Int) ≤ j := by omega
  obtain ⟨si, li, hsi⟩ : ∃ s l, (f i).l = s :: l := by cases h : (f i).l with | nil => exact absurd h hni | cons s l => exact ⟨s, l, rfl⟩
  obtain ⟨sj, lj, hsj⟩ : ∃ s l, (f j).l = s :: l := by cases h : (f j).l with | nil => exact absurd h hnj | cons s l => exact ⟨s, l, rfl⟩
  go_enter Try.func123, Try.ntmps123
  go_wp2_with fail
  refine own_still (by kernel_rfl) (by kernel_rfl) hO ?_
  clear hO
  intro w2 hO
  have hca := sl_get8 hS hO i _ (rows_get f n i hi)
  have hcb := sl_get8 hS hO j _ (rows_get f n j hj)
  have hta := hI i hi w2 (hO.as I) 0 (by rw [hsi]; simp)
  have htb := hI j hj w2 (hO.as I) 0 (by rw [hsj]; simp)
  simp only [runV, hsi, hsj, List.length_cons, List.getElem_cons_zero, Addr.add_zero'] at hca hcb hta htb
  (repeat still_step)
  refine wpStill_nil ?_
  go_wp2_with fail
  go_ret
  refine ⟨?_, hO⟩
  simp only [hdR, hsi, hsj, List.headD_cons, bl]
  rfl

theorem rows_swp (f : Nat → Run) (n i j : Nat) (hi : i < n) (hj : j < n) : ((rows f n).set i (runV (f j))).set j (runV (f i)) = rows (swp f i j) n := by
  apply List.ext_getElem?
  intro k
  rw [List.getElem?_set, List.getElem?_set]
  by_cases hk : k < n
  · rw [rows_get _ _ _ hk, rows_get _ _ _ hk, List.length_set, rows_length]
    unfold swp
    by_cases h1 : j = k
    · subst h1
      rw [if_pos rfl, if_pos hj]
      by_cases h2 : j = i
      · rw [if_pos h2, h2]
      · rw [if_neg h2, if_pos rfl]
    · rw [if_neg h1]
      by_cases h2 : i = k
      · subst h2
        rw [if_pos rfl, if_pos hi, if_pos rfl]
      · rw [if_neg h2, if_neg (Ne.symm h2), if_neg (Ne.symm h1)]
  · rw [if_neg (by omega), if_neg (by omega), List.getElem?_eq_none (by rw [rows_length]; omega), List.getElem?_eq_none (by rw [rows_length]; omega)]
theorem sl_open8 {e : TypeId} {sz b n cap : Nat} {xs : List Value} {A : Fr} (h : Sl e sz (some ⟨b, 0, none⟩) n cap xs A) : ∃ rest, A = pt b (.cells (xs ++ rest).toArray e (0, 0)) := by
  obtain ⟨_, _, _, h | ⟨b', rest, hb, _, rfl⟩⟩ := h
  · cases h.1
  · cases hb
    exact ⟨rest, rfl⟩
theorem sl_set8 {e : TypeId} {b n cap : Nat} {xs rest : List Value} (h : Sl e 1 (some ⟨b, 0, none⟩) n cap xs (pt b (.cells (xs ++ rest).toArray e (0, 0)))) (i : Nat) (hi : i < xs.length) (v : Value) :
    Sl e 1 (some ⟨b, 0, none⟩) n cap (xs.set i v) (pt b (.cells (xs.set i v ++ rest).toArray e (0, 0))) ∧ (xs ++ rest).toArray.setIfInBounds i v = (xs.set i v ++ rest).toArray := by
  have he0 : (xs ++ rest).toArray.setIfInBounds i v = (xs.set i v ++ rest).toArray := by rw [List.setIfInBounds_toArray, List.set_append_left _ _ hi]
  obtain ⟨h1, h2, h3, h | ⟨b', rest', hb, hl, hh⟩⟩ := h
  · cases h.1
  · cases hb
    have he : xs ++ rest = xs ++ rest' := by
      simp only [pt, List.cons.injEq, Prod.mk.injEq, Obj.cells.injEq, true_and, and_true] at hh
      have := congrArg Array.toList hh
      simpa using this
    have he' := List.append_cancel_left he
    subst he'
    exact ⟨⟨by simpa using h1, h2, h3, .inr ⟨b, rest, rfl, by simpa using hl, rfl⟩⟩, he0⟩

set_option maxRecDepth 100000 in
set_option maxHeartbeats 16000000 in
theorem hSwap (E w : World) (X R S : Fr) (a : Option Addr) (n cap i j : Nat) (f : Nat → Run) (hS : Sl 23 1 a n cap (rows f n) S) (hi : i < n) (hj : j < n) (hO : Own E w X) [hp : Pick X S R] :
    Calls Try.prog 124 #[.slice a n cap, .int .i64 i, .int .i64 j] w fun e w' => e = .returned (.tuple #[]) ∧ ∃ S', Sl 23 1 a n cap (rows (swp f i j) n) S' ∧ Own E w' (S' ++ R) := by
  replace hO := hO.perm hp.perm
  clear hp
  obtain ⟨b, rfl⟩ := sl_some8 hS (by omega)
  obtain ⟨rest, rfl⟩ := sl_open8 hS
  obtain ⟨hS1, he1⟩ := sl_set8 hS i (by rw [rows_length]; exact hi) (runV (f j))
  obtain ⟨hS2, he2⟩ := sl_set8 hS1 j (by rw [List.length_set, rows_length]; exact hj) (runV (f i))
  rw [rows_swp f n i j hi hj] at hS2 he2
  have hri : (rows f n ++ rest).toArray[i]? = some (runV (f i)) := by rw [List.getElem?_toArray, List.getElem?_append_left (by rw [rows_length]; exact hi), rows_get _ _ _ hi]
  have hrj : (rows f n ++ rest).toArray[j]? = some (runV (f j)) := by rw [List.getElem?_toArray, List.getElem?_append_left (by rw [rows_length]; exact hj), rows_get _ _ _ hj]
  have hsz : Hid (n ≤ (rows f n ++ rest).toArray.size) := Lib.hid (by rw [List.size_toArray, List.length_append, rows_length]; omega)
  rw [← he1] at he2
  generalize hrw : (rows f n ++ rest).toArray = row at hO hri hrj hsz he2
  generalize hrw2 : (rows (swp f i j) n ++ rest).toArray = row2 at he2 hS2
  unfold runV at he2
  have HE := Lib.hid he2
  have hi1 : (i : Int) < n := by omega
  have hj1 : (j : Int) < n := by omega
  have hi0 : (0 : Int) ≤ i := by omega
  have hj0 : (0 : Int) ≤ j := by omega
  have HI := Lib.hid hi
  have HJ := Lib.hid hj
  unfold runV at hri hrj
  clear he1 he2 hS hS1 hi hj
  go_enter Try.func124, Try.ntmps124
  go_wp2_with fail
  refine region_sch (fun _ => True) (.look 0 (.look 1 (.look 2 (.look 3 (.look 4 (.look 5 (.look 6 (.look 8 (.look 9 (.look 10 (.two 7 (.act 11 (.look 12 (.act 13 (.look 14 (.act 15 .done))))) 11 (.act 7 (.look 12 (.act 13 (.look 14 (.act 15 .done)))))))))))))))) (by kernel_rfl) (by kernel_rfl) (fun _ _ d _ _ h => by cases d <;> exact h) ?_ ?_
  · trivial
  replace hO := hO.drew
  generalize World.drew _ = w3 at hO ⊢
  (refine sch_look (o := ?_) (v := ?_) ?_ ?_ ?_ ?_; rotate_left 2; (· ((conv => lhs; whnf); try exact rfl)); (· rfl); (· intro w' hO'; go_simp; (try exact rfl)); simp only [Act.put, List.setIfInBounds_toArray, List.set_cons_zero, List.set_cons_succ])
  (refine sch_look (o := ?_) (v := ?_) ?_ ?_ ?_ ?_; rotate_left 2; (· ((conv => lhs; whnf); try exact rfl)); (· rfl); (· intro w' hO'; go_simp; (try exact rfl)); simp only [Act.put, List.setIfInBounds_toArray, List.set_cons_zero, List.set_cons_succ])
  (refine sch_look (o := ?_) (v := ?_) ?_ ?_ ?_ ?_; rotate_left 2; (· ((conv => lhs; whnf); try exact rfl)); (· rfl); (· intro w' hO'; go_simp; (try exact rfl)); simp only [Act.put, List.setIfInBounds_toArray, List.set_cons_zero, List.set_cons_succ])
  (refine sch_look (o := ?_) (v := ?_) ?_ ?_ ?_ ?_; rotate_left 2; (· ((conv => lhs; whnf); try exact rfl)); (· rfl); (· intro w' hO'; go_simp; (try exact rfl)); simp only [Act.put, List.setIfInBounds_toArray, List.set_cons_zero, List.set_cons_succ])
  (refine sch_look (o := ?_) (v := ?_) ?_ ?_ ?_ ?_; rotate_left 2; (· ((conv => lhs; whnf); try exact rfl)); (· rfl); (· intro w' hO'; go_simp; (try exact rfl)); simp only [Act.put, List.setIfInBounds_toArray, List.set_cons_zero, List.set_cons_succ])
  (refine sch_look (o := ?_) (v := ?_) ?_ ?_ ?_ ?_; rotate_left 2; (· ((conv => lhs; whnf); try exact rfl)); (· rfl); (· intro w' hO'; go_simp; (try exact rfl)); simp only [Act.put, List.setIfInBounds_toArray, List.set_cons_zero, List.set_cons_succ])
  (refine sch_look (o := ?_) (v := ?_) ?_ ?_ ?_ ?_; rotate_left 2; (· ((conv => lhs; whnf); try exact rfl)); (· rfl); (· intro w' hO'; go_simp; (try exact rfl)); simp only [Act.put, List.setIfInBounds_toArray, List.set_cons_zero, List.set_cons_succ])
  (refine sch_look (o := ?_) (v := ?_) ?_ ?_ ?_ ?_; rotate_left 2; (· ((conv => lhs; whnf); try exact rfl)); (· rfl); (· intro w' hO'; go_simp; (try exact rfl)); simp only [Act.put, List.setIfInBounds_toArray, List.set_cons_zero, List.set_cons_succ])
  (refine sch_look (o := ?_) (v := ?_) ?_ ?_ ?_ ?_; rotate_left 2; (· ((conv => lhs; whnf); try exact rfl)); (· rfl); (· intro w' hO'; go_simp; (try exact rfl)); simp only [Act.put, List.setIfInBounds_toArray, List.set_cons_zero, List.set_cons_succ])
  (refine sch_look (o := ?_) (v := ?_) ?_ ?_ ?_ ?_; rotate_left 2; (· ((conv => lhs; whnf); try exact rfl)); (· rfl); (· intro w' hO'; go_simp; (try exact rfl)); simp only [Act.put, List.setIfInBounds_toArray, List.set_cons_zero, List.set_cons_succ])
  refine sch_two (o := ?_) (o' := ?_) ?_ ?_ ?_ ?_
  rotate_left 2
  · ((conv => lhs; whnf); try exact rfl)
  · ((conv => lhs; whnf); try exact rfl)
  · (
    ((try simp only [List.nil_append, List.append_nil] at hO); have hF := Own.cells hO; simp only [cellsOf_append, cellsOf_pt] at hF)
    go_wp2_with fail
    (refine sch_act (o := ?_) ?_ ?_; rotate_left; (· ((conv => lhs; whnf); try exact rfl)))
    go_wp2_with fail
    (refine sch_look (o := ?_) (v := ?_) ?_ ?_ ?_ ?_; rotate_left 2; (· ((conv => lhs; whnf); try exact rfl)); (· rfl); (· intro w' hO'; go_simp; (try exact rfl)); simp only [Act.put, List.setIfInBounds_toArray, List.set_cons_zero, List.set_cons_succ])
    (refine sch_act (o := ?_) ?_ ?_; rotate_left; (· ((conv => lhs; whnf); try exact rfl)))
    go_wp2_with (first | (refine own_store (v := ?_) (off := i) (b := b) hO ?_ ?_ ?_ ?_ ?_ ?_ ?_; rotate_left; (· rfl); (· ((conv => lhs; whnf); try exact rfl)); (· ((conv => lhs; whnf); try exact rfl)); (· simp [Value.cells]); (· simp [Value.cells, Value.oneCell']); (· have hrs := hsz.out; have h1 := HI.out; simp [Value.cells]; omega); clear hO; (try clear hF); intro _ hO; (try simp only [splice, Value.cells] at hO); ((try simp only [List.nil_append, List.append_nil] at hO); have hF := Own.cells hO; simp only [cellsOf_append, cellsOf_pt] at hF); simp only [Act.put, List.setIfInBounds_toArray, List.set_cons_zero, List.set_cons_succ]))
    (refine sch_look (o := ?_) (v := ?_) ?_ ?_ ?_ ?_; rotate_left 2; (· ((conv => lhs; whnf); try exact rfl)); (· rfl); (· intro w' hO'; go_simp; (try exact rfl)); simp only [Act.put, List.setIfInBounds_toArray, List.set_cons_zero, List.set_cons_succ])
    (refine sch_act (o := ?_) ?_ ?_; rotate_left; (· ((conv => lhs; whnf); try exact rfl)))
    go_wp2_with (first | (refine own_store (v := ?_) (off := j) (b := b) hO ?_ ?_ ?_ ?_ ?_ ?_ ?_; rotate_left; (· rfl); (· ((conv => lhs; whnf); try exact rfl)); (· ((conv => lhs; whnf); try exact rfl)); (· simp [Value.cells]); (· simp [Value.cells, Value.oneCell']); (· have hrs := hsz.out; have h1 := HJ.out; simp [Value.cells]; omega); clear hO; (try clear hF); intro _ hO; (try simp only [splice, Value.cells] at hO); ((try simp only [List.nil_append, List.append_nil] at hO); have hF := Own.cells hO; simp only [cellsOf_append, cellsOf_pt] at hF); simp only [Act.put, List.setIfInBounds_toArray, List.set_cons_zero, List.set_cons_succ]))
    refine sch_done ?_
    go_wp2_with fail
    go_end0
    refine ⟨rfl, _, hS2, ?_⟩
    rw [← HE.out]
    exact hO)
  · (
    ((try simp only [List.nil_append, List.append_nil] at hO); have hF := Own.cells hO; simp only [cellsOf_append, cellsOf_pt] at hF)
    go_wp2_with fail
    (refine sch_act (o := ?_) ?_ ?_; rotate_left; (· ((conv => lhs; whnf); try exact rfl)))
    go_wp2_with fail
    (refine sch_look (o := ?_) (v := ?_) ?_ ?_ ?_ ?_; rotate_left 2; (· ((conv => lhs; whnf); try exact rfl)); (· rfl); (· intro w' hO'; go_simp; (try exact rfl)); simp only [Act.put, List.setIfInBounds_toArray, List.set_cons_zero, List.set_cons_succ])
    (refine sch_act (o := ?_) ?_ ?_; rotate_left; (· ((conv => lhs; whnf); try exact rfl)))
    go_wp2_with (first | (refine own_store (v := ?_) (off := i) (b := b) hO ?_ ?_ ?_ ?_ ?_ ?_ ?_; rotate_left; (· rfl); (· ((conv => lhs; whnf); try exact rfl)); (· ((conv => lhs; whnf); try exact rfl)); (· simp [Value.cells]); (· simp [Value.cells, Value.oneCell']); (· have hrs := hsz.out; have h1 := HI.out; simp [Value.cells]; omega); clear hO; (try clear hF); intro _ hO; (try simp only [splice, Value.cells] at hO); ((try simp only [List.nil_append, List.append_nil] at hO); have hF := Own.cells hO; simp only [cellsOf_append, cellsOf_pt] at hF); simp only [Act.put, List.setIfInBounds_toArray, List.set_cons_zero, List.set_cons_succ]))
    (refine sch_look (o := ?_) (v := ?_) ?_ ?_ ?_ ?_; rotate_left 2; (· ((conv => lhs; whnf); try exact rfl)); (· rfl); (· intro w' hO'; go_simp; (try exact rfl)); simp only [Act.put, List.setIfInBounds_toArray, List.set_cons_zero, List.set_cons_succ])
    (refine sch_act (o := ?_) ?_ ?_; rotate_left; (· ((conv => lhs; whnf); try exact rfl)))
    go_wp2_with (first | (refine own_store (v := ?_) (off := j) (b := b) hO ?_ ?_ ?_ ?_ ?_ ?_ ?_; rotate_left; (· rfl); (· ((conv => lhs; whnf); try exact rfl)); (· ((conv => lhs; whnf); try exact rfl)); (· simp [Value.cells]); (· simp [Value.cells, Value.oneCell']); (· have hrs := hsz.out; have h1 := HJ.out; simp [Value.cells]; omega); clear hO; (try clear hF); intro _ hO; (try simp only [splice, Value.cells] at hO); ((try simp only [List.nil_append, List.append_nil] at hO); have hF := Own.cells hO; simp only [cellsOf_append, cellsOf_pt] at hF); simp only [Act.put, List.setIfInBounds_toArray, List.set_cons_zero, List.set_cons_succ]))
    refine sch_done ?_
    go_wp2_with fail
    go_end0
    refine ⟨rfl, _, hS2, ?_⟩
    rw [← HE.out]
    exact hO)
end Go.Proofs.Ytnfclieaendgeaa
