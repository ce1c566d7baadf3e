/- slices.Sort at ints, by the library's own contract. -/
import Derived.Test.YtkkeplobomncgaaPoolM
import Derived.Shelf.Sort.Plain
set_option linter.all false
namespace Go.Proofs.Ytkkeplobomncgaa
open Go Go.RowKit Go.Own Go.Sort

def Try.lay189_ren : Go.Shelf.Ren := ⟨fun | 189 => 54 | 125 => 57 | 257 => 56 | 128 => 67 | 129 => 68 | 294 => 58 | 295 => 59 | 296 => 60 | 297 => 61 | 298 => 62 | 299 => 63 | 216 => 64 | 300 => 65 | 301 => 66 | 328 => 69 | 329 => 70 | 330 => 71 | 331 => 72 | 332 => 73 | 215 => 74 | 343 => 75 | n => n, fun | 28 => 70 | 3 => 3 | 46 => 102 | 0 => 0 | 51 => 123 | 53 => 125 | 4 => 4 | 183 => 115 | 182 => 114 | 131 => 120 | 5 => 5 | 9 => 9 | 218 => 126 | 222 => 130 | 228 => 132 | 229 => 133 | n => n, fun | n => n⟩
theorem Try.lay189 : Go.Proofs.Lays.n189 Try.prog Try.lay189_ren where
  mixed := by kernel_rfl
  f125 := Try.func57.trans (congrArg some (by kernel_rfl))
  f128 := Try.func67.trans (congrArg some (by kernel_rfl))
  f129 := Try.func68.trans (congrArg some (by kernel_rfl))
  f189 := Try.func54.trans (congrArg some (by kernel_rfl))
  f215 := Try.func74.trans (congrArg some (by kernel_rfl))
  f216 := Try.func64.trans (congrArg some (by kernel_rfl))
  f257 := Try.func56.trans (congrArg some (by kernel_rfl))
  f294 := Try.func58.trans (congrArg some (by kernel_rfl))
  f295 := Try.func59.trans (congrArg some (by kernel_rfl))
  f296 := Try.func60.trans (congrArg some (by kernel_rfl))
  f297 := Try.func61.trans (congrArg some (by kernel_rfl))
  f298 := Try.func62.trans (congrArg some (by kernel_rfl))
  f299 := Try.func63.trans (congrArg some (by kernel_rfl))
  f300 := Try.func65.trans (congrArg some (by kernel_rfl))
  f301 := Try.func66.trans (congrArg some (by kernel_rfl))
  f328 := Try.func69.trans (congrArg some (by kernel_rfl))
  f329 := Try.func70.trans (congrArg some (by kernel_rfl))
  f330 := Try.func71.trans (congrArg some (by kernel_rfl))
  f331 := Try.func72.trans (congrArg some (by kernel_rfl))
  f332 := Try.func73.trans (congrArg some (by kernel_rfl))
  f343 := Try.func75.trans (congrArg some (by kernel_rfl))
  t0 := Try.underlying0
  a0 := Try.isAgg0
  z0 := Try.sizeOf0
  v0 := Try.zeroValue0
  t3 := Try.underlying3
  a3 := Try.isAgg3
  z3 := Try.sizeOf3
  v3 := Try.zeroValue3
  t4 := Try.underlying4
  a4 := Try.isAgg4
  z4 := Try.sizeOf4
  v4 := Try.zeroValue4
  t5 := Try.underlying5
  a5 := Try.isAgg5
  z5 := Try.sizeOf5
  v5 := Try.zeroValue5
  t9 := Try.underlying9
  a9 := Try.isAgg9
  z9 := Try.sizeOf9
  v9 := Try.zeroValue9
  t28 := Try.underlying70
  a28 := Try.isAgg70
  z28 := Try.sizeOf70
  v28 := Try.zeroValue70
  t46 := Try.underlying102
  a46 := Try.isAgg102
  z46 := Try.sizeOf102
  v46 := Try.zeroValue102
  t51 := Try.underlying123
  a51 := Try.isAgg123
  z51 := Try.sizeOf123
  v51 := Try.zeroValue123
  t53 := Try.underlying125
  a53 := Try.isAgg125
  z53 := Try.sizeOf125
  v53 := Try.zeroValue125
  t131 := Try.underlying120
  a131 := Try.isAgg120
  z131 := Try.sizeOf120
  v131 := Try.zeroValue120
  t182 := Try.underlying114
  a182 := Try.isAgg114
  z182 := Try.sizeOf114
  v182 := Try.zeroValue114
  t183 := Try.underlying115
  a183 := Try.isAgg115
  z183 := Try.sizeOf115
  v183 := Try.zeroValue115
  t218 := Try.underlying126
  a218 := Try.isAgg126
  z218 := Try.sizeOf126
  v218 := Try.zeroValue126
  t222 := Try.underlying130
  a222 := Try.isAgg130
  z222 := Try.sizeOf130
  v222 := Try.zeroValue130
  t228 := Try.underlying132
  a228 := Try.isAgg132
  z228 := Try.sizeOf132
  v228 := Try.zeroValue132
  t229 := Try.underlying133
  a229 := Try.isAgg133
  z229 := Try.sizeOf133
  v229 := Try.zeroValue133

theorem _root_.Go.Own.Own.grow {E w : World} {X : Fr} (h : Own E w X) (os : Array Obj) : Own E (grow w os) X := by
  refine ⟨h.os, h.tape, h.output, h.nodup, fun p hp => ?_⟩
  have := h.mem p hp
  have hlt : p.1 < w.heap.size := (Array.getElem?_eq_some_iff.1 this).1
  show (w.heap ++ os)[p.1]? = _
  rw [Array.getElem?_append_left hlt]
  exact this
theorem putCells_row (zs ys : List Int) (rest : List Value) (h : ys.length = zs.length) : putCells (Value.int .i64) 0 ys.toArray (zs.map (Value.int .i64) ++ rest).toArray = (ys.map (Value.int .i64) ++ rest).toArray := by
  apply Array.ext
  · simp [putCells, h]
  · intro j h1 h2
    simp only [putCells, Array.getElem_mapIdx, List.size_toArray]
    by_cases hj : j < ys.length
    · rw [if_pos ⟨by omega, by omega⟩]
      simp only [List.getElem_toArray, Nat.sub_zero]
      rw [List.getElem_append_left (by rw [List.length_map]; exact hj), List.getElem_map]
      simp [hj]
    · rw [if_neg (by omega)]
      simp only [List.getElem_toArray]
      rw [List.getElem_append_right (by rw [List.length_map]; omega), List.getElem_append_right (by rw [List.length_map]; omega)]
      congr 1
      simp [h]
def srt (zs : List Int) : List Int := zs.mergeSort fun x y => decide (x ≤ y)
theorem srt_length (zs : List Int) : (srt zs).length = zs.length := List.length_mergeSort zs

set_option maxRecDepth 100000 in
set_option maxHeartbeats 4000000 in
theorem sortI_nil_ins (p : Option Addr) (cap : Nat) (w : World) : Calls Try.prog 58 #[.slice p 0 cap, .int .i64 0, .int .i64 0] w fun e w' => e = .returned (.tuple #[]) ∧ w = w' := by
  go_enter Try.func58, Try.ntmps58
  go_wp2
  refine wp_loop_rounds 1 ?_
  rw [rounds_succ]
  go_wp2
  go_end0
  exact ⟨rfl, rfl⟩
set_option maxRecDepth 100000 in
set_option maxHeartbeats 4000000 in
theorem sortI_nil_pdq (p : Option Addr) (cap : Nat) (w : World) : Calls Try.prog 56 #[.slice p 0 cap, .int .i64 0, .int .i64 0, .int .i64 0] w fun e w' => e = .returned (.tuple #[]) ∧ w = w' := by
  go_enter Try.func56, Try.ntmps56
  go_wp2
  refine wp_loop_rounds 1 ?_
  rw [rounds_succ]
  go_wp2_with (go_at_call 58; refine (sortI_nil_ins p cap _).mono ?_; rintro e w' ⟨rfl, rfl⟩)
  refine bodyPost_ret (results_none rfl _ _ _) rfl ?_
  exact ⟨rfl, rfl⟩
set_option maxRecDepth 100000 in
set_option maxHeartbeats 4000000 in
theorem sortI_nil_len64 (w : World) : Calls Try.prog 68 #[.int .u64 0] w fun e w' => e = .returned (.int .i64 0) ∧ w = w' := by
  go_enter Try.func68, Try.ntmps68
  go_wp2
  go_ret
  have hl8 : wrap64 (wrap64 (Lib.len8 0)) = 0 := by decide +kernel
  refine ⟨?_, rfl⟩
  show Ending.returned (Value.int .i64 (wrap64 (wrap64 (Lib.len8 0)))) = _
  rw [hl8]
set_option maxRecDepth 100000 in
set_option maxHeartbeats 4000000 in
theorem sortI_nil_len (w : World) : Calls Try.prog 57 #[.int .u64 0] w fun e w' => e = .returned (.int .i64 0) ∧ w = w' := by
  go_enter Try.func57, Try.ntmps57
  go_wp2_with (go_at_call 68; refine (sortI_nil_len64 _).mono ?_; rintro e w' ⟨rfl, rfl⟩)
  go_ret
  exact ⟨rfl, rfl⟩
set_option maxRecDepth 100000 in
set_option maxHeartbeats 4000000 in
theorem sortI_nil (p : Option Addr) (cap : Nat) (w : World) : Calls Try.prog 54 #[.slice p 0 cap] w fun e w' => e = .returned (.tuple #[]) ∧ w = w' := by
  go_enter Try.func54, Try.ntmps54
  go_wp2_with (first | (go_at_call 57; refine (sortI_nil_len _).mono ?_; rintro e w' ⟨rfl, rfl⟩) | (go_at_call 56; refine (sortI_nil_pdq p cap _).mono ?_; rintro e w' ⟨rfl, rfl⟩))
  go_end0
  exact ⟨rfl, rfl⟩

theorem sortI (E w : World) (X R S : Fr) (a : Option Addr) (cap : Nat) (zs : List Int) (hS : Sl 3 1 a zs.length cap (zs.map (Value.int .i64)) S) (hz : zs.length < 4611686018427387904) (hO : Own E w X) [hp : Pick X S R] :
    Calls Try.prog 54 #[.slice a zs.length cap] w fun e w' => e = .returned (.tuple #[]) ∧ ∃ S', Sl 3 1 a zs.length cap ((srt zs).map (Value.int .i64)) S' ∧ Own E w' (S' ++ R) := by
  replace hO := hO.perm hp.perm
  clear hp
  by_cases h0 : zs = []
  · subst h0
    refine (sortI_nil a cap w).mono ?_
    rintro e w' ⟨rfl, rfl⟩
    exact ⟨rfl, S, by simpa [srt] using hS, hO⟩
  have hpos : 0 < zs.length := List.length_pos_iff.2 h0
  obtain ⟨h1, h2, h3, h4⟩ := hS
  rcases h4 with ⟨_, hc, _⟩ | ⟨b, rest, rfl, hl, rfl⟩
  · omega
  have hb : b < w.heap.size := hO.lt (b := b) (o := .cells (zs.map (Value.int .i64) ++ rest).toArray 3 (0, 0)) (by simp [pt])
  have hg : w.heap[b]? = some (.cells (zs.map (Value.int .i64) ++ rest).toArray 3 (0, 0)) := hO.mem (b, _) (by simp [pt])
  have hH : Holds (Value.int .i64) w b 0 zs.toArray := by
    intro j hj
    have hj' : j < zs.length := by simpa using hj
    have hcl := Own.cells hO
    simp only [cellsOf_append, cellsOf_pt] at hcl
    rw [Nat.zero_add]
    refine ⟨?_, hcl.1.2 j⟩
    rw [hcl.1.1 j]
    simp only [List.getElem?_toArray]
    rw [List.getElem?_append_left (by rw [List.length_map]; exact hj')]
    simp [hj']
  refine (Any.slices_Sort_int Try.lay189 b 0 cap zs w hH hb hz).mono ?_
  rintro e w' ⟨rfl, n, os, rfl⟩
  refine ⟨rfl, _, ⟨by rw [List.length_map, srt_length]; simp, h2, h3, .inr ⟨b, rest, rfl, by rw [List.length_append, List.length_map, srt_length]; rw [List.length_append, List.length_map] at hl; exact hl, rfl⟩⟩, ?_⟩
  refine Own.grow ?_ os
  have hO1 : Own E (Sort.ahead w n) (pt b (.cells (zs.map (Value.int .i64) ++ rest).toArray 3 (0, 0)) ++ R) := ⟨hO.os, hO.tape, hO.output, hO.nodup, hO.mem⟩
  refine hO1.modify rfl rfl rfl ?_ ?_
  · show (w.heap.modify b _)[b]? = _
    rw [Array.getElem?_modify, if_pos rfl, hg]
    simp only [Option.map_some, onCells]
    have := putCells_row zs (srt zs) rest (srt_length zs)
    unfold srt at this ⊢
    rw [this]
  · intro k hk
    show (w.heap.modify b _)[k]? = _
    rw [Array.getElem?_modify, if_neg (Ne.symm hk)]
    rfl

theorem srt_perm (zs : List Int) : (srt zs).Perm zs := List.mergeSort_perm zs _
theorem srt_sorted (zs : List Int) : (srt zs).Pairwise (fun x y => x ≤ y) := by
  have := List.pairwise_mergeSort (le := fun x y : Int => decide (x ≤ y)) (fun a b c h1 h2 => by simp at *; omega) (fun a b => by simp; omega) zs
  exact this.imp (fun h => by simpa using h)
/-- Numbers of which none stands twice rise. -/
theorem srt_rise {zs : List Int} (h : zs.Nodup) : (srt zs).Pairwise (fun x y => x < y) := by
  have h1 := srt_sorted zs
  have h2 : (srt zs).Nodup := (srt_perm zs).nodup_iff.2 h
  have h3 := h1.and h2
  exact h3.imp (fun ⟨a, b⟩ => by omega)
end Go.Proofs.Ytkkeplobomncgaa
