/- slices.Sort at ints, by the library's own contract. -/
import Derived.Test.YtnfclieaendgeaaRows
import Derived.Test.YtnfclieaendgeaaArm
import Derived.Shelf.Sort.Plain
set_option linter.all false
namespace Go.Proofs.Ytnfclieaendgeaa
open Go Go.RowKit Go.Own Go.Sort

def Try.lay189_ren : Go.Shelf.Ren := ⟨fun | 189 => 45 | 125 => 63 | 257 => 62 | 128 => 82 | 129 => 83 | 294 => 74 | 295 => 75 | 296 => 76 | 297 => 77 | 298 => 78 | 299 => 79 | 216 => 70 | 300 => 80 | 301 => 81 | 328 => 87 | 329 => 88 | 330 => 89 | 331 => 90 | 332 => 91 | 215 => 85 | 343 => 101 | n => n, fun | 28 => 33 | 3 => 3 | 46 => 95 | 0 => 0 | 51 => 114 | 53 => 116 | 4 => 4 | 183 => 108 | 182 => 107 | 131 => 90 | 5 => 5 | 9 => 9 | 218 => 118 | 222 => 122 | 228 => 129 | 229 => 130 | n => n, fun | n => n⟩
theorem Try.lay189 : Go.Proofs.Lays.n189 Try.prog Try.lay189_ren where
  mixed := by kernel_rfl
  f125 := Try.func63.trans (congrArg some (by kernel_rfl))
  f128 := Try.func82.trans (congrArg some (by kernel_rfl))
  f129 := Try.func83.trans (congrArg some (by kernel_rfl))
  f189 := Try.func45.trans (congrArg some (by kernel_rfl))
  f215 := Try.func85.trans (congrArg some (by kernel_rfl))
  f216 := Try.func70.trans (congrArg some (by kernel_rfl))
  f257 := Try.func62.trans (congrArg some (by kernel_rfl))
  f294 := Try.func74.trans (congrArg some (by kernel_rfl))
  f295 := Try.func75.trans (congrArg some (by kernel_rfl))
  f296 := Try.func76.trans (congrArg some (by kernel_rfl))
  f297 := Try.func77.trans (congrArg some (by kernel_rfl))
  f298 := Try.func78.trans (congrArg some (by kernel_rfl))
  f299 := Try.func79.trans (congrArg some (by kernel_rfl))
  f300 := Try.func80.trans (congrArg some (by kernel_rfl))
  f301 := Try.func81.trans (congrArg some (by kernel_rfl))
  f328 := Try.func87.trans (congrArg some (by kernel_rfl))
  f329 := Try.func88.trans (congrArg some (by kernel_rfl))
  f330 := Try.func89.trans (congrArg some (by kernel_rfl))
  f331 := Try.func90.trans (congrArg some (by kernel_rfl))
  f332 := Try.func91.trans (congrArg some (by kernel_rfl))
  f343 := Try.func101.trans (congrArg some (by kernel_rfl))
  t0 := Try.underlying0
  a0 := Try.isAgg0
  z0 := Try.sizeOf0
  v0 := Try.zeroValue0
  t3 := Try.underlying3
  a3 := Try.isAgg3
  z3 := Try.sizeOf3
  v3 := Try.zeroValue3
  t4 := Try.underlying4
  a4 := Try.isAgg4
  z4 := Try.sizeOf4
  v4 := Try.zeroValue4
  t5 := Try.underlying5
  a5 := Try.isAgg5
  z5 := Try.sizeOf5
  v5 := Try.zeroValue5
  t9 := Try.underlying9
  a9 := Try.isAgg9
  z9 := Try.sizeOf9
  v9 := Try.zeroValue9
  t28 := Try.underlying33
  a28 := Try.isAgg33
  z28 := Try.sizeOf33
  v28 := Try.zeroValue33
  t46 := Try.underlying95
  a46 := Try.isAgg95
  z46 := Try.sizeOf95
  v46 := Try.zeroValue95
  t51 := Try.underlying114
  a51 := Try.isAgg114
  z51 := Try.sizeOf114
  v51 := Try.zeroValue114
  t53 := Try.underlying116
  a53 := Try.isAgg116
  z53 := Try.sizeOf116
  v53 := Try.zeroValue116
  t131 := Try.underlying90
  a131 := Try.isAgg90
  z131 := Try.sizeOf90
  v131 := Try.zeroValue90
  t182 := Try.underlying107
  a182 := Try.isAgg107
  z182 := Try.sizeOf107
  v182 := Try.zeroValue107
  t183 := Try.underlying108
  a183 := Try.isAgg108
  z183 := Try.sizeOf108
  v183 := Try.zeroValue108
  t218 := Try.underlying118
  a218 := Try.isAgg118
  z218 := Try.sizeOf118
  v218 := Try.zeroValue118
  t222 := Try.underlying122
  a222 := Try.isAgg122
  z222 := Try.sizeOf122
  v222 := Try.zeroValue122
  t228 := Try.underlying129
  a228 := Try.isAgg129
  z228 := Try.sizeOf129
  v228 := Try.zeroValue129
  t229 := Try.underlying130
  a229 := Try.isAgg130
  z229 := Try.sizeOf130
  v229 := Try.zeroValue130

theorem _root_.Go.Own.Own.grow {E w : World} {X : Fr} (h : Own E w X) (os : Array Obj) : Own E (grow w os) X := by
  refine ⟨h.os, h.tape, h.output, h.nodup, fun p hp => ?_⟩
  have := h.mem p hp
  have hlt : p.1 < w.heap.size := (Array.getElem?_eq_some_iff.1 this).1
  show (w.heap ++ os)[p.1]? = _
  rw [Array.getElem?_append_left hlt]
  exact this
theorem putCells_row (zs ys : List Int) (rest : List Value) (h : ys.length = zs.length) : putCells (Value.int .i64) 0 ys.toArray (zs.map (Value.int .i64) ++ rest).toArray = (ys.map (Value.int .i64) ++ rest).toArray := by
  apply Array.ext
  · simp [putCells, h]
  · intro j h1 h2
    simp only [putCells, Array.getElem_mapIdx, List.size_toArray]
    by_cases hj : j < ys.length
    · rw [if_pos ⟨by omega, by omega⟩]
      simp only [List.getElem_toArray, Nat.sub_zero]
      rw [List.getElem_append_left (by rw [List.length_map]; exact hj), List.getElem_map]
      simp [hj]
    · rw [if_neg (by omega)]
      simp only [List.getElem_toArray]
      rw [List.getElem_append_right (by rw [List.length_map]; omega), List.getElem_append_right (by rw [List.length_map]; omega)]
      congr 1
      simp [h]
def srt (zs : List Int) : List Int := zs.mergeSort fun x y => decide (x ≤ y)
theorem srt_length (zs : List Int) : (srt zs).length = zs.length := List.length_mergeSort zs

set_option maxRecDepth 100000 in
set_option maxHeartbeats 16000000 in
theorem sortI_nil_ins (p : Option Addr) (cap : Nat) (w : World) : Calls Try.prog 74 #[.slice p 0 cap, .int .i64 0, .int .i64 0] w fun e w' => e = .returned (.tuple #[]) ∧ w = w' := by
  go_enter Try.func74, Try.ntmps74
  go_wp2
  refine wp_loop_rounds 1 ?_
  rw [rounds_succ]
  go_wp2
  go_end0
  exact ⟨rfl, rfl⟩
set_option maxRecDepth 100000 in
set_option maxHeartbeats 16000000 in
theorem sortI_nil_pdq (p : Option Addr) (cap : Nat) (w : World) : Calls Try.prog 62 #[.slice p 0 cap, .int .i64 0, .int .i64 0, .int .i64 0] w fun e w' => e = .returned (.tuple #[]) ∧ w = w' := by
  go_enter Try.func62, Try.ntmps62
  go_wp2
  refine wp_loop_rounds 1 ?_
  rw [rounds_succ]
  go_wp2_with (go_at_call 74; refine (sortI_nil_ins p cap _).mono ?_; rintro e w' ⟨rfl, rfl⟩)
  refine bodyPost_ret (results_none rfl _ _ _) rfl ?_
  exact ⟨rfl, rfl⟩
set_option maxRecDepth 100000 in
set_option maxHeartbeats 16000000 in
theorem sortI_nil_len64 (w : World) : Calls Try.prog 83 #[.int .u64 0] w fun e w' => e = .returned (.int .i64 0) ∧ w = w' := by
  go_enter Try.func83, Try.ntmps83
  go_wp2
  go_ret
  have hl8 : wrap64 (wrap64 (Lib.len8 0)) = 0 := by decide +kernel
  refine ⟨?_, rfl⟩
  show Ending.returned (Value.int .i64 (wrap64 (wrap64 (Lib.len8 0)))) = _
  rw [hl8]
set_option maxRecDepth 100000 in
set_option maxHeartbeats 16000000 in
theorem sortI_nil_len (w : World) : Calls Try.prog 63 #[.int .u64 0] w fun e w' => e = .returned (.int .i64 0) ∧ w = w' := by
  go_enter Try.func63, Try.ntmps63
  go_wp2_with (go_at_call 83; refine (sortI_nil_len64 _).mono ?_; rintro e w' ⟨rfl, rfl⟩)
  go_ret
  exact ⟨rfl, rfl⟩
set_option maxRecDepth 100000 in
set_option maxHeartbeats 16000000 in
theorem sortI_nil (p : Option Addr) (cap : Nat) (w : World) : Calls Try.prog 45 #[.slice p 0 cap] w fun e w' => e = .returned (.tuple #[]) ∧ w = w' := by
  go_enter Try.func45, Try.ntmps45
  go_wp2_with (first | (go_at_call 63; refine (sortI_nil_len _).mono ?_; rintro e w' ⟨rfl, rfl⟩) | (go_at_call 62; refine (sortI_nil_pdq p cap _).mono ?_; rintro e w' ⟨rfl, rfl⟩))
  go_end0
  exact ⟨rfl, rfl⟩

theorem sortI (E w : World) (X R S : Fr) (a : Option Addr) (cap : Nat) (zs : List Int) (hS : Sl 3 1 a zs.length cap (zs.map (Value.int .i64)) S) (hz : zs.length < 4611686018427387904) (hO : Own E w X) [hp : Pick X S R] :
    Calls Try.prog 45 #[.slice a zs.length cap] w fun e w' => e = .returned (.tuple #[]) ∧ ∃ S', Sl 3 1 a zs.length cap ((srt zs).map (Value.int .i64)) S' ∧ Own E w' (S' ++ R) := by
  replace hO := hO.perm hp.perm
  clear hp
  by_cases h0 : zs = []
  · subst h0
    refine (sortI_nil a cap w).mono ?_
    rintro e w' ⟨rfl, rfl⟩
    exact ⟨rfl, S, by simpa [srt] using hS, hO⟩
  have hpos : 0 < zs.length := List.length_pos_iff.2 h0
  obtain ⟨h1, h2, h3, h4⟩ := hS
  rcases h4 with ⟨_, hc, _⟩ | ⟨b, rest, rfl, hl, rfl⟩
  · omega
  have hb : b < w.heap.size := hO.lt (b := b) (o := .cells (zs.map (Value.int .i64) ++ rest).toArray 3 (0, 0)) (by simp [pt])
  have hg : w.heap[b]? = some (.cells (zs.map (Value.int .i64) ++ rest).toArray 3 (0, 0)) := hO.mem (b, _) (by simp [pt])
  have hH : Holds (Value.int .i64) w b 0 zs.toArray := by
    intro j hj
    have hj' : j < zs.length := by simpa using hj
    have hcl := Own.cells hO
    simp only [cellsOf_append, cellsOf_pt] at hcl
    rw [Nat.zero_add]
    refine ⟨?_, hcl.1.2 j⟩
    rw [hcl.1.1 j]
    simp only [List.getElem?_toArray]
    rw [List.getElem?_append_left (by rw [List.length_map]; exact hj')]
    simp [hj']
  refine (Any.slices_Sort_int Try.lay189 b 0 cap zs w hH hb hz).mono ?_
  rintro e w' ⟨rfl, n, os, rfl⟩
  refine ⟨rfl, _, ⟨by rw [List.length_map, srt_length]; simp, h2, h3, .inr ⟨b, rest, rfl, by rw [List.length_append, List.length_map, srt_length]; rw [List.length_append, List.length_map] at hl; exact hl, rfl⟩⟩, ?_⟩
  refine Own.grow ?_ os
  have hO1 : Own E (Sort.ahead w n) (pt b (.cells (zs.map (Value.int .i64) ++ rest).toArray 3 (0, 0)) ++ R) := ⟨hO.os, hO.tape, hO.output, hO.nodup, hO.mem⟩
  refine hO1.modify rfl rfl rfl ?_ ?_
  · show (w.heap.modify b _)[b]? = _
    rw [Array.getElem?_modify, if_pos rfl, hg]
    simp only [Option.map_some, onCells]
    have := putCells_row zs (srt zs) rest (srt_length zs)
    unfold srt at this ⊢
    rw [this]
  · intro k hk
    show (w.heap.modify b _)[k]? = _
    rw [Array.getElem?_modify, if_neg (Ne.symm hk)]
    rfl

theorem srt_perm (zs : List Int) : (srt zs).Perm zs := List.mergeSort_perm zs _
theorem srt_sorted (zs : List Int) : (srt zs).Pairwise (fun x y => x ≤ y) := by
  have := List.pairwise_mergeSort (le := fun x y : Int => decide (x ≤ y)) (fun a b c h1 h2 => by simp at *; omega) (fun a b => by simp; omega) zs
  exact this.imp (fun h => by simpa using h)
/-- Numbers of which none stands twice rise. -/
theorem srt_rise {zs : List Int} (h : zs.Nodup) : (srt zs).Pairwise (fun x y => x < y) := by
  have h1 := srt_sorted zs
  have h2 : (srt zs).Nodup := (srt_perm zs).nodup_iff.2 h
  have h3 := h1.and h2
  exact h3.imp (fun ⟨a, b⟩ => by omega)
end Go.Proofs.Ytnfclieaendgeaa
