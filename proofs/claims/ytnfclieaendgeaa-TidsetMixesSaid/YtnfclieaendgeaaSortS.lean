/- slices.Sort at texts, by the library's own contract. -/
import Derived.Test.YtnfclieaendgeaaHeapL
import Derived.Shelf.Sort.Plain
set_option linter.all false
namespace Go.Proofs.Ytnfclieaendgeaa
open Go Go.RowKit Go.Own Go.Sort

def Try.lay190_ren : Go.Shelf.Ren := ⟨fun | 190 => 66 | 125 => 63 | 258 => 84 | 128 => 82 | 129 => 83 | 302 => 92 | 303 => 93 | 304 => 94 | 305 => 95 | 306 => 96 | 307 => 97 | 308 => 56 | 309 => 98 | 310 => 99 | 333 => 102 | 329 => 88 | 330 => 89 | 334 => 103 | 335 => 104 | 336 => 67 | 344 => 105 | n => n, fun | 31 => 23 | 9 => 9 | 3 => 3 | 46 => 95 | 0 => 0 | 51 => 114 | 53 => 116 | 4 => 4 | 183 => 108 | 182 => 107 | 131 => 90 | 5 => 5 | 218 => 118 | 222 => 122 | 228 => 129 | 229 => 130 | n => n, fun | n => n⟩
theorem Try.lay190 : Go.Proofs.Lays.n190 Try.prog Try.lay190_ren where
  mixed := by kernel_rfl
  f125 := Try.func63.trans (congrArg some (by kernel_rfl))
  f128 := Try.func82.trans (congrArg some (by kernel_rfl))
  f129 := Try.func83.trans (congrArg some (by kernel_rfl))
  f190 := Try.func66.trans (congrArg some (by kernel_rfl))
  f258 := Try.func84.trans (congrArg some (by kernel_rfl))
  f302 := Try.func92.trans (congrArg some (by kernel_rfl))
  f303 := Try.func93.trans (congrArg some (by kernel_rfl))
  f304 := Try.func94.trans (congrArg some (by kernel_rfl))
  f305 := Try.func95.trans (congrArg some (by kernel_rfl))
  f306 := Try.func96.trans (congrArg some (by kernel_rfl))
  f307 := Try.func97.trans (congrArg some (by kernel_rfl))
  f308 := Try.func56.trans (congrArg some (by kernel_rfl))
  f309 := Try.func98.trans (congrArg some (by kernel_rfl))
  f310 := Try.func99.trans (congrArg some (by kernel_rfl))
  f329 := Try.func88.trans (congrArg some (by kernel_rfl))
  f330 := Try.func89.trans (congrArg some (by kernel_rfl))
  f333 := Try.func102.trans (congrArg some (by kernel_rfl))
  f334 := Try.func103.trans (congrArg some (by kernel_rfl))
  f335 := Try.func104.trans (congrArg some (by kernel_rfl))
  f336 := Try.func67.trans (congrArg some (by kernel_rfl))
  f344 := Try.func105.trans (congrArg some (by kernel_rfl))
  t0 := Try.underlying0
  a0 := Try.isAgg0
  z0 := Try.sizeOf0
  v0 := Try.zeroValue0
  t3 := Try.underlying3
  a3 := Try.isAgg3
  z3 := Try.sizeOf3
  v3 := Try.zeroValue3
  t4 := Try.underlying4
  a4 := Try.isAgg4
  z4 := Try.sizeOf4
  v4 := Try.zeroValue4
  t5 := Try.underlying5
  a5 := Try.isAgg5
  z5 := Try.sizeOf5
  v5 := Try.zeroValue5
  t9 := Try.underlying9
  a9 := Try.isAgg9
  z9 := Try.sizeOf9
  v9 := Try.zeroValue9
  t31 := Try.underlying23
  a31 := Try.isAgg23
  z31 := Try.sizeOf23
  v31 := Try.zeroValue23
  t46 := Try.underlying95
  a46 := Try.isAgg95
  z46 := Try.sizeOf95
  v46 := Try.zeroValue95
  t51 := Try.underlying114
  a51 := Try.isAgg114
  z51 := Try.sizeOf114
  v51 := Try.zeroValue114
  t53 := Try.underlying116
  a53 := Try.isAgg116
  z53 := Try.sizeOf116
  v53 := Try.zeroValue116
  t131 := Try.underlying90
  a131 := Try.isAgg90
  z131 := Try.sizeOf90
  v131 := Try.zeroValue90
  t182 := Try.underlying107
  a182 := Try.isAgg107
  z182 := Try.sizeOf107
  v182 := Try.zeroValue107
  t183 := Try.underlying108
  a183 := Try.isAgg108
  z183 := Try.sizeOf108
  v183 := Try.zeroValue108
  t218 := Try.underlying118
  a218 := Try.isAgg118
  z218 := Try.sizeOf118
  v218 := Try.zeroValue118
  t222 := Try.underlying122
  a222 := Try.isAgg122
  z222 := Try.sizeOf122
  v222 := Try.zeroValue122
  t228 := Try.underlying129
  a228 := Try.isAgg129
  z228 := Try.sizeOf129
  v228 := Try.zeroValue129
  t229 := Try.underlying130
  a229 := Try.isAgg130
  z229 := Try.sizeOf130
  v229 := Try.zeroValue130

theorem own_grow {E w : World} {X : Fr} (h : Own E w X) (os : Array Obj) : Own E (grow w os) X := by
  refine ⟨h.os, h.tape, h.output, h.nodup, fun p hp => ?_⟩
  have := h.mem p hp
  have hlt : p.1 < w.heap.size := (Array.getElem?_eq_some_iff.1 this).1
  show (w.heap ++ os)[p.1]? = _
  rw [Array.getElem?_append_left hlt]
  exact this
theorem putCells_rowG {α : Type} [Inhabited α] (enc : α → Value) (zs ys : List α) (rest : List Value) (h : ys.length = zs.length) : putCells enc 0 ys.toArray (zs.map enc ++ rest).toArray = (ys.map enc ++ rest).toArray := by
  apply Array.ext
  · simp [putCells, h]
  · intro j h1 h2
    simp only [putCells, Array.getElem_mapIdx, List.size_toArray]
    by_cases hj : j < ys.length
    · rw [if_pos ⟨by omega, by omega⟩]
      simp only [List.getElem_toArray, Nat.sub_zero]
      rw [List.getElem_append_left (by rw [List.length_map]; exact hj), List.getElem_map]
      simp [hj]
    · rw [if_neg (by omega)]
      simp only [List.getElem_toArray]
      rw [List.getElem_append_right (by rw [List.length_map]; omega), List.getElem_append_right (by rw [List.length_map]; omega)]
      congr 1
      simp [h]

def unB (l : List UInt8) : ByteArray := ⟨l.toArray⟩
theorem unB_bytes (s : ByteArray) : unB s.data.toList = s := by cases s; simp [unB]
theorem enc_unB (zs : List ByteArray) : (zs.map fun s => s.data.toList).map encStr = zs.map .string := by
  rw [List.map_map]
  refine List.map_congr_left fun s _ => ?_
  show Value.string (unB s.data.toList) = _
  rw [unB_bytes]

theorem sortS (E w : World) (X R S : Fr) (a : Option Addr) (cap : Nat) (zs : List ByteArray) (hS : Sl 9 1 a zs.length cap (zs.map .string) S) (hz : zs.length < 4611686018427387904) (h0 : zs ≠ []) (hO : Own E w X) [hp : Pick X S R] :
    Calls Try.prog 66 #[.slice a zs.length cap] w fun e w' => ∃ (ys : List ByteArray) (S' : Fr), e = .returned (.tuple #[]) ∧ Sl 9 1 a zs.length cap (ys.map .string) S' ∧ Rise ys ∧ ys.Perm zs ∧ Own E w' (S' ++ R) := by
  replace hO := hO.perm hp.perm
  clear hp
  have hpos : 0 < zs.length := List.length_pos_iff.2 h0
  obtain ⟨h1, h2, h3, h4⟩ := hS
  rcases h4 with ⟨_, hc, _⟩ | ⟨b, rest, rfl, hl, rfl⟩
  · omega
  have hb : b < w.heap.size := hO.lt (b := b) (o := .cells (zs.map Value.string ++ rest).toArray 9 (0, 0)) (by simp [pt])
  have hg : w.heap[b]? = some (.cells (zs.map Value.string ++ rest).toArray 9 (0, 0)) := hO.mem (b, _) (by simp [pt])
  generalize hzz : (zs.map fun s => s.data.toList) = zz
  have hzl : zz.length = zs.length := by rw [← hzz, List.length_map]
  have hze : zs.map Value.string = zz.map encStr := by rw [← hzz, enc_unB]
  have hH : Holds encStr w b 0 zz.toArray := by
    intro j hj
    have hj' : j < zz.length := by simpa using hj
    have hcl := Own.cells hO
    simp only [cellsOf_append, cellsOf_pt] at hcl
    rw [Nat.zero_add]
    refine ⟨?_, hcl.1.2 j⟩
    rw [hcl.1.1 j, hze]
    simp only [List.getElem?_toArray]
    rw [List.getElem?_append_left (by rw [List.length_map]; exact hj')]
    simp [hj']
  have hz2 : zz.length < 4611686018427387904 := by omega
  have key := Any.slices_Sort_string Try.lay190 b 0 cap zz w hH hb hz2
  rw [hzl] at key
  refine key.mono ?_
  rintro e w' ⟨rfl, n, os, rfl⟩
  generalize hyy : (zz.mergeSort fun x y => decide (x ≤ y)) = yy
  have hyp : yy.Perm zz := by rw [← hyy]; exact List.mergeSort_perm zz _
  have hys : yy.Pairwise (fun x y => x ≤ y) := by
    rw [← hyy]
    refine (List.pairwise_mergeSort (le := fun x y : List UInt8 => decide (x ≤ y)) (fun a b c h1 h2 => ?_) (fun a b => ?_) zz).imp (fun h => by simpa using h)
    · simp only [decide_eq_true_eq] at *
      exact List.le_trans h1 h2
    · simp only [Bool.or_eq_true, decide_eq_true_eq]
      exact List.le_total a b
  have hyl : yy.length = zs.length := by rw [hyp.length_eq, hzl]
  refine ⟨yy.map unB, _, rfl, ⟨by rw [List.length_map, List.length_map, hyl]; simp, h2, h3, .inr ⟨b, rest, rfl, by rw [List.length_append, List.length_map, List.length_map, hyl]; rw [List.length_append, List.length_map] at hl; exact hl, rfl⟩⟩, ?_, ?_, ?_⟩
  · refine List.pairwise_map.2 (hys.imp fun {x y} h => ?_)
    rw [Le_iff, ByteArray.toList_eq, ByteArray.toList_eq]
    simpa [unB] using h
  · have h5 := hyp.map unB
    rw [← hzz, List.map_map] at h5
    have h6 : List.map (unB ∘ fun s => s.data.toList) zs = zs := by
      conv => rhs; rw [← List.map_id zs]
      exact List.map_congr_left fun s _ => unB_bytes s
    rw [h6] at h5
    exact h5
  · refine own_grow ?_ os
    have hO1 : Own E (Sort.ahead w n) (pt b (.cells (zs.map Value.string ++ rest).toArray 9 (0, 0)) ++ R) := ⟨hO.os, hO.tape, hO.output, hO.nodup, hO.mem⟩
    refine hO1.modify rfl rfl rfl ?_ ?_
    · show (w.heap.modify b _)[b]? = _
      rw [Array.getElem?_modify, if_pos rfl, hg]
      simp only [Option.map_some, onCells]
      have := putCells_rowG encStr zz yy rest (by rw [hyl, hzl])
      rw [hze, this, List.map_map]
      rfl
    · intro k hk
      show (w.heap.modify b _)[k]? = _
      rw [Array.getElem?_modify, if_neg (Ne.symm hk)]
      rfl
end Go.Proofs.Ytnfclieaendgeaa
