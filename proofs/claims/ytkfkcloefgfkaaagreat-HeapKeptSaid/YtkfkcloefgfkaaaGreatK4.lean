/- slices.Sort at ints, by the library's own contract. -/
import Derived.Test.YtkfkcloefgfkaaaGreatRows
import Derived.Test.YtkfkcloefgfkaaaGreatK1
import Derived.Shelf.Sort.Plain
import Derived.Test.YtkfkcloefgfkaaaGreatK3
import Derived.Test.YtkfkcloefgfkaaaGreatK2
set_option linter.all false
/- slices.Sort at ints, by the library's own contract. -/
namespace Go.Proofs.YtkfkcloefgfkaaaGreat
open Go Go.RowKit Go.Own Go.Sort

def Tryz.lay189_ren : Go.Shelf.Ren := ⟨fun | 189 => 51 | 125 => 103 | 257 => 102 | 128 => 147 | 129 => 148 | 294 => 138 | 295 => 139 | 296 => 140 | 297 => 141 | 298 => 142 | 299 => 143 | 216 => 144 | 300 => 145 | 301 => 146 | 328 => 164 | 329 => 165 | 330 => 166 | 331 => 167 | 332 => 168 | 215 => 169 | 343 => 175 | n => n, fun | 28 => 47 | 3 => 3 | 46 => 158 | 0 => 0 | 51 => 198 | 53 => 200 | 4 => 4 | 183 => 191 | 182 => 190 | 131 => 142 | 5 => 5 | 9 => 9 | 218 => 216 | 222 => 220 | 228 => 226 | 229 => 227 | n => n, fun | n => n⟩
theorem Tryz.lay189 : Go.Proofs.Lays.n189 Tryz.prog Tryz.lay189_ren where
  mixed := by kernel_rfl
  f125 := Tryz.func103.trans (congrArg some (by kernel_rfl))
  f128 := Tryz.func147.trans (congrArg some (by kernel_rfl))
  f129 := Tryz.func148.trans (congrArg some (by kernel_rfl))
  f189 := Tryz.func51.trans (congrArg some (by kernel_rfl))
  f215 := Tryz.func169.trans (congrArg some (by kernel_rfl))
  f216 := Tryz.func144.trans (congrArg some (by kernel_rfl))
  f257 := Tryz.func102.trans (congrArg some (by kernel_rfl))
  f294 := Tryz.func138.trans (congrArg some (by kernel_rfl))
  f295 := Tryz.func139.trans (congrArg some (by kernel_rfl))
  f296 := Tryz.func140.trans (congrArg some (by kernel_rfl))
  f297 := Tryz.func141.trans (congrArg some (by kernel_rfl))
  f298 := Tryz.func142.trans (congrArg some (by kernel_rfl))
  f299 := Tryz.func143.trans (congrArg some (by kernel_rfl))
  f300 := Tryz.func145.trans (congrArg some (by kernel_rfl))
  f301 := Tryz.func146.trans (congrArg some (by kernel_rfl))
  f328 := Tryz.func164.trans (congrArg some (by kernel_rfl))
  f329 := Tryz.func165.trans (congrArg some (by kernel_rfl))
  f330 := Tryz.func166.trans (congrArg some (by kernel_rfl))
  f331 := Tryz.func167.trans (congrArg some (by kernel_rfl))
  f332 := Tryz.func168.trans (congrArg some (by kernel_rfl))
  f343 := Tryz.func175.trans (congrArg some (by kernel_rfl))
  t0 := Tryz.underlying0
  a0 := Tryz.isAgg0
  z0 := Tryz.sizeOf0
  v0 := Tryz.zeroValue0
  t3 := Tryz.underlying3
  a3 := Tryz.isAgg3
  z3 := Tryz.sizeOf3
  v3 := Tryz.zeroValue3
  t4 := Tryz.underlying4
  a4 := Tryz.isAgg4
  z4 := Tryz.sizeOf4
  v4 := Tryz.zeroValue4
  t5 := Tryz.underlying5
  a5 := Tryz.isAgg5
  z5 := Tryz.sizeOf5
  v5 := Tryz.zeroValue5
  t9 := Tryz.underlying9
  a9 := Tryz.isAgg9
  z9 := Tryz.sizeOf9
  v9 := Tryz.zeroValue9
  t28 := Tryz.underlying47
  a28 := Tryz.isAgg47
  z28 := Tryz.sizeOf47
  v28 := Tryz.zeroValue47
  t46 := Tryz.underlying158
  a46 := Tryz.isAgg158
  z46 := Tryz.sizeOf158
  v46 := Tryz.zeroValue158
  t51 := Tryz.underlying198
  a51 := Tryz.isAgg198
  z51 := Tryz.sizeOf198
  v51 := Tryz.zeroValue198
  t53 := Tryz.underlying200
  a53 := Tryz.isAgg200
  z53 := Tryz.sizeOf200
  v53 := Tryz.zeroValue200
  t131 := Tryz.underlying142
  a131 := Tryz.isAgg142
  z131 := Tryz.sizeOf142
  v131 := Tryz.zeroValue142
  t182 := Tryz.underlying190
  a182 := Tryz.isAgg190
  z182 := Tryz.sizeOf190
  v182 := Tryz.zeroValue190
  t183 := Tryz.underlying191
  a183 := Tryz.isAgg191
  z183 := Tryz.sizeOf191
  v183 := Tryz.zeroValue191
  t218 := Tryz.underlying216
  a218 := Tryz.isAgg216
  z218 := Tryz.sizeOf216
  v218 := Tryz.zeroValue216
  t222 := Tryz.underlying220
  a222 := Tryz.isAgg220
  z222 := Tryz.sizeOf220
  v222 := Tryz.zeroValue220
  t228 := Tryz.underlying226
  a228 := Tryz.isAgg226
  z228 := Tryz.sizeOf226
  v228 := Tryz.zeroValue226
  t229 := Tryz.underlying227
  a229 := Tryz.isAgg227
  z229 := Tryz.sizeOf227
  v229 := Tryz.zeroValue227

theorem _root_.Go.Own.Own.grow {E w : World} {X : Fr} (h : Own E w X) (os : Array Obj) : Own E (grow w os) X := by
  refine ⟨h.os, h.tape, h.output, h.nodup, fun p hp => ?_⟩
  have := h.mem p hp
  have hlt : p.1 < w.heap.size := (Array.getElem?_eq_some_iff.1 this).1
  show (w.heap ++ os)[p.1]? = _
  rw [Array.getElem?_append_left hlt]
  exact this
theorem putCells_row (zs ys : List Int) (rest : List Value) (h : ys.length = zs.length) : putCells (Value.int .i64) 0 ys.toArray (zs.map (Value.int .i64) ++ rest).toArray = (ys.map (Value.int .i64) ++ rest).toArray := by
  apply Array.ext
  · simp [putCells, h]
  · intro j h1 h2
    simp only [putCells, Array.getElem_mapIdx, List.size_toArray]
    by_cases hj : j < ys.length
    · rw [if_pos ⟨by omega, by omega⟩]
      simp only [List.getElem_toArray, Nat.sub_zero]
      rw [List.getElem_append_left (by rw [List.length_map]; exact hj), List.getElem_map]
      simp [hj]
    · rw [if_neg (by omega)]
      simp only [List.getElem_toArray]
      rw [List.getElem_append_right (by rw [List.length_map]; omega), List.getElem_append_right (by rw [List.length_map]; omega)]
      congr 1
      simp [h]
def srt (zs : List Int) : List Int := zs.mergeSort fun x y => decide (x ≤ y)
theorem srt_length (zs : List Int) : (srt zs).length = zs.length := List.length_mergeSort zs

set_option maxRecDepth 100000 in
set_option maxHeartbeats 16000000 in
theorem sortI_nil_ins (p : Option Addr) (cap : Nat) (w : World) : Calls Tryz.prog 138 #[.slice p 0 cap, .int .i64 0, .int .i64 0] w fun e w' => e = .returned (.tuple #[]) ∧ w = w' := by
  go_enter Tryz.func138, Tryz.ntmps138
  go_wp2
  refine wp_loop_rounds 1 ?_
  rw [rounds_succ]
  go_wp2
  go_end0
  exact ⟨rfl, rfl⟩
set_option maxRecDepth 100000 in
set_option maxHeartbeats 16000000 in
theorem sortI_nil_pdq (p : Option Addr) (cap : Nat) (w : World) : Calls Tryz.prog 102 #[.slice p 0 cap, .int .i64 0, .int .i64 0, .int .i64 0] w fun e w' => e = .returned (.tuple #[]) ∧ w = w' := by
  go_enter Tryz.func102, Tryz.ntmps102
  go_wp2
  refine wp_loop_rounds 1 ?_
  rw [rounds_succ]
  go_wp2_with (go_at_call 138; refine (sortI_nil_ins p cap _).mono ?_; rintro e w' ⟨rfl, rfl⟩)
  refine bodyPost_ret (results_none rfl _ _ _) rfl ?_
  exact ⟨rfl, rfl⟩
set_option maxRecDepth 100000 in
set_option maxHeartbeats 16000000 in
theorem sortI_nil_len64 (w : World) : Calls Tryz.prog 148 #[.int .u64 0] w fun e w' => e = .returned (.int .i64 0) ∧ w = w' := by
  go_enter Tryz.func148, Tryz.ntmps148
  go_wp2
  go_ret
  have hl8 : wrap64 (wrap64 (Lib.len8 0)) = 0 := by decide +kernel
  refine ⟨?_, rfl⟩
  show Ending.returned (Value.int .i64 (wrap64 (wrap64 (Lib.len8 0)))) = _
  rw [hl8]
set_option maxRecDepth 100000 in
set_option maxHeartbeats 16000000 in
theorem sortI_nil_len (w : World) : Calls Tryz.prog 103 #[.int .u64 0] w fun e w' => e = .returned (.int .i64 0) ∧ w = w' := by
  go_enter Tryz.func103, Tryz.ntmps103
  go_wp2_with (go_at_call 148; refine (sortI_nil_len64 _).mono ?_; rintro e w' ⟨rfl, rfl⟩)
  go_ret
  exact ⟨rfl, rfl⟩
set_option maxRecDepth 100000 in
set_option maxHeartbeats 16000000 in
theorem sortI_nil (p : Option Addr) (cap : Nat) (w : World) : Calls Tryz.prog 51 #[.slice p 0 cap] w fun e w' => e = .returned (.tuple #[]) ∧ w = w' := by
  go_enter Tryz.func51, Tryz.ntmps51
  go_wp2_with (first | (go_at_call 103; refine (sortI_nil_len _).mono ?_; rintro e w' ⟨rfl, rfl⟩) | (go_at_call 102; refine (sortI_nil_pdq p cap _).mono ?_; rintro e w' ⟨rfl, rfl⟩))
  go_end0
  exact ⟨rfl, rfl⟩

theorem sortI (E w : World) (X R S : Fr) (a : Option Addr) (cap : Nat) (zs : List Int) (hS : Sl 3 1 a zs.length cap (zs.map (Value.int .i64)) S) (hz : zs.length < 4611686018427387904) (hO : Own E w X) [hp : Pick X S R] :
    Calls Tryz.prog 51 #[.slice a zs.length cap] w fun e w' => e = .returned (.tuple #[]) ∧ ∃ S', Sl 3 1 a zs.length cap ((srt zs).map (Value.int .i64)) S' ∧ Own E w' (S' ++ R) := by
  replace hO := hO.perm hp.perm
  clear hp
  by_cases h0 : zs = []
  · subst h0
    refine (sortI_nil a cap w).mono ?_
    rintro e w' ⟨rfl, rfl⟩
    exact ⟨rfl, S, by simpa [srt] using hS, hO⟩
  have hpos : 0 < zs.length := List.length_pos_iff.2 h0
  obtain ⟨h1, h2, h3, h4⟩ := hS
  rcases h4 with ⟨_, hc, _⟩ | ⟨b, rest, rfl, hl, rfl⟩
  · omega
  have hb : b < w.heap.size := hO.lt (b := b) (o := .cells (zs.map (Value.int .i64) ++ rest).toArray 3 (0, 0)) (by simp [pt])
  have hg : w.heap[b]? = some (.cells (zs.map (Value.int .i64) ++ rest).toArray 3 (0, 0)) := hO.mem (b, _) (by simp [pt])
  have hH : Holds (Value.int .i64) w b 0 zs.toArray := by
    intro j hj
    have hj' : j < zs.length := by simpa using hj
    have hcl := Own.cells hO
    simp only [cellsOf_append, cellsOf_pt] at hcl
    rw [Nat.zero_add]
    refine ⟨?_, hcl.1.2 j⟩
    rw [hcl.1.1 j]
    simp only [List.getElem?_toArray]
    rw [List.getElem?_append_left (by rw [List.length_map]; exact hj')]
    simp [hj']
  refine (Any.slices_Sort_int Tryz.lay189 b 0 cap zs w hH hb hz).mono ?_
  rintro e w' ⟨rfl, n, os, rfl⟩
  refine ⟨rfl, _, ⟨by rw [List.length_map, srt_length]; simp, h2, h3, .inr ⟨b, rest, rfl, by rw [List.length_append, List.length_map, srt_length]; rw [List.length_append, List.length_map] at hl; exact hl, rfl⟩⟩, ?_⟩
  refine Own.grow ?_ os
  have hO1 : Own E (Sort.ahead w n) (pt b (.cells (zs.map (Value.int .i64) ++ rest).toArray 3 (0, 0)) ++ R) := ⟨hO.os, hO.tape, hO.output, hO.nodup, hO.mem⟩
  refine hO1.modify rfl rfl rfl ?_ ?_
  · show (w.heap.modify b _)[b]? = _
    rw [Array.getElem?_modify, if_pos rfl, hg]
    simp only [Option.map_some, onCells]
    have := putCells_row zs (srt zs) rest (srt_length zs)
    unfold srt at this ⊢
    rw [this]
  · intro k hk
    show (w.heap.modify b _)[k]? = _
    rw [Array.getElem?_modify, if_neg (Ne.symm hk)]
    rfl

theorem srt_perm (zs : List Int) : (srt zs).Perm zs := List.mergeSort_perm zs _
theorem srt_sorted (zs : List Int) : (srt zs).Pairwise (fun x y => x ≤ y) := by
  have := List.pairwise_mergeSort (le := fun x y : Int => decide (x ≤ y)) (fun a b c h1 h2 => by simp at *; omega) (fun a b => by simp; omega) zs
  exact this.imp (fun h => by simpa using h)
/-- Numbers of which none stands twice rise. -/
theorem srt_rise {zs : List Int} (h : zs.Nodup) : (srt zs).Pairwise (fun x y => x < y) := by
  have h1 := srt_sorted zs
  have h2 : (srt zs).Nodup := (srt_perm zs).nodup_iff.2 h
  have h3 := h1.and h2
  exact h3.imp (fun ⟨a, b⟩ => by omega)
end Go.Proofs.YtkfkcloefgfkaaaGreat

/- The pool's contracts: Held. -/
namespace Go.Proofs.YtkfkcloefgfkaaaGreat
open Go Go.RowKit Go.Own Go.Dk

theorem sltInts : SlT Tryz.prog 47 3 1 8 (.int .i64 0) := ⟨by kernel_rfl, by kernel_rfl, rfl⟩
def HeldPost (E : World) (p d most hand : Nat) (fs : List Frm) (l : List (Int × Value)) (R : Fr) (e : Ending) (w' : World) : Prop :=
  ∃ (sa : Option Addr) (cap : Nat) (hs : List Int) (S P : Fr), e = .returned (.slice sa hs.length cap) ∧ hs.Perm (l.map (·.1)) ∧ hs.Pairwise (fun x y => x < y) ∧ Sl 3 1 sa hs.length cap (hs.map (Value.int .i64)) S ∧ PoolP p d most hand fs l P ∧ Own E w' (S ++ (P ++ R))

def slN : Value → Nat
  | .slice _ n _ => n
  | _ => 0

set_option maxRecDepth 100000 in
set_option maxHeartbeats 16000000 in
theorem pHeld (E w : World) (X R P : Fr) (p d most hand : Nat) (fs : List Frm) (l : List (Int × Value)) (hP : PoolP p d most hand fs l P) (hl : l.length ≤ 4096) (hm : 0 < most) (hO : Own E w X) [hp : Pick X P R] :
    Calls Tryz.prog 152 #[.pointer (some ⟨p, 0, none⟩)] w (HeldPost E p d most hand fs l R) := by
  replace hO := hO.perm hp.perm
  clear hp
  go_enter Tryz.func152, Tryz.ntmps152
  go_wp2_with fail
  refine (pGiven E _ _ _ P p d most hand _ l hP hm hO).mono ?_; rintro e w1 ⟨rfl, rfl⟩
  obtain ⟨la, lc, mb, S, M, hSS, hM, rfl⟩ := hP
  ((try simp only [List.nil_append, List.append_nil] at hO); have hF := Own.cells hO; simp only [cellsOf_append, cellsOf_pt] at hF)
  go_wp2_with (refine at_rng ?_; go_must (refine own_range (kt := 3) (et := 205) (b := mb) (l := l) (by kernel_rfl) hO hM ?_ ?_ ?_; (· rfl); (· rfl); clear hO; (try clear hF); intro r _ A1 hR hO; ((try simp only [List.nil_append, List.append_nil] at hO); have hF := Own.cells hO; simp only [cellsOf_append, cellsOf_pt] at hF); simp only [Act.put, List.setIfInBounds_toArray, List.set_cons_zero, List.set_cons_succ]))
  have hO0 := hO
  clear hO hF
  go_loopw [3] (fun s3 wr => ∃ (done : List Int) (sa : Option Addr) (cap : Nat) (Z A1 : Fr), s3 = .slice sa done.length cap ∧ Sl 3 1 sa done.length cap (done.map (Value.int .i64)) Z ∧ Ranging r mb l done A1 ∧
      Own E wr (pt p (.cells #[.pointer (some ⟨d, 0, none⟩), .int .i64 most, .slice la fs.length lc, .int .i64 hand, .map (some mb)] 166 (0, 0)) ++ (S ++ (Z ++ (A1 ++ (frmsF fs ++ R)))))) (fun s3 _ => l.length - slN s3)
  case atStart => exact ⟨[], none, 0, [], A1, rfl, Sl.nil _ _, hR, hO0.as _⟩
  case round =>
    clear hO0 hR
    obtain ⟨done, sa, cap, Z, A1, rfl, hZ, hR, hO⟩ := hrel
    have hle := hR.le
    ((try simp only [List.nil_append, List.append_nil] at hO); have hF := Own.cells hO; simp only [cellsOf_append, cellsOf_pt] at hF)
    go_wp2_with (refine at_nxt ?_; go_must (refine own_next (r := r) (b := mb) (l := l) (done := done) hO hR ?_ ?_ ?_ ?_; (· rfl); (· rfl)))
    · intro hperm
      simp only [Act.put, List.setIfInBounds_toArray, List.set_cons_zero, List.set_cons_succ]
      go_wp2_with fail
      refine (sortI E _ _ _ Z sa cap done hZ (by omega) hO).mono ?_; rintro e w1 ⟨rfl, Z2, hZ2, hO⟩
      go_wp2_with fail
      go_ret
      obtain ⟨I, M2, hM2, rfl⟩ := hR.back
      refine ⟨sa, cap, srt done, Z2, _, by rw [srt_length]; rfl, (srt_perm done).trans hperm, srt_rise hR.nodup.1, by rw [srt_length]; exact hZ2, ⟨la, lc, mb, S, M2, hSS, hM2, rfl⟩, ?_⟩
      exact hO.as _
    · intro k v w2 A2 hR2 hO hen
      simp only [Act.put, List.setIfInBounds_toArray, List.set_cons_zero, List.set_cons_succ]
      clear hF
      ((try simp only [List.nil_append, List.append_nil] at hO); have hF := Own.cells hO; simp only [cellsOf_append, cellsOf_pt] at hF)
      go_wp2_with (first | (refine at_bs ?_; go_must (refine own_build1 (v := ?_) sltInts hO ?_ ?_ ?_ ?_ ?_ ?_; rotate_left; (· rfl); (· ((conv => lhs; whnf); try exact rfl)); (· rfl); (· decide); (· decide); clear hO; (try clear hF); intro bs _ hO; (try simp only [Value.cells] at hO); ((try simp only [List.nil_append, List.append_nil] at hO); have hF := Own.cells hO; simp only [cellsOf_append, cellsOf_pt] at hF); simp only [Act.put, List.setIfInBounds_toArray, List.set_cons_zero, List.set_cons_succ])) | (refine at_append ?_; go_must (refine own_append_elem (b1 := ?_) (cs := ?_) (e1 := ?_) (f1 := ?_) sltInts hO ?_ ?_ ?_ hZ ?_ ?_ ?_ ?_ ?_ ?_ ?_; rotate_left 4; (· rfl); (· rfl); (· rfl); (· exact inferInstance); (· rfl); (· intro u hu; simp at hu; subst hu; rfl); (· first | omega | (simp only [maxLen]; omega)); (· decide); (· first | omega | (simp only [maxLen]; omega)); clear hO; (try clear hF); intro _ _ _ _ hS hO; ((try simp only [List.nil_append, List.append_nil] at hO); have hF := Own.cells hO; simp only [cellsOf_append, cellsOf_pt] at hF); simp only [Act.put, List.setIfInBounds_toArray, List.set_cons_zero, List.set_cons_succ])))
      have hlen1 : (done ++ [k]).length = done.length + 1 := by simp
      have hle2 := hR2.le
      go_roundw
      case rel => exact ⟨done ++ [k], _, _, _, A2, by rw [hlen1], (by rw [hlen1, List.map_append]; exact hS), hR2, hO.as _⟩
      case measure => simp [slN]; omega
end Go.Proofs.YtkfkcloefgfkaaaGreat

/- The pool's contracts: Flush. -/
namespace Go.Proofs.YtkfkcloefgfkaaaGreat
open Go Go.RowKit Go.Own Go.Dk

def FlushPost (E : World) (J : Nat → Prop) (F0 : List UInt8) (p d most N : Nat) (cont : Nat → List UInt8) (pins : Nat → Nat) (R : Fr) (e : Ending) (w' : World) : Prop :=
  e = .returned (.int .i64 0) ∧ ∃ hand fs l rs P D, PoolP p d most hand fs l P ∧ PInv most fs l (play rs 1) cont pins ∧ DiskAt d rs D ∧ (hand < fs.length ∨ hand = 0) ∧ rs.length + chg fs ≤ N ∧ JI J F0 rs cont ∧ (∀ f ∈ fs, f.changed = false) ∧ Own E w' (P ++ (D ++ R))
theorem wrR_len (rs : List Raw) (pre post : List Frm) (f : Frm) : (wrR rs f).length + chg (pre ++ { f with changed := false } :: post) = rs.length + chg (pre ++ f :: post) := by
  unfold wrR
  rw [chg_app, chg_cons, chg_app, chg_cons]
  cases hc : f.changed <;> simp
  omega

set_option maxRecDepth 100000 in
set_option maxHeartbeats 16000000 in
theorem pFlush (E w : World) (X R A : Fr) (p d most N : Nat) (cont : Nat → List UInt8) (pins : Nat → Nat) {J : Nat → Prop} {F0 : List UInt8} (hS : PoolS J F0 p d most N cont pins A) (hm : 0 < most) (hm2 : most ≤ 1024) (hNN : N ≤ 8796093022208) (hO : Own E w X) [hp : Pick X A R] :
    Calls Tryz.prog 105 #[.pointer (some ⟨p, 0, none⟩)] w (FlushPost E J F0 p d most N cont pins R) := by
  obtain ⟨hand, fs, l, rs, P, D, hP, hI, hD, hh, hN, hJ, rfl⟩ := hS
  replace hO := hO.perm hp.perm
  clear hp
  have hll : l.length = fs.length := by rw [hI.perm.length_eq, List.length_map]
  have hfl := hI.len
  go_enter Tryz.func105, Tryz.ntmps105
  go_wp2_with fail
  refine (pGiven E _ _ _ P p d most hand _ l hP hm hO).mono ?_; rintro e w1 ⟨rfl, rfl⟩
  go_wp2_with fail
  refine (pHeld E _ _ _ P p d most hand fs l hP (by omega) hm hO).mono ?_; rintro e w1 ⟨sa, cap, hs, S, P1, rfl, hperm, hrise, hS, hP1, hO⟩
  have hsl : hs.length = fs.length := by rw [hperm.length_eq, List.length_map, hll]
  have hsi : (hs.length : Int) ≤ 1024 := by omega
  have hin : ∀ k ∈ hs, ∃ f ∈ fs, (f.page : Int) = k := by
    intro k hk
    obtain ⟨q, hq, rfl⟩ := List.mem_map.1 (hperm.mem_iff.1 hk)
    obtain ⟨f, hf, rfl⟩ := List.mem_map.1 (hI.perm.mem_iff.1 hq)
    exact ⟨f, hf, rfl⟩
  have hin2 : ∀ f ∈ fs, (f.page : Int) ∈ hs := by
    intro f hf
    refine hperm.mem_iff.2 (List.mem_map.2 ⟨pairV f, hI.perm.mem_iff.2 (List.mem_map.2 ⟨f, hf, rfl⟩), rfl⟩)
  have HIN := Lib.hid hin
  have HIN2 := Lib.hid hin2
  have hO1 := hO
  clear hin hin2 hO hrise
  go_wp2_with fail
  go_loopw [11] (fun i wr => ∃ (j : Nat) (gs : List Frm) (rs : List Raw) (P D : Fr), i = .int .i64 j ∧ j ≤ hs.length ∧ PoolP p d most hand gs l P ∧ PInv most gs l (play rs 1) cont pins ∧ DiskAt d rs D ∧ rs.length + chg gs ≤ N ∧ JI J F0 rs cont ∧ gs.map (·.page) = fs.map (·.page) ∧
      (∀ f ∈ gs, (f.page : Int) ∈ hs.take j → f.changed = false) ∧ Own E wr (P ++ (D ++ (S ++ R)))) (fun i _ => hs.length - (intOf i).toNat)
  case atStart => exact ⟨0, fs, rs, P1, D, rfl, by omega, hP1, hI, hD, hN, hJ, rfl, fun f _ h => by simp at h, hO1.as _⟩
  case round =>
    clear hO1 hP hP1 hD hI hN hJ
    obtain ⟨j, gs, rs, P, D, rfl, hj, hP, hI, hD, hN, hJ, hpgs, hdone, hO⟩ := hrel
    by_cases hlt : j < hs.length
    · have hj1 : (j : Int) < hs.length := by omega
      have hj2 : (0 : Int) ≤ j := by omega
      obtain ⟨sb, rfl⟩ := sl_some4 hS (by omega)
      have hcell : wr.cell? ⟨sb, j, none⟩ = some (.int .i64 hs[j]) := by
        have := hS.cell hO ⟨sb, 0, none⟩ rfl j (by simpa using hlt)
        rw [add_lit, Nat.zero_add] at this
        rw [this]
        simp
      obtain ⟨f0, hf0, hf1⟩ := HIN.out hs[j] (List.getElem_mem _)
      have hgm : f0.page ∈ gs.map (·.page) := by rw [hpgs]; exact List.mem_map.2 ⟨f0, hf0, rfl⟩
      obtain ⟨f, hf, hfp⟩ := List.mem_map.1 hgm
      have hfk : (f.page : Int) = hs[j] := by rw [hfp, hf1]
      obtain ⟨pre, post, rfl⟩ := List.append_of_mem hf
      have hl := hI.look_in (f := f) (by simp)
      rw [hfk] at hl
      unfold ptrV at hl
      have hfb := (hI.pg f (by simp)).2.1
      have hfl : f.bytes.length = 512 := by rw [hfb]; exact hI.clen _
      have hpl := (hI.pg f (by simp)).1
      have HD := Lib.hid hdone
      have HK := Lib.hid hfk
      have HPG := Lib.hid hpgs
      clear hfb hf0 hf1 hgm hf hfp hfk hdone hpgs
      generalize hk : hs[j] = k at hcell hl HK
      have hP0 := hP
      obtain ⟨la, lc, mb, S1, M, hSS, hM, rfl⟩ := hP
      ((try simp only [List.nil_append, List.append_nil] at hO); have hF := Own.cells hO; simp only [cellsOf_append, cellsOf_pt] at hF)
      go_wp2_with (refine at_lookup ?_; go_must (refine own_lookup (kt := 3) (et := 205) (b := mb) (k := k) (l := l) (by kernel_rfl) (by kernel_rfl) zeroFP hO hM ?_ ?_ ?_ ?_; (· rfl); (· rfl); (· rfl); rw [hl]; simp only [Act.put, List.setIfInBounds_toArray, List.set_cons_zero, List.set_cons_succ]))
      refine (pWr E _ _ _ _ D p d most hand pre post f l rs hP0 hD hfl hpl (by omega) hO).mono ?_; rintro e w1 ⟨rfl, P2, D2, hP2, hD2, hO⟩
      go_wp2_with fail
      go_roundw
      case rel =>
        have hne := nodup_mid hI.nodup
        refine ⟨j + 1, pre ++ { f with changed := false } :: post, wrR rs f, P2, D2, by go_num, by omega, hP2, hI.wr rs rfl, hD2, by rw [wrR_len]; exact hN, hJ.wr hpl hI, ?_, ?_, hO.as _⟩
        · rw [← HPG.out]
          simp
        · intro g hg hgt
          have hg' : g = { f with changed := false } ∨ g ∈ pre ++ post := by
            simp at hg ⊢
            rcases hg with h | h | h <;> simp [h]
          rcases hg' with rfl | hg'
          · rfl
          · rw [List.take_succ_eq_append_getElem hlt, hk] at hgt
            rcases List.mem_append.1 hgt with h | h
            · refine HD.out g ?_ h
              simp at hg' ⊢
              rcases hg' with h | h <;> simp [h]
            · have h1 := List.mem_singleton.1 h
              rw [← HK.out] at h1
              exact absurd (Int.ofNat.inj h1) (hne g hg')
      case measure => simp [intOf]; omega
    · have hlt' : ¬ (j : Int) < hs.length := by omega
      go_wp2_with fail
      go_ret
      refine ⟨rfl, hand, gs, l, rs, P, D, hP, hI, hD, ?_, hN, hJ, ?_, hO.as _⟩
      · have := congrArg List.length hpgs
        simp only [List.length_map] at this
        rw [this]
        exact hh
      · intro f hf
        refine hdone f hf ?_
        rw [List.take_of_length_le (by omega)]
        have : f.page ∈ fs.map (·.page) := by rw [← hpgs]; exact List.mem_map.2 ⟨f, hf, rfl⟩
        obtain ⟨g, hg, e⟩ := List.mem_map.1 this
        rw [← e]
        exact HIN2.out g hg
end Go.Proofs.YtkfkcloefgfkaaaGreat

/- Space: numbers of four bytes. -/
namespace Go.Proofs.YtkfkcloefgfkaaaGreat
open Go Go.RowKit Go.Own Go.Dk

/-- Bytes that lie there, whatever happens elsewhere. -/
def BytesIn (E : World) (I : Fr) (sa : Option Addr) (l : List UInt8) : Prop := ∀ w, Own E w I → ∀ i (h : i < l.length), ∃ ad, sa = some ad ∧ w.cell? (ad.add i) = some (.int .u8 (l[i].toNat : Int))
theorem wrap_u (n : Nat) (h : n < 4611686018427387904) : IntKind.i64.wrap (n : Int) = (n : Int) := by
  simp only [IntKind.wrap, show IntKind.bits .i64 = 64 from rfl, show IntKind.signed .i64 = true from rfl]
  rw [Int.emod_eq_of_lt (by omega) (by omega), if_neg (by simp; omega)]
theorem or_u (a b i : Nat) (ha : a % 2 ^ i = 0) (hb : b < 2 ^ i) (hs : a + b < 4611686018427387904) : bits .or .i64 (a : Int) (b : Int) = ((a + b : Nat) : Int) := by
  have hw : ∀ m : Int, 0 ≤ m → m < 2 ^ 62 → IntKind.i64.wrap m = m := by
    intro m h0 h1
    obtain ⟨n, rfl⟩ : ∃ n : Nat, m = n := ⟨m.toNat, by omega⟩
    exact wrap_u n (by omega)
  rw [(bits_nat .i64 62 (by decide) hw a b (by omega) (by omega)).2]
  congr 1
  have h := Nat.two_pow_add_eq_or_of_lt (i := i) (b := b) hb (a / 2 ^ i)
  have h2 : 2 ^ i * (a / 2 ^ i) = a := by have := Nat.div_add_mod a (2 ^ i); omega
  rw [h2] at h
  exact h.symm
theorem num_or (b0 b1 b2 b3 : UInt8) : bits .or .i64 (bits .or .i64 (bits .or .i64 (IntKind.i64.wrap (IntKind.i64.wrap (b0.toNat : Int) * 16777216)) (IntKind.i64.wrap (IntKind.i64.wrap (b1.toNat : Int) * 65536))) (IntKind.i64.wrap (IntKind.i64.wrap (b2.toNat : Int) * 256))) (IntKind.i64.wrap (b3.toNat : Int)) = ((((b0.toNat * 256 + b1.toNat) * 256 + b2.toNat) * 256 + b3.toNat : Nat) : Int) := by
  have l0 := b0.toNat_lt
  have l1 := b1.toNat_lt
  have l2 := b2.toNat_lt
  have l3 := b3.toNat_lt
  have e (b : UInt8) (k : Nat) (hk : k ≤ 16777216) : IntKind.i64.wrap (IntKind.i64.wrap (b.toNat : Int) * (k : Int)) = ((b.toNat * k : Nat) : Int) := by
    have lb := b.toNat_lt
    have := Nat.mul_le_mul (Nat.le_of_lt lb) hk
    rw [wrap_u b.toNat (by omega), ← Int.natCast_mul, wrap_u _ (by omega)]
  have e0 := e b0 16777216 (by omega)
  have e1 := e b1 65536 (by omega)
  have e2 := e b2 256 (by omega)
  rw [show ((16777216 : Nat) : Int) = 16777216 from rfl] at e0
  rw [show ((65536 : Nat) : Int) = 65536 from rfl] at e1
  rw [show ((256 : Nat) : Int) = 256 from rfl] at e2
  rw [e0, e1, e2, wrap_u b3.toNat (by omega), or_u _ _ 24 (by omega) (by omega) (by omega), or_u _ _ 16 (by omega) (by omega) (by omega), or_u _ _ 8 (by omega) (by omega) (by omega)]
  omega
set_option maxRecDepth 100000 in
set_option maxHeartbeats 16000000 in
theorem sNumber (E w : World) (X R I : Fr) (sa : Option Addr) (n cap : Nat) (b0 b1 b2 b3 : UInt8) (r : List UInt8) (hn : n = (b0 :: b1 :: b2 :: b3 :: r).length) (hB : BytesIn E I sa (b0 :: b1 :: b2 :: b3 :: r)) (hO : Own E w X) [hp : Pick X I R] :
    Calls Tryz.prog 61 #[.slice sa n cap] w fun e w' => e = .returned (.int .i64 (val4 (b0 :: b1 :: b2 :: b3 :: r) : Nat)) ∧ Own E w' (I ++ R) := by
  replace hO := hO.perm hp.perm
  clear hp
  obtain ⟨ad, rfl, -⟩ := hB w (hO.as I) 0 (by simp)
  have hc : ∀ w', Own E w' I → w'.cell? ad = some (.int .u8 (b0.toNat : Int)) ∧ w'.cell? (ad.add 1) = some (.int .u8 (b1.toNat : Int)) ∧ w'.cell? (ad.add 2) = some (.int .u8 (b2.toNat : Int)) ∧ w'.cell? (ad.add 3) = some (.int .u8 (b3.toNat : Int)) := fun w' h => by
    have hg : ∀ i (hi : i < (b0 :: b1 :: b2 :: b3 :: r).length), w'.cell? (ad.add i) = some (.int .u8 ((b0 :: b1 :: b2 :: b3 :: r)[i].toNat : Int)) := fun i hi => by
      obtain ⟨_, h1, h2⟩ := hB w' h i hi
      cases h1
      exact h2
    refine ⟨?_, hg 1 (by simp), hg 2 (by simp), hg 3 (by simp)⟩
    have := hg 0 (by simp)
    simpa [Addr.add] using this
  have hn4 : (4 : Int) ≤ n := by subst hn; simp; omega
  have h0 : (0 : Int) < n := by omega
  have h1 : (1 : Int) < n := by omega
  have h2 : (2 : Int) < n := by omega
  have h3 : (3 : Int) < n := by omega
  have g0 : 0 < n := by omega
  have g1 : 1 < n := by omega
  have g2 : 2 < n := by omega
  have g3 : 3 < n := by omega
  clear hn hB
  go_enter Tryz.func61, Tryz.ntmps61
  go_wp2_with fail
  (try (go_wp2_with fail))
  refine region_sch (fun w' => Own E w' (I)) (.look 0 (.look 1 (.look 2 (.look 3 (.look 4 (.look 5 (.look 6 (.look 7 (.look 8 (.look 9 (.look 10 (.look 11 (.look 12 (.look 13 (.look 14 (.look 15 (.look 16 (.look 17 (.look 18 (.look 19 (.look 20 (.look 21 (.look 22 .done))))))))))))))))))))))) (by kernel_rfl) (by kernel_rfl) (fun _ _ d _ _ h => by cases d <;> exact h) ?_ ?_
  · exact hO.drew.as _
  replace hO := hO.drew
  generalize World.drew _ = wdr at hO ⊢
  first | (refine sch_look (o := ?_) (v := ?_) ?_ ?_ ?_ ?_; rotate_left 2; (· ((conv => lhs; whnf); try exact rfl)); (· rfl); (· intro w' hO'; obtain ⟨hc0, hc1, hc2, hc3⟩ := hc w' hO'; simp [Addr.add] at hc1 hc2 hc3; go_simp; (try exact rfl)); simp only [Act.put, List.setIfInBounds_toArray, List.set_cons_zero, List.set_cons_succ]) | (refine sch_pass (o := ?_) ?_ ?_ ?_; rotate_left; (· ((conv => lhs; whnf); try exact rfl)); (· rfl); simp only [Act.put, List.setIfInBounds_toArray, List.set_cons_zero, List.set_cons_succ]) | (refine sch_look (o := ?_) (v := .agg ?_) ?_ ?_ ?_ ?_; rotate_left 2; (· ((conv => lhs; whnf); try exact rfl)); (· rfl); (· intro w' hO'; refine run_opLoadS (b := ?_) (cs := ?_) (e := ?_) (f := ?_) hO' ?_ ?_ ?_ ?_; rotate_left 4; (· exact rfl); (· exact inferInstance); (· simp; done); (· simp; done)); simp only [Act.put, List.setIfInBounds_toArray, List.set_cons_zero, List.set_cons_succ])
  first | (refine sch_look (o := ?_) (v := ?_) ?_ ?_ ?_ ?_; rotate_left 2; (· ((conv => lhs; whnf); try exact rfl)); (· rfl); (· intro w' hO'; obtain ⟨hc0, hc1, hc2, hc3⟩ := hc w' hO'; simp [Addr.add] at hc1 hc2 hc3; go_simp; (try exact rfl)); simp only [Act.put, List.setIfInBounds_toArray, List.set_cons_zero, List.set_cons_succ]) | (refine sch_pass (o := ?_) ?_ ?_ ?_; rotate_left; (· ((conv => lhs; whnf); try exact rfl)); (· rfl); simp only [Act.put, List.setIfInBounds_toArray, List.set_cons_zero, List.set_cons_succ]) | (refine sch_look (o := ?_) (v := .agg ?_) ?_ ?_ ?_ ?_; rotate_left 2; (· ((conv => lhs; whnf); try exact rfl)); (· rfl); (· intro w' hO'; refine run_opLoadS (b := ?_) (cs := ?_) (e := ?_) (f := ?_) hO' ?_ ?_ ?_ ?_; rotate_left 4; (· exact rfl); (· exact inferInstance); (· simp; done); (· simp; done)); simp only [Act.put, List.setIfInBounds_toArray, List.set_cons_zero, List.set_cons_succ])
  first | (refine sch_look (o := ?_) (v := ?_) ?_ ?_ ?_ ?_; rotate_left 2; (· ((conv => lhs; whnf); try exact rfl)); (· rfl); (· intro w' hO'; obtain ⟨hc0, hc1, hc2, hc3⟩ := hc w' hO'; simp [Addr.add] at hc1 hc2 hc3; go_simp; (try exact rfl)); simp only [Act.put, List.setIfInBounds_toArray, List.set_cons_zero, List.set_cons_succ]) | (refine sch_pass (o := ?_) ?_ ?_ ?_; rotate_left; (· ((conv => lhs; whnf); try exact rfl)); (· rfl); simp only [Act.put, List.setIfInBounds_toArray, List.set_cons_zero, List.set_cons_succ]) | (refine sch_look (o := ?_) (v := .agg ?_) ?_ ?_ ?_ ?_; rotate_left 2; (· ((conv => lhs; whnf); try exact rfl)); (· rfl); (· intro w' hO'; refine run_opLoadS (b := ?_) (cs := ?_) (e := ?_) (f := ?_) hO' ?_ ?_ ?_ ?_; rotate_left 4; (· exact rfl); (· exact inferInstance); (· simp; done); (· simp; done)); simp only [Act.put, List.setIfInBounds_toArray, List.set_cons_zero, List.set_cons_succ])
  first | (refine sch_look (o := ?_) (v := ?_) ?_ ?_ ?_ ?_; rotate_left 2; (· ((conv => lhs; whnf); try exact rfl)); (· rfl); (· intro w' hO'; obtain ⟨hc0, hc1, hc2, hc3⟩ := hc w' hO'; simp [Addr.add] at hc1 hc2 hc3; go_simp; (try exact rfl)); simp only [Act.put, List.setIfInBounds_toArray, List.set_cons_zero, List.set_cons_succ]) | (refine sch_pass (o := ?_) ?_ ?_ ?_; rotate_left; (· ((conv => lhs; whnf); try exact rfl)); (· rfl); simp only [Act.put, List.setIfInBounds_toArray, List.set_cons_zero, List.set_cons_succ]) | (refine sch_look (o := ?_) (v := .agg ?_) ?_ ?_ ?_ ?_; rotate_left 2; (· ((conv => lhs; whnf); try exact rfl)); (· rfl); (· intro w' hO'; refine run_opLoadS (b := ?_) (cs := ?_) (e := ?_) (f := ?_) hO' ?_ ?_ ?_ ?_; rotate_left 4; (· exact rfl); (· exact inferInstance); (· simp; done); (· simp; done)); simp only [Act.put, List.setIfInBounds_toArray, List.set_cons_zero, List.set_cons_succ])
  first | (refine sch_look (o := ?_) (v := ?_) ?_ ?_ ?_ ?_; rotate_left 2; (· ((conv => lhs; whnf); try exact rfl)); (· rfl); (· intro w' hO'; obtain ⟨hc0, hc1, hc2, hc3⟩ := hc w' hO'; simp [Addr.add] at hc1 hc2 hc3; go_simp; (try exact rfl)); simp only [Act.put, List.setIfInBounds_toArray, List.set_cons_zero, List.set_cons_succ]) | (refine sch_pass (o := ?_) ?_ ?_ ?_; rotate_left; (· ((conv => lhs; whnf); try exact rfl)); (· rfl); simp only [Act.put, List.setIfInBounds_toArray, List.set_cons_zero, List.set_cons_succ]) | (refine sch_look (o := ?_) (v := .agg ?_) ?_ ?_ ?_ ?_; rotate_left 2; (· ((conv => lhs; whnf); try exact rfl)); (· rfl); (· intro w' hO'; refine run_opLoadS (b := ?_) (cs := ?_) (e := ?_) (f := ?_) hO' ?_ ?_ ?_ ?_; rotate_left 4; (· exact rfl); (· exact inferInstance); (· simp; done); (· simp; done)); simp only [Act.put, List.setIfInBounds_toArray, List.set_cons_zero, List.set_cons_succ])
  first | (refine sch_look (o := ?_) (v := ?_) ?_ ?_ ?_ ?_; rotate_left 2; (· ((conv => lhs; whnf); try exact rfl)); (· rfl); (· intro w' hO'; obtain ⟨hc0, hc1, hc2, hc3⟩ := hc w' hO'; simp [Addr.add] at hc1 hc2 hc3; go_simp; (try exact rfl)); simp only [Act.put, List.setIfInBounds_toArray, List.set_cons_zero, List.set_cons_succ]) | (refine sch_pass (o := ?_) ?_ ?_ ?_; rotate_left; (· ((conv => lhs; whnf); try exact rfl)); (· rfl); simp only [Act.put, List.setIfInBounds_toArray, List.set_cons_zero, List.set_cons_succ]) | (refine sch_look (o := ?_) (v := .agg ?_) ?_ ?_ ?_ ?_; rotate_left 2; (· ((conv => lhs; whnf); try exact rfl)); (· rfl); (· intro w' hO'; refine run_opLoadS (b := ?_) (cs := ?_) (e := ?_) (f := ?_) hO' ?_ ?_ ?_ ?_; rotate_left 4; (· exact rfl); (· exact inferInstance); (· simp; done); (· simp; done)); simp only [Act.put, List.setIfInBounds_toArray, List.set_cons_zero, List.set_cons_succ])
  first | (refine sch_look (o := ?_) (v := ?_) ?_ ?_ ?_ ?_; rotate_left 2; (· ((conv => lhs; whnf); try exact rfl)); (· rfl); (· intro w' hO'; obtain ⟨hc0, hc1, hc2, hc3⟩ := hc w' hO'; simp [Addr.add] at hc1 hc2 hc3; go_simp; (try exact rfl)); simp only [Act.put, List.setIfInBounds_toArray, List.set_cons_zero, List.set_cons_succ]) | (refine sch_pass (o := ?_) ?_ ?_ ?_; rotate_left; (· ((conv => lhs; whnf); try exact rfl)); (· rfl); simp only [Act.put, List.setIfInBounds_toArray, List.set_cons_zero, List.set_cons_succ]) | (refine sch_look (o := ?_) (v := .agg ?_) ?_ ?_ ?_ ?_; rotate_left 2; (· ((conv => lhs; whnf); try exact rfl)); (· rfl); (· intro w' hO'; refine run_opLoadS (b := ?_) (cs := ?_) (e := ?_) (f := ?_) hO' ?_ ?_ ?_ ?_; rotate_left 4; (· exact rfl); (· exact inferInstance); (· simp; done); (· simp; done)); simp only [Act.put, List.setIfInBounds_toArray, List.set_cons_zero, List.set_cons_succ])
  first | (refine sch_look (o := ?_) (v := ?_) ?_ ?_ ?_ ?_; rotate_left 2; (· ((conv => lhs; whnf); try exact rfl)); (· rfl); (· intro w' hO'; obtain ⟨hc0, hc1, hc2, hc3⟩ := hc w' hO'; simp [Addr.add] at hc1 hc2 hc3; go_simp; (try exact rfl)); simp only [Act.put, List.setIfInBounds_toArray, List.set_cons_zero, List.set_cons_succ]) | (refine sch_pass (o := ?_) ?_ ?_ ?_; rotate_left; (· ((conv => lhs; whnf); try exact rfl)); (· rfl); simp only [Act.put, List.setIfInBounds_toArray, List.set_cons_zero, List.set_cons_succ]) | (refine sch_look (o := ?_) (v := .agg ?_) ?_ ?_ ?_ ?_; rotate_left 2; (· ((conv => lhs; whnf); try exact rfl)); (· rfl); (· intro w' hO'; refine run_opLoadS (b := ?_) (cs := ?_) (e := ?_) (f := ?_) hO' ?_ ?_ ?_ ?_; rotate_left 4; (· exact rfl); (· exact inferInstance); (· simp; done); (· simp; done)); simp only [Act.put, List.setIfInBounds_toArray, List.set_cons_zero, List.set_cons_succ])
  first | (refine sch_look (o := ?_) (v := ?_) ?_ ?_ ?_ ?_; rotate_left 2; (· ((conv => lhs; whnf); try exact rfl)); (· rfl); (· intro w' hO'; obtain ⟨hc0, hc1, hc2, hc3⟩ := hc w' hO'; simp [Addr.add] at hc1 hc2 hc3; go_simp; (try exact rfl)); simp only [Act.put, List.setIfInBounds_toArray, List.set_cons_zero, List.set_cons_succ]) | (refine sch_pass (o := ?_) ?_ ?_ ?_; rotate_left; (· ((conv => lhs; whnf); try exact rfl)); (· rfl); simp only [Act.put, List.setIfInBounds_toArray, List.set_cons_zero, List.set_cons_succ]) | (refine sch_look (o := ?_) (v := .agg ?_) ?_ ?_ ?_ ?_; rotate_left 2; (· ((conv => lhs; whnf); try exact rfl)); (· rfl); (· intro w' hO'; refine run_opLoadS (b := ?_) (cs := ?_) (e := ?_) (f := ?_) hO' ?_ ?_ ?_ ?_; rotate_left 4; (· exact rfl); (· exact inferInstance); (· simp; done); (· simp; done)); simp only [Act.put, List.setIfInBounds_toArray, List.set_cons_zero, List.set_cons_succ])
  first | (refine sch_look (o := ?_) (v := ?_) ?_ ?_ ?_ ?_; rotate_left 2; (· ((conv => lhs; whnf); try exact rfl)); (· rfl); (· intro w' hO'; obtain ⟨hc0, hc1, hc2, hc3⟩ := hc w' hO'; simp [Addr.add] at hc1 hc2 hc3; go_simp; (try exact rfl)); simp only [Act.put, List.setIfInBounds_toArray, List.set_cons_zero, List.set_cons_succ]) | (refine sch_pass (o := ?_) ?_ ?_ ?_; rotate_left; (· ((conv => lhs; whnf); try exact rfl)); (· rfl); simp only [Act.put, List.setIfInBounds_toArray, List.set_cons_zero, List.set_cons_succ]) | (refine sch_look (o := ?_) (v := .agg ?_) ?_ ?_ ?_ ?_; rotate_left 2; (· ((conv => lhs; whnf); try exact rfl)); (· rfl); (· intro w' hO'; refine run_opLoadS (b := ?_) (cs := ?_) (e := ?_) (f := ?_) hO' ?_ ?_ ?_ ?_; rotate_left 4; (· exact rfl); (· exact inferInstance); (· simp; done); (· simp; done)); simp only [Act.put, List.setIfInBounds_toArray, List.set_cons_zero, List.set_cons_succ])
  first | (refine sch_look (o := ?_) (v := ?_) ?_ ?_ ?_ ?_; rotate_left 2; (· ((conv => lhs; whnf); try exact rfl)); (· rfl); (· intro w' hO'; obtain ⟨hc0, hc1, hc2, hc3⟩ := hc w' hO'; simp [Addr.add] at hc1 hc2 hc3; go_simp; (try exact rfl)); simp only [Act.put, List.setIfInBounds_toArray, List.set_cons_zero, List.set_cons_succ]) | (refine sch_pass (o := ?_) ?_ ?_ ?_; rotate_left; (· ((conv => lhs; whnf); try exact rfl)); (· rfl); simp only [Act.put, List.setIfInBounds_toArray, List.set_cons_zero, List.set_cons_succ]) | (refine sch_look (o := ?_) (v := .agg ?_) ?_ ?_ ?_ ?_; rotate_left 2; (· ((conv => lhs; whnf); try exact rfl)); (· rfl); (· intro w' hO'; refine run_opLoadS (b := ?_) (cs := ?_) (e := ?_) (f := ?_) hO' ?_ ?_ ?_ ?_; rotate_left 4; (· exact rfl); (· exact inferInstance); (· simp; done); (· simp; done)); simp only [Act.put, List.setIfInBounds_toArray, List.set_cons_zero, List.set_cons_succ])
  first | (refine sch_look (o := ?_) (v := ?_) ?_ ?_ ?_ ?_; rotate_left 2; (· ((conv => lhs; whnf); try exact rfl)); (· rfl); (· intro w' hO'; obtain ⟨hc0, hc1, hc2, hc3⟩ := hc w' hO'; simp [Addr.add] at hc1 hc2 hc3; go_simp; (try exact rfl)); simp only [Act.put, List.setIfInBounds_toArray, List.set_cons_zero, List.set_cons_succ]) | (refine sch_pass (o := ?_) ?_ ?_ ?_; rotate_left; (· ((conv => lhs; whnf); try exact rfl)); (· rfl); simp only [Act.put, List.setIfInBounds_toArray, List.set_cons_zero, List.set_cons_succ]) | (refine sch_look (o := ?_) (v := .agg ?_) ?_ ?_ ?_ ?_; rotate_left 2; (· ((conv => lhs; whnf); try exact rfl)); (· rfl); (· intro w' hO'; refine run_opLoadS (b := ?_) (cs := ?_) (e := ?_) (f := ?_) hO' ?_ ?_ ?_ ?_; rotate_left 4; (· exact rfl); (· exact inferInstance); (· simp; done); (· simp; done)); simp only [Act.put, List.setIfInBounds_toArray, List.set_cons_zero, List.set_cons_succ])
  first | (refine sch_look (o := ?_) (v := ?_) ?_ ?_ ?_ ?_; rotate_left 2; (· ((conv => lhs; whnf); try exact rfl)); (· rfl); (· intro w' hO'; obtain ⟨hc0, hc1, hc2, hc3⟩ := hc w' hO'; simp [Addr.add] at hc1 hc2 hc3; go_simp; (try exact rfl)); simp only [Act.put, List.setIfInBounds_toArray, List.set_cons_zero, List.set_cons_succ]) | (refine sch_pass (o := ?_) ?_ ?_ ?_; rotate_left; (· ((conv => lhs; whnf); try exact rfl)); (· rfl); simp only [Act.put, List.setIfInBounds_toArray, List.set_cons_zero, List.set_cons_succ]) | (refine sch_look (o := ?_) (v := .agg ?_) ?_ ?_ ?_ ?_; rotate_left 2; (· ((conv => lhs; whnf); try exact rfl)); (· rfl); (· intro w' hO'; refine run_opLoadS (b := ?_) (cs := ?_) (e := ?_) (f := ?_) hO' ?_ ?_ ?_ ?_; rotate_left 4; (· exact rfl); (· exact inferInstance); (· simp; done); (· simp; done)); simp only [Act.put, List.setIfInBounds_toArray, List.set_cons_zero, List.set_cons_succ])
  first | (refine sch_look (o := ?_) (v := ?_) ?_ ?_ ?_ ?_; rotate_left 2; (· ((conv => lhs; whnf); try exact rfl)); (· rfl); (· intro w' hO'; obtain ⟨hc0, hc1, hc2, hc3⟩ := hc w' hO'; simp [Addr.add] at hc1 hc2 hc3; go_simp; (try exact rfl)); simp only [Act.put, List.setIfInBounds_toArray, List.set_cons_zero, List.set_cons_succ]) | (refine sch_pass (o := ?_) ?_ ?_ ?_; rotate_left; (· ((conv => lhs; whnf); try exact rfl)); (· rfl); simp only [Act.put, List.setIfInBounds_toArray, List.set_cons_zero, List.set_cons_succ]) | (refine sch_look (o := ?_) (v := .agg ?_) ?_ ?_ ?_ ?_; rotate_left 2; (· ((conv => lhs; whnf); try exact rfl)); (· rfl); (· intro w' hO'; refine run_opLoadS (b := ?_) (cs := ?_) (e := ?_) (f := ?_) hO' ?_ ?_ ?_ ?_; rotate_left 4; (· exact rfl); (· exact inferInstance); (· simp; done); (· simp; done)); simp only [Act.put, List.setIfInBounds_toArray, List.set_cons_zero, List.set_cons_succ])
  first | (refine sch_look (o := ?_) (v := ?_) ?_ ?_ ?_ ?_; rotate_left 2; (· ((conv => lhs; whnf); try exact rfl)); (· rfl); (· intro w' hO'; obtain ⟨hc0, hc1, hc2, hc3⟩ := hc w' hO'; simp [Addr.add] at hc1 hc2 hc3; go_simp; (try exact rfl)); simp only [Act.put, List.setIfInBounds_toArray, List.set_cons_zero, List.set_cons_succ]) | (refine sch_pass (o := ?_) ?_ ?_ ?_; rotate_left; (· ((conv => lhs; whnf); try exact rfl)); (· rfl); simp only [Act.put, List.setIfInBounds_toArray, List.set_cons_zero, List.set_cons_succ]) | (refine sch_look (o := ?_) (v := .agg ?_) ?_ ?_ ?_ ?_; rotate_left 2; (· ((conv => lhs; whnf); try exact rfl)); (· rfl); (· intro w' hO'; refine run_opLoadS (b := ?_) (cs := ?_) (e := ?_) (f := ?_) hO' ?_ ?_ ?_ ?_; rotate_left 4; (· exact rfl); (· exact inferInstance); (· simp; done); (· simp; done)); simp only [Act.put, List.setIfInBounds_toArray, List.set_cons_zero, List.set_cons_succ])
  first | (refine sch_look (o := ?_) (v := ?_) ?_ ?_ ?_ ?_; rotate_left 2; (· ((conv => lhs; whnf); try exact rfl)); (· rfl); (· intro w' hO'; obtain ⟨hc0, hc1, hc2, hc3⟩ := hc w' hO'; simp [Addr.add] at hc1 hc2 hc3; go_simp; (try exact rfl)); simp only [Act.put, List.setIfInBounds_toArray, List.set_cons_zero, List.set_cons_succ]) | (refine sch_pass (o := ?_) ?_ ?_ ?_; rotate_left; (· ((conv => lhs; whnf); try exact rfl)); (· rfl); simp only [Act.put, List.setIfInBounds_toArray, List.set_cons_zero, List.set_cons_succ]) | (refine sch_look (o := ?_) (v := .agg ?_) ?_ ?_ ?_ ?_; rotate_left 2; (· ((conv => lhs; whnf); try exact rfl)); (· rfl); (· intro w' hO'; refine run_opLoadS (b := ?_) (cs := ?_) (e := ?_) (f := ?_) hO' ?_ ?_ ?_ ?_; rotate_left 4; (· exact rfl); (· exact inferInstance); (· simp; done); (· simp; done)); simp only [Act.put, List.setIfInBounds_toArray, List.set_cons_zero, List.set_cons_succ])
  first | (refine sch_look (o := ?_) (v := ?_) ?_ ?_ ?_ ?_; rotate_left 2; (· ((conv => lhs; whnf); try exact rfl)); (· rfl); (· intro w' hO'; obtain ⟨hc0, hc1, hc2, hc3⟩ := hc w' hO'; simp [Addr.add] at hc1 hc2 hc3; go_simp; (try exact rfl)); simp only [Act.put, List.setIfInBounds_toArray, List.set_cons_zero, List.set_cons_succ]) | (refine sch_pass (o := ?_) ?_ ?_ ?_; rotate_left; (· ((conv => lhs; whnf); try exact rfl)); (· rfl); simp only [Act.put, List.setIfInBounds_toArray, List.set_cons_zero, List.set_cons_succ]) | (refine sch_look (o := ?_) (v := .agg ?_) ?_ ?_ ?_ ?_; rotate_left 2; (· ((conv => lhs; whnf); try exact rfl)); (· rfl); (· intro w' hO'; refine run_opLoadS (b := ?_) (cs := ?_) (e := ?_) (f := ?_) hO' ?_ ?_ ?_ ?_; rotate_left 4; (· exact rfl); (· exact inferInstance); (· simp; done); (· simp; done)); simp only [Act.put, List.setIfInBounds_toArray, List.set_cons_zero, List.set_cons_succ])
  first | (refine sch_look (o := ?_) (v := ?_) ?_ ?_ ?_ ?_; rotate_left 2; (· ((conv => lhs; whnf); try exact rfl)); (· rfl); (· intro w' hO'; obtain ⟨hc0, hc1, hc2, hc3⟩ := hc w' hO'; simp [Addr.add] at hc1 hc2 hc3; go_simp; (try exact rfl)); simp only [Act.put, List.setIfInBounds_toArray, List.set_cons_zero, List.set_cons_succ]) | (refine sch_pass (o := ?_) ?_ ?_ ?_; rotate_left; (· ((conv => lhs; whnf); try exact rfl)); (· rfl); simp only [Act.put, List.setIfInBounds_toArray, List.set_cons_zero, List.set_cons_succ]) | (refine sch_look (o := ?_) (v := .agg ?_) ?_ ?_ ?_ ?_; rotate_left 2; (· ((conv => lhs; whnf); try exact rfl)); (· rfl); (· intro w' hO'; refine run_opLoadS (b := ?_) (cs := ?_) (e := ?_) (f := ?_) hO' ?_ ?_ ?_ ?_; rotate_left 4; (· exact rfl); (· exact inferInstance); (· simp; done); (· simp; done)); simp only [Act.put, List.setIfInBounds_toArray, List.set_cons_zero, List.set_cons_succ])
  first | (refine sch_look (o := ?_) (v := ?_) ?_ ?_ ?_ ?_; rotate_left 2; (· ((conv => lhs; whnf); try exact rfl)); (· rfl); (· intro w' hO'; obtain ⟨hc0, hc1, hc2, hc3⟩ := hc w' hO'; simp [Addr.add] at hc1 hc2 hc3; go_simp; (try exact rfl)); simp only [Act.put, List.setIfInBounds_toArray, List.set_cons_zero, List.set_cons_succ]) | (refine sch_pass (o := ?_) ?_ ?_ ?_; rotate_left; (· ((conv => lhs; whnf); try exact rfl)); (· rfl); simp only [Act.put, List.setIfInBounds_toArray, List.set_cons_zero, List.set_cons_succ]) | (refine sch_look (o := ?_) (v := .agg ?_) ?_ ?_ ?_ ?_; rotate_left 2; (· ((conv => lhs; whnf); try exact rfl)); (· rfl); (· intro w' hO'; refine run_opLoadS (b := ?_) (cs := ?_) (e := ?_) (f := ?_) hO' ?_ ?_ ?_ ?_; rotate_left 4; (· exact rfl); (· exact inferInstance); (· simp; done); (· simp; done)); simp only [Act.put, List.setIfInBounds_toArray, List.set_cons_zero, List.set_cons_succ])
  first | (refine sch_look (o := ?_) (v := ?_) ?_ ?_ ?_ ?_; rotate_left 2; (· ((conv => lhs; whnf); try exact rfl)); (· rfl); (· intro w' hO'; obtain ⟨hc0, hc1, hc2, hc3⟩ := hc w' hO'; simp [Addr.add] at hc1 hc2 hc3; go_simp; (try exact rfl)); simp only [Act.put, List.setIfInBounds_toArray, List.set_cons_zero, List.set_cons_succ]) | (refine sch_pass (o := ?_) ?_ ?_ ?_; rotate_left; (· ((conv => lhs; whnf); try exact rfl)); (· rfl); simp only [Act.put, List.setIfInBounds_toArray, List.set_cons_zero, List.set_cons_succ]) | (refine sch_look (o := ?_) (v := .agg ?_) ?_ ?_ ?_ ?_; rotate_left 2; (· ((conv => lhs; whnf); try exact rfl)); (· rfl); (· intro w' hO'; refine run_opLoadS (b := ?_) (cs := ?_) (e := ?_) (f := ?_) hO' ?_ ?_ ?_ ?_; rotate_left 4; (· exact rfl); (· exact inferInstance); (· simp; done); (· simp; done)); simp only [Act.put, List.setIfInBounds_toArray, List.set_cons_zero, List.set_cons_succ])
  first | (refine sch_look (o := ?_) (v := ?_) ?_ ?_ ?_ ?_; rotate_left 2; (· ((conv => lhs; whnf); try exact rfl)); (· rfl); (· intro w' hO'; obtain ⟨hc0, hc1, hc2, hc3⟩ := hc w' hO'; simp [Addr.add] at hc1 hc2 hc3; go_simp; (try exact rfl)); simp only [Act.put, List.setIfInBounds_toArray, List.set_cons_zero, List.set_cons_succ]) | (refine sch_pass (o := ?_) ?_ ?_ ?_; rotate_left; (· ((conv => lhs; whnf); try exact rfl)); (· rfl); simp only [Act.put, List.setIfInBounds_toArray, List.set_cons_zero, List.set_cons_succ]) | (refine sch_look (o := ?_) (v := .agg ?_) ?_ ?_ ?_ ?_; rotate_left 2; (· ((conv => lhs; whnf); try exact rfl)); (· rfl); (· intro w' hO'; refine run_opLoadS (b := ?_) (cs := ?_) (e := ?_) (f := ?_) hO' ?_ ?_ ?_ ?_; rotate_left 4; (· exact rfl); (· exact inferInstance); (· simp; done); (· simp; done)); simp only [Act.put, List.setIfInBounds_toArray, List.set_cons_zero, List.set_cons_succ])
  first | (refine sch_look (o := ?_) (v := ?_) ?_ ?_ ?_ ?_; rotate_left 2; (· ((conv => lhs; whnf); try exact rfl)); (· rfl); (· intro w' hO'; obtain ⟨hc0, hc1, hc2, hc3⟩ := hc w' hO'; simp [Addr.add] at hc1 hc2 hc3; go_simp; (try exact rfl)); simp only [Act.put, List.setIfInBounds_toArray, List.set_cons_zero, List.set_cons_succ]) | (refine sch_pass (o := ?_) ?_ ?_ ?_; rotate_left; (· ((conv => lhs; whnf); try exact rfl)); (· rfl); simp only [Act.put, List.setIfInBounds_toArray, List.set_cons_zero, List.set_cons_succ]) | (refine sch_look (o := ?_) (v := .agg ?_) ?_ ?_ ?_ ?_; rotate_left 2; (· ((conv => lhs; whnf); try exact rfl)); (· rfl); (· intro w' hO'; refine run_opLoadS (b := ?_) (cs := ?_) (e := ?_) (f := ?_) hO' ?_ ?_ ?_ ?_; rotate_left 4; (· exact rfl); (· exact inferInstance); (· simp; done); (· simp; done)); simp only [Act.put, List.setIfInBounds_toArray, List.set_cons_zero, List.set_cons_succ])
  first | (refine sch_look (o := ?_) (v := ?_) ?_ ?_ ?_ ?_; rotate_left 2; (· ((conv => lhs; whnf); try exact rfl)); (· rfl); (· intro w' hO'; obtain ⟨hc0, hc1, hc2, hc3⟩ := hc w' hO'; simp [Addr.add] at hc1 hc2 hc3; go_simp; (try exact rfl)); simp only [Act.put, List.setIfInBounds_toArray, List.set_cons_zero, List.set_cons_succ]) | (refine sch_pass (o := ?_) ?_ ?_ ?_; rotate_left; (· ((conv => lhs; whnf); try exact rfl)); (· rfl); simp only [Act.put, List.setIfInBounds_toArray, List.set_cons_zero, List.set_cons_succ]) | (refine sch_look (o := ?_) (v := .agg ?_) ?_ ?_ ?_ ?_; rotate_left 2; (· ((conv => lhs; whnf); try exact rfl)); (· rfl); (· intro w' hO'; refine run_opLoadS (b := ?_) (cs := ?_) (e := ?_) (f := ?_) hO' ?_ ?_ ?_ ?_; rotate_left 4; (· exact rfl); (· exact inferInstance); (· simp; done); (· simp; done)); simp only [Act.put, List.setIfInBounds_toArray, List.set_cons_zero, List.set_cons_succ])
  refine sch_done ?_
  go_wp2_with fail
  go_ret
  refine ⟨?_, hO.as _⟩
  exact congrArg (fun z => Ending.returned (Value.int .i64 z)) (num_or b0 b1 b2 b3)

theorem sNumber4 (E w : World) (X R I : Fr) (sa : Option Addr) (m cap n : Nat) (r : List UInt8) (hn : n < 4294967296) (hm : m = 4 + r.length) (hB : BytesIn E I sa (hd4 n ++ r)) (hO : Own E w X) [hp : Pick X I R] :
    Calls Tryz.prog 61 #[.slice sa m cap] w fun e w' => e = .returned (.int .i64 n) ∧ Own E w' (I ++ R) := by
  refine (sNumber E w X R I sa m cap _ _ _ _ r (by rw [hm]; simp; omega) hB hO).mono ?_
  rintro e w' ⟨rfl, hO⟩
  refine ⟨?_, hO⟩
  have := val4_hd4 n hn r
  exact congrArg (fun z : Nat => Ending.returned (Value.int .i64 (z : Int))) this
theorem dgV (n : Nat) (hn : n < 4294967296) : (#[.int .u8 ((n : Int) / 16777216), .int .u8 ((n : Int) / 65536 % 256), .int .u8 ((n : Int) / 256 % 256), .int .u8 ((n : Int) % 256)] : Array Value) = (bytesV (hd4 n)).toArray := by
  have e1 : (n : Int) / 16777216 = ((n / 16777216 % 256 : Nat) : Int) := by omega
  have e2 : (n : Int) / 65536 % 256 = ((n / 65536 % 256 : Nat) : Int) := by omega
  have e3 : (n : Int) / 256 % 256 = ((n / 256 % 256 : Nat) : Int) := by omega
  have e4 : (n : Int) % 256 = ((n % 256 : Nat) : Int) := by omega
  rw [e1, e2, e3, e4]
  rfl
set_option maxRecDepth 100000 in
set_option maxHeartbeats 16000000 in
theorem sDigits (E w : World) (X : Fr) (n : Nat) (hn : n < 4294967296) (hO : Own E w X) :
    Calls Tryz.prog 52 #[.int .i64 n] w fun e w' => e = .returned (.string (hdB n)) ∧ Own E w' X := by
  go_enter Tryz.func52, Tryz.ntmps52
  go_wp2_with (first | (refine at_bs ?_; go_must (refine own_buildN (cells := ?_) sltBytes hO ?_ ?_ ?_ ?_ ?_ ?_; rotate_left; (· rfl); (· decide); (· decide); (· rfl); (· simp [Instr.fill, Act.eval, Value.cells, Array.replicate_succ]; exact rfl); clear hO; (try clear hF); intro s _ hO; ((try simp only [List.nil_append, List.append_nil] at hO); have hF := Own.cells hO; simp only [cellsOf_append, cellsOf_pt] at hF); simp only [Act.put, List.setIfInBounds_toArray, List.set_cons_zero, List.set_cons_succ])) | (refine at_conv ?_; (rw [dgV n hn] at hO; refine own_bytes_str (e := 5) (ad := ?_) (n := ?_) (cap := ?_) (l := hd4 n) (by kernel_rfl) (by kernel_rfl) (by kernel_rfl) ?_ ?_ ?_ ?_ ?_ ?_; rotate_left 3; (· rfl); (· ((conv => lhs; whnf); try exact rfl)); (· rfl); (· intro b hb j v hj; cases hb; rw [add_lit, hO.cell (b := s)]; simpa using hj); (· intro h; cases h); simp only [Act.put, List.setIfInBounds_toArray, List.set_cons_zero, List.set_cons_succ])))
  go_ret
  exact ⟨rfl, hO.as _⟩
end Go.Proofs.YtkfkcloefgfkaaaGreat

/- Space: entries of a record, as plain lists. -/
namespace Go.Dk
open Go.Own Go.RowKit

/-- An entry of a record: a page and its bytes. -/
def recL (es : List (Nat × List UInt8)) : List UInt8 := es.flatMap fun e => hd4 e.1 ++ e.2
def recOf (es : List (Nat × List UInt8)) : ByteArray := ⟨(recL es).toArray⟩
def appE (c : Nat → List UInt8) (es : List (Nat × List UInt8)) : Nat → List UInt8 := es.foldl (fun c e => upd c e.1 e.2) c
def EsOk (es : List (Nat × List UInt8)) : Prop := ∀ e ∈ es, e.1 < 4096 ∧ e.2.length = 512
theorem recL_cons (e : Nat × List UInt8) (es : List (Nat × List UInt8)) : recL (e :: es) = hd4 e.1 ++ (e.2 ++ recL es) := by simp [recL]
theorem recL_len {es : List (Nat × List UInt8)} (h : EsOk es) : (recL es).length = 516 * es.length := by
  induction es with
  | nil => rfl
  | cons e es ih =>
    rw [recL_cons, List.length_append, List.length_append, ih (fun x hx => h x (List.mem_cons_of_mem _ hx)), (h e (by simp)).2, List.length_cons]
    have : (hd4 e.1).length = 4 := rfl
    omega
theorem recOf_size {es : List (Nat × List UInt8)} (h : EsOk es) : (recOf es).size = 516 * es.length := by
  rw [← recL_len h]
  simp [recOf, ByteArray.size]
theorem ba_ext {l : List UInt8} (i j : Nat) : (⟨l.toArray⟩ : ByteArray).extract i j = ⟨((l.take j).drop i).toArray⟩ := by
  apply ByteArray.ext
  rw [ByteArray.data_extract]
  simp only [List.extract_toArray, List.extract_eq_take_drop, List.drop_take]
theorem recOf_ex0 (e : Nat × List UInt8) (es : List (Nat × List UInt8)) : (recOf (e :: es)).extract 0 4 = hdB e.1 := by
  rw [recOf, ba_ext, recL_cons]
  rfl
theorem recOf_ex1 {e : Nat × List UInt8} {es : List (Nat × List UInt8)} (h : EsOk (e :: es)) : (recOf (e :: es)).extract 4 516 = ⟨e.2.toArray⟩ := by
  have h2 := (h e (by simp)).2
  have h4 : (hd4 e.1).length = 4 := rfl
  rw [recOf, ba_ext, recL_cons, ← List.append_assoc, List.take_append_of_le_length (by rw [List.length_append]; omega), List.take_of_length_le (by rw [List.length_append]; omega)]
  rfl
theorem recOf_ex2 {e : Nat × List UInt8} {es : List (Nat × List UInt8)} (h : EsOk (e :: es)) (n : Nat) (hn : n = (recOf (e :: es)).size) : (recOf (e :: es)).extract 516 n = recOf es := by
  have h2 := (h e (by simp)).2
  have h4 : (hd4 e.1).length = 4 := rfl
  have h5 := recL_len h
  rw [recOf_size h] at hn
  rw [recOf, ba_ext, List.take_of_length_le (by omega), recL_cons, ← List.append_assoc, List.drop_append_of_le_length (by rw [List.length_append]; omega), List.drop_of_length_le (by rw [List.length_append]; omega)]
  rfl
end Go.Dk

/- Space: apply, bytes. -/
namespace Go.Dk
theorem PInv.zero_clen {most : Nat} {fs : List Frm} {l : List (Int × Value)} {F : List UInt8} {cont : Nat → List UInt8} {pins : Nat → Nat} (h : PInv most fs l F cont pins) (k : Nat) : (cont k).length = 512 := h.clen k
theorem appE_snoc (c : Nat → List UInt8) (es : List (Nat × List UInt8)) (e : Nat × List UInt8) : appE c (es ++ [e]) = upd (appE c es) e.1 e.2 := by simp [appE]
end Go.Dk
namespace Go.Proofs.YtkfkcloefgfkaaaGreat
open Go Go.RowKit Go.Own Go.Dk

theorem putB_full (l s : List UInt8) (h : l.length = 512) (hs : s.length = 512) : putB l 0 s = s := by
  unfold putB
  rw [List.take_zero, List.nil_append, List.drop_of_length_le (by omega), List.append_nil]
def spF (s l p : Nat) (now : Option Addr) (mf : Nat) : Fr := pt s (.cells #[.pointer (some ⟨l, 0, none⟩), .pointer (some ⟨p, 0, none⟩), .pointer now, .map (some mf)] 102 (0, 0))
theorem PoolS.clen {J : Nat → Prop} {F0 : List UInt8} {p d most N : Nat} {cont : Nat → List UInt8} {pins : Nat → Nat} {A : Fr} (h : PoolS J F0 p d most N cont pins A) (k : Nat) : (cont k).length = 512 := by
  obtain ⟨hand, fs, l, rs, P, D, hP, hI, _⟩ := h
  exact hI.clen k
theorem bytesIn_pt {E : World} (b : Nat) (l : List UInt8) (tl : List Value) (e : TypeId) (f : Nat × Nat) : BytesIn E (pt b (.cells (bytesV l ++ tl).toArray e f)) (some ⟨b, 0, none⟩) l := by
  intro w hO i hi
  refine ⟨_, rfl, ?_⟩
  rw [add_lit, hO.cell (b := b)]
  simp [List.getElem?_append_left, bytesV, hi]
  rfl
theorem pinned_not {most : Nat} (hm : 0 < most) {Q : List Nat} (hl : Q.length = most) (h : ∀ k ∈ Q, 0 < (fun _ : Nat => 0) k) : False := by
  match Q, hl with
  | [], hl => simp at hl; omega
  | k :: _, _ => exact absurd (h k (by simp)) (by simp)
theorem pins_back (k : Nat) : upd (upd (fun _ : Nat => 0) k (0 + 1)) k (upd (fun _ : Nat => 0) k (0 + 1) k - 1) = fun _ => 0 := by
  funext i
  unfold upd
  by_cases h : i = k <;> simp [h]
def strN : Value → Nat
  | .string s => s.size
  | _ => 0
set_option maxRecDepth 100000 in
set_option maxHeartbeats 16000000 in
theorem sApply {J : Nat → Prop} {F0 : List UInt8} (E w : World) (X R PA : Fr) (s l p mf : Nat) (now : Option Addr) (d most N : Nat) (cont : Nat → List UInt8) (es : List (Nat × List UInt8)) (hes : EsOk es) (hJ : ∀ e ∈ es, J e.1) (hlen : es.length ≤ 1000000) (hS : PoolS J F0 p d most N cont (fun _ => 0) PA) (hm : 0 < most) (hm2 : most ≤ 1024)
    (hN : N + es.length ≤ 8796093022208) (hO : Own E w X) [hp : Pick X (spF s l p now mf ++ PA) R] :
    Calls Tryz.prog 56 #[.pointer (some ⟨s, 0, none⟩), .string (recOf es)] w fun e w' => e = .returned (.tuple #[]) ∧ ∃ PA', PoolS J F0 p d most (N + es.length) (appE cont es) (fun _ => 0) PA' ∧ Own E w' (spF s l p now mf ++ (PA' ++ R)) := by
  replace hO : Own E w (spF s l p now mf ++ (PA ++ R)) := by have := hO.perm hp.perm; rwa [List.append_assoc] at this
  clear hp
  go_enter Tryz.func56, Tryz.ntmps56
  have hO1 := hO
  clear hO
  go_wp2_with fail
  go_loopw [1] (fun s1 wr => ∃ (k : Nat) (PA : Fr), s1 = .string (recOf (es.drop k)) ∧ k ≤ es.length ∧ PoolS J F0 p d most (N + k) (appE cont (es.take k)) (fun _ => 0) PA ∧ Own E wr (spF s l p now mf ++ (PA ++ R))) (fun s1 _ => strN s1)
  case atStart => exact ⟨0, PA, rfl, Nat.zero_le _, hS, hO1⟩
  case round =>
    clear hO1 hS
    obtain ⟨k, PA, rfl, hk, hS, hO⟩ := hrel
    by_cases hkl : k < es.length
    · have hdk : es.drop k = es[k] :: es.drop (k + 1) := List.drop_eq_getElem_cons hkl
      have htk : es.take (k + 1) = es.take k ++ [es[k]] := List.take_succ_eq_append_getElem hkl
      have hme := hes es[k] (List.getElem_mem _)
      have hje := hJ es[k] (List.getElem_mem _)
      have hok : EsOk (es.drop k) := fun x hx => hes x (List.mem_of_mem_drop hx)
      have hcl := hS.clen
      rw [hdk] at hok ⊢
      generalize es[k] = e at hdk htk hme hje hok ⊢
      have hx0 := recOf_ex0 e (es.drop (k + 1))
      have hx1 := recOf_ex1 hok
      have hx2 := recOf_ex2 hok _ rfl
      have hsz := recOf_size hok
      rw [List.length_cons, List.length_drop] at hsz
      have hsz2 : (recOf (es.drop (k + 1))).size + 516 = (recOf (e :: es.drop (k + 1))).size := by
        rw [recOf_size (fun x hx => hok x (List.mem_cons_of_mem _ hx)), List.length_drop]
        omega
      generalize recOf (e :: es.drop (k + 1)) = r at hx0 hx1 hx2 hsz hsz2
      obtain ⟨pg, bs⟩ := e
      obtain ⟨hpg, hbl⟩ := hme
      have HTK := Lib.hid htk
      have HKL := Lib.hid hkl
      have HSZ := Lib.hid hsz2
      have hr1 : 516 ≤ r.size := by omega
      have hr2 : (516 : Int) ≤ r.size := by omega
      have hr3 : (4 : Int) ≤ r.size := by omega
      have hr4 : 4 ≤ r.size := by omega
      have hrm : (r.size : Int) ≤ 516000000 := by omega
      have hv : val4 (hd4 pg) = pg := by have := val4_hd4 pg (by omega) []; rwa [List.append_nil] at this
      clear hok hsz hsz2 hdk htk hkl
      dsimp only at hx0 hx1 hpg hbl
      unfold spF at hO
      have hF := Own.cells hO; simp only [cellsOf_append, cellsOf_pt] at hF
      go_wp2_with (first | (refine at_conv ?_; go_must (refine own_str_bytes (e := 5) (s := hdB pg) (by kernel_rfl) (by kernel_rfl) (by kernel_rfl) hO (by show 4 ≤ maxLen; decide) ?_ ?_ ?_; (· rfl); (· ((conv => lhs; whnf); try exact rfl)); clear hO; (try clear hF); intro bb cap tl fz _ hcap hcm hO; ((try simp only [List.nil_append, List.append_nil] at hO); have hF := Own.cells hO; simp only [cellsOf_append, cellsOf_pt] at hF); simp only [Act.put, List.setIfInBounds_toArray, List.set_cons_zero, List.set_cons_succ])))
      have hB : BytesIn E (pt bb (.cells (bytesV (hdB pg).data.toList ++ tl).toArray 5 fz)) (some ⟨bb, 0, none⟩) (hd4 pg ++ []) := bytesIn_pt bb (hd4 pg) tl 5 fz
      refine (sNumber4 E _ _ _ _ _ 4 cap pg [] (by omega) rfl hB hO).mono ?_
      clear hO hF
      rintro e w2 ⟨rfl, hO⟩
      have hF := Own.cells hO; simp only [cellsOf_append, cellsOf_pt] at hF
      go_wp2_with fail
      refine (pPin E _ _ _ PA p d most (N + k) (appE cont (es.take k)) (fun _ => 0) pg hS hm hm2 (by have := HKL.out; omega) hpg (by decide) hO).mono ?_
      clear hO hF
      rintro e w3 (⟨rfl, PA, hS, hO⟩ | ⟨_, _, ⟨Q, _, hQl, hQ⟩, _⟩)
      rotate_left
      · exact (pinned_not hm hQl hQ).elim
      have hF := Own.cells hO; simp only [cellsOf_append, cellsOf_pt] at hF
      (try (go_wp2_with fail))
      refine region_sch (fun w' => Own E w' (pt s (.cells #[.pointer (some ⟨l, 0, none⟩), .pointer (some ⟨p, 0, none⟩), .pointer now, .map (some mf)] 102 (0, 0)))) (.look 0 (.look 1 (.look 2 (.look 3 (.look 4 (.look 5 (.look 6 (.act 7 .done)))))))) (by kernel_rfl) (by kernel_rfl) (fun _ _ d _ _ h => by cases d <;> exact h) ?_ ?_
      · exact hO.drew.as _
      replace hO := hO.drew
      generalize World.drew _ = wdr at hO ⊢
      first | (refine sch_look (o := ?_) (v := ?_) ?_ ?_ ?_ ?_; rotate_left 2; (· ((conv => lhs; whnf); try exact rfl)); (· rfl); (· intro w' hO'; (have hF' := Own.cells hO'; simp only [cellsOf_append, cellsOf_pt] at hF'); go_simp; (try exact rfl)); simp only [Act.put, List.setIfInBounds_toArray, List.set_cons_zero, List.set_cons_succ]) | (refine sch_pass (o := ?_) ?_ ?_ ?_; rotate_left; (· ((conv => lhs; whnf); try exact rfl)); (· rfl); simp only [Act.put, List.setIfInBounds_toArray, List.set_cons_zero, List.set_cons_succ]) | (refine sch_look (o := ?_) (v := .agg ?_) ?_ ?_ ?_ ?_; rotate_left 2; (· ((conv => lhs; whnf); try exact rfl)); (· rfl); (· intro w' hO'; refine run_opLoadS (b := ?_) (cs := ?_) (e := ?_) (f := ?_) hO' ?_ ?_ ?_ ?_; rotate_left 4; (· exact rfl); (· exact inferInstance); (· simp; done); (· simp; done)); simp only [Act.put, List.setIfInBounds_toArray, List.set_cons_zero, List.set_cons_succ])
      first | (refine sch_look (o := ?_) (v := ?_) ?_ ?_ ?_ ?_; rotate_left 2; (· ((conv => lhs; whnf); try exact rfl)); (· rfl); (· intro w' hO'; (have hF' := Own.cells hO'; simp only [cellsOf_append, cellsOf_pt] at hF'); go_simp; (try exact rfl)); simp only [Act.put, List.setIfInBounds_toArray, List.set_cons_zero, List.set_cons_succ]) | (refine sch_pass (o := ?_) ?_ ?_ ?_; rotate_left; (· ((conv => lhs; whnf); try exact rfl)); (· rfl); simp only [Act.put, List.setIfInBounds_toArray, List.set_cons_zero, List.set_cons_succ]) | (refine sch_look (o := ?_) (v := .agg ?_) ?_ ?_ ?_ ?_; rotate_left 2; (· ((conv => lhs; whnf); try exact rfl)); (· rfl); (· intro w' hO'; refine run_opLoadS (b := ?_) (cs := ?_) (e := ?_) (f := ?_) hO' ?_ ?_ ?_ ?_; rotate_left 4; (· exact rfl); (· exact inferInstance); (· simp; done); (· simp; done)); simp only [Act.put, List.setIfInBounds_toArray, List.set_cons_zero, List.set_cons_succ])
      first | (refine sch_look (o := ?_) (v := ?_) ?_ ?_ ?_ ?_; rotate_left 2; (· ((conv => lhs; whnf); try exact rfl)); (· rfl); (· intro w' hO'; (have hF' := Own.cells hO'; simp only [cellsOf_append, cellsOf_pt] at hF'); go_simp; (try exact rfl)); simp only [Act.put, List.setIfInBounds_toArray, List.set_cons_zero, List.set_cons_succ]) | (refine sch_pass (o := ?_) ?_ ?_ ?_; rotate_left; (· ((conv => lhs; whnf); try exact rfl)); (· rfl); simp only [Act.put, List.setIfInBounds_toArray, List.set_cons_zero, List.set_cons_succ]) | (refine sch_look (o := ?_) (v := .agg ?_) ?_ ?_ ?_ ?_; rotate_left 2; (· ((conv => lhs; whnf); try exact rfl)); (· rfl); (· intro w' hO'; refine run_opLoadS (b := ?_) (cs := ?_) (e := ?_) (f := ?_) hO' ?_ ?_ ?_ ?_; rotate_left 4; (· exact rfl); (· exact inferInstance); (· simp; done); (· simp; done)); simp only [Act.put, List.setIfInBounds_toArray, List.set_cons_zero, List.set_cons_succ])
      first | (refine sch_look (o := ?_) (v := ?_) ?_ ?_ ?_ ?_; rotate_left 2; (· ((conv => lhs; whnf); try exact rfl)); (· rfl); (· intro w' hO'; (have hF' := Own.cells hO'; simp only [cellsOf_append, cellsOf_pt] at hF'); go_simp; (try exact rfl)); simp only [Act.put, List.setIfInBounds_toArray, List.set_cons_zero, List.set_cons_succ]) | (refine sch_pass (o := ?_) ?_ ?_ ?_; rotate_left; (· ((conv => lhs; whnf); try exact rfl)); (· rfl); simp only [Act.put, List.setIfInBounds_toArray, List.set_cons_zero, List.set_cons_succ]) | (refine sch_look (o := ?_) (v := .agg ?_) ?_ ?_ ?_ ?_; rotate_left 2; (· ((conv => lhs; whnf); try exact rfl)); (· rfl); (· intro w' hO'; refine run_opLoadS (b := ?_) (cs := ?_) (e := ?_) (f := ?_) hO' ?_ ?_ ?_ ?_; rotate_left 4; (· exact rfl); (· exact inferInstance); (· simp; done); (· simp; done)); simp only [Act.put, List.setIfInBounds_toArray, List.set_cons_zero, List.set_cons_succ])
      first | (refine sch_look (o := ?_) (v := ?_) ?_ ?_ ?_ ?_; rotate_left 2; (· ((conv => lhs; whnf); try exact rfl)); (· rfl); (· intro w' hO'; (have hF' := Own.cells hO'; simp only [cellsOf_append, cellsOf_pt] at hF'); go_simp; (try exact rfl)); simp only [Act.put, List.setIfInBounds_toArray, List.set_cons_zero, List.set_cons_succ]) | (refine sch_pass (o := ?_) ?_ ?_ ?_; rotate_left; (· ((conv => lhs; whnf); try exact rfl)); (· rfl); simp only [Act.put, List.setIfInBounds_toArray, List.set_cons_zero, List.set_cons_succ]) | (refine sch_look (o := ?_) (v := .agg ?_) ?_ ?_ ?_ ?_; rotate_left 2; (· ((conv => lhs; whnf); try exact rfl)); (· rfl); (· intro w' hO'; refine run_opLoadS (b := ?_) (cs := ?_) (e := ?_) (f := ?_) hO' ?_ ?_ ?_ ?_; rotate_left 4; (· exact rfl); (· exact inferInstance); (· simp; done); (· simp; done)); simp only [Act.put, List.setIfInBounds_toArray, List.set_cons_zero, List.set_cons_succ])
      first | (refine sch_look (o := ?_) (v := ?_) ?_ ?_ ?_ ?_; rotate_left 2; (· ((conv => lhs; whnf); try exact rfl)); (· rfl); (· intro w' hO'; (have hF' := Own.cells hO'; simp only [cellsOf_append, cellsOf_pt] at hF'); go_simp; (try exact rfl)); simp only [Act.put, List.setIfInBounds_toArray, List.set_cons_zero, List.set_cons_succ]) | (refine sch_pass (o := ?_) ?_ ?_ ?_; rotate_left; (· ((conv => lhs; whnf); try exact rfl)); (· rfl); simp only [Act.put, List.setIfInBounds_toArray, List.set_cons_zero, List.set_cons_succ]) | (refine sch_look (o := ?_) (v := .agg ?_) ?_ ?_ ?_ ?_; rotate_left 2; (· ((conv => lhs; whnf); try exact rfl)); (· rfl); (· intro w' hO'; refine run_opLoadS (b := ?_) (cs := ?_) (e := ?_) (f := ?_) hO' ?_ ?_ ?_ ?_; rotate_left 4; (· exact rfl); (· exact inferInstance); (· simp; done); (· simp; done)); simp only [Act.put, List.setIfInBounds_toArray, List.set_cons_zero, List.set_cons_succ])
      first | (refine sch_look (o := ?_) (v := ?_) ?_ ?_ ?_ ?_; rotate_left 2; (· ((conv => lhs; whnf); try exact rfl)); (· rfl); (· intro w' hO'; (have hF' := Own.cells hO'; simp only [cellsOf_append, cellsOf_pt] at hF'); go_simp; (try exact rfl)); simp only [Act.put, List.setIfInBounds_toArray, List.set_cons_zero, List.set_cons_succ]) | (refine sch_pass (o := ?_) ?_ ?_ ?_; rotate_left; (· ((conv => lhs; whnf); try exact rfl)); (· rfl); simp only [Act.put, List.setIfInBounds_toArray, List.set_cons_zero, List.set_cons_succ]) | (refine sch_look (o := ?_) (v := .agg ?_) ?_ ?_ ?_ ?_; rotate_left 2; (· ((conv => lhs; whnf); try exact rfl)); (· rfl); (· intro w' hO'; refine run_opLoadS (b := ?_) (cs := ?_) (e := ?_) (f := ?_) hO' ?_ ?_ ?_ ?_; rotate_left 4; (· exact rfl); (· exact inferInstance); (· simp; done); (· simp; done)); simp only [Act.put, List.setIfInBounds_toArray, List.set_cons_zero, List.set_cons_succ])
      (refine sch_act (o := ?_) ?_ ?_; rotate_left; (· ((conv => lhs; whnf); try exact rfl)))
      go_wp2_with fail
      refine (pWrite_ok E _ _ _ PA p d most (N + k) (appE cont (es.take k)) _ pg 0 ⟨bs.toArray⟩ hS hm (by simp [upd]) hje (by simp [ByteArray.size]; omega) hO).mono ?_
      clear hO
      (try clear hF)
      rintro e w4 ⟨rfl, PA, hS, hO⟩
      go_wp2_with fail
      refine ⟨hO.as _, ?_⟩
      refine sch_done ?_
      have hF := Own.cells hO; simp only [cellsOf_append, cellsOf_pt] at hF
      go_wp2_with fail
      refine (pUnpin_yes E _ _ _ PA p d most _ _ _ pg hS hm (by simp [upd]) (by simp [upd]) hO).mono ?_
      clear hO hF
      rintro e w5 ⟨rfl, PA, hS, hO⟩
      rw [pins_back] at hS
      go_wp2_with fail
      go_roundw
      case rel =>
        refine ⟨k + 1, PA, rfl, HKL.out, ?_, by unfold spF; exact hO.as _⟩
        rw [HTK.out, appE_snoc]
        have hb : putB (appE cont (es.take k) pg) 0 bs = bs := putB_full _ _ (hcl pg) hbl
        rw [hb] at hS
        exact hS
      case measure => have := HSZ.out; simp [strN]; omega
    · have hke : k = es.length := by omega
      subst hke
      rw [List.drop_of_length_le (Nat.le_refl _)]
      rw [List.take_of_length_le (Nat.le_refl _)] at hS
      have hr1 : ¬ (516 : Int) ≤ (recOf []).size := by decide
      go_wp2_with fail
      go_end0
      exact ⟨rfl, PA, hS, hO.as _⟩
end Go.Proofs.YtkfkcloefgfkaaaGreat

/- Rows of bytes that a conversion made (the model marks a place behind their end). -/
namespace Go.Own
open Go Go.RowKit
section
variable {P : Program} {ops : Array Oper} {Q : Exit → Act → World → Prop} {rest : List Oper} {a : Act} {E w : World} {X : Fr} {d : Option Tmp} {ty : TypeId} {pos : String} {aft : Array Edge} {g : Option (Nat × Bool)}
/-- No place of a row is frozen. -/
def Free (f : Nat × Nat) (n : Nat) : Prop := f.2 ≤ f.1 ∨ n ≤ f.1
theorem Free.not {f : Nat × Nat} {n i : Nat} (h : Free f n) (hi : i < n) : (decide (f.1 ≤ i) && decide (i < f.2)) = false := by
  rcases h with h | h
  · simp only [Bool.and_eq_false_iff, decide_eq_false_iff_not]; omega
  · simp only [Bool.and_eq_false_iff, decide_eq_false_iff_not]; omega
theorem free0 (n : Nat) : Free (0, 0) n := .inl (Nat.le_refl _)
/-- A slice of bytes that owns its row. -/
def PgB (e : TypeId) (b : Nat) (l : List UInt8) (cap : Nat) (A : Fr) : Prop :=
  l.length ≤ cap ∧ cap ≤ maxLen ∧ ∃ tl f, (bytesV l ++ tl).length = cap ∧ Free f cap ∧ A = pt b (.cells (bytesV l ++ tl).toArray e f)
theorem own_str_bytes2 {src dst e : TypeId} {x : Operand} {s : ByteArray}
    (hs : P.underlying src = some .string) (hd : P.underlying dst = some (.slice e)) (he : P.underlying e = some (.int .u8)) (hO : Own E w X) (hm : s.size ≤ maxLen)
    (hw : Region.wanted ⟨d, .convert src dst x, ty, pos, aft, g⟩ (yielded ops a.tmps) = true) (hx : a.eval x = .string s)
    (next : ∀ b cap A w1, PgB e b s.data.toList cap A → Own E w1 (A ++ X) → wpList P ops Q rest (a.put d (.slice (some ⟨b, 0, none⟩) s.size cap)) w1) :
    wpList P ops Q (⟨d, .convert src dst x, ty, pos, aft, g⟩ :: rest) a w := by
  have hrow : bytesRow s (grownCap w s.size 0 e) = (bytesV s.data.toList ++ List.replicate (grownCap w s.size 0 e - s.size) (Value.int .u8 0)).toArray := by
    rw [bytesRow, bytes_cells]
    simp
  have hsz : s.data.toList.length = s.size := by rw [Array.length_toList]; rfl
  have hge := grownCap_ge w s.size 0 e
  have hlen : (bytesV s.data.toList ++ List.replicate (grownCap w s.size 0 e - s.size) (Value.int .u8 0)).length = grownCap w s.size 0 e := by
    rw [List.length_append, bytesV_length, List.length_replicate, hsz]
    omega
  have hO1 := (hO.drew).alloc (.cells (bytesRow s (grownCap w s.size 0 e)) e ((bytesRow s (grownCap w s.size 0 e)).size, (bytesRow s (grownCap w s.size 0 e)).size + 1))
  refine wpList_run_value hw ?_ (next _ (grownCap w s.size 0 e) _ _ ⟨by rw [hsz]; exact hge, grownCap_le_maxLen w s.size 0 e hm, List.replicate (grownCap w s.size 0 e - s.size) (Value.int .u8 0), ((bytesRow s (grownCap w s.size 0 e)).size, (bytesRow s (grownCap w s.size 0 e)).size + 1), hlen, .inr (by rw [hrow, List.size_toArray, hlen]; exact Nat.le_refl _), rfl⟩ (by rw [← hrow]; exact hO1))
  have := run_bytes_of_string (P := P) w src dst e s hs hd he
  simp only [execOp, hx, this]
  simp [this]
theorem run_storeCells_ownF {b off : Nat} {e : TypeId} {f : Nat × Nat} (vs : List Value) : ∀ (i : Nat) (cs : Array Value) (w : World) (X R : Fr), Own E w X → PickPt X b (.cells cs e f) R →
    (∀ v ∈ vs, v.oneCell' = true) → off + i + vs.length ≤ cs.size → Free f cs.size →
    ∃ w1, (storeCells ⟨b, off, none⟩ vs i).run P w = .ok () w1 ∧ Own E w1 (pt b (.cells (splice cs (off + i) vs) e f) ++ R) := by
  induction vs with
  | nil => intro i cs w X R hO hp _ _ _; exact ⟨w, rfl, hO.pickPt⟩
  | cons v vs ih =>
    intro i cs w X R hO hp h1 hl hz
    have hg : w.heap[b]? = some (.cells cs e f) := (hO.pickPt (b := b)).get
    have hadd : (⟨b, off, none⟩ : Addr).add i = ⟨b, off + i, none⟩ := by unfold Addr.add; split <;> simp_all
    have hlt : off + i < cs.size := by simp at hl; omega
    have hc : w.cell? ⟨b, off + i, none⟩ = some cs[off + i] := by simp [World.cell?, hg, hlt]
    have hf : w.frozen? ⟨b, off + i, none⟩ = false := by
      have := hz.not hlt
      simpa [World.frozen?, hg] using this
    have hO1 := hO.setCell (b := b) (off + i) v
    obtain ⟨w1, hr, hO2⟩ := ih (i + 1) (cs.setIfInBounds (off + i) v) _ _ R hO1 ⟨.refl _⟩ (fun u hu => h1 u (List.mem_cons_of_mem _ hu)) (by simp at hl ⊢; omega) (by simpa using hz)
    refine ⟨w1, ?_, hO2⟩
    have hs := run_store P w ⟨b, off + i, none⟩ v .plain (h1 v (List.mem_cons_self ..))
    simp only [hc, hf, Bool.false_eq_true, if_false] at hs
    simp only [storeCells, hadd, Sem.run_bind, hs, Result.andThen_ok]
    exact hr
/-- copy(b[l:], s) into such a row. -/
theorem own_copyF {t tx e : TypeId} {bytes : Nat} {z : Value} {dx sx : Operand} {R A : Fr} {da : Option Addr} {b cap dn dc l : Nat} {s : ByteArray} {xs : List UInt8} (hT : SlT P t e 1 bytes z) (hO : Own E w X)
    (hw : Region.wanted ⟨d, .call { callee := .builtin .copy, args := #[dx, sx], argTypes := #[t, tx] }, ty, pos, aft, g⟩ (yielded ops a.tmps) = true)
    (hd : a.eval dx = .slice da dn dc) (hs : a.eval sx = .string s) (hv : PgB e b xs cap A) [hp : Pick X A R]
    (hda : 0 < s.size → da = some ⟨b, l, none⟩) (hn : s.size ≤ dn) (hl : l + s.size ≤ xs.length)
    (next : ∀ A' w1, PgB e b (xs.take l ++ s.data.toList ++ xs.drop (l + s.size)) cap A' → Own E w1 (A' ++ R) → wpList P ops Q rest (a.put d (.int .i64 s.size)) w1) :
    wpList P ops Q (⟨d, .call { callee := .builtin .copy, args := #[dx, sx], argTypes := #[t, tx] }, ty, pos, aft, g⟩ :: rest) a w := by
  have hO1 : Own E w (A ++ R) := hO.perm hp.perm
  have hmin : Nat.min s.size dn = s.size := Nat.min_eq_left hn
  have hsz : s.data.toList.length = s.size := by rw [Array.length_toList]; rfl
  have hcells : List.take s.size (List.map (fun b : UInt8 => Value.int .u8 b.toNat) s.data.toList) = bytesV s.data.toList := by
    rw [List.take_of_length_le (by rw [List.length_map, hsz]; omega)]; rfl
  by_cases h0 : s.size = 0
  · have hb : s.data.toList = [] := List.eq_nil_of_length_eq_zero (by rw [hsz, h0])
    have hr : (Builtin.copy_ #[t, tx] ty #[.slice da dn dc, .string s]).run P w = .ok (.int .i64 s.size) w := by
      cases da with
      | none => simp [Builtin.copy_, run_underlying hT.und, Builtin.lenOf, Builtin.firstCells, hT.size, h0, goInt]
      | some b => simp [Builtin.copy_, run_underlying hT.und, Builtin.lenOf, Builtin.firstCells, hT.size, h0, goInt, storeCells]
    refine wpList_run_value hw ?_ (next A w (by rw [hb, h0, Nat.add_zero, List.append_nil, List.take_append_drop]; exact hv) hO1)
    rw [execOp_copy, hd, hs]
    simp [hr]
  · have hda' := hda (by omega)
    subst hda'
    obtain ⟨hxc, hcm, tl, f, hlen, hfr, rfl⟩ := hv
    have hll : (bytesV s.data.toList).length = s.size := by rw [bytesV_length, hsz]
    have hxl : (bytesV xs).length = xs.length := bytesV_length _
    obtain ⟨w1, hst, hO2⟩ := run_storeCells_ownF (P := P) (b := b) (off := l) (e := e) (f := f) (bytesV s.data.toList) 0 (bytesV xs ++ tl).toArray w _ R hO1 inferInstance (bytesV_one _) (by
      simp only [List.size_toArray, List.length_append, hll, hxl]; omega) (by rw [List.size_toArray, hlen]; exact hfr)
    have hsp : splice (bytesV xs ++ tl).toArray (l + 0) (bytesV s.data.toList) = (bytesV (xs.take l ++ s.data.toList ++ xs.drop (l + s.size)) ++ tl).toArray := by
      have hpre : ((bytesV xs).take l).length = l := by rw [List.length_take]; omega
      have := splice_append (bytesV s.data.toList) ((bytesV xs).take l) ((bytesV xs).drop l ++ tl) (by simp only [List.length_append, List.length_drop, hll, hxl]; omega)
      rw [← List.append_assoc, List.take_append_drop, hpre] at this
      rw [Nat.add_zero, this, hll, List.drop_append_of_le_length (by rw [List.length_drop]; omega), List.drop_drop]
      simp [bytesV_append, bytesV, List.map_take, List.map_drop, List.append_assoc]
    rw [hsp] at hO2
    have hr : (Builtin.copy_ #[t, tx] ty #[.slice (some ⟨b, l, none⟩) dn dc, .string s]).run P w = .ok (.int .i64 s.size) w1 := by
      simp only [Builtin.copy_]
      have hm : min s.size dn = s.size := hmin
      simp [run_underlying hT.und, Builtin.lenOf, Builtin.firstCells, hT.size, hm, goInt]
      rw [hcells, hst]; simp
    refine wpList_run_value hw ?_ (next _ w1 ⟨?_, hcm, tl, f, ?_, hfr, rfl⟩ hO2)
    · rw [execOp_copy, hd, hs]
      simp [hr]
    · simp only [List.length_append, List.length_take, List.length_drop, hsz]; omega
    · rw [← hlen]
      simp only [List.length_append, bytesV_length, List.length_take, List.length_drop, hsz]; omega
end
end Go.Own

/- Space: bytes, given. -/
namespace Go.Proofs.YtkfkcloefgfkaaaGreat
open Go Go.RowKit Go.Own Go.Dk

def BytesP (E : World) (J : Nat → Prop) (F0 : List UInt8) (s l p : Nat) (now : Option Addr) (mf d most N : Nat) (cont : Nat → List UInt8) (k : Nat) (R : Fr) (e : Ending) (w' : World) : Prop :=
  ∃ b cap B PA', e = .returned (.slice (some ⟨b, 0, none⟩) 512 cap) ∧ PgB 5 b (cont k) cap B ∧ PoolS J F0 p d most N cont (fun _ => 0) PA' ∧ Own E w' (B ++ (spF s l p now mf ++ (PA' ++ R)))
set_option maxRecDepth 100000 in
set_option maxHeartbeats 16000000 in
theorem sBytes {J : Nat → Prop} {F0 : List UInt8} (E w : World) (X R PA : Fr) (s l p mf : Nat) (now : Option Addr) (d most N : Nat) (cont : Nat → List UInt8) (k : Nat) (hk : k < 4096) (hS : PoolS J F0 p d most N cont (fun _ => 0) PA) (hm : 0 < most) (hm2 : most ≤ 1024)
    (hN : N ≤ 8796093022208) (hO : Own E w X) [hp : Pick X (spF s l p now mf ++ PA) R] :
    Calls Tryz.prog 60 #[.pointer (some ⟨s, 0, none⟩), .int .i64 k] w (BytesP E J F0 s l p now mf d most N cont k R) := by
  replace hO : Own E w (spF s l p now mf ++ (PA ++ R)) := by have := hO.perm hp.perm; rwa [List.append_assoc] at this
  clear hp
  have hcl := hS.clen k
  unfold spF at hO
  have hF := Own.cells hO; simp only [cellsOf_append, cellsOf_pt] at hF
  go_enter Tryz.func60, Tryz.ntmps60
  go_wp2_with fail
  refine (pPin E _ _ _ PA p d most N cont (fun _ => 0) k hS hm hm2 hN hk (by decide) hO).mono ?_
  clear hO hF
  rintro e w3 (⟨rfl, PA, hS, hO⟩ | ⟨_, _, ⟨Q, _, hQl, hQ⟩, _⟩)
  rotate_left
  · exact (pinned_not hm hQl hQ).elim
  have hF := Own.cells hO; simp only [cellsOf_append, cellsOf_pt] at hF
  go_wp2_with fail
  refine (pRead_yes E _ _ _ PA p d most N cont _ k hS hm (by simp [upd]) hO).mono ?_
  rintro e w4 ⟨rfl, rfl⟩
  go_wp2_with fail
  refine (pUnpin_yes E _ _ _ PA p d most _ _ _ k hS hm (by simp [upd]) (by simp [upd]) hO).mono ?_
  clear hO hF
  rintro e w5 ⟨rfl, PA, hS, hO⟩
  rw [pins_back] at hS
  have hsz : (⟨(cont k).toArray⟩ : ByteArray).size = 512 := by simp [ByteArray.size, hcl]
  have hdt : (⟨(cont k).toArray⟩ : ByteArray).data.toList = cont k := by simp
  generalize (⟨(cont k).toArray⟩ : ByteArray) = t at hsz hdt
  go_wp2_with (first | (refine at_conv ?_; go_must (refine own_str_bytes2 (e := 5) (s := t) (by kernel_rfl) (by kernel_rfl) (by kernel_rfl) hO (by rw [hsz]; decide) ?_ ?_ ?_; (· rfl); (· ((conv => lhs; whnf); try exact rfl)); clear hO; (try clear hF); intro bb cap B _ hB hO; rw [hdt] at hB; rw [hsz]; simp only [Act.put, List.setIfInBounds_toArray, List.set_cons_zero, List.set_cons_succ])))
  go_ret
  exact ⟨bb, cap, B, PA, rfl, hB, hS, by unfold spF; exact hO.as _⟩
set_option maxRecDepth 100000 in
set_option maxHeartbeats 16000000 in
theorem sGiven (E w : World) (X R : Fr) (s l p mf : Nat) (now : Option Addr) (hO : Own E w X) [hp : Pick X (spF s l p now mf) R] :
    Calls Tryz.prog 57 #[.pointer (some ⟨s, 0, none⟩)] w fun e w' => e = .returned (.bool true) ∧ w = w' := by
  replace hO := hO.perm hp.perm
  unfold spF at hO
  ((try simp only [List.nil_append, List.append_nil] at hO); have hF := Own.cells hO; simp only [cellsOf_append, cellsOf_pt] at hF)
  go_enter Tryz.func57, Tryz.ntmps57
  go_wp2
  go_ret
  exact ⟨rfl, rfl⟩
end Go.Proofs.YtkfkcloefgfkaaaGreat

/- Maps keyed by ints: a key that is there gets another value; ranging with what each key holds. -/
namespace Go.Own
open Go Go.RowKit Go.ChangeMaps

/-- The list with k's value changed. -/
def mset (l : List (Int × Value)) (k : Int) (v : Value) : List (Int × Value) := l.map fun p => if p.1 == k then (k, v) else p

theorem findNow_set (k : Int) : ∀ (es : List MapEntry) (l : List (Int × Value)) (i : Nat), es.map (fun e => (e.key, e.val)) = l.map (fun p => (Value.int .i64 p.1, p.2)) → (l.map (·.1)).Nodup → ∀ v, mlook l k = some v →
    ∃ j, j < es.length ∧ Instr.findNow (.int .i64) (.int .i64 k) es i = some (some (i + j, v)) ∧ (es[j]?).map (·.key) = some (.int .i64 k) ∧
      ∀ u, (es.modify j (fun e => { e with key := .int .i64 k, val := u })).map (fun e => (e.key, e.val)) = (mset l k u).map (fun p => (Value.int .i64 p.1, p.2))
  | [], l, i, h, _, v, hv => by
    obtain rfl : l = [] := by simpa using h.symm
    simp [mlook] at hv
  | e :: es, [], i, h, _, _, _ => by simp at h
  | e :: es, p :: l, i, h, hnd, v, hl => by
    simp only [List.map_cons, List.cons.injEq] at h
    obtain ⟨hkv, ht⟩ := h
    obtain ⟨hk, hv⟩ := Prod.mk.inj hkv
    have hkk := hk
    rw [List.map_cons, List.nodup_cons] at hnd
    by_cases hp : p.1 = k
    · have : p.2 = v := by simpa [mlook, hp] using hl
      refine ⟨0, by simp, ?_, by simp [hkk, hp], fun u => ?_⟩
      · simp only [Instr.findNow, hkk, Instr.sameNow, if_true, hp, beq_self_eq_true, Nat.add_zero]
        simp_all
      · rw [List.modify_zero_cons, List.map_cons, ht]
        have hm : mset l k u = l := by
          unfold mset
          conv => rhs; rw [← List.map_id l]
          refine List.map_congr_left fun q hq => ?_
          have : ¬ q.1 = k := fun e => hnd.1 (List.mem_map.2 ⟨q, hq, by rw [e, hp]⟩)
          simp [this]
        have : mset (p :: l) k u = (k, u) :: mset l k u := by simp [mset, hp]
        rw [this, hm]
        rfl
    · have hne : (k == p.1) = false := by simp; exact fun e => hp e.symm
      have hne2 : (p.1 == k) = false := by simpa using hp
      have hl2 : mlook (p :: l) k = mlook l k := by simp [mlook, hne2]
      rw [hl2] at hl
      obtain ⟨j, hj, hf, hkey, he⟩ := findNow_set k es l (i + 1) ht hnd.2 v hl
      refine ⟨j + 1, by simpa using hj, ?_, by simpa using hkey, fun u => ?_⟩
      · simp only [Instr.findNow, hkk, Instr.sameNow, if_true, hne]
        rw [hf]
        congr 3
        omega
      · rw [List.modify_succ_cons, List.map_cons, he u]
        have : mset (p :: l) k u = p :: mset l k u := by simp [mset, hp]
        rw [this, List.map_cons, ← hkv]

section
variable {P : Program} {t kt et : TypeId} {E w : World} {X R A : Fr} {b : Nat} {l : List (Int × Value)}
variable {ops : Array Oper} {Q : Exit → Act → World → Prop} {rest : List Oper} {a : Act} {d : Option Tmp} {ty : TypeId} {pos : String} {aft : Array Edge} {g : Option (Nat × Bool)}

theorem modify_born (f : MapEntry → MapEntry) (hf : ∀ e, (f e).born = e.born) : ∀ (es : List MapEntry) (j : Nat), (es.modify j f).map (·.born) = es.map (·.born)
  | [], j => by simp
  | e :: es, 0 => by rw [List.modify_zero_cons, List.map_cons, List.map_cons, hf]
  | e :: es, j + 1 => by rw [List.modify_succ_cons, List.map_cons, List.map_cons, modify_born f hf es j]
theorem MI.set {es : Array MapEntry} {c : Nat} (h : MI es c l) {k : Int} {j : Nat} (v : Value) (he : (es.toList.modify j (fun e => { e with key := .int .i64 k, val := v })).map (fun e => (e.key, e.val)) = (mset l k v).map (fun p => (Value.int .i64 p.1, p.2))) :
    MI (es.modify j (fun e => { e with key := .int .i64 k, val := v })) c (mset l k v) := by
  have hb := modify_born (fun e => { e with key := .int .i64 k, val := v }) (fun _ => rfl) es.toList j
  have hkeys : (mset l k v).map (·.1) = l.map (·.1) := by
    unfold mset
    rw [List.map_map]
    refine List.map_congr_left fun q _ => ?_
    by_cases hq : q.1 = k <;> simp [hq]
  refine ⟨by rw [Array.toList_modify]; exact he, by rw [hkeys]; exact h.keys, by rw [Array.toList_modify, hb]; exact h.born, fun e he2 => ?_⟩
  rw [Array.toList_modify] at he2
  have h1 : e.born ∈ (es.toList.modify j (fun e => { e with key := .int .i64 k, val := v })).map (·.born) := List.mem_map.2 ⟨e, he2, rfl⟩
  rw [hb] at h1
  obtain ⟨e', h2, h3⟩ := List.mem_map.1 h1
  rw [← h3]
  exact h.old e' h2

theorem run_keyStays (k : Int) (w : World) : (Instr.keyThatStays (.int .i64 k) (.int .i64 k)).run P w = .ok (.int .i64 k) w := by
  simp [Instr.keyThatStays, Instr.sameBits]

theorem own_mapSet (ht : P.underlying t = some (.map kt et)) (hk : P.underlying kt = some (.int .i64)) (hO : Own E w X) (hM : MapAt b l A) [hp : Pick X A R] {m x y : Operand} {k : Int} {v v0 : Value}
    (hw : Region.wanted ⟨d, .mapUpdate t m x y, ty, pos, aft, g⟩ (yielded ops a.tmps) = true) (hm : a.eval m = .map (some b)) (hx : a.eval x = .int .i64 k) (hy : a.eval y = v) (hn : mlook l k = some v0)
    (next : ∀ w1 A1, MapAt b (mset l k v) A1 → Own E w1 (A1 ++ R) → wpList P ops Q rest (a.put d undef) w1) : wpList P ops Q (⟨d, .mapUpdate t m x y, ty, pos, aft, g⟩ :: rest) a w := by
  obtain ⟨es, c, hM, rfl⟩ := hM
  have hO1 := hO.perm hp.perm
  have hg : w.heap[b]? = some (.map es c) := hO1.mem (b, .map es c) (by simp [pt])
  obtain ⟨j, hj, hf, hkey, he⟩ := findNow_set k es.toList l 0 hM.ent hM.keys v0 hn
  rw [Nat.zero_add] at hf
  have hfk : (Instr.findKey kt (.int .i64 k) es.toList).run P w = .ok (some (j, v0)) w := by simp [Instr.findKey, run_underlying hk, Result.andThen, hf]
  have hkey2 : (Option.map (fun e => e.key) es[j]?).getD (Value.int .i64 k) = .int .i64 k := by
    have : es[j]? = es.toList[j]? := by simp
    rw [this, hkey]; rfl
  refine wpList_run_skip (w1 := setBlock w b (.map (es.modify j fun e => { e with key := .int .i64 k, val := v }) c)) hw ?_ (next _ _ ⟨_, _, hM.set v (he v), rfl⟩ ?_)
  · simp [execOp, hm, hx, hy, Instr.mapUpdate, run_underlying ht, Result.andThen, getObj, setObj, Sem.run, hg, run_checkInt hk, hfk, setBlock, hkey2, run_keyStays]
  · have hb : b < w.heap.size := hO1.hasLt (b := b) (o := .map es c)
    refine hO1.modify rfl rfl rfl ?_ ?_
    · simp [setBlock, hb]
    · intro j hj
      simp [setBlock, hj, Ne.symm hj]
end
theorem run_opLookup {P : Program} {t kt et : TypeId} {E w : World} {X R A : Fr} {b : Nat} {l : List (Int × Value)} {a : Act} {d : Option Tmp} {ty : TypeId} {pos : String} {aft : Array Edge} {g : Option (Nat × Bool)}
    (ht : P.underlying t = some (.map kt et)) (hk : P.underlying kt = some (.int .i64)) {z : Value} (hz : ∀ w, (zeroValue et).run P w = .ok z w) (hO : Own E w X) (hM : MapAt b l A) [hp : Pick X A R] {m x : Operand} {k : Int} {v : Value}
    (hm : a.eval m = .map (some b)) (hx : a.eval x = .int .i64 k) (hl : mlook l k = some v) :
    (execOp a.eval ⟨d, .lookup t m x false, ty, pos, aft, g⟩).run P w = .ok (.value v) w := by
  have := run_lookMap ht hk hz hO hM k
  rw [hl] at this
  simp only [Option.getD_some] at this
  simp [execOp, hm, hx, this]
/-- How many keys an iterator told. -/
def seenN (w : World) (r : Nat) : Nat := match w.heap[r]? with | some (.mapIter _ _ xs _) => xs.size | _ => 0
theorem Ranging.seen {E w : World} {X R A : Fr} {r b : Nat} {l : List (Int × Value)} {done : List Int} (h : Ranging r b l done A) (hO : Own E w X) [hp : Pick X A R] : seenN w r = done.length := by
  obtain ⟨es, c, xs, _, _, _, hk, rfl⟩ := h
  have hg : w.heap[r]? = some (.mapIter (some b) c (xs.map (·.born)).toArray c) := (hO.perm hp.perm).mem (r, _) (by simp [pt])
  unfold seenN
  rw [hg]
  have l2 := congrArg List.length hk
  simp only [List.length_map] at l2
  simp [l2]
/-- The number in a cell. -/
def cellN (w : World) (a : Addr) : Nat := match w.cell? a with | some (.int _ n) => n.toNat | _ => 0
end Go.Own

/- Space: an action's own pages. -/
namespace Go.Own
open Go Go.RowKit
section
variable {P : Program} {ops : Array Oper} {Q : Exit → Act → World → Prop} {rest : List Oper} {a : Act} {E w : World} {X R A : Fr} {d : Option Tmp} {ty : TypeId} {pos : String} {aft : Array Edge} {g : Option (Nat × Bool)} {t kt et : TypeId} {b : Nat} {l : List (Int × Value)}
theorem run_lookMapOk (ht : P.underlying t = some (.map kt et)) (hk : P.underlying kt = some (.int .i64)) {z : Value} (hz : ∀ w, (zeroValue et).run P w = .ok z w) (hO : Own E w X) (hM : MapAt b l A) [hp : Pick X A R] (k : Int) :
    (Instr.lookup t (.map (some b)) (.int .i64 k) true).run P w = .ok (.tuple #[(mlook l k).getD z, .bool (mlook l k).isSome]) w := by
  obtain ⟨es, c, hM, rfl⟩ := hM
  have hg : w.heap[b]? = some (.map es c) := (hO.perm hp.perm).mem (b, .map es c) (by simp [pt])
  have hf := run_findKey hk hM k w
  cases hl : mlook l k with
  | none => simp [Instr.lookup, run_underlying ht, Result.andThen, getObj, Sem.run, hg, run_checkInt hk, hf.1 hl, hz w]
  | some v =>
    obtain ⟨j, _, hf, _⟩ := hf.2 v hl
    simp [Instr.lookup, run_underlying ht, Result.andThen, getObj, Sem.run, hg, run_checkInt hk, hf]
theorem own_lookupOk (ht : P.underlying t = some (.map kt et)) (hk : P.underlying kt = some (.int .i64)) {z : Value} (hz : ∀ w, (zeroValue et).run P w = .ok z w) (hO : Own E w X) (hM : MapAt b l A) [hp : Pick X A R] {m x : Operand} {k : Int}
    (hw : Region.wanted ⟨d, .lookup t m x true, ty, pos, aft, g⟩ (yielded ops a.tmps) = true) (hm : a.eval m = .map (some b)) (hx : a.eval x = .int .i64 k)
    (next : wpList P ops Q rest (a.put d (.tuple #[(mlook l k).getD z, .bool (mlook l k).isSome])) w) : wpList P ops Q (⟨d, .lookup t m x true, ty, pos, aft, g⟩ :: rest) a w := by
  refine wpList_run_value hw ?_ next
  have := run_lookMapOk ht hk hz hO hM k
  simp [execOp, hm, hx, this]
end
end Go.Own
namespace Go.Dk
open Go.Own Go.RowKit
/-- A page as an action has it: its block and bytes. -/
structure Ov where
  k : Nat
  b : Nat
  cap : Nat
  l : List UInt8
  F : Fr
def OvOk (o : Ov) : Prop := o.k < 4096 ∧ o.l.length = 512 ∧ PgB 5 o.b o.l o.cap o.F
def ovV (o : Ov) : Value := .slice (some ⟨o.b, 0, none⟩) 512 o.cap
def ovP (o : Ov) : Int × Value := ((o.k : Int), ovV o)
def ovsF (l : List Ov) : Fr := l.flatMap (·.F)
theorem ovsF_nil : ovsF [] = [] := rfl
theorem ovsF_app (a b : List Ov) : ovsF (a ++ b) = ovsF a ++ ovsF b := by simp [ovsF]
theorem ovsF_cons (o : Ov) (b : List Ov) : ovsF (o :: b) = o.F ++ ovsF b := by simp [ovsF]
def oview (cont : Nat → List UInt8) (ovs : List Ov) (k : Nat) : List UInt8 := match ovs.find? (·.k == k) with | some o => o.l | none => cont k
theorem ov_cases (ovs : List Ov) (k : Nat) : (∃ pre o post, ovs = pre ++ o :: post ∧ o.k = k ∧ (∀ q ∈ pre, q.k ≠ k)) ∨ ∀ o ∈ ovs, o.k ≠ k := by
  induction ovs with
  | nil => exact .inr (by simp)
  | cons q l ih =>
    by_cases hq : q.k = k
    · exact .inl ⟨[], q, l, rfl, hq, by simp⟩
    · rcases ih with ⟨pre, o, post, rfl, ho, hp⟩ | h
      · exact .inl ⟨q :: pre, o, post, rfl, ho, by simpa [hq] using hp⟩
      · exact .inr (by simpa [hq] using h)
theorem ov_look_in {pre post : List Ov} {o : Ov} (h : ∀ q ∈ pre, q.k ≠ o.k) : mlook ((pre ++ o :: post).map ovP) (o.k : Int) = some (ovV o) := by
  unfold mlook
  rw [List.map_append, List.find?_append]
  have h1 : (pre.map ovP).find? (fun p => p.1 == (o.k : Int)) = none := by
    rw [List.find?_eq_none]
    intro p hp
    obtain ⟨q, hq, rfl⟩ := List.mem_map.1 hp
    have := h q hq
    simp only [ovP, beq_iff_eq]
    omega
  rw [h1]
  simp [ovP]
theorem ov_look_out {ovs : List Ov} {k : Nat} (h : ∀ q ∈ ovs, q.k ≠ k) : mlook (ovs.map ovP) (k : Int) = none := by
  unfold mlook
  rw [Option.map_eq_none_iff, List.find?_eq_none]
  intro p hp
  obtain ⟨q, hq, rfl⟩ := List.mem_map.1 hp
  have := h q hq
  simp only [ovP, beq_iff_eq]
  omega
theorem oview_in {cont : Nat → List UInt8} {pre post : List Ov} {o : Ov} (h : ∀ q ∈ pre, q.k ≠ o.k) : oview cont (pre ++ o :: post) o.k = o.l := by
  unfold oview
  rw [List.find?_append, List.find?_eq_none.2 (by intro q hq; simpa using h q hq)]
  simp
theorem oview_out {cont : Nat → List UInt8} {ovs : List Ov} {k : Nat} (h : ∀ q ∈ ovs, q.k ≠ k) : oview cont ovs k = cont k := by
  unfold oview
  rw [List.find?_eq_none.2 (by intro q hq; simpa using h q hq)]
end Go.Dk
namespace Go.Proofs.YtkfkcloefgfkaaaGreat
open Go Go.RowKit Go.Own Go.Dk

def actF (a s mp mg : Nat) (over : Bool) : Fr := pt a (.cells #[.pointer (some ⟨s, 0, none⟩), .map (some mp), .map (some mg), .bool over] 95 (0, 0))
set_option maxRecDepth 100000 in
set_option maxHeartbeats 16000000 in
theorem aGoing (E w : World) (X R : Fr) (a s mp mg : Nat) (over : Bool) (hO : Own E w X) [hp : Pick X (actF a s mp mg over) R] :
    Calls Tryz.prog 50 #[.pointer (some ⟨a, 0, none⟩)] w fun e w' => e = .returned (.int .i64 (if over then 5 else 0)) ∧ w = w' := by
  replace hO := hO.perm hp.perm
  unfold actF at hO
  ((try simp only [List.nil_append, List.append_nil] at hO); have hF := Own.cells hO; simp only [cellsOf_append, cellsOf_pt] at hF)
  cases over
  · go_enter Tryz.func50, Tryz.ntmps50
    go_wp2
    go_ret
    exact ⟨rfl, rfl⟩
  · go_enter Tryz.func50, Tryz.ntmps50
    go_wp2
    go_ret
    exact ⟨rfl, rfl⟩
end Go.Proofs.YtkfkcloefgfkaaaGreat

/- Space: page. -/
namespace Go.Proofs.YtkfkcloefgfkaaaGreat
open Go Go.RowKit Go.Own Go.Dk

def gnP (k : Nat) : Int × Value := ((k : Int), .bool true)
/-- A space and its action. -/
def ActC (J : Nat → Prop) (F0 : List UInt8) (s l p mf d most N a mp mg : Nat) (cont : Nat → List UInt8) (ovs : List Ov) (gone : List Nat) (over : Bool) (A : Fr) : Prop :=
  ∃ PA MP MG, PoolS J F0 p d most N cont (fun _ => 0) PA ∧ MapAt mp (ovs.map ovP) MP ∧ MapAt mg (gone.map gnP) MG ∧ (∀ o ∈ ovs, OvOk o) ∧ (ovs.map (·.k)).Nodup ∧
    A = actF a s mp mg over ++ (MP ++ (MG ++ (ovsF ovs ++ (spF s l p (some ⟨a, 0, none⟩) mf ++ PA))))
def PageP (E : World) (J : Nat → Prop) (F0 : List UInt8) (s l p mf d most N a mp mg : Nat) (cont : Nat → List UInt8) (ovs : List Ov) (gone : List Nat) (over : Bool) (k : Nat) (R : Fr) (e : Ending) (w' : World) : Prop :=
  ∃ (o : Ov) (A' : Fr), o.k = k ∧ OvOk o ∧ o.l = oview cont ovs k ∧ e = .returned (ovV o) ∧ ActC J F0 s l p mf d most N a mp mg cont ovs gone over A' ∧
    (((∃ pre post, ovs = pre ++ o :: post ∧ ∀ q ∈ pre, q.k ≠ k) ∧ Own E w' (A' ++ R)) ∨ ((∀ q ∈ ovs, q.k ≠ k) ∧ Own E w' (o.F ++ (A' ++ R))))
theorem zeroBytes (w : World) : (zeroValue 97).run Tryz.prog w = .ok (.slice none 0 0) w := by kernel_rfl
set_option maxRecDepth 100000 in
set_option maxHeartbeats 16000000 in
theorem aPage {J : Nat → Prop} {F0 : List UInt8} (E w : World) (X R A : Fr) (s l p mf d most N a mp mg : Nat) (cont : Nat → List UInt8) (ovs : List Ov) (gone : List Nat) (over : Bool) (k : Nat) (hk : k < 4096) (hA : ActC J F0 s l p mf d most N a mp mg cont ovs gone over A) (hm : 0 < most) (hm2 : most ≤ 1024) (hN : N ≤ 8796093022208) (hO : Own E w X) [hp : Pick X A R] :
    Calls Tryz.prog 101 #[.pointer (some ⟨a, 0, none⟩), .int .i64 k] w (PageP E J F0 s l p mf d most N a mp mg cont ovs gone over k R) := by
  replace hO := hO.perm hp.perm
  clear hp
  have hA0 := hA
  obtain ⟨PA, MP, MG, hS, hMP, hMG, hok, hnd, rfl⟩ := hA
  generalize hpost : PageP E J F0 s l p mf d most N a mp mg cont ovs gone over k R = POST
  have HPOST := Lib.hid hpost
  clear hpost
  rcases ov_cases ovs k with ⟨pre, o, post, rfl, rfl, hpre⟩ | hno
  · have hl := ov_look_in (post := post) hpre
    have HPRE := Lib.hid hpre
    clear hpre
    unfold ovV at hl
    have hO0 := hO
    unfold actF at hO
    ((try simp only [List.nil_append, List.append_nil] at hO); have hF := Own.cells hO; simp only [cellsOf_append, cellsOf_pt] at hF)
    go_enter Tryz.func101, Tryz.ntmps101
    go_wp2_with (refine at_lookup ?_; go_must (refine own_lookupOk (kt := 3) (et := 97) (b := mp) (k := o.k) (l := (pre ++ o :: post).map ovP) (by kernel_rfl) (by kernel_rfl) zeroBytes hO hMP ?_ ?_ ?_ ?_; (· rfl); (· rfl); (· rfl); rw [hl]; simp only [Act.put, List.setIfInBounds_toArray, List.set_cons_zero, List.set_cons_succ]))
    rw [← HPOST.out]
    exact ⟨o, _, rfl, hok o (by simp), (oview_in HPRE.out).symm, rfl, hA0, .inl ⟨⟨pre, post, rfl, HPRE.out⟩, hO0⟩⟩
  · have hl := ov_look_out hno
    have HNO := Lib.hid hno
    clear hno
    have hO0 := hO
    unfold actF at hO
    ((try simp only [List.nil_append, List.append_nil] at hO); have hF := Own.cells hO; simp only [cellsOf_append, cellsOf_pt] at hF)
    go_enter Tryz.func101, Tryz.ntmps101
    go_wp2_with (refine at_lookup ?_; go_must (refine own_lookupOk (kt := 3) (et := 97) (b := mp) (k := k) (l := ovs.map ovP) (by kernel_rfl) (by kernel_rfl) zeroBytes hO hMP ?_ ?_ ?_ ?_; (· rfl); (· rfl); (· rfl); rw [hl]; simp only [Act.put, List.setIfInBounds_toArray, List.set_cons_zero, List.set_cons_succ]))
    clear hF
    refine (sBytes E _ _ _ PA s l p mf (some ⟨a, 0, none⟩) d most N cont k hk hS hm hm2 hN hO).mono ?_
    rintro e w2 ⟨b, cap, B, PA', rfl, hB, hS', hO⟩
    go_wp2_with fail
    rw [← HPOST.out]
    refine ⟨⟨k, b, cap, cont k, B⟩, _, rfl, ⟨hk, hS.clen k, hB⟩, (oview_out HNO.out).symm, rfl, ⟨PA', MP, MG, hS', hMP, hMG, hok, hnd, rfl⟩, .inr ⟨HNO.out, ?_⟩⟩
    unfold actF
    exact hO.as _
end Go.Proofs.YtkfkcloefgfkaaaGreat

/- Space: put. -/
namespace Go.Dk
open Go.Own Go.RowKit
theorem mset_ov {pre post : List Ov} {o o' : Ov} (hn : ((pre ++ o :: post).map (·.k)).Nodup) (hk : o'.k = o.k) : mset ((pre ++ o :: post).map ovP) (o.k : Int) (ovV o') = (pre ++ o' :: post).map ovP := by
  have hne : ∀ q ∈ pre ++ post, q.k ≠ o.k := by
    intro q hq e
    rw [List.map_append, List.map_cons] at hn
    have h2 := (List.perm_middle.nodup_iff).1 hn
    rw [List.nodup_cons] at h2
    refine h2.1 ?_
    rw [← List.map_append]
    exact List.mem_map.2 ⟨q, hq, e⟩
  have hid : ∀ l : List Ov, (∀ q ∈ l, q.k ≠ o.k) → mset (l.map ovP) (o.k : Int) (ovV o') = l.map ovP := by
    intro l hl
    unfold mset
    rw [List.map_map]
    refine List.map_congr_left fun q hq => ?_
    have := hl q hq
    have e : ((ovP q).1 == (o.k : Int)) = false := by
      rw [beq_eq_false_iff_ne]
      simp only [ovP]
      omega
    simp only [Function.comp]
    rw [e]
    rfl
  have h1 := hid pre fun q hq => hne q (by simp [hq])
  have h2 := hid post fun q hq => hne q (by simp [hq])
  unfold mset at h1 h2 ⊢
  rw [List.map_append, List.map_cons, List.map_append, List.map_cons, h1, h2, List.map_append, List.map_cons]
  simp [ovP, hk]
/-- What a put makes of the pages in hand. -/
def PutO (cont : Nat → List UInt8) (ovs : List Ov) (k : Nat) (x : List UInt8) (ovs' : List Ov) : Prop :=
  (∀ j, oview cont ovs' j = if j = k then x else oview cont ovs j) ∧ ∀ j, (∃ o ∈ ovs', o.k = j) ↔ j = k ∨ ∃ o ∈ ovs, o.k = j
theorem putO_in {cont : Nat → List UInt8} {pre post : List Ov} {o o' : Ov} (hp : ∀ q ∈ pre, q.k ≠ o.k) (hk : o'.k = o.k) : PutO cont (pre ++ o :: post) o.k o'.l (pre ++ o' :: post) := by
  refine ⟨fun j => ?_, fun j => ?_⟩
  · by_cases hj : j = o.k
    · rw [if_pos hj, hj, ← hk]
      exact oview_in (by rw [hk]; exact hp)
    · rw [if_neg hj]
      unfold oview
      rw [List.find?_append, List.find?_append, List.find?_cons_of_neg (by simp; omega), List.find?_cons_of_neg (by simp; omega)]
  · constructor
    · rintro ⟨q, hq, rfl⟩
      simp only [List.mem_append, List.mem_cons] at hq
      rcases hq with hq | rfl | hq
      · exact .inr ⟨q, by simp [hq], rfl⟩
      · exact .inl hk
      · exact .inr ⟨q, by simp [hq], rfl⟩
    · rintro (rfl | ⟨q, hq, rfl⟩)
      · exact ⟨o', by simp, hk⟩
      · simp only [List.mem_append, List.mem_cons] at hq
        rcases hq with hq | rfl | hq
        · exact ⟨q, by simp [hq], rfl⟩
        · exact ⟨o', by simp, hk⟩
        · exact ⟨q, by simp [hq], rfl⟩
theorem putO_out {cont : Nat → List UInt8} {ovs : List Ov} {o' : Ov} (hn : ∀ q ∈ ovs, q.k ≠ o'.k) : PutO cont ovs o'.k o'.l (ovs ++ [o']) := by
  refine ⟨fun j => ?_, fun j => ?_⟩
  · by_cases hj : j = o'.k
    · rw [if_pos hj, hj]
      exact oview_in hn
    · rw [if_neg hj]
      unfold oview
      rw [List.find?_append, List.find?_cons_of_neg (by simp; omega)]
      simp
  · constructor
    · rintro ⟨q, hq, rfl⟩
      simp only [List.mem_append, List.mem_singleton] at hq
      rcases hq with hq | rfl
      · exact .inr ⟨q, hq, rfl⟩
      · exact .inl rfl
    · rintro (rfl | ⟨q, hq, rfl⟩)
      · exact ⟨o', by simp, rfl⟩
      · exact ⟨q, by simp [hq], rfl⟩
end Go.Dk
namespace Go.Proofs.YtkfkcloefgfkaaaGreat
open Go Go.RowKit Go.Own Go.Dk

def PutP (E : World) (J : Nat → Prop) (F0 : List UInt8) (s l p mf d most N a mp mg : Nat) (cont : Nat → List UInt8) (ovs : List Ov) (gone : List Nat) (over : Bool) (k at_ : Nat) (t : ByteArray) (R : Fr) (e : Ending) (w' : World) : Prop :=
  ∃ ovs' A', e = .returned (.tuple #[]) ∧ PutO cont ovs k (putB (oview cont ovs k) at_ t.data.toList) ovs' ∧ ActC J F0 s l p mf d most N a mp mg cont ovs' gone over A' ∧ Own E w' (A' ++ R)
set_option maxRecDepth 100000 in
set_option maxHeartbeats 16000000 in
theorem aPut {J : Nat → Prop} {F0 : List UInt8} (E w : World) (X R A : Fr) (s l p mf d most N a mp mg : Nat) (cont : Nat → List UInt8) (ovs : List Ov) (gone : List Nat) (over : Bool) (k at_ : Nat) (t : ByteArray) (hk : k < 4096) (hat : at_ + t.size ≤ 512) (hA : ActC J F0 s l p mf d most N a mp mg cont ovs gone over A) (hm : 0 < most) (hm2 : most ≤ 1024) (hN : N ≤ 8796093022208) (hO : Own E w X) [hp : Pick X A R] :
    Calls Tryz.prog 117 #[.pointer (some ⟨a, 0, none⟩), .int .i64 k, .int .i64 at_, .string t] w (PutP E J F0 s l p mf d most N a mp mg cont ovs gone over k at_ t R) := by
  replace hO := hO.perm hp.perm
  clear hp
  generalize hpost : PutP E J F0 s l p mf d most N a mp mg cont ovs gone over k at_ t R = POST
  have HPOST := Lib.hid hpost
  clear hpost
  have htl : t.data.toList.length = t.size := by rw [Array.length_toList]; rfl
  have HTL := Lib.hid htl
  clear htl
  go_enter Tryz.func117, Tryz.ntmps117
  go_wp2_with fail
  refine (aPage E _ _ _ A s l p mf d most N a mp mg cont ovs gone over k hk hA hm hm2 hN hO).mono ?_
  clear hO hA
  rintro e w2 ⟨o, A, rfl, hok, hol, rfl, ⟨PA, MP, MG, hS, hMP, hMG, hoks, hnd, rfl⟩, hc⟩
  obtain ⟨hok1, hok2, hB⟩ := hok
  have hcap := hB.1
  rw [hok2] at hcap
  have hcapi : (512 : Int) ≤ o.cap := by omega
  have hs0 : (0 : Int) ≤ at_ := by omega
  have hs1 : (at_ : Int) ≤ 512 := by omega
  have hs2 : (at_ : Int) ≤ o.cap := by omega
  have h5 : at_ = 512 ∨ (at_ ≠ 512 ∧ 512 ≠ at_) := by omega
  have HOL := Lib.hid hol
  clear hol
  unfold ovV
  rcases hc with ⟨⟨pre, post, rfl, hpre⟩, hO⟩ | ⟨hno, hO⟩
  · have hl := ov_look_in (post := post) hpre
    have HPRE := Lib.hid hpre
    clear hpre
    rw [ovsF_app, ovsF_cons] at hO
    unfold actF at hO
    have hF := Own.cells hO; simp only [cellsOf_append, cellsOf_pt] at hF
    go_wp2_with (first | (refine at_copy ?_; go_must (refine own_copyF (da := ?_) (dn := ?_) (dc := ?_) (b := o.b) (l := at_) (s := t) sltBytes hO ?_ ?_ ?_ hB ?_ ?_ ?_ ?_; rotate_left 3; (· rfl); (· ((conv => lhs; whnf); try exact rfl)); (· rfl); (· intro h0; first | rfl | (rw [if_neg (by omega)]; done) | (exfalso; omega; done)); (· omega); (· omega); clear hO; (try clear hF); intro F2 _ hB2 hO; ((try simp only [List.nil_append, List.append_nil] at hO); have hF := Own.cells hO; simp only [cellsOf_append, cellsOf_pt] at hF); simp only [Act.put, List.setIfInBounds_toArray, List.set_cons_zero, List.set_cons_succ])) | (refine at_mapup ?_; go_must (refine own_mapSet (kt := 3) (et := 97) (b := mp) (k := o.k) (v := ovV o) (v0 := ovV o) (l := (pre ++ o :: post).map ovP) (by kernel_rfl) (by kernel_rfl) hO hMP ?_ ?_ ?_ ?_ hl ?_; (· rfl); (· rfl); (· rfl); (· rfl); clear hO; (try clear hF); intro _ M2 hM2 hO; ((try simp only [List.nil_append, List.append_nil] at hO); have hF := Own.cells hO; simp only [cellsOf_append, cellsOf_pt] at hF); simp only [Act.put, List.setIfInBounds_toArray, List.set_cons_zero, List.set_cons_succ])))
    all_goals (
      go_end0
      rw [← HPOST.out]
      have hps : (putB o.l at_ t.data.toList).length = 512 := by rw [putB_length (by rw [HTL.out]; omega)]; exact hok2
      have hpb : o.l.take at_ ++ t.data.toList ++ o.l.drop (at_ + t.size) = putB o.l at_ t.data.toList := by unfold putB; rw [HTL.out]
      rw [hpb] at hB2
      have hms := mset_ov (o' := ⟨o.k, o.b, o.cap, putB o.l at_ t.data.toList, F2⟩) hnd rfl
      rw [show ovV ⟨o.k, o.b, o.cap, putB o.l at_ t.data.toList, F2⟩ = ovV o from rfl] at hms
      rw [hms] at hM2
      refine ⟨pre ++ ⟨o.k, o.b, o.cap, putB o.l at_ t.data.toList, F2⟩ :: post, _, rfl, ?_, ⟨PA, M2, MG, hS, hM2, hMG, ?_, ?_, rfl⟩, ?_⟩
      · rw [oview_in HPRE.out]
        exact putO_in HPRE.out rfl
      · intro q hq
        simp only [List.mem_append, List.mem_cons] at hq
        rcases hq with hq | rfl | hq
        · exact hoks q (by simp [hq])
        · exact ⟨hok1, hps, hB2⟩
        · exact hoks q (by simp [hq])
      · rw [List.map_append, List.map_cons] at hnd ⊢
        exact hnd
      · rw [ovsF_app, ovsF_cons]
        unfold actF
        exact hO.as _)
  · have hl := ov_look_out hno
    have HNO := Lib.hid hno
    clear hno
    unfold actF at hO
    have hF := Own.cells hO; simp only [cellsOf_append, cellsOf_pt] at hF
    go_wp2_with (first | (refine at_copy ?_; go_must (refine own_copyF (da := ?_) (dn := ?_) (dc := ?_) (b := o.b) (l := at_) (s := t) sltBytes hO ?_ ?_ ?_ hB ?_ ?_ ?_ ?_; rotate_left 3; (· rfl); (· ((conv => lhs; whnf); try exact rfl)); (· rfl); (· intro h0; first | rfl | (rw [if_neg (by omega)]; done) | (exfalso; omega; done)); (· omega); (· omega); clear hO; (try clear hF); intro F2 _ hB2 hO; ((try simp only [List.nil_append, List.append_nil] at hO); have hF := Own.cells hO; simp only [cellsOf_append, cellsOf_pt] at hF); simp only [Act.put, List.setIfInBounds_toArray, List.set_cons_zero, List.set_cons_succ])) | (refine at_mapup ?_; go_must (refine own_mapNew (kt := 3) (et := 97) (b := mp) (k := o.k) (v := ovV o) (l := ovs.map ovP) (by kernel_rfl) (by kernel_rfl) hO hMP ?_ ?_ ?_ ?_ hl ?_; (· rfl); (· rfl); (· rfl); (· rfl); clear hO; (try clear hF); intro _ M2 hM2 hO; ((try simp only [List.nil_append, List.append_nil] at hO); have hF := Own.cells hO; simp only [cellsOf_append, cellsOf_pt] at hF); simp only [Act.put, List.setIfInBounds_toArray, List.set_cons_zero, List.set_cons_succ])))
    all_goals (
      go_end0
      rw [← HPOST.out]
      have hps : (putB o.l at_ t.data.toList).length = 512 := by rw [putB_length (by rw [HTL.out]; omega)]; exact hok2
      have hpb : o.l.take at_ ++ t.data.toList ++ o.l.drop (at_ + t.size) = putB o.l at_ t.data.toList := by unfold putB; rw [HTL.out]
      rw [hpb] at hB2
      refine ⟨ovs ++ [⟨o.k, o.b, o.cap, putB o.l at_ t.data.toList, F2⟩], _, rfl, ?_, ⟨PA, M2, MG, hS, by rw [List.map_append]; exact hM2, hMG, ?_, ?_, rfl⟩, ?_⟩
      · rw [← HOL.out]
        exact putO_out (o' := ⟨o.k, o.b, o.cap, putB o.l at_ t.data.toList, F2⟩) HNO.out
      · intro q hq
        simp only [List.mem_append, List.mem_singleton] at hq
        rcases hq with hq | rfl
        · exact hoks q hq
        · exact ⟨hok1, hps, hB2⟩
      · rw [List.map_append, List.nodup_append]
        refine ⟨hnd, by simp, fun x hx y hy => ?_⟩
        simp only [List.map_cons, List.map_nil, List.mem_singleton] at hy
        subst hy
        obtain ⟨q, hq, rfl⟩ := List.mem_map.1 hx
        exact HNO.out q hq
      · rw [ovsF_app, ovsF_cons, ovsF_nil]
        unfold actF
        exact hO.as _)
end Go.Proofs.YtkfkcloefgfkaaaGreat
