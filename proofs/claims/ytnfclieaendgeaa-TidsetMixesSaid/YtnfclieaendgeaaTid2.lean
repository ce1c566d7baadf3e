/- The library's Insert at a slice of numbers of ours. -/
import Derived.Test.YtnfclieaendgeaaTid1
set_option linter.all false
namespace Go.Proofs.Ytnfclieaendgeaa
open Go Go.RowKit Go.Own Go.Td

def InsP (E : World) (R : Fr) (l : List Int) (x : Int) (e : Ending) (w' : World) : Prop :=
  ∃ a' cap' S', e = .returned (.slice a' (l.length + 1) cap') ∧ Sl 3 1 a' (l.length + 1) cap' (intV (ins x l)) S' ∧ Own E w' (S' ++ R)

theorem zero_len (n : Nat) : (Builtin.zeroCells (Value.int .i64 0).cells n).toList.length = n := by
  rw [Array.length_toList, size_zeroCells]; simp [Value.cells]

set_option maxHeartbeats 4000000 in
theorem cInsert (E w : World) (X R S : Fr) (a : Option Addr) (cap vb : Nat) (l : List Int) (x : Int) (hS : Sl 3 1 a l.length cap (intV l) S) (hl : l.length ≤ 1048576) (hup : Up l) (hx : x ∉ l) (hO : Own E w X) [hp : Pick X (pt vb (.cells #[.int .i64 x] 3 (0, 0)) ++ S) R] :
    Calls Try.prog 61 #[.slice a l.length cap, .int .i64 ((l.countP (· < x) : Nat) : Int), .slice (some ⟨vb, 0, none⟩) 1 1] w (InsP E R l x) := by
  replace hO : Own E w (pt vb (.cells #[.int .i64 x] 3 (0, 0)) ++ (S ++ R)) := by
    have := hO.perm hp.perm
    rwa [List.append_assoc] at this
  clear hp
  have hins := ins_at hup hx
  have hile : l.countP (· < x) ≤ l.length := List.countP_le_length
  have hinl : (ins x l).length = l.length + 1 := by rw [(ins_perm hup hx).length_eq]; rfl
  generalize hi : l.countP (· < x) = i at hins hile
  clear hi
  have hvc : ∀ j v, [Value.int .i64 x][j]? = some v → w.cell? ⟨vb, 0 + j, none⟩ = some v := by
    intro j v hj
    rw [Nat.zero_add, hO.cell (b := vb)]
    simpa using hj
  have hv1 : ∀ v ∈ [Value.int .i64 x], v.oneCell' = true := by simp [Value.oneCell']
  have hxs : (intV l).length = l.length := List.length_map _
  have hcap := hS.le
  have hcm := hS.cap_le
  unfold maxLen at hcm
  by_cases hroom : l.length + 1 ≤ cap
  · -- there is room
    obtain ⟨b, rest, rfl, hlen, rfl⟩ : ∃ b rest, a = some ⟨b, 0, none⟩ ∧ (intV l ++ rest).length = cap * 1 ∧ S = pt b (.cells (intV l ++ rest).toArray 3 (0, 0)) := by
      rcases hS.2.2.2 with ⟨_, hc, _⟩ | ⟨b, rest, h1, h2, h3⟩
      · omega
      · exact ⟨b, rest, h1, h2, h3⟩
    rw [List.length_append, hxs] at hlen
    have hO2 := hO.as (pt b (.cells (intV l ++ rest).toArray 3 (0, 0)) ++ (pt vb (.cells #[.int .i64 x] 3 (0, 0)) ++ R))
    have hne : vb ≠ b := hO2.ne
    have hcell : ∀ j, w.cell? ⟨b, j, none⟩ = (intV l ++ rest).toArray[j]? := fun j => hO2.cell (b := b) j
    have hfz : ∀ j, w.frozen? ⟨b, j, none⟩ = false := fun j => by
      have := Own.cells hO2
      simp only [cellsOf_append, cellsOf_pt] at this
      exact this.1.2 j
    have hfzv : ∀ j, w.frozen? ⟨vb, j, none⟩ = false := fun j => by
      have := Own.cells hO
      simp only [cellsOf_append, cellsOf_pt] at this
      exact this.1.2 j
    have hsome : ∀ j, j < cap → (w.cell? ⟨b, j, none⟩).isSome = true := fun j hj => by
      rw [hcell, List.getElem?_toArray, List.getElem?_eq_getElem (by rw [List.length_append, hxs]; omega)]; rfl
    have hfin : ∀ w', Own E w' (pt b (.cells (intV (ins x l) ++ rest.drop 1).toArray 3 (0, 0)) ++ (pt vb (.cells #[.int .i64 x] 3 (0, 0)) ++ R)) → InsP E R l x (.returned (.slice (some ⟨b, 0, none⟩) (l.length + 1) cap)) w' := by
      intro w' h
      refine ⟨_, cap, _, rfl, Sl.mk (rest := rest.drop 1) (by rw [List.length_map, hinl]; simp) hroom (by unfold maxLen; omega) ?_, h.as _⟩
      rw [List.length_append, List.length_map, hinl, List.length_drop]
      omega
    by_cases hend : i = l.length
    · subst hend
      refine (Any2.slices_Insert_int_end_room Try.lay21 b 0 l.length cap vb 0 1 1 [.int .i64 x] w (by decide) hroom hcm rfl (fun j hj => by rw [Nat.zero_add]; exact hsome _ (by omega)) (fun j hj => hfz _) hvc hv1).mono ?_
      rintro e w' ⟨rfl, rfl⟩
      refine hfin _ ?_
      have h5 := own_setCells [.int .i64 x] (0 + l.length) _ _ hO2
      have h6 := splice_append [Value.int .i64 x] (intV l) rest (by simp; omega)
      rw [hxs] at h6
      rw [Nat.zero_add, h6] at h5
      have h7 : intV (ins x l) = intV l ++ [.int .i64 x] := by rw [hins]; simp
      rw [h7]
      rw [Nat.zero_add]
      simpa using h5
    · have hil : i < l.length := by omega
      have hshv : w.shape? vb = some (3, 1) := by
        have := hO.get (b := vb)
        simp [World.shape?, this]
      have hshb : w.shape? b = some (3, (intV l ++ rest).length) := by
        have := hO2.get (b := b)
        simp [World.shape?, this]
      refine (Any2.slices_Insert_int_shift Try.lay21 b 0 l.length cap i vb 0 1 1 (intV l) [.int .i64 x] w hil (by decide) hroom hcm hne hxs rfl (fun j v hj => ?_) (fun j hj => by rw [Nat.zero_add]; exact hsome _ (by omega)) (fun j hj => hfz _) hvc (intV_one l) hv1 _ _ _ _ hshv hshb (by rw [List.length_append, hxs]; omega) (hfzv _) (hfzv _)).mono ?_
      · rw [Nat.zero_add, hcell, List.getElem?_toArray]
        obtain ⟨hlt, rfl⟩ := List.getElem?_eq_some_iff.1 hj
        rw [List.getElem?_append_left hlt, List.getElem?_eq_getElem hlt]
      rintro e w' ⟨rfl, rfl⟩
      refine hfin _ ?_
      have h5 := own_setCells ((intV l).drop i) (0 + (i + 1)) _ _ hO2.drew
      obtain ⟨p, c, q, hpq, hpl⟩ : ∃ p c q, l = p ++ c :: q ∧ p.length = i := ⟨l.take i, l[i], l.drop (i + 1), by rw [← List.drop_eq_getElem_cons hil, List.take_append_drop], by simp; omega⟩
      subst hpl
      obtain ⟨r, rest', rfl⟩ : ∃ r rest', rest = r :: rest' := by
        cases rest with
        | nil => simp at hlen; omega
        | cons r rest' => exact ⟨r, rest', rfl⟩
      subst hpq
      have hd : (intV (p ++ c :: q)).drop p.length = .int .i64 c :: intV q := by simp [intV]
      have h6 := splice_append (Value.int .i64 c :: intV q) (intV p ++ [.int .i64 c]) (intV q ++ r :: rest') (by simp)
      have e1 : intV (p ++ c :: q) ++ r :: rest' = (intV p ++ [.int .i64 c]) ++ (intV q ++ r :: rest') := by simp [intV]
      have e2 : (intV p ++ [Value.int .i64 c]).length = p.length + 1 := by simp [intV]
      rw [e2] at h6
      rw [hd, Nat.zero_add, e1, h6] at h5
      have h8 := own_setCells [.int .i64 x] (0 + p.length) _ _ h5
      have h9 := splice_append [Value.int .i64 x] (intV p) (.int .i64 c :: (.int .i64 c :: intV q) ++ (intV q ++ r :: rest').drop (Value.int .i64 c :: intV q).length) (by simp)
      have e3 : (intV p).length = p.length := by simp [intV]
      rw [e3] at h9
      have e4 : intV p ++ [Value.int .i64 c] ++ (Value.int .i64 c :: intV q) ++ (intV q ++ r :: rest').drop (Value.int .i64 c :: intV q).length = intV p ++ (.int .i64 c :: (.int .i64 c :: intV q) ++ (intV q ++ r :: rest').drop (Value.int .i64 c :: intV q).length) := by simp
      rw [e4, Nat.zero_add, h9] at h8
      rw [hd]
      have h7 : intV (ins x (p ++ c :: q)) ++ (r :: rest').drop 1 = intV p ++ [.int .i64 x] ++ (.int .i64 c :: (.int .i64 c :: intV q) ++ (intV q ++ r :: rest').drop (Value.int .i64 c :: intV q).length).drop [Value.int .i64 x].length := by
        rw [hins]
        simp [intV, List.drop_append]
      rw [h7, Nat.zero_add, Nat.zero_add]
      exact h8
  · -- a new row
    have hgrow : cap < l.length + 1 := by omega
    have hge := grownCap_ge w (l.length + 1) cap 3
    have hgm := grownCap_le_maxLen w (l.length + 1) cap 3 (by unfold maxLen; omega)
    have hfin : ∀ w' nb rest, Own E w' (pt nb (.cells (intV (ins x l) ++ rest).toArray 3 (0, 0)) ++ (pt vb (.cells #[.int .i64 x] 3 (0, 0)) ++ (S ++ R))) → (l.length + 1) + rest.length = grownCap w (l.length + 1) cap 3 → InsP E R l x (.returned (.slice (some ⟨nb, 0, none⟩) (l.length + 1) (grownCap w (l.length + 1) cap 3))) w' := by
      intro w' nb rest h hr
      refine ⟨_, _, _, rfl, Sl.mk (rest := rest) (by rw [List.length_map, hinl]; simp) hge hgm ?_, h.as _⟩
      rw [List.length_append, List.length_map, hinl]
      omega
    by_cases hend : i = l.length
    · subst hend
      refine (Any2.slices_Insert_int_end_grow Try.lay21 a l.length cap vb 0 1 1 (intV l) [.int .i64 x] w (by decide) hcap hgrow (by omega) hxs rfl (fun ha => by subst ha; exact (sl_none hS).1) (fun ad ha j v hj => ?_) hvc hv1).mono ?_
      · obtain ⟨hlt, rfl⟩ := List.getElem?_eq_some_iff.1 hj
        exact hS.cell (hO.as (S ++ R)) ad ha j hlt
      rintro e w' ⟨rfl, rfl⟩
      rw [show Try.lay21_ren.t 3 = 3 from rfl]
      have h5 := hO.drew.alloc (.cells ((intV l ++ [Value.int .i64 x]).toArray ++ Builtin.zeroCells (Value.int .i64 0).cells (grownCap w (l.length + 1) cap 3 - (l.length + 1))) 3)
      refine hfin _ _ (Builtin.zeroCells (Value.int .i64 0).cells (grownCap w (l.length + 1) cap 3 - (l.length + 1))).toList ?_ (by rw [zero_len]; omega)
      have h7 : intV (ins x l) = intV l ++ [.int .i64 x] := by rw [hins]; simp
      have h8 : (intV (ins x l) ++ (Builtin.zeroCells (Value.int .i64 0).cells (grownCap w (l.length + 1) cap 3 - (l.length + 1))).toList).toArray = (intV l ++ [Value.int .i64 x]).toArray ++ Builtin.zeroCells (Value.int .i64 0).cells (grownCap w (l.length + 1) cap 3 - (l.length + 1)) := by
        rw [h7]; apply Array.ext'; simp
      rw [h8]
      exact h5
    · have hil : i < l.length := by omega
      obtain ⟨b, rfl⟩ : ∃ b, a = some ⟨b, 0, none⟩ := by
        rcases hS.2.2.2 with ⟨_, hc, _⟩ | ⟨b, _, hb, _⟩
        · omega
        · exact ⟨b, hb⟩
      refine (Any2.slices_Insert_int_grow Try.lay21 b 0 l.length cap i vb 0 1 1 (intV l) [.int .i64 x] w hil (by decide) hcap hgrow (by omega) hxs rfl (fun j v hj => ?_) hvc (intV_one l) hv1).mono ?_
      · obtain ⟨hlt, rfl⟩ := List.getElem?_eq_some_iff.1 hj
        have := hS.cell (hO.as (S ++ R)) _ rfl j hlt
        rw [add_lit] at this
        exact this
      rintro e w' ⟨rfl, rfl⟩
      rw [show Try.lay21_ren.t 3 = 3 from rfl]
      generalize hz1 : Builtin.zeroCells (Value.int .i64 0).cells (l.length + 1 - i) = z1
      generalize hz2 : Builtin.zeroCells (Value.int .i64 0).cells (grownCap w (l.length + 1) cap 3 - (l.length + 1)) = z2
      have hl1 : z1.toList.length = l.length + 1 - i := by rw [← hz1, zero_len]
      have hl2 : z2.toList.length = grownCap w (l.length + 1) cap 3 - (l.length + 1) := by rw [← hz2, zero_len]
      have h5 := (hO.alloc (.cells (((intV l).take i).toArray ++ z1 ++ z2) 3)).drew
      have h6 := own_setCells [.int .i64 x] i _ _ h5
      have e1 : ((intV l).take i).toArray ++ z1 ++ z2 = ((intV l).take i ++ (z1.toList ++ z2.toList)).toArray := by apply Array.ext'; simp
      have e2 : ((intV l).take i).length = i := by rw [List.length_take, hxs]; omega
      have h7 := splice_append [Value.int .i64 x] ((intV l).take i) (z1.toList ++ z2.toList) (by simp only [List.length_append, hl1, List.length_cons, List.length_nil]; omega)
      rw [e2] at h7
      rw [e1, h7] at h6
      have h8 := own_setCells ((intV l).drop i) (i + 1) _ _ h6.drew
      have h9 := splice_append ((intV l).drop i) ((intV l).take i ++ [.int .i64 x]) ((z1.toList ++ z2.toList).drop [Value.int .i64 x].length) (by simp only [List.length_drop, List.length_append, hl1, hxs, List.length_cons, List.length_nil]; omega)
      have e3 : ((intV l).take i ++ [Value.int .i64 x]).length = i + 1 := by rw [List.length_append, e2]; rfl
      rw [e3] at h9
      rw [h9] at h8
      have h10 : intV (ins x l) = (intV l).take i ++ [.int .i64 x] ++ (intV l).drop i := by rw [hins]; simp [intV]
      rw [e1]
      refine hfin _ _ (((z1.toList ++ z2.toList).drop [Value.int .i64 x].length).drop ((intV l).drop i).length) ?_ ?_
      · rw [h10]
        exact h8
      · simp only [List.length_drop, List.length_append, hl1, hl2, hxs, List.length_cons, List.length_nil]
        omega
end Go.Proofs.Ytnfclieaendgeaa
