/- The library's contracts at slices of numbers of ours: BinarySearch, Insert, Contains. -/
import Derived.Test.YtnfclieaendgeaaRows
import Derived.Test.YtnfclieaendgeaaTidM
import Derived.Test.YtnfclieaendgeaaMap2
import Derived.Test.YtnfclieaendgeaaArm2
import Derived.Shelf.Slices.SearchI
import Derived.Shelf.Slices.Empties
import Derived.Shelf.Slices.Turned
import Derived.Shelf.Spec.SlicesInsertGrow
set_option linter.all false
namespace Go.Proofs.Ytnfclieaendgeaa
open Go Go.RowKit Go.Own Go.Td

def Try.lay25_ren : Go.Shelf.Ren := ⟨fun | 25 => 60 | 31 => 70 | 32 => 71 | 37 => 85 | n => n, fun | 22 => 33 | 3 => 3 | 4 => 4 | 40 => 95 | 0 => 0 | n => n, fun | n => n⟩
theorem Try.lay25 : Go.Proofs.Lays2.n25 Try.prog Try.lay25_ren where
  mixed := by kernel_rfl
  f25 := Try.func60.trans (congrArg some (by kernel_rfl))
  f31 := Try.func70.trans (congrArg some (by kernel_rfl))
  f32 := Try.func71.trans (congrArg some (by kernel_rfl))
  f37 := Try.func85.trans (congrArg some (by kernel_rfl))
  t0 := Try.underlying0
  a0 := Try.isAgg0
  z0 := Try.sizeOf0
  v0 := Try.zeroValue0
  t3 := Try.underlying3
  a3 := Try.isAgg3
  z3 := Try.sizeOf3
  v3 := Try.zeroValue3
  t4 := Try.underlying4
  a4 := Try.isAgg4
  z4 := Try.sizeOf4
  v4 := Try.zeroValue4
  t22 := Try.underlying33
  a22 := Try.isAgg33
  z22 := Try.sizeOf33
  v22 := Try.zeroValue33
  t40 := Try.underlying95
  a40 := Try.isAgg95
  z40 := Try.sizeOf95
  v40 := Try.zeroValue95
def Try.lay21_ren : Go.Shelf.Ren := ⟨fun | 21 => 61 | 27 => 72 | 28 => 73 | 35 => 86 | 39 => 100 | n => n, fun | 22 => 33 | 3 => 3 | 4 => 4 | 0 => 0 | n => n, fun | n => n⟩
theorem Try.lay21 : Go.Proofs.Lays2.n21 Try.prog Try.lay21_ren where
  mixed := by kernel_rfl
  f21 := Try.func61.trans (congrArg some (by kernel_rfl))
  f27 := Try.func72.trans (congrArg some (by kernel_rfl))
  f28 := Try.func73.trans (congrArg some (by kernel_rfl))
  f35 := Try.func86.trans (congrArg some (by kernel_rfl))
  f39 := Try.func100.trans (congrArg some (by kernel_rfl))
  t0 := Try.underlying0
  a0 := Try.isAgg0
  z0 := Try.sizeOf0
  v0 := Try.zeroValue0
  t3 := Try.underlying3
  a3 := Try.isAgg3
  z3 := Try.sizeOf3
  v3 := Try.zeroValue3
  t4 := Try.underlying4
  a4 := Try.isAgg4
  z4 := Try.sizeOf4
  v4 := Try.zeroValue4
  t22 := Try.underlying33
  a22 := Try.isAgg33
  z22 := Try.sizeOf33
  v22 := Try.zeroValue33
  i3 := by kernel_rfl
def Try.lay107_ren : Go.Shelf.Ren := ⟨fun | 107 => 47 | 108 => 64 | n => n, fun | 28 => 33 | 3 => 3 | 4 => 4 | 0 => 0 | n => n, fun | n => n⟩
theorem Try.lay107 : Go.Proofs.Lays.n107 Try.prog Try.lay107_ren where
  mixed := by kernel_rfl
  f107 := Try.func47.trans (congrArg some (by kernel_rfl))
  f108 := Try.func64.trans (congrArg some (by kernel_rfl))
  t0 := Try.underlying0
  a0 := Try.isAgg0
  z0 := Try.sizeOf0
  v0 := Try.zeroValue0
  t3 := Try.underlying3
  a3 := Try.isAgg3
  z3 := Try.sizeOf3
  v3 := Try.zeroValue3
  t4 := Try.underlying4
  a4 := Try.isAgg4
  z4 := Try.sizeOf4
  v4 := Try.zeroValue4
  t28 := Try.underlying33
  a28 := Try.isAgg33
  z28 := Try.sizeOf33
  v28 := Try.zeroValue33

abbrev intV (l : List Int) : List Value := l.map (Value.int .i64)
theorem intV_one (l : List Int) : ∀ u ∈ intV l, u.oneCell' = true := by
  intro u hu
  obtain ⟨s, _, rfl⟩ := List.mem_map.1 hu
  rfl
theorem sl_cellI {E w : World} {X R A : Fr} {e : TypeId} {b n cap : Nat} {l : List Int} (h : Sl e 1 (some ⟨b, 0, none⟩) n cap (intV l) A) (hO : Own E w X) [hp : Pick X A R] (j : Nat) (hj : j < l.length) : w.cell? ⟨b, 0 + j, none⟩ = some (.int .i64 (l.getD j 0)) := by
  have h1 := h.cell hO ⟨b, 0, none⟩ rfl j (by rw [List.length_map]; exact hj)
  rw [add_lit] at h1
  rw [h1, List.getElem_map]
  simp [hj]
theorem sl_none {e : TypeId} {n cap sz : Nat} {xs : List Value} {A : Fr} (h : Sl e sz none n cap xs A) : n = 0 ∧ A = [] := by
  obtain ⟨h1, h2, h3, h4⟩ := h
  rcases h4 with ⟨_, hc, hA⟩ | ⟨b, rest, hb, _⟩
  · exact ⟨by omega, hA⟩
  · cases hb

theorem cBS (E w : World) (X R S : Fr) (a : Option Addr) (cap : Nat) (l : List Int) (x : Int) (hS : Sl 3 1 a l.length cap (intV l) S) (hl : l.length ≤ 1048576) (hup : Up l) (hO : Own E w X) [hp : Pick X S R] :
    Calls Try.prog 60 #[.slice a l.length cap, .int .i64 x] w fun e w' => e = .returned (.tuple #[.int .i64 ((l.countP (· < x) : Nat) : Int), .bool (l.contains x)]) ∧ Own E w' (S ++ R) := by
  replace hO := hO.perm hp.perm
  clear hp
  cases a with
  | none =>
    obtain ⟨h0, rfl⟩ := sl_none hS
    obtain rfl : l = [] := List.eq_nil_of_length_eq_zero h0
    refine (Any.slices_BinarySearch_int_empty Try.lay25 none cap x w).mono ?_
    rintro e w' ⟨rfl, rfl⟩
    exact ⟨rfl, hO⟩
  | some ad =>
    obtain ⟨b, rfl⟩ : ∃ b, ad = ⟨b, 0, none⟩ := by
      rcases hS.2.2.2 with ⟨h, _⟩ | ⟨b, _, h, _⟩
      · cases h
      · cases h; exact ⟨b, rfl⟩
    refine (Any.slices_BinarySearch_int Try.lay25 b 0 l.length cap l x w (Nat.le_refl _) (by omega) (fun j hj => sl_cellI hS hO j hj) (by rw [List.take_length]; exact hup.imp fun h => by omega)).mono ?_
    rintro e w' ⟨rfl, q, rfl⟩
    rw [List.take_length]
    exact ⟨rfl, hO.drewN q⟩

theorem cContains (E w : World) (X R S : Fr) (a : Option Addr) (cap : Nat) (l : List Int) (x : Int) (hS : Sl 3 1 a l.length cap (intV l) S) (hl : l.length ≤ 1048576) (hO : Own E w X) [hp : Pick X S R] :
    Calls Try.prog 47 #[.slice a l.length cap, .int .i64 x] w fun e w' => e = .returned (.bool (l.contains x)) ∧ w = w' := by
  replace hO := hO.perm hp.perm
  clear hp
  cases a with
  | none =>
    obtain ⟨h0, rfl⟩ := sl_none hS
    obtain rfl : l = [] := List.eq_nil_of_length_eq_zero h0
    refine (Any.slices_Contains_int_empty Try.lay107 none cap x w).mono ?_
    rintro e w' ⟨rfl, rfl⟩
    exact ⟨rfl, rfl⟩
  | some ad =>
    obtain ⟨b, rfl⟩ : ∃ b, ad = ⟨b, 0, none⟩ := by
      rcases hS.2.2.2 with ⟨h, _⟩ | ⟨b, _, h, _⟩
      · cases h
      · cases h; exact ⟨b, rfl⟩
    refine (Any.slices_Contains_int Try.lay107 b 0 l.length cap l x w (Nat.le_refl _) (by omega) (fun j hj => sl_cellI hS hO j hj)).mono ?_
    rintro e w' ⟨rfl, rfl⟩
    rw [List.take_length]
    exact ⟨rfl, rfl⟩

/-- Cells are stored, one behind the other. -/
theorem own_setCells {E : World} {b : Nat} {e : TypeId} {R : Fr} : ∀ (vs : List Value) (o : Nat) (cs : Array Value) (w : World), Own E w (pt b (.cells cs e (0, 0)) ++ R) → Own E (w.setCells b o vs) (pt b (.cells (splice cs o vs) e (0, 0)) ++ R)
  | [], _, _, _, h => h
  | v :: vs, o, cs, w, h => by
    rw [World.setCells]
    exact own_setCells vs (o + 1) (cs.setIfInBounds o v) _ (h.setCell (b := b) o v)
/-- Where a number goes. -/
theorem ins_at {x : Int} : ∀ {l : List Int}, Up l → x ∉ l → ins x l = l.take (l.countP (· < x)) ++ x :: l.drop (l.countP (· < x))
  | [], _, _ => rfl
  | y :: l, h, hx => by
    obtain ⟨h1, h2⟩ := List.pairwise_cons.1 h
    rw [List.mem_cons, not_or] at hx
    unfold ins
    by_cases hxy : x < y
    · have h0 : (y :: l).countP (· < x) = 0 := by
        rw [List.countP_eq_zero]
        intro z hz
        rcases List.mem_cons.1 hz with rfl | hz
        · simp; omega
        · have := h1 z hz
          simp; omega
      rw [if_pos hxy, h0]
      rfl
    · rw [if_neg hxy, if_neg hx.1, ins_at h2 hx.2]
      have hyx : decide (y < x) = true := by simp; omega
      rw [List.countP_cons_of_pos (by simpa using hyx)]
      rfl
