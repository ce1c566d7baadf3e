/- Slices that own their row: 'Sl e sz a n cap xs A' says that the slice value (a, n, cap) has the cells xs, and that A is its block. -/
import Derived.Test.YtnfclieaendgeaaOwn
set_option linter.all false
namespace Go.Own
open Go.RowKit

def Sl (e : TypeId) (sz : Nat) (a : Option Addr) (n cap : Nat) (xs : List Value) (A : Fr) : Prop :=
  xs.length = n * sz ∧ n ≤ cap ∧ cap ≤ maxLen ∧
  ((a = none ∧ cap = 0 ∧ A = []) ∨ ∃ b rest, a = some ⟨b, 0, none⟩ ∧ (xs ++ rest).length = cap * sz ∧ A = pt b (.cells (xs ++ rest).toArray e (0, 0)))

theorem Sl.nil (e : TypeId) (sz : Nat) : Sl e sz none 0 0 [] [] := ⟨by simp, by simp, by simp, .inl ⟨rfl, rfl, rfl⟩⟩

theorem Sl.mk {e : TypeId} {sz b n cap : Nat} {xs rest : List Value} (h1 : xs.length = n * sz) (h2 : n ≤ cap) (h3 : cap ≤ maxLen) (h4 : (xs ++ rest).length = cap * sz) :
    Sl e sz (some ⟨b, 0, none⟩) n cap xs (pt b (.cells (xs ++ rest).toArray e (0, 0))) := ⟨h1, h2, h3, .inr ⟨b, rest, rfl, h4, rfl⟩⟩

theorem Sl.len {e : TypeId} {sz : Nat} {a : Option Addr} {n cap : Nat} {xs : List Value} {A : Fr} (h : Sl e sz a n cap xs A) : xs.length = n * sz := h.1
theorem Sl.le {e : TypeId} {sz : Nat} {a : Option Addr} {n cap : Nat} {xs : List Value} {A : Fr} (h : Sl e sz a n cap xs A) : n ≤ cap := h.2.1
theorem Sl.cap_le {e : TypeId} {sz : Nat} {a : Option Addr} {n cap : Nat} {xs : List Value} {A : Fr} (h : Sl e sz a n cap xs A) : cap ≤ maxLen := h.2.2.1

/-- A slice of its first m elements. -/
theorem Sl.take {e : TypeId} {sz : Nat} {a : Option Addr} {n cap : Nat} {xs : List Value} {A : Fr} (h : Sl e sz a n cap xs A) (m : Nat) (hm : m ≤ n) :
    Sl e sz a m cap (xs.take (m * sz)) A := by
  obtain ⟨h1, h2, h3, h4⟩ := h
  have hms : m * sz ≤ n * sz := Nat.mul_le_mul_right _ hm
  refine ⟨by rw [List.length_take]; omega, by omega, h3, ?_⟩
  rcases h4 with ⟨ha, hc, hA⟩ | ⟨b, rest, ha, hl, hA⟩
  · exact .inl ⟨ha, hc, hA⟩
  · refine .inr ⟨b, xs.drop (m * sz) ++ rest, ha, ?_, ?_⟩
    · rw [← List.append_assoc, List.take_append_drop]; exact hl
    · rw [← List.append_assoc, List.take_append_drop]; exact hA

theorem add_lit (b o j : Nat) : (⟨b, o, none⟩ : Addr).add j = ⟨b, o + j, none⟩ := by
  unfold Addr.add; split <;> simp_all

/-- The cells of such a slice. -/
theorem Sl.cell {E w : World} {X R A : Fr} {e : TypeId} {sz : Nat} {a : Option Addr} {n cap : Nat} {xs : List Value} (h : Sl e sz a n cap xs A) (hO : Own E w X) [hp : Pick X A R]
    (ad : Addr) (ha : a = some ad) (j : Nat) (hj : j < xs.length) : w.cell? (ad.add j) = some (xs[j]) := by
  obtain ⟨h1, h2, h3, h4⟩ := h
  rcases h4 with ⟨ha', _, _⟩ | ⟨b, rest, ha', hl, hA⟩
  · rw [ha'] at ha; cases ha
  · rw [ha'] at ha
    obtain rfl := Option.some.inj ha
    have hO1 : Own E w (A ++ R) := hO.perm hp.perm
    subst hA
    rw [add_lit, hO1.cell (b := b)]
    simp [List.getElem?_append_left hj, hj]

theorem Sl.firstCells {P : Program} {E w : World} {X R A : Fr} {e : TypeId} {sz : Nat} {a : Option Addr} {n cap : Nat} {xs : List Value} (h : Sl e sz a n cap xs A) (hO : Own E w X) [hp : Pick X A R] :
    (Builtin.firstCells sz n (.slice a n cap)).run P w = .ok xs.toArray w := by
  cases ha : a with
  | none =>
    have : n = 0 := by
      have h2 := h.2.1
      rcases h.2.2.2 with ⟨_, hc, _⟩ | ⟨b, rest, hb, _⟩
      · omega
      · rw [ha] at hb; cases hb
    have hx : xs = [] := List.eq_nil_of_length_eq_zero (by rw [h.1, this]; simp)
    subst hx
    simp [Builtin.firstCells]
  | some ad =>
    subst ha
    refine run_firstCells_some w sz n ad n cap xs h.1 ?_
    intro j v hj
    obtain ⟨hlt, hv⟩ := List.getElem?_eq_some_iff.1 hj
    rw [h.cell hO ad rfl j hlt, hv]

theorem splice_append (vs : List Value) : ∀ (pre post : List Value), vs.length ≤ post.length → splice (pre ++ post).toArray pre.length vs = (pre ++ vs ++ post.drop vs.length).toArray := by
  induction vs with
  | nil => intro pre post _; simp [splice]
  | cons v vs ih =>
    intro pre post h
    match post, h with
    | p :: post, h =>
      have h' : vs.length ≤ post.length := by simpa using h
      have := ih (pre ++ [v]) post h'
      simp only [splice]
      rw [show ((pre ++ p :: post).toArray.setIfInBounds pre.length v) = ((pre ++ [v]) ++ post).toArray by simp]
      rw [show pre.length + 1 = (pre ++ [v]).length by simp, this]
      simp

section
variable {P : Program} {E w : World} {X A R : Fr} {e : TypeId} {sz bytes : Nat} {a : Option Addr} {n cap : Nat} {xs : List Value}

/-- append, whatever is appended: the cells 'news' of m elements. -/
theorem run_append_slG (t tx ty : TypeId) (i : TypeInfo) (z : Value) (ht : P.underlying t = some (.slice e)) (hi : P.info? e = some i) (hz : i.zero = some z)
    (hsize : i.size = sz) (hby : i.bytes = bytes) (hzs : z.cells.size = sz) (htx : P.underlying tx = some (.slice e) ∨ P.underlying tx = some .string)
    (hO : Own E w X) (hv : Sl e sz a n cap xs A) [hp : Pick X A R] (x : Value) (m : Nat) (news : List Value)
    (hlen : ∀ w, (Builtin.lenOf x).run P w = .ok m w) (hnews : ∀ w', Own E w' X → (Builtin.firstCells sz m x).run P w' = .ok news.toArray w')
    (hl : news.length = m * sz) (h1 : ∀ u ∈ news, u.oneCell' = true) (h63 : n + m ≤ maxLen) (hb : cap < n + m → Builtin.nextslicecap (n + m) cap * bytes ≤ 281474976710656) :
    ∃ a' cap' A' w', (Builtin.append_ #[t, tx] ty #[.slice a n cap, x]).run P w = .ok (.slice a' (n + m) cap') w' ∧ Sl e sz a' (n + m) cap' (xs ++ news) A' ∧ Own E w' (A' ++ R) := by
  subst hsize hby
  have hO1 : Own E w (A ++ R) := hO.perm hp.perm
  have hxs : (xs ++ news).length = (n + m) * i.size := by rw [List.length_append, hv.1, hl, Nat.add_mul]
  by_cases hroom : n + m ≤ cap
  · -- there is room
    rcases hv.2.2.2 with ⟨ha, hc, hA⟩ | ⟨b, rest, ha, hl4, hA⟩
    · subst ha hA
      have hn0 : n = 0 := by omega
      have hm0 : m = 0 := by omega
      subst hn0 hm0
      have hx0 : xs = [] := List.eq_nil_of_length_eq_zero (by simpa using hv.1)
      have hw0 : news = [] := List.eq_nil_of_length_eq_zero (by simpa using hl)
      subst hx0 hw0 hc
      refine ⟨none, 0, [], w, ?_, Sl.nil _ _, hO1⟩
      have hf := hnews w hO
      rcases htx with hu | hu <;> simp [Builtin.append_, run_underlying ht, run_underlying hu, sizeOf, typeInfo, hi, hlen, hf]
    · subst ha hA
      have hf := hnews w hO
      have hn1 : n * i.size = xs.length := hv.1.symm
      obtain ⟨w1, hst, hO2⟩ := run_storeCells_own (P := P) (b := b) (off := n * i.size) (e := e) news 0 (xs ++ rest).toArray w _ R hO1 inferInstance h1 (by
        have hle := Nat.mul_le_mul_right i.size hroom
        simp only [List.size_toArray, hl4]; rw [hl, Nat.add_zero, ← Nat.add_mul]; exact hle)
      have hsp : splice (xs ++ rest).toArray (n * i.size + 0) news = ((xs ++ news) ++ rest.drop news.length).toArray := by
        rw [Nat.add_zero, hn1]
        refine splice_append news xs rest ?_
        have hle := Nat.mul_le_mul_right i.size hroom
        rw [Nat.add_mul, ← hl4, List.length_append, hn1, ← hl] at hle
        omega
      rw [hsp] at hO2
      refine ⟨some ⟨b, 0, none⟩, cap, _, w1, ?_, ⟨hxs, hroom, hv.2.2.1, .inr ⟨b, rest.drop news.length, rfl, ?_, rfl⟩⟩, hO2⟩
      · simp only [Builtin.append_, add_lit]
        rcases htx with hu | hu <;> simp [run_underlying ht, run_underlying hu, sizeOf, typeInfo, hi, hlen, hf, hroom, add_lit, hst]
      · have hle := Nat.mul_le_mul_right i.size hroom
        rw [Nat.add_mul, ← hl] at hle
        rw [← hl4]
        rw [← hl4] at hle
        simp only [List.length_append, List.length_drop] at hle ⊢
        omega
  · -- a new row
    have h63' : ¬ (9223372036854775807 < ((n : Int) + (m : Int))) := by simp only [maxLen] at h63; omega
    have hfit : ¬ (281474976710656 < Builtin.nextslicecap (n + m) cap * i.bytes) := by
      have := hb (by omega)
      omega
    have hf := hnews w.drew hO.drew
    have hfo := hv.firstCells (P := P) hO.drew
    have hO2 := (hO1.drew).alloc (.cells (xs.toArray ++ news.toArray ++ Builtin.zeroCells z.cells (grownCap w (n + m) cap e - (n + m))) e)
    have hge := grownCap_ge w (n + m) cap e
    refine ⟨some ⟨w.heap.size, 0, none⟩, grownCap w (n + m) cap e, pt w.heap.size (.cells ((xs ++ news) ++ (Builtin.zeroCells z.cells (grownCap w (n + m) cap e - (n + m))).toList).toArray e (0, 0)),
      w.drew.alloc (.cells (xs.toArray ++ news.toArray ++ Builtin.zeroCells z.cells (grownCap w (n + m) cap e - (n + m))) e), ?_, ?_, ?_⟩
    · rcases htx with hu | hu <;> simp [Builtin.append_, run_underlying ht, run_underlying hu, sizeOf, typeInfo, zeroValue, hi, hz, hlen, hroom, h63', hfit, Question.forced, hf, hfo, newRow, grownCap] <;> (congr 2; apply Array.ext'; simp [List.append_assoc])
    · refine Sl.mk hxs hge (grownCap_le_maxLen w _ _ _ h63) ?_
      rw [List.length_append, hxs, Array.length_toList, size_zeroCells, hzs, ← Nat.add_mul]
      congr 1
      omega
    · have e1 : (xs.toArray ++ news.toArray ++ Builtin.zeroCells z.cells (grownCap w (n + m) cap e - (n + m))) = ((xs ++ news) ++ (Builtin.zeroCells z.cells (grownCap w (n + m) cap e - (n + m))).toList).toArray := by
        apply Array.ext'; simp
      rw [e1] at hO2
      have hO3 : Own E _ _ := hO2
      have hdr : ((pt w.heap.size (.cells ((xs ++ news) ++ (Builtin.zeroCells z.cells (grownCap w (n + m) cap e - (n + m))).toList).toArray e (0, 0))) ++ (A ++ R)).Perm (A ++ ((pt w.heap.size (.cells ((xs ++ news) ++ (Builtin.zeroCells z.cells (grownCap w (n + m) cap e - (n + m))).toList).toArray e (0, 0))) ++ R)) := by
        rw [← List.append_assoc, ← List.append_assoc]; exact List.Perm.append_right _ List.perm_append_comm
      rw [e1]
      exact (hO3.perm hdr).right


theorem run_append_sl (t tx ty : TypeId) (i : TypeInfo) (z : Value) (ht : P.underlying t = some (.slice e)) (hi : P.info? e = some i) (hz : i.zero = some z)
    (hsize : i.size = sz) (hby : i.bytes = bytes) (hzs : z.cells.size = sz) (htx : P.underlying tx = some (.slice e) ∨ P.underlying tx = some .string)
    (hO : Own E w X) (hv : Sl e sz a n cap xs A) [hp : Pick X A R] (x : Value) (m : Nat) (news : List Value)
    (hlen : ∀ w, (Builtin.lenOf x).run P w = .ok m w) (hnews : ∀ w', Own E w' X → (Builtin.firstCells sz m x).run P w' = .ok news.toArray w')
    (hl : news.length = m * sz) (h1 : ∀ u ∈ news, u.oneCell' = true) (h63 : n + m ≤ maxLen) (hb : (n + m) * bytes ≤ 140737488355328 ∨ (m = 1 ∧ n * bytes ≤ 140737488355328 ∧ bytes ≤ 281474976710656)) :
    ∃ a' cap' A' w', (Builtin.append_ #[t, tx] ty #[.slice a n cap, x]).run P w = .ok (.slice a' (n + m) cap') w' ∧ Sl e sz a' (n + m) cap' (xs ++ news) A' ∧ Own E w' (A' ++ R) := by
  refine run_append_slG t tx ty i z ht hi hz hsize hby hzs htx hO hv x m news hlen hnews hl h1 h63 fun hcap => ?_
  rcases hb with hb | ⟨hm1, hb1, hb2⟩
  · exact growslice_fits hcap hb
  · have hcn : cap = n := by have := hv.2.1; omega
    subst hm1 hcn
    exact growslice_fits_succ hb1 hb2


/-- append of n noughts (the compiler's form of append(s, make([]T, n)...)). -/
theorem run_append_zeros (t tx ty : TypeId) (i : TypeInfo) (z : Value) (ht : P.underlying t = some (.slice e)) (hi : P.info? e = some i) (hz : i.zero = some z)
    (hsize : i.size = sz) (hby : i.bytes = bytes) (hzs : z.cells.size = sz) (htx : P.underlying tx = some (.int .i64))
    (hO : Own E w X) (hv : Sl e sz a n cap xs A) [hp : Pick X A R] (m : Nat)
    (h1 : ∀ u ∈ z.cells.toList, u.oneCell' = true) (h63 : n + m ≤ maxLen) (hbp : 0 < bytes) (hb : (n + m) * bytes ≤ 140737488355328) :
    ∃ a' cap' A' w', (Builtin.append_ #[t, tx] ty #[.slice a n cap, .int .i64 m]).run P w = .ok (.slice a' (n + m) cap') w' ∧ Sl e sz a' (n + m) cap' (xs ++ (Builtin.zeroCells z.cells m).toList) A' ∧ Own E w' (A' ++ R) := by
  subst hsize hby
  have hO1 : Own E w (A ++ R) := hO.perm hp.perm
  have hl : (Builtin.zeroCells z.cells m).toList.length = m * i.size := by rw [Array.length_toList, size_zeroCells, hzs]
  have h1' : ∀ u ∈ (Builtin.zeroCells z.cells m).toList, u.oneCell' = true := by
    intro u hu
    simp only [Builtin.zeroCells, Array.toList_map, List.mem_map] at hu
    obtain ⟨k, hk, rfl⟩ := hu
    have hkm : k < m * z.cells.size := by simpa using hk
    have hpos : 0 < z.cells.size := by
      rcases Nat.eq_zero_or_pos z.cells.size with h0 | h0
      · rw [h0] at hkm; omega
      · exact h0
    have hlt : k % z.cells.size < z.cells.size := Nat.mod_lt _ hpos
    rw [getElem!_pos z.cells (k % z.cells.size) hlt]
    exact h1 _ (Array.getElem_mem_toList hlt)
  have hxs : (xs ++ (Builtin.zeroCells z.cells m).toList).length = (n + m) * i.size := by rw [List.length_append, hv.1, hl, Nat.add_mul]
  have hm1 : (n + m) * 1 ≤ (n + m) * i.bytes := Nat.mul_le_mul_left _ hbp
  have hm2 : m * i.bytes ≤ (n + m) * i.bytes := Nat.mul_le_mul_right _ (by omega)
  have hwrap : IntKind.i64.wrap (m : Int) = m := by
    have h := IntWalk.i64_in (n := (m : Int)) (by omega)
    exact h
  have hnn : ¬ ((m : Int) < 0) := by omega
  have hmb : ¬ (281474976710656 < (m : Int) * (i.bytes : Int)) := by
    have : ((m * i.bytes : Nat) : Int) = (m : Int) * (i.bytes : Int) := by simp
    omega
  have hz0 : m * i.size = 0 → Builtin.zeroCells z.cells m = #[] := by
    intro h0
    apply Array.eq_empty_of_size_eq_zero
    rw [size_zeroCells, hzs]; exact h0
  by_cases hroom : n + m ≤ cap
  · rcases hv.2.2.2 with ⟨ha, hc, hA⟩ | ⟨b, rest, ha, hl4, hA⟩
    · subst ha hA
      have hn0 : n = 0 := by omega
      have hm0 : m = 0 := by omega
      subst hn0 hm0
      have hx0 : xs = [] := List.eq_nil_of_length_eq_zero (by simpa using hv.1)
      subst hx0 hc
      refine ⟨none, 0, [], w, ?_, ?_, hO1⟩
      · simp [Builtin.append_, run_underlying ht, run_underlying htx, sizeOf, typeInfo, hi, asInt, asIntOf, hwrap, hnn, hmb]
        simp at hwrap
        simp [hwrap]
      · have : (Builtin.zeroCells z.cells 0).toList = [] := List.eq_nil_of_length_eq_zero (by rw [hl]; simp)
        rw [this]; exact Sl.nil _ _
    · subst ha hA
      have hn1 : n * i.size = xs.length := hv.1.symm
      obtain ⟨w1, hst, hO2⟩ := run_storeCells_own (P := P) (b := b) (off := n * i.size) (e := e) (Builtin.zeroCells z.cells m).toList 0 (xs ++ rest).toArray w _ R hO1 inferInstance h1' (by
        have hle := Nat.mul_le_mul_right i.size hroom
        simp only [List.size_toArray, hl4]; rw [hl, Nat.add_zero, ← Nat.add_mul]; exact hle)
      have hsp : splice (xs ++ rest).toArray (n * i.size + 0) (Builtin.zeroCells z.cells m).toList = ((xs ++ (Builtin.zeroCells z.cells m).toList) ++ rest.drop (Builtin.zeroCells z.cells m).toList.length).toArray := by
        rw [Nat.add_zero, hn1]
        refine splice_append _ xs rest ?_
        have hle := Nat.mul_le_mul_right i.size hroom
        rw [Nat.add_mul, ← hl4, List.length_append, hn1, ← hl] at hle
        omega
      rw [hsp] at hO2
      refine ⟨some ⟨b, 0, none⟩, cap, _, w1, ?_, ⟨hxs, hroom, hv.2.2.1, .inr ⟨b, rest.drop (Builtin.zeroCells z.cells m).toList.length, rfl, ?_, rfl⟩⟩, hO2⟩
      · simp only [Builtin.append_]
        simp [run_underlying ht, run_underlying htx, sizeOf, typeInfo, hi, asInt, asIntOf, hwrap, hnn, hmb, hroom, add_lit]
        split
        · rename_i h0
          rw [hz0 h0] at hst
          simp at hst
          simp [hst]
        · simp [zeroValue, typeInfo, hi, hz, hst]
      · have hle := Nat.mul_le_mul_right i.size hroom
        rw [Nat.add_mul, ← hl] at hle
        rw [← hl4]
        rw [← hl4] at hle
        simp only [List.length_append, List.length_drop] at hle ⊢
        omega
  · have h63' : ¬ (9223372036854775807 < ((n : Int) + (m : Int)) ) := by omega
    have hfit : ¬ (281474976710656 < Builtin.nextslicecap (n + m) cap * i.bytes) := by
      have hcap : cap < n + m := by omega
      have := growslice_fits hcap hb; omega
    have hfo := hv.firstCells (P := P) hO.drew
    have hO2 := (hO1.drew).alloc (.cells (xs.toArray ++ (Builtin.zeroCells z.cells m) ++ Builtin.zeroCells z.cells (grownCap w (n + m) cap e - (n + m))) e)
    have hge := grownCap_ge w (n + m) cap e
    refine ⟨some ⟨w.heap.size, 0, none⟩, grownCap w (n + m) cap e, pt w.heap.size (.cells ((xs ++ (Builtin.zeroCells z.cells m).toList) ++ (Builtin.zeroCells z.cells (grownCap w (n + m) cap e - (n + m))).toList).toArray e (0, 0)),
      w.drew.alloc (.cells (xs.toArray ++ (Builtin.zeroCells z.cells m) ++ Builtin.zeroCells z.cells (grownCap w (n + m) cap e - (n + m))) e), ?_, ?_, ?_⟩
    · simp [Builtin.append_, run_underlying ht, run_underlying htx, sizeOf, typeInfo, zeroValue, hi, hz, asInt, asIntOf, hwrap, hnn, hmb, hroom, h63', hfit, Question.forced, hfo, newRow, grownCap]
      intro h0
      rw [hz0 h0]
      simp
    · refine Sl.mk hxs hge (grownCap_le_maxLen w _ _ _ h63) ?_
      rw [List.length_append, hxs, Array.length_toList, size_zeroCells, hzs, ← Nat.add_mul]
      congr 1
      omega
    · have e1 : (xs.toArray ++ (Builtin.zeroCells z.cells m) ++ Builtin.zeroCells z.cells (grownCap w (n + m) cap e - (n + m))) = ((xs ++ (Builtin.zeroCells z.cells m).toList) ++ (Builtin.zeroCells z.cells (grownCap w (n + m) cap e - (n + m))).toList).toArray := by
        apply Array.ext'; simp
      rw [e1] at hO2 ⊢
      have hO3 : Own E _ (pt w.heap.size _ ++ (A ++ R)) := hO2
      exact hO3.as _

end
end Go.Own
