/- The pool: frames that hold pages of a disk's file 1, as plain lists. -/
import Derived.Test.YtkkeplobomncgaaMap
import Derived.Test.YtkkeplobomncgaaDisk7
import Derived.Test.YtkkeplobomncgaaArm2
import Derived.Test.YtkkeplobomncgaaArgs
set_option linter.all false
namespace Go.Dk
open Go.Own Go.RowKit

structure Frm where
  blk : Nat
  bb : Nat
  page : Nat
  bytes : List UInt8
  pins : Nat
  changed : Bool
  lately : Bool

def frmF (f : Frm) : Fr := pt f.blk (.cells #[.int .i64 f.page, .slice (some ⟨f.bb, 0, none⟩) 512 512, .int .i64 f.pins, .bool f.changed, .bool f.lately] 106 (0, 0)) ++ pt f.bb (.cells (bytesV f.bytes).toArray 5 (0, 0))
def frmsF (fs : List Frm) : Fr := fs.flatMap frmF
theorem frmsF_nil : frmsF [] = [] := rfl
theorem frmsF_cons (f : Frm) (fs : List Frm) : frmsF (f :: fs) = frmF f ++ frmsF fs := rfl
theorem frmsF_app (a b : List Frm) : frmsF (a ++ b) = frmsF a ++ frmsF b := by simp [frmsF]
def ptrV (f : Frm) : Value := .pointer (some ⟨f.blk, 0, none⟩)
def pairV (f : Frm) : Int × Value := ((f.page : Int), ptrV f)

/-- A page of a file: noughts behind its end. -/
def pgOf (F : List UInt8) (k : Nat) : List UInt8 := (F.drop (512 * k)).take 512 ++ List.replicate (512 - ((F.drop (512 * k)).take 512).length) 0
theorem pgOf_length (F : List UInt8) (k : Nat) : (pgOf F k).length = 512 := by
  simp only [pgOf, List.length_append, List.length_replicate, List.length_take, List.length_drop]
  omega
/-- The byte at a place, nought behind the end. -/
theorem pgOf_get (F : List UInt8) (k i : Nat) (h : i < 512) : (pgOf F k)[i]? = some (F.getD (512 * k + i) 0) := by
  unfold pgOf
  by_cases hi : i < ((F.drop (512 * k)).take 512).length
  · rw [List.getElem?_append_left hi]
    simp only [List.length_take, List.length_drop] at hi
    rw [List.getElem?_take_of_lt h, List.getElem?_drop, List.getD_eq_getElem?_getD, List.getElem?_eq_getElem (by omega)]
    rfl
  · rw [List.getElem?_append_right (by omega)]
    simp only [List.length_take, List.length_drop] at hi ⊢
    rw [List.getElem?_replicate, if_pos (by omega), List.getD_eq_getElem?_getD, List.getElem?_eq_none (by omega)]
    rfl
theorem over_getD (l s : List UInt8) (k i : Nat) : (over l k s).getD i 0 = if k ≤ i ∧ i < k + s.length then s.getD (i - k) 0 else l.getD i 0 := by
  have hg : ∀ i, (l ++ List.replicate (k + s.length - l.length) (0 : UInt8)).getD i 0 = l.getD i 0 := by
    intro i
    simp only [List.getD_eq_getElem?_getD]
    by_cases h : i < l.length
    · rw [List.getElem?_append_left h]
    · rw [List.getElem?_append_right (by omega), List.getElem?_eq_none (l := l) (by omega), List.getElem?_replicate]
      split <;> rfl
  unfold over
  have hml : (l ++ List.replicate (k + s.length - l.length) (0 : UInt8)).length ≥ k + s.length := by simp; omega
  generalize l ++ List.replicate (k + s.length - l.length) (0 : UInt8) = m at hg hml
  have htl : (m.take k).length = k := by rw [List.length_take]; omega
  by_cases h1 : i < k
  · rw [if_neg (by omega), ← hg, List.append_assoc]
    simp only [List.getD_eq_getElem?_getD]
    rw [List.getElem?_append_left (by omega), List.getElem?_take_of_lt h1]
  · by_cases h2 : i < k + s.length
    · rw [if_pos ⟨by omega, h2⟩]
      simp only [List.getD_eq_getElem?_getD]
      rw [List.getElem?_append_left (by simp; omega), List.getElem?_append_right (by omega), htl]
    · rw [if_neg (by omega), ← hg]
      simp only [List.getD_eq_getElem?_getD]
      rw [List.getElem?_append_right (by simp; omega), List.getElem?_drop]
      congr 2
      simp only [List.length_append, htl]
      omega
theorem list_ext {a b : List UInt8} {n : Nat} (ha : a.length = n) (hb : b.length = n) (h : ∀ i, i < n → a[i]? = b[i]?) : a = b := by
  apply List.ext_getElem?
  intro i
  by_cases hi : i < n
  · exact h i hi
  · rw [List.getElem?_eq_none (by omega), List.getElem?_eq_none (by omega)]
theorem pgOf_over_same (F : List UInt8) (k : Nat) (s : List UInt8) (hs : s.length = 512) : pgOf (over F (512 * k) s) k = s := by
  refine list_ext (pgOf_length _ _) hs fun i hi => ?_
  rw [pgOf_get _ _ _ hi, over_getD, if_pos (by omega), List.getElem?_eq_getElem (by omega), List.getD_eq_getElem?_getD, show 512 * k + i - 512 * k = i by omega, List.getElem?_eq_getElem (by omega)]
  rfl
theorem pgOf_over_ne (F : List UInt8) (k j : Nat) (s : List UInt8) (hs : s.length = 512) (h : j ≠ k) : pgOf (over F (512 * k) s) j = pgOf F j := by
  refine list_ext (pgOf_length _ _) (pgOf_length _ _) fun i hi => ?_
  rw [pgOf_get _ _ _ hi, pgOf_get _ _ _ hi, over_getD, if_neg (by omega)]
theorem pgOf_nil (k : Nat) : pgOf [] k = List.replicate 512 0 := by unfold pgOf; rw [List.drop_nil, List.take_nil, List.nil_append, List.length_nil]

/-- The frames hold what the pages hold, or the disk does. -/
structure PInv (most : Nat) (fs : List Frm) (l : List (Int × Value)) (F : List UInt8) (cont : Nat → List UInt8) (pins : Nat → Nat) : Prop where
  len : fs.length ≤ most
  perm : l.Perm (fs.map pairV)
  nodup : (fs.map (·.page)).Nodup
  pg : ∀ f ∈ fs, f.page < 4096 ∧ f.bytes = cont f.page ∧ f.pins = pins f.page
  out : ∀ k, (∀ f ∈ fs, f.page ≠ k) → pins k = 0
  disk : ∀ k, k < 4096 → (∀ f ∈ fs, f.page = k → f.changed = false) → pgOf F k = cont k
  clen : ∀ k, (cont k).length = 512

theorem look_mem {l : List (Int × Value)} (hn : (l.map (·.1)).Nodup) {p : Int × Value} (h : p ∈ l) : mlook l p.1 = some p.2 := by
  induction l with
  | nil => simp at h
  | cons q l ih =>
    simp only [List.map_cons, List.nodup_cons] at hn
    rcases List.mem_cons.1 h with rfl | h
    · simp [mlook]
    · have hne : q.1 ≠ p.1 := fun e => hn.1 (List.mem_map.2 ⟨p, h, e.symm⟩)
      have := ih hn.2 h
      simp only [mlook] at this ⊢
      rw [List.find?_cons_of_neg (by simpa using hne)]
      exact this
theorem look_none_of {l : List (Int × Value)} {k : Int} (h : ∀ p ∈ l, p.1 ≠ k) : mlook l k = none := by
  simp only [mlook, Option.map_eq_none_iff, List.find?_eq_none]
  intro p hp
  simpa using h p hp

theorem pair_keys (fs : List Frm) (h : (fs.map (·.page)).Nodup) : ((fs.map pairV).map (·.1)).Nodup := by
  rw [List.map_map]
  have e : ((fun p : Int × Value => p.1) ∘ pairV) = (fun n : Nat => (n : Int)) ∘ (·.page) := rfl
  rw [e, ← List.map_map]
  exact List.Pairwise.map _ (fun a b hab e => hab (Int.ofNat.inj e)) h
theorem PInv.look_in {most : Nat} {fs : List Frm} {l : List (Int × Value)} {F : List UInt8} {cont : Nat → List UInt8} {pins : Nat → Nat} (h : PInv most fs l F cont pins) {f : Frm} (hf : f ∈ fs) : mlook l (f.page : Int) = some (ptrV f) := by
  have hn : (l.map (·.1)).Nodup := (h.perm.map _).nodup_iff.2 (pair_keys fs h.nodup)
  exact look_mem (p := pairV f) hn (h.perm.mem_iff.2 (List.mem_map.2 ⟨f, hf, rfl⟩))
theorem PInv.look_out {most : Nat} {fs : List Frm} {l : List (Int × Value)} {F : List UInt8} {cont : Nat → List UInt8} {pins : Nat → Nat} (h : PInv most fs l F cont pins) {k : Int} (hk : ∀ f ∈ fs, (f.page : Int) ≠ k) : mlook l k = none := by
  refine look_none_of fun p hp => ?_
  obtain ⟨f, hf, rfl⟩ := List.mem_map.1 (h.perm.mem_iff.1 hp)
  exact hk f hf
/-- Is a page in a frame? -/
theorem page_cases (fs : List Frm) (k : Int) : (∃ pre f post, fs = pre ++ f :: post ∧ (f.page : Int) = k) ∨ ∀ f ∈ fs, (f.page : Int) ≠ k := by
  by_cases h : ∃ f ∈ fs, (f.page : Int) = k
  · obtain ⟨f, hf, hk⟩ := h
    obtain ⟨pre, post, rfl⟩ := List.append_of_mem hf
    exact .inl ⟨pre, f, post, rfl, hk⟩
  · exact .inr fun f hf hk => h ⟨f, hf, hk⟩

theorem nodup_mid {pre post : List Frm} {f : Frm} (h : ((pre ++ f :: post).map (·.page)).Nodup) : ∀ g ∈ pre ++ post, g.page ≠ f.page := by
  intro g hg e
  rw [List.map_append, List.map_cons] at h
  have h2 : ((f.page) :: ((pre.map (·.page)) ++ (post.map (·.page)))).Nodup := (List.perm_middle.nodup_iff).1 h
  rw [List.nodup_cons] at h2
  refine h2.1 ?_
  rw [← List.map_append]
  exact List.mem_map.2 ⟨g, hg, e⟩

/-- A frame is exchanged for another one of the same page. -/
theorem PInv.set {most : Nat} {pre post : List Frm} {f f' : Frm} {l : List (Int × Value)} {F : List UInt8} {cont : Nat → List UInt8} {pins : Nat → Nat} (h : PInv most (pre ++ f :: post) l F cont pins)
    (hb : f'.blk = f.blk) (hp : f'.page = f.page) (hl : f'.bytes.length = 512) (hc : f'.changed = true ∨ (f'.bytes = f.bytes ∧ f'.changed = f.changed)) :
    PInv most (pre ++ f' :: post) l F (upd cont f.page f'.bytes) (upd pins f.page f'.pins) := by
  have hne := nodup_mid h.nodup
  have hmem : ∀ g, g ∈ pre ++ f' :: post ↔ g = f' ∨ g ∈ pre ++ post := by intro g; simp; exact ⟨by rintro (h | h | h) <;> simp [h], by rintro (h | h | h) <;> simp [h]⟩
  have hmem0 : ∀ g, g ∈ pre ++ f :: post ↔ g = f ∨ g ∈ pre ++ post := by intro g; simp; exact ⟨by rintro (h | h | h) <;> simp [h], by rintro (h | h | h) <;> simp [h]⟩
  refine ⟨by simpa using h.len, ?_, ?_, ?_, ?_, ?_, ?_⟩
  · have := h.perm
    rw [List.map_append, List.map_cons] at this ⊢
    have e : pairV f' = pairV f := by simp [pairV, ptrV, hb, hp]
    rw [e]
    exact this
  · have := h.nodup
    rw [List.map_append, List.map_cons] at this ⊢
    rw [hp]
    exact this
  · intro g hg
    rcases (hmem g).1 hg with rfl | hg
    · rw [hp, upd_same, upd_same]
      exact ⟨(h.pg f (by simp)).1, rfl, rfl⟩
    · rw [upd_ne _ _ _ _ (hne g hg), upd_ne _ _ _ _ (hne g hg)]
      exact h.pg g ((hmem0 g).2 (.inr hg))
  · intro k hk
    have hkp : k ≠ f.page := fun e => hk f' ((hmem f').2 (.inl rfl)) (by rw [hp, e])
    rw [upd_ne _ _ _ _ hkp]
    refine h.out k fun g hg => ?_
    rcases (hmem0 g).1 hg with rfl | hg
    · exact fun e => hkp e.symm
    · exact hk g ((hmem g).2 (.inr hg))
  · intro k hk4 hk
    by_cases hkp : k = f.page
    · subst hkp
      rw [upd_same]
      have hf' := hk f' ((hmem f').2 (.inl rfl)) hp
      rcases hc with hc | ⟨hc1, hc2⟩
      · rw [hc] at hf'; cases hf'
      · rw [hc1, (h.pg f (by simp)).2.1]
        refine h.disk _ hk4 fun g hg e => ?_
        rcases (hmem0 g).1 hg with rfl | hg
        · rw [← hc2]; exact hf'
        · exact absurd e (hne g hg)
    · rw [upd_ne _ _ _ _ hkp]
      refine h.disk k hk4 fun g hg e => ?_
      rcases (hmem0 g).1 hg with rfl | hg
      · exact absurd e.symm hkp
      · exact hk g ((hmem g).2 (.inr hg)) e
  · intro k
    simp only [upd]
    split
    · exact hl
    · exact h.clen k
/-- A changed frame is written to the disk. -/
theorem PInv.wrote {most : Nat} {pre post : List Frm} {f : Frm} {l : List (Int × Value)} {F : List UInt8} {cont : Nat → List UInt8} {pins : Nat → Nat} (h : PInv most (pre ++ f :: post) l F cont pins) :
    PInv most (pre ++ { f with changed := false } :: post) l (over F (512 * f.page) f.bytes) cont pins := by
  have hne := nodup_mid h.nodup
  have hfb : f.bytes = cont f.page := (h.pg f (by simp)).2.1
  have hfl : f.bytes.length = 512 := by rw [hfb]; exact h.clen _
  have hmem : ∀ g, g ∈ pre ++ { f with changed := false } :: post ↔ g = { f with changed := false } ∨ g ∈ pre ++ post := by intro g; simp; exact ⟨by rintro (h | h | h) <;> simp [h], by rintro (h | h | h) <;> simp [h]⟩
  have hmem0 : ∀ g, g ∈ pre ++ f :: post ↔ g = f ∨ g ∈ pre ++ post := by intro g; simp; exact ⟨by rintro (h | h | h) <;> simp [h], by rintro (h | h | h) <;> simp [h]⟩
  refine ⟨by simpa using h.len, ?_, ?_, ?_, ?_, ?_, h.clen⟩
  · simpa [pairV, ptrV] using h.perm
  · simpa using h.nodup
  · intro g hg
    rcases (hmem g).1 hg with rfl | hg
    · exact h.pg f (by simp)
    · exact h.pg g ((hmem0 g).2 (.inr hg))
  · intro k hk
    refine h.out k fun g hg => ?_
    rcases (hmem0 g).1 hg with rfl | hg
    · exact fun e => hk _ ((hmem _).2 (.inl rfl)) e
    · exact hk g ((hmem g).2 (.inr hg))
  · intro k hk4 hk
    by_cases hkp : k = f.page
    · subst hkp
      rw [pgOf_over_same _ _ _ hfl, hfb]
    · rw [pgOf_over_ne _ _ _ _ hfl hkp]
      refine h.disk k hk4 fun g hg e => ?_
      rcases (hmem0 g).1 hg with rfl | hg
      · exact absurd e.symm hkp
      · exact hk g ((hmem g).2 (.inr hg)) e
end Go.Dk
