/- Data: what they are, their bytes (plain). -/
import Derived.Lib.ReplaceLaws
import Derived.WalkKit
import Derived.WalkLawsBesides
import Derived.WalkSpells
import Derived.Lib.Hide
import Derived.Deep.Quiet
import Derived.StillTailTactics
import Derived.OrdersHeld
import Derived.Deep.QuietTactic
import Derived.BigQuiet
import Derived.Deep.Slices
import Derived.Deep.Fields
import Derived.ChangeSame
import Derived.SizedLaws
import Derived.Lib.IndexMore
import Derived.Lib.Replace
set_option linter.all false
/- Data: what they are, their bytes (plain). -/
namespace Go.Dt
open Go

structure It where
  k : Int
  n : Int
  s : ByteArray
  m : Nat
  deriving DecidableEq
structure Dt where
  k : Int
  n : Int
  s : ByteArray
  l : List It
  deriving DecidableEq
def i64 (n : Int) : Prop := -9223372036854775808 ≤ n ∧ n < 9223372036854775808
/-- The datum as an item (of a list it is the head). -/
def Dt.hd (d : Dt) : It := ⟨d.k, d.n, d.s, d.l.length⟩
structure Dt.wf (d : Dt) : Prop where
  k : i64 d.k
  n : i64 d.n
  l : ∀ x ∈ d.l, i64 x.k ∧ i64 x.n
/-- May it be, and is it no list? -/
def It.ok (x : It) : Bool := x.m == 0 && ((x.k == 1 && x.s.size == 0) || (x.k == 2 && x.n == 0 && decide (x.s.size ≤ 32)))
def Dt.ok (d : Dt) : Bool := if d.k = 3 then d.n == 0 && d.s.size == 0 && decide (d.l.length ≤ 8) && d.l.all It.ok else d.hd.ok
/-- The j-th of a number's eight bytes. -/
def bt (n : Int) (j : Nat) : UInt8 := UInt8.ofNat ((n + 9223372036854775808).toNat / 256 ^ (7 - j) % 256)
def be8 (n : Int) : List UInt8 := (List.range 8).map (bt n)
def esc (l : List UInt8) : List UInt8 := l.flatMap fun c => if c = 0 then [0, 255] else [c]
def It.enc (x : It) : List UInt8 := if x.k = 1 then 1 :: be8 x.n else 2 :: (esc x.s.data.toList ++ [0, 0])
def Dt.enc (d : Dt) : List UInt8 := if d.k = 3 then 3 :: UInt8.ofNat d.l.length :: d.l.flatMap It.enc else d.hd.enc

theorem esc_inj : ∀ (a b r r' : List UInt8), esc a ++ ([0, 0] ++ r) = esc b ++ ([0, 0] ++ r') → a = b ∧ r = r'
  | [], [], r, r', h => by
    have : [0, 0] ++ r = [0, 0] ++ r' := h
    exact ⟨rfl, List.append_cancel_left this⟩
  | [], d :: b, r, r', h => by
    exfalso
    unfold esc at h
    rw [List.flatMap_cons] at h
    by_cases hd : d = 0
    · rw [if_pos hd] at h
      simp at h
    · rw [if_neg hd] at h
      simp at h
      exact hd h.1.symm
  | c :: a, [], r, r', h => by
    exfalso
    unfold esc at h
    rw [List.flatMap_cons] at h
    by_cases hd : c = 0
    · rw [if_pos hd] at h
      simp at h
    · rw [if_neg hd] at h
      simp at h
      exact hd h.1
  | c :: a, d :: b, r, r', h => by
    unfold esc at h
    rw [List.flatMap_cons, List.flatMap_cons] at h
    by_cases hc : c = 0 <;> by_cases hd : d = 0
    · rw [if_pos hc, if_pos hd, List.append_assoc, List.append_assoc] at h
      obtain ⟨h1, h2⟩ := esc_inj a b r r' (List.append_cancel_left h)
      exact ⟨by rw [hc, hd, h1], h2⟩
    · rw [if_pos hc, if_neg hd] at h
      simp at h
      exact absurd h.1.symm hd
    · rw [if_neg hc, if_pos hd] at h
      simp at h
      exact absurd h.1 hc
    · rw [if_neg hc, if_neg hd] at h
      simp only [List.cons_append, List.nil_append, List.cons.injEq] at h
      obtain ⟨h1, h2⟩ := esc_inj a b r r' h.2
      exact ⟨by rw [h.1, h1], h2⟩
theorem bt_step {a b : Nat} (k : Nat) (h : a / 256 ^ (k + 1) = b / 256 ^ (k + 1)) (h2 : a / 256 ^ k % 256 = b / 256 ^ k % 256) : a / 256 ^ k = b / 256 ^ k := by
  have e : ∀ x : Nat, x / 256 ^ (k + 1) = x / 256 ^ k / 256 := fun x => by rw [Nat.pow_succ, Nat.div_div_eq_div_mul]
  rw [e, e] at h
  omega
theorem be8_inj {a b : Int} (ha : i64 a) (hb : i64 b) (h : be8 a = be8 b) : a = b := by
  have key : ∀ j, j < 8 → (a + 9223372036854775808).toNat / 256 ^ (7 - j) % 256 = (b + 9223372036854775808).toNat / 256 ^ (7 - j) % 256 := fun j hj => by
    have h1 : (be8 a)[j]? = (be8 b)[j]? := by rw [h]
    unfold be8 at h1
    rw [List.getElem?_map, List.getElem?_map, List.getElem?_range hj] at h1
    have h2 : bt a j = bt b j := Option.some.inj h1
    have h3 := congrArg UInt8.toNat h2
    unfold bt at h3
    rw [UInt8.toNat_ofNat', UInt8.toNat_ofNat'] at h3
    have e1 := Nat.mod_lt ((a + 9223372036854775808).toNat / 256 ^ (7 - j)) (show 0 < 256 by decide)
    have e2 := Nat.mod_lt ((b + 9223372036854775808).toNat / 256 ^ (7 - j)) (show 0 < 256 by decide)
    rw [Nat.mod_eq_of_lt (a := _ % 256) (by omega), Nat.mod_eq_of_lt (a := _ % 256) (by omega)] at h3
    exact h3
  obtain ⟨ha1, ha2⟩ := ha
  obtain ⟨hb1, hb2⟩ := hb
  obtain ⟨x, hx⟩ : ∃ x, (a + 9223372036854775808).toNat = x := ⟨_, rfl⟩
  obtain ⟨y, hy⟩ : ∃ y, (b + 9223372036854775808).toNat = y := ⟨_, rfl⟩
  rw [hx, hy] at key
  have hx2 : x < 18446744073709551616 := by omega
  have hy2 : y < 18446744073709551616 := by omega
  have s8 : x / 256 ^ 8 = y / 256 ^ 8 := by
    rw [Nat.div_eq_of_lt (by exact hx2), Nat.div_eq_of_lt (by exact hy2)]
  have s7 := bt_step 7 s8 (key 0 (by decide))
  have s6 := bt_step 6 s7 (key 1 (by decide))
  have s5 := bt_step 5 s6 (key 2 (by decide))
  have s4 := bt_step 4 s5 (key 3 (by decide))
  have s3 := bt_step 3 s4 (key 4 (by decide))
  have s2 := bt_step 2 s3 (key 5 (by decide))
  have s1 := bt_step 1 s2 (key 6 (by decide))
  have s0 := bt_step 0 s1 (key 7 (by decide))
  rw [Nat.pow_zero, Nat.div_one, Nat.div_one] at s0
  omega
theorem be8_len (n : Int) : (be8 n).length = 8 := by unfold be8; rw [List.length_map, List.length_range]
theorem size0 {s : ByteArray} (h : s.size = 0) : s = ByteArray.empty := by
  apply ByteArray.ext
  exact Array.eq_empty_of_size_eq_zero h
theorem It.ok_or {x : It} (h : x.ok = true) : x.m = 0 ∧ ((x.k = 1 ∧ x.s = ByteArray.empty) ∨ (x.k = 2 ∧ x.n = 0 ∧ x.s.size ≤ 32)) := by
  unfold It.ok at h
  simp only [Bool.and_eq_true, Bool.or_eq_true, beq_iff_eq, decide_eq_true_eq] at h
  obtain ⟨h1, h2⟩ := h
  refine ⟨h1, ?_⟩
  rcases h2 with ⟨h2, h3⟩ | ⟨⟨h2, h3⟩, h4⟩
  · exact .inl ⟨h2, size0 h3⟩
  · exact .inr ⟨h2, h3, h4⟩
theorem toList_inj {a b : ByteArray} (h : a.data.toList = b.data.toList) : a = b := by
  apply ByteArray.ext
  exact Array.toList_inj.1 h
theorem It.enc_inj {x y : It} (hx : x.ok = true) (hy : y.ok = true) (wx : i64 x.n) (wy : i64 y.n) {r r' : List UInt8} (h : x.enc ++ r = y.enc ++ r') : x = y ∧ r = r' := by
  obtain ⟨hxm, hx⟩ := It.ok_or hx
  obtain ⟨hym, hy⟩ := It.ok_or hy
  obtain ⟨xk, xn, xs, xm⟩ := x
  obtain ⟨yk, yn, ys, ym⟩ := y
  simp only at hxm hym hx hy wx wy
  unfold It.enc at h
  rcases hx with ⟨rfl, rfl⟩ | ⟨rfl, rfl, hxs⟩ <;> rcases hy with ⟨rfl, rfl⟩ | ⟨rfl, rfl, hys⟩
  · simp only [if_true, List.cons_append, List.cons.injEq, true_and] at h
    obtain ⟨h1, h2⟩ := List.append_inj h (by rw [be8_len, be8_len])
    rw [be8_inj wx wy h1, hxm, hym]
    exact ⟨rfl, h2⟩
  · rw [if_pos rfl, if_neg (show ¬ (2 : Int) = 1 by decide)] at h
    simp at h
  · rw [if_neg (show ¬ (2 : Int) = 1 by decide), if_pos rfl] at h
    simp at h
  · rw [if_neg (show ¬ (2 : Int) = 1 by decide), if_neg (show ¬ (2 : Int) = 1 by decide)] at h
    simp only [List.cons_append, List.cons.injEq, true_and, List.append_assoc] at h
    obtain ⟨h1, h2⟩ := esc_inj _ _ _ _ h
    rw [toList_inj h1, hxm, hym]
    exact ⟨rfl, h2⟩
theorem encs_inj : ∀ (a b : List It) {r r' : List UInt8}, a.length = b.length → (∀ x ∈ a, x.ok = true ∧ i64 x.n) → (∀ x ∈ b, x.ok = true ∧ i64 x.n) → a.flatMap It.enc ++ r = b.flatMap It.enc ++ r' → a = b ∧ r = r'
  | [], [], _, _, _, _, _, h => ⟨rfl, h⟩
  | [], _ :: _, _, _, hl, _, _, _ => by simp at hl
  | _ :: _, [], _, _, hl, _, _, _ => by simp at hl
  | x :: a, y :: b, r, r', hl, ha, hb, h => by
    rw [List.flatMap_cons, List.flatMap_cons, List.append_assoc, List.append_assoc] at h
    obtain ⟨h1, h2⟩ := It.enc_inj (ha x (List.mem_cons_self ..)).1 (hb y (List.mem_cons_self ..)).1 (ha x (List.mem_cons_self ..)).2 (hb y (List.mem_cons_self ..)).2 h
    obtain ⟨h3, h4⟩ := encs_inj a b (by simpa using hl) (fun z hz => ha z (List.mem_cons_of_mem _ hz)) (fun z hz => hb z (List.mem_cons_of_mem _ hz)) h2
    exact ⟨by rw [h1, h3], h4⟩
theorem Dt.ok_list {d : Dt} (hk : d.k = 3) (h : d.ok = true) : d.n = 0 ∧ d.s = ByteArray.empty ∧ d.l.length ≤ 8 ∧ ∀ x ∈ d.l, x.ok = true := by
  unfold Dt.ok at h
  rw [if_pos hk] at h
  simp only [Bool.and_eq_true, beq_iff_eq, decide_eq_true_eq, List.all_eq_true] at h
  exact ⟨h.1.1.1, size0 h.1.1.2, h.1.2, h.2⟩
theorem Dt.ok_one {d : Dt} (hk : d.k ≠ 3) (h : d.ok = true) : d.hd.ok = true := by
  unfold Dt.ok at h
  rwa [if_neg hk] at h
theorem Dt.enc_inj {a b : Dt} (ha : a.ok = true) (hb : b.ok = true) (wa : a.wf) (wb : b.wf) (h : a.enc = b.enc) : a = b := by
  obtain ⟨ak, an, az, al⟩ := a
  obtain ⟨bk, bn, bz, bl⟩ := b
  by_cases h1 : ak = 3 <;> by_cases h2 : bk = 3
  · subst h1 h2
    obtain ⟨x1, x2, x3, x4⟩ := Dt.ok_list rfl ha
    obtain ⟨y1, y2, y3, y4⟩ := Dt.ok_list rfl hb
    simp only at x1 x2 x3 x4 y1 y2 y3 y4
    subst x1 x2 y1 y2
    unfold Dt.enc at h
    simp only [if_true, List.cons.injEq, true_and] at h
    have hl : al.length = bl.length := by
      have := congrArg UInt8.toNat h.1
      rw [UInt8.toNat_ofNat', UInt8.toNat_ofNat'] at this
      omega
    obtain ⟨h3, _⟩ := encs_inj al bl (r := []) (r' := []) hl (fun x hx => ⟨x4 x hx, (wa.l x hx).2⟩) (fun x hx => ⟨y4 x hx, (wb.l x hx).2⟩) (by rw [List.append_nil, List.append_nil]; exact h.2)
    rw [h3]
  · exfalso
    unfold Dt.enc at h
    rw [if_pos h1, if_neg h2] at h
    unfold It.enc at h
    split at h <;> simp at h
  · exfalso
    unfold Dt.enc at h
    rw [if_neg h1, if_pos h2] at h
    unfold It.enc at h
    split at h <;> simp at h
  · have oa := Dt.ok_one h1 ha
    have ob := Dt.ok_one h2 hb
    unfold Dt.enc at h
    rw [if_neg h1, if_neg h2] at h
    obtain ⟨h3, _⟩ := It.enc_inj (r := []) (r' := []) oa ob wa.n wb.n (by rw [h])
    have ma := (It.ok_or oa).1
    have mb := (It.ok_or ob).1
    unfold Dt.hd at h3 ma mb
    simp only [It.mk.injEq] at h3 ma mb
    obtain ⟨rfl, rfl, rfl, _⟩ := h3
    rw [List.eq_nil_of_length_eq_zero ma, List.eq_nil_of_length_eq_zero mb]
theorem esc_len : ∀ l : List UInt8, (esc l).length ≤ 2 * l.length
  | [] => Nat.le_refl _
  | c :: l => by
    have := esc_len l
    unfold esc at this ⊢
    rw [List.flatMap_cons, List.length_append, List.length_cons]
    split
    · simp only [List.length_cons, List.length_nil]; omega
    · simp only [List.length_cons, List.length_nil]; omega
theorem It.enc_len {x : It} (h : x.ok = true) : x.enc.length ≤ 67 := by
  obtain ⟨_, h⟩ := It.ok_or h
  unfold It.enc
  rcases h with ⟨h, _⟩ | ⟨h, _, hs⟩
  · rw [if_pos h, List.length_cons, be8_len]; omega
  · rw [if_neg (by omega), List.length_cons, List.length_append]
    have := esc_len x.s.data.toList
    have e : x.s.data.toList.length = x.s.size := by rw [Array.length_toList]; rfl
    simp only [List.length_cons, List.length_nil]
    omega
end Go.Dt

/- Entries in order (plain). -/
namespace Go.Dt
open Go

structure En where
  d : Dt
  t : Int
  deriving DecidableEq
/-- The order: by the key's bytes, then by the address. -/
def elt (a b : En) : Prop := a.d.enc < b.d.enc ∨ (a.d.enc = b.d.enc ∧ a.t < b.t)
instance (a b : En) : Decidable (elt a b) := inferInstanceAs (Decidable (_ ∨ _))
theorem elt_irrefl (a : En) : ¬ elt a a := by
  rintro (h | ⟨_, h⟩)
  · exact List.lt_irrefl _ h
  · omega
theorem elt_trans {a b c : En} (h1 : elt a b) (h2 : elt b c) : elt a c := by
  rcases h1 with h1 | ⟨h1, h3⟩ <;> rcases h2 with h2 | ⟨h2, h4⟩
  · exact .inl (List.lt_trans h1 h2)
  · exact .inl (h2 ▸ h1)
  · exact .inl (h1 ▸ h2)
  · exact .inr ⟨h1.trans h2, by omega⟩
theorem elt_asymm {a b : En} (h1 : elt a b) (h2 : elt b a) : False := elt_irrefl a (elt_trans h1 h2)
theorem elt_tri (a b : En) : elt a b ∨ (a.d.enc = b.d.enc ∧ a.t = b.t) ∨ elt b a := by
  by_cases h1 : a.d.enc < b.d.enc
  · exact .inl (.inl h1)
  · by_cases h2 : b.d.enc < a.d.enc
    · exact .inr (.inr (.inl h2))
    · have e : a.d.enc = b.d.enc := List.le_antisymm (List.not_lt.1 h2) (List.not_lt.1 h1)
      rcases Int.lt_trichotomy a.t b.t with h | h | h
      · exact .inl (.inr ⟨e, h⟩)
      · exact .inr (.inl ⟨e, h⟩)
      · exact .inr (.inr (.inr ⟨e.symm, h⟩))
def En.ok (e : En) : Prop := e.d.ok = true ∧ e.d.wf ∧ 0 ≤ e.t ∧ e.t < 16777216
theorem En.same {a b : En} (ha : a.ok) (hb : b.ok) (h1 : a.d.enc = b.d.enc) (h2 : a.t = b.t) : a = b := by
  obtain ⟨da, ta⟩ := a
  obtain ⟨db, tb⟩ := b
  have := Dt.enc_inj ha.1 hb.1 ha.2.1 hb.2.1 h1
  simp only at this h2
  rw [this, h2]
/-- Entries as a method holds them. -/
structure Es (l : List En) : Prop where
  up : l.Pairwise elt
  ok : ∀ e ∈ l, e.ok
/-- An entry put among others: ahead of the first one that is behind it. -/
def wiE (e : En) : List En → List En
  | [] => [e]
  | x :: l => if elt e x then e :: x :: l else x :: wiE e l
theorem wiE_perm (e : En) : ∀ l, (wiE e l).Perm (e :: l)
  | [] => .refl _
  | x :: l => by
    unfold wiE
    split
    · exact .refl _
    · exact (List.Perm.cons x (wiE_perm e l)).trans (List.Perm.swap e x l)
theorem wiE_at (e : En) : ∀ (l : List En) (at_ : Nat), at_ ≤ l.length → (∀ i (h : i < l.length), i < at_ → elt l[i] e) → (∀ i (h : i < l.length), at_ ≤ i → elt e l[i]) → wiE e l = l.take at_ ++ e :: l.drop at_
  | [], at_, _, _, _ => by
    unfold wiE
    rw [List.take_nil, List.drop_nil]
    rfl
  | x :: l, 0, _, _, h2 => by
    unfold wiE
    rw [if_pos (show elt e x from h2 0 (Nat.succ_pos _) (Nat.zero_le _))]
    rfl
  | x :: l, at_ + 1, h0, h1, h2 => by
    unfold wiE
    rw [if_neg (show ¬ elt e x from fun h => elt_asymm h (h1 0 (Nat.succ_pos _) (Nat.succ_pos _))), wiE_at e l at_ (Nat.le_of_succ_le_succ h0) (fun i hi h => h1 (i + 1) (Nat.succ_lt_succ hi) (Nat.succ_lt_succ h)) (fun i hi h => h2 (i + 1) (Nat.succ_lt_succ hi) (Nat.succ_le_succ h))]
    rfl
theorem Es.ins {l : List En} {e : En} (h : Es l) (he : e.ok) (hn : e ∉ l) : Es (wiE e l) := by
  refine ⟨?_, fun x hx => ?_⟩
  · obtain ⟨hu, ho⟩ := h
    induction l with
    | nil => exact List.pairwise_singleton _ _
    | cons x l ih =>
      have hu' := List.pairwise_cons.1 hu
      unfold wiE
      split
      · rename_i hx
        exact List.pairwise_cons.2 ⟨fun y hy => by
          rcases List.mem_cons.1 hy with rfl | hy
          · exact hx
          · exact elt_trans hx (hu'.1 y hy), hu⟩
      · rename_i hx
        refine List.pairwise_cons.2 ⟨fun y hy => ?_, ih (fun hm => hn (List.mem_cons_of_mem _ hm)) hu'.2 fun y hy => ho y (List.mem_cons_of_mem _ hy)⟩
        rcases List.mem_cons.1 ((wiE_perm e l).mem_iff.1 hy) with rfl | hy
        · rcases elt_tri x y with h | ⟨h1, h2⟩ | h
          · exact h
          · exact absurd (En.same (ho x (List.mem_cons_self ..)) he h1 h2) fun e => hn (e ▸ List.mem_cons_self ..)
          · exact absurd h hx
        · exact hu'.1 y hy
  · rcases List.mem_cons.1 ((wiE_perm e l).mem_iff.1 hx) with rfl | hx
    · exact he
    · exact h.ok x hx
theorem Es.cut {l : List En} (h : Es l) (at_ : Nat) : Es (l.take at_ ++ l.drop (at_ + 1)) := by
  have hs : (l.take at_ ++ l.drop (at_ + 1)).Sublist l := by
    have h1 : (l.drop (at_ + 1)).Sublist (l.drop at_) := by
      rw [← List.drop_drop]
      exact List.drop_sublist 1 _
    have h2 := List.Sublist.append (List.Sublist.refl (l.take at_)) h1
    rwa [List.take_append_drop] at h2
  exact ⟨h.up.sublist hs, fun e he => h.ok e (hs.subset he)⟩
theorem Es.ne {l : List En} (h : Es l) {i j : Nat} (hi : i < l.length) (hj : j < l.length) (hij : i ≠ j) : l[i] ≠ l[j] := by
  have hp := List.pairwise_iff_getElem.1 h.up
  intro e
  rcases Nat.lt_or_gt_of_ne hij with h1 | h1
  · have := hp i j hi hj h1
    rw [e] at this
    exact elt_irrefl _ this
  · have := hp j i hj hi h1
    rw [e] at this
    exact elt_irrefl _ this
def woE (l : List En) (e : En) : List En := l.filter fun x => decide (x ≠ e)
theorem woE_at {l : List En} (h : Es l) (at_ : Nat) (ha : at_ < l.length) : woE l l[at_] = l.take at_ ++ l.drop (at_ + 1) := by
  have e1 : l = l.take at_ ++ (l[at_] :: l.drop (at_ + 1)) := by rw [List.getElem_cons_drop, List.take_append_drop]
  have h1 : ∀ x ∈ l.take at_, x ≠ l[at_] := fun x hx => by
    obtain ⟨i, hi, rfl⟩ := List.mem_iff_getElem.1 hx
    rw [List.length_take] at hi
    rw [List.getElem_take]
    exact h.ne (by omega) ha (by omega)
  have h2 : ∀ x ∈ l.drop (at_ + 1), x ≠ l[at_] := fun x hx => by
    obtain ⟨i, hi, rfl⟩ := List.mem_iff_getElem.1 hx
    rw [List.length_drop] at hi
    rw [List.getElem_drop]
    exact h.ne (by omega) ha (by omega)
  generalize l[at_] = e at e1 h1 h2 ⊢
  unfold woE
  conv => lhs; rw [e1]
  rw [List.filter_append, List.filter_cons_of_neg (by simp), List.filter_eq_self.2 fun x hx => by simpa using h1 x hx, List.filter_eq_self.2 fun x hx => by simpa using h2 x hx]
/-- The entries of a key. -/
def keyE (l : List En) (d : Dt) : List En := l.filter fun x => decide (x.d = d)
end Go.Dt

/- A small separation logic over the model's worlds: 'Own E w X' says that the blocks listed in X are all different and hold what X says, and that the world's streams and tape are E's. -/
namespace Go.Own
open Go.RowKit

abbrev Fr := List (Nat × Obj)
def pt (b : Nat) (o : Obj) : Fr := [(b, o)]

structure Own (E w : World) (X : Fr) : Prop where
  os : w.os = E.os
  tape : w.tape = E.tape
  output : w.output = E.output
  nodup : (X.map (·.1)).Nodup
  mem : ∀ p ∈ X, w.heap[p.1]? = some p.2

theorem Own.perm {E w : World} {X Y : Fr} (h : Own E w X) (p : X.Perm Y) : Own E w Y :=
  ⟨h.os, h.tape, h.output, (p.map _).nodup_iff.1 h.nodup, fun q hq => h.mem q (p.mem_iff.2 hq)⟩

theorem Own.right {E w : World} {A R : Fr} (h : Own E w (A ++ R)) : Own E w R :=
  ⟨h.os, h.tape, h.output, by have := h.nodup; rw [List.map_append] at this; exact (List.nodup_append.1 this).2.1,
   fun q hq => h.mem q (List.mem_append.2 (.inr hq))⟩

theorem Own.left {E w : World} {A R : Fr} (h : Own E w (A ++ R)) : Own E w A :=
  ⟨h.os, h.tape, h.output, by have := h.nodup; rw [List.map_append] at this; exact (List.nodup_append.1 this).1,
   fun q hq => h.mem q (List.mem_append.2 (.inl hq))⟩

theorem Own.lt {E w : World} {X : Fr} (h : Own E w X) {b : Nat} {o : Obj} (hb : (b, o) ∈ X) : b < w.heap.size := by
  have := h.mem _ hb
  exact (Array.getElem?_eq_some_iff.1 this).1

theorem Own.alloc {E w : World} {X : Fr} (h : Own E w X) (o : Obj) : Own E (w.alloc o) (pt w.heap.size o ++ X) := by
  refine ⟨h.os, h.tape, h.output, ?_, ?_⟩
  · simp only [pt, List.cons_append, List.nil_append, List.map_cons, List.nodup_cons]
    refine ⟨?_, h.nodup⟩
    intro hm
    obtain ⟨⟨b, o'⟩, hq, hb⟩ := List.mem_map.1 hm
    have := h.lt hq
    simp at hb
    omega
  · intro p hp
    rcases List.mem_append.1 hp with hp | hp
    · simp only [pt, List.mem_singleton] at hp
      subst hp
      show (w.heap.push o)[w.heap.size]? = _
      simp
    · have hl := h.lt hp
      show (w.heap.push o)[p.1]? = _
      rw [Array.getElem?_push, if_neg (by omega)]
      exact h.mem p hp

theorem Own.drew {E w : World} {X : Fr} (h : Own E w X) : Own E w.drew X := ⟨h.os, h.tape, h.output, h.nodup, h.mem⟩
theorem Own.drewN {E w : World} {X : Fr} (h : Own E w X) (n : Nat) : Own E (w.drewN n) X := ⟨h.os, h.tape, h.output, h.nodup, h.mem⟩

theorem Own.fresh {E w : World} {b : Nat} {o : Obj} {R : Fr} (h : Own E w (pt b o ++ R)) : ∀ p ∈ R, p.1 ≠ b := by
  intro p hp e
  have := h.nodup
  simp only [pt, List.cons_append, List.nil_append, List.map_cons, List.nodup_cons] at this
  exact this.1 (List.mem_map.2 ⟨p, hp, e⟩)

/-- A block of ours is exchanged for another. -/
theorem Own.modify {E w w' : World} {b : Nat} {o o' : Obj} {R : Fr} (h : Own E w (pt b o ++ R)) (hos : w'.os = w.os) (ht : w'.tape = w.tape) (hout : w'.output = w.output)
    (hb : w'.heap[b]? = some o') (hne : ∀ k, k ≠ b → w'.heap[k]? = w.heap[k]?) : Own E w' (pt b o' ++ R) := by
  refine ⟨hos.trans h.os, ht.trans h.tape, hout.trans h.output, ?_, ?_⟩
  · have := h.nodup
    simpa [pt] using this
  · intro p hp
    rcases List.mem_append.1 hp with hp | hp
    · simp only [pt, List.mem_singleton] at hp
      subst hp
      exact hb
    · rw [hne _ (h.fresh p hp)]
      exact h.mem p (List.mem_append.2 (.inr hp))

/-! Finding a block in a list of blocks -/

class Has (X : Fr) (b : Nat) (o : outParam Obj) : Prop where
  mem : (b, o) ∈ X
instance (b : Nat) (o : Obj) : Has (pt b o) b o := ⟨by simp [pt]⟩
instance (A R : Fr) (b : Nat) (o : Obj) [h : Has A b o] : Has (A ++ R) b o := ⟨List.mem_append.2 (.inl h.mem)⟩
instance (A R : Fr) (b : Nat) (o : Obj) [h : Has R b o] : Has (A ++ R) b o := ⟨List.mem_append.2 (.inr h.mem)⟩

class PickPt (X : Fr) (b : Nat) (o : outParam Obj) (R : outParam Fr) : Prop where
  perm : X.Perm (pt b o ++ R)
instance (b : Nat) (o : Obj) (R : Fr) : PickPt (pt b o ++ R) b o R := ⟨.refl _⟩
instance (b : Nat) (o : Obj) : PickPt (pt b o) b o [] := ⟨by simp [pt]⟩
instance (A X R : Fr) (b : Nat) (o : Obj) [h : PickPt X b o R] : PickPt (A ++ X) b o (A ++ R) :=
  ⟨(List.Perm.append_left A h.perm).trans (by rw [← List.append_assoc, ← List.append_assoc]; exact List.Perm.append_right _ List.perm_append_comm)⟩

instance (A X R : Fr) (b : Nat) (o : Obj) [h : PickPt A b o R] : PickPt (A ++ X) b o (R ++ X) :=
  ⟨(List.Perm.append_right X h.perm).trans (by rw [List.append_assoc])⟩

class Pick (X : Fr) (A : Fr) (R : outParam Fr) : Prop where
  perm : X.Perm (A ++ R)
instance pickNil (X : Fr) : Pick X [] X := ⟨.refl _⟩
instance pickAll (A : Fr) : Pick A A [] := ⟨by simp⟩
instance pickHere (A R : Fr) : Pick (A ++ R) A R := ⟨.refl _⟩
instance pickSkip (B X A R : Fr) [h : Pick X A R] : Pick (B ++ X) A (B ++ R) :=
  ⟨(List.Perm.append_left B h.perm).trans (by rw [← List.append_assoc, ← List.append_assoc]; exact List.Perm.append_right _ List.perm_append_comm)⟩
instance pickLeft (B X A R : Fr) [h : Pick B A R] : Pick (B ++ X) A (R ++ X) :=
  ⟨(List.Perm.append_right X h.perm).trans (by rw [List.append_assoc])⟩
instance (priority := high) pickTwo (X A B R S : Fr) [h : Pick X A R] [k : Pick R B S] : Pick X (A ++ B) S :=
  ⟨h.perm.trans (by rw [List.append_assoc]; exact List.Perm.append_left A k.perm)⟩

theorem Own.pickPt {E w : World} {X R : Fr} {b : Nat} {o : Obj} (h : Own E w X) [k : PickPt X b o R] : Own E w (pt b o ++ R) := h.perm k.perm
theorem Own.pick {E w : World} {X : Fr} (h : Own E w X) (A : Fr) {R : Fr} [k : Pick X A R] : Own E w (A ++ R) := h.perm k.perm
/-- What is listed, in another order (and less). -/
theorem Own.as {E w : World} {X : Fr} (h : Own E w X) (A : Fr) {R : Fr} [k : Pick X A R] : Own E w A := (h.perm k.perm).left

theorem Own.get {E w : World} {X : Fr} {b : Nat} {o : Obj} (h : Own E w X) [k : Has X b o] : w.heap[b]? = some o := h.mem _ k.mem
theorem Own.hasLt {E w : World} {X : Fr} {b : Nat} {o : Obj} (h : Own E w X) [k : Has X b o] : b < w.heap.size := h.lt k.mem
theorem Own.cell {E w : World} {X : Fr} {b : Nat} {cs : Array Value} {e : TypeId} {f : Nat × Nat} (h : Own E w X) [k : Has X b (.cells cs e f)] (i : Nat) :
    w.cell? ⟨b, i, none⟩ = cs[i]? := by
  simp [World.cell?, h.get (b := b)]

/-- Two blocks of ours are not one. -/
theorem Own.ne {E w : World} {X R : Fr} {b b' : Nat} {o o' : Obj} (h : Own E w X) [k : PickPt X b o R] [k' : Has R b' o'] : b' ≠ b :=
  (h.perm k.perm).fresh _ k'.mem

theorem Own.setCell {E w : World} {X R : Fr} {b : Nat} {cs : Array Value} {e : TypeId} {f : Nat × Nat} (h : Own E w X) [k : PickPt X b (.cells cs e f) R] (i : Nat) (v : Value) :
    Own E (w.setCell ⟨b, i, none⟩ v) (pt b (.cells (cs.setIfInBounds i v) e f) ++ R) := by
  have h' := h.pickPt (b := b)
  have hg : w.heap[b]? = some (.cells cs e f) := h'.get
  refine h'.modify rfl rfl rfl ?_ ?_
  · simp only [World.setCell, Array.getElem?_modify, hg]; simp
  · intro k hk
    exact Below.heap_setCell _ _ _ _ hk


/-! What the blocks of ours hold, cell by cell: rules for the walk -/

def cellsOf (w : World) : Fr → Prop
  | [] => True
  | (b, .cells cs _ f) :: r => ((∀ i, w.cell? ⟨b, i, none⟩ = cs[i]?) ∧ (∀ i, w.frozen? ⟨b, i, none⟩ = (decide (f.1 ≤ i) && decide (i < f.2)))) ∧ cellsOf w r
  | _ :: r => cellsOf w r

theorem cellsOf_append (w : World) (A R : Fr) : cellsOf w (A ++ R) = (cellsOf w A ∧ cellsOf w R) := by
  induction A with
  | nil => simp [cellsOf]
  | cons p A ih =>
    obtain ⟨b, o⟩ := p
    cases o <;> simp [cellsOf, ih, and_assoc]
theorem cellsOf_pt (w : World) (b : Nat) (cs : Array Value) (e : TypeId) : cellsOf w (pt b (.cells cs e (0, 0))) = ((∀ i, w.cell? ⟨b, i, none⟩ = cs[i]?) ∧ (∀ i, w.frozen? ⟨b, i, none⟩ = false)) := by
  simp [cellsOf, pt]

theorem Own.cells {E w : World} {X : Fr} (h : Own E w X) : cellsOf w X := by
  have : ∀ Y : Fr, (∀ p ∈ Y, w.heap[p.1]? = some p.2) → cellsOf w Y := by
    intro Y
    induction Y with
    | nil => intro _; trivial
    | cons p Y ih =>
      intro hm
      have hY := ih (fun q hq => hm q (List.mem_cons_of_mem _ hq))
      have hp := hm p (List.mem_cons_self ..)
      obtain ⟨b, o⟩ := p
      cases o <;> simp only [cellsOf] <;> first
        | exact hY
        | (refine ⟨⟨fun i => ?_, fun i => ?_⟩, hY⟩
           · simp only [World.cell?]; rw [hp]; rfl
           · simp only [World.frozen?]; rw [hp])
  exact this X h.mem

/-! The operations that make or write memory, one law each. What follows is asked of every world in which the new list of blocks holds. -/
section laws
variable {P : Program} {ops : Array Oper} {Q : Exit → Act → World → Prop} {rest : List Oper} {a : Act} {E w : World} {X R : Fr} {d : Option Tmp} {ty : TypeId} {pos : String} {aft : Array Edge} {g : Option (Nat × Bool)}

theorem wpList_run_value {o : Oper} {v : Value} {w1 : World} (hw : Region.wanted o (yielded ops a.tmps) = true) (hr : (execOp a.eval o).run P w = .ok (.value v) w1)
    (next : wpList P ops Q rest (a.put o.dst v) w1) : wpList P ops Q (o :: rest) a w := by
  unfold wpList
  rw [if_pos hw]
  refine .inl ?_
  unfold Oper.wp
  rw [hr]
  exact next
theorem wpList_run_skip {o : Oper} {w1 : World} (hw : Region.wanted o (yielded ops a.tmps) = true) (hr : (execOp a.eval o).run P w = .ok .skip w1)
    (next : wpList P ops Q rest (a.put o.dst undef) w1) : wpList P ops Q (o :: rest) a w := by
  unfold wpList
  rw [if_pos hw]
  refine .inl ?_
  unfold Oper.wp
  rw [hr]
  exact next

theorem own_alloc {t : TypeId} {z : Value} (hO : Own E w X) (hw : Region.wanted ⟨d, .alloc t, ty, pos, aft, g⟩ (yielded ops a.tmps) = true)
    (hz : (zeroValue t).run P w = .ok z w)
    (next : ∀ b w1, Own E w1 (pt b (.cells z.cells t) ++ X) → wpList P ops Q rest (a.put d (.pointer (some ⟨b, 0, none⟩))) w1) :
    wpList P ops Q (⟨d, .alloc t, ty, pos, aft, g⟩ :: rest) a w := by
  refine wpList_run_value (v := .pointer (some ⟨w.heap.size, 0, none⟩)) (w1 := w.alloc (.cells z.cells t)) hw ?_ (next _ _ (hO.alloc _))
  simp [execOp, Instr.alloc, hz, newVar, newRow]

theorem own_box {t : TypeId} {x : Operand} {v : Value} (hO : Own E w X) (hw : Region.wanted ⟨d, .box t x, ty, pos, aft, g⟩ (yielded ops a.tmps) = true)
    (hx : a.eval x = v)
    (next : ∀ b w1, Own E w1 (pt b (.cells v.cells t) ++ X) → wpList P ops Q rest (a.put d (.pointer (some ⟨b, 0, none⟩))) w1) :
    wpList P ops Q (⟨d, .box t x, ty, pos, aft, g⟩ :: rest) a w := by
  refine wpList_run_value (v := .pointer (some ⟨w.heap.size, 0, none⟩)) (w1 := w.alloc (.cells v.cells t)) hw ?_ (next _ _ (hO.alloc _))
  simp [execOp, Instr.box, hx, newVar, newRow]

/-- What a store of these cells makes of a row. -/
def splice (cs : Array Value) (i : Nat) : List Value → Array Value
  | [] => cs
  | v :: vs => splice (cs.setIfInBounds i v) (i + 1) vs

theorem splice_size (vs : List Value) : ∀ (cs : Array Value) (i : Nat), (splice cs i vs).size = cs.size := by
  induction vs with
  | nil => intro cs i; rfl
  | cons v vs ih => intro cs i; simp [splice, ih]

theorem run_storeCells_own {b off : Nat} {e : TypeId} (vs : List Value) : ∀ (i : Nat) (cs : Array Value) (w : World) (X R : Fr), Own E w X → PickPt X b (.cells cs e (0, 0)) R →
    (∀ v ∈ vs, v.oneCell' = true) → off + i + vs.length ≤ cs.size →
    ∃ w1, (storeCells ⟨b, off, none⟩ vs i).run P w = .ok () w1 ∧ Own E w1 (pt b (.cells (splice cs (off + i) vs) e (0, 0)) ++ R) := by
  induction vs with
  | nil => intro i cs w X R hO hp _ _; exact ⟨w, rfl, hO.pickPt⟩
  | cons v vs ih =>
    intro i cs w X R hO hp h1 hl
    have hg : w.heap[b]? = some (.cells cs e (0, 0)) := (hO.pickPt (b := b)).get
    have hadd : (⟨b, off, none⟩ : Addr).add i = ⟨b, off + i, none⟩ := by unfold Addr.add; split <;> simp_all
    have hlt : off + i < cs.size := by simp at hl; omega
    have hc : w.cell? ⟨b, off + i, none⟩ = some cs[off + i] := by simp [World.cell?, hg, hlt]
    have hf : w.frozen? ⟨b, off + i, none⟩ = false := by simp [World.frozen?, hg]
    have hO1 := hO.setCell (b := b) (off + i) v
    obtain ⟨w1, hr, hO2⟩ := ih (i + 1) (cs.setIfInBounds (off + i) v) _ _ R hO1 ⟨.refl _⟩ (fun u hu => h1 u (List.mem_cons_of_mem _ hu)) (by simp at hl ⊢; omega)
    refine ⟨w1, ?_, hO2⟩
    have hs := run_store P w ⟨b, off + i, none⟩ v .plain (h1 v (List.mem_cons_self ..))
    simp only [hc, hf, Bool.false_eq_true, if_false] at hs
    simp only [storeCells, hadd, Sem.run_bind, hs, Result.andThen_ok]
    exact hr

theorem own_store {t : TypeId} {x y : Operand} {v : Value} {b off : Nat} {cs : Array Value} {e : TypeId} (hO : Own E w X) (hw : Region.wanted ⟨d, .store t x y, ty, pos, aft, g⟩ (yielded ops a.tmps) = true)
    (hx : a.eval x = .pointer (some ⟨b, off, none⟩)) (hy : a.eval y = v) [hp : PickPt X b (.cells cs e (0, 0)) R]
    (hs : (sizeOf t).run P w = .ok v.cells.size w) (h1 : ∀ u ∈ v.cells.toList, u.oneCell' = true) (hl : off + v.cells.size ≤ cs.size)
    (next : ∀ w1, Own E w1 (pt b (.cells (splice cs off v.cells.toList) e (0, 0)) ++ R) → wpList P ops Q rest (a.put d undef) w1) :
    wpList P ops Q (⟨d, .store t x y, ty, pos, aft, g⟩ :: rest) a w := by
  obtain ⟨w1, hr, hO1⟩ := run_storeCells_own (P := P) (off := off) v.cells.toList 0 cs w X R hO hp h1 (by simpa using hl)
  refine wpList_run_skip (w1 := w1) hw ?_ (next w1 hO1)
  simp [execOp, Instr.storeAt, Instr.sureAddr, hx, hy, storeVar, hs, hr]

end laws
/-! A region that draws its order: the operations that only look ('true') are taken first, whatever the tape says; each of the others ('false') is the only one that may come up when its turn is there. -/
section mix
variable {P : Program} {ops : Array Oper} {Q : Exit → Act → World → Prop} {S : World → Prop}

def mixB (ops : Array Oper) : List (Nat × Bool) → Array Bool → Bool
  | [], listed => (Region.ready .any ops listed).isEmpty
  | (i, true) :: s, listed => (Region.ready .any ops listed).contains i && Region.free .any ops listed i && mixB ops s (listed.setIfInBounds i true)
  | (i, false) :: s, listed => decide (Region.ready .any ops listed = [i]) && mixB ops s (listed.setIfInBounds i true)

def mixL (P : Program) (ops : Array Oper) (Q : Exit → Act → World → Prop) (S : World → Prop) : List (Oper × Bool) → Act → World → Prop
  | [], a, w => Q .normal a w
  | (o, true) :: r, a, w => ∃ v, YieldsIf P ops S o v a ∧ mixL P ops Q S r (a.put o.dst v) w
  | (o, false) :: r, a, w => wpList P ops (fun e a' w' => match e with | .normal => S w' ∧ mixL P ops Q S r a' w' | e => Q e a' w') [o] a w

def mixOps (ops : Array Oper) (s : List (Nat × Bool)) : List (Oper × Bool) := s.map fun p => (ops.getD p.1 default, p.2)

theorem wpAnyH_of_mix (hsel : Region.noSelect ops = true) (hQ : ∀ c a d v w, Q (.panic c) (a.put d v) w → Q (.panic c) a w) : ∀ (s : List (Nat × Bool)) (listed : Array Bool) (a : Act) (w : World), mixB ops s listed = true → S w →
    mixL P ops Q S (mixOps ops s) a w → wpAnyH P .any ops Q S s.length listed a w
  | [], listed, a, w, hB, _, h => ⟨by simpa [mixB] using hB, h⟩
  | (i, true) :: s, listed, a, w, hB, hS, h => by
    simp only [mixB, Bool.and_eq_true] at hB
    obtain ⟨⟨hr, hf⟩, hB'⟩ := hB
    have hr' : i ∈ Region.ready .any ops listed := by simpa using hr
    obtain ⟨_, o, ho, _⟩ := mem_ready.1 hr'
    simp only [mixOps, List.map_cons, mixL] at h
    have hd : ops.getD i default = o := by simp [ho]
    rw [hd] at h
    obtain ⟨v, hy, h⟩ := h
    exact wpAnyH_first ho (Region.noSelect_spec hsel) (fun c a w => hQ c a _ _ w) s.length listed a w (Region.free_spec ho hf) hr' hy hS
      (wpAnyH_of_mix hsel hQ s _ _ _ hB' hS h)
  | (i, false) :: s, listed, a, w, hB, hS, h => by
    simp only [mixB, Bool.and_eq_true, decide_eq_true_eq] at hB
    obtain ⟨hr, hB'⟩ := hB
    have hr' : i ∈ Region.ready .any ops listed := by rw [hr]; simp
    obtain ⟨_, o, ho, _⟩ := mem_ready.1 hr'
    simp only [mixOps, List.map_cons, mixL] at h
    have hd : ops.getD i default = o := by simp [ho]
    rw [hd] at h
    refine ⟨fun h0 => (by rw [h0] at hr; cases hr), fun j hj => ?_⟩
    rw [hr] at hj
    have hji : j = i := by simpa using hj
    subst hji
    unfold wpOp
    simp only [ho]
    unfold wpList at h
    split at h
    · rename_i hw
      rw [if_pos hw]
      rcases h with h | h
      · refine .inl ?_
        unfold Oper.wp at *
        generalize (execOp a.eval o).run P w = r at *
        have fin : ∀ a' w', wpList P ops (fun e a' w' => match e with | .normal => S w' ∧ mixL P ops Q S (mixOps ops s) a' w' | e => Q e a' w') [] a' w' →
            S w' ∧ wpAnyH P .any ops Q S s.length (listed.setIfInBounds j true) a' w' := fun a' w' h => ⟨h.1, wpAnyH_of_mix hsel hQ s _ _ _ hB' h.1 h.2⟩
        cases r with
        | ok n w' =>
          cases n <;> simp only [Oper.upon] at h ⊢ <;> first
            | exact fin _ _ h
            | exact Calls.mono h (fun e w'' he => by cases e <;> first | exact fin _ _ he | exact he)
            | exact Rows.mono h (fun _ _ he => fin _ _ he)
        | halt x w' => cases x <;> simp only [Oper.upon] at h ⊢ <;> exact h
      · exact .inr h
    · rename_i hw
      rw [if_neg hw]
      exact ⟨h.1, wpAnyH_of_mix hsel hQ s _ _ _ hB' h.1 h.2⟩

theorem region_mix {id : Nat} {a : Act} {w : World} {l : List Oper} (S : World → Prop) (s : List (Nat × Bool)) (hm : P.follows .mixedOrders = true)
    (hB : (Region.noSelect l.toArray && decide (s.length = l.length) && mixB l.toArray s (Array.replicate l.length false)) = true)
    (hQ : ∀ c a d v w, Q (.panic c) (a.put d v) w → Q (.panic c) a w) (hS : S w.drew)
    (h : mixL P l.toArray Q S (mixOps l.toArray s) a w.drew) : (Code.region id l.toArray true).wp P Q a w := by
  simp only [Bool.and_eq_true, decide_eq_true_eq] at hB
  obtain ⟨⟨hsel, hlen⟩, hB⟩ := hB
  refine wp_region_any hm (wpAny_of_held (S := S) _ _ _ _ ?_)
  have := wpAnyH_of_mix hsel hQ s _ a w.drew hB hS h
  rw [hlen] at this
  simpa using this

theorem mix_look {o : Oper} {r : List (Oper × Bool)} {a : Act} {w : World} {v : Value} (hw : Region.wanted o (yielded ops a.tmps) = true) (hy : ∀ w, S w → (execOp a.eval o).run P w = .ok (.value v) w)
    (h : mixL P ops Q S r (a.put o.dst v) w) : mixL P ops Q S ((o, true) :: r) a w := ⟨v, .inl ⟨hw, hy⟩, h⟩
theorem mix_pass {o : Oper} {r : List (Oper × Bool)} {a : Act} {w : World} (hw : Region.wanted o (yielded ops a.tmps) = false)
    (h : mixL P ops Q S r (a.put o.dst undef) w) : mixL P ops Q S ((o, true) :: r) a w := ⟨undef, .inr ⟨hw, rfl⟩, h⟩
theorem mix_act {o : Oper} {r : List (Oper × Bool)} {a : Act} {w : World}
    (h : wpList P ops (fun e a' w' => match e with | .normal => S w' ∧ mixL P ops Q S r a' w' | e => Q e a' w') [o] a w) : mixL P ops Q S ((o, false) :: r) a w := h
theorem mix_done {a : Act} {w : World} (h : Q .normal a w) : mixL P ops Q S [] a w := h
end mix

section still
variable {P : Program} {Q : Exit → Act → World → Prop} {a : Act} {E w : World} {X : Fr}
/-- A region that draws its order and only looks, behind a world of which the blocks alone are known. -/
theorem own_still {id : Nat} {l : List Oper} (hm : P.follows .mixedOrders = true) (hB : Region.lexB .any l.toArray = true) (hO : Own E w X)
    (h : ∀ w1, Own E w1 X → wpStill P l.toArray w1 (fun a' => Q .normal a' w1) l a) : (Code.region id l.toArray true).wp P Q a w :=
  wp_region_still_lit hm hB (h _ hO.drew)
theorem own_still_tail {id : Nat} {l : List Oper} (n : Nat) (hm : P.follows .mixedOrders = true) (hB : Region.lexTailB .any l.toArray n = true) (hO : Own E w X)
    (h : ∀ w1, Own E w1 X → wpStill P l.toArray w1 (fun a' => wpList P l.toArray Q (l.drop n) a' w1) (l.take n) a) : (Code.region id l.toArray true).wp P Q a w :=
  wp_region_still_tail n hm hB (h _ hO.drew)
end still

/-! Guards for an arm: at which operation does the walk stand? -/
section guards
variable {P : Program} {ops : Array Oper} {Q : Exit → Act → World → Prop} {rest : List Oper} {a : Act} {w : World} {d : Option Tmp} {ty : TypeId} {pos : String} {aft : Array Edge} {g : Option (Nat × Bool)}
theorem at_bs {t k ps} (h : wpList P ops Q (⟨d, .buildSlice t k ps, ty, pos, aft, g⟩ :: rest) a w) : wpList P ops Q (⟨d, .buildSlice t k ps, ty, pos, aft, g⟩ :: rest) a w := h
theorem at_box {t x} (h : wpList P ops Q (⟨d, .box t x, ty, pos, aft, g⟩ :: rest) a w) : wpList P ops Q (⟨d, .box t x, ty, pos, aft, g⟩ :: rest) a w := h
theorem at_alloc {t} (h : wpList P ops Q (⟨d, .alloc t, ty, pos, aft, g⟩ :: rest) a w) : wpList P ops Q (⟨d, .alloc t, ty, pos, aft, g⟩ :: rest) a w := h
theorem at_store {t x y} (h : wpList P ops Q (⟨d, .store t x y, ty, pos, aft, g⟩ :: rest) a w) : wpList P ops Q (⟨d, .store t x y, ty, pos, aft, g⟩ :: rest) a w := h
theorem at_load {t x} (h : wpList P ops Q (⟨d, .load t x, ty, pos, aft, g⟩ :: rest) a w) : wpList P ops Q (⟨d, .load t x, ty, pos, aft, g⟩ :: rest) a w := h
theorem at_conv {s t x} (h : wpList P ops Q (⟨d, .convert s t x, ty, pos, aft, g⟩ :: rest) a w) : wpList P ops Q (⟨d, .convert s t x, ty, pos, aft, g⟩ :: rest) a w := h
theorem at_mks {t l c} (h : wpList P ops Q (⟨d, .makeSlice t l c, ty, pos, aft, g⟩ :: rest) a w) : wpList P ops Q (⟨d, .makeSlice t l c, ty, pos, aft, g⟩ :: rest) a w := h
theorem at_append {x ats} (h : wpList P ops Q (⟨d, .call { callee := .builtin .append, args := x, argTypes := ats }, ty, pos, aft, g⟩ :: rest) a w) : wpList P ops Q (⟨d, .call { callee := .builtin .append, args := x, argTypes := ats }, ty, pos, aft, g⟩ :: rest) a w := h
theorem at_copy {x ats} (h : wpList P ops Q (⟨d, .call { callee := .builtin .copy, args := x, argTypes := ats }, ty, pos, aft, g⟩ :: rest) a w) : wpList P ops Q (⟨d, .call { callee := .builtin .copy, args := x, argTypes := ats }, ty, pos, aft, g⟩ :: rest) a w := h
end guards

/-! All that was there when the call began -/
def oldFr (w : World) : Fr := (List.range w.heap.size).map fun i => (i, w.heap.getD i (.map #[] 0))
theorem oldFr_mem {w : World} {b : Nat} {o : Obj} (h : w.heap[b]? = some o) : (b, o) ∈ oldFr w := by
  obtain ⟨hb, ho⟩ := Array.getElem?_eq_some_iff.1 h
  exact List.mem_map.2 ⟨b, List.mem_range.2 hb, by simp [hb, ho]⟩
theorem Own.old (w : World) : Own w w (oldFr w) := by
  refine ⟨rfl, rfl, rfl, ?_, ?_⟩
  · have : (oldFr w).map (·.1) = List.range w.heap.size := by
      simp only [oldFr, List.map_map]
      conv => rhs; rw [← List.map_id (List.range w.heap.size)]
      rfl
    rw [this]
    exact List.nodup_range
  · intro p hp
    obtain ⟨i, hi, rfl⟩ := List.mem_map.1 hp
    have hi' := List.mem_range.1 hi
    simp [hi']
theorem Own.below {w w' : World} (h : Own w w' (oldFr w)) : Below w.heap.size w w' := by
  refine ⟨h.os, h.tape, h.output, ?_, ?_⟩
  · rcases Nat.eq_zero_or_pos w.heap.size with h0 | h0
    · omega
    · have hb : w.heap[w.heap.size - 1]? = some (w.heap[w.heap.size - 1]'(by omega)) := Array.getElem?_eq_getElem (by omega)
      have := h.lt (oldFr_mem hb)
      omega
  · intro k hk
    have hb : w.heap[k]? = some (w.heap[k]'hk) := Array.getElem?_eq_getElem hk
    rw [h.mem _ (oldFr_mem hb), hb]
end Go.Own

/- Slices that own their row: 'Sl e sz a n cap xs A' says that the slice value (a, n, cap) has the cells xs, and that A is its block. -/
namespace Go.Own
open Go.RowKit

def Sl (e : TypeId) (sz : Nat) (a : Option Addr) (n cap : Nat) (xs : List Value) (A : Fr) : Prop :=
  xs.length = n * sz ∧ n ≤ cap ∧ cap ≤ maxLen ∧
  ((a = none ∧ cap = 0 ∧ A = []) ∨ ∃ b rest, a = some ⟨b, 0, none⟩ ∧ (xs ++ rest).length = cap * sz ∧ A = pt b (.cells (xs ++ rest).toArray e (0, 0)))

theorem Sl.nil (e : TypeId) (sz : Nat) : Sl e sz none 0 0 [] [] := ⟨by simp, by simp, by simp, .inl ⟨rfl, rfl, rfl⟩⟩

theorem Sl.mk {e : TypeId} {sz b n cap : Nat} {xs rest : List Value} (h1 : xs.length = n * sz) (h2 : n ≤ cap) (h3 : cap ≤ maxLen) (h4 : (xs ++ rest).length = cap * sz) :
    Sl e sz (some ⟨b, 0, none⟩) n cap xs (pt b (.cells (xs ++ rest).toArray e (0, 0))) := ⟨h1, h2, h3, .inr ⟨b, rest, rfl, h4, rfl⟩⟩

theorem Sl.len {e : TypeId} {sz : Nat} {a : Option Addr} {n cap : Nat} {xs : List Value} {A : Fr} (h : Sl e sz a n cap xs A) : xs.length = n * sz := h.1
theorem Sl.le {e : TypeId} {sz : Nat} {a : Option Addr} {n cap : Nat} {xs : List Value} {A : Fr} (h : Sl e sz a n cap xs A) : n ≤ cap := h.2.1
theorem Sl.cap_le {e : TypeId} {sz : Nat} {a : Option Addr} {n cap : Nat} {xs : List Value} {A : Fr} (h : Sl e sz a n cap xs A) : cap ≤ maxLen := h.2.2.1

/-- A slice of its first m elements. -/
theorem Sl.take {e : TypeId} {sz : Nat} {a : Option Addr} {n cap : Nat} {xs : List Value} {A : Fr} (h : Sl e sz a n cap xs A) (m : Nat) (hm : m ≤ n) :
    Sl e sz a m cap (xs.take (m * sz)) A := by
  obtain ⟨h1, h2, h3, h4⟩ := h
  have hms : m * sz ≤ n * sz := Nat.mul_le_mul_right _ hm
  refine ⟨by rw [List.length_take]; omega, by omega, h3, ?_⟩
  rcases h4 with ⟨ha, hc, hA⟩ | ⟨b, rest, ha, hl, hA⟩
  · exact .inl ⟨ha, hc, hA⟩
  · refine .inr ⟨b, xs.drop (m * sz) ++ rest, ha, ?_, ?_⟩
    · rw [← List.append_assoc, List.take_append_drop]; exact hl
    · rw [← List.append_assoc, List.take_append_drop]; exact hA

theorem add_lit (b o j : Nat) : (⟨b, o, none⟩ : Addr).add j = ⟨b, o + j, none⟩ := by
  unfold Addr.add; split <;> simp_all

/-- The cells of such a slice. -/
theorem Sl.cell {E w : World} {X R A : Fr} {e : TypeId} {sz : Nat} {a : Option Addr} {n cap : Nat} {xs : List Value} (h : Sl e sz a n cap xs A) (hO : Own E w X) [hp : Pick X A R]
    (ad : Addr) (ha : a = some ad) (j : Nat) (hj : j < xs.length) : w.cell? (ad.add j) = some (xs[j]) := by
  obtain ⟨h1, h2, h3, h4⟩ := h
  rcases h4 with ⟨ha', _, _⟩ | ⟨b, rest, ha', hl, hA⟩
  · rw [ha'] at ha; cases ha
  · rw [ha'] at ha
    obtain rfl := Option.some.inj ha
    have hO1 : Own E w (A ++ R) := hO.perm hp.perm
    subst hA
    rw [add_lit, hO1.cell (b := b)]
    simp [List.getElem?_append_left hj, hj]

theorem Sl.firstCells {P : Program} {E w : World} {X R A : Fr} {e : TypeId} {sz : Nat} {a : Option Addr} {n cap : Nat} {xs : List Value} (h : Sl e sz a n cap xs A) (hO : Own E w X) [hp : Pick X A R] :
    (Builtin.firstCells sz n (.slice a n cap)).run P w = .ok xs.toArray w := by
  cases ha : a with
  | none =>
    have : n = 0 := by
      have h2 := h.2.1
      rcases h.2.2.2 with ⟨_, hc, _⟩ | ⟨b, rest, hb, _⟩
      · omega
      · rw [ha] at hb; cases hb
    have hx : xs = [] := List.eq_nil_of_length_eq_zero (by rw [h.1, this]; simp)
    subst hx
    simp [Builtin.firstCells]
  | some ad =>
    subst ha
    refine run_firstCells_some w sz n ad n cap xs h.1 ?_
    intro j v hj
    obtain ⟨hlt, hv⟩ := List.getElem?_eq_some_iff.1 hj
    rw [h.cell hO ad rfl j hlt, hv]

theorem splice_append (vs : List Value) : ∀ (pre post : List Value), vs.length ≤ post.length → splice (pre ++ post).toArray pre.length vs = (pre ++ vs ++ post.drop vs.length).toArray := by
  induction vs with
  | nil => intro pre post _; simp [splice]
  | cons v vs ih =>
    intro pre post h
    match post, h with
    | p :: post, h =>
      have h' : vs.length ≤ post.length := by simpa using h
      have := ih (pre ++ [v]) post h'
      simp only [splice]
      rw [show ((pre ++ p :: post).toArray.setIfInBounds pre.length v) = ((pre ++ [v]) ++ post).toArray by simp]
      rw [show pre.length + 1 = (pre ++ [v]).length by simp, this]
      simp

section
variable {P : Program} {E w : World} {X A R : Fr} {e : TypeId} {sz bytes : Nat} {a : Option Addr} {n cap : Nat} {xs : List Value}

/-- append, whatever is appended: the cells 'news' of m elements. -/
theorem run_append_slG (t tx ty : TypeId) (i : TypeInfo) (z : Value) (ht : P.underlying t = some (.slice e)) (hi : P.info? e = some i) (hz : i.zero = some z)
    (hsize : i.size = sz) (hby : i.bytes = bytes) (hzs : z.cells.size = sz) (htx : P.underlying tx = some (.slice e) ∨ P.underlying tx = some .string)
    (hO : Own E w X) (hv : Sl e sz a n cap xs A) [hp : Pick X A R] (x : Value) (m : Nat) (news : List Value)
    (hlen : ∀ w, (Builtin.lenOf x).run P w = .ok m w) (hnews : ∀ w', Own E w' X → (Builtin.firstCells sz m x).run P w' = .ok news.toArray w')
    (hl : news.length = m * sz) (h1 : ∀ u ∈ news, u.oneCell' = true) (h63 : n + m ≤ maxLen) (hb : cap < n + m → Builtin.nextslicecap (n + m) cap * bytes ≤ 281474976710656) :
    ∃ a' cap' A' w', (Builtin.append_ #[t, tx] ty #[.slice a n cap, x]).run P w = .ok (.slice a' (n + m) cap') w' ∧ Sl e sz a' (n + m) cap' (xs ++ news) A' ∧ Own E w' (A' ++ R) := by
  subst hsize hby
  have hO1 : Own E w (A ++ R) := hO.perm hp.perm
  have hxs : (xs ++ news).length = (n + m) * i.size := by rw [List.length_append, hv.1, hl, Nat.add_mul]
  by_cases hroom : n + m ≤ cap
  · -- there is room
    rcases hv.2.2.2 with ⟨ha, hc, hA⟩ | ⟨b, rest, ha, hl4, hA⟩
    · subst ha hA
      have hn0 : n = 0 := by omega
      have hm0 : m = 0 := by omega
      subst hn0 hm0
      have hx0 : xs = [] := List.eq_nil_of_length_eq_zero (by simpa using hv.1)
      have hw0 : news = [] := List.eq_nil_of_length_eq_zero (by simpa using hl)
      subst hx0 hw0 hc
      refine ⟨none, 0, [], w, ?_, Sl.nil _ _, hO1⟩
      have hf := hnews w hO
      rcases htx with hu | hu <;> simp [Builtin.append_, run_underlying ht, run_underlying hu, sizeOf, typeInfo, hi, hlen, hf]
    · subst ha hA
      have hf := hnews w hO
      have hn1 : n * i.size = xs.length := hv.1.symm
      obtain ⟨w1, hst, hO2⟩ := run_storeCells_own (P := P) (b := b) (off := n * i.size) (e := e) news 0 (xs ++ rest).toArray w _ R hO1 inferInstance h1 (by
        have hle := Nat.mul_le_mul_right i.size hroom
        simp only [List.size_toArray, hl4]; rw [hl, Nat.add_zero, ← Nat.add_mul]; exact hle)
      have hsp : splice (xs ++ rest).toArray (n * i.size + 0) news = ((xs ++ news) ++ rest.drop news.length).toArray := by
        rw [Nat.add_zero, hn1]
        refine splice_append news xs rest ?_
        have hle := Nat.mul_le_mul_right i.size hroom
        rw [Nat.add_mul, ← hl4, List.length_append, hn1, ← hl] at hle
        omega
      rw [hsp] at hO2
      refine ⟨some ⟨b, 0, none⟩, cap, _, w1, ?_, ⟨hxs, hroom, hv.2.2.1, .inr ⟨b, rest.drop news.length, rfl, ?_, rfl⟩⟩, hO2⟩
      · simp only [Builtin.append_, add_lit]
        rcases htx with hu | hu <;> simp [run_underlying ht, run_underlying hu, sizeOf, typeInfo, hi, hlen, hf, hroom, add_lit, hst]
      · have hle := Nat.mul_le_mul_right i.size hroom
        rw [Nat.add_mul, ← hl] at hle
        rw [← hl4]
        rw [← hl4] at hle
        simp only [List.length_append, List.length_drop] at hle ⊢
        omega
  · -- a new row
    have h63' : ¬ (9223372036854775807 < ((n : Int) + (m : Int))) := by simp only [maxLen] at h63; omega
    have hfit : ¬ (281474976710656 < Builtin.nextslicecap (n + m) cap * i.bytes) := by
      have := hb (by omega)
      omega
    have hf := hnews w.drew hO.drew
    have hfo := hv.firstCells (P := P) hO.drew
    have hO2 := (hO1.drew).alloc (.cells (xs.toArray ++ news.toArray ++ Builtin.zeroCells z.cells (grownCap w (n + m) cap e - (n + m))) e)
    have hge := grownCap_ge w (n + m) cap e
    refine ⟨some ⟨w.heap.size, 0, none⟩, grownCap w (n + m) cap e, pt w.heap.size (.cells ((xs ++ news) ++ (Builtin.zeroCells z.cells (grownCap w (n + m) cap e - (n + m))).toList).toArray e (0, 0)),
      w.drew.alloc (.cells (xs.toArray ++ news.toArray ++ Builtin.zeroCells z.cells (grownCap w (n + m) cap e - (n + m))) e), ?_, ?_, ?_⟩
    · rcases htx with hu | hu <;> simp [Builtin.append_, run_underlying ht, run_underlying hu, sizeOf, typeInfo, zeroValue, hi, hz, hlen, hroom, h63', hfit, Question.forced, hf, hfo, newRow, grownCap] <;> (congr 2; apply Array.ext'; simp [List.append_assoc])
    · refine Sl.mk hxs hge (grownCap_le_maxLen w _ _ _ h63) ?_
      rw [List.length_append, hxs, Array.length_toList, size_zeroCells, hzs, ← Nat.add_mul]
      congr 1
      omega
    · have e1 : (xs.toArray ++ news.toArray ++ Builtin.zeroCells z.cells (grownCap w (n + m) cap e - (n + m))) = ((xs ++ news) ++ (Builtin.zeroCells z.cells (grownCap w (n + m) cap e - (n + m))).toList).toArray := by
        apply Array.ext'; simp
      rw [e1] at hO2
      have hO3 : Own E _ _ := hO2
      have hdr : ((pt w.heap.size (.cells ((xs ++ news) ++ (Builtin.zeroCells z.cells (grownCap w (n + m) cap e - (n + m))).toList).toArray e (0, 0))) ++ (A ++ R)).Perm (A ++ ((pt w.heap.size (.cells ((xs ++ news) ++ (Builtin.zeroCells z.cells (grownCap w (n + m) cap e - (n + m))).toList).toArray e (0, 0))) ++ R)) := by
        rw [← List.append_assoc, ← List.append_assoc]; exact List.Perm.append_right _ List.perm_append_comm
      rw [e1]
      exact (hO3.perm hdr).right


theorem run_append_sl (t tx ty : TypeId) (i : TypeInfo) (z : Value) (ht : P.underlying t = some (.slice e)) (hi : P.info? e = some i) (hz : i.zero = some z)
    (hsize : i.size = sz) (hby : i.bytes = bytes) (hzs : z.cells.size = sz) (htx : P.underlying tx = some (.slice e) ∨ P.underlying tx = some .string)
    (hO : Own E w X) (hv : Sl e sz a n cap xs A) [hp : Pick X A R] (x : Value) (m : Nat) (news : List Value)
    (hlen : ∀ w, (Builtin.lenOf x).run P w = .ok m w) (hnews : ∀ w', Own E w' X → (Builtin.firstCells sz m x).run P w' = .ok news.toArray w')
    (hl : news.length = m * sz) (h1 : ∀ u ∈ news, u.oneCell' = true) (h63 : n + m ≤ maxLen) (hb : (n + m) * bytes ≤ 140737488355328 ∨ (m = 1 ∧ n * bytes ≤ 140737488355328 ∧ bytes ≤ 281474976710656)) :
    ∃ a' cap' A' w', (Builtin.append_ #[t, tx] ty #[.slice a n cap, x]).run P w = .ok (.slice a' (n + m) cap') w' ∧ Sl e sz a' (n + m) cap' (xs ++ news) A' ∧ Own E w' (A' ++ R) := by
  refine run_append_slG t tx ty i z ht hi hz hsize hby hzs htx hO hv x m news hlen hnews hl h1 h63 fun hcap => ?_
  rcases hb with hb | ⟨hm1, hb1, hb2⟩
  · exact growslice_fits hcap hb
  · have hcn : cap = n := by have := hv.2.1; omega
    subst hm1 hcn
    exact growslice_fits_succ hb1 hb2


/-- append of n noughts (the compiler's form of append(s, make([]T, n)...)). -/
theorem run_append_zeros (t tx ty : TypeId) (i : TypeInfo) (z : Value) (ht : P.underlying t = some (.slice e)) (hi : P.info? e = some i) (hz : i.zero = some z)
    (hsize : i.size = sz) (hby : i.bytes = bytes) (hzs : z.cells.size = sz) (htx : P.underlying tx = some (.int .i64))
    (hO : Own E w X) (hv : Sl e sz a n cap xs A) [hp : Pick X A R] (m : Nat)
    (h1 : ∀ u ∈ z.cells.toList, u.oneCell' = true) (h63 : n + m ≤ maxLen) (hbp : 0 < bytes) (hb : (n + m) * bytes ≤ 140737488355328) :
    ∃ a' cap' A' w', (Builtin.append_ #[t, tx] ty #[.slice a n cap, .int .i64 m]).run P w = .ok (.slice a' (n + m) cap') w' ∧ Sl e sz a' (n + m) cap' (xs ++ (Builtin.zeroCells z.cells m).toList) A' ∧ Own E w' (A' ++ R) := by
  subst hsize hby
  have hO1 : Own E w (A ++ R) := hO.perm hp.perm
  have hl : (Builtin.zeroCells z.cells m).toList.length = m * i.size := by rw [Array.length_toList, size_zeroCells, hzs]
  have h1' : ∀ u ∈ (Builtin.zeroCells z.cells m).toList, u.oneCell' = true := by
    intro u hu
    simp only [Builtin.zeroCells, Array.toList_map, List.mem_map] at hu
    obtain ⟨k, hk, rfl⟩ := hu
    have hkm : k < m * z.cells.size := by simpa using hk
    have hpos : 0 < z.cells.size := by
      rcases Nat.eq_zero_or_pos z.cells.size with h0 | h0
      · rw [h0] at hkm; omega
      · exact h0
    have hlt : k % z.cells.size < z.cells.size := Nat.mod_lt _ hpos
    rw [getElem!_pos z.cells (k % z.cells.size) hlt]
    exact h1 _ (Array.getElem_mem_toList hlt)
  have hxs : (xs ++ (Builtin.zeroCells z.cells m).toList).length = (n + m) * i.size := by rw [List.length_append, hv.1, hl, Nat.add_mul]
  have hm1 : (n + m) * 1 ≤ (n + m) * i.bytes := Nat.mul_le_mul_left _ hbp
  have hm2 : m * i.bytes ≤ (n + m) * i.bytes := Nat.mul_le_mul_right _ (by omega)
  have hwrap : IntKind.i64.wrap (m : Int) = m := by
    have h := IntWalk.i64_in (n := (m : Int)) (by omega)
    exact h
  have hnn : ¬ ((m : Int) < 0) := by omega
  have hmb : ¬ (281474976710656 < (m : Int) * (i.bytes : Int)) := by
    have : ((m * i.bytes : Nat) : Int) = (m : Int) * (i.bytes : Int) := by simp
    omega
  have hz0 : m * i.size = 0 → Builtin.zeroCells z.cells m = #[] := by
    intro h0
    apply Array.eq_empty_of_size_eq_zero
    rw [size_zeroCells, hzs]; exact h0
  by_cases hroom : n + m ≤ cap
  · rcases hv.2.2.2 with ⟨ha, hc, hA⟩ | ⟨b, rest, ha, hl4, hA⟩
    · subst ha hA
      have hn0 : n = 0 := by omega
      have hm0 : m = 0 := by omega
      subst hn0 hm0
      have hx0 : xs = [] := List.eq_nil_of_length_eq_zero (by simpa using hv.1)
      subst hx0 hc
      refine ⟨none, 0, [], w, ?_, ?_, hO1⟩
      · simp [Builtin.append_, run_underlying ht, run_underlying htx, sizeOf, typeInfo, hi, asInt, asIntOf, hwrap, hnn, hmb]
        simp at hwrap
        simp [hwrap]
      · have : (Builtin.zeroCells z.cells 0).toList = [] := List.eq_nil_of_length_eq_zero (by rw [hl]; simp)
        rw [this]; exact Sl.nil _ _
    · subst ha hA
      have hn1 : n * i.size = xs.length := hv.1.symm
      obtain ⟨w1, hst, hO2⟩ := run_storeCells_own (P := P) (b := b) (off := n * i.size) (e := e) (Builtin.zeroCells z.cells m).toList 0 (xs ++ rest).toArray w _ R hO1 inferInstance h1' (by
        have hle := Nat.mul_le_mul_right i.size hroom
        simp only [List.size_toArray, hl4]; rw [hl, Nat.add_zero, ← Nat.add_mul]; exact hle)
      have hsp : splice (xs ++ rest).toArray (n * i.size + 0) (Builtin.zeroCells z.cells m).toList = ((xs ++ (Builtin.zeroCells z.cells m).toList) ++ rest.drop (Builtin.zeroCells z.cells m).toList.length).toArray := by
        rw [Nat.add_zero, hn1]
        refine splice_append _ xs rest ?_
        have hle := Nat.mul_le_mul_right i.size hroom
        rw [Nat.add_mul, ← hl4, List.length_append, hn1, ← hl] at hle
        omega
      rw [hsp] at hO2
      refine ⟨some ⟨b, 0, none⟩, cap, _, w1, ?_, ⟨hxs, hroom, hv.2.2.1, .inr ⟨b, rest.drop (Builtin.zeroCells z.cells m).toList.length, rfl, ?_, rfl⟩⟩, hO2⟩
      · simp only [Builtin.append_]
        simp [run_underlying ht, run_underlying htx, sizeOf, typeInfo, hi, asInt, asIntOf, hwrap, hnn, hmb, hroom, add_lit]
        split
        · rename_i h0
          rw [hz0 h0] at hst
          simp at hst
          simp [hst]
        · simp [zeroValue, typeInfo, hi, hz, hst]
      · have hle := Nat.mul_le_mul_right i.size hroom
        rw [Nat.add_mul, ← hl] at hle
        rw [← hl4]
        rw [← hl4] at hle
        simp only [List.length_append, List.length_drop] at hle ⊢
        omega
  · have h63' : ¬ (9223372036854775807 < ((n : Int) + (m : Int)) ) := by omega
    have hfit : ¬ (281474976710656 < Builtin.nextslicecap (n + m) cap * i.bytes) := by
      have hcap : cap < n + m := by omega
      have := growslice_fits hcap hb; omega
    have hfo := hv.firstCells (P := P) hO.drew
    have hO2 := (hO1.drew).alloc (.cells (xs.toArray ++ (Builtin.zeroCells z.cells m) ++ Builtin.zeroCells z.cells (grownCap w (n + m) cap e - (n + m))) e)
    have hge := grownCap_ge w (n + m) cap e
    refine ⟨some ⟨w.heap.size, 0, none⟩, grownCap w (n + m) cap e, pt w.heap.size (.cells ((xs ++ (Builtin.zeroCells z.cells m).toList) ++ (Builtin.zeroCells z.cells (grownCap w (n + m) cap e - (n + m))).toList).toArray e (0, 0)),
      w.drew.alloc (.cells (xs.toArray ++ (Builtin.zeroCells z.cells m) ++ Builtin.zeroCells z.cells (grownCap w (n + m) cap e - (n + m))) e), ?_, ?_, ?_⟩
    · simp [Builtin.append_, run_underlying ht, run_underlying htx, sizeOf, typeInfo, zeroValue, hi, hz, asInt, asIntOf, hwrap, hnn, hmb, hroom, h63', hfit, Question.forced, hfo, newRow, grownCap]
      intro h0
      rw [hz0 h0]
      simp
    · refine Sl.mk hxs hge (grownCap_le_maxLen w _ _ _ h63) ?_
      rw [List.length_append, hxs, Array.length_toList, size_zeroCells, hzs, ← Nat.add_mul]
      congr 1
      omega
    · have e1 : (xs.toArray ++ (Builtin.zeroCells z.cells m) ++ Builtin.zeroCells z.cells (grownCap w (n + m) cap e - (n + m))) = ((xs ++ (Builtin.zeroCells z.cells m).toList) ++ (Builtin.zeroCells z.cells (grownCap w (n + m) cap e - (n + m))).toList).toArray := by
        apply Array.ext'; simp
      rw [e1] at hO2 ⊢
      have hO3 : Own E _ (pt w.heap.size _ ++ (A ++ R)) := hO2
      exact hO3.as _

end
end Go.Own

/- The walk's laws for slices, strings and bytes over 'Own'. -/
namespace Go.Own
open Go.RowKit

structure SlT (P : Program) (t e : TypeId) (sz bytes : Nat) (z : Value) : Prop where
  und : P.underlying t = some (.slice e)
  info : (P.info? e).map (fun i => (i.zero, i.size, i.bytes)) = some (some z, sz, bytes)
  zs : z.cells.size = sz

theorem SlT.parts {P : Program} {t e : TypeId} {sz bytes : Nat} {z : Value} (h : SlT P t e sz bytes z) : ∃ i, P.info? e = some i ∧ i.zero = some z ∧ i.size = sz ∧ i.bytes = bytes := by
  have hi := h.info
  cases hh : P.info? e with
  | none => rw [hh] at hi; simp at hi
  | some i => rw [hh] at hi; simp at hi; exact ⟨i, rfl, hi⟩

theorem SlT.size {P : Program} {t e : TypeId} {sz bytes : Nat} {z : Value} (h : SlT P t e sz bytes z) (w : World) : (sizeOf e).run P w = .ok sz w := by
  obtain ⟨i, hi, _, hs, _⟩ := h.parts
  simp [sizeOf, typeInfo, hi, hs]

def byteV (c : UInt8) : Value := .int .u8 c.toNat
def bytesV (l : List UInt8) : List Value := l.map byteV
theorem bytes_cells (s : ByteArray) : (Array.map (fun b : UInt8 => Value.int .u8 b.toNat) s.data) = (bytesV s.data.toList).toArray := by
  apply Array.ext'; simp only [Array.toList_map, bytesV]; rfl
theorem bytesV_length (l : List UInt8) : (bytesV l).length = l.length := by simp [bytesV]
theorem bytesV_append (l m : List UInt8) : bytesV (l ++ m) = bytesV l ++ bytesV m := by simp [bytesV]
theorem bytesV_take (l : List UInt8) (n : Nat) : bytesV (l.take n) = (bytesV l).take n := by simp [bytesV, List.map_take]
theorem bytesV_drop (l : List UInt8) (n : Nat) : bytesV (l.drop n) = (bytesV l).drop n := by simp [bytesV, List.map_drop]
theorem bytesV_one (l : List UInt8) : ∀ u ∈ bytesV l, u.oneCell' = true := by
  intro u hu
  obtain ⟨c, _, rfl⟩ := List.mem_map.1 hu
  rfl

theorem zeroCells_byte (m : Nat) : (Builtin.zeroCells (Value.cells (.int .u8 0)) m).toList = bytesV (List.replicate m 0) := by
  simp only [Builtin.zeroCells, Value.cells]
  apply List.ext_getElem
  · simp [bytesV_length]
  · intro i h1 h2
    simp [bytesV, byteV, Nat.mod_one]

section laws
variable {P : Program} {ops : Array Oper} {Q : Exit → Act → World → Prop} {rest : List Oper} {a : Act} {E w : World} {X A R : Fr} {d : Option Tmp} {ty : TypeId} {pos : String} {aft : Array Edge} {g : Option (Nat × Bool)}

theorem execOp_append (ρ : Operand → Value) (x y : Operand) (ats : Array TypeId) :
    execOp ρ ⟨d, .call { callee := .builtin .append, args := #[x, y], argTypes := ats }, ty, pos, aft, g⟩ = (do pure (.value (← Builtin.append_ ats ty #[ρ x, ρ y]))) := by
  simp [execOp, resolve, invoke, builtin]
theorem execOp_copy (ρ : Operand → Value) (x y : Operand) (ats : Array TypeId) :
    execOp ρ ⟨d, .call { callee := .builtin .copy, args := #[x, y], argTypes := ats }, ty, pos, aft, g⟩ = (do pure (.value (← Builtin.copy_ ats ty #[ρ x, ρ y]))) := by
  simp [execOp, resolve, invoke, builtin]

theorem own_appendG {t tx e : TypeId} {sz bytes : Nat} {z : Value} {s x : Operand} {sa : Option Addr} {n cap m : Nat} {xv : Value} {xs news : List Value} (hT : SlT P t e sz bytes z)
    (htx : P.underlying tx = some (.slice e) ∨ P.underlying tx = some .string) (hO : Own E w X)
    (hw : Region.wanted ⟨d, .call { callee := .builtin .append, args := #[s, x], argTypes := #[t, tx] }, ty, pos, aft, g⟩ (yielded ops a.tmps) = true)
    (hs : a.eval s = .slice sa n cap) (hx : a.eval x = xv) (hv : Sl e sz sa n cap xs A) [hp : Pick X A R]
    (hlen : ∀ w, (Builtin.lenOf xv).run P w = .ok m w) (hnews : ∀ w', Own E w' X → (Builtin.firstCells sz m xv).run P w' = .ok news.toArray w')
    (hl : news.length = m * sz) (h1 : ∀ u ∈ news, u.oneCell' = true) (h63 : n + m ≤ maxLen) (hb : cap < n + m → Builtin.nextslicecap (n + m) cap * bytes ≤ 281474976710656)
    (next : ∀ a' cap' A' w1, Sl e sz a' (n + m) cap' (xs ++ news) A' → Own E w1 (A' ++ R) → wpList P ops Q rest (a.put d (.slice a' (n + m) cap')) w1) :
    wpList P ops Q (⟨d, .call { callee := .builtin .append, args := #[s, x], argTypes := #[t, tx] }, ty, pos, aft, g⟩ :: rest) a w := by
  obtain ⟨i, hi, hz, hsz, hby⟩ := hT.parts
  obtain ⟨a', cap', A', w1, hr, hS, hO1⟩ := run_append_slG (ty := ty) t tx i z hT.und hi hz hsz hby hT.zs htx hO hv xv m news hlen hnews hl h1 h63 hb
  refine wpList_run_value hw ?_ (next a' cap' A' w1 hS hO1)
  rw [execOp_append, hs, hx]
  simp [hr]

theorem own_append {t tx e : TypeId} {sz bytes : Nat} {z : Value} {s x : Operand} {sa : Option Addr} {n cap m : Nat} {xv : Value} {xs news : List Value} (hT : SlT P t e sz bytes z)
    (htx : P.underlying tx = some (.slice e) ∨ P.underlying tx = some .string) (hO : Own E w X)
    (hw : Region.wanted ⟨d, .call { callee := .builtin .append, args := #[s, x], argTypes := #[t, tx] }, ty, pos, aft, g⟩ (yielded ops a.tmps) = true)
    (hs : a.eval s = .slice sa n cap) (hx : a.eval x = xv) (hv : Sl e sz sa n cap xs A) [hp : Pick X A R]
    (hlen : ∀ w, (Builtin.lenOf xv).run P w = .ok m w) (hnews : ∀ w', Own E w' X → (Builtin.firstCells sz m xv).run P w' = .ok news.toArray w')
    (hl : news.length = m * sz) (h1 : ∀ u ∈ news, u.oneCell' = true) (h63 : n + m ≤ maxLen) (hb : (n + m) * bytes ≤ 140737488355328 ∨ (m = 1 ∧ n * bytes ≤ 140737488355328 ∧ bytes ≤ 281474976710656))
    (next : ∀ a' cap' A' w1, Sl e sz a' (n + m) cap' (xs ++ news) A' → Own E w1 (A' ++ R) → wpList P ops Q rest (a.put d (.slice a' (n + m) cap')) w1) :
    wpList P ops Q (⟨d, .call { callee := .builtin .append, args := #[s, x], argTypes := #[t, tx] }, ty, pos, aft, g⟩ :: rest) a w := by
  obtain ⟨i, hi, hz, hsz, hby⟩ := hT.parts
  obtain ⟨a', cap', A', w1, hr, hS, hO1⟩ := run_append_sl (ty := ty) t tx i z hT.und hi hz hsz hby hT.zs htx hO hv xv m news hlen hnews hl h1 h63 hb
  refine wpList_run_value hw ?_ (next a' cap' A' w1 hS hO1)
  rw [execOp_append, hs, hx]
  simp [hr]

/-- append of one element out of a slice of one element that was just built. -/
theorem own_append_elem {b1 : Nat} {cs : Array Value} {e1 : TypeId} {f1 : Nat × Nat} {t e : TypeId} {sz bytes : Nat} {z : Value} {s x : Operand} {sa : Option Addr} {n cap : Nat} {xs : List Value} (hT : SlT P t e sz bytes z) (hO : Own E w X)
    (hw : Region.wanted ⟨d, .call { callee := .builtin .append, args := #[s, x], argTypes := #[t, t] }, ty, pos, aft, g⟩ (yielded ops a.tmps) = true)
    (hs : a.eval s = .slice sa n cap) (hx : a.eval x = .slice (some ⟨b1, 0, none⟩) 1 1) (hv : Sl e sz sa n cap xs A) [hp : Pick X A R] (hh : Has X b1 (.cells cs e1 f1))
    (hl : cs.size = sz) (h1 : ∀ u ∈ cs.toList, u.oneCell' = true) (hb : n * bytes ≤ 140737488355328) (hby : bytes ≤ 281474976710656) (h63 : n < maxLen)
    (next : ∀ a' cap' A' w1, Sl e sz a' (n + 1) cap' (xs ++ cs.toList) A' → Own E w1 (A' ++ R) → wpList P ops Q rest (a.put d (.slice a' (n + 1) cap')) w1) :
    wpList P ops Q (⟨d, .call { callee := .builtin .append, args := #[s, x], argTypes := #[t, t] }, ty, pos, aft, g⟩ :: rest) a w := by
  refine own_append (xv := .slice (some ⟨b1, 0, none⟩) 1 1) (m := 1) (news := cs.toList) hT (.inl hT.und) hO hw hs hx hv (fun w => by simp [Builtin.lenOf]) ?_ (by simp [hl]) h1 (by omega) (.inr ⟨rfl, hb, hby⟩) next
  intro w' hO'
  refine run_firstCells_some w' sz 1 ⟨b1, 0, none⟩ 1 1 cs.toList (by simp [hl]) ?_
  intro j v hj
  rw [add_lit, hO'.cell (b := b1)]
  simpa using hj

theorem own_append_zeros {t tx e : TypeId} {xi : Int} {sz bytes : Nat} {z : Value} {s x : Operand} {sa : Option Addr} {n cap m : Nat} {xs : List Value} (hT : SlT P t e sz bytes z) (htx : P.underlying tx = some (.int .i64)) (hO : Own E w X)
    (hw : Region.wanted ⟨d, .call { callee := .builtin .append, args := #[s, x], argTypes := #[t, tx] }, ty, pos, aft, g⟩ (yielded ops a.tmps) = true)
    (hs : a.eval s = .slice sa n cap) (hx : a.eval x = .int .i64 xi) (hxm : xi = m) (hv : Sl e sz sa n cap xs A) [hp : Pick X A R]
    (h1 : ∀ u ∈ z.cells.toList, u.oneCell' = true) (h63 : n + m ≤ maxLen) (hbp : 0 < bytes) (hb : (n + m) * bytes ≤ 140737488355328)
    (next : ∀ a' cap' A' w1, Sl e sz a' (n + m) cap' (xs ++ (Builtin.zeroCells z.cells m).toList) A' → Own E w1 (A' ++ R) → wpList P ops Q rest (a.put d (.slice a' (n + m) cap')) w1) :
    wpList P ops Q (⟨d, .call { callee := .builtin .append, args := #[s, x], argTypes := #[t, tx] }, ty, pos, aft, g⟩ :: rest) a w := by
  obtain ⟨i, hi, hz, hsz, hby⟩ := hT.parts
  subst hxm
  obtain ⟨a', cap', A', w1, hr, hS, hO1⟩ := run_append_zeros (ty := ty) t tx i z hT.und hi hz hsz hby hT.zs htx hO hv m h1 h63 hbp hb
  refine wpList_run_value hw ?_ (next a' cap' A' w1 hS hO1)
  rw [execOp_append, hs, hx]
  simp [hr]

theorem fill_one (place : Nat → Option (Nat × Nat)) (cells v : Array Value) (hp : place 0 = some (0, v.size)) (hs : cells.size = v.size) (u : Value) (hu : u.cells = v) :
    Instr.fill place cells [(0, u)] = some v := by
  simp only [Instr.fill, hp, hu]
  rw [if_neg (by simp; omega)]
  congr 1
  have key : ∀ (l : List Value) (pre post : List Value), l.length ≤ post.length →
      (l.zipIdx pre.length).foldl (fun cs (c, j) => cs.setIfInBounds (0 + j) c) (pre ++ post).toArray = (pre ++ l ++ post.drop l.length).toArray := by
    intro l
    induction l with
    | nil => intro pre post _; simp
    | cons c l ih =>
      intro pre post h
      match post, h with
      | p :: post, h =>
        have := ih (pre ++ [c]) post (by simpa using h)
        simp only [List.zipIdx_cons, List.foldl_cons]
        rw [show ((pre ++ p :: post).toArray.setIfInBounds (0 + pre.length) c) = ((pre ++ [c]) ++ post).toArray by simp]
        rw [show pre.length + 1 = (pre ++ [c]).length by simp, this]
        simp
  have hk := key v.toList [] cells.toList (by simp [hs])
  rw [← Array.foldl_toList, Array.toList_zipIdx]
  simp only [List.nil_append, List.length_nil, Array.toArray_toList] at hk
  rw [hk, List.drop_of_length_le (by simp; omega)]
  simp

/-- a slice of one element, built in place. -/
theorem own_build1 {t e : TypeId} {sz bytes : Nat} {z : Value} {x : Operand} {v : Value} (hT : SlT P t e sz bytes z) (hO : Own E w X)
    (hw : Region.wanted ⟨d, .buildSlice t 1 #[(0, x)], ty, pos, aft, g⟩ (yielded ops a.tmps) = true) (hx : a.eval x = v) (hv : v.cells.size = sz) (h0 : 0 < sz) (h24 : sz ≤ 16777216)
    (next : ∀ b w1, Own E w1 (pt b (.cells v.cells e) ++ X) → wpList P ops Q rest (a.put d (.slice (some ⟨b, 0, none⟩) 1 1)) w1) :
    wpList P ops Q (⟨d, .buildSlice t 1 #[(0, x)], ty, pos, aft, g⟩ :: rest) a w := by
  obtain ⟨i, hi, hz, hsz, hby⟩ := hT.parts
  refine wpList_run_value hw ?_ (next _ _ (hO.alloc _))
  have hne : sz ≠ 0 := by omega
  have hbig : ¬ (16777216 < sz) := by omega
  have hf : ∀ cells : Array Value, cells.size = sz → Instr.fill (fun i => some (i * sz, sz)) cells [(0, v)] = some v.cells := fun cells hc => fill_one _ _ _ (by simp [hv]) (by omega) v rfl
  simp [execOp, Instr.buildSlice, run_underlying hT.und, sizeOf, typeInfo, zeroValue, hi, hz, hsz, hx, hne, hbig, newRow]
  rw [hf _ (by simp)]
  simp

/-- a slice of several one-cell elements, built in place. -/
theorem own_buildN {t e : TypeId} {bytes k : Nat} {z : Value} {ps : Array (Nat × Operand)} {cells : Array Value} (hT : SlT P t e 1 bytes z) (hO : Own E w X)
    (hw : Region.wanted ⟨d, .buildSlice t k ps, ty, pos, aft, g⟩ (yielded ops a.tmps) = true) (h24 : k ≤ 16777216) (h0 : 0 < k) (hzz : z.cells = #[z])
    (hf : Instr.fill (fun i => some (i, 1)) (Array.replicate k z) (ps.toList.map fun p => (p.1, a.eval p.2)) = some cells)
    (next : ∀ b w1, Own E w1 (pt b (.cells cells e) ++ X) → wpList P ops Q rest (a.put d (.slice (some ⟨b, 0, none⟩) k k)) w1) :
    wpList P ops Q (⟨d, .buildSlice t k ps, ty, pos, aft, g⟩ :: rest) a w := by
  obtain ⟨i, hi, hz, hsz, hby⟩ := hT.parts
  refine wpList_run_value hw ?_ (next _ _ (hO.alloc _))
  have hbig : ¬ (16777216 < k) := by omega
  have hne : k ≠ 0 := by omega
  have hrow : (Array.range k).map (fun i => [z][i % 1]?.getD default) = Array.replicate k z := by
    apply Array.ext
    · simp
    · intro j h1 h2; simp [Nat.mod_one]
  simp [execOp, Instr.buildSlice, run_underlying hT.und, sizeOf, typeInfo, zeroValue, hi, hz, hsz, hbig, hne, newRow, hzz]
  rw [hrow, hf]
  simp

/-- copy of a string into a slice of ours, from l on. -/
theorem own_copy_str {t tx e : TypeId} {bytes : Nat} {z : Value} {dx sx : Operand} {sa da : Option Addr} {n cap dn dc l : Nat} {s : ByteArray} {xs : List Value} (hT : SlT P t e 1 bytes z) (hO : Own E w X)
    (hw : Region.wanted ⟨d, .call { callee := .builtin .copy, args := #[dx, sx], argTypes := #[t, tx] }, ty, pos, aft, g⟩ (yielded ops a.tmps) = true)
    (hd : a.eval dx = .slice da dn dc) (hs : a.eval sx = .string s) (hv : Sl e 1 sa n cap xs A) [hp : Pick X A R]
    (hda : 0 < s.size → da = sa.map (·.add l)) (hn : s.size ≤ dn) (hl : l + s.size ≤ n)
    (next : ∀ A' w1, Sl e 1 sa n cap (xs.take l ++ bytesV s.data.toList ++ xs.drop (l + s.size)) A' → Own E w1 (A' ++ R) → wpList P ops Q rest (a.put d (.int .i64 s.size)) w1) :
    wpList P ops Q (⟨d, .call { callee := .builtin .copy, args := #[dx, sx], argTypes := #[t, tx] }, ty, pos, aft, g⟩ :: rest) a w := by
  have hO1 : Own E w (A ++ R) := hO.perm hp.perm
  have hxl : xs.length = n := by rw [hv.1]; simp
  have hmin : Nat.min s.size dn = s.size := Nat.min_eq_left hn
  have hsz : s.data.toList.length = s.size := by rw [Array.length_toList]; rfl
  have hcells : List.take s.size (List.map (fun b : UInt8 => Value.int .u8 b.toNat) s.data.toList) = bytesV s.data.toList := by
    rw [List.take_of_length_le (by rw [List.length_map, hsz]; omega)]; rfl
  obtain ⟨A', w1, hr, hS, hO2⟩ : ∃ A' w1, (Builtin.copy_ #[t, tx] ty #[.slice da dn dc, .string s]).run P w = .ok (.int .i64 s.size) w1 ∧
      Sl e 1 sa n cap (xs.take l ++ bytesV s.data.toList ++ xs.drop (l + s.size)) A' ∧ Own E w1 (A' ++ R) := by
    by_cases h0 : s.size = 0
    · have hb : bytesV s.data.toList = [] := List.eq_nil_of_length_eq_zero (by rw [bytesV_length, hsz, h0])
      refine ⟨A, w, ?_, ?_, hO1⟩
      · cases da with
        | none => simp [Builtin.copy_, run_underlying hT.und, Builtin.lenOf, Builtin.firstCells, hT.size, h0, goInt]
        | some b => simp [Builtin.copy_, run_underlying hT.und, Builtin.lenOf, Builtin.firstCells, hT.size, h0, goInt, storeCells]
      · rw [hb, h0, Nat.add_zero, List.append_nil, List.take_append_drop]; exact hv
    · have hda' := hda (by omega)
      rcases hv.2.2.2 with ⟨ha, hc, hA⟩ | ⟨b, rst, ha, hl4, hA⟩
      · have := hv.2.1; omega
      · subst ha hA
        simp only [Option.map_some, add_lit, Nat.zero_add] at hda'
        have hll : (bytesV s.data.toList).length = s.size := by rw [bytesV_length, hsz]
        obtain ⟨w1, hst, hO2⟩ := run_storeCells_own (P := P) (b := b) (off := l) (e := e) (bytesV s.data.toList) 0 (xs ++ rst).toArray w _ R hO1 inferInstance (bytesV_one _) (by
          simp only [List.size_toArray, List.length_append, hll]; omega)
        have hsp : splice (xs ++ rst).toArray (l + 0) (bytesV s.data.toList) = ((xs.take l ++ bytesV s.data.toList ++ xs.drop (l + s.size)) ++ rst).toArray := by
          have hpre : (xs.take l).length = l := by rw [List.length_take]; omega
          have := splice_append (bytesV s.data.toList) (xs.take l) (xs.drop l ++ rst) (by simp only [List.length_append, List.length_drop, hll]; omega)
          rw [← List.append_assoc, List.take_append_drop, hpre] at this
          rw [Nat.add_zero, this, hll, List.drop_append_of_le_length (by rw [List.length_drop]; omega), List.drop_drop]
          simp [List.append_assoc]
        rw [hsp] at hO2
        refine ⟨_, w1, ?_, ⟨?_, hv.2.1, hv.2.2.1, .inr ⟨b, rst, rfl, ?_, rfl⟩⟩, hO2⟩
        · subst hda'
          simp only [Builtin.copy_]
          have hm : min s.size dn = s.size := hmin
          simp [run_underlying hT.und, Builtin.lenOf, Builtin.firstCells, hT.size, hm, goInt]
          rw [hcells, hst]; simp
        · simp only [List.length_append, List.length_take, List.length_drop, hll]; omega
        · rw [← hl4]; simp only [List.length_append, List.length_take, List.length_drop, hll]; omega
  refine wpList_run_value hw ?_ (next A' w1 hS hO2)
  rw [execOp_copy, hd, hs]
  simp [hr]

theorem forIn_bytes {w : World} (f : Value → ByteArray → Sem (ForInStep ByteArray))
    (hf : ∀ (n : Int) (r : ByteArray), (f (.int .u8 n) r).run P w = .ok (.yield (r.push (UInt8.ofNat n.toNat))) w) (l : List UInt8) (s : ByteArray) :
    (forIn (bytesV l) s f).run P w = .ok ⟨s.data ++ l.toArray⟩ w := by
  induction l generalizing s with
  | nil => simp [bytesV]
  | cons c l ih =>
    simp only [bytesV, List.map_cons, List.forIn_cons, Sem.run_bind, byteV, hf, Result.andThen]
    have := ih (s.push (UInt8.ofNat (c.toNat : Int).toNat))
    simp only [bytesV] at this
    refine Eq.trans this ?_
    congr 1
    simp [ByteArray.push]

theorem run_bytes_str {w : World} {src dst e : TypeId} (hs : P.underlying src = some (.slice e)) (he : P.underlying e = some (.int .u8)) (hd : P.underlying dst = some .string) {ad : Option Addr} {n cap : Nat} {l : List UInt8}
    (hn : l.length = n) (hc : ∀ b, ad = some b → ∀ j v, (bytesV l)[j]? = some v → w.cell? (b.add j) = some v) (h0 : ad = none → n = 0) :
    (convert src dst (.slice ad n cap)).run P w = .ok (.string ⟨l.toArray⟩) w := by
  rw [run_convert_bytes_string w src dst e _ n cap hs he hd]
  cases ad with
  | none =>
    have hl : l = [] := List.eq_nil_of_length_eq_zero (by rw [hn, h0 rfl])
    subst hl
    simp [Conv.bytesToString]; rfl
  | some b =>
    have hl := run_loadCells_list (P := P) w b (bytesV l) (hc b rfl)
    rw [bytesV_length, hn] at hl
    unfold Conv.bytesToString
    simp only [Sem.run_bind, hl, Result.andThen, List.forIn_toArray]
    rw [forIn_bytes _ (by intro n r; simp [Sem.run_pure])]
    simp [Sem.run_pure]

theorem add_add (b : Addr) (i j : Nat) : (b.add i).add j = b.add (i + j) := by
  unfold Addr.add
  by_cases hi : i = 0 <;> by_cases hj : j = 0 <;> simp [hi, hj, Nat.add_assoc]

theorem own_bytes_str {src dst e : TypeId} {x : Operand} {ad : Option Addr} {n cap : Nat} {l : List UInt8} (hs : P.underlying src = some (.slice e)) (he : P.underlying e = some (.int .u8)) (hd : P.underlying dst = some .string)
    (hw : Region.wanted ⟨d, .convert src dst x, ty, pos, aft, g⟩ (yielded ops a.tmps) = true) (hx : a.eval x = .slice ad n cap)
    (hn : l.length = n) (hc : ∀ b, ad = some b → ∀ j v, (bytesV l)[j]? = some v → w.cell? (b.add j) = some v) (h0 : ad = none → n = 0)
    (next : wpList P ops Q rest (a.put d (.string ⟨l.toArray⟩)) w) :
    wpList P ops Q (⟨d, .convert src dst x, ty, pos, aft, g⟩ :: rest) a w := by
  refine wpList_run_value hw ?_ next
  simp [execOp, hx, run_bytes_str hs he hd hn hc h0]

/-- a whole struct (or array) is loaded. -/
theorem own_loadS {t : TypeId} {x : Operand} {b : Nat} {cs : Array Value} {e : TypeId} {f : Nat × Nat} (hO : Own E w X) (hw : Region.wanted ⟨d, .load t x, ty, pos, aft, g⟩ (yielded ops a.tmps) = true)
    (hx : a.eval x = .pointer (some ⟨b, 0, none⟩)) (hh : Has X b (.cells cs e f)) (ht : (isAgg t).run P w = .ok true w) (hs : (sizeOf t).run P w = .ok cs.size w)
    (next : wpList P ops Q rest (a.put d (.agg cs)) w) : wpList P ops Q (⟨d, .load t x, ty, pos, aft, g⟩ :: rest) a w := by
  refine wpList_run_value hw ?_ next
  have hl := run_loadCells_list (P := P) w ⟨b, 0, none⟩ cs.toList (by
    intro j v hj
    rw [add_lit, hO.cell (b := b)]
    simpa using hj)
  rw [Array.length_toList] at hl
  simp [execOp, Instr.loadAt, Instr.sureAddr, hx, loadVar, ht, hs, hl]

theorem splice_all (cs : Array Value) (vs : List Value) (h : vs.length = cs.size) : splice cs 0 vs = vs.toArray := by
  have := splice_append vs [] cs.toList (by simp [h])
  simp only [List.nil_append, List.length_nil, Array.toArray_toList] at this
  rw [this, List.drop_of_length_le (by simp [h])]
  simp

/-- a whole struct (or array) is stored. -/
theorem own_storeS {t : TypeId} {x y : Operand} {b : Nat} {cs cs' : Array Value} {e : TypeId} (hO : Own E w X) (hw : Region.wanted ⟨d, .store t x y, ty, pos, aft, g⟩ (yielded ops a.tmps) = true)
    (hx : a.eval x = .pointer (some ⟨b, 0, none⟩)) (hy : a.eval y = .agg cs') (hp : PickPt X b (.cells cs e (0, 0)) R)
    (hs : (sizeOf t).run P w = .ok cs'.size w) (h1 : ∀ u ∈ cs'.toList, u.oneCell' = true) (hl : cs'.size = cs.size)
    (next : ∀ w1, Own E w1 (pt b (.cells cs' e (0, 0)) ++ R) → wpList P ops Q rest (a.put d undef) w1) :
    wpList P ops Q (⟨d, .store t x y, ty, pos, aft, g⟩ :: rest) a w := by
  refine own_store (v := .agg cs') (b := b) (off := 0) (cs := cs) (e := e) (R := R) hO hw hx hy hs h1 (by simp [Value.cells, hl]) ?_
  intro w1 hO1
  simp only [Value.cells] at hO1
  rw [splice_all _ _ (by simp [hl])] at hO1
  exact next w1 (by simpa using hO1)
end laws

theorem cut_cells {w : World} {F : List UInt8} {fa : Option Addr} {fc p m : Nat} (hcell : ∀ b, fa = some b → ∀ j v, (bytesV F)[j]? = some v → w.cell? (b.add j) = some v) (hp : p + m ≤ F.length) (hfc : F.length ≤ fc) :
    ∀ b, (if fc = p then fa else Option.map (fun x => x.add p) fa) = some b → ∀ j v, (bytesV ((F.drop p).take m))[j]? = some v → w.cell? (b.add j) = some v := by
  intro b hb j v hj
  rw [bytesV_take, bytesV_drop] at hj
  have hjm : j < m := by
    rcases Nat.lt_or_ge j m with h | h
    · exact h
    · rw [List.getElem?_eq_none (by rw [List.length_take]; omega)] at hj; cases hj
  rw [List.getElem?_take_of_lt hjm, List.getElem?_drop] at hj
  rw [if_neg (by omega)] at hb
  cases fa with
  | none => cases hb
  | some b0 =>
    simp at hb
    subst hb
    rw [add_add]
    exact hcell b0 rfl _ _ hj
theorem cut_none {fa : Option Addr} {fc p m : Nat} (hnil : fa = none → fc = 0) (hp : p + m ≤ fc) :
    (if fc = p then fa else Option.map (fun x => x.add p) fa) = none → m = 0 := by
  intro h
  split at h
  · omega
  · simp at h
    have := hnil h
    omega
end Go.Own

/- More laws for the walk: results that lie in a cell. -/
namespace Go.Own
open Go.RowKit

theorem run_loadVarS {P : Program} {E w : World} {X : Fr} {t : TypeId} {b : Nat} {cs : Array Value} {e : TypeId} {f : Nat × Nat} (hO : Own E w X) (hh : Has X b (.cells cs e f)) (ht : (isAgg t).run P w = .ok true w) (hs : (sizeOf t).run P w = .ok cs.size w) :
    (loadVar t ⟨b, 0, none⟩).run P w = .ok (.agg cs) w := by
  have hl := run_loadCells_list (P := P) w ⟨b, 0, none⟩ cs.toList (by
    intro j v hj
    rw [add_lit, hO.cell (b := b)]
    simpa using hj)
  rw [Array.length_toList] at hl
  simp [loadVar, ht, hs, hl]

theorem results_cell_tmp_own {P : Program} {E w : World} {X : Fr} {fn : Func} {p u : Tmp} {t : TypeId} {b : Nat} {cs : Array Value} {e : TypeId} {f : Nat × Nat} {tmps : Array Value} {v : Value} (h : fn.results = #[.cell p t, .tmp u]) (hO : Own E w X)
    (hp : tmps.getD p undef = .pointer (some ⟨b, 0, none⟩)) (hu : tmps.getD u undef = v) (hh : Has X b (.cells cs e f)) (ht : (isAgg t).run P w = .ok true w) (hs : (sizeOf t).run P w = .ok cs.size w) :
    (results fn tmps).run P w = .ok (.tuple #[.agg cs, v]) w := by
  rw [results_cell_tmp h, hp, hu]
  simp [asAddr, run_loadVarS hO hh ht hs]

theorem results_cell_own {P : Program} {E w : World} {X : Fr} {fn : Func} {p : Tmp} {t : TypeId} {b : Nat} {cs : Array Value} {e : TypeId} {f : Nat × Nat} {tmps : Array Value} (h : fn.results = #[.cell p t]) (hO : Own E w X)
    (hp : tmps.getD p undef = .pointer (some ⟨b, 0, none⟩)) (hh : Has X b (.cells cs e f)) (ht : (isAgg t).run P w = .ok true w) (hs : (sizeOf t).run P w = .ok cs.size w) :
    (results fn tmps).run P w = .ok (.agg cs) w := by
  have : (results fn tmps).run P w = ((asAddr (tmps.getD p undef)).run P w).andThen fun a w₁ => (loadVar t a).run P w₁ := by
    simp only [results, h]
    simp [Sem.run_bind, Result.andThen]
  rw [this, hp]
  simp [asAddr, run_loadVarS hO hh ht hs]

/-- The walk halts before a goal that bears this name. -/
structure Stop (p : Prop) : Prop where
  go : p

theorem run_opLoadS {P : Program} {E w : World} {X : Fr} {a : Act} {d : Option Tmp} {ty : TypeId} {pos : String} {aft : Array Edge} {g : Option (Nat × Bool)} {t : TypeId} {x : Operand} {b : Nat} {cs : Array Value} {e : TypeId} {f : Nat × Nat} (hO : Own E w X)
    (hx : a.eval x = .pointer (some ⟨b, 0, none⟩)) (hh : Has X b (.cells cs e f)) (ht : (isAgg t).run P w = .ok true w) (hs : (sizeOf t).run P w = .ok cs.size w) :
    (execOp a.eval ⟨d, .load t x, ty, pos, aft, g⟩).run P w = .ok (.value (.agg cs)) w := by
  have := run_loadVarS hO hh ht hs
  simp [execOp, Instr.loadAt, Instr.sureAddr, hx, this]

section laws
variable {P : Program} {ops : Array Oper} {Q : Exit → Act → World → Prop} {rest : List Oper} {a : Act} {E w : World} {X A R : Fr} {d : Option Tmp} {ty : TypeId} {pos : String} {aft : Array Edge} {g : Option (Nat × Bool)}
/-- append onto the nil slice: a slice of our own. -/
theorem own_append_new {xv : Value} {t tx e : TypeId} {sz bytes : Nat} {z : Value} {s x : Operand} {m : Nat} {news : List Value} (hT : SlT P t e sz bytes z)
    (htx : P.underlying tx = some (.slice e) ∨ P.underlying tx = some .string) (hO : Own E w X)
    (hw : Region.wanted ⟨d, .call { callee := .builtin .append, args := #[s, x], argTypes := #[t, tx] }, ty, pos, aft, g⟩ (yielded ops a.tmps) = true)
    (hs : a.eval s = .slice none 0 0) (hx : a.eval x = xv)
    (hlen : ∀ w, (Builtin.lenOf xv).run P w = .ok m w) (hnews : ∀ w', Own E w' X → (Builtin.firstCells sz m xv).run P w' = .ok news.toArray w')
    (hl : news.length = m * sz) (h1 : ∀ u ∈ news, u.oneCell' = true) (h63 : m ≤ maxLen) (hb : m * bytes ≤ 140737488355328)
    (next : ∀ a' cap' A' w1, Sl e sz a' m cap' news A' → Own E w1 (A' ++ X) → wpList P ops Q rest (a.put d (.slice a' m cap')) w1) :
    wpList P ops Q (⟨d, .call { callee := .builtin .append, args := #[s, x], argTypes := #[t, tx] }, ty, pos, aft, g⟩ :: rest) a w := by
  refine own_append (R := X) hT htx hO hw hs hx (Sl.nil e sz) hlen hnews hl h1 (by omega) (.inl (by simpa using hb)) ?_
  intro a' cap' A' w1 hS hO1
  simp only [Nat.zero_add, List.nil_append] at hS ⊢
  exact next a' cap' A' w1 hS hO1

/-- a store of a value of one cell or more; block, place and row are read off the goal. -/
theorem own_storeG {b off : Nat} {v : Value} {cs : Array Value} {e : TypeId} {R' : Fr} {t : TypeId} {x y : Operand} (hO : Own E w X) (hw : Region.wanted ⟨d, .store t x y, ty, pos, aft, g⟩ (yielded ops a.tmps) = true)
    (hx : a.eval x = .pointer (some ⟨b, off, none⟩)) (hy : a.eval y = v) (hp : PickPt X b (.cells cs e (0, 0)) R')
    (hs : (sizeOf t).run P w = .ok v.cells.size w) (h1 : ∀ u ∈ v.cells.toList, u.oneCell' = true) (hl : off + v.cells.size ≤ cs.size)
    (next : ∀ w1, Own E w1 (pt b (.cells (splice cs off v.cells.toList) e (0, 0)) ++ R') → wpList P ops Q rest (a.put d undef) w1) :
    wpList P ops Q (⟨d, .store t x y, ty, pos, aft, g⟩ :: rest) a w := own_store hO hw hx hy hs h1 hl next
end laws
end Go.Own

/- A region that draws its order, where twice an operation may be first: a tree of schedules. -/
namespace Go.Own
open Go.RowKit

inductive Sch where
  | done
  | look (i : Nat) (s : Sch)
  | act (i : Nat) (s : Sch)
  | two (i : Nat) (s : Sch) (j : Nat) (t : Sch)

def Sch.len : Sch → Nat
  | .done => 0
  | .look _ s => s.len + 1
  | .act _ s => s.len + 1
  | .two _ s _ _ => s.len + 1

section
variable {P : Program} {ops : Array Oper} {Q : Exit → Act → World → Prop} {S : World → Prop}

def schB (ops : Array Oper) : Sch → Array Bool → Bool
  | .done, listed => (Region.ready .any ops listed).isEmpty
  | .look i s, listed => (Region.ready .any ops listed).contains i && Region.free .any ops listed i && schB ops s (listed.setIfInBounds i true)
  | .act i s, listed => decide (Region.ready .any ops listed = [i]) && schB ops s (listed.setIfInBounds i true)
  | .two i s j t, listed => decide (Region.ready .any ops listed = [i, j]) && decide (s.len = t.len) && schB ops s (listed.setIfInBounds i true) && schB ops t (listed.setIfInBounds j true)

def schL (P : Program) (ops : Array Oper) (Q : Exit → Act → World → Prop) (S : World → Prop) : Sch → Act → World → Prop
  | .done, a, w => Q .normal a w
  | .look i s, a, w => ∃ v, YieldsIf P ops S (ops.getD i default) v a ∧ schL P ops Q S s (a.put (ops.getD i default).dst v) w
  | .act i s, a, w => wpList P ops (fun e a' w' => match e with | .normal => S w' ∧ schL P ops Q S s a' w' | e => Q e a' w') [ops.getD i default] a w
  | .two i s j t, a, w => wpList P ops (fun e a' w' => match e with | .normal => S w' ∧ schL P ops Q S s a' w' | e => Q e a' w') [ops.getD i default] a w ∧
      wpList P ops (fun e a' w' => match e with | .normal => S w' ∧ schL P ops Q S t a' w' | e => Q e a' w') [ops.getD j default] a w

theorem wpOp_of_list {i : Nat} {o : Oper} {K : Act → World → Prop} {K' : Act → World → Prop} (ho : ops[i]? = some o) {a : Act} {w : World} (hK : ∀ a' w', S w' ∧ K a' w' → K' a' w')
    (h : wpList P ops (fun e a' w' => match e with | .normal => S w' ∧ K a' w' | e => Q e a' w') [o] a w) : wpOp P ops Q i K' a w := by
  unfold wpOp
  simp only [ho]
  unfold wpList at h
  split at h
  · rename_i hw
    rw [if_pos hw]
    rcases h with h | h
    · refine .inl ?_
      unfold Oper.wp at *
      generalize (execOp a.eval o).run P w = r at *
      have fin : ∀ a' w', wpList P ops (fun e a' w' => match e with | .normal => S w' ∧ K a' w' | e => Q e a' w') [] a' w' → K' a' w' := fun a' w' h => hK a' w' h
      cases r with
      | ok n w' =>
        cases n <;> simp only [Oper.upon] at h ⊢ <;> first
          | exact fin _ _ h
          | exact Calls.mono h (fun e w'' he => by cases e <;> first | exact fin _ _ he | exact he)
          | exact Rows.mono h (fun _ _ he => fin _ _ he)
      | halt x w' => cases x <;> simp only [Oper.upon] at h ⊢ <;> exact h
    · exact .inr h
  · rename_i hw
    rw [if_neg hw]
    exact hK _ _ h

theorem wpAnyH_of_sch (hsel : Region.noSelect ops = true) (hQ : ∀ c a d v w, Q (.panic c) (a.put d v) w → Q (.panic c) a w) : ∀ (s : Sch) (listed : Array Bool) (a : Act) (w : World), schB ops s listed = true → S w →
    schL P ops Q S s a w → wpAnyH P .any ops Q S s.len listed a w
  | .done, listed, a, w, hB, _, h => ⟨by simpa [schB] using hB, h⟩
  | .look i s, listed, a, w, hB, hS, h => by
    simp only [schB, Bool.and_eq_true] at hB
    obtain ⟨⟨hr, hf⟩, hB'⟩ := hB
    have hr' : i ∈ Region.ready .any ops listed := by simpa using hr
    obtain ⟨_, o, ho, _⟩ := mem_ready.1 hr'
    simp only [schL] at h
    have hd : ops.getD i default = o := by simp [ho]
    rw [hd] at h
    obtain ⟨v, hy, h⟩ := h
    exact wpAnyH_first ho (Region.noSelect_spec hsel) (fun c a w => hQ c a _ _ w) s.len listed a w (Region.free_spec ho hf) hr' hy hS
      (wpAnyH_of_sch hsel hQ s _ _ _ hB' hS h)
  | .act i s, listed, a, w, hB, hS, h => by
    simp only [schB, Bool.and_eq_true, decide_eq_true_eq] at hB
    obtain ⟨hr, hB'⟩ := hB
    have hr' : i ∈ Region.ready .any ops listed := by rw [hr]; simp
    obtain ⟨_, o, ho, _⟩ := mem_ready.1 hr'
    simp only [schL] at h
    have hd : ops.getD i default = o := by simp [ho]
    rw [hd] at h
    refine ⟨fun h0 => (by rw [h0] at hr; cases hr), fun j hj => ?_⟩
    rw [hr] at hj
    have hji : j = i := by simpa using hj
    subst hji
    exact wpOp_of_list ho (fun a' w' h' => ⟨h'.1, wpAnyH_of_sch hsel hQ s _ _ _ hB' h'.1 h'.2⟩) h
  | .two i s j t, listed, a, w, hB, hS, h => by
    simp only [schB, Bool.and_eq_true, decide_eq_true_eq] at hB
    obtain ⟨⟨⟨hr, hl⟩, hB1⟩, hB2⟩ := hB
    have hri : i ∈ Region.ready .any ops listed := by rw [hr]; simp
    have hrj : j ∈ Region.ready .any ops listed := by rw [hr]; simp
    obtain ⟨_, o, ho, _⟩ := mem_ready.1 hri
    obtain ⟨_, o', ho', _⟩ := mem_ready.1 hrj
    simp only [schL] at h
    have hd : ops.getD i default = o := by simp [ho]
    have hd' : ops.getD j default = o' := by simp [ho']
    rw [hd, hd'] at h
    refine ⟨fun h0 => (by rw [h0] at hr; cases hr), fun k hk => ?_⟩
    rw [hr] at hk
    have hk' : k = i ∨ k = j := by simpa using hk
    by_cases hki : k = i
    · subst hki
      exact wpOp_of_list ho (fun a' w' h' => ⟨h'.1, wpAnyH_of_sch hsel hQ s _ _ _ hB1 h'.1 h'.2⟩) h.1
    · have hkj : k = j := by rcases hk' with h | h; exact absurd h hki; exact h
      subst hkj
      refine wpOp_of_list ho' (fun a' w' h' => ⟨h'.1, ?_⟩) h.2
      have := wpAnyH_of_sch hsel hQ t _ _ _ hB2 h'.1 h'.2
      rw [← hl] at this
      exact this

theorem region_sch {id : Nat} {a : Act} {w : World} {l : List Oper} (S : World → Prop) (s : Sch) (hm : P.follows .mixedOrders = true)
    (hB : (Region.noSelect l.toArray && decide (s.len = l.length) && schB l.toArray s (Array.replicate l.length false)) = true)
    (hQ : ∀ c a d v w, Q (.panic c) (a.put d v) w → Q (.panic c) a w) (hS : S w.drew)
    (h : schL P l.toArray Q S s a w.drew) : (Code.region id l.toArray true).wp P Q a w := by
  simp only [Bool.and_eq_true, decide_eq_true_eq] at hB
  obtain ⟨⟨hsel, hlen⟩, hB⟩ := hB
  refine wp_region_any hm (wpAny_of_held (S := S) _ _ _ _ ?_)
  have := wpAnyH_of_sch hsel hQ s _ a w.drew hB hS h
  rw [hlen] at this
  simpa using this

theorem region_schO {E : World} {X : Fr} {id : Nat} {a : Act} {w : World} {l : List Oper} (hO : Own E w X) (s : Sch) (hm : P.follows .mixedOrders = true)
    (hB : (Region.noSelect l.toArray && decide (s.len = l.length) && schB l.toArray s (Array.replicate l.length false)) = true)
    (hQ : ∀ c a d v w, Q (.panic c) (a.put d v) w → Q (.panic c) a w)
    (h : ∀ w1, Own E w1 X → schL P l.toArray Q (fun w' => Own E w' X) s a w1) : (Code.region id l.toArray true).wp P Q a w :=
  region_sch _ s hm hB hQ hO.drew (h _ hO.drew)

theorem sch_look {i : Nat} {s : Sch} {a : Act} {w : World} {o : Oper} {v : Value} (ho : ops.getD i default = o) (hw : Region.wanted o (yielded ops a.tmps) = true) (hy : ∀ w, S w → (execOp a.eval o).run P w = .ok (.value v) w)
    (h : schL P ops Q S s (a.put o.dst v) w) : schL P ops Q S (.look i s) a w := by subst ho; exact ⟨v, .inl ⟨hw, hy⟩, h⟩
theorem sch_pass {i : Nat} {s : Sch} {a : Act} {w : World} {o : Oper} (ho : ops.getD i default = o) (hw : Region.wanted o (yielded ops a.tmps) = false)
    (h : schL P ops Q S s (a.put o.dst undef) w) : schL P ops Q S (.look i s) a w := by subst ho; exact ⟨undef, .inr ⟨hw, rfl⟩, h⟩
theorem sch_act {i : Nat} {s : Sch} {a : Act} {w : World} {o : Oper} (ho : ops.getD i default = o)
    (h : wpList P ops (fun e a' w' => match e with | .normal => S w' ∧ schL P ops Q S s a' w' | e => Q e a' w') [o] a w) : schL P ops Q S (.act i s) a w := by subst ho; exact h
theorem sch_two {i j : Nat} {s t : Sch} {a : Act} {w : World} {o o' : Oper} (ho : ops.getD i default = o) (ho' : ops.getD j default = o')
    (h : wpList P ops (fun e a' w' => match e with | .normal => S w' ∧ schL P ops Q S s a' w' | e => Q e a' w') [o] a w)
    (h' : wpList P ops (fun e a' w' => match e with | .normal => S w' ∧ schL P ops Q S t a' w' | e => Q e a' w') [o'] a w) : schL P ops Q S (.two i s j t) a w := by subst ho ho'; exact ⟨h, h'⟩
theorem sch_done {a : Act} {w : World} (h : Q .normal a w) : schL P ops Q S .done a w := h
end
end Go.Own

/- What came in stays as it was: cells of the world at the start. -/
namespace Go.Own
open Go.RowKit

theorem Own.oldCell {E w : World} {X R : Fr} (hO : Own E w X) [hp : Pick X (oldFr E) R] {a : Addr} {v : Value} (h : E.cell? a = some v) : w.cell? a = some v := by
  have hb := World.block_lt_of_cell? E a h
  have h1 := (hO.perm hp.perm).left
  have hk : E.heap[a.block]? = some (E.heap[a.block]'hb) := Array.getElem?_eq_getElem hb
  have := h1.mem _ (oldFr_mem hk)
  rw [← h]
  exact World.cell?_of_block (by rw [this, hk])

/-- The row at a holds these cells, in the world at the start. -/
def RowAt (E : World) (a : Addr) (cs : List Value) : Prop := ∀ j v, cs[j]? = some v → E.cell? (a.add j) = some v
theorem RowAt.at {E w : World} {X R : Fr} {a : Addr} {cs : List Value} (h : RowAt E a cs) (hO : Own E w X) [hp : Pick X (oldFr E) R] : ∀ j v, cs[j]? = some v → w.cell? (a.add j) = some v :=
  fun j v hj => hO.oldCell (h j v hj)

theorem run_opLoadC {P : Program} {w : World} {a : Act} {d : Option Tmp} {ty : TypeId} {pos : String} {aft : Array Edge} {g : Option (Nat × Bool)} {t : TypeId} {x : Operand} {ad : Addr} {cs : List Value} (hc : ∀ j v, cs[j]? = some v → w.cell? (ad.add j) = some v)
    (hx : a.eval x = .pointer (some ad)) (ht : (isAgg t).run P w = .ok true w) (hs : (sizeOf t).run P w = .ok cs.length w) :
    (execOp a.eval ⟨d, .load t x, ty, pos, aft, g⟩).run P w = .ok (.value (.agg cs.toArray)) w := by
  have := run_loadCells_list (P := P) w ad cs hc
  simp [execOp, Instr.loadAt, Instr.sureAddr, hx, loadVar, ht, hs, this]

theorem own_loadC {P : Program} {ops : Array Oper} {Q : Exit → Act → World → Prop} {rest : List Oper} {a : Act} {w : World} {d : Option Tmp} {ty : TypeId} {pos : String} {aft : Array Edge} {g : Option (Nat × Bool)} {t : TypeId} {x : Operand} {ad : Addr} {cs : List Value}
    (hw : Region.wanted ⟨d, .load t x, ty, pos, aft, g⟩ (yielded ops a.tmps) = true) (hc : ∀ j v, cs[j]? = some v → w.cell? (ad.add j) = some v)
    (hx : a.eval x = .pointer (some ad)) (ht : (isAgg t).run P w = .ok true w) (hs : (sizeOf t).run P w = .ok cs.length w)
    (next : wpList P ops Q rest (a.put d (.agg cs.toArray)) w) : wpList P ops Q (⟨d, .load t x, ty, pos, aft, g⟩ :: rest) a w :=
  wpList_run_value hw (run_opLoadC hc hx ht hs) next
end Go.Own

/- Arguments opened: a slice of structs as rows of cells; a list of what each row says. -/
namespace Go.Own
open Go.RowKit Go.ChangeShapes Go.WideShapes Go.Deep

theorem exists_list {α : Type} [Inhabited α] {P : Nat → α → Prop} : ∀ {n : Nat}, (∀ i, i < n → ∃ o, P i o) → ∃ L : List α, L.length = n ∧ ∀ i (h : i < L.length), P i L[i]
  | n, hp => by
    refine ⟨(List.range n).map fun i => if h : i < n then Classical.choose (hp i h) else default, by simp, ?_⟩
    intro i h
    have hi : i < n := by simpa using h
    simp only [List.getElem_map, List.getElem_range, hi, dite_true]
    exact Classical.choose_spec (hp i hi)

section
variable {H : Type} {enc : TypeId × Value → H} {P : Program} {w : World} {base : Nat} {spare : Nat → Bool} {held : Bool}
/-- A slice of structs of one-cell fields: each element a row of cells of the world, each field's cell read as data. -/
theorem open_rows {t e : TypeId} {fs : Array Field} {fuel : Nat} {v : Value} {x : DataW H × List MemPlace} (ht : P.underlying t = some (.slice e)) (he : P.underlying e = some (.struct fs))
    (hone : oneCellFields P fs = true) (hC : P.cellsOf e = fs.size) (h : DataW.trod enc P w base spare held fuel t [v] = some x) :
    ∃ (sa : Option Addr) (len cap : Nat), v = .slice sa len cap ∧ len ≤ cap ∧ cap ≤ maxLen ∧ (sa = none → len = 0 ∧ cap = 0) ∧ (len = 0 ∨ ∃ es sp, x.1 = .slice es sp ∧ es.length = len) ∧
      ∀ i, i < len → ∃ ad vs, sa = some ad ∧ vs.length = fs.size ∧ RowAt w (ad.add (i * fs.size)) vs ∧ ∃ n, ∀ (j : Nat) (f : Field), fs[j]? = some f → ∃ u y, vs[j]? = some u ∧ DataW.trod enc P w base spare held n f.type [u] = some y := by
  rcases open_slice ht h with ⟨h0, hx⟩ | ⟨a, len, cap, m, n, D, Pl, hcs, hb, hl, hm, hmm, hx, hi⟩
  · refine ⟨none, 0, 0, by simpa using h0, by omega, by simp [maxLen], fun _ => ⟨rfl, rfl⟩, .inl rfl, fun i hi => absurd hi (by omega)⟩
  · refine ⟨some a, len, cap, by simpa using hcs, hl, hm, by simp, .inr ⟨_, _, by rw [hx], by simp⟩, fun i him => ?_⟩
    have hlm : len ≤ m := by rw [hmm]; split <;> omega
    obtain ⟨cs', hc, ht'⟩ := hi i (by omega)
    rw [hC] at hc
    obtain ⟨ys, n', _, _, _, hyl, hf⟩ := DataW.trod_struct he ht'
    obtain ⟨_, hcl, hat⟩ := World.cells?_some hc
    refine ⟨a, cs', rfl, hcl, ?_, n', ?_⟩
    · intro j u hj
      have hjl : j < cs'.length := (List.getElem?_eq_some_iff.1 hj).1
      rw [hat j (by omega), hj]
    · intro j f hj
      obtain ⟨ho, hk⟩ := hone_of hone j f hj
      have hjl : j < fs.size := (Array.getElem?_eq_some_iff.1 hj).1
      have h1 := hf j f hj
      rw [ho, hk] at h1
      have h2 : (cs'.drop j).take 1 = [cs'[j]'(by omega)] := by
        rw [List.drop_eq_getElem_cons (by omega)]
        rfl
      rw [h2, List.getElem?_eq_getElem (by omega)] at h1
      exact ⟨_, _, List.getElem?_eq_getElem (by omega), h1⟩
end
end Go.Own

/- Data in memory; data handed in. -/
namespace Go.Dt
open Go Go.RowKit Go.Own Go.ChangeShapes Go.WideShapes Go.Deep

instance : Inhabited It := ⟨⟨0, 0, .empty, 0⟩⟩
def itV (x : It) (a : Option Addr) (c : Nat) : List Value := [.int .i64 x.k, .int .i64 x.n, .string x.s, .slice a x.m c]
/-- The items of a list lie at sa, in memory that I lists. -/
def ItemsAt (E : World) (I : Fr) (sa : Option Addr) (l : List It) : Prop :=
  ∃ (ia : Nat → Option Addr) (ic : Nat → Nat), ∀ (Y : Fr) (w : World), Own E w (I ++ Y) → ∀ i (hi : i < l.length), ∃ ad, sa = some ad ∧ ∀ j u, (itV (l[i]'hi) (ia i) (ic i))[j]? = some u → w.cell? ((ad.add (i * 4)).add j) = some u
theorem ItemsAt.nil (E : World) (I : Fr) (sa : Option Addr) : ItemsAt E I sa [] := ⟨fun _ => none, fun _ => 0, fun _ _ _ i hi => absurd hi (Nat.not_lt_zero i)⟩
theorem ItemsAt.of {E : World} {I J K : Fr} {sa : Option Addr} {l : List It} (h : ItemsAt E I sa l) (hp : J.Perm (I ++ K)) : ItemsAt E J sa l := by
  obtain ⟨ia, ic, h⟩ := h
  refine ⟨ia, ic, fun Y w hO => h (K ++ Y) w ?_⟩
  rw [← List.append_assoc]
  exact hO.perm (List.Perm.append_right Y hp)
def datV (d : Dt) (sa : Option Addr) (cap : Nat) : List Value := [.int .i64 d.k, .int .i64 d.n, .string d.s, .slice sa d.l.length cap]
section
variable {H : Type} {enc : TypeId × Value → H} {P : Program} {W : World} {spare : Nat → Bool}
theorem wfI {n : Int} (h : (Lit.int .i64 n).wf = true) : i64 n := by
  have h1 : IntKind.i64.min ≤ n ∧ n ≤ 9223372036854775807 := by simpa [Lit.wf] using h
  have h2 : IntKind.i64.min = -9223372036854775808 := by decide
  rw [h2] at h1
  exact ⟨h1.1, by omega⟩
theorem openItems {ts td ti tt : TypeId} {fs : Array Field} {fuel : Nat} {v : Value} {x : DataW H × List MemPlace} (hts : P.underlying ts = some (.slice td)) (htd : P.underlying td = some (.struct fs)) (hti : P.underlying ti = some (.int .i64)) (htt : P.underlying tt = some .string)
    (hf : fs.map (·.type) = #[ti, ti, tt, ts]) (hone : oneCellFields P fs = true) (hC : P.cellsOf td = fs.size) (h : DataW.trod enc P W 0 spare true fuel ts [v] = some x) :
    ∃ (sa : Option Addr) (cap : Nat) (l : List It), v = .slice sa l.length cap ∧ l.length ≤ cap ∧ ItemsAt W (oldFr W) sa l ∧ ∀ x ∈ l, i64 x.k ∧ i64 x.n := by
  have hsz : fs.size = 4 := by have := congrArg Array.size hf; simpa using this
  obtain ⟨sa, len, cap, rfl, hlc, _, _, _, hr⟩ := open_rows hts htd hone hC h
  rw [hsz] at hr
  have ft : ∀ j, j < 4 → ∃ f, fs[j]? = some f ∧ some f.type = (#[ti, ti, tt, ts] : Array TypeId)[j]? := fun j hj => by
    refine ⟨fs[j]'(by omega), Array.getElem?_eq_getElem (by omega), ?_⟩
    rw [← hf, Array.getElem?_map, Array.getElem?_eq_getElem (by omega)]
    rfl
  have : ∀ i, i < len → ∃ o : It × Option Addr × Nat, (∃ ad, sa = some ad ∧ RowAt W (ad.add (i * 4)) (itV o.1 o.2.1 o.2.2)) ∧ i64 o.1.k ∧ i64 o.1.n := by
    intro i hi
    obtain ⟨ad, vs, rfl, hvl, hrow, n, hfd⟩ := hr i hi
    obtain ⟨f0, g0, q0⟩ := ft 0 (by decide)
    obtain ⟨f1, g1, q1⟩ := ft 1 (by decide)
    obtain ⟨f2, g2, q2⟩ := ft 2 (by decide)
    obtain ⟨f3, g3, q3⟩ := ft 3 (by decide)
    obtain ⟨u0, y0, e0, t0⟩ := hfd 0 f0 g0
    obtain ⟨u1, y1, e1, t1⟩ := hfd 1 f1 g1
    obtain ⟨u2, y2, e2, t2⟩ := hfd 2 f2 g2
    obtain ⟨u3, y3, e3, t3⟩ := hfd 3 f3 g3
    rw [show f0.type = ti from Option.some.inj q0] at t0
    rw [show f1.type = ti from Option.some.inj q1] at t1
    rw [show f2.type = tt from Option.some.inj q2] at t2
    rw [show f3.type = ts from Option.some.inj q3] at t3
    obtain ⟨k0, c0, _, w0⟩ := DataW.trod_int hti t0
    obtain ⟨k1, c1, _, w1⟩ := DataW.trod_int hti t1
    obtain ⟨s2, c2, _, _⟩ := DataW.trod_string htt t2
    obtain ⟨a3, n3, m3, rfl, _⟩ := open_rows hts htd hone hC t3
    have z0 := wfI w0
    have z1 := wfI w1
    match vs, hvl with
    | [_, _, _, _], _ =>
      simp at e0 e1 e2 e3 c0 c1 c2
      subst e0 e1 e2 e3 c0 c1 c2
      exact ⟨(⟨k0, k1, s2, n3⟩, a3, m3), ⟨ad, rfl, hrow⟩, z0, z1⟩
  obtain ⟨L, hL, hp⟩ := exists_list (α := It × Option Addr × Nat) (P := fun i o => (∃ ad, sa = some ad ∧ RowAt W (ad.add (i * 4)) (itV o.1 o.2.1 o.2.2)) ∧ i64 o.1.k ∧ i64 o.1.n) this
  subst hL
  refine ⟨sa, cap, L.map (·.1), by rw [List.length_map], by rw [List.length_map]; exact hlc, ⟨fun i => (L[i]?.map (·.2.1)).getD none, fun i => (L[i]?.map (·.2.2)).getD 0, fun Y w hO i hi => ?_⟩, fun x hx => ?_⟩
  · have hi' : i < L.length := by simpa using hi
    obtain ⟨⟨ad, h1, h2⟩, _⟩ := hp i hi'
    refine ⟨ad, h1, fun j u hj => h2.at hO j u ?_⟩
    rw [List.getElem_map] at hj
    simp only [List.getElem?_eq_getElem hi', Option.map_some, Option.getD_some] at hj
    exact hj
  · obtain ⟨o, ho, rfl⟩ := List.mem_map.1 hx
    obtain ⟨i, hi, rfl⟩ := List.mem_iff_getElem.1 ho
    exact (hp i hi).2
end
end Go.Dt

/- Plain: strings.ReplaceAll of noughts, strings.Compare. -/
namespace Go.Dt
open Go

theorem esc_no : ∀ (l : List UInt8), (∀ c ∈ l, c ≠ 0) → esc l = l
  | [], _ => rfl
  | c :: l, h => by
    have h1 := esc_no l fun x hx => h x (List.mem_cons_of_mem _ hx)
    unfold esc at h1 ⊢
    rw [List.flatMap_cons, if_neg (h c (List.mem_cons_self ..)), h1]
    rfl
theorem esc_app (a b : List UInt8) : esc (a ++ b) = esc a ++ esc b := List.flatMap_append
theorem index0 : ∀ (s : List UInt8), (Lib.index s [0] = -1 ∧ ∀ c ∈ s, c ≠ 0) ∨ (∃ i : Nat, Lib.index s [0] = i ∧ i < s.length ∧ s = s.take i ++ 0 :: s.drop (i + 1) ∧ ∀ c ∈ s.take i, c ≠ 0)
  | [] => .inl ⟨rfl, fun _ h => (nomatch h)⟩
  | b :: l => by
    have hi : Lib.index (b :: l) [0] = if b = 0 then 0 else if Lib.index l [0] == -1 then -1 else Lib.index l [0] + 1 := by
      unfold Lib.index
      by_cases hb : b = 0
      · rw [if_pos hb, if_pos]
        subst hb
        rfl
      · rw [if_neg hb, if_neg]
        · cases l <;> rfl
        · simp [List.isPrefixOf]
          exact fun h => hb h.symm
    by_cases hb : b = 0
    · refine .inr ⟨0, by rw [hi, if_pos hb]; rfl, Nat.succ_pos _, by rw [hb]; rfl, fun _ h => (nomatch h)⟩
    · rw [if_neg hb] at hi
      rcases index0 l with ⟨h1, h2⟩ | ⟨i, h1, h0, h2, h3⟩
      · refine .inl ⟨by rw [hi, h1]; rfl, fun c hc => ?_⟩
        rcases List.mem_cons.1 hc with rfl | hc
        · exact hb
        · exact h2 c hc
      · refine .inr ⟨i + 1, ?_, Nat.succ_lt_succ h0, ?_, fun c hc => ?_⟩
        · rw [hi, h1, if_neg]
          · omega
          · rw [beq_iff_eq]; omega
        · conv => lhs; rw [h2]
          rfl
        · rcases List.mem_cons.1 hc with rfl | hc
          · exact hb
          · exact h3 c hc
theorem rep0 : ∀ (fuel : Nat) (s : List UInt8), s.length < fuel → Lib.replaceK [0] [0, 255] (Lib.countFrom [0] fuel s) s = esc s
  | 0, _, h => absurd h (Nat.not_lt_zero _)
  | fuel + 1, s, h => by
    rcases index0 s with ⟨h1, h2⟩ | ⟨i, h1, h0, h2, h3⟩
    · have e : Lib.countFrom [0] (fuel + 1) s = 0 := by
        unfold Lib.countFrom
        rw [h1]
        rfl
      rw [e]
      unfold Lib.replaceK
      exact (esc_no s h2).symm
    · have e : Lib.countFrom [0] (fuel + 1) s = Lib.countFrom [0] fuel (s.drop (i + 1)) + 1 := by
        conv => lhs; unfold Lib.countFrom
        rw [h1, if_neg (by rw [beq_iff_eq]; omega)]
        show 1 + Lib.countFrom [0] fuel (s.drop ((i : Int).toNat + 1)) = _
        rw [Int.toNat_natCast, Nat.add_comm]
      rw [e, Lib.replaceK_hit _ _ _ _ i h1]
      show s.take i ++ [0, 255] ++ Lib.replaceK [0] [0, 255] _ (s.drop (i + 1)) = _
      rw [rep0 fuel (s.drop (i + 1)) (by rw [List.length_drop]; omega)]
      conv => rhs; rw [h2]
      rw [esc_app, esc_no _ h3, List.append_assoc]
      rfl
theorem count0 {s : List UInt8} (h : Lib.count s [0] = 0) : esc s = s := by
  have := rep0 (s.length + 1) s (Nat.lt_succ_self _)
  unfold Lib.count at h
  rw [h] at this
  unfold Lib.replaceK at this
  exact this.symm
theorem cmpB : ∀ (a b : List UInt8), (Lib.compareBytes a b = -1 ∧ a < b) ∨ (Lib.compareBytes a b = 0 ∧ a = b) ∨ (Lib.compareBytes a b = 1 ∧ b < a)
  | [], [] => .inr (.inl ⟨rfl, rfl⟩)
  | [], b :: ys => .inl ⟨rfl, List.nil_lt_cons _ _⟩
  | a :: xs, [] => .inr (.inr ⟨rfl, List.nil_lt_cons _ _⟩)
  | a :: xs, b :: ys => by
    unfold Lib.compareBytes
    by_cases h1 : a < b
    · rw [if_pos h1]
      exact .inl ⟨rfl, List.cons_lt_cons_iff.2 (.inl h1)⟩
    · rw [if_neg h1]
      by_cases h2 : b < a
      · rw [if_pos h2]
        exact .inr (.inr ⟨rfl, List.cons_lt_cons_iff.2 (.inl h2)⟩)
      · rw [if_neg h2]
        have e : a = b := by
          rw [UInt8.lt_iff_toNat_lt] at h1 h2
          exact UInt8.toNat_inj.1 (by omega)
        subst e
        rcases cmpB xs ys with ⟨h3, h4⟩ | ⟨h3, h4⟩ | ⟨h3, h4⟩
        · exact .inl ⟨h3, List.cons_lt_cons_iff.2 (.inr ⟨rfl, h4⟩)⟩
        · exact .inr (.inl ⟨h3, by rw [h4]⟩)
        · exact .inr (.inr ⟨h3, List.cons_lt_cons_iff.2 (.inr ⟨rfl, h4⟩)⟩)
end Go.Dt
