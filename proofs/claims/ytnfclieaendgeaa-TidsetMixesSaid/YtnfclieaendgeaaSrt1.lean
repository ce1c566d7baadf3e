/- Texts in order: cmp.Less, slices.IsSorted, the law's rises and same. -/
import Derived.Test.YtnfclieaendgeaaHeapG
set_option linter.all false
namespace Go.Proofs.Ytnfclieaendgeaa
open Go Go.RowKit Go.Own Go.Hp

/-- A list of texts that can be read where the blocks I are ours. -/
def TxtIn (E : World) (I : Fr) (sa : Option Addr) (l : List ByteArray) : Prop := ∀ w, Own E w I → ∀ i (h : i < l.length), ∃ ad, sa = some ad ∧ w.cell? (ad.add i) = some (.string l[i])
theorem RoOk.txt {E : World} {I : Fr} {r : RO} (h : RoOk E I r) : TxtIn E I r.ad r.l := by
  intro w hO i hi
  obtain ⟨a, h1, h2⟩ := h.2.2 (fun h0 => by rw [h0] at hi; cases hi)
  exact ⟨a, h1, h2 w hO i hi⟩

set_option maxRecDepth 100000 in
set_option maxHeartbeats 16000000 in
theorem sIsNaN (w : World) (x : ByteArray) : Calls Try.prog 67 #[.string x] w fun e w' => e = .returned (.bool false) ∧ w = w' := by
  have hx : (x.toList != x.toList) = false := by simp
  go_enter Try.func67, Try.ntmps67
  go_wp2
  go_ret
  exact ⟨rfl, rfl⟩

set_option maxRecDepth 100000 in
set_option maxHeartbeats 16000000 in
theorem sLess (w : World) (x y : ByteArray) : Calls Try.prog 56 #[.string x, .string y] w fun e w' => e = .returned (.bool (bl x y)) ∧ w = w' := by
  go_enter Try.func56, Try.ntmps56
  go_wp2_with fail
  refine (sIsNaN _ _).mono ?_
  rintro e w1 ⟨rfl, rfl⟩
  go_wp2_with fail
  go_ret
  exact ⟨rfl, rfl⟩

noncomputable def riseB (l : List ByteArray) : Bool := @decide (Rise l) (Classical.propDecidable _)
theorem riseB_t {l : List ByteArray} (h : Rise l) : riseB l = true := by unfold riseB; simpa using h
theorem riseB_f {l : List ByteArray} (h : ¬ Rise l) : riseB l = false := by unfold riseB; simpa using h
theorem ba_inj {a b : ByteArray} (h : a.toList = b.toList) : a = b := by
  rw [ByteArray.toList_eq, ByteArray.toList_eq] at h
  have h3 := Array.toList_inj.1 h
  cases a; cases b
  exact congrArg ByteArray.mk h3
theorem rise_adj {l : List ByteArray} : Rise l ↔ ∀ i (h : i + 1 < l.length), Le (l[i]'(by omega)) l[i + 1] := by
  constructor
  · intro h i hi
    exact List.pairwise_iff_getElem.1 h i (i + 1) (by omega) hi (by omega)
  · intro h
    refine List.pairwise_iff_getElem.2 fun i j hi hj hij => ?_
    obtain ⟨d, rfl⟩ : ∃ d, j = i + 1 + d := ⟨j - (i + 1), by omega⟩
    clear hij
    induction d with
    | zero => exact h i hj
    | succ d ih => exact Le.trans (ih (by omega)) (h (i + 1 + d) hj)

set_option maxRecDepth 100000 in
set_option maxHeartbeats 16000000 in
theorem sIsSorted (E w : World) (X R I : Fr) (sa : Option Addr) (l : List ByteArray) (cap : Nat) (hT : TxtIn E I sa l) (hn : l.length ≤ 5864062014805) (hO : Own E w X) [hp : Pick X I R] :
    Calls Try.prog 37 #[.slice sa l.length cap] w fun e w' => e = .returned (.bool (riseB l)) ∧ Own E w' (I ++ R) := by
  replace hO := hO.perm hp.perm
  clear hp
  have hn1 : (l.length : Int) ≤ 5864062014805 := by omega
  have hO0 := hO
  clear hO
  go_enter Try.func37, Try.ntmps37
  go_wp2_with fail
  go_loopw [3] (fun s3 wr => ∃ (z : Int) (k : Nat), s3 = .int .i64 z ∧ z + 1 = k ∧ k ≤ l.length ∧ (∀ j (h : j + 1 < l.length), k ≤ j + 1 → Le (l[j]'(by omega)) l[j + 1]) ∧ Own E wr (I ++ R)) (fun s3 _ => (intOf s3 + 1).toNat)
  case atStart => exact ⟨_, l.length, rfl, by omega, Nat.le_refl _, fun j h1 h2 => by omega, hO0⟩
  case round =>
    clear hO0
    obtain ⟨z, k, rfl, hz, hk, hL, hO⟩ := hrel
    by_cases h0 : 0 < z
    · obtain ⟨i, rfl⟩ : ∃ i : Nat, z = i := ⟨z.toNat, by omega⟩
      have hik : k = i + 1 := by omega
      subst hik
      have hil : i < l.length := by omega
      have hi1 : (i : Int) < l.length := by omega
      obtain ⟨p, hip⟩ : ∃ p, i = p + 1 := ⟨i - 1, by omega⟩
      have hi2 : (p : Int) < l.length := by omega
      have hi3 : (0 : Int) ≤ p := by omega
      have hi4 : (0 : Int) ≤ i := by omega
      have hwr : IntKind.i64.wrap ((i : Int) - 1) = p := by rw [show (i : Int) - 1 = p by omega]; exact wrap_n p (by omega)
      have hpl : p < l.length := by omega
      obtain ⟨ad, rfl, -⟩ := hT wr (hO.as I) i hil
      have hca : ∀ w', Own E w' I → w'.cell? (ad.add i) = some (.string l[i]) := fun w' hO' => by
        obtain ⟨_, h1, h2⟩ := hT w' hO' i hil
        cases h1
        exact h2
      have hcb : ∀ w', Own E w' I → w'.cell? (ad.add p) = some (.string l[p]) := fun w' hO' => by
        obtain ⟨_, h1, h2⟩ := hT w' hO' p hpl
        cases h1
        exact h2
      generalize hx : l[i] = x at hca
      generalize hy : l[p] = y at hcb
      have HX := Lib.hid hx
      have HY := Lib.hid hy
      have HIP := Lib.hid hip
      clear hx hy hip
      go_wp2_with fail
      refine region_sch (fun w' => Own E w' I) (.look 0 (.look 1 (.look 2 (.look 3 (.look 4 (.look 5 (.look 6 (.look 7 (.look 8 (.act 9 .done)))))))))) (by kernel_rfl) (by kernel_rfl) (fun _ _ d _ _ h => by cases d <;> exact h) ?_ ?_
      · exact hO.drew.as _
      replace hO := hO.drew
      generalize World.drew _ = w3 at hO ⊢
      (refine sch_look (o := ?_) (v := ?_) ?_ ?_ ?_ ?_; rotate_left 2; (· ((conv => lhs; whnf); try exact rfl)); (· rfl); (· intro w' hO'; have hc1 := hca w' hO'; have hc2 := hcb w' hO'; go_simp; (try exact rfl)); simp only [Act.put, List.setIfInBounds_toArray, List.set_cons_zero, List.set_cons_succ])
      (refine sch_look (o := ?_) (v := ?_) ?_ ?_ ?_ ?_; rotate_left 2; (· ((conv => lhs; whnf); try exact rfl)); (· rfl); (· intro w' hO'; have hc1 := hca w' hO'; have hc2 := hcb w' hO'; go_simp; (try exact rfl)); simp only [Act.put, List.setIfInBounds_toArray, List.set_cons_zero, List.set_cons_succ])
      (refine sch_look (o := ?_) (v := ?_) ?_ ?_ ?_ ?_; rotate_left 2; (· ((conv => lhs; whnf); try exact rfl)); (· rfl); (· intro w' hO'; have hc1 := hca w' hO'; have hc2 := hcb w' hO'; go_simp; (try exact rfl)); simp only [Act.put, List.setIfInBounds_toArray, List.set_cons_zero, List.set_cons_succ])
      (refine sch_look (o := ?_) (v := ?_) ?_ ?_ ?_ ?_; rotate_left 2; (· ((conv => lhs; whnf); try exact rfl)); (· rfl); (· intro w' hO'; have hc1 := hca w' hO'; have hc2 := hcb w' hO'; go_simp; (try exact rfl)); simp only [Act.put, List.setIfInBounds_toArray, List.set_cons_zero, List.set_cons_succ])
      (refine sch_look (o := ?_) (v := ?_) ?_ ?_ ?_ ?_; rotate_left 2; (· ((conv => lhs; whnf); try exact rfl)); (· rfl); (· intro w' hO'; have hc1 := hca w' hO'; have hc2 := hcb w' hO'; go_simp; (try exact rfl)); simp only [Act.put, List.setIfInBounds_toArray, List.set_cons_zero, List.set_cons_succ])
      (refine sch_look (o := ?_) (v := ?_) ?_ ?_ ?_ ?_; rotate_left 2; (· ((conv => lhs; whnf); try exact rfl)); (· rfl); (· intro w' hO'; have hc1 := hca w' hO'; have hc2 := hcb w' hO'; go_simp; (try exact rfl)); simp only [Act.put, List.setIfInBounds_toArray, List.set_cons_zero, List.set_cons_succ])
      (refine sch_look (o := ?_) (v := ?_) ?_ ?_ ?_ ?_; rotate_left 2; (· ((conv => lhs; whnf); try exact rfl)); (· rfl); (· intro w' hO'; have hc1 := hca w' hO'; have hc2 := hcb w' hO'; go_simp; (try exact rfl)); simp only [Act.put, List.setIfInBounds_toArray, List.set_cons_zero, List.set_cons_succ])
      (refine sch_look (o := ?_) (v := ?_) ?_ ?_ ?_ ?_; rotate_left 2; (· ((conv => lhs; whnf); try exact rfl)); (· rfl); (· intro w' hO'; have hc1 := hca w' hO'; have hc2 := hcb w' hO'; go_simp; (try exact rfl)); simp only [Act.put, List.setIfInBounds_toArray, List.set_cons_zero, List.set_cons_succ])
      (refine sch_look (o := ?_) (v := ?_) ?_ ?_ ?_ ?_; rotate_left 2; (· ((conv => lhs; whnf); try exact rfl)); (· rfl); (· intro w' hO'; have hc1 := hca w' hO'; have hc2 := hcb w' hO'; go_simp; (try exact rfl)); simp only [Act.put, List.setIfInBounds_toArray, List.set_cons_zero, List.set_cons_succ])
      (refine sch_act (o := ?_) ?_ ?_; rotate_left; (· ((conv => lhs; whnf); try exact rfl)))
      go_wp2_with fail
      refine (sLess _ _ _).mono ?_
      rintro e w4 ⟨rfl, rfl⟩
      go_wp2_with fail
      refine ⟨hO.as _, ?_⟩
      refine sch_done ?_
      cases hb : bl x y
      · go_wp2_with fail
        go_roundw
        case rel =>
          refine ⟨_, i, rfl, by have := HIP.out; omega, by omega, fun j h1 h2 => ?_, hO⟩
          by_cases hj : j = p
          · subst hj
            have h3 := HIP.out
            have hx := HX.out
            have hy := HY.out
            simp only [h3] at hx
            rw [hx, hy]
            exact hb
          · exact hL j h1 (by have := HIP.out; omega)
        case measure => have := HIP.out; simp [intOf]; omega
      · go_wp2_with fail
        go_ret
        refine ⟨?_, hO⟩
        rw [riseB_f fun h => ?_]
        · rfl
        have h3 := HIP.out
        have hx := HX.out
        have hy := HY.out
        have h4 := rise_adj.1 h p (by omega)
        simp only [h3] at hx
        rw [hx, hy] at h4
        unfold Le at h4
        rw [hb] at h4
        cases h4
    · go_wp2_with fail
      go_ret
      refine ⟨?_, hO⟩
      rw [riseB_t (rise_adj.2 fun j h => hL j h (by omega))]
      rfl

/-- The texts of a slice of ours. -/
theorem txt_sl {E : World} {sa : Option Addr} {cap n : Nat} {l : List ByteArray} {S : Fr} (h : Sl 9 1 sa n cap (l.map .string) S) : TxtIn E S sa l := by
  intro w hO i hi
  have hn : n = l.length := by have := h.len; simp at this; omega
  obtain ⟨b, rfl⟩ := sl_some8 h (by omega)
  exact ⟨_, rfl, by rw [add_lit, Nat.zero_add]; exact sl_get8 h (hO.as (S ++ [])) i _ (by rw [List.getElem?_map, List.getElem?_eq_getElem hi]; rfl)⟩
theorem TxtIn.more {E : World} {I J : Fr} {sa : Option Addr} {l : List ByteArray} (h : TxtIn E I sa l) (hs : ∀ w, Own E w J → Own E w I) : TxtIn E J sa l := fun w hO => h w (hs w hO)
theorem ro_sl {E : World} {sa : Option Addr} {cap : Nat} {l : List ByteArray} {S : Fr} (h : Sl 9 1 sa l.length cap (l.map .string) S) : RoOk E S ⟨sa, cap, l⟩ := by
  refine ⟨h.le, h.cap_le, fun h0 => ?_⟩
  have hl : 0 < l.length := List.length_pos_iff.2 h0
  obtain ⟨b, rfl⟩ := sl_some8 h hl
  refine ⟨_, rfl, fun w hO i hi => ?_⟩
  obtain ⟨_, h1, h2⟩ := txt_sl h w hO i hi
  cases h1
  exact h2
theorem RoOk.more {E : World} {I J : Fr} {r : RO} (h : RoOk E I r) (hs : ∀ w, Own E w J → Own E w I) : RoOk E J r :=
  ⟨h.1, h.2.1, fun h0 => by obtain ⟨a, h1, h2⟩ := h.2.2 h0; exact ⟨a, h1, fun w hO => h2 w (hs w hO)⟩⟩

set_option maxRecDepth 100000 in
set_option maxHeartbeats 16000000 in
theorem sRises (E w : World) (X R I : Fr) (sa : Option Addr) (l : List ByteArray) (cap : Nat) (hT : TxtIn E I sa l) (hn : l.length ≤ 8796093022208) (hO : Own E w X) [hp : Pick X I R] :
    Calls Try.prog 15 #[.slice sa l.length cap] w fun e w' => e = .returned (.bool (riseB l)) ∧ Own E w' (I ++ R) := by
  replace hO := hO.perm hp.perm
  clear hp
  have hn1 : (l.length : Int) ≤ 8796093022208 := by omega
  have hO0 := hO
  clear hO
  go_enter Try.func15, Try.ntmps15
  go_wp2_with fail
  go_loopw [3] (fun s3 wr => ∃ (i : Nat), s3 = .int .i64 i ∧ 1 ≤ i ∧ (∀ j (h : j + 1 < l.length), j + 1 < i → Le (l[j]'(by omega)) l[j + 1]) ∧ Own E wr (I ++ R)) (fun s3 _ => l.length - (intOf s3).toNat)
  case atStart => exact ⟨1, rfl, Nat.le_refl _, fun j h1 h2 => by omega, hO0⟩
  case round =>
    clear hO0
    obtain ⟨i, rfl, hi, hL, hO⟩ := hrel
    by_cases hil : i < l.length
    · have hi1 : (i : Int) < l.length := by omega
      obtain ⟨p, hip⟩ : ∃ p, i = p + 1 := ⟨i - 1, by omega⟩
      have hi2 : (p : Int) < l.length := by omega
      have hi3 : (0 : Int) ≤ p := by omega
      have hi4 : (0 : Int) ≤ i := by omega
      have hwr : IntKind.i64.wrap ((i : Int) - 1) = p := by rw [show (i : Int) - 1 = p by omega]; exact wrap_n p (by omega)
      have hpl : p < l.length := by omega
      obtain ⟨ad, rfl, -⟩ := hT wr (hO.as I) i hil
      have hca : ∀ w', Own E w' I → w'.cell? (ad.add i) = some (.string l[i]) := fun w' hO' => by
        obtain ⟨_, h1, h2⟩ := hT w' hO' i hil
        cases h1
        exact h2
      have hcb : ∀ w', Own E w' I → w'.cell? (ad.add p) = some (.string l[p]) := fun w' hO' => by
        obtain ⟨_, h1, h2⟩ := hT w' hO' p hpl
        cases h1
        exact h2
      generalize hx : l[i] = x at hca
      generalize hy : l[p] = y at hcb
      have HX := Lib.hid hx
      have HY := Lib.hid hy
      have HIP := Lib.hid hip
      have HIL := Lib.hid hil
      clear hx hy hip
      go_wp2_with fail
      refine own_still (by kernel_rfl) (by kernel_rfl) hO ?_
      clear hO
      intro w3 hO
      have hc1 := hca w3 (hO.as I)
      have hc2 := hcb w3 (hO.as I)
      (repeat still_step)
      refine wpStill_nil ?_
      clear hc1 hc2
      cases hg : (!Op.bytesLess y.toList x.toList && !y.toList == x.toList)
      · go_wp2_with fail
        go_roundw
        case rel =>
          refine ⟨i + 1, by go_num, by omega, fun j h1 h2 => ?_, hO⟩
          by_cases hj : j = p
          · subst hj
            have h3 := HIP.out
            have hx := HX.out
            have hy := HY.out
            simp only [h3] at hx
            rw [hx, hy]
            cases hb : bl y x
            · have hc : (y.toList == x.toList) = true := by
                unfold bl at hb
                rw [hb] at hg
                simpa using hg
              rw [ba_inj (by simpa using hc : y.toList = x.toList)]
              exact Le.rfl' _
            · exact bl_asym hb
          · exact hL j h1 (by have := HIP.out; omega)
        case measure => have := HIL.out; simp [intOf]; omega
      · go_wp2_with fail
        go_ret
        refine ⟨?_, hO⟩
        rw [riseB_f fun h => ?_]
        · rfl
        have h3 := HIP.out
        have hx := HX.out
        have hy := HY.out
        have h4 := rise_adj.1 h p (by have := HIL.out; omega)
        simp only [h3] at hx
        rw [hx, hy] at h4
        have h5 := Le.anti h4 (by unfold Le bl; cases hb : Op.bytesLess y.toList x.toList; rfl; rw [hb] at hg; cases hg)
        rw [h5] at hg
        simp at hg
    · have hi1 : ¬ (i : Int) < l.length := by omega
      go_wp2_with fail
      go_ret
      refine ⟨?_, hO⟩
      rw [riseB_t (rise_adj.2 fun j h => hL j h (by omega))]
      rfl

set_option maxRecDepth 100000 in
set_option maxHeartbeats 16000000 in
theorem sSame (E w : World) (X R I : Fr) (sa sb : Option Addr) (l m : List ByteArray) (ca cb : Nat) (hT : TxtIn E I sa l) (hU : TxtIn E I sb m) (hn : l.length ≤ 5864062014805) (hO : Own E w X) [hp : Pick X I R] :
    Calls Try.prog 18 #[.slice sa l.length ca, .slice sb m.length cb] w fun e w' => e = .returned (.bool (decide (l = m))) ∧ Own E w' (I ++ R) := by
  replace hO := hO.perm hp.perm
  clear hp
  have hn1 : (l.length : Int) ≤ 5864062014805 := by omega
  by_cases hlm : l.length = m.length
  · rw [← hlm]
    have HLM := Lib.hid hlm
    clear hlm
    have hO0 := hO
    clear hO
    go_enter Try.func18, Try.ntmps18
    go_wp2_with fail
    go_loopw [5] (fun s5 wr => ∃ (i : Nat), s5 = .int .i64 i ∧ i ≤ l.length ∧ l.take i = m.take i ∧ Own E wr (I ++ R)) (fun s5 _ => l.length - (intOf s5).toNat)
    case atStart => exact ⟨0, rfl, Nat.zero_le _, rfl, hO0⟩
    case round =>
      clear hO0
      obtain ⟨i, rfl, hi, hL, hO⟩ := hrel
      by_cases hil : i < l.length
      · have hi1 : (i : Int) < l.length := by omega
        have hi4 : (0 : Int) ≤ i := by omega
        have him : i < m.length := by have := HLM.out; omega
        obtain ⟨ad, rfl, -⟩ := hT wr (hO.as I) i hil
        obtain ⟨bd, rfl, -⟩ := hU wr (hO.as I) i him
        have hca : ∀ w', Own E w' I → w'.cell? (ad.add i) = some (.string l[i]) := fun w' hO' => by
          obtain ⟨_, h1, h2⟩ := hT w' hO' i hil
          cases h1
          exact h2
        have hcb : ∀ w', Own E w' I → w'.cell? (bd.add i) = some (.string m[i]) := fun w' hO' => by
          obtain ⟨_, h1, h2⟩ := hU w' hO' i him
          cases h1
          exact h2
        have hL1 : l.take (i + 1) = l.take i ++ [l[i]] := List.take_succ_eq_append_getElem hil
        have hL2 : m.take (i + 1) = m.take i ++ [m[i]] := List.take_succ_eq_append_getElem him
        generalize l[i] = x at hca hL1
        generalize m[i] = y at hcb hL2
        have HL1 := Lib.hid hL1
        have HL2 := Lib.hid hL2
        have HL := Lib.hid hL
        have HIL := Lib.hid hil
        clear hL1 hL2 hil him hL
        go_wp2_with fail
        refine own_still (by kernel_rfl) (by kernel_rfl) hO ?_
        clear hO
        intro w3 hO
        have hc1 := hca w3 (hO.as I)
        have hc2 := hcb w3 (hO.as I)
        (repeat still_step)
        refine wpStill_nil ?_
        clear hc1 hc2
        cases hb : (x.toList == y.toList)
        · go_wp2_with fail
          go_ret
          refine ⟨?_, hO⟩
          rw [decide_eq_false fun h => ?_]
          · rfl
          subst h
          have h1 := HL1.out.symm.trans HL2.out
          have h2 := List.append_cancel_left h1
          simp at h2
          subst h2
          simp at hb
        · go_wp2_with fail
          go_roundw
          case rel =>
            refine ⟨i + 1, by go_num, HIL.out, ?_, hO⟩
            have hxy : x = y := ba_inj (by simpa using hb)
            rw [HL1.out, HL2.out, HL.out, hxy]
          case measure => have := HIL.out; simp [intOf]; omega
      · have hi1 : ¬ (i : Int) < l.length := by omega
        go_wp2_with fail
        go_ret
        refine ⟨?_, hO⟩
        rw [decide_eq_true]
        · rfl
        have := HLM.out
        rw [List.take_of_length_le (by omega), List.take_of_length_le (by omega)] at hL
        exact hL
  · have hln : ((l.length : Int) != (m.length : Int)) = true := by simp; omega
    have hd : decide (l = m) = false := decide_eq_false fun h => hlm (by rw [h])
    rw [hd]
    have hln2 : ¬ (l.length : Int) = (m.length : Int) := by omega
    clear hlm hd
    go_enter Try.func18, Try.ntmps18
    go_wp2_with fail
    go_ret
    exact ⟨rfl, hO⟩
end Go.Proofs.Ytnfclieaendgeaa
