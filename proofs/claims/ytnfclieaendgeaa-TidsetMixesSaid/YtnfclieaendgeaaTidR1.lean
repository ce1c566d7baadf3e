/- The document's sets: Page, in, put, Ints. -/
import Derived.Test.YtnfclieaendgeaaTid8
set_option linter.all false
namespace Go.Proofs.Ytnfclieaendgeaa
open Go Go.RowKit Go.Own Go.Td

/-- Numbers that can be read where the blocks I are ours. -/
def NumIn (E : World) (I : Fr) (sa : Option Addr) (l : List Int) : Prop := ∀ w, Own E w I → ∀ i (h : i < l.length), ∃ ad, sa = some ad ∧ w.cell? (ad.add i) = some (.int .i64 l[i])
theorem num_sl {E : World} {sa : Option Addr} {n cap : Nat} {l : List Int} {S : Fr} (h : Sl 3 1 sa n cap (intV l) S) : NumIn E S sa l := by
  intro w hO i hi
  have hn : n = l.length := by have := h.len; simp at this; omega
  obtain ⟨b, rfl⟩ := tsome h (by omega)
  exact ⟨_, rfl, by rw [add_lit, Nat.zero_add]; exact tcell h (hO.as (S ++ [])) i hi⟩
theorem NumIn.more {E : World} {I J : Fr} {sa : Option Addr} {l : List Int} (h : NumIn E I sa l) (hs : ∀ w, Own E w J → Own E w I) : NumIn E J sa l := fun w hO => h w (hs w hO)
theorem NumIn.ex {E w : World} {I : Fr} {sa : Option Addr} {l : List Int} (hT : NumIn E I sa l) (hO : Own E w I) (i : Nat) (hi : i < l.length) :
    ∃ ad, sa = some ad ∧ ∀ w', Own E w' I → w'.cell? (ad.add i) = some (.int .i64 l[i]) := by
  obtain ⟨ad, rfl, -⟩ := hT w hO i hi
  exact ⟨ad, rfl, fun w' hO' => by
    obtain ⟨_, h1, h2⟩ := hT w' hO' i hi
    cases h1
    exact h2⟩

set_option maxRecDepth 100000 in
set_option maxHeartbeats 16000000 in
theorem r7Page (w : World) (t : Int) (h : t ≤ 9223372036854775807) (h2 : -9223372036854775808 ≤ t) : Calls Try.prog 53 #[.int .i64 t] w fun e w' => e = .returned (.int .i64 (pg (max t 0))) ∧ w = w' := by
  by_cases h0 : t < 0
  · have hm : pg (max t 0) = 0 := by rw [show max t 0 = 0 by omega]; rfl
    rw [hm]
    go_enter Try.func53, Try.ntmps53
    go_wp2
    go_ret
    exact ⟨rfl, rfl⟩
  · have hm : pg (max t 0) = pg t := by rw [show max t 0 = t by omega]
    rw [hm]
    have hq : t.tdiv 64 = pg t := by unfold pg; rw [Int.tdiv_eq_ediv_of_nonneg (by omega)]
    have hw : wrap64 (pg t) = pg t := by unfold pg wrap64; omega
    have hq2 : t / 64 = pg t := rfl
    go_enter Try.func53, Try.ntmps53
    go_wp2
    go_ret
    first
      | exact ⟨rfl, rfl⟩
      | (refine ⟨?_, rfl⟩; simp [hw, hq2])

set_option maxRecDepth 100000 in
set_option maxHeartbeats 16000000 in
theorem r14in (E w : World) (X R I : Fr) (sa : Option Addr) (cap : Nat) (l : List Int) (x : Int) (hT : NumIn E I sa l) (hl : l.length ≤ 8796093022208) (hO : Own E w X) [hp : Pick X I R] :
    Calls Try.prog 50 #[.slice sa l.length cap, .int .i64 x] w fun e w' => e = .returned (.bool (decide (x ∈ l))) ∧ w = w' := by
  replace hO := hO.perm hp.perm
  clear hp
  have hl1 : (l.length : Int) ≤ 8796093022208 := by omega
  go_enter Try.func50, Try.ntmps50
  go_wp2_with fail
  go_loopw [5] (fun s5 wr => ∃ (i : Nat), s5 = .int .i64 i ∧ i ≤ l.length ∧ x ∉ l.take i ∧ wr = w) (fun s5 _ => l.length - (intOf s5).toNat)
  case atStart => exact ⟨0, rfl, Nat.zero_le _, by simp, rfl⟩
  case round =>
    obtain ⟨i, rfl, hi, hL, rfl⟩ := hrel
    by_cases hil : i < l.length
    · have hi1 : (i : Int) < l.length := by omega
      have hi0 : (0 : Int) ≤ i := by omega
      obtain ⟨ad, rfl, hca⟩ := hT.ex (hO.as I) i hil
      have hcw := hca _ (hO.as I)
      have hsn : l.take (i + 1) = l.take i ++ [l[i]] := List.take_succ_eq_append_getElem hil
      have hmem : l[i] ∈ l := List.getElem_mem _
      generalize l[i] = y at hcw hsn hmem hca
      have HSN := Lib.hid hsn
      have HIL := Lib.hid hil
      clear hsn hil
      cases hyx : (y == x)
      · have hyx2 : ¬ y = x := by simpa using hyx
        go_wp2_with fail
        go_roundw
        case rel =>
          refine ⟨i + 1, by go_num, HIL.out, ?_, by first | rfl | trivial⟩
          rw [HSN.out, List.mem_append, List.mem_singleton]
          rintro (h | h)
          · exact hL h
          · exact hyx2 h.symm
        case measure => have := HIL.out; simp [intOf]; omega
      · have hyx2 : y = x := by simpa using hyx
        subst hyx2
        go_wp2_with fail
        go_ret
        refine ⟨?_, rfl⟩
        first | rfl | (rw [decide_eq_true hmem]; rfl)
    · have hi1 : ¬ (i : Int) < l.length := by omega
      rw [List.take_of_length_le (by omega)] at hL
      go_wp2_with fail
      go_ret
      refine ⟨?_, rfl⟩
      first | rfl | (rw [decide_eq_false hL]; rfl)

set_option maxRecDepth 100000 in
set_option maxHeartbeats 16000000 in
theorem r7Ints (E w : World) (X R I : Fr) (sa sb : Option Addr) (l m : List Int) (ca cb : Nat) (hT : NumIn E I sa l) (hU : NumIn E I sb m) (hn : l.length ≤ 8796093022208) (hO : Own E w X) [hp : Pick X I R] :
    Calls Try.prog 32 #[.slice sa l.length ca, .slice sb m.length cb] w fun e w' => e = .returned (.bool (decide (l = m))) ∧ Own E w' (I ++ R) := by
  replace hO := hO.perm hp.perm
  clear hp
  have hn1 : (l.length : Int) ≤ 8796093022208 := by omega
  by_cases hlm : l.length = m.length
  · rw [← hlm]
    have HLM := Lib.hid hlm
    clear hlm
    have hO0 := hO
    clear hO
    go_enter Try.func32, Try.ntmps32
    go_wp2_with fail
    go_loopw [5] (fun s5 wr => ∃ (i : Nat), s5 = .int .i64 i ∧ i ≤ l.length ∧ l.take i = m.take i ∧ Own E wr (I ++ R)) (fun s5 _ => l.length - (intOf s5).toNat)
    case atStart => exact ⟨0, rfl, Nat.zero_le _, rfl, hO0⟩
    case round =>
      clear hO0
      obtain ⟨i, rfl, hi, hL, hO⟩ := hrel
      by_cases hil : i < l.length
      · have hi1 : (i : Int) < l.length := by omega
        have hi4 : (0 : Int) ≤ i := by omega
        have him : i < m.length := by have := HLM.out; omega
        obtain ⟨ad, rfl, hca⟩ := hT.ex (hO.as I) i hil
        obtain ⟨bd, rfl, hcb⟩ := hU.ex (hO.as I) i him
        have HL1 := Lib.hid (List.take_succ_eq_append_getElem hil : l.take (i + 1) = l.take i ++ [l[i]])
        have HL2 := Lib.hid (List.take_succ_eq_append_getElem him : m.take (i + 1) = m.take i ++ [m[i]])
        generalize l[i] = x at hca HL1
        generalize m[i] = y at hcb HL2
        have HL := Lib.hid hL
        have HIL := Lib.hid hil
        clear hil him hL
        (try (go_wp2_with fail))
        refine region_schO hO (.look 0 (.look 1 (.look 2 (.look 3 (.look 4 (.look 5 (.look 6 (.look 7 (.look 8 .done))))))))) (by kernel_rfl) (by kernel_rfl) (fun _ _ d _ _ h => by cases d <;> exact h) ?_
        clear hO; (try clear hF); intro _ hO
        first | (refine sch_look (o := ?_) (v := ?_) ?_ ?_ ?_ ?_; rotate_left 2; (· ((conv => lhs; whnf); try exact rfl)); (· rfl); (· intro w' hO'; have hc1 := hca w' (hO'.as I); have hc2 := hcb w' (hO'.as I); go_simp; (try exact rfl)); simp only [Act.put, List.setIfInBounds_toArray, List.set_cons_zero, List.set_cons_succ]) | (refine sch_pass (o := ?_) ?_ ?_ ?_; rotate_left; (· ((conv => lhs; whnf); try exact rfl)); (· rfl); simp only [Act.put, List.setIfInBounds_toArray, List.set_cons_zero, List.set_cons_succ]) | (refine sch_look (o := ?_) (v := .agg ?_) ?_ ?_ ?_ ?_; rotate_left 2; (· ((conv => lhs; whnf); try exact rfl)); (· rfl); (· intro w' hO'; refine run_opLoadS (b := ?_) (cs := ?_) (e := ?_) (f := ?_) hO' ?_ ?_ ?_ ?_; rotate_left 4; (· exact rfl); (· exact inferInstance); (· simp; done); (· simp; done)); simp only [Act.put, List.setIfInBounds_toArray, List.set_cons_zero, List.set_cons_succ])
        first | (refine sch_look (o := ?_) (v := ?_) ?_ ?_ ?_ ?_; rotate_left 2; (· ((conv => lhs; whnf); try exact rfl)); (· rfl); (· intro w' hO'; have hc1 := hca w' (hO'.as I); have hc2 := hcb w' (hO'.as I); go_simp; (try exact rfl)); simp only [Act.put, List.setIfInBounds_toArray, List.set_cons_zero, List.set_cons_succ]) | (refine sch_pass (o := ?_) ?_ ?_ ?_; rotate_left; (· ((conv => lhs; whnf); try exact rfl)); (· rfl); simp only [Act.put, List.setIfInBounds_toArray, List.set_cons_zero, List.set_cons_succ]) | (refine sch_look (o := ?_) (v := .agg ?_) ?_ ?_ ?_ ?_; rotate_left 2; (· ((conv => lhs; whnf); try exact rfl)); (· rfl); (· intro w' hO'; refine run_opLoadS (b := ?_) (cs := ?_) (e := ?_) (f := ?_) hO' ?_ ?_ ?_ ?_; rotate_left 4; (· exact rfl); (· exact inferInstance); (· simp; done); (· simp; done)); simp only [Act.put, List.setIfInBounds_toArray, List.set_cons_zero, List.set_cons_succ])
        first | (refine sch_look (o := ?_) (v := ?_) ?_ ?_ ?_ ?_; rotate_left 2; (· ((conv => lhs; whnf); try exact rfl)); (· rfl); (· intro w' hO'; have hc1 := hca w' (hO'.as I); have hc2 := hcb w' (hO'.as I); go_simp; (try exact rfl)); simp only [Act.put, List.setIfInBounds_toArray, List.set_cons_zero, List.set_cons_succ]) | (refine sch_pass (o := ?_) ?_ ?_ ?_; rotate_left; (· ((conv => lhs; whnf); try exact rfl)); (· rfl); simp only [Act.put, List.setIfInBounds_toArray, List.set_cons_zero, List.set_cons_succ]) | (refine sch_look (o := ?_) (v := .agg ?_) ?_ ?_ ?_ ?_; rotate_left 2; (· ((conv => lhs; whnf); try exact rfl)); (· rfl); (· intro w' hO'; refine run_opLoadS (b := ?_) (cs := ?_) (e := ?_) (f := ?_) hO' ?_ ?_ ?_ ?_; rotate_left 4; (· exact rfl); (· exact inferInstance); (· simp; done); (· simp; done)); simp only [Act.put, List.setIfInBounds_toArray, List.set_cons_zero, List.set_cons_succ])
        first | (refine sch_look (o := ?_) (v := ?_) ?_ ?_ ?_ ?_; rotate_left 2; (· ((conv => lhs; whnf); try exact rfl)); (· rfl); (· intro w' hO'; have hc1 := hca w' (hO'.as I); have hc2 := hcb w' (hO'.as I); go_simp; (try exact rfl)); simp only [Act.put, List.setIfInBounds_toArray, List.set_cons_zero, List.set_cons_succ]) | (refine sch_pass (o := ?_) ?_ ?_ ?_; rotate_left; (· ((conv => lhs; whnf); try exact rfl)); (· rfl); simp only [Act.put, List.setIfInBounds_toArray, List.set_cons_zero, List.set_cons_succ]) | (refine sch_look (o := ?_) (v := .agg ?_) ?_ ?_ ?_ ?_; rotate_left 2; (· ((conv => lhs; whnf); try exact rfl)); (· rfl); (· intro w' hO'; refine run_opLoadS (b := ?_) (cs := ?_) (e := ?_) (f := ?_) hO' ?_ ?_ ?_ ?_; rotate_left 4; (· exact rfl); (· exact inferInstance); (· simp; done); (· simp; done)); simp only [Act.put, List.setIfInBounds_toArray, List.set_cons_zero, List.set_cons_succ])
        first | (refine sch_look (o := ?_) (v := ?_) ?_ ?_ ?_ ?_; rotate_left 2; (· ((conv => lhs; whnf); try exact rfl)); (· rfl); (· intro w' hO'; have hc1 := hca w' (hO'.as I); have hc2 := hcb w' (hO'.as I); go_simp; (try exact rfl)); simp only [Act.put, List.setIfInBounds_toArray, List.set_cons_zero, List.set_cons_succ]) | (refine sch_pass (o := ?_) ?_ ?_ ?_; rotate_left; (· ((conv => lhs; whnf); try exact rfl)); (· rfl); simp only [Act.put, List.setIfInBounds_toArray, List.set_cons_zero, List.set_cons_succ]) | (refine sch_look (o := ?_) (v := .agg ?_) ?_ ?_ ?_ ?_; rotate_left 2; (· ((conv => lhs; whnf); try exact rfl)); (· rfl); (· intro w' hO'; refine run_opLoadS (b := ?_) (cs := ?_) (e := ?_) (f := ?_) hO' ?_ ?_ ?_ ?_; rotate_left 4; (· exact rfl); (· exact inferInstance); (· simp; done); (· simp; done)); simp only [Act.put, List.setIfInBounds_toArray, List.set_cons_zero, List.set_cons_succ])
        first | (refine sch_look (o := ?_) (v := ?_) ?_ ?_ ?_ ?_; rotate_left 2; (· ((conv => lhs; whnf); try exact rfl)); (· rfl); (· intro w' hO'; have hc1 := hca w' (hO'.as I); have hc2 := hcb w' (hO'.as I); go_simp; (try exact rfl)); simp only [Act.put, List.setIfInBounds_toArray, List.set_cons_zero, List.set_cons_succ]) | (refine sch_pass (o := ?_) ?_ ?_ ?_; rotate_left; (· ((conv => lhs; whnf); try exact rfl)); (· rfl); simp only [Act.put, List.setIfInBounds_toArray, List.set_cons_zero, List.set_cons_succ]) | (refine sch_look (o := ?_) (v := .agg ?_) ?_ ?_ ?_ ?_; rotate_left 2; (· ((conv => lhs; whnf); try exact rfl)); (· rfl); (· intro w' hO'; refine run_opLoadS (b := ?_) (cs := ?_) (e := ?_) (f := ?_) hO' ?_ ?_ ?_ ?_; rotate_left 4; (· exact rfl); (· exact inferInstance); (· simp; done); (· simp; done)); simp only [Act.put, List.setIfInBounds_toArray, List.set_cons_zero, List.set_cons_succ])
        first | (refine sch_look (o := ?_) (v := ?_) ?_ ?_ ?_ ?_; rotate_left 2; (· ((conv => lhs; whnf); try exact rfl)); (· rfl); (· intro w' hO'; have hc1 := hca w' (hO'.as I); have hc2 := hcb w' (hO'.as I); go_simp; (try exact rfl)); simp only [Act.put, List.setIfInBounds_toArray, List.set_cons_zero, List.set_cons_succ]) | (refine sch_pass (o := ?_) ?_ ?_ ?_; rotate_left; (· ((conv => lhs; whnf); try exact rfl)); (· rfl); simp only [Act.put, List.setIfInBounds_toArray, List.set_cons_zero, List.set_cons_succ]) | (refine sch_look (o := ?_) (v := .agg ?_) ?_ ?_ ?_ ?_; rotate_left 2; (· ((conv => lhs; whnf); try exact rfl)); (· rfl); (· intro w' hO'; refine run_opLoadS (b := ?_) (cs := ?_) (e := ?_) (f := ?_) hO' ?_ ?_ ?_ ?_; rotate_left 4; (· exact rfl); (· exact inferInstance); (· simp; done); (· simp; done)); simp only [Act.put, List.setIfInBounds_toArray, List.set_cons_zero, List.set_cons_succ])
        first | (refine sch_look (o := ?_) (v := ?_) ?_ ?_ ?_ ?_; rotate_left 2; (· ((conv => lhs; whnf); try exact rfl)); (· rfl); (· intro w' hO'; have hc1 := hca w' (hO'.as I); have hc2 := hcb w' (hO'.as I); go_simp; (try exact rfl)); simp only [Act.put, List.setIfInBounds_toArray, List.set_cons_zero, List.set_cons_succ]) | (refine sch_pass (o := ?_) ?_ ?_ ?_; rotate_left; (· ((conv => lhs; whnf); try exact rfl)); (· rfl); simp only [Act.put, List.setIfInBounds_toArray, List.set_cons_zero, List.set_cons_succ]) | (refine sch_look (o := ?_) (v := .agg ?_) ?_ ?_ ?_ ?_; rotate_left 2; (· ((conv => lhs; whnf); try exact rfl)); (· rfl); (· intro w' hO'; refine run_opLoadS (b := ?_) (cs := ?_) (e := ?_) (f := ?_) hO' ?_ ?_ ?_ ?_; rotate_left 4; (· exact rfl); (· exact inferInstance); (· simp; done); (· simp; done)); simp only [Act.put, List.setIfInBounds_toArray, List.set_cons_zero, List.set_cons_succ])
        first | (refine sch_look (o := ?_) (v := ?_) ?_ ?_ ?_ ?_; rotate_left 2; (· ((conv => lhs; whnf); try exact rfl)); (· rfl); (· intro w' hO'; have hc1 := hca w' (hO'.as I); have hc2 := hcb w' (hO'.as I); go_simp; (try exact rfl)); simp only [Act.put, List.setIfInBounds_toArray, List.set_cons_zero, List.set_cons_succ]) | (refine sch_pass (o := ?_) ?_ ?_ ?_; rotate_left; (· ((conv => lhs; whnf); try exact rfl)); (· rfl); simp only [Act.put, List.setIfInBounds_toArray, List.set_cons_zero, List.set_cons_succ]) | (refine sch_look (o := ?_) (v := .agg ?_) ?_ ?_ ?_ ?_; rotate_left 2; (· ((conv => lhs; whnf); try exact rfl)); (· rfl); (· intro w' hO'; refine run_opLoadS (b := ?_) (cs := ?_) (e := ?_) (f := ?_) hO' ?_ ?_ ?_ ?_; rotate_left 4; (· exact rfl); (· exact inferInstance); (· simp; done); (· simp; done)); simp only [Act.put, List.setIfInBounds_toArray, List.set_cons_zero, List.set_cons_succ])
        refine sch_done ?_
        cases hb : (x != y)
        · go_wp2_with fail
          go_roundw
          case rel =>
            refine ⟨i + 1, by go_num, HIL.out, ?_, hO⟩
            have hxy : x = y := by simpa using hb
            rw [HL1.out, HL2.out, HL.out, hxy]
          case measure => have := HIL.out; simp [intOf]; omega
        · go_wp2_with fail
          go_ret
          refine ⟨?_, hO⟩
          rw [decide_eq_false fun h => ?_]
          · rfl
          subst h
          have h1 := HL1.out.symm.trans HL2.out
          have h2 := List.append_cancel_left h1
          simp at h2
          subst h2
          simp at hb
      · have hi1 : ¬ (i : Int) < l.length := by omega
        go_wp2_with fail
        go_ret
        refine ⟨?_, hO⟩
        rw [decide_eq_true]
        · rfl
        have := HLM.out
        rw [List.take_of_length_le (by omega), List.take_of_length_le (by omega)] at hL
        exact hL
  · have hln : ((l.length : Int) != (m.length : Int)) = true := by simp; omega
    have hd : decide (l = m) = false := decide_eq_false fun h => hlm (by rw [h])
    rw [hd]
    have hln2 : ¬ (l.length : Int) = (m.length : Int) := by omega
    clear hlm hd
    go_enter Try.func32, Try.ntmps32
    go_wp2_with fail
    go_ret
    exact ⟨rfl, hO⟩
end Go.Proofs.Ytnfclieaendgeaa
