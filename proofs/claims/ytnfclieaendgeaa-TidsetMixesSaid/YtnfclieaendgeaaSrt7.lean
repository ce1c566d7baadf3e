/- vestibulelaw08: SorterMerges. -/
import Derived.Test.YtnfclieaendgeaaSrt6
import Derived.Deep.DeepAppendWide
set_option linter.all false
namespace Go.Proofs.Ytnfclieaendgeaa
open Go Go.RowKit Go.Own Go.Hp

theorem sl_set {e : TypeId} {a : Option Addr} {n cap : Nat} {xs : List Value} {A : Fr} (h : Sl e 1 a n cap xs A) {b : Nat} (ha : a = some ⟨b, 0, none⟩) {rest : List Value} (hA : A = pt b (.cells (xs ++ rest).toArray e (0, 0))) (i : Nat) (v : Value) (hi : i < xs.length) :
    Sl e 1 a n cap (xs.set i v) (pt b (.cells ((xs ++ rest).toArray.setIfInBounds i v) e (0, 0))) := by
  obtain ⟨h1, h2, h3, h4⟩ := h
  refine ⟨by rw [List.length_set]; exact h1, h2, h3, .inr ⟨b, rest, ha, ?_, ?_⟩⟩
  · rcases h4 with ⟨h5, _, _⟩ | ⟨b', rest', h5, h6, h7⟩
    · rw [ha] at h5; cases h5
    · rw [ha] at h5
      cases h5
      rw [h7] at hA
      simp only [pt, List.cons.injEq, Prod.mk.injEq, Obj.cells.injEq, true_and, and_true] at hA
      have : xs ++ rest' = xs ++ rest := by simpa using hA
      rw [List.append_cancel_left this] at h6
      rw [List.length_append, List.length_set, ← List.length_append]
      exact h6
  · congr 2
    apply Array.ext'
    simp [List.set_append_left _ _ hi]

theorem RoOk.firstCells {P : Program} {E w : World} {I : Fr} {r : RO} (h : RoOk E I r) (hO : Own E w I) : (Builtin.firstCells 1 r.l.length (.slice r.ad r.l.length r.cap)).run P w = .ok (r.l.map Value.string).toArray w := by
  by_cases h0 : r.l = []
  · rw [h0]
    cases r.ad with
    | none => simp [Builtin.firstCells]
    | some b => exact run_firstCells_some w 1 0 b 0 r.cap [] rfl (by simp)
  · obtain ⟨a, ha, hc⟩ := h.2.2 h0
    rw [ha]
    refine run_firstCells_some w 1 _ a _ r.cap (r.l.map Value.string) (by simp) fun j v hj => ?_
    rw [List.getElem?_map] at hj
    obtain ⟨s, hs, rfl⟩ := Option.map_eq_some_iff.1 hj
    obtain ⟨hlt, rfl⟩ := List.getElem?_eq_some_iff.1 hs
    exact hc w hO j hlt
noncomputable def allR (rs : List RO) : Bool := @decide (∀ r ∈ rs, Rise r.l) (Classical.propDecidable _)
theorem allR_t {rs : List RO} : allR rs = true ↔ ∀ r ∈ rs, Rise r.l := by unfold allR; simp
theorem allR_nil : allR [] = true := allR_t.2 fun r h => by cases h
theorem allR_snoc (rs : List RO) (r : RO) : allR (rs ++ [r]) = (allR rs && riseB r.l) := by
  by_cases h1 : ∀ r ∈ rs, Rise r.l
  · rw [allR_t.2 h1, Bool.true_and]
    by_cases h2 : Rise r.l
    · rw [riseB_t h2, allR_t]
      intro q hq
      rcases List.mem_append.1 hq with hq | hq
      · exact h1 q hq
      · rw [List.mem_singleton] at hq; subst hq; exact h2
    · rw [riseB_f h2]
      cases hc : allR (rs ++ [r])
      · rfl
      · exact absurd (allR_t.1 hc r (by simp)) h2
  · have h3 : allR rs = false := by
      cases hc : allR rs
      · rfl
      · exact absurd (allR_t.1 hc) h1
    rw [h3, Bool.false_and]
    cases hc : allR (rs ++ [r])
    · rfl
    · exact absurd (fun q hq => allR_t.1 hc q (List.mem_append.2 (.inl hq))) h1

set_option maxRecDepth 100000 in
set_option maxHeartbeats 16000000 in
theorem lawMerges (E w : World) (X R I : Fr) (sa : Option Addr) (rs : List RO) (cap : Nat) (hT : RowsIn E I sa rs) (hOk : ∀ r ∈ rs, RoOk E I r) (hn : rs.length ≤ 5864062014805) (hb : ∀ r ∈ rs, r.l.length ≤ 8796093022208) (hO : Own E w X) [hp : Pick X I R] :
    Calls Try.prog 3 #[.slice sa rs.length cap] w fun e w' => e = .returned (.bool true) ∧ Own E w' (I ++ R) := by
  replace hO := hO.perm hp.perm
  clear hp
  have hn1 : (rs.length : Int) ≤ 5864062014805 := by omega
  have hO0 := hO
  clear hO
  go_enter Try.func3, Try.ntmps3
  go_wp2_with fail
  go_loopw [3, 4, 5] (fun s3 s4 s5 wr => ∃ (i : Nat) (oa : Option Addr) (oc : Nat) (all : List ByteArray) (O : Fr), s5 = .int .i64 i ∧ s4 = .bool (allR (rs.take i)) ∧ s3 = .slice oa (List.length all) oc ∧ i ≤ rs.length ∧ Sl 9 1 oa (List.length all) oc (all.map .string) O ∧ all = ((rs.take i).map RO.l).flatten ∧ all.length ≤ 2000 ∧ Own E wr (O ++ (I ++ R))) (fun _ _ s5 _ => rs.length - (intOf s5).toNat)
  case atStart => exact ⟨0, none, 0, [], [], rfl, by rw [List.take_zero, allR_nil], rfl, Nat.zero_le _, Sl.nil _ _, by simp, by simp, hO0.as _⟩
  case round =>
    clear hO0
    obtain ⟨i, oa, oc, all, O, rfl, rfl, rfl, hi, hAll, hEq, hle, hO⟩ := hrel
    by_cases hil : i < rs.length
    · have hi1 : (i : Int) < rs.length := by omega
      have hi0 : (0 : Int) ≤ i := by omega
      obtain ⟨ad, rfl, -⟩ := hT wr (hO.as I) i hil
      have hca : ∀ w', Own E w' I → w'.cell? (ad.add i) = some (roV rs[i]) := fun w' hO' => by
        obtain ⟨_, h1, h2⟩ := hT w' hO' i hil
        cases h1
        exact h2
      have hok := hOk rs[i] (List.getElem_mem _)
      have hbl := hb rs[i] (List.getElem_mem _)
      have hsn : rs.take (i + 1) = rs.take i ++ [rs[i]] := List.take_succ_eq_append_getElem hil
      generalize rs[i] = r at hca hok hsn hbl
      unfold roV at hca
      have hsr : allR (rs.take (i + 1)) = (allR (rs.take i) && riseB r.l) := by rw [hsn, allR_snoc]
      have hsf : ((rs.take (i + 1)).map RO.l).flatten = all ++ r.l := by rw [hsn, List.map_append, List.flatten_append, ← hEq]; simp
      have HSR := Lib.hid hsr
      have HSF := Lib.hid hsf
      have HIL := Lib.hid hil
      have hal : (all.length : Int) ≤ 2000 := by omega
      clear hsn hsr hsf hil hEq
      have hcw := hca wr (hO.as I)
      generalize hfa : allR (rs.take i) = fa at HSR ⊢
      clear hfa
      generalize hfr : riseB r.l = fr at HSR
      cases fa <;> cases fr
      all_goals (
        go_wp2_with (first
          | (refine at_append ?_; go_must (refine own_appendG (xv := .slice r.ad r.l.length r.cap) (m := r.l.length) (news := r.l.map .string) sltStrs8 (.inl (by kernel_rfl)) hO ?_ ?_ ?_ hAll ?_ ?_ ?_ ?_ ?_ ?_ ?_; (· rfl); (· rfl); (· rfl); (· intro w; rfl); (· intro w' hO'; exact hok.firstCells (hO'.as I)); (· simp); (· exact strs_one _); (· simp only [maxLen]; omega); (· intro hc; exact growslice_fits_wide hc (by omega)); clear hO hcw; (try clear hF); intro a2 c2 A2 w2 hS2 hO; have hcw := hca _ (hO.as I); simp only [Act.put, List.setIfInBounds_toArray, List.set_cons_zero, List.set_cons_succ]))
          | (go_at_call 15; go_must (refine (sRises E _ _ _ I r.ad r.l r.cap hok.txt hbl hO).mono ?_; clear hO hcw; rintro e w4 ⟨rfl, hO⟩; have hcw := hca _ (hO.as I); rw [hfr]))
          | (go_at_call 16; go_must (refine (awake8 E _ _ hO).mono ?_; clear hO hcw; rintro e w4 ⟨rfl, hO⟩; have hcw := hca _ (hO.as I)))))
      all_goals first
        | (go_ret; exact ⟨rfl, hO.as _⟩)
        | (
          have hlen : all.length + r.l.length = ((rs.take (i + 1)).map RO.l).flatten.length := by rw [HSF.out, List.length_append]
          rw [hlen] at hS2 ⊢
          go_roundw
          case rel =>
            refine ⟨i + 1, a2, c2, _, A2, by go_num, ?_, rfl, HIL.out, ?_, rfl, by omega, hO.as _⟩
            · rw [HSR.out]; rfl
            · rw [HSF.out, List.map_append]
              rw [HSF.out] at hS2
              exact hS2
          case measure => have := HIL.out; simp [intOf]; omega)
    · have hi1 : ¬ (i : Int) < rs.length := by omega
      obtain rfl : i = rs.length := by omega
      rw [List.take_length] at hEq ⊢
      have hfl : ((rs.map RO.l).flatten).length ≤ 5864062014805 := by rw [← hEq]; omega
      have HEQ := Lib.hid hEq
      clear hEq
      cases hfa : allR rs
      · have hno : ¬ ∀ r ∈ rs, Rise r.l := fun h => by rw [allR_t.2 h] at hfa; cases hfa
        go_wp2_with (first
          | (go_at_call 17; go_must (refine (sMerge E _ _ _ I sa rs cap hT hOk hn hfl hO).mono ?_; rintro e w1 (⟨h, _⟩ | ⟨-, rfl, hO2⟩); (· exact absurd h hno); (clear hO; have hO := hO2; clear hO2)))
          | (go_at_call 16; go_must (refine (awake8 E _ _ hO).mono ?_; clear hO; rintro e w4 ⟨rfl, hO⟩)))
        go_ret
        exact ⟨rfl, hO.as _⟩
      · have hyes := allR_t.1 hfa
        go_wp2_with (first
          | (go_at_call 17; go_must (refine (sMerge E _ _ _ I sa rs cap hT hOk hn hfl hO).mono ?_; clear hO; rintro e w1 (⟨-, ma, mcap, out, M, rfl, hM, hMr, hMc, hO⟩ | ⟨h, _⟩); (rotate_left; (· exact absurd hyes h))))
          | (go_at_call 19; go_must (refine (sSortedF E _ _ _ O oa all oc (txt_sl hAll) (by omega) hO).mono ?_; clear hO; rintro e w1 ⟨sa2, scap, srt, S, rfl, hS, hSr, hSp, hO⟩))
          | (go_at_call 18; go_must (refine (sSame E _ _ _ (M ++ S) ma sa2 out srt mcap scap ((txt_sl hM).more fun w hO => hO.as _) ((txt_sl hS).more fun w hO => hO.as _) (by rw [(show out.length = all.length from by rw [(List.perm_iff_count.2 hMc).length_eq, ← HEQ.out])]; omega) hO).mono ?_; clear hO; rintro e w1 ⟨rfl, hO⟩)))
        have hos : out = srt := rise_uniq hMr hSr fun x => by rw [hMc x, ← HEQ.out]; exact (hSp.count_eq x).symm
        have hml : out.length ≤ 2000 := by rw [hos, hSp.length_eq]; exact hle
        rw [decide_eq_true hos]
        replace hO := hO.as (M ++ (I ++ (S ++ (O ++ R))))
        have hMlen : (out.map Value.string).length = out.length := List.length_map _
        have hmb : (out.length : Int) ≤ 2000 := by omega
        have hO1 := hO
        clear hO hos hMr hMc hSp
        go_loopw [9] (fun s9 wr => ∃ (j : Nat) (xs : List Value) (M' : Fr), s9 = .int .i64 j ∧ j ≤ out.length ∧ Sl 9 1 ma (List.length out) mcap xs M' ∧ Own E wr (M' ++ (I ++ (S ++ (O ++ R))))) (fun s9 _ => out.length - (intOf s9).toNat)
        case atStart => exact ⟨0, _, M, rfl, Nat.zero_le _, hM, hO1⟩
        case round =>
          clear hO1 hM hMlen
          obtain ⟨j, xs, M', rfl, hj, hM, hO⟩ := hrel
          by_cases hjl : j < out.length
          · have hj1 : (j : Int) < out.length := by omega
            have hj0 : (0 : Int) ≤ j := by omega
            obtain ⟨mb, rfl⟩ := sl_some8 hM (by omega)
            obtain ⟨rest, rfl⟩ := sl_open8 hM
            have hxl : xs.length = out.length := by have := hM.len; omega
            have hset := sl_set8 hM j (by omega) (.string ⟨#[115, 112, 111, 105, 108, 116]⟩)
            have hjs : j < (xs ++ rest).length := by rw [List.length_append]; omega
            have HJ := Lib.hid hjl
            clear hjl hxl
            go_wp2_with (first | (refine own_store (v := ?_) (off := j) (b := mb) hO ?_ ?_ ?_ ?_ ?_ ?_ ?_; rotate_left; (· rfl); (· ((conv => lhs; whnf); try exact rfl)); (· ((conv => lhs; whnf); try exact rfl)); (· simp [Value.cells]); (· simp [Value.cells, Value.oneCell']); (· simp [Value.cells]; simp at hjs; omega); clear hO; (try clear hF); intro _ hO; (try simp only [splice, Value.cells] at hO); ((try simp only [List.nil_append, List.append_nil] at hO); have hF := Own.cells hO; simp only [cellsOf_append, cellsOf_pt] at hF); simp only [Act.put, List.setIfInBounds_toArray, List.set_cons_zero, List.set_cons_succ]))
            rw [hset.2] at hO
            go_roundw
            case rel => exact ⟨j + 1, _, _, by go_num, HJ.out, hset.1, hO⟩
            case measure => have := HJ.out; simp [intOf]; omega
          · have hj1 : ¬ (j : Int) < out.length := by omega
            replace hO := hO.as (I ++ (M' ++ (S ++ (O ++ R))))
            have hO1 := hO
            clear hO
            go_wp2_with fail
            go_loopw [8, 10] (fun s8 s10 wr => ∃ (j : Nat), s8 = .bool true ∧ s10 = .int .i64 j ∧ j ≤ rs.length ∧ Own E wr (I ++ (M' ++ (S ++ (O ++ R))))) (fun _ s10 _ => rs.length - (intOf s10).toNat)
            case atStart => exact ⟨0, rfl, rfl, Nat.zero_le _, hO1⟩
            case round =>
              clear hO1
              obtain ⟨k, rfl, rfl, hk, hO⟩ := hrel
              by_cases hkl : k < rs.length
              · have hk1 : (k : Int) < rs.length := by omega
                have hk0 : (0 : Int) ≤ k := by omega
                obtain ⟨ad, rfl, -⟩ := hT wr (hO.as I) k hkl
                have hca : ∀ w', Own E w' I → w'.cell? (ad.add k) = some (roV rs[k]) := fun w' hO' => by
                  obtain ⟨_, h1, h2⟩ := hT w' hO' k hkl
                  cases h1
                  exact h2
                have hok := hOk rs[k] (List.getElem_mem _)
                have hbl := hb rs[k] (List.getElem_mem _)
                have hrr := riseB_t (hyes rs[k] (List.getElem_mem _))
                generalize rs[k] = r at hca hok hbl hrr
                unfold roV at hca
                have hcw := hca wr (hO.as I)
                have HK := Lib.hid hkl
                clear hkl
                go_wp2_with (first | (go_at_call 15; go_must (refine (sRises E _ _ _ I r.ad r.l r.cap hok.txt hbl hO).mono ?_; clear hO hcw; rintro e w4 ⟨rfl, hO⟩; have hcw := hca _ (hO.as I); rw [hrr])))
                go_roundw
                case rel => exact ⟨k + 1, rfl, by go_num, HK.out, hO⟩
                case measure => have := HK.out; simp [intOf]; omega
              · have hk1 : ¬ (k : Int) < rs.length := by omega
                go_wp2_with (first | (go_at_call 16; go_must (refine (awake8 E _ _ hO).mono ?_; clear hO; rintro e w4 ⟨rfl, hO⟩)))
                go_ret
                exact ⟨rfl, hO.as _⟩
end Go.Proofs.Ytnfclieaendgeaa
