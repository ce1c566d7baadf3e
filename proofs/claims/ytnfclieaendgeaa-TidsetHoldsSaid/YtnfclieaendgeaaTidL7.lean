/- vestibulelaw14: TidsetHolds. -/
import Derived.Test.YtnfclieaendgeaaTidL2
set_option linter.all false
namespace Go.Td
theorem Deg.nilW {most : Nat} {T W T' W' : List Int} (h : Deg most T W T' W') (hn : W' = []) : T' = T ∧ W = [] := by
  cases h with
  | done _ => exact ⟨rfl, hn⟩
  | @step _ _ p _ _ _ _ k =>
    have := k.sub.2.1 p (mem_ins.2 (.inl rfl))
    rw [hn] at this
    cases this
theorem len_zero {a b : Nat} {ex : Bool} (h : ((a : Int) + (b : Int) == 0) = ex) (hx : ex = true) : a + b = 0 := by
  subst hx
  rw [beq_iff_eq] at h
  omega
theorem and_has {Ta Wa Tb Wb S V T W : List Int} {most : Nat} {t : Int} (h : AndS Ta Wa Tb Wb S V) (k : Deg most S V T W) (ha : has Ta Wa t) (hb : has Tb Wb t) : has T W t := by
  refine k.has t ⟨ha.1, ?_⟩
  rcases ha.2 with h1 | h1
  · rcases hb.2 with h2 | h2
    · exact .inl ((h.w _).2 ⟨h1, h2⟩)
    · exact .inr ((h.t _).2 (.inr ⟨h2, ha⟩))
  · exact .inr ((h.t _).2 (.inl ⟨h1, hb⟩))
theorem or_has {Ta Wa Tb Wb S V T W : List Int} {most : Nat} {t : Int} (h : OrS Ta Wa Tb Wb S V) (k : Deg most S V T W) (ha : has Ta Wa t ∨ has Tb Wb t) : has T W t := by
  have h1 : 0 ≤ t ∧ t < 16777216 := by rcases ha with ha | ha <;> exact ha.1
  refine k.has t ⟨h1, ?_⟩
  by_cases hp : pg t ∈ V
  · exact .inl hp
  · refine .inr ((h.t _).2 ⟨?_, hp⟩)
    rcases ha with ha | ha
    · exact .inl (ha.2.resolve_left fun h2 => hp ((h.w _).2 (.inl h2)))
    · exact .inr (ha.2.resolve_left fun h2 => hp ((h.w _).2 (.inr h2)))
theorem and_exact {Ta Wa Tb Wb S V T W : List Int} {most : Nat} {t : Int} (h : AndS Ta Wa Tb Wb S V) (k : Deg most S V T W) (hW : W = []) (hc : has T W t) : has Ta Wa t ∧ has Tb Wb t := by
  obtain ⟨rfl, rfl⟩ := k.nilW hW
  subst hW
  have h1 : t ∈ T := hc.2.resolve_left (by simp)
  rcases (h.t t).1 h1 with ⟨h2, h3⟩ | ⟨h2, h3⟩
  · exact ⟨⟨hc.1, .inr h2⟩, h3⟩
  · exact ⟨h3, ⟨hc.1, .inr h2⟩⟩
theorem or_exact {Ta Wa Tb Wb S V T W : List Int} {most : Nat} {t : Int} (h : OrS Ta Wa Tb Wb S V) (k : Deg most S V T W) (hW : W = []) (hc : has T W t) : has Ta Wa t ∨ has Tb Wb t := by
  obtain ⟨rfl, rfl⟩ := k.nilW hW
  subst hW
  have h1 : t ∈ T := hc.2.resolve_left (by simp)
  rcases ((h.t t).1 h1).1 with h2 | h2
  · exact .inl ⟨hc.1, .inr h2⟩
  · exact .inr ⟨hc.1, .inr h2⟩
end Go.Td
namespace Go.Proofs.Ytnfclieaendgeaa
open Go Go.RowKit Go.Own Go.Td

set_option maxRecDepth 100000 in
set_option maxHeartbeats 16000000 in
theorem lawHolds14 (E w : World) (X R I : Fr) (m0 n0 : Int) (sa sb : Option Addr) (ca cb : Nat) (L M : List Int) (hTa : NumIn E I sa L) (hTb : NumIn E I sb M) (hla : L.length ≤ 17592186044416) (hlb : M.length ≤ 17592186044416) (hba : ∀ t ∈ L, -9223372036854775808 ≤ t ∧ t ≤ 9223372036854775807) (hbb : ∀ t ∈ M, -9223372036854775808 ≤ t ∧ t ≤ 9223372036854775807) (sc : Option Addr) (cc : Nat) (K : List Int) (hTk : NumIn E I sc K) (hlk : K.length ≤ 17592186044416) (hbk : ∀ t ∈ K, -9223372036854775808 ≤ t ∧ t ≤ 9223372036854775807) (hO : Own E w X) [hp : Pick X I R] :
    Calls Try.prog 7 #[.agg #[.slice sa L.length ca, .slice sb M.length cb, .int .i64 m0, .int .i64 n0], .slice sc K.length cc] w fun e w' => e = .returned (.bool true) ∧ Own E w' (I ++ R) := by
  replace hO := hO.perm hp.perm
  clear hp
  go_enter Try.func7, Try.ntmps7
  go_wp2_with (first | (refine at_box ?_; go_must (refine own_box (v := ?_) hO ?_ ?_ ?_; rotate_left; (· rfl); (· ((conv => lhs; whnf); try exact rfl)); clear hO; (try clear hF); intro bx _ hO; (try simp only [Value.cells] at hO); ((try simp only [List.nil_append, List.append_nil] at hO); have hF := Own.cells hO; simp only [cellsOf_append, cellsOf_pt] at hF); simp only [Act.put, List.setIfInBounds_toArray, List.set_cons_zero, List.set_cons_succ])) | (refine at_load ?_; refine own_loadS (b := ?_) (cs := ?_) (e := ?_) (f := ?_) hO ?_ ?_ ?_ ?_ ?_ ?_; rotate_left 4; (· rfl); (· rfl); (· exact inferInstance); (· simp; done); (· simp []; done); simp only [Act.put, List.setIfInBounds_toArray, List.set_cons_zero, List.set_cons_succ]))
  replace hO := hO.as (I ++ (pt bx (.cells #[.slice sa L.length ca, .slice sb M.length cb, .int .i64 m0, .int .i64 n0] 46 (0, 0)) ++ R))
  clear hF
  refine (made14A E _ _ _ I m0 sa ca L hTa hla hba hO).mono ?_
  clear hO
  rintro e w2 ⟨ap, v1, v2, v3, A, F, rfl, ⟨hv1, hv2, hv3⟩, hap, hO⟩
  have HAP := Lib.hid hap
  clear hap
  have hF := Own.cells hO; simp only [cellsOf_append, cellsOf_pt] at hF
  go_wp2_with (first | (refine at_alloc ?_; go_must (refine own_alloc (z := ?_) hO ?_ ?_ ?_; rotate_left; (· rfl); (· exact zeroRS14 _); clear hO; (try clear hF); intro u8 _ hO; (try simp only [Value.cells] at hO); ((try simp only [List.nil_append, List.append_nil] at hO); have hF := Own.cells hO; simp only [cellsOf_append, cellsOf_pt] at hF); simp only [Act.put, List.setIfInBounds_toArray, List.set_cons_zero, List.set_cons_succ])) | (refine at_store ?_; refine own_storeS (b := ?_) (cs := ?_) (cs' := ?_) (e := ?_) (R := ?_) hO ?_ ?_ ?_ ?_ ?_ ?_ ?_ ?_; rotate_left 5; (· rfl); (· rfl); (· ((conv => lhs; whnf); try exact rfl)); (· exact inferInstance); (· simp []; done); (· simp [hv1, hv2, hv3]); (· simp []; done); clear hO; (try clear hF); intro _ hO; ((try simp only [List.nil_append, List.append_nil] at hO); have hF := Own.cells hO; simp only [cellsOf_append, cellsOf_pt] at hF); simp only [Act.put, List.setIfInBounds_toArray, List.set_cons_zero, List.set_cons_succ]) | (refine at_load ?_; refine own_loadS (b := ?_) (cs := ?_) (e := ?_) (f := ?_) hO ?_ ?_ ?_ ?_ ?_ ?_; rotate_left 4; (· rfl); (· rfl); (· exact inferInstance); (· simp; done); (· simp []; done); simp only [Act.put, List.setIfInBounds_toArray, List.set_cons_zero, List.set_cons_succ]))
  replace hO := hO.as (I ++ (A ++ (F ++ (pt u8 (.cells #[v1, v2, v3] 38 (0, 0)) ++ (pt bx (.cells #[.slice sa L.length ca, .slice sb M.length cb, .int .i64 m0, .int .i64 n0] 46 (0, 0)) ++ R)))))
  clear hF
  refine (made14A E _ _ _ I n0 sb cb M hTb hlb hbb hO).mono ?_
  clear hO
  rintro e w3 ⟨bp, q1, q2, q3, B, G, rfl, ⟨hq1, hq2, hq3⟩, hbp, hO⟩
  have HBP := Lib.hid hbp
  clear hbp
  have hF := Own.cells hO; simp only [cellsOf_append, cellsOf_pt] at hF
  rcases HAP.out with ⟨rfl, _⟩ | ⟨hm1, hm2, a, Ta, Wa, rfl, hAda, hA, _⟩
  · skip
    go_wp2_with (first | (refine at_alloc ?_; go_must (refine own_alloc (z := ?_) hO ?_ ?_ ?_; rotate_left; (· rfl); (· exact zeroRS14 _); clear hO; (try clear hF); intro u9 _ hO; (try simp only [Value.cells] at hO); ((try simp only [List.nil_append, List.append_nil] at hO); have hF := Own.cells hO; simp only [cellsOf_append, cellsOf_pt] at hF); simp only [Act.put, List.setIfInBounds_toArray, List.set_cons_zero, List.set_cons_succ])) | (refine at_store ?_; refine own_storeS (b := ?_) (cs := ?_) (cs' := ?_) (e := ?_) (R := ?_) hO ?_ ?_ ?_ ?_ ?_ ?_ ?_ ?_; rotate_left 5; (· rfl); (· rfl); (· ((conv => lhs; whnf); try exact rfl)); (· exact inferInstance); (· simp []; done); (· simp [hq1, hq2, hq3]); (· simp []; done); clear hO; (try clear hF); intro _ hO; ((try simp only [List.nil_append, List.append_nil] at hO); have hF := Own.cells hO; simp only [cellsOf_append, cellsOf_pt] at hF); simp only [Act.put, List.setIfInBounds_toArray, List.set_cons_zero, List.set_cons_succ]) | (go_at_call 26; go_must (refine (awake14 E _ _ hO).mono ?_; clear hO; rintro e w4 ⟨rfl, hO⟩)))
    go_ret
    exact ⟨rfl, hO.as _⟩
  rcases HBP.out with ⟨rfl, _⟩ | ⟨hn1, hn2, b, Tb, Wb, rfl, hAdb, hB, _⟩
  · skip
    go_wp2_with (first | (refine at_alloc ?_; go_must (refine own_alloc (z := ?_) hO ?_ ?_ ?_; rotate_left; (· rfl); (· exact zeroRS14 _); clear hO; (try clear hF); intro u9 _ hO; (try simp only [Value.cells] at hO); ((try simp only [List.nil_append, List.append_nil] at hO); have hF := Own.cells hO; simp only [cellsOf_append, cellsOf_pt] at hF); simp only [Act.put, List.setIfInBounds_toArray, List.set_cons_zero, List.set_cons_succ])) | (refine at_store ?_; refine own_storeS (b := ?_) (cs := ?_) (cs' := ?_) (e := ?_) (R := ?_) hO ?_ ?_ ?_ ?_ ?_ ?_ ?_ ?_; rotate_left 5; (· rfl); (· rfl); (· ((conv => lhs; whnf); try exact rfl)); (· exact inferInstance); (· simp []; done); (· simp [hq1, hq2, hq3]); (· simp []; done); clear hO; (try clear hF); intro _ hO; ((try simp only [List.nil_append, List.append_nil] at hO); have hF := Own.cells hO; simp only [cellsOf_append, cellsOf_pt] at hF); simp only [Act.put, List.setIfInBounds_toArray, List.set_cons_zero, List.set_cons_succ]) | (go_at_call 26; go_must (refine (awake14 E _ _ hO).mono ?_; clear hO; rintro e w4 ⟨rfl, hO⟩)))
    go_ret
    exact ⟨rfl, hO.as _⟩
  obtain ⟨m, rfl⟩ : ∃ n : Nat, m0 = n := ⟨m0.toNat, by omega⟩
  obtain ⟨n, rfl⟩ : ∃ n : Nat, n0 = n := ⟨n0.toNat, by omega⟩
  rw [show ((m : Nat) : Int).toNat = m by simp] at hAda hA
  rw [show ((n : Nat) : Int).toNat = n by simp] at hAdb hB
  obtain ⟨hIa, hTla⟩ := hAda.inv
  obtain ⟨hIb, hTlb⟩ := hAdb.inv
  have hm64 : m ≤ 64 := by omega
  have hn64 : n ≤ 64 := by omega
  have hTa64 : Ta.length ≤ 64 := by omega
  have hTb64 : Tb.length ≤ 64 := by omega
  clear HAP HBP hAda hAdb hm1 hm2 hn1 hn2
  go_wp2_with (first | (refine at_alloc ?_; go_must (refine own_alloc (z := ?_) hO ?_ ?_ ?_; rotate_left; (· rfl); (· exact zeroRS14 _); clear hO; (try clear hF); intro u9 _ hO; (try simp only [Value.cells] at hO); ((try simp only [List.nil_append, List.append_nil] at hO); have hF := Own.cells hO; simp only [cellsOf_append, cellsOf_pt] at hF); simp only [Act.put, List.setIfInBounds_toArray, List.set_cons_zero, List.set_cons_succ])) | (refine at_store ?_; refine own_storeS (b := ?_) (cs := ?_) (cs' := ?_) (e := ?_) (R := ?_) hO ?_ ?_ ?_ ?_ ?_ ?_ ?_ ?_; rotate_left 5; (· rfl); (· rfl); (· ((conv => lhs; whnf); try exact rfl)); (· exact inferInstance); (· simp []; done); (· simp [hq1, hq2, hq3]); (· simp []; done); clear hO; (try clear hF); intro _ hO; ((try simp only [List.nil_append, List.append_nil] at hO); have hF := Own.cells hO; simp only [cellsOf_append, cellsOf_pt] at hF); simp only [Act.put, List.setIfInBounds_toArray, List.set_cons_zero, List.set_cons_succ]))
  clear hF
  replace hO := hO.as (A ++ (B ++ (pt bx (.cells #[.slice sa L.length ca, .slice sb M.length cb, .int .i64 m, .int .i64 n] 46 (0, 0)) ++ (I ++ R))))
  (try (go_wp2_with fail))
  refine (tAnd E _ _ _ A B a b m n Ta Wa Tb Wb hIa hIb hm64 hn64 hTa64 hTb64 hA hB hO).mono ?_
  clear hO hA hB
  rintro e w4 ⟨c, A, B, C, Sc, Vc, Tc, Wc, rfl, hA, hB, hSc, hDc, hC, hO⟩
  (try (go_wp2_with fail))
  refine (tOr E _ _ _ A B a b m n Ta Wa Tb Wb hIa hIb hm64 hn64 hTa64 hTb64 hA hB hO).mono ?_
  clear hO hA hB
  rintro e w4 ⟨d, A, B, D, Sd, Vd, Td, Wd, rfl, hA, hB, hSd, hDd, hD, hO⟩
  have hIc : Go.Td.Inv Tc Wc := hSc.inv.deg hDc
  have hId : Go.Td.Inv Td Wd := hSd.inv.deg hDd
  have hTc1 := hDc.len
  have hTd1 := hDd.len
  have hTc64 : Tc.length ≤ 64 := by omega
  have hTd64 : Td.length ≤ 64 := by omega
  have hWcl : Wc.length ≤ 262144 := up_bound hIc.w hIc.wb
  have hWdl : Wd.length ≤ 262144 := up_bound hId.w hId.wb
  have hmc : (Tc.length : Int) ≤ min (m : Int) (n : Int) := by omega
  have hmd : (Td.length : Int) ≤ min (m : Int) (n : Int) := by omega
  have HF1 := Lib.hid (fun t => (⟨and_has hSc hDc, or_has hSd hDd, fun h => ⟨and_exact hSc hDc (List.eq_nil_of_length_eq_zero (by omega)), or_exact hSd hDd (List.eq_nil_of_length_eq_zero (by omega))⟩⟩ :
    (has Ta Wa t → has Tb Wb t → has Tc Wc t) ∧ ((has Ta Wa t ∨ has Tb Wb t) → has Td Wd t) ∧ (Wc.length + Wd.length = 0 → (has Tc Wc t → has Ta Wa t ∧ has Tb Wb t) ∧ (has Td Wd t → has Ta Wa t ∨ has Tb Wb t))))
  clear hSc hSd hDc hDd hTc1 hTd1
  generalize hmn : min m n = mn at hC hD
  clear hmn
  go_wp2_with fail
  refine (tPages E _ _ _ C c _ Tc Wc hIc hC hO).mono ?_
  clear hO hC
  rintro e w5 ⟨p1, p2, P, C, rfl, hsP, hC, hO⟩
  go_wp2_with fail
  refine (tPages E _ _ _ D d _ Td Wd hId hD hO).mono ?_
  clear hO hD
  rintro e w5 ⟨p3, p4, Q, D, rfl, hsQ, hD, hO⟩
  replace hO := hO.as (A ++ (B ++ (C ++ (D ++ (pt bx (.cells #[.slice sa L.length ca, .slice sb M.length cb, .int .i64 m, .int .i64 n] 46 (0, 0)) ++ (I ++ R))))))
  have hwr : IntKind.i64.wrap ((Wc.length : Int) + (Wd.length : Int)) = (Wc.length : Int) + (Wd.length : Int) := by
    rw [show (Wc.length : Int) + (Wd.length : Int) = ((Wc.length + Wd.length : Nat) : Int) by omega]
    exact wrap_n' _ (by omega)
  have hwr2 : wrap64 ((Wc.length : Int) + (Wd.length : Int)) = (Wc.length : Int) + (Wd.length : Int) := by unfold wrap64; omega
  obtain ⟨ex, hex⟩ : ∃ ex : Bool, ((Wc.length : Int) + (Wd.length : Int) == 0) = ex := ⟨_, rfl⟩
  have hex2 : decide ((Wc.length : Int) + (Wd.length : Int) = 0) = ex := hex
  have hex0 := len_zero hex
  have HEX := Lib.hid hex0
  clear hex0
  clear hsP hsQ
  have hO1 := hO
  clear hO
  go_wp2_with fail
  go_loopw [16] (fun s16 wr => ∃ (i : Nat), s16 = .int .i64 i ∧ i ≤ K.length ∧ Own E wr (A ++ (B ++ (C ++ (D ++ (pt bx (.cells #[.slice sa L.length ca, .slice sb M.length cb, .int .i64 m, .int .i64 n] 46 (0, 0)) ++ (I ++ R))))))) (fun s16 _ => K.length - (intOf s16).toNat)
  case atStart => exact ⟨0, rfl, Nat.zero_le _, hO1⟩
  case round =>
    clear hO1 hwr hwr2 hex hex2
    obtain ⟨i, rfl, hi, hO⟩ := hrel
    by_cases hik : i < K.length
    · have hi1 : (i : Int) < K.length := by omega
      have hi0 : (0 : Int) ≤ i := by omega
      obtain ⟨ad, rfl, hca⟩ := hTk.ex (hO.as I) i hik
      obtain ⟨hb1, hb2⟩ := hbk K[i] (List.getElem_mem _)
      have hcw := hca _ (hO.as I)
      generalize K[i] = t at hca hcw hb1 hb2
      obtain ⟨F1, F2, F3⟩ := HF1.out t
      obtain ⟨pa, hpa⟩ : ∃ p : Bool, decide (has Ta Wa t) = p := ⟨_, rfl⟩
      obtain ⟨pb, hpb⟩ : ∃ p : Bool, decide (has Tb Wb t) = p := ⟨_, rfl⟩
      have G1 : pa = true → pb = true → decide (has Tc Wc t) = true := fun h1 h2 => by subst h1 h2; exact decide_eq_true (F1 (of_decide_eq_true hpa) (of_decide_eq_true hpb))
      have G2 : pa = true ∨ pb = true → decide (has Td Wd t) = true := fun h => decide_eq_true (F2 (h.imp (fun h => by subst h; exact of_decide_eq_true hpa) (fun h => by subst h; exact of_decide_eq_true hpb)))
      have G3 : ex = true → decide (has Tc Wc t) = (pa && pb) := fun h => by
        cases hc : (pa && pb)
        · refine decide_eq_false fun h2 => ?_
          have h3 := (F3 (HEX.out h)).1 h2
          rw [← hpa, ← hpb, decide_eq_true h3.1, decide_eq_true h3.2] at hc
          cases hc
        · rw [Bool.and_eq_true] at hc
          exact G1 hc.1 hc.2
      have G4 : ex = true → decide (has Td Wd t) = (pa || pb) := fun h => by
        cases hc : (pa || pb)
        · refine decide_eq_false fun h2 => ?_
          rw [← hpa, ← hpb] at hc
          rcases (F3 (HEX.out h)).2 h2 with h3 | h3 <;> · rw [decide_eq_true h3] at hc; simp at hc
        · rw [Bool.or_eq_true] at hc
          exact G2 hc
      have HIK := Lib.hid hik
      have Pa := Lib.hid hpa
      have Pb := Lib.hid hpb
      clear F1 F2 F3 hpa hpb hik hca
      by_cases hcase : pa = true ∧ pb = true ∧ ex = true
      · obtain ⟨rfl, rfl, rfl⟩ := hcase
        have Pc := Lib.hid (G3 rfl)
        have Pd := Lib.hid (G4 rfl)
        clear G1 G2 G3 G4
        (try (go_wp2_with fail))
        refine (tHas E _ _ _ A a _ Ta Wa t hIa (by omega) hb1 hb2 hA hO).mono ?_
        rw [show decide (has Ta Wa t) = true from Pa.out]
        rintro e w6 ⟨rfl, rfl⟩
        (try (go_wp2_with fail))
        refine (tHas E _ _ _ B b _ Tb Wb t hIb (by omega) hb1 hb2 hB hO).mono ?_
        rw [show decide (has Tb Wb t) = true from Pb.out]
        rintro e w6 ⟨rfl, rfl⟩
        (try (go_wp2_with fail))
        refine (tHas E _ _ _ A a _ Ta Wa t hIa (by omega) hb1 hb2 hA hO).mono ?_
        rw [show decide (has Ta Wa t) = true from Pa.out]
        rintro e w6 ⟨rfl, rfl⟩
        (try (go_wp2_with fail))
        refine (tHas E _ _ _ C c _ Tc Wc t hIc (by omega) hb1 hb2 hC hO).mono ?_
        rw [show decide (has Tc Wc t) = true from Pc.out]
        rintro e w6 ⟨rfl, rfl⟩
        (try (go_wp2_with fail))
        refine (tHas E _ _ _ D d _ Td Wd t hId (by omega) hb1 hb2 hD hO).mono ?_
        rw [show decide (has Td Wd t) = true from Pd.out]
        rintro e w6 ⟨rfl, rfl⟩
        (try (go_wp2_with fail))
        refine (tHas E _ _ _ C c _ Tc Wc t hIc (by omega) hb1 hb2 hC hO).mono ?_
        rw [show decide (has Tc Wc t) = true from Pc.out]
        rintro e w6 ⟨rfl, rfl⟩
        (try (go_wp2_with fail))
        refine (tHas E _ _ _ D d _ Td Wd t hId (by omega) hb1 hb2 hD hO).mono ?_
        rw [show decide (has Td Wd t) = true from Pd.out]
        rintro e w6 ⟨rfl, rfl⟩
        go_wp2_with fail
        go_roundw
        case rel => exact ⟨i + 1, by go_num, HIK.out, hO⟩
        case measure => have := HIK.out; simp [intOf]; omega
      by_cases hcase : pa = true ∧ pb = true ∧ ex = false
      · obtain ⟨rfl, rfl, rfl⟩ := hcase
        have Pc := Lib.hid (G1 rfl rfl)
        have Pd := Lib.hid (G2 (.inl rfl))
        clear G1 G2 G3 G4
        (try (go_wp2_with fail))
        refine (tHas E _ _ _ A a _ Ta Wa t hIa (by omega) hb1 hb2 hA hO).mono ?_
        rw [show decide (has Ta Wa t) = true from Pa.out]
        rintro e w6 ⟨rfl, rfl⟩
        (try (go_wp2_with fail))
        refine (tHas E _ _ _ B b _ Tb Wb t hIb (by omega) hb1 hb2 hB hO).mono ?_
        rw [show decide (has Tb Wb t) = true from Pb.out]
        rintro e w6 ⟨rfl, rfl⟩
        (try (go_wp2_with fail))
        refine (tHas E _ _ _ A a _ Ta Wa t hIa (by omega) hb1 hb2 hA hO).mono ?_
        rw [show decide (has Ta Wa t) = true from Pa.out]
        rintro e w6 ⟨rfl, rfl⟩
        (try (go_wp2_with fail))
        refine (tHas E _ _ _ C c _ Tc Wc t hIc (by omega) hb1 hb2 hC hO).mono ?_
        rw [show decide (has Tc Wc t) = true from Pc.out]
        rintro e w6 ⟨rfl, rfl⟩
        (try (go_wp2_with fail))
        refine (tHas E _ _ _ D d _ Td Wd t hId (by omega) hb1 hb2 hD hO).mono ?_
        rw [show decide (has Td Wd t) = true from Pd.out]
        rintro e w6 ⟨rfl, rfl⟩
        go_wp2_with fail
        go_roundw
        case rel => exact ⟨i + 1, by go_num, HIK.out, hO⟩
        case measure => have := HIK.out; simp [intOf]; omega
      by_cases hcase : pa = true ∧ pb = false ∧ ex = true
      · obtain ⟨rfl, rfl, rfl⟩ := hcase
        have Pc := Lib.hid (G3 rfl)
        have Pd := Lib.hid (G4 rfl)
        clear G1 G2 G3 G4
        (try (go_wp2_with fail))
        refine (tHas E _ _ _ A a _ Ta Wa t hIa (by omega) hb1 hb2 hA hO).mono ?_
        rw [show decide (has Ta Wa t) = true from Pa.out]
        rintro e w6 ⟨rfl, rfl⟩
        (try (go_wp2_with fail))
        refine (tHas E _ _ _ B b _ Tb Wb t hIb (by omega) hb1 hb2 hB hO).mono ?_
        rw [show decide (has Tb Wb t) = false from Pb.out]
        rintro e w6 ⟨rfl, rfl⟩
        (try (go_wp2_with fail))
        refine (tHas E _ _ _ A a _ Ta Wa t hIa (by omega) hb1 hb2 hA hO).mono ?_
        rw [show decide (has Ta Wa t) = true from Pa.out]
        rintro e w6 ⟨rfl, rfl⟩
        (try (go_wp2_with fail))
        refine (tHas E _ _ _ D d _ Td Wd t hId (by omega) hb1 hb2 hD hO).mono ?_
        rw [show decide (has Td Wd t) = true from Pd.out]
        rintro e w6 ⟨rfl, rfl⟩
        (try (go_wp2_with fail))
        refine (tHas E _ _ _ C c _ Tc Wc t hIc (by omega) hb1 hb2 hC hO).mono ?_
        rw [show decide (has Tc Wc t) = false from Pc.out]
        rintro e w6 ⟨rfl, rfl⟩
        (try (go_wp2_with fail))
        refine (tHas E _ _ _ D d _ Td Wd t hId (by omega) hb1 hb2 hD hO).mono ?_
        rw [show decide (has Td Wd t) = true from Pd.out]
        rintro e w6 ⟨rfl, rfl⟩
        go_wp2_with fail
        go_roundw
        case rel => exact ⟨i + 1, by go_num, HIK.out, hO⟩
        case measure => have := HIK.out; simp [intOf]; omega
      by_cases hcase : pa = true ∧ pb = false ∧ ex = false
      · obtain ⟨rfl, rfl, rfl⟩ := hcase
        have Pd := Lib.hid (G2 (.inl rfl))
        clear G1 G2 G3 G4
        (try (go_wp2_with fail))
        refine (tHas E _ _ _ A a _ Ta Wa t hIa (by omega) hb1 hb2 hA hO).mono ?_
        rw [show decide (has Ta Wa t) = true from Pa.out]
        rintro e w6 ⟨rfl, rfl⟩
        (try (go_wp2_with fail))
        refine (tHas E _ _ _ B b _ Tb Wb t hIb (by omega) hb1 hb2 hB hO).mono ?_
        rw [show decide (has Tb Wb t) = false from Pb.out]
        rintro e w6 ⟨rfl, rfl⟩
        (try (go_wp2_with fail))
        refine (tHas E _ _ _ A a _ Ta Wa t hIa (by omega) hb1 hb2 hA hO).mono ?_
        rw [show decide (has Ta Wa t) = true from Pa.out]
        rintro e w6 ⟨rfl, rfl⟩
        (try (go_wp2_with fail))
        refine (tHas E _ _ _ D d _ Td Wd t hId (by omega) hb1 hb2 hD hO).mono ?_
        rw [show decide (has Td Wd t) = true from Pd.out]
        rintro e w6 ⟨rfl, rfl⟩
        go_wp2_with fail
        go_roundw
        case rel => exact ⟨i + 1, by go_num, HIK.out, hO⟩
        case measure => have := HIK.out; simp [intOf]; omega
      by_cases hcase : pa = false ∧ pb = true ∧ ex = true
      · obtain ⟨rfl, rfl, rfl⟩ := hcase
        have Pc := Lib.hid (G3 rfl)
        have Pd := Lib.hid (G4 rfl)
        clear G1 G2 G3 G4
        (try (go_wp2_with fail))
        refine (tHas E _ _ _ A a _ Ta Wa t hIa (by omega) hb1 hb2 hA hO).mono ?_
        rw [show decide (has Ta Wa t) = false from Pa.out]
        rintro e w6 ⟨rfl, rfl⟩
        (try (go_wp2_with fail))
        refine (tHas E _ _ _ A a _ Ta Wa t hIa (by omega) hb1 hb2 hA hO).mono ?_
        rw [show decide (has Ta Wa t) = false from Pa.out]
        rintro e w6 ⟨rfl, rfl⟩
        (try (go_wp2_with fail))
        refine (tHas E _ _ _ B b _ Tb Wb t hIb (by omega) hb1 hb2 hB hO).mono ?_
        rw [show decide (has Tb Wb t) = true from Pb.out]
        rintro e w6 ⟨rfl, rfl⟩
        (try (go_wp2_with fail))
        refine (tHas E _ _ _ D d _ Td Wd t hId (by omega) hb1 hb2 hD hO).mono ?_
        rw [show decide (has Td Wd t) = true from Pd.out]
        rintro e w6 ⟨rfl, rfl⟩
        (try (go_wp2_with fail))
        refine (tHas E _ _ _ C c _ Tc Wc t hIc (by omega) hb1 hb2 hC hO).mono ?_
        rw [show decide (has Tc Wc t) = false from Pc.out]
        rintro e w6 ⟨rfl, rfl⟩
        (try (go_wp2_with fail))
        refine (tHas E _ _ _ D d _ Td Wd t hId (by omega) hb1 hb2 hD hO).mono ?_
        rw [show decide (has Td Wd t) = true from Pd.out]
        rintro e w6 ⟨rfl, rfl⟩
        go_wp2_with fail
        go_roundw
        case rel => exact ⟨i + 1, by go_num, HIK.out, hO⟩
        case measure => have := HIK.out; simp [intOf]; omega
      by_cases hcase : pa = false ∧ pb = true ∧ ex = false
      · obtain ⟨rfl, rfl, rfl⟩ := hcase
        have Pd := Lib.hid (G2 (.inr rfl))
        clear G1 G2 G3 G4
        (try (go_wp2_with fail))
        refine (tHas E _ _ _ A a _ Ta Wa t hIa (by omega) hb1 hb2 hA hO).mono ?_
        rw [show decide (has Ta Wa t) = false from Pa.out]
        rintro e w6 ⟨rfl, rfl⟩
        (try (go_wp2_with fail))
        refine (tHas E _ _ _ A a _ Ta Wa t hIa (by omega) hb1 hb2 hA hO).mono ?_
        rw [show decide (has Ta Wa t) = false from Pa.out]
        rintro e w6 ⟨rfl, rfl⟩
        (try (go_wp2_with fail))
        refine (tHas E _ _ _ B b _ Tb Wb t hIb (by omega) hb1 hb2 hB hO).mono ?_
        rw [show decide (has Tb Wb t) = true from Pb.out]
        rintro e w6 ⟨rfl, rfl⟩
        (try (go_wp2_with fail))
        refine (tHas E _ _ _ D d _ Td Wd t hId (by omega) hb1 hb2 hD hO).mono ?_
        rw [show decide (has Td Wd t) = true from Pd.out]
        rintro e w6 ⟨rfl, rfl⟩
        go_wp2_with fail
        go_roundw
        case rel => exact ⟨i + 1, by go_num, HIK.out, hO⟩
        case measure => have := HIK.out; simp [intOf]; omega
      by_cases hcase : pa = false ∧ pb = false ∧ ex = true
      · obtain ⟨rfl, rfl, rfl⟩ := hcase
        have Pc := Lib.hid (G3 rfl)
        have Pd := Lib.hid (G4 rfl)
        clear G1 G2 G3 G4
        (try (go_wp2_with fail))
        refine (tHas E _ _ _ A a _ Ta Wa t hIa (by omega) hb1 hb2 hA hO).mono ?_
        rw [show decide (has Ta Wa t) = false from Pa.out]
        rintro e w6 ⟨rfl, rfl⟩
        (try (go_wp2_with fail))
        refine (tHas E _ _ _ A a _ Ta Wa t hIa (by omega) hb1 hb2 hA hO).mono ?_
        rw [show decide (has Ta Wa t) = false from Pa.out]
        rintro e w6 ⟨rfl, rfl⟩
        (try (go_wp2_with fail))
        refine (tHas E _ _ _ B b _ Tb Wb t hIb (by omega) hb1 hb2 hB hO).mono ?_
        rw [show decide (has Tb Wb t) = false from Pb.out]
        rintro e w6 ⟨rfl, rfl⟩
        (try (go_wp2_with fail))
        refine (tHas E _ _ _ C c _ Tc Wc t hIc (by omega) hb1 hb2 hC hO).mono ?_
        rw [show decide (has Tc Wc t) = false from Pc.out]
        rintro e w6 ⟨rfl, rfl⟩
        (try (go_wp2_with fail))
        refine (tHas E _ _ _ D d _ Td Wd t hId (by omega) hb1 hb2 hD hO).mono ?_
        rw [show decide (has Td Wd t) = false from Pd.out]
        rintro e w6 ⟨rfl, rfl⟩
        go_wp2_with fail
        go_roundw
        case rel => exact ⟨i + 1, by go_num, HIK.out, hO⟩
        case measure => have := HIK.out; simp [intOf]; omega
      by_cases hcase : pa = false ∧ pb = false ∧ ex = false
      · obtain ⟨rfl, rfl, rfl⟩ := hcase
        clear G1 G2 G3 G4
        (try (go_wp2_with fail))
        refine (tHas E _ _ _ A a _ Ta Wa t hIa (by omega) hb1 hb2 hA hO).mono ?_
        rw [show decide (has Ta Wa t) = false from Pa.out]
        rintro e w6 ⟨rfl, rfl⟩
        (try (go_wp2_with fail))
        refine (tHas E _ _ _ A a _ Ta Wa t hIa (by omega) hb1 hb2 hA hO).mono ?_
        rw [show decide (has Ta Wa t) = false from Pa.out]
        rintro e w6 ⟨rfl, rfl⟩
        (try (go_wp2_with fail))
        refine (tHas E _ _ _ B b _ Tb Wb t hIb (by omega) hb1 hb2 hB hO).mono ?_
        rw [show decide (has Tb Wb t) = false from Pb.out]
        rintro e w6 ⟨rfl, rfl⟩
        go_wp2_with fail
        go_roundw
        case rel => exact ⟨i + 1, by go_num, HIK.out, hO⟩
        case measure => have := HIK.out; simp [intOf]; omega
      exact absurd hcase (by cases pa <;> cases pb <;> cases ex <;> simp_all)
    · have hi1 : ¬ (i : Int) < K.length := by omega
      clear hik HF1 HEX
      (try (go_wp2_with fail))
      refine region_sch (fun w' => Own E w' (pt bx (.cells #[.slice sa L.length ca, .slice sb M.length cb, .int .i64 m, .int .i64 n] 46 (0, 0)))) (.look 0 (.look 3 (.look 4 (.look 5 (.look 6 (.look 7 (.act 1 (.look 2 (.look 8 (.look 9 (.look 10 (.look 13 (.look 14 (.look 15 (.look 16 (.look 17 (.act 11 (.look 12 (.look 18 (.look 19 (.look 20 (.act 21 (.look 22 (.look 23 .done)))))))))))))))))))))))) (by kernel_rfl) (by kernel_rfl) (fun _ _ d _ _ h => by cases d <;> exact h) ?_ ?_
      · exact hO.drew.as _
      replace hO := hO.drew
      generalize World.drew _ = wdr at hO ⊢
      first | (refine sch_look (o := ?_) (v := ?_) ?_ ?_ ?_ ?_; rotate_left 2; (· ((conv => lhs; whnf); try exact rfl)); (· rfl); (· intro w' hO'; (have hF' := Own.cells hO'; simp only [cellsOf_append, cellsOf_pt] at hF'); go_simp; (try exact rfl)); simp only [Act.put, List.setIfInBounds_toArray, List.set_cons_zero, List.set_cons_succ]) | (refine sch_pass (o := ?_) ?_ ?_ ?_; rotate_left; (· ((conv => lhs; whnf); try exact rfl)); (· rfl); simp only [Act.put, List.setIfInBounds_toArray, List.set_cons_zero, List.set_cons_succ]) | (refine sch_look (o := ?_) (v := .agg ?_) ?_ ?_ ?_ ?_; rotate_left 2; (· ((conv => lhs; whnf); try exact rfl)); (· rfl); (· intro w' hO'; refine run_opLoadS (b := ?_) (cs := ?_) (e := ?_) (f := ?_) hO' ?_ ?_ ?_ ?_; rotate_left 4; (· exact rfl); (· exact inferInstance); (· simp; done); (· simp; done)); simp only [Act.put, List.setIfInBounds_toArray, List.set_cons_zero, List.set_cons_succ])
      first | (refine sch_look (o := ?_) (v := ?_) ?_ ?_ ?_ ?_; rotate_left 2; (· ((conv => lhs; whnf); try exact rfl)); (· rfl); (· intro w' hO'; (have hF' := Own.cells hO'; simp only [cellsOf_append, cellsOf_pt] at hF'); go_simp; (try exact rfl)); simp only [Act.put, List.setIfInBounds_toArray, List.set_cons_zero, List.set_cons_succ]) | (refine sch_pass (o := ?_) ?_ ?_ ?_; rotate_left; (· ((conv => lhs; whnf); try exact rfl)); (· rfl); simp only [Act.put, List.setIfInBounds_toArray, List.set_cons_zero, List.set_cons_succ]) | (refine sch_look (o := ?_) (v := .agg ?_) ?_ ?_ ?_ ?_; rotate_left 2; (· ((conv => lhs; whnf); try exact rfl)); (· rfl); (· intro w' hO'; refine run_opLoadS (b := ?_) (cs := ?_) (e := ?_) (f := ?_) hO' ?_ ?_ ?_ ?_; rotate_left 4; (· exact rfl); (· exact inferInstance); (· simp; done); (· simp; done)); simp only [Act.put, List.setIfInBounds_toArray, List.set_cons_zero, List.set_cons_succ])
      first | (refine sch_look (o := ?_) (v := ?_) ?_ ?_ ?_ ?_; rotate_left 2; (· ((conv => lhs; whnf); try exact rfl)); (· rfl); (· intro w' hO'; (have hF' := Own.cells hO'; simp only [cellsOf_append, cellsOf_pt] at hF'); go_simp; (try exact rfl)); simp only [Act.put, List.setIfInBounds_toArray, List.set_cons_zero, List.set_cons_succ]) | (refine sch_pass (o := ?_) ?_ ?_ ?_; rotate_left; (· ((conv => lhs; whnf); try exact rfl)); (· rfl); simp only [Act.put, List.setIfInBounds_toArray, List.set_cons_zero, List.set_cons_succ]) | (refine sch_look (o := ?_) (v := .agg ?_) ?_ ?_ ?_ ?_; rotate_left 2; (· ((conv => lhs; whnf); try exact rfl)); (· rfl); (· intro w' hO'; refine run_opLoadS (b := ?_) (cs := ?_) (e := ?_) (f := ?_) hO' ?_ ?_ ?_ ?_; rotate_left 4; (· exact rfl); (· exact inferInstance); (· simp; done); (· simp; done)); simp only [Act.put, List.setIfInBounds_toArray, List.set_cons_zero, List.set_cons_succ])
      first | (refine sch_look (o := ?_) (v := ?_) ?_ ?_ ?_ ?_; rotate_left 2; (· ((conv => lhs; whnf); try exact rfl)); (· rfl); (· intro w' hO'; (have hF' := Own.cells hO'; simp only [cellsOf_append, cellsOf_pt] at hF'); go_simp; (try exact rfl)); simp only [Act.put, List.setIfInBounds_toArray, List.set_cons_zero, List.set_cons_succ]) | (refine sch_pass (o := ?_) ?_ ?_ ?_; rotate_left; (· ((conv => lhs; whnf); try exact rfl)); (· rfl); simp only [Act.put, List.setIfInBounds_toArray, List.set_cons_zero, List.set_cons_succ]) | (refine sch_look (o := ?_) (v := .agg ?_) ?_ ?_ ?_ ?_; rotate_left 2; (· ((conv => lhs; whnf); try exact rfl)); (· rfl); (· intro w' hO'; refine run_opLoadS (b := ?_) (cs := ?_) (e := ?_) (f := ?_) hO' ?_ ?_ ?_ ?_; rotate_left 4; (· exact rfl); (· exact inferInstance); (· simp; done); (· simp; done)); simp only [Act.put, List.setIfInBounds_toArray, List.set_cons_zero, List.set_cons_succ])
      first | (refine sch_look (o := ?_) (v := ?_) ?_ ?_ ?_ ?_; rotate_left 2; (· ((conv => lhs; whnf); try exact rfl)); (· rfl); (· intro w' hO'; (have hF' := Own.cells hO'; simp only [cellsOf_append, cellsOf_pt] at hF'); go_simp; (try exact rfl)); simp only [Act.put, List.setIfInBounds_toArray, List.set_cons_zero, List.set_cons_succ]) | (refine sch_pass (o := ?_) ?_ ?_ ?_; rotate_left; (· ((conv => lhs; whnf); try exact rfl)); (· rfl); simp only [Act.put, List.setIfInBounds_toArray, List.set_cons_zero, List.set_cons_succ]) | (refine sch_look (o := ?_) (v := .agg ?_) ?_ ?_ ?_ ?_; rotate_left 2; (· ((conv => lhs; whnf); try exact rfl)); (· rfl); (· intro w' hO'; refine run_opLoadS (b := ?_) (cs := ?_) (e := ?_) (f := ?_) hO' ?_ ?_ ?_ ?_; rotate_left 4; (· exact rfl); (· exact inferInstance); (· simp; done); (· simp; done)); simp only [Act.put, List.setIfInBounds_toArray, List.set_cons_zero, List.set_cons_succ])
      first | (refine sch_look (o := ?_) (v := ?_) ?_ ?_ ?_ ?_; rotate_left 2; (· ((conv => lhs; whnf); try exact rfl)); (· rfl); (· intro w' hO'; (have hF' := Own.cells hO'; simp only [cellsOf_append, cellsOf_pt] at hF'); go_simp; (try exact rfl)); simp only [Act.put, List.setIfInBounds_toArray, List.set_cons_zero, List.set_cons_succ]) | (refine sch_pass (o := ?_) ?_ ?_ ?_; rotate_left; (· ((conv => lhs; whnf); try exact rfl)); (· rfl); simp only [Act.put, List.setIfInBounds_toArray, List.set_cons_zero, List.set_cons_succ]) | (refine sch_look (o := ?_) (v := .agg ?_) ?_ ?_ ?_ ?_; rotate_left 2; (· ((conv => lhs; whnf); try exact rfl)); (· rfl); (· intro w' hO'; refine run_opLoadS (b := ?_) (cs := ?_) (e := ?_) (f := ?_) hO' ?_ ?_ ?_ ?_; rotate_left 4; (· exact rfl); (· exact inferInstance); (· simp; done); (· simp; done)); simp only [Act.put, List.setIfInBounds_toArray, List.set_cons_zero, List.set_cons_succ])
      (refine sch_act (o := ?_) ?_ ?_; rotate_left; (· ((conv => lhs; whnf); try exact rfl)))
      go_wp2_with fail
      refine (tTids E _ _ _ C c _ Tc Wc hIc (by omega) hC hO).mono ?_
      clear hO hC
      rintro e w5 ⟨t1, t2, P, C, rfl, hsP, hC, hO⟩
      go_wp2_with fail
      refine ⟨hO.as _, ?_⟩
      first | (refine sch_look (o := ?_) (v := ?_) ?_ ?_ ?_ ?_; rotate_left 2; (· ((conv => lhs; whnf); try exact rfl)); (· rfl); (· intro w' hO'; (have hF' := Own.cells hO'; simp only [cellsOf_append, cellsOf_pt] at hF'); go_simp; (try exact rfl)); simp only [Act.put, List.setIfInBounds_toArray, List.set_cons_zero, List.set_cons_succ]) | (refine sch_pass (o := ?_) ?_ ?_ ?_; rotate_left; (· ((conv => lhs; whnf); try exact rfl)); (· rfl); simp only [Act.put, List.setIfInBounds_toArray, List.set_cons_zero, List.set_cons_succ]) | (refine sch_look (o := ?_) (v := .agg ?_) ?_ ?_ ?_ ?_; rotate_left 2; (· ((conv => lhs; whnf); try exact rfl)); (· rfl); (· intro w' hO'; refine run_opLoadS (b := ?_) (cs := ?_) (e := ?_) (f := ?_) hO' ?_ ?_ ?_ ?_; rotate_left 4; (· exact rfl); (· exact inferInstance); (· simp; done); (· simp; done)); simp only [Act.put, List.setIfInBounds_toArray, List.set_cons_zero, List.set_cons_succ])
      first | (refine sch_look (o := ?_) (v := ?_) ?_ ?_ ?_ ?_; rotate_left 2; (· ((conv => lhs; whnf); try exact rfl)); (· rfl); (· intro w' hO'; (have hF' := Own.cells hO'; simp only [cellsOf_append, cellsOf_pt] at hF'); go_simp; (try exact rfl)); simp only [Act.put, List.setIfInBounds_toArray, List.set_cons_zero, List.set_cons_succ]) | (refine sch_pass (o := ?_) ?_ ?_ ?_; rotate_left; (· ((conv => lhs; whnf); try exact rfl)); (· rfl); simp only [Act.put, List.setIfInBounds_toArray, List.set_cons_zero, List.set_cons_succ]) | (refine sch_look (o := ?_) (v := .agg ?_) ?_ ?_ ?_ ?_; rotate_left 2; (· ((conv => lhs; whnf); try exact rfl)); (· rfl); (· intro w' hO'; refine run_opLoadS (b := ?_) (cs := ?_) (e := ?_) (f := ?_) hO' ?_ ?_ ?_ ?_; rotate_left 4; (· exact rfl); (· exact inferInstance); (· simp; done); (· simp; done)); simp only [Act.put, List.setIfInBounds_toArray, List.set_cons_zero, List.set_cons_succ])
      first | (refine sch_look (o := ?_) (v := ?_) ?_ ?_ ?_ ?_; rotate_left 2; (· ((conv => lhs; whnf); try exact rfl)); (· rfl); (· intro w' hO'; (have hF' := Own.cells hO'; simp only [cellsOf_append, cellsOf_pt] at hF'); go_simp; (try exact rfl)); simp only [Act.put, List.setIfInBounds_toArray, List.set_cons_zero, List.set_cons_succ]) | (refine sch_pass (o := ?_) ?_ ?_ ?_; rotate_left; (· ((conv => lhs; whnf); try exact rfl)); (· rfl); simp only [Act.put, List.setIfInBounds_toArray, List.set_cons_zero, List.set_cons_succ]) | (refine sch_look (o := ?_) (v := .agg ?_) ?_ ?_ ?_ ?_; rotate_left 2; (· ((conv => lhs; whnf); try exact rfl)); (· rfl); (· intro w' hO'; refine run_opLoadS (b := ?_) (cs := ?_) (e := ?_) (f := ?_) hO' ?_ ?_ ?_ ?_; rotate_left 4; (· exact rfl); (· exact inferInstance); (· simp; done); (· simp; done)); simp only [Act.put, List.setIfInBounds_toArray, List.set_cons_zero, List.set_cons_succ])
      first | (refine sch_look (o := ?_) (v := ?_) ?_ ?_ ?_ ?_; rotate_left 2; (· ((conv => lhs; whnf); try exact rfl)); (· rfl); (· intro w' hO'; (have hF' := Own.cells hO'; simp only [cellsOf_append, cellsOf_pt] at hF'); go_simp; (try exact rfl)); simp only [Act.put, List.setIfInBounds_toArray, List.set_cons_zero, List.set_cons_succ]) | (refine sch_pass (o := ?_) ?_ ?_ ?_; rotate_left; (· ((conv => lhs; whnf); try exact rfl)); (· rfl); simp only [Act.put, List.setIfInBounds_toArray, List.set_cons_zero, List.set_cons_succ]) | (refine sch_look (o := ?_) (v := .agg ?_) ?_ ?_ ?_ ?_; rotate_left 2; (· ((conv => lhs; whnf); try exact rfl)); (· rfl); (· intro w' hO'; refine run_opLoadS (b := ?_) (cs := ?_) (e := ?_) (f := ?_) hO' ?_ ?_ ?_ ?_; rotate_left 4; (· exact rfl); (· exact inferInstance); (· simp; done); (· simp; done)); simp only [Act.put, List.setIfInBounds_toArray, List.set_cons_zero, List.set_cons_succ])
      first | (refine sch_look (o := ?_) (v := ?_) ?_ ?_ ?_ ?_; rotate_left 2; (· ((conv => lhs; whnf); try exact rfl)); (· rfl); (· intro w' hO'; (have hF' := Own.cells hO'; simp only [cellsOf_append, cellsOf_pt] at hF'); go_simp; (try exact rfl)); simp only [Act.put, List.setIfInBounds_toArray, List.set_cons_zero, List.set_cons_succ]) | (refine sch_pass (o := ?_) ?_ ?_ ?_; rotate_left; (· ((conv => lhs; whnf); try exact rfl)); (· rfl); simp only [Act.put, List.setIfInBounds_toArray, List.set_cons_zero, List.set_cons_succ]) | (refine sch_look (o := ?_) (v := .agg ?_) ?_ ?_ ?_ ?_; rotate_left 2; (· ((conv => lhs; whnf); try exact rfl)); (· rfl); (· intro w' hO'; refine run_opLoadS (b := ?_) (cs := ?_) (e := ?_) (f := ?_) hO' ?_ ?_ ?_ ?_; rotate_left 4; (· exact rfl); (· exact inferInstance); (· simp; done); (· simp; done)); simp only [Act.put, List.setIfInBounds_toArray, List.set_cons_zero, List.set_cons_succ])
      first | (refine sch_look (o := ?_) (v := ?_) ?_ ?_ ?_ ?_; rotate_left 2; (· ((conv => lhs; whnf); try exact rfl)); (· rfl); (· intro w' hO'; (have hF' := Own.cells hO'; simp only [cellsOf_append, cellsOf_pt] at hF'); go_simp; (try exact rfl)); simp only [Act.put, List.setIfInBounds_toArray, List.set_cons_zero, List.set_cons_succ]) | (refine sch_pass (o := ?_) ?_ ?_ ?_; rotate_left; (· ((conv => lhs; whnf); try exact rfl)); (· rfl); simp only [Act.put, List.setIfInBounds_toArray, List.set_cons_zero, List.set_cons_succ]) | (refine sch_look (o := ?_) (v := .agg ?_) ?_ ?_ ?_ ?_; rotate_left 2; (· ((conv => lhs; whnf); try exact rfl)); (· rfl); (· intro w' hO'; refine run_opLoadS (b := ?_) (cs := ?_) (e := ?_) (f := ?_) hO' ?_ ?_ ?_ ?_; rotate_left 4; (· exact rfl); (· exact inferInstance); (· simp; done); (· simp; done)); simp only [Act.put, List.setIfInBounds_toArray, List.set_cons_zero, List.set_cons_succ])
      first | (refine sch_look (o := ?_) (v := ?_) ?_ ?_ ?_ ?_; rotate_left 2; (· ((conv => lhs; whnf); try exact rfl)); (· rfl); (· intro w' hO'; (have hF' := Own.cells hO'; simp only [cellsOf_append, cellsOf_pt] at hF'); go_simp; (try exact rfl)); simp only [Act.put, List.setIfInBounds_toArray, List.set_cons_zero, List.set_cons_succ]) | (refine sch_pass (o := ?_) ?_ ?_ ?_; rotate_left; (· ((conv => lhs; whnf); try exact rfl)); (· rfl); simp only [Act.put, List.setIfInBounds_toArray, List.set_cons_zero, List.set_cons_succ]) | (refine sch_look (o := ?_) (v := .agg ?_) ?_ ?_ ?_ ?_; rotate_left 2; (· ((conv => lhs; whnf); try exact rfl)); (· rfl); (· intro w' hO'; refine run_opLoadS (b := ?_) (cs := ?_) (e := ?_) (f := ?_) hO' ?_ ?_ ?_ ?_; rotate_left 4; (· exact rfl); (· exact inferInstance); (· simp; done); (· simp; done)); simp only [Act.put, List.setIfInBounds_toArray, List.set_cons_zero, List.set_cons_succ])
      first | (refine sch_look (o := ?_) (v := ?_) ?_ ?_ ?_ ?_; rotate_left 2; (· ((conv => lhs; whnf); try exact rfl)); (· rfl); (· intro w' hO'; (have hF' := Own.cells hO'; simp only [cellsOf_append, cellsOf_pt] at hF'); go_simp; (try exact rfl)); simp only [Act.put, List.setIfInBounds_toArray, List.set_cons_zero, List.set_cons_succ]) | (refine sch_pass (o := ?_) ?_ ?_ ?_; rotate_left; (· ((conv => lhs; whnf); try exact rfl)); (· rfl); simp only [Act.put, List.setIfInBounds_toArray, List.set_cons_zero, List.set_cons_succ]) | (refine sch_look (o := ?_) (v := .agg ?_) ?_ ?_ ?_ ?_; rotate_left 2; (· ((conv => lhs; whnf); try exact rfl)); (· rfl); (· intro w' hO'; refine run_opLoadS (b := ?_) (cs := ?_) (e := ?_) (f := ?_) hO' ?_ ?_ ?_ ?_; rotate_left 4; (· exact rfl); (· exact inferInstance); (· simp; done); (· simp; done)); simp only [Act.put, List.setIfInBounds_toArray, List.set_cons_zero, List.set_cons_succ])
      first | (refine sch_look (o := ?_) (v := ?_) ?_ ?_ ?_ ?_; rotate_left 2; (· ((conv => lhs; whnf); try exact rfl)); (· rfl); (· intro w' hO'; (have hF' := Own.cells hO'; simp only [cellsOf_append, cellsOf_pt] at hF'); go_simp; (try exact rfl)); simp only [Act.put, List.setIfInBounds_toArray, List.set_cons_zero, List.set_cons_succ]) | (refine sch_pass (o := ?_) ?_ ?_ ?_; rotate_left; (· ((conv => lhs; whnf); try exact rfl)); (· rfl); simp only [Act.put, List.setIfInBounds_toArray, List.set_cons_zero, List.set_cons_succ]) | (refine sch_look (o := ?_) (v := .agg ?_) ?_ ?_ ?_ ?_; rotate_left 2; (· ((conv => lhs; whnf); try exact rfl)); (· rfl); (· intro w' hO'; refine run_opLoadS (b := ?_) (cs := ?_) (e := ?_) (f := ?_) hO' ?_ ?_ ?_ ?_; rotate_left 4; (· exact rfl); (· exact inferInstance); (· simp; done); (· simp; done)); simp only [Act.put, List.setIfInBounds_toArray, List.set_cons_zero, List.set_cons_succ])
      (refine sch_act (o := ?_) ?_ ?_; rotate_left; (· ((conv => lhs; whnf); try exact rfl)))
      go_wp2_with fail
      refine (tTids E _ _ _ D d _ Td Wd hId (by omega) hD hO).mono ?_
      clear hO hD
      rintro e w5 ⟨t3, t4, Q, D, rfl, hsQ, hD, hO⟩
      go_wp2_with fail
      refine ⟨hO.as _, ?_⟩
      first | (refine sch_look (o := ?_) (v := ?_) ?_ ?_ ?_ ?_; rotate_left 2; (· ((conv => lhs; whnf); try exact rfl)); (· rfl); (· intro w' hO'; (have hF' := Own.cells hO'; simp only [cellsOf_append, cellsOf_pt] at hF'); go_simp; (try exact rfl)); simp only [Act.put, List.setIfInBounds_toArray, List.set_cons_zero, List.set_cons_succ]) | (refine sch_pass (o := ?_) ?_ ?_ ?_; rotate_left; (· ((conv => lhs; whnf); try exact rfl)); (· rfl); simp only [Act.put, List.setIfInBounds_toArray, List.set_cons_zero, List.set_cons_succ]) | (refine sch_look (o := ?_) (v := .agg ?_) ?_ ?_ ?_ ?_; rotate_left 2; (· ((conv => lhs; whnf); try exact rfl)); (· rfl); (· intro w' hO'; refine run_opLoadS (b := ?_) (cs := ?_) (e := ?_) (f := ?_) hO' ?_ ?_ ?_ ?_; rotate_left 4; (· exact rfl); (· exact inferInstance); (· simp; done); (· simp; done)); simp only [Act.put, List.setIfInBounds_toArray, List.set_cons_zero, List.set_cons_succ])
      first | (refine sch_look (o := ?_) (v := ?_) ?_ ?_ ?_ ?_; rotate_left 2; (· ((conv => lhs; whnf); try exact rfl)); (· rfl); (· intro w' hO'; (have hF' := Own.cells hO'; simp only [cellsOf_append, cellsOf_pt] at hF'); go_simp; (try exact rfl)); simp only [Act.put, List.setIfInBounds_toArray, List.set_cons_zero, List.set_cons_succ]) | (refine sch_pass (o := ?_) ?_ ?_ ?_; rotate_left; (· ((conv => lhs; whnf); try exact rfl)); (· rfl); simp only [Act.put, List.setIfInBounds_toArray, List.set_cons_zero, List.set_cons_succ]) | (refine sch_look (o := ?_) (v := .agg ?_) ?_ ?_ ?_ ?_; rotate_left 2; (· ((conv => lhs; whnf); try exact rfl)); (· rfl); (· intro w' hO'; refine run_opLoadS (b := ?_) (cs := ?_) (e := ?_) (f := ?_) hO' ?_ ?_ ?_ ?_; rotate_left 4; (· exact rfl); (· exact inferInstance); (· simp; done); (· simp; done)); simp only [Act.put, List.setIfInBounds_toArray, List.set_cons_zero, List.set_cons_succ])
      first | (refine sch_look (o := ?_) (v := ?_) ?_ ?_ ?_ ?_; rotate_left 2; (· ((conv => lhs; whnf); try exact rfl)); (· rfl); (· intro w' hO'; (have hF' := Own.cells hO'; simp only [cellsOf_append, cellsOf_pt] at hF'); go_simp; (try exact rfl)); simp only [Act.put, List.setIfInBounds_toArray, List.set_cons_zero, List.set_cons_succ]) | (refine sch_pass (o := ?_) ?_ ?_ ?_; rotate_left; (· ((conv => lhs; whnf); try exact rfl)); (· rfl); simp only [Act.put, List.setIfInBounds_toArray, List.set_cons_zero, List.set_cons_succ]) | (refine sch_look (o := ?_) (v := .agg ?_) ?_ ?_ ?_ ?_; rotate_left 2; (· ((conv => lhs; whnf); try exact rfl)); (· rfl); (· intro w' hO'; refine run_opLoadS (b := ?_) (cs := ?_) (e := ?_) (f := ?_) hO' ?_ ?_ ?_ ?_; rotate_left 4; (· exact rfl); (· exact inferInstance); (· simp; done); (· simp; done)); simp only [Act.put, List.setIfInBounds_toArray, List.set_cons_zero, List.set_cons_succ])
      first | (refine sch_look (o := ?_) (v := ?_) ?_ ?_ ?_ ?_; rotate_left 2; (· ((conv => lhs; whnf); try exact rfl)); (· rfl); (· intro w' hO'; (have hF' := Own.cells hO'; simp only [cellsOf_append, cellsOf_pt] at hF'); go_simp; (try exact rfl)); simp only [Act.put, List.setIfInBounds_toArray, List.set_cons_zero, List.set_cons_succ]) | (refine sch_pass (o := ?_) ?_ ?_ ?_; rotate_left; (· ((conv => lhs; whnf); try exact rfl)); (· rfl); simp only [Act.put, List.setIfInBounds_toArray, List.set_cons_zero, List.set_cons_succ]) | (refine sch_look (o := ?_) (v := .agg ?_) ?_ ?_ ?_ ?_; rotate_left 2; (· ((conv => lhs; whnf); try exact rfl)); (· rfl); (· intro w' hO'; refine run_opLoadS (b := ?_) (cs := ?_) (e := ?_) (f := ?_) hO' ?_ ?_ ?_ ?_; rotate_left 4; (· exact rfl); (· exact inferInstance); (· simp; done); (· simp; done)); simp only [Act.put, List.setIfInBounds_toArray, List.set_cons_zero, List.set_cons_succ])
      (refine sch_act (o := ?_) ?_ ?_; rotate_left; (· ((conv => lhs; whnf); try exact rfl)))
      go_wp2_with fail
      refine (awake14 E _ _ hO).mono ?_
      clear hO
      rintro e w5 ⟨rfl, hO⟩
      go_wp2_with fail
      refine ⟨hO.as _, ?_⟩
      first | (refine sch_look (o := ?_) (v := ?_) ?_ ?_ ?_ ?_; rotate_left 2; (· ((conv => lhs; whnf); try exact rfl)); (· rfl); (· intro w' hO'; (have hF' := Own.cells hO'; simp only [cellsOf_append, cellsOf_pt] at hF'); go_simp; (try exact rfl)); simp only [Act.put, List.setIfInBounds_toArray, List.set_cons_zero, List.set_cons_succ]) | (refine sch_pass (o := ?_) ?_ ?_ ?_; rotate_left; (· ((conv => lhs; whnf); try exact rfl)); (· rfl); simp only [Act.put, List.setIfInBounds_toArray, List.set_cons_zero, List.set_cons_succ]) | (refine sch_look (o := ?_) (v := .agg ?_) ?_ ?_ ?_ ?_; rotate_left 2; (· ((conv => lhs; whnf); try exact rfl)); (· rfl); (· intro w' hO'; refine run_opLoadS (b := ?_) (cs := ?_) (e := ?_) (f := ?_) hO' ?_ ?_ ?_ ?_; rotate_left 4; (· exact rfl); (· exact inferInstance); (· simp; done); (· simp; done)); simp only [Act.put, List.setIfInBounds_toArray, List.set_cons_zero, List.set_cons_succ])
      first | (refine sch_look (o := ?_) (v := ?_) ?_ ?_ ?_ ?_; rotate_left 2; (· ((conv => lhs; whnf); try exact rfl)); (· rfl); (· intro w' hO'; (have hF' := Own.cells hO'; simp only [cellsOf_append, cellsOf_pt] at hF'); go_simp; (try exact rfl)); simp only [Act.put, List.setIfInBounds_toArray, List.set_cons_zero, List.set_cons_succ]) | (refine sch_pass (o := ?_) ?_ ?_ ?_; rotate_left; (· ((conv => lhs; whnf); try exact rfl)); (· rfl); simp only [Act.put, List.setIfInBounds_toArray, List.set_cons_zero, List.set_cons_succ]) | (refine sch_look (o := ?_) (v := .agg ?_) ?_ ?_ ?_ ?_; rotate_left 2; (· ((conv => lhs; whnf); try exact rfl)); (· rfl); (· intro w' hO'; refine run_opLoadS (b := ?_) (cs := ?_) (e := ?_) (f := ?_) hO' ?_ ?_ ?_ ?_; rotate_left 4; (· exact rfl); (· exact inferInstance); (· simp; done); (· simp; done)); simp only [Act.put, List.setIfInBounds_toArray, List.set_cons_zero, List.set_cons_succ])
      refine sch_done ?_
      go_wp2_with fail
      go_ret
      exact ⟨rfl, hO.as _⟩
end Go.Proofs.Ytnfclieaendgeaa
