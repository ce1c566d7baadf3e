/- vestibulelaw14: TidsetSame. -/
import Derived.Test.YtnfclieaendgeaaTidL2
set_option linter.all false
namespace Go.Proofs.Ytnfclieaendgeaa
open Go Go.RowKit Go.Own Go.Td

set_option maxRecDepth 100000 in
set_option maxHeartbeats 16000000 in
theorem lawSame14 (E w : World) (X R I : Fr) (m0 n0 : Int) (sa sb : Option Addr) (ca cb : Nat) (L M : List Int) (hTa : NumIn E I sa L) (hTb : NumIn E I sb M) (hla : L.length ≤ 17592186044416) (hlb : M.length ≤ 17592186044416) (hba : ∀ t ∈ L, -9223372036854775808 ≤ t ∧ t ≤ 9223372036854775807) (hbb : ∀ t ∈ M, -9223372036854775808 ≤ t ∧ t ≤ 9223372036854775807) (hO : Own E w X) [hp : Pick X I R] :
    Calls Try.prog 8 #[.agg #[.slice sa L.length ca, .slice sb M.length cb, .int .i64 m0, .int .i64 n0]] w fun e w' => e = .returned (.bool true) ∧ Own E w' (I ++ R) := by
  replace hO := hO.perm hp.perm
  clear hp
  go_enter Try.func8, Try.ntmps8
  go_wp2_with (first | (refine at_box ?_; go_must (refine own_box (v := ?_) hO ?_ ?_ ?_; rotate_left; (· rfl); (· ((conv => lhs; whnf); try exact rfl)); clear hO; (try clear hF); intro bx _ hO; (try simp only [Value.cells] at hO); ((try simp only [List.nil_append, List.append_nil] at hO); have hF := Own.cells hO; simp only [cellsOf_append, cellsOf_pt] at hF); simp only [Act.put, List.setIfInBounds_toArray, List.set_cons_zero, List.set_cons_succ])) | (refine at_load ?_; refine own_loadS (b := ?_) (cs := ?_) (e := ?_) (f := ?_) hO ?_ ?_ ?_ ?_ ?_ ?_; rotate_left 4; (· rfl); (· rfl); (· exact inferInstance); (· simp; done); (· simp []; done); simp only [Act.put, List.setIfInBounds_toArray, List.set_cons_zero, List.set_cons_succ]))
  replace hO := hO.as (I ++ (pt bx (.cells #[.slice sa L.length ca, .slice sb M.length cb, .int .i64 m0, .int .i64 n0] 46 (0, 0)) ++ R))
  clear hF
  refine (made14A E _ _ _ I m0 sa ca L hTa hla hba hO).mono ?_
  clear hO
  rintro e w2 ⟨ap, v1, v2, v3, A, F, rfl, ⟨hv1, hv2, hv3⟩, hap, hO⟩
  have HAP := Lib.hid hap
  clear hap
  have hF := Own.cells hO; simp only [cellsOf_append, cellsOf_pt] at hF
  go_wp2_with (first | (refine at_alloc ?_; go_must (refine own_alloc (z := ?_) hO ?_ ?_ ?_; rotate_left; (· rfl); (· exact zeroRS14 _); clear hO; (try clear hF); intro u8 _ hO; (try simp only [Value.cells] at hO); ((try simp only [List.nil_append, List.append_nil] at hO); have hF := Own.cells hO; simp only [cellsOf_append, cellsOf_pt] at hF); simp only [Act.put, List.setIfInBounds_toArray, List.set_cons_zero, List.set_cons_succ])) | (refine at_store ?_; refine own_storeS (b := ?_) (cs := ?_) (cs' := ?_) (e := ?_) (R := ?_) hO ?_ ?_ ?_ ?_ ?_ ?_ ?_ ?_; rotate_left 5; (· rfl); (· rfl); (· ((conv => lhs; whnf); try exact rfl)); (· exact inferInstance); (· simp []; done); (· simp [hv1, hv2, hv3]); (· simp []; done); clear hO; (try clear hF); intro _ hO; ((try simp only [List.nil_append, List.append_nil] at hO); have hF := Own.cells hO; simp only [cellsOf_append, cellsOf_pt] at hF); simp only [Act.put, List.setIfInBounds_toArray, List.set_cons_zero, List.set_cons_succ]) | (refine at_load ?_; refine own_loadS (b := ?_) (cs := ?_) (e := ?_) (f := ?_) hO ?_ ?_ ?_ ?_ ?_ ?_; rotate_left 4; (· rfl); (· rfl); (· exact inferInstance); (· simp; done); (· simp []; done); simp only [Act.put, List.setIfInBounds_toArray, List.set_cons_zero, List.set_cons_succ]))
  replace hO := hO.as (I ++ (A ++ (F ++ (pt u8 (.cells #[v1, v2, v3] 38 (0, 0)) ++ (pt bx (.cells #[.slice sa L.length ca, .slice sb M.length cb, .int .i64 m0, .int .i64 n0] 46 (0, 0)) ++ R)))))
  clear hF
  refine (made14A E _ _ _ I n0 sb cb M hTb hlb hbb hO).mono ?_
  clear hO
  rintro e w3 ⟨bp, q1, q2, q3, B, G, rfl, ⟨hq1, hq2, hq3⟩, hbp, hO⟩
  have HBP := Lib.hid hbp
  clear hbp
  have hF := Own.cells hO; simp only [cellsOf_append, cellsOf_pt] at hF
  rcases HAP.out with ⟨rfl, _⟩ | ⟨hm1, hm2, a, Ta, Wa, rfl, hAda, hA, _⟩
  · skip
    go_wp2_with (first | (refine at_alloc ?_; go_must (refine own_alloc (z := ?_) hO ?_ ?_ ?_; rotate_left; (· rfl); (· exact zeroRS14 _); clear hO; (try clear hF); intro u9 _ hO; (try simp only [Value.cells] at hO); ((try simp only [List.nil_append, List.append_nil] at hO); have hF := Own.cells hO; simp only [cellsOf_append, cellsOf_pt] at hF); simp only [Act.put, List.setIfInBounds_toArray, List.set_cons_zero, List.set_cons_succ])) | (refine at_store ?_; refine own_storeS (b := ?_) (cs := ?_) (cs' := ?_) (e := ?_) (R := ?_) hO ?_ ?_ ?_ ?_ ?_ ?_ ?_ ?_; rotate_left 5; (· rfl); (· rfl); (· ((conv => lhs; whnf); try exact rfl)); (· exact inferInstance); (· simp []; done); (· simp [hq1, hq2, hq3]); (· simp []; done); clear hO; (try clear hF); intro _ hO; ((try simp only [List.nil_append, List.append_nil] at hO); have hF := Own.cells hO; simp only [cellsOf_append, cellsOf_pt] at hF); simp only [Act.put, List.setIfInBounds_toArray, List.set_cons_zero, List.set_cons_succ]) | (go_at_call 26; go_must (refine (awake14 E _ _ hO).mono ?_; clear hO; rintro e w4 ⟨rfl, hO⟩)))
    go_ret
    exact ⟨rfl, hO.as _⟩
  rcases HBP.out with ⟨rfl, _⟩ | ⟨hn1, hn2, b, Tb, Wb, rfl, hAdb, hB, _⟩
  · skip
    go_wp2_with (first | (refine at_alloc ?_; go_must (refine own_alloc (z := ?_) hO ?_ ?_ ?_; rotate_left; (· rfl); (· exact zeroRS14 _); clear hO; (try clear hF); intro u9 _ hO; (try simp only [Value.cells] at hO); ((try simp only [List.nil_append, List.append_nil] at hO); have hF := Own.cells hO; simp only [cellsOf_append, cellsOf_pt] at hF); simp only [Act.put, List.setIfInBounds_toArray, List.set_cons_zero, List.set_cons_succ])) | (refine at_store ?_; refine own_storeS (b := ?_) (cs := ?_) (cs' := ?_) (e := ?_) (R := ?_) hO ?_ ?_ ?_ ?_ ?_ ?_ ?_ ?_; rotate_left 5; (· rfl); (· rfl); (· ((conv => lhs; whnf); try exact rfl)); (· exact inferInstance); (· simp []; done); (· simp [hq1, hq2, hq3]); (· simp []; done); clear hO; (try clear hF); intro _ hO; ((try simp only [List.nil_append, List.append_nil] at hO); have hF := Own.cells hO; simp only [cellsOf_append, cellsOf_pt] at hF); simp only [Act.put, List.setIfInBounds_toArray, List.set_cons_zero, List.set_cons_succ]) | (go_at_call 26; go_must (refine (awake14 E _ _ hO).mono ?_; clear hO; rintro e w4 ⟨rfl, hO⟩)))
    go_ret
    exact ⟨rfl, hO.as _⟩
  obtain ⟨m, rfl⟩ : ∃ n : Nat, m0 = n := ⟨m0.toNat, by omega⟩
  obtain ⟨n, rfl⟩ : ∃ n : Nat, n0 = n := ⟨n0.toNat, by omega⟩
  rw [show ((m : Nat) : Int).toNat = m by simp] at hAda hA
  rw [show ((n : Nat) : Int).toNat = n by simp] at hAdb hB
  obtain ⟨hIa, hTla⟩ := hAda.inv
  obtain ⟨hIb, hTlb⟩ := hAdb.inv
  have hm64 : m ≤ 64 := by omega
  have hn64 : n ≤ 64 := by omega
  have hTa64 : Ta.length ≤ 64 := by omega
  have hTb64 : Tb.length ≤ 64 := by omega
  clear HAP HBP hAda hAdb hm1 hm2 hn1 hn2
  go_wp2_with (first | (refine at_alloc ?_; go_must (refine own_alloc (z := ?_) hO ?_ ?_ ?_; rotate_left; (· rfl); (· exact zeroRS14 _); clear hO; (try clear hF); intro u9 _ hO; (try simp only [Value.cells] at hO); ((try simp only [List.nil_append, List.append_nil] at hO); have hF := Own.cells hO; simp only [cellsOf_append, cellsOf_pt] at hF); simp only [Act.put, List.setIfInBounds_toArray, List.set_cons_zero, List.set_cons_succ])) | (refine at_store ?_; refine own_storeS (b := ?_) (cs := ?_) (cs' := ?_) (e := ?_) (R := ?_) hO ?_ ?_ ?_ ?_ ?_ ?_ ?_ ?_; rotate_left 5; (· rfl); (· rfl); (· ((conv => lhs; whnf); try exact rfl)); (· exact inferInstance); (· simp []; done); (· simp [hq1, hq2, hq3]); (· simp []; done); clear hO; (try clear hF); intro _ hO; ((try simp only [List.nil_append, List.append_nil] at hO); have hF := Own.cells hO; simp only [cellsOf_append, cellsOf_pt] at hF); simp only [Act.put, List.setIfInBounds_toArray, List.set_cons_zero, List.set_cons_succ]))
  clear hF
  replace hO := hO.as (A ++ (B ++ (I ++ R)))
  (try (go_wp2_with fail))
  refine (tAnd E _ _ _ A B a b m n Ta Wa Tb Wb hIa hIb hm64 hn64 hTa64 hTb64 hA hB hO).mono ?_
  clear hO hA hB
  rintro e w4 ⟨c, A, B, C, Sc, Vc, Tc, Wc, rfl, hA, hB, hSc, hDc, hC, hO⟩
  (try (go_wp2_with fail))
  refine (tAnd E _ _ _ B A b a n m Tb Wb Ta Wa hIb hIa hn64 hm64 hTb64 hTa64 hB hA hO).mono ?_
  clear hO hB hA
  rintro e w4 ⟨d, B, A, D, Sd, Vd, Td, Wd, rfl, hB, hA, hSd, hDd, hD, hO⟩
  (try (go_wp2_with fail))
  refine (tOr E _ _ _ A B a b m n Ta Wa Tb Wb hIa hIb hm64 hn64 hTa64 hTb64 hA hB hO).mono ?_
  clear hO hA hB
  rintro ee w4 ⟨g, A, B, G, Sg, Vg, Tg, Wg, rfl, hA, hB, hSg, hDg, hG, hO⟩
  (try (go_wp2_with fail))
  refine (tOr E _ _ _ B A b a n m Tb Wb Ta Wa hIb hIa hn64 hm64 hTb64 hTa64 hB hA hO).mono ?_
  clear hO hB hA
  rintro e w4 ⟨h, B, A, H, Sh, Vh, Th, Wh, rfl, hB, hA, hSh, hDh, hH, hO⟩
  clear hA hB
  have hIc : Go.Td.Inv Tc Wc := hSc.inv.deg hDc
  have hIg : Go.Td.Inv Tg Wg := hSg.inv.deg hDg
  have hTc64 : Tc.length ≤ 64 := by have := hDc.len; omega
  have hTg64 : Tg.length ≤ 64 := by have := hDg.len; omega
  have hTcl : Tc.length ≤ 262144 := by omega
  have hTgl : Tg.length ≤ 262144 := by omega
  have hWcl : Wc.length ≤ 262144 := up_bound hIc.w hIc.wb
  have hWgl : Wg.length ≤ 262144 := up_bound hIg.w hIg.wb
  rw [Nat.min_comm n m] at hDd hDh hD hH
  obtain ⟨rfl, rfl⟩ := hSc.uniq hSd.swap
  obtain ⟨rfl, rfl⟩ := hSg.uniq hSh.swap
  obtain ⟨rfl, rfl⟩ := hDc.uniq hDd
  obtain ⟨rfl, rfl⟩ := hDg.uniq hDh
  clear hSc hSd hSg hSh hDc hDd hDg hDh
  generalize min m n = mn at hC hD hG hH
  go_wp2_with fail
  refine (tTids E _ _ _ C c _ Tc Wc hIc (by omega) hC hO).mono ?_
  clear hO hC
  rintro e w5 ⟨ga1, gc1, GA1, C, rfl, hsGA1, hC, hO⟩
  go_wp2_with fail
  refine (tTids E _ _ _ D d _ Tc Wc hIc (by omega) hD hO).mono ?_
  clear hO hD
  rintro e w5 ⟨ha1, hc1, HA1, D, rfl, hsHA1, hD, hO⟩
  go_wp2_with fail
  refine (r7Ints E _ _ _ (GA1 ++ HA1) ga1 ha1 Tc Tc gc1 hc1 ((num_sl hsGA1).more fun w hO => hO.as _) ((num_sl hsHA1).more fun w hO => hO.as _) (by have := hTcl; omega) hO).mono ?_
  clear hO hsGA1 hsHA1
  rintro e w6 ⟨rfl, hO⟩
  rw [decide_eq_true rfl]
  go_wp2_with fail
  refine (tPages E _ _ _ C c _ Tc Wc hIc hC hO).mono ?_
  clear hO hC
  rintro e w5 ⟨ga2, gc2, GA2, C, rfl, hsGA2, hC, hO⟩
  go_wp2_with fail
  refine (tPages E _ _ _ D d _ Tc Wc hIc hD hO).mono ?_
  clear hO hD
  rintro e w5 ⟨ha2, hc2, HA2, D, rfl, hsHA2, hD, hO⟩
  go_wp2_with fail
  refine (r7Ints E _ _ _ (GA2 ++ HA2) ga2 ha2 Wc Wc gc2 hc2 ((num_sl hsGA2).more fun w hO => hO.as _) ((num_sl hsHA2).more fun w hO => hO.as _) (by have := hWcl; omega) hO).mono ?_
  clear hO hsGA2 hsHA2
  rintro e w6 ⟨rfl, hO⟩
  rw [decide_eq_true rfl]
  go_wp2_with fail
  refine (tTids E _ _ _ G g _ Tg Wg hIg (by omega) hG hO).mono ?_
  clear hO hG
  rintro e w5 ⟨ga3, gc3, GA3, G, rfl, hsGA3, hG, hO⟩
  go_wp2_with fail
  refine (tTids E _ _ _ H h _ Tg Wg hIg (by omega) hH hO).mono ?_
  clear hO hH
  rintro e w5 ⟨ha3, hc3, HA3, H, rfl, hsHA3, hH, hO⟩
  go_wp2_with fail
  refine (r7Ints E _ _ _ (GA3 ++ HA3) ga3 ha3 Tg Tg gc3 hc3 ((num_sl hsGA3).more fun w hO => hO.as _) ((num_sl hsHA3).more fun w hO => hO.as _) (by have := hTgl; omega) hO).mono ?_
  clear hO hsGA3 hsHA3
  rintro e w6 ⟨rfl, hO⟩
  rw [decide_eq_true rfl]
  go_wp2_with fail
  refine (tPages E _ _ _ G g _ Tg Wg hIg hG hO).mono ?_
  clear hO hG
  rintro e w5 ⟨ga4, gc4, GA4, G, rfl, hsGA4, hG, hO⟩
  go_wp2_with fail
  refine (tPages E _ _ _ H h _ Tg Wg hIg hH hO).mono ?_
  clear hO hH
  rintro e w5 ⟨ha4, hc4, HA4, H, rfl, hsHA4, hH, hO⟩
  go_wp2_with fail
  refine (r7Ints E _ _ _ (GA4 ++ HA4) ga4 ha4 Wg Wg gc4 hc4 ((num_sl hsGA4).more fun w hO => hO.as _) ((num_sl hsHA4).more fun w hO => hO.as _) (by have := hWgl; omega) hO).mono ?_
  clear hO hsGA4 hsHA4
  rintro e w6 ⟨rfl, hO⟩
  rw [decide_eq_true rfl]
  go_wp2_with (first | (go_at_call 26; go_must (refine (awake14 E _ _ hO).mono ?_; clear hO; rintro e w4 ⟨rfl, hO⟩)))
  go_ret
  exact ⟨rfl, hO.as _⟩
end Go.Proofs.Ytnfclieaendgeaa
