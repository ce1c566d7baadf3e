/- vestibulelaw14: TidsetMixes. -/
import Derived.Test.YtnfclieaendgeaaTidL2
import Derived.Test.YtnfclieaendgeaaTidL3
import Derived.Test.YtnfclieaendgeaaTidR6
import Derived.Test.YtnfclieaendgeaaTidR7
set_option linter.all false
namespace Go.Proofs.Ytnfclieaendgeaa
open Go Go.RowKit Go.Own Go.Td

set_option maxRecDepth 100000 in
set_option maxHeartbeats 16000000 in
theorem nTOr1 (E w : World) (X R A : Fr) (p : Option Addr) (v : Value) (hA : NoT p A) (hO : Own E w X) [hp : Pick X A R] :
    Calls Try.prog 28 #[.pointer p, v] w fun e w' => e = .returned (.tuple #[.pointer none, .int .i64 1]) ∧ w = w' := by
  have hB : Calls Try.prog 48 #[.pointer p, v] w fun e w' => e = .returned (.tuple #[.pointer none, .int .i64 1]) ∧ w = w' := by
    go_enter Try.func48, Try.ntmps48
    go_wp2_with fail
    refine (nTGiven E _ X R A p hA hO).mono ?_
    rintro e w1 ⟨rfl, rfl⟩
    go_wp2_with fail
    go_ret2
    exact ⟨rfl, rfl⟩
  go_enter Try.func28, Try.ntmps28
  go_wp2_with fail
  refine hB.mono ?_
  rintro e w1 ⟨rfl, rfl⟩
  clear hB
  go_wp2_with fail
  go_ret2
  exact ⟨rfl, rfl⟩
set_option maxRecDepth 100000 in
set_option maxHeartbeats 16000000 in
theorem nTAnd2 (E w : World) (X R A B : Fr) (b most : Nat) (T W : List Int) (p : Option Addr) (hA : NoT p A) (hB : SetAt b most T W B) (hO : Own E w X) [hp : Pick X (B ++ A) R] :
    Calls Try.prog 27 #[.pointer (some ⟨b, 0, none⟩), .pointer p] w fun e w' => e = .returned (.tuple #[.pointer none, .int .i64 1]) ∧ w = w' := by
  have hO1 : Own E w (B ++ (A ++ R)) := by have := hO.perm hp.perm; rwa [List.append_assoc] at this
  have hB : Calls Try.prog 48 #[.pointer (some ⟨b, 0, none⟩), .pointer p] w fun e w' => e = .returned (.tuple #[.pointer none, .int .i64 1]) ∧ w = w' := by
    go_enter Try.func48, Try.ntmps48
    go_wp2_with fail
    refine (tGiven E _ _ _ B b most T W hB hO1).mono ?_
    rintro e w1 ⟨rfl, rfl⟩
    go_wp2_with fail
    refine (nTGiven E _ _ _ A p hA hO1).mono ?_
    rintro e w1 ⟨rfl, rfl⟩
    go_wp2_with fail
    go_ret2
    exact ⟨rfl, rfl⟩
  go_enter Try.func27, Try.ntmps27
  go_wp2_with fail
  refine hB.mono ?_
  rintro e w1 ⟨rfl, rfl⟩
  clear hB
  go_wp2_with fail
  go_ret2
  exact ⟨rfl, rfl⟩

set_option maxRecDepth 100000 in
set_option maxHeartbeats 16000000 in
theorem lawMixes14 (E w : World) (X R I : Fr) (m0 n0 : Int) (sa sb : Option Addr) (ca cb : Nat) (L M : List Int) (hTa : NumIn E I sa L) (hTb : NumIn E I sb M) (hla : L.length ≤ 17592186044416) (hlb : M.length ≤ 17592186044416) (hba : ∀ t ∈ L, -9223372036854775808 ≤ t ∧ t ≤ 9223372036854775807) (hbb : ∀ t ∈ M, -9223372036854775808 ≤ t ∧ t ≤ 9223372036854775807) (sc : Option Addr) (cc : Nat) (K : List Int) (hTk : NumIn E I sc K) (hlk : K.length ≤ 17592186044416) (hbk : ∀ t ∈ K, -9223372036854775808 ≤ t ∧ t ≤ 9223372036854775807) (hO : Own E w X) [hp : Pick X I R] :
    Calls Try.prog 6 #[.agg #[.slice sa L.length ca, .slice sb M.length cb, .int .i64 m0, .int .i64 n0], .slice sc K.length cc] w fun e w' => e = .returned (.bool true) ∧ Own E w' (I ++ R) := by
  replace hO := hO.perm hp.perm
  clear hp
  go_enter Try.func6, Try.ntmps6
  go_wp2_with (first | (refine at_box ?_; go_must (refine own_box (v := ?_) hO ?_ ?_ ?_; rotate_left; (· rfl); (· ((conv => lhs; whnf); try exact rfl)); clear hO; (try clear hF); intro bx _ hO; (try simp only [Value.cells] at hO); ((try simp only [List.nil_append, List.append_nil] at hO); have hF := Own.cells hO; simp only [cellsOf_append, cellsOf_pt] at hF); simp only [Act.put, List.setIfInBounds_toArray, List.set_cons_zero, List.set_cons_succ])) | (refine at_load ?_; refine own_loadS (b := ?_) (cs := ?_) (e := ?_) (f := ?_) hO ?_ ?_ ?_ ?_ ?_ ?_; rotate_left 4; (· rfl); (· rfl); (· exact inferInstance); (· simp; done); (· simp []; done); simp only [Act.put, List.setIfInBounds_toArray, List.set_cons_zero, List.set_cons_succ]))
  replace hO := hO.as (I ++ (pt bx (.cells #[.slice sa L.length ca, .slice sb M.length cb, .int .i64 m0, .int .i64 n0] 46 (0, 0)) ++ R))
  clear hF
  refine (made14A E _ _ _ I m0 sa ca L hTa hla hba hO).mono ?_
  clear hO
  rintro e w2 ⟨ap, v1, v2, v3, A, F, rfl, ⟨hv1, hv2, hv3⟩, hap, hO⟩
  have HAP := Lib.hid hap
  clear hap
  have hF := Own.cells hO; simp only [cellsOf_append, cellsOf_pt] at hF
  go_wp2_with (first | (refine at_alloc ?_; go_must (refine own_alloc (z := ?_) hO ?_ ?_ ?_; rotate_left; (· rfl); (· exact zeroRS14 _); clear hO; (try clear hF); intro u8 _ hO; (try simp only [Value.cells] at hO); ((try simp only [List.nil_append, List.append_nil] at hO); have hF := Own.cells hO; simp only [cellsOf_append, cellsOf_pt] at hF); simp only [Act.put, List.setIfInBounds_toArray, List.set_cons_zero, List.set_cons_succ])) | (refine at_store ?_; refine own_storeS (b := ?_) (cs := ?_) (cs' := ?_) (e := ?_) (R := ?_) hO ?_ ?_ ?_ ?_ ?_ ?_ ?_ ?_; rotate_left 5; (· rfl); (· rfl); (· ((conv => lhs; whnf); try exact rfl)); (· exact inferInstance); (· simp []; done); (· simp [hv1, hv2, hv3]); (· simp []; done); clear hO; (try clear hF); intro _ hO; ((try simp only [List.nil_append, List.append_nil] at hO); have hF := Own.cells hO; simp only [cellsOf_append, cellsOf_pt] at hF); simp only [Act.put, List.setIfInBounds_toArray, List.set_cons_zero, List.set_cons_succ]) | (refine at_load ?_; refine own_loadS (b := ?_) (cs := ?_) (e := ?_) (f := ?_) hO ?_ ?_ ?_ ?_ ?_ ?_; rotate_left 4; (· rfl); (· rfl); (· exact inferInstance); (· simp; done); (· simp []; done); simp only [Act.put, List.setIfInBounds_toArray, List.set_cons_zero, List.set_cons_succ]))
  replace hO := hO.as (I ++ (A ++ (F ++ (pt u8 (.cells #[v1, v2, v3] 38 (0, 0)) ++ (pt bx (.cells #[.slice sa L.length ca, .slice sb M.length cb, .int .i64 m0, .int .i64 n0] 46 (0, 0)) ++ R)))))
  clear hF
  refine (made14A E _ _ _ I n0 sb cb M hTb hlb hbb hO).mono ?_
  clear hO
  rintro e w3 ⟨bp, q1, q2, q3, B, G, rfl, ⟨hq1, hq2, hq3⟩, hbp, hO⟩
  have HBP := Lib.hid hbp
  clear hbp
  have hF := Own.cells hO; simp only [cellsOf_append, cellsOf_pt] at hF
  rcases HAP.out with ⟨rfl, _⟩ | ⟨hm1, hm2, a, Ta, Wa, rfl, hAda, hA, hQa⟩
  · have hN : NoT none [] := .inl ⟨rfl, rfl⟩
    go_wp2_with (first | (refine at_alloc ?_; go_must (refine own_alloc (z := ?_) hO ?_ ?_ ?_; rotate_left; (· rfl); (· exact zeroRS14 _); clear hO; (try clear hF); intro u9 _ hO; (try simp only [Value.cells] at hO); ((try simp only [List.nil_append, List.append_nil] at hO); have hF := Own.cells hO; simp only [cellsOf_append, cellsOf_pt] at hF); simp only [Act.put, List.setIfInBounds_toArray, List.set_cons_zero, List.set_cons_succ])) | (refine at_store ?_; refine own_storeS (b := ?_) (cs := ?_) (cs' := ?_) (e := ?_) (R := ?_) hO ?_ ?_ ?_ ?_ ?_ ?_ ?_ ?_; rotate_left 5; (· rfl); (· rfl); (· ((conv => lhs; whnf); try exact rfl)); (· exact inferInstance); (· simp []; done); (· simp [hq1, hq2, hq3]); (· simp []; done); clear hO; (try clear hF); intro _ hO; ((try simp only [List.nil_append, List.append_nil] at hO); have hF := Own.cells hO; simp only [cellsOf_append, cellsOf_pt] at hF); simp only [Act.put, List.setIfInBounds_toArray, List.set_cons_zero, List.set_cons_succ]))
    refine (nTAnd E _ _ _ [] none _ hN hO).mono ?_
    rintro e w4 ⟨rfl, rfl⟩
    go_wp2_with fail
    refine (nTOr1 E _ _ _ [] none _ hN hO).mono ?_
    rintro e w4 ⟨rfl, rfl⟩
    go_wp2_with (first | (go_at_call 26; go_must (refine (awake14 E _ _ hO).mono ?_; clear hO; rintro e w4 ⟨rfl, hO⟩)))
    go_ret
    exact ⟨rfl, hO.as _⟩
  obtain ⟨m, rfl⟩ : ∃ n : Nat, m0 = n := ⟨m0.toNat, by omega⟩
  rw [show ((m : Nat) : Int).toNat = m by simp] at hAda hA hQa
  rcases HBP.out with ⟨rfl, _⟩ | ⟨hn1, hn2, b, Tb, Wb, rfl, hAdb, hB, hQb⟩
  · have hN : NoT none [] := .inl ⟨rfl, rfl⟩
    go_wp2_with (first | (refine at_alloc ?_; go_must (refine own_alloc (z := ?_) hO ?_ ?_ ?_; rotate_left; (· rfl); (· exact zeroRS14 _); clear hO; (try clear hF); intro u9 _ hO; (try simp only [Value.cells] at hO); ((try simp only [List.nil_append, List.append_nil] at hO); have hF := Own.cells hO; simp only [cellsOf_append, cellsOf_pt] at hF); simp only [Act.put, List.setIfInBounds_toArray, List.set_cons_zero, List.set_cons_succ])) | (refine at_store ?_; refine own_storeS (b := ?_) (cs := ?_) (cs' := ?_) (e := ?_) (R := ?_) hO ?_ ?_ ?_ ?_ ?_ ?_ ?_ ?_; rotate_left 5; (· rfl); (· rfl); (· ((conv => lhs; whnf); try exact rfl)); (· exact inferInstance); (· simp []; done); (· simp [hq1, hq2, hq3]); (· simp []; done); clear hO; (try clear hF); intro _ hO; ((try simp only [List.nil_append, List.append_nil] at hO); have hF := Own.cells hO; simp only [cellsOf_append, cellsOf_pt] at hF); simp only [Act.put, List.setIfInBounds_toArray, List.set_cons_zero, List.set_cons_succ]))
    refine (nTAnd2 E _ _ _ [] A a m Ta Wa none hN hA hO).mono ?_
    rintro e w4 ⟨rfl, rfl⟩
    go_wp2_with fail
    refine (nTOr E _ _ _ [] A a m Ta Wa none hN hA hO).mono ?_
    rintro e w4 ⟨rfl, rfl⟩
    go_wp2_with (first | (go_at_call 26; go_must (refine (awake14 E _ _ hO).mono ?_; clear hO; rintro e w4 ⟨rfl, hO⟩)))
    go_ret
    exact ⟨rfl, hO.as _⟩
  obtain ⟨n, rfl⟩ : ∃ n : Nat, n0 = n := ⟨n0.toNat, by omega⟩
  rw [show ((n : Nat) : Int).toNat = n by simp] at hAdb hB hQb
  obtain ⟨hIa, hTla⟩ := hAda.inv
  obtain ⟨hIb, hTlb⟩ := hAdb.inv
  have hm64 : m ≤ 64 := by omega
  have hn64 : n ≤ 64 := by omega
  have hTa64 : Ta.length ≤ 64 := by omega
  have hTb64 : Tb.length ≤ 64 := by omega
  clear HAP HBP hAda hAdb hm1 hm2 hn1 hn2
  go_wp2_with (first | (refine at_alloc ?_; go_must (refine own_alloc (z := ?_) hO ?_ ?_ ?_; rotate_left; (· rfl); (· exact zeroRS14 _); clear hO; (try clear hF); intro u9 _ hO; (try simp only [Value.cells] at hO); ((try simp only [List.nil_append, List.append_nil] at hO); have hF := Own.cells hO; simp only [cellsOf_append, cellsOf_pt] at hF); simp only [Act.put, List.setIfInBounds_toArray, List.set_cons_zero, List.set_cons_succ])) | (refine at_store ?_; refine own_storeS (b := ?_) (cs := ?_) (cs' := ?_) (e := ?_) (R := ?_) hO ?_ ?_ ?_ ?_ ?_ ?_ ?_ ?_; rotate_left 5; (· rfl); (· rfl); (· ((conv => lhs; whnf); try exact rfl)); (· exact inferInstance); (· simp []; done); (· simp [hq1, hq2, hq3]); (· simp []; done); clear hO; (try clear hF); intro _ hO; ((try simp only [List.nil_append, List.append_nil] at hO); have hF := Own.cells hO; simp only [cellsOf_append, cellsOf_pt] at hF); simp only [Act.put, List.setIfInBounds_toArray, List.set_cons_zero, List.set_cons_succ]))
  clear hF
  replace hO := hO.as (A ++ (B ++ (F ++ (G ++ (pt u8 (.cells #[v1, v2, v3] 38 (0, 0)) ++ (pt u9 (.cells #[q1, q2, q3] 38 (0, 0)) ++ (I ++ R)))))))
  (try (go_wp2_with fail))
  refine (tAnd E _ _ _ A B a b m n Ta Wa Tb Wb hIa hIb hm64 hn64 hTa64 hTb64 hA hB hO).mono ?_
  clear hO hA hB
  rintro e w4 ⟨c, A, B, C, Sc, Vc, Tc, Wc, rfl, hA, hB, hSc, hDc, hC, hO⟩
  (try (go_wp2_with fail))
  refine (tOr E _ _ _ A B a b m n Ta Wa Tb Wb hIa hIb hm64 hn64 hTa64 hTb64 hA hB hO).mono ?_
  clear hO hA hB
  rintro e w4 ⟨d, A, B, D, Sd, Vd, Td, Wd, rfl, hA, hB, hSd, hDd, hD, hO⟩
  have hIc : Go.Td.Inv Tc Wc := hSc.inv.deg hDc
  have hId : Go.Td.Inv Td Wd := hSd.inv.deg hDd
  have hTc1 := hDc.len
  have hTd1 := hDd.len
  have hTc64 : Tc.length ≤ 64 := by omega
  have hTd64 : Td.length ≤ 64 := by omega
  clear hTc1 hTd1
  have hF := Own.cells hO; simp only [cellsOf_append, cellsOf_pt] at hF
  go_wp2_with (first | (refine at_load ?_; refine own_loadS (b := ?_) (cs := ?_) (e := ?_) (f := ?_) hO ?_ ?_ ?_ ?_ ?_ ?_; rotate_left 4; (· rfl); (· rfl); (· exact inferInstance); (· simp; done); (· simp []; done); simp only [Act.put, List.setIfInBounds_toArray, List.set_cons_zero, List.set_cons_succ]))
  refine (r14And E _ _ _ F G m n Ta Wa Tb Wb _ _ hIa hIb hTa64 hTb64 hQa hQb hO).mono ?_
  clear hO hF
  rintro e w7 ⟨vc, Se, Ve, Te, We, H, rfl, hSe, hDe, hQc, hO⟩
  obtain ⟨rfl, rfl⟩ := hSc.uniq hSe
  obtain ⟨rfl, rfl⟩ := hDc.uniq hDe
  clear hSe hDe hSc hDc
  have hF := Own.cells hO; simp only [cellsOf_append, cellsOf_pt] at hF
  go_wp2_with (first | (refine at_load ?_; refine own_loadS (b := ?_) (cs := ?_) (e := ?_) (f := ?_) hO ?_ ?_ ?_ ?_ ?_ ?_; rotate_left 4; (· rfl); (· rfl); (· exact inferInstance); (· simp; done); (· simp []; done); simp only [Act.put, List.setIfInBounds_toArray, List.set_cons_zero, List.set_cons_succ]))
  refine (same14 E _ _ _ C H I c (min m n) Tc Wc _ sc cc K hIc hTc64 hC hQc hTk hlk hbk hO).mono ?_
  clear hO hC hF
  rintro e w8 ⟨C, rfl, hC, hO⟩
  have hF := Own.cells hO; simp only [cellsOf_append, cellsOf_pt] at hF
  go_wp2_with (first | (refine at_load ?_; refine own_loadS (b := ?_) (cs := ?_) (e := ?_) (f := ?_) hO ?_ ?_ ?_ ?_ ?_ ?_; rotate_left 4; (· rfl); (· rfl); (· exact inferInstance); (· simp; done); (· simp []; done); simp only [Act.put, List.setIfInBounds_toArray, List.set_cons_zero, List.set_cons_succ]))
  refine (r14Or E _ _ _ F G m n Ta Wa Tb Wb _ _ hIa hIb hTa64 hTb64 hQa hQb hO).mono ?_
  clear hO hF
  rintro e w7 ⟨vd, Se, Ve, Te, We, J, rfl, hSe, hDe, hQd, hO⟩
  obtain ⟨rfl, rfl⟩ := hSd.uniq hSe
  obtain ⟨rfl, rfl⟩ := hDd.uniq hDe
  clear hSe hDe hSd hDd
  have hF := Own.cells hO; simp only [cellsOf_append, cellsOf_pt] at hF
  go_wp2_with (first | (refine at_load ?_; refine own_loadS (b := ?_) (cs := ?_) (e := ?_) (f := ?_) hO ?_ ?_ ?_ ?_ ?_ ?_; rotate_left 4; (· rfl); (· rfl); (· exact inferInstance); (· simp; done); (· simp []; done); simp only [Act.put, List.setIfInBounds_toArray, List.set_cons_zero, List.set_cons_succ]))
  refine (same14 E _ _ _ D J I d (min m n) Td Wd _ sc cc K hId hTd64 hD hQd hTk hlk hbk hO).mono ?_
  clear hO hD hF
  rintro e w8 ⟨D, rfl, hD, hO⟩
  have hF := Own.cells hO; simp only [cellsOf_append, cellsOf_pt] at hF
  go_wp2_with (first | (refine at_load ?_; refine own_loadS (b := ?_) (cs := ?_) (e := ?_) (f := ?_) hO ?_ ?_ ?_ ?_ ?_ ?_; rotate_left 4; (· rfl); (· rfl); (· exact inferInstance); (· simp; done); (· simp []; done); simp only [Act.put, List.setIfInBounds_toArray, List.set_cons_zero, List.set_cons_succ]))
  refine (same14 E _ _ _ A F I a m Ta Wa _ sc cc K hIa hTa64 hA hQa hTk hlk hbk hO).mono ?_
  clear hO hA hF
  rintro e w8 ⟨A, rfl, hA, hO⟩
  have hF := Own.cells hO; simp only [cellsOf_append, cellsOf_pt] at hF
  go_wp2_with (first | (refine at_load ?_; refine own_loadS (b := ?_) (cs := ?_) (e := ?_) (f := ?_) hO ?_ ?_ ?_ ?_ ?_ ?_; rotate_left 4; (· rfl); (· rfl); (· exact inferInstance); (· simp; done); (· simp []; done); simp only [Act.put, List.setIfInBounds_toArray, List.set_cons_zero, List.set_cons_succ]))
  refine (same14 E _ _ _ B G I b n Tb Wb _ sc cc K hIb hTb64 hB hQb hTk hlk hbk hO).mono ?_
  clear hO hB hF
  rintro e w8 ⟨B, rfl, hB, hO⟩
  go_wp2_with (first | (go_at_call 26; go_must (refine (awake14 E _ _ hO).mono ?_; clear hO; rintro e w4 ⟨rfl, hO⟩)))
  go_ret
  exact ⟨rfl, hO.as _⟩
end Go.Proofs.Ytnfclieaendgeaa
