/- vestibulelaw14: TidsetTurns. -/
import Derived.Test.YtnfclieaendgeaaTidL2
set_option linter.all false
namespace Go.Td
theorem add_small {T T' W' : List Int} {t : Int} (hI : Inv T []) (hl : T.length + 1 ≤ 64) (hD : Deg 64 (put T [] t) [] T' W') : T' = ins t T ∧ W' = [] := by
  have h1 : put T [] t = ins t T := by unfold put; rw [if_neg (by simp)]
  have h2 := put_len hI t
  obtain ⟨h3, h4⟩ := hD.same (by omega)
  exact ⟨by rw [h3, h1], h4⟩
theorem Adds.small {l T W : List Int} (h : Adds 64 l T W) : l.length ≤ 64 → W = [] ∧ (∀ t, t ∈ T ↔ t ∈ l ∧ (0 ≤ t ∧ t < 16777216)) ∧ T.length ≤ l.length := by
  induction h with
  | nil => intro _; exact ⟨rfl, fun t => by simp, Nat.le_refl _⟩
  | @bad l T W t _ ht ih =>
    intro hl
    rw [List.length_append] at hl
    obtain ⟨h1, h2, h3⟩ := ih (by omega)
    refine ⟨h1, fun u => ?_, by rw [List.length_append]; omega⟩
    rw [h2, List.mem_append, List.mem_singleton]
    constructor
    · rintro ⟨h4, h5⟩
      exact ⟨.inl h4, h5⟩
    · rintro ⟨h4 | rfl, h5⟩
      · exact ⟨h4, h5⟩
      · exact absurd h5 ht
  | @good l T W T' W' t hA ht hD ih =>
    intro hl
    rw [List.length_append, List.length_singleton] at hl
    obtain ⟨rfl, h2, h3⟩ := ih (by omega)
    obtain ⟨rfl, rfl⟩ := add_small hA.inv.1 (by omega) hD
    refine ⟨rfl, fun u => ?_, ?_⟩
    · rw [mem_ins, h2, List.mem_append, List.mem_singleton]
      constructor
      · rintro (rfl | ⟨h4, h5⟩)
        · exact ⟨.inr rfl, ht⟩
        · exact ⟨.inl h4, h5⟩
      · rintro ⟨h4 | rfl, h5⟩
        · exact .inr ⟨h4, h5⟩
        · exact .inl rfl
    · have := put_len hA.inv.1 t
      have h1 : put T [] t = ins t T := by unfold put; rw [if_neg (by simp)]
      rw [h1] at this
      rw [List.length_append, List.length_singleton]
      omega
theorem or_one {T T2 U : List Int} {t : Int} (hT : Up T) (h : OrS [t] [] T [] T2 U) : T2 = ins t T ∧ U = [] := by
  have hU : U = [] := List.eq_nil_iff_forall_not_mem.2 fun p hp => by have := (h.w p).1 hp; simp at this
  subst hU
  refine ⟨up_ext h.inv.t (up_ins hT) fun x => ?_, rfl⟩
  rw [h.t, mem_ins]
  simp
theorem or_none {T T2 U : List Int} (hT : Up T) (h : OrS [] [] T [] T2 U) : T2 = T ∧ U = [] := by
  have hU : U = [] := List.eq_nil_iff_forall_not_mem.2 fun p hp => by have := (h.w p).1 hp; simp at this
  subst hU
  refine ⟨up_ext h.inv.t hT fun x => ?_, rfl⟩
  rw [h.t]
  simp
theorem and_self' {T T2 U : List Int} (hI : Inv T []) (h : AndS T [] T [] T2 U) : T2 = T ∧ U = [] := by
  have hU : U = [] := List.eq_nil_iff_forall_not_mem.2 fun p hp => by have := (h.w p).1 hp; simp at this
  subst hU
  refine ⟨up_ext h.inv.t hI.t fun x => ?_, rfl⟩
  rw [h.t]
  constructor
  · rintro (⟨h1, _⟩ | ⟨h1, _⟩) <;> exact h1
  · exact fun h1 => .inl ⟨h1, hI.tb x h1, .inr h1⟩
theorem inv_one {t : Int} (ht : 0 ≤ t ∧ t < 16777216) : Inv [t] [] := (inv_nil.put ht : Inv (put [] [] t) [])
end Go.Td
namespace Go.Proofs.Ytnfclieaendgeaa
open Go Go.RowKit Go.Own Go.Td

set_option maxRecDepth 100000 in
set_option maxHeartbeats 16000000 in
theorem lawTurns14 (E w : World) (X R I : Fr) (sa : Option Addr) (cap : Nat) (L : List Int) (hT0 : NumIn E I sa L) (hl : L.length ≤ 17592186044416) (hb : ∀ t ∈ L, -9223372036854775808 ≤ t ∧ t ≤ 9223372036854775807) (hO : Own E w X) [hp : Pick X I R] :
    Calls Try.prog 10 #[.slice sa L.length cap] w fun e w' => e = .returned (.bool true) ∧ Own E w' (I ++ R) := by
  replace hO := hO.perm hp.perm
  clear hp
  have hl1 : (L.length : Int) ≤ 17592186044416 := by omega
  by_cases h64 : L.length ≤ 64
  rotate_left
  · have h64i : ¬ (L.length : Int) ≤ 64 := by omega
    go_enter Try.func10, Try.ntmps10
    go_wp2_with (first | (go_at_call 26; go_must (refine (awake14 E _ _ hO).mono ?_; clear hO; rintro e w4 ⟨rfl, hO⟩)))
    go_ret
    exact ⟨rfl, hO⟩
  have h64i : (L.length : Int) ≤ 64 := by omega
  go_enter Try.func10, Try.ntmps10
  go_wp2_with fail
  refine (made14 E _ _ _ I 64 sa cap L hT0 hl hb hO).mono ?_
  clear hO
  rintro e w1 (⟨_, _, a, v, Ta, Wa, A, Q, rfl, hAd, hA, ⟨qa, qb, qc, qd, FQ, FW, rfl, hq1, hq2, rfl⟩, hO⟩ | ⟨hno, _⟩)
  rotate_left
  · exact absurd ⟨by decide, by decide⟩ hno
  have hAd64 : Adds 64 L Ta Wa := hAd
  have hA64 : SetAt a 64 Ta Wa A := hA
  clear hAd hA
  obtain ⟨rfl, hTm, hTl⟩ := hAd64.small h64
  have hIa := hAd64.inv.1
  have HTM := Lib.hid hTm
  clear hTm hAd64
  go_wp2_with (first | (refine at_alloc ?_; go_must (refine own_alloc (z := ?_) hO ?_ ?_ ?_; rotate_left; (· rfl); (· exact zeroRS14 _); clear hO; (try clear hF); intro u4 _ hO; (try simp only [Value.cells] at hO); ((try simp only [List.nil_append, List.append_nil] at hO); have hF := Own.cells hO; simp only [cellsOf_append, cellsOf_pt] at hF); simp only [Act.put, List.setIfInBounds_toArray, List.set_cons_zero, List.set_cons_succ])) | (refine at_store ?_; refine own_storeS (b := ?_) (cs := ?_) (cs' := ?_) (e := ?_) (R := ?_) hO ?_ ?_ ?_ ?_ ?_ ?_ ?_ ?_; rotate_left 5; (· rfl); (· rfl); (· ((conv => lhs; whnf); try exact rfl)); (· exact inferInstance); (· simp []; done); (· simp [Value.oneCell']); (· simp []; done); clear hO; (try clear hF); intro _ hO; ((try simp only [List.nil_append, List.append_nil] at hO); have hF := Own.cells hO; simp only [cellsOf_append, cellsOf_pt] at hF); simp only [Act.put, List.setIfInBounds_toArray, List.set_cons_zero, List.set_cons_succ]))
  replace hO := hO.as (A ++ (I ++ R))
  clear hF hq1 hq2
  refine (tNew E _ _ 64 hO).mono ?_
  clear hO
  rintro e w1 (⟨_, _, b, B, rfl, hB, hO⟩ | ⟨hno, _⟩)
  rotate_left
  · exact absurd ⟨by decide, by decide⟩ hno
  have hB64 : SetAt b 64 [] [] B := hB
  clear hB
  go_wp2_with fail
  refine (tNew E _ _ 64 hO).mono ?_
  clear hO
  rintro e w1 (⟨_, _, c, C, rfl, hC, hO⟩ | ⟨hno, _⟩)
  rotate_left
  · exact absurd ⟨by decide, by decide⟩ hno
  have hC64 : SetAt c 64 [] [] C := hC
  clear hC
  replace hO := hO.as (A ++ (B ++ (C ++ (I ++ R))))
  have hO1 := hO
  clear hO
  go_wp2_with fail
  go_loopw [8, 10] (fun s8 s10 wr => ∃ (z : Int) (k c : Nat) (T1 : List Int) (B C : Fr), s10 = .int .i64 z ∧ s8 = .pointer (some ⟨c, 0, none⟩) ∧ z + 1 = k ∧ k ≤ L.length ∧ T1.length + k ≤ L.length ∧ Inv T1 [] ∧ (∀ t, t ∈ T1 ↔ t ∈ L.drop k ∧ (0 ≤ t ∧ t < 16777216)) ∧ SetAt b 64 T1 [] B ∧ SetAt c 64 T1 [] C ∧
    Own E wr (A ++ (B ++ (C ++ (I ++ R))))) (fun _ s10 _ => (intOf s10 + 1).toNat)
  case atStart => exact ⟨_, L.length, c, [], B, C, rfl, rfl, by omega, Nat.le_refl _, by simp, inv_nil, fun t => by simp, hB64, hC64, hO1⟩
  case round =>
    clear hO1 hB64 hC64
    obtain ⟨z, k, c, T1, B, C, rfl, rfl, hz, hk, hTk, hI, hm, hB, hC, hO⟩ := hrel
    have HM := Lib.hid hm
    clear hm
    by_cases h0 : 0 ≤ z
    · obtain ⟨j, rfl⟩ : ∃ j : Nat, z = j := ⟨z.toNat, by omega⟩
      have hkj : k = j + 1 := by omega
      subst hkj
      have hjl : j < L.length := by omega
      have hj1 : (j : Int) < L.length := by omega
      have hwr : IntKind.i64.wrap ((j : Int) - 1) = (j : Int) - 1 := by
        simp only [IntKind.wrap, show IntKind.bits .i64 = 64 from rfl, show IntKind.signed .i64 = true from rfl]
        simp
        omega
      obtain ⟨ad, rfl, hca⟩ := hT0.ex (hO.as I) j hjl
      have HSN := Lib.hid (List.drop_eq_getElem_cons hjl : L.drop j = L[j] :: L.drop (j + 1))
      have hbt := hb L[j] (List.getElem_mem _)
      generalize L[j] = t at hca HSN hbt
      have hcw := hca _ (hO.as I)
      have HTK := Lib.hid hTk
      have HJL := Lib.hid hjl
      clear hwr hjl
      by_cases ht : 0 ≤ t ∧ t < 16777216
      · have HT := Lib.hid ht
        go_wp2_with fail
        refine (tAdd E _ _ _ B b 64 T1 [] t hI (by have := HTK.out; omega) hB hO).mono ?_
        clear hO hB hcw
        rintro e w2 (⟨_, rfl, T2, W2, B, hD, hB, hO⟩ | ⟨h, _⟩)
        rotate_left
        · exact absurd HT.out h
        obtain ⟨rfl, rfl⟩ := add_small hI (by have := HTK.out; omega) hD
        clear hD
        have hcw := hca _ (hO.as I)
        go_wp2_with fail
        refine (tNew E _ _ 64 hO).mono ?_
        clear hO hcw
        rintro e w3 (⟨_, _, o, O, rfl, hN, hO⟩ | ⟨hno, _⟩)
        rotate_left
        · exact absurd ⟨by decide, by decide⟩ hno
        have hN64 : SetAt o 64 [] [] O := hN
        clear hN
        have hcw := hca _ (hO.as I)
        go_wp2_with fail
        refine (tAdd E _ _ _ O o 64 [] [] t inv_nil (by simp) hN64 hO).mono ?_
        clear hO hN64 hcw
        rintro e w4 (⟨_, rfl, T3, W3, O, hD, hN, hO⟩ | ⟨h, _⟩)
        rotate_left
        · exact absurd HT.out h
        obtain ⟨rfl, rfl⟩ := add_small inv_nil (by simp) hD
        clear hD
        have hin : ins t [] = [t] := rfl
        rw [hin] at hN
        clear hin
        go_wp2_with fail
        refine (tOr E _ _ _ O C o c 64 64 [t] [] T1 [] (inv_one HT.out) hI (by decide) (by decide) (by simp) (by have := HTK.out; omega) hN hC hO).mono ?_
        clear hO hN hC
        rintro e w5 ⟨c2, O2, C2, D, T4, U4, T5, W5, rfl, hO2, hC2, hS, hD, hDs, hO⟩
        obtain ⟨rfl, rfl⟩ := or_one hI.t hS
        have hil : (ins t T1).length ≤ T1.length + 1 := by
          have := put_len hI t
          have h1 : Td.put T1 [] t = ins t T1 := by unfold Td.put; rw [if_neg (by simp)]
          rwa [h1] at this
        obtain ⟨rfl, rfl⟩ := hD.same (by have := HTK.out; omega)
        have hI2 := hS.inv
        clear hD hS hO2 hC2
        go_wp2_with fail
        go_roundw
        case rel =>
          refine ⟨(j : Int) - 1, j, c2, ins t T1, B, D, by go_num, rfl, by omega, by have := HJL.out; omega, by have := HTK.out; omega, hI2, fun u => ?_, hB, hDs, hO.as _⟩
          rw [mem_ins, HM.out, HSN.out, List.mem_cons]
          constructor
          · rintro (rfl | ⟨h1, h2⟩)
            · exact ⟨.inl rfl, HT.out⟩
            · exact ⟨.inr h1, h2⟩
          · rintro ⟨rfl | h1, h2⟩
            · exact .inl rfl
            · exact .inr ⟨h1, h2⟩
        case measure => simp [intOf] <;> omega
      · have HT := Lib.hid ht
        go_wp2_with fail
        refine (tAdd E _ _ _ B b 64 T1 [] t hI (by have := HTK.out; omega) hB hO).mono ?_
        clear hO hB hcw
        rintro e w2 (⟨h, _⟩ | ⟨_, rfl, B, hB, hO⟩)
        · exact absurd h HT.out
        have hcw := hca _ (hO.as I)
        go_wp2_with fail
        refine (tNew E _ _ 64 hO).mono ?_
        clear hO hcw
        rintro e w3 (⟨_, _, o, O, rfl, hN, hO⟩ | ⟨hno, _⟩)
        rotate_left
        · exact absurd ⟨by decide, by decide⟩ hno
        have hN64 : SetAt o 64 [] [] O := hN
        clear hN
        have hcw := hca _ (hO.as I)
        go_wp2_with fail
        refine (tAdd E _ _ _ O o 64 [] [] t inv_nil (by simp) hN64 hO).mono ?_
        clear hO hN64 hcw
        rintro e w4 (⟨h, _⟩ | ⟨_, rfl, O, hN, hO⟩)
        · exact absurd h HT.out
        go_wp2_with fail
        refine (tOr E _ _ _ O C o c 64 64 [] [] T1 [] inv_nil hI (by decide) (by decide) (by simp) (by have := HTK.out; omega) hN hC hO).mono ?_
        clear hO hN hC
        rintro e w5 ⟨c2, O2, C2, D, T4, U4, T5, W5, rfl, hO2, hC2, hS, hD, hDs, hO⟩
        obtain ⟨rfl, rfl⟩ := or_none hI.t hS
        obtain ⟨rfl, rfl⟩ := hD.same (by have := HTK.out; omega)
        clear hD hS hO2 hC2
        go_wp2_with fail
        go_roundw
        case rel =>
          refine ⟨(j : Int) - 1, j, c2, _, B, D, by go_num, rfl, by omega, by have := HJL.out; omega, by have := HTK.out; omega, hI, fun u => ?_, hB, hDs, hO.as _⟩
          rw [HM.out, HSN.out, List.mem_cons]
          constructor
          · rintro ⟨h1, h2⟩
            exact ⟨.inr h1, h2⟩
          · rintro ⟨rfl | h1, h2⟩
            · exact absurd h2 HT.out
            · exact ⟨h1, h2⟩
        case measure => simp [intOf] <;> omega
    · have hk0 : k = 0 := by omega
      subst hk0
      obtain rfl : Ta = T1 := up_ext hIa.t hI.t fun t => by rw [HTM.out, HM.out]; simp
      have hTl2 : Ta.length ≤ 64 := by omega
      have hTli : (Ta.length : Int) ≤ 64 := by omega
      clear hz
      go_wp2_with fail
      refine (tAnd E _ _ _ A B a b 64 64 Ta [] Ta [] hIa hI (by decide) (by decide) hTl2 hTl2 hA64 hB hO).mono ?_
      clear hO hA64 hB
      rintro e w2 ⟨d, A, B, D, T4, U4, T5, W5, rfl, hA, hB, hS, hD, hDs, hO⟩
      obtain ⟨rfl, rfl⟩ := and_self' hIa hS
      obtain ⟨rfl, rfl⟩ := hD.same hTl2
      clear hD hS
      have hDs64 : SetAt d 64 _ [] D := hDs
      clear hDs
      go_wp2_with fail
      refine (tPages E _ _ _ A a 64 _ [] hIa hA hO).mono ?_
      clear hO hA
      rintro e w3 ⟨p1, p2, P, A, rfl, hP, hA, hO⟩
      go_wp2_with fail
      refine (tTids E _ _ _ A a 64 _ [] hIa (by omega) hA hO).mono ?_
      clear hO hA
      rintro e v1 ⟨ta1, tc1, S1, A, rfl, hS1, hA, hO⟩
      go_wp2_with fail
      refine (tTids E _ _ _ B b 64 _ [] hIa (by omega) hB hO).mono ?_
      clear hO hB
      rintro e u1 ⟨tb1, td1, V1, B, rfl, hV1, hB, hO⟩
      go_wp2_with fail
      refine (r7Ints E _ _ _ (S1 ++ V1) ta1 tb1 _ _ tc1 td1 ((num_sl hS1).more fun w hO => hO.as _) ((num_sl hV1).more fun w hO => hO.as _) (by omega) hO).mono ?_
      clear hO
      rintro e x1 ⟨rfl, hO⟩
      rw [decide_eq_true rfl]
      go_wp2_with fail
      refine (tTids E _ _ _ A a 64 _ [] hIa (by omega) hA hO).mono ?_
      clear hO hA
      rintro e v2 ⟨ta2, tc2, S2, A, rfl, hS2, hA, hO⟩
      go_wp2_with fail
      refine (tTids E _ _ _ C c 64 _ [] hIa (by omega) hC hO).mono ?_
      clear hO hC
      rintro e u2 ⟨tb2, td2, V2, C, rfl, hV2, hC, hO⟩
      go_wp2_with fail
      refine (r7Ints E _ _ _ (S2 ++ V2) ta2 tb2 _ _ tc2 td2 ((num_sl hS2).more fun w hO => hO.as _) ((num_sl hV2).more fun w hO => hO.as _) (by omega) hO).mono ?_
      clear hO
      rintro e x2 ⟨rfl, hO⟩
      rw [decide_eq_true rfl]
      go_wp2_with fail
      refine (tTids E _ _ _ A a 64 _ [] hIa (by omega) hA hO).mono ?_
      clear hO hA
      rintro e v3 ⟨ta3, tc3, S3, A, rfl, hS3, hA, hO⟩
      go_wp2_with fail
      refine (tTids E _ _ _ D d 64 _ [] hIa (by omega) hDs64 hO).mono ?_
      clear hO hDs64
      rintro e u3 ⟨tb3, td3, V3, D, rfl, hV3, hDs64, hO⟩
      go_wp2_with fail
      refine (r7Ints E _ _ _ (S3 ++ V3) ta3 tb3 _ _ tc3 td3 ((num_sl hS3).more fun w hO => hO.as _) ((num_sl hV3).more fun w hO => hO.as _) (by omega) hO).mono ?_
      clear hO
      rintro e x3 ⟨rfl, hO⟩
      rw [decide_eq_true rfl]
      go_wp2_with (first | (go_at_call 26; go_must (refine (awake14 E _ _ hO).mono ?_; clear hO; rintro e w4 ⟨rfl, hO⟩)))
      go_ret
      exact ⟨rfl, hO.as _⟩
end Go.Proofs.Ytnfclieaendgeaa
