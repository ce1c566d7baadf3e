/- Sets of addresses: Or. -/
import Derived.Test.YtnfclieaendgeaaTid8
set_option linter.all false
namespace Go.Proofs.Ytnfclieaendgeaa
open Go Go.RowKit Go.Own Go.Td

theorem mset_ws (ds : List Int) (q : Int) : mset (wsM ds) q (.bool true) = wsM ds := by
  unfold mset wsM
  rw [List.map_map]
  refine List.map_congr_left fun p _ => ?_
  show (if (p == q) = true then (q, Value.bool true) else (p, Value.bool true)) = (p, Value.bool true)
  split
  · next h => rw [eq_of_beq h]
  · rfl
theorem sltSets : SlT Try.prog 57 34 1 8 (.pointer none) := ⟨by kernel_rfl, by kernel_rfl, rfl⟩
def OrP (E : World) (R : Fr) (a b ma mb : Nat) (Ta Wa Tb Wb : List Int) (e : Ending) (w' : World) : Prop :=
  ∃ c A' B' C T W T' W', e = .returned (.tuple #[.pointer (some ⟨c, 0, none⟩), .int .i64 0]) ∧ SetAt a ma Ta Wa A' ∧ SetAt b mb Tb Wb B' ∧ OrS Ta Wa Tb Wb T W ∧ Deg (min ma mb) T W T' W' ∧ SetAt c (min ma mb) T' W' C ∧ Own E w' (C ++ (A' ++ (B' ++ R)))

set_option maxRecDepth 100000 in
set_option maxHeartbeats 16000000 in
theorem tOr (E w : World) (X R A B : Fr) (a b ma mb : Nat) (Ta Wa Tb Wb : List Int) (hIa : Inv Ta Wa) (hIb : Inv Tb Wb) (hma : ma ≤ 64) (hmb : mb ≤ 64) (hla : Ta.length ≤ 64) (hlb : Tb.length ≤ 64) (hA : SetAt a ma Ta Wa A) (hB : SetAt b mb Tb Wb B) (hO : Own E w X) [hp : Pick X (A ++ B) R] :
    Calls Try.prog 28 #[.pointer (some ⟨a, 0, none⟩), .pointer (some ⟨b, 0, none⟩)] w (OrP E R a b ma mb Ta Wa Tb Wb) := by
  replace hO : Own E w (A ++ (B ++ R)) := by have := hO.perm hp.perm; rwa [List.append_assoc] at this
  clear hp
  generalize hpost : OrP E R a b ma mb Ta Wa Tb Wb = POST
  have HPOST := Lib.hid hpost
  clear hpost
  go_enter Try.func28, Try.ntmps28
  go_wp2_with fail
  refine (tBoth E _ _ R A B a b ma mb Ta Wa Tb Wb hma hmb hA hB hO).mono ?_
  clear hO
  rintro e w1 ⟨c, C, rfl, hC, hO⟩
  generalize hm : min ma mb = m at hC HPOST
  have hm64 : m ≤ 64 := by omega
  obtain ⟨me, mw, xs, ws, ME, MW, hE, hMW, hok, hT, hP, rfl⟩ := hA
  obtain ⟨eb, wb, xb, vs, EB, WB, hEb, hWB, hokb, hTb, hPb, rfl⟩ := hB
  obtain ⟨mc, nc, MC, NC, hC1, hC2, rfl⟩ := set_nil hC
  unfold setF at hO
  have hF := Own.cells hO; simp only [cellsOf_append, cellsOf_pt] at hF
  go_wp2_with (first | (refine at_bs ?_; go_must (refine own_buildN (cells := ?_) sltSets hO ?_ ?_ ?_ ?_ ?_ ?_; rotate_left; (· rfl); (· decide); (· decide); (· rfl); (· simp [Instr.fill, Act.eval, Value.cells, Array.replicate_succ]; exact rfl); clear hO; (try clear hF); intro zb _ hO; ((try simp only [List.nil_append, List.append_nil] at hO); have hF := Own.cells hO; simp only [cellsOf_append, cellsOf_pt] at hF); simp only [Act.put, List.setIfInBounds_toArray, List.set_cons_zero, List.set_cons_succ])))
  replace hO := hO.as (pt zb (.cells #[.pointer (some ⟨a, 0, none⟩), .pointer (some ⟨b, 0, none⟩)] 34 (0, 0)) ++ (pt c (.cells #[.bool true, .int .i64 m, .int .i64 0, .map (some mc), .map (some nc)] 56 (0, 0)) ++ (MC ++ (NC ++ (pt a (.cells #[.bool true, .int .i64 ma, .int .i64 Ta.length, .map (some me), .map (some mw)] 56 (0, 0)) ++ (ME ++ (MW ++ (pgsF xs ++ (pt b (.cells #[.bool true, .int .i64 mb, .int .i64 Tb.length, .map (some eb), .map (some wb)] 56 (0, 0)) ++ (EB ++ (WB ++ (pgsF xb ++ (R)))))))))))))
  have hO1 := hO
  clear hO hF hC
  go_loopw [28] (fun s28 wr => ∃ (k : Nat) (cs : List Int) (NC MW WB : Fr), s28 = .int .i64 k ∧ k ≤ 2 ∧ MapAt nc (wsM cs) NC ∧ (∀ p, p ∈ cs ↔ (1 ≤ k ∧ p ∈ Wa) ∨ (2 ≤ k ∧ p ∈ Wb)) ∧ MapAt mw (wsM ws) MW ∧ MapAt wb (wsM vs) WB ∧ Own E wr (pt zb (.cells #[.pointer (some ⟨a, 0, none⟩), .pointer (some ⟨b, 0, none⟩)] 34 (0, 0)) ++ (pt c (.cells #[.bool true, .int .i64 m, .int .i64 0, .map (some mc), .map (some nc)] 56 (0, 0)) ++ (MC ++ (NC ++ (pt a (.cells #[.bool true, .int .i64 ma, .int .i64 Ta.length, .map (some me), .map (some mw)] 56 (0, 0)) ++ (ME ++ (MW ++ (pgsF xs ++ (pt b (.cells #[.bool true, .int .i64 mb, .int .i64 Tb.length, .map (some eb), .map (some wb)] 56 (0, 0)) ++ (EB ++ (WB ++ (pgsF xb ++ (R)))))))))))))) (fun s28 _ => 2 - (intOf s28).toNat)
  case atStart => exact ⟨0, [], NC, MW, WB, rfl, by omega, hC2, fun p => by simp, hMW, hWB, hO1⟩
  case round =>
    clear hO1 hC2 hMW hWB
    obtain ⟨k, cs, NC, MW, WB, rfl, hk, hC2, hcs, hMW, hWB, hO⟩ := hrel
    have HCS := Lib.hid hcs
    clear hcs
    ((try simp only [List.nil_append, List.append_nil] at hO); have hF := Own.cells hO; simp only [cellsOf_append, cellsOf_pt] at hF)
    match k, hk with
    | 0, _ =>
        go_wp2_with (first | (refine at_rng ?_; go_must (refine own_range (kt := 3) (et := 4) (b := mw) (l := wsM ws) (by kernel_rfl) hO hMW ?_ ?_ ?_; (· rfl); (· rfl); clear hO; (try clear hF); intro r _ D hR hO; ((try simp only [List.nil_append, List.append_nil] at hO); have hF := Own.cells hO; simp only [cellsOf_append, cellsOf_pt] at hF); simp only [Act.put, List.setIfInBounds_toArray, List.set_cons_zero, List.set_cons_succ])))
        replace hO := hO.as (pt zb (.cells #[.pointer (some ⟨a, 0, none⟩), .pointer (some ⟨b, 0, none⟩)] 34 (0, 0)) ++ (pt c (.cells #[.bool true, .int .i64 m, .int .i64 0, .map (some mc), .map (some nc)] 56 (0, 0)) ++ (MC ++ (NC ++ (pt a (.cells #[.bool true, .int .i64 ma, .int .i64 Ta.length, .map (some me), .map (some mw)] 56 (0, 0)) ++ (ME ++ (D ++ (pgsF xs ++ (pt b (.cells #[.bool true, .int .i64 mb, .int .i64 Tb.length, .map (some eb), .map (some wb)] 56 (0, 0)) ++ (EB ++ (WB ++ (pgsF xb ++ (R)))))))))))))
        have hO2 := hO
        have hC3 := hC2
        clear hO hF hMW hC2
        go_loopw [10] (fun _ wr => ∃ (done ds : List Int) (D NC : Fr), Ranging r mw (wsM ws) done D ∧ MapAt nc (wsM ds) NC ∧ (∀ p, p ∈ ds ↔ p ∈ cs ∨ p ∈ done) ∧ Own E wr (pt zb (.cells #[.pointer (some ⟨a, 0, none⟩), .pointer (some ⟨b, 0, none⟩)] 34 (0, 0)) ++ (pt c (.cells #[.bool true, .int .i64 m, .int .i64 0, .map (some mc), .map (some nc)] 56 (0, 0)) ++ (MC ++ (NC ++ (pt a (.cells #[.bool true, .int .i64 ma, .int .i64 Ta.length, .map (some me), .map (some mw)] 56 (0, 0)) ++ (ME ++ (D ++ (pgsF xs ++ (pt b (.cells #[.bool true, .int .i64 mb, .int .i64 Tb.length, .map (some eb), .map (some wb)] 56 (0, 0)) ++ (EB ++ (WB ++ (pgsF xb ++ (R)))))))))))))) (fun _ w => ws.length - seenN w r)
        case atStart => exact ⟨[], cs, D, NC, hR, hC3, fun p => by simp, hO2⟩
        case round =>
          clear hO2 hR hC3
          obtain ⟨done, ds, D, NC, hR, hC2, hds, hO⟩ := hrel
          have HDS := Lib.hid hds
          clear hds
          have HSEEN := Lib.hid (hR.seen hO)
          ((try simp only [List.nil_append, List.append_nil] at hO); have hF := Own.cells hO; simp only [cellsOf_append, cellsOf_pt] at hF)
          go_wp2_with (refine at_nxt ?_; go_must (refine own_nextV (r := r) (b := mw) (l := wsM ws) (done := done) hO hR ?_ ?_ ?_ ?_; (· rfl); (· rfl)))
          rotate_left
          · intro k v w2 A2 hkv hR2 hO hen
            simp only [Act.put, List.setIfInBounds_toArray, List.set_cons_zero, List.set_cons_succ]
            obtain ⟨q, hq, hgkv⟩ := List.mem_map.1 hkv
            obtain ⟨rfl, rfl⟩ := Prod.mk.inj hgkv
            have HLE := Lib.hid hR2.le
            replace hO := hO.as (pt zb (.cells #[.pointer (some ⟨a, 0, none⟩), .pointer (some ⟨b, 0, none⟩)] 34 (0, 0)) ++ (pt c (.cells #[.bool true, .int .i64 m, .int .i64 0, .map (some mc), .map (some nc)] 56 (0, 0)) ++ (MC ++ (NC ++ (pt a (.cells #[.bool true, .int .i64 ma, .int .i64 Ta.length, .map (some me), .map (some mw)] 56 (0, 0)) ++ (ME ++ (A2 ++ (pgsF xs ++ (pt b (.cells #[.bool true, .int .i64 mb, .int .i64 Tb.length, .map (some eb), .map (some wb)] 56 (0, 0)) ++ (EB ++ (WB ++ (pgsF xb ++ (R)))))))))))))
            clear hF hgkv hkv
            ((try simp only [List.nil_append, List.append_nil] at hO); have hF := Own.cells hO; simp only [cellsOf_append, cellsOf_pt] at hF)
            by_cases hv : q ∈ ds
            · have hln := look_ws_some hv
              have hms := mset_ws ds q
              go_wp2_with (first
                | (refine at_mapup ?_; go_must (refine own_mapSet (kt := 3) (et := 4) (b := nc) (k := q) (v := .bool true) (by kernel_rfl) (by kernel_rfl) hO hC2 ?_ ?_ ?_ ?_ hln ?_; (· rfl); (· rfl); (· rfl); (· rfl); clear hO; (try clear hF); intro w5 NC2 hN2 hO; ((try simp only [List.nil_append, List.append_nil] at hO); have hF := Own.cells hO; simp only [cellsOf_append, cellsOf_pt] at hF); simp only [Act.put, List.setIfInBounds_toArray, List.set_cons_zero, List.set_cons_succ])))
              rw [hms] at hN2
              have hseen2 := hR2.seen hO
              go_roundw
              case rel =>
                refine ⟨done ++ [q], ds, A2, NC2, hR2, hN2, fun p => ?_, hO.as _⟩
                rw [HDS.out, List.mem_append, List.mem_singleton]
                constructor
                · rintro (h | h)
                  · exact .inl h
                  · exact .inr (.inl h)
                · rintro (h | h | rfl)
                  · exact .inl h
                  · exact .inr h
                  · exact (HDS.out p).1 hv
              case measure =>
                rw [hseen2, HSEEN.out]
                have := HLE.out
                rw [wsM_len] at this
                simp only [List.length_append, List.length_cons, List.length_nil] at this ⊢
                omega
            · have hln := look_ws_none hv
              go_wp2_with (first
                | (refine at_mapup ?_; go_must (refine own_mapNew (kt := 3) (et := 4) (b := nc) (k := q) (v := .bool true) (by kernel_rfl) (by kernel_rfl) hO hC2 ?_ ?_ ?_ ?_ hln ?_; (· rfl); (· rfl); (· rfl); (· rfl); clear hO; (try clear hF); intro w5 NC2 hN2 hO; ((try simp only [List.nil_append, List.append_nil] at hO); have hF := Own.cells hO; simp only [cellsOf_append, cellsOf_pt] at hF); simp only [Act.put, List.setIfInBounds_toArray, List.set_cons_zero, List.set_cons_succ])))
              have hseen2 := hR2.seen hO
              go_roundw
              case rel =>
                refine ⟨done ++ [q], ds ++ [q], A2, NC2, hR2, by rw [wsM_snoc]; exact hN2, fun p => ?_, hO.as _⟩
                rw [List.mem_append, HDS.out, List.mem_append, List.mem_singleton, or_assoc]
              case measure =>
                rw [hseen2, HSEEN.out]
                have := HLE.out
                rw [wsM_len] at this
                simp only [List.length_append, List.length_cons, List.length_nil] at this ⊢
                omega
          · intro hperm
            simp only [Act.put, List.setIfInBounds_toArray, List.set_cons_zero, List.set_cons_succ]
            rw [wsM_keys] at hperm
            have hdm : ∀ p, p ∈ ds ↔ p ∈ cs ∨ p ∈ Wa := fun p => by rw [HDS.out, hperm.mem_iff, hP.mem_iff]
            have HDM := Lib.hid hdm
            clear hdm hperm
            obtain ⟨I, M2, hM2, rfl⟩ := hR.back
            go_wp2_with fail
            go_roundw
            case rel =>
              refine ⟨1, ds, NC, M2, WB, by go_num, by omega, hC2, fun p => ?_, hM2, hWB, hO.as _⟩
              rw [HDM.out, HCS.out]
              simp
            case measure => simp [intOf]
    | 1, _ =>
        go_wp2_with (first | (refine at_rng ?_; go_must (refine own_range (kt := 3) (et := 4) (b := wb) (l := wsM vs) (by kernel_rfl) hO hWB ?_ ?_ ?_; (· rfl); (· rfl); clear hO; (try clear hF); intro r _ D hR hO; ((try simp only [List.nil_append, List.append_nil] at hO); have hF := Own.cells hO; simp only [cellsOf_append, cellsOf_pt] at hF); simp only [Act.put, List.setIfInBounds_toArray, List.set_cons_zero, List.set_cons_succ])))
        replace hO := hO.as (pt zb (.cells #[.pointer (some ⟨a, 0, none⟩), .pointer (some ⟨b, 0, none⟩)] 34 (0, 0)) ++ (pt c (.cells #[.bool true, .int .i64 m, .int .i64 0, .map (some mc), .map (some nc)] 56 (0, 0)) ++ (MC ++ (NC ++ (pt a (.cells #[.bool true, .int .i64 ma, .int .i64 Ta.length, .map (some me), .map (some mw)] 56 (0, 0)) ++ (ME ++ (MW ++ (pgsF xs ++ (pt b (.cells #[.bool true, .int .i64 mb, .int .i64 Tb.length, .map (some eb), .map (some wb)] 56 (0, 0)) ++ (EB ++ (D ++ (pgsF xb ++ (R)))))))))))))
        have hO2 := hO
        have hC3 := hC2
        clear hO hF hWB hC2
        go_loopw [10] (fun _ wr => ∃ (done ds : List Int) (D NC : Fr), Ranging r wb (wsM vs) done D ∧ MapAt nc (wsM ds) NC ∧ (∀ p, p ∈ ds ↔ p ∈ cs ∨ p ∈ done) ∧ Own E wr (pt zb (.cells #[.pointer (some ⟨a, 0, none⟩), .pointer (some ⟨b, 0, none⟩)] 34 (0, 0)) ++ (pt c (.cells #[.bool true, .int .i64 m, .int .i64 0, .map (some mc), .map (some nc)] 56 (0, 0)) ++ (MC ++ (NC ++ (pt a (.cells #[.bool true, .int .i64 ma, .int .i64 Ta.length, .map (some me), .map (some mw)] 56 (0, 0)) ++ (ME ++ (MW ++ (pgsF xs ++ (pt b (.cells #[.bool true, .int .i64 mb, .int .i64 Tb.length, .map (some eb), .map (some wb)] 56 (0, 0)) ++ (EB ++ (D ++ (pgsF xb ++ (R)))))))))))))) (fun _ w => vs.length - seenN w r)
        case atStart => exact ⟨[], cs, D, NC, hR, hC3, fun p => by simp, hO2⟩
        case round =>
          clear hO2 hR hC3
          obtain ⟨done, ds, D, NC, hR, hC2, hds, hO⟩ := hrel
          have HDS := Lib.hid hds
          clear hds
          have HSEEN := Lib.hid (hR.seen hO)
          ((try simp only [List.nil_append, List.append_nil] at hO); have hF := Own.cells hO; simp only [cellsOf_append, cellsOf_pt] at hF)
          go_wp2_with (refine at_nxt ?_; go_must (refine own_nextV (r := r) (b := wb) (l := wsM vs) (done := done) hO hR ?_ ?_ ?_ ?_; (· rfl); (· rfl)))
          rotate_left
          · intro k v w2 A2 hkv hR2 hO hen
            simp only [Act.put, List.setIfInBounds_toArray, List.set_cons_zero, List.set_cons_succ]
            obtain ⟨q, hq, hgkv⟩ := List.mem_map.1 hkv
            obtain ⟨rfl, rfl⟩ := Prod.mk.inj hgkv
            have HLE := Lib.hid hR2.le
            replace hO := hO.as (pt zb (.cells #[.pointer (some ⟨a, 0, none⟩), .pointer (some ⟨b, 0, none⟩)] 34 (0, 0)) ++ (pt c (.cells #[.bool true, .int .i64 m, .int .i64 0, .map (some mc), .map (some nc)] 56 (0, 0)) ++ (MC ++ (NC ++ (pt a (.cells #[.bool true, .int .i64 ma, .int .i64 Ta.length, .map (some me), .map (some mw)] 56 (0, 0)) ++ (ME ++ (MW ++ (pgsF xs ++ (pt b (.cells #[.bool true, .int .i64 mb, .int .i64 Tb.length, .map (some eb), .map (some wb)] 56 (0, 0)) ++ (EB ++ (A2 ++ (pgsF xb ++ (R)))))))))))))
            clear hF hgkv hkv
            ((try simp only [List.nil_append, List.append_nil] at hO); have hF := Own.cells hO; simp only [cellsOf_append, cellsOf_pt] at hF)
            by_cases hv : q ∈ ds
            · have hln := look_ws_some hv
              have hms := mset_ws ds q
              go_wp2_with (first
                | (refine at_mapup ?_; go_must (refine own_mapSet (kt := 3) (et := 4) (b := nc) (k := q) (v := .bool true) (by kernel_rfl) (by kernel_rfl) hO hC2 ?_ ?_ ?_ ?_ hln ?_; (· rfl); (· rfl); (· rfl); (· rfl); clear hO; (try clear hF); intro w5 NC2 hN2 hO; ((try simp only [List.nil_append, List.append_nil] at hO); have hF := Own.cells hO; simp only [cellsOf_append, cellsOf_pt] at hF); simp only [Act.put, List.setIfInBounds_toArray, List.set_cons_zero, List.set_cons_succ])))
              rw [hms] at hN2
              have hseen2 := hR2.seen hO
              go_roundw
              case rel =>
                refine ⟨done ++ [q], ds, A2, NC2, hR2, hN2, fun p => ?_, hO.as _⟩
                rw [HDS.out, List.mem_append, List.mem_singleton]
                constructor
                · rintro (h | h)
                  · exact .inl h
                  · exact .inr (.inl h)
                · rintro (h | h | rfl)
                  · exact .inl h
                  · exact .inr h
                  · exact (HDS.out p).1 hv
              case measure =>
                rw [hseen2, HSEEN.out]
                have := HLE.out
                rw [wsM_len] at this
                simp only [List.length_append, List.length_cons, List.length_nil] at this ⊢
                omega
            · have hln := look_ws_none hv
              go_wp2_with (first
                | (refine at_mapup ?_; go_must (refine own_mapNew (kt := 3) (et := 4) (b := nc) (k := q) (v := .bool true) (by kernel_rfl) (by kernel_rfl) hO hC2 ?_ ?_ ?_ ?_ hln ?_; (· rfl); (· rfl); (· rfl); (· rfl); clear hO; (try clear hF); intro w5 NC2 hN2 hO; ((try simp only [List.nil_append, List.append_nil] at hO); have hF := Own.cells hO; simp only [cellsOf_append, cellsOf_pt] at hF); simp only [Act.put, List.setIfInBounds_toArray, List.set_cons_zero, List.set_cons_succ])))
              have hseen2 := hR2.seen hO
              go_roundw
              case rel =>
                refine ⟨done ++ [q], ds ++ [q], A2, NC2, hR2, by rw [wsM_snoc]; exact hN2, fun p => ?_, hO.as _⟩
                rw [List.mem_append, HDS.out, List.mem_append, List.mem_singleton, or_assoc]
              case measure =>
                rw [hseen2, HSEEN.out]
                have := HLE.out
                rw [wsM_len] at this
                simp only [List.length_append, List.length_cons, List.length_nil] at this ⊢
                omega
          · intro hperm
            simp only [Act.put, List.setIfInBounds_toArray, List.set_cons_zero, List.set_cons_succ]
            rw [wsM_keys] at hperm
            have hdm : ∀ p, p ∈ ds ↔ p ∈ cs ∨ p ∈ Wb := fun p => by rw [HDS.out, hperm.mem_iff, hPb.mem_iff]
            have HDM := Lib.hid hdm
            clear hdm hperm
            obtain ⟨I, M2, hM2, rfl⟩ := hR.back
            go_wp2_with fail
            go_roundw
            case rel =>
              refine ⟨2, ds, NC, MW, M2, by go_num, by omega, hC2, fun p => ?_, hMW, hM2, hO.as _⟩
              rw [HDM.out, HCS.out]
              simp
            case measure => simp [intOf]
    | 2, _ =>
      obtain ⟨U, hU, hUp⟩ := exists_up (l := cs) (by have := mapAt_nodup hC2; rwa [wsM_keys] at this)
      have hUm : ∀ p, p ∈ U ↔ p ∈ Wa ∨ p ∈ Wb := fun p => by rw [← hUp.mem_iff, HCS.out]; simp
      have HUM := Lib.hid hUm
      have hUb : ∀ p ∈ U, 0 ≤ p ∧ p < 262144 := fun p hp => by
        rcases (hUm p).1 hp with h | h
        · exact hIa.wb p h
        · exact hIb.wb p h
      have hCS := set_whole (c := c) (m := m) hC1 hC2 hUp
      have hIC := inv_whole hU hUb
      have hAS : SetAt a ma Ta Wa (pt a (.cells #[.bool true, .int .i64 ma, .int .i64 Ta.length, .map (some me), .map (some mw)] 56 (0, 0)) ++ (ME ++ (MW ++ pgsF xs))) := ⟨me, mw, xs, ws, ME, MW, hE, hMW, hok, hT, hP, rfl⟩
      have hBS : SetAt b mb Tb Wb (pt b (.cells #[.bool true, .int .i64 mb, .int .i64 Tb.length, .map (some eb), .map (some wb)] 56 (0, 0)) ++ (EB ++ (WB ++ pgsF xb))) := ⟨eb, wb, xb, vs, EB, WB, hEb, hWB, hokb, hTb, hPb, rfl⟩
      replace hO := hO.as ((pt c (.cells #[.bool true, .int .i64 m, .int .i64 0, .map (some mc), .map (some nc)] 56 (0, 0)) ++ (MC ++ NC)) ++ ((pt a (.cells #[.bool true, .int .i64 ma, .int .i64 Ta.length, .map (some me), .map (some mw)] 56 (0, 0)) ++ (ME ++ (MW ++ pgsF xs))) ++ ((pt b (.cells #[.bool true, .int .i64 mb, .int .i64 Tb.length, .map (some eb), .map (some wb)] 56 (0, 0)) ++ (EB ++ (WB ++ pgsF xb))) ++ R)))
      clear hF hMW hE hC1 hC2 hEb hWB hUm hUp hok hokb hT hTb hP hPb HCS
      generalize (pt c (.cells #[.bool true, .int .i64 m, .int .i64 0, .map (some mc), .map (some nc)] 56 (0, 0)) ++ (MC ++ NC)) = C at hCS hO
      generalize (pt a (.cells #[.bool true, .int .i64 ma, .int .i64 Ta.length, .map (some me), .map (some mw)] 56 (0, 0)) ++ (ME ++ (MW ++ pgsF xs))) = A at hAS hO
      generalize (pt b (.cells #[.bool true, .int .i64 mb, .int .i64 Tb.length, .map (some eb), .map (some wb)] 56 (0, 0)) ++ (EB ++ (WB ++ pgsF xb))) = B at hBS hO
      have hla1 : (Ta.length : Int) ≤ 64 := by omega
      have hlb1 : (Tb.length : Int) ≤ 64 := by omega
      go_wp2_with (first | (refine at_bs ?_; go_must (refine own_buildN (cells := ?_) sltSets hO ?_ ?_ ?_ ?_ ?_ ?_; rotate_left; (· rfl); (· decide); (· decide); (· rfl); (· simp [Instr.fill, Act.eval, Value.cells, Array.replicate_succ]; exact rfl); clear hO; (try clear hF); intro zb _ hO; ((try simp only [List.nil_append, List.append_nil] at hO); have hF := Own.cells hO; simp only [cellsOf_append, cellsOf_pt] at hF); simp only [Act.put, List.setIfInBounds_toArray, List.set_cons_zero, List.set_cons_succ])))
      replace hO := hO.as (pt zb (.cells #[.pointer (some ⟨a, 0, none⟩), .pointer (some ⟨b, 0, none⟩)] 34 (0, 0)) ++ (C ++ (A ++ (B ++ R))))
      have hO1 := hO
      clear hO hF
      go_loopw [51] (fun s51 wr => ∃ (k : Nat) (T1 : List Int) (C A B : Fr), s51 = .int .i64 k ∧ k ≤ 2 ∧ T1.length ≤ 64 * k ∧ Inv T1 U ∧ (∀ t, t ∈ T1 ↔ ((1 ≤ k ∧ t ∈ Ta) ∨ (2 ≤ k ∧ t ∈ Tb)) ∧ pg t ∉ U) ∧ SetAt c m T1 U C ∧ SetAt a ma Ta Wa A ∧ SetAt b mb Tb Wb B ∧ Own E wr (pt zb (.cells #[.pointer (some ⟨a, 0, none⟩), .pointer (some ⟨b, 0, none⟩)] 34 (0, 0)) ++ (C ++ (A ++ (B ++ R))))) (fun s51 _ => 2 - (intOf s51).toNat)
      case atStart => exact ⟨0, [], C, A, B, rfl, by omega, by simp, hIC, fun t => by simp, hCS, hAS, hBS, hO1⟩
      case round =>
        clear hO1 hIC hCS hAS hBS
        obtain ⟨k, T1, C, A, B, rfl, hk, hTl, hIC, hm1, hCS, hAS, hBS, hO⟩ := hrel
        have HM1 := Lib.hid hm1
        clear hm1
        ((try simp only [List.nil_append, List.append_nil] at hO); have hF := Own.cells hO; simp only [cellsOf_append, cellsOf_pt] at hF)
        match k, hk with
        | 0, _ =>
          go_wp2_with (first | (go_at_call 24; go_must (refine (tTids E _ _ _ A a ma Ta Wa hIa (by omega) hAS hO).mono ?_; clear hO hAS hF; rintro e w4 ⟨sa, scap, S, A, rfl, hS, hAS, hO⟩)))
          replace hO := hO.as (S ++ (pt zb (.cells #[.pointer (some ⟨a, 0, none⟩), .pointer (some ⟨b, 0, none⟩)] 34 (0, 0)) ++ (C ++ (A ++ (B ++ R)))))
          have hO2 := hO
          have hIC2 := hIC
          have hCS2 := hCS
          clear hO hIC hCS
          go_loopw [58] (fun s58 wr => ∃ (j : Nat) (T2 : List Int) (C : Fr), s58 = .int .i64 j ∧ j ≤ Ta.length ∧ T2.length ≤ 64 * 0 + j ∧ Inv T2 U ∧ (∀ t, t ∈ T2 ↔ t ∈ T1 ∨ (t ∈ Ta.take j ∧ pg t ∉ U)) ∧ SetAt c m T2 U C ∧ Own E wr (S ++ (pt zb (.cells #[.pointer (some ⟨a, 0, none⟩), .pointer (some ⟨b, 0, none⟩)] 34 (0, 0)) ++ (C ++ (A ++ (B ++ R)))))) (fun s58 _ => Ta.length - (intOf s58).toNat)
          case atStart => exact ⟨0, T1, C, rfl, Nat.zero_le _, by omega, hIC2, fun t => by simp, hCS2, hO2⟩
          case round =>
            clear hO2 hIC2 hCS2
            obtain ⟨j, T2, C, rfl, hj, hTl2, hIC, hm1, hCS, hO⟩ := hrel
            have HMEM := Lib.hid hm1
            clear hm1
            by_cases hil : j < Ta.length
            · have hi1 : (j : Int) < Ta.length := by omega
              have hi0 : (0 : Int) ≤ j := by omega
              have hsn : Ta.take (j + 1) = Ta.take j ++ [Ta[j]] := List.take_succ_eq_append_getElem hil
              have htm : Ta[j] ∈ Ta := List.getElem_mem _
              obtain ⟨sb, rfl⟩ := tsome hS (by omega)
              have hcell := tcell hS (hO.as (S ++ [])) j hil
              generalize Ta[j] = t at hsn htm hcell
              have htb := hIa.tb t htm
              have HSN := Lib.hid hsn
              have HIL := Lib.hid hil
              clear hsn hil
              go_wp2_with (first
                | (go_at_call 43; go_must (refine (tPut E _ _ _ C c m T2 U t hIC htb (by omega) hCS hO).mono ?_; clear hO hCS hcell; rintro e w5 ⟨rfl, C2, hCS, hO⟩)))
              go_roundw
              case rel =>
                have hpl := put_len hIC t
                refine ⟨j + 1, _, C2, by go_num, HIL.out, by omega, hIC.put htb, fun u => ?_, hCS, hO.as _⟩
                rw [mem_put hIC, HMEM.out, HSN.out, List.mem_append, List.mem_singleton]
                constructor
                · rintro (⟨rfl, h⟩ | h1 | ⟨h1, h2⟩)
                  · exact .inr ⟨.inr rfl, h⟩
                  · exact .inl h1
                  · exact .inr ⟨.inl h1, h2⟩
                · rintro (h1 | ⟨h1 | rfl, h2⟩)
                  · exact .inr (.inl h1)
                  · exact .inr (.inr ⟨h1, h2⟩)
                  · exact .inl ⟨rfl, h2⟩
              case measure => have := HIL.out; simp [intOf]; omega
            · have hi1 : ¬ (j : Int) < Ta.length := by omega
              have hTx : Ta.take j = Ta := List.take_of_length_le (by omega)
              have HM3 := Lib.hid (fun t => by rw [HMEM.out t, hTx] : ∀ t, t ∈ T2 ↔ t ∈ T1 ∨ (t ∈ Ta ∧ pg t ∉ U))
              clear HMEM hTx
              go_wp2_with fail
              go_roundw
              case rel =>
                refine ⟨_, _, _, ⟨1, rfl, by omega, T2, by omega, hIC, fun t => ?_, C, hCS, A, hAS, B, hBS, hO.as _⟩, rfl, rfl, by go_num⟩
                rw [HM3.out, HM1.out]
                constructor
                · rintro (⟨h1, h2⟩ | ⟨h1, h2⟩)
                  · refine ⟨?_, h2⟩
                    rcases h1 with ⟨h1, h3⟩ | ⟨h1, h3⟩
                    · exact .inl ⟨by omega, h3⟩
                    · exact .inr ⟨by omega, h3⟩
                  · exact ⟨.inl ⟨by omega, h1⟩, h2⟩
                · rintro ⟨⟨h1, h3⟩ | ⟨h1, h3⟩, h2⟩
                  · exact .inr ⟨h3, h2⟩
                  · omega
              case measure => simp [intOf]
        | 1, _ =>
          go_wp2_with (first | (go_at_call 24; go_must (refine (tTids E _ _ _ B b mb Tb Wb hIb (by omega) hBS hO).mono ?_; clear hO hBS hF; rintro e w4 ⟨sa, scap, S, B, rfl, hS, hBS, hO⟩)))
          replace hO := hO.as (S ++ (pt zb (.cells #[.pointer (some ⟨a, 0, none⟩), .pointer (some ⟨b, 0, none⟩)] 34 (0, 0)) ++ (C ++ (A ++ (B ++ R)))))
          have hO2 := hO
          have hIC2 := hIC
          have hCS2 := hCS
          clear hO hIC hCS
          go_loopw [58] (fun s58 wr => ∃ (j : Nat) (T2 : List Int) (C : Fr), s58 = .int .i64 j ∧ j ≤ Tb.length ∧ T2.length ≤ 64 * 1 + j ∧ Inv T2 U ∧ (∀ t, t ∈ T2 ↔ t ∈ T1 ∨ (t ∈ Tb.take j ∧ pg t ∉ U)) ∧ SetAt c m T2 U C ∧ Own E wr (S ++ (pt zb (.cells #[.pointer (some ⟨a, 0, none⟩), .pointer (some ⟨b, 0, none⟩)] 34 (0, 0)) ++ (C ++ (A ++ (B ++ R)))))) (fun s58 _ => Tb.length - (intOf s58).toNat)
          case atStart => exact ⟨0, T1, C, rfl, Nat.zero_le _, by omega, hIC2, fun t => by simp, hCS2, hO2⟩
          case round =>
            clear hO2 hIC2 hCS2
            obtain ⟨j, T2, C, rfl, hj, hTl2, hIC, hm1, hCS, hO⟩ := hrel
            have HMEM := Lib.hid hm1
            clear hm1
            by_cases hil : j < Tb.length
            · have hi1 : (j : Int) < Tb.length := by omega
              have hi0 : (0 : Int) ≤ j := by omega
              have hsn : Tb.take (j + 1) = Tb.take j ++ [Tb[j]] := List.take_succ_eq_append_getElem hil
              have htm : Tb[j] ∈ Tb := List.getElem_mem _
              obtain ⟨sb, rfl⟩ := tsome hS (by omega)
              have hcell := tcell hS (hO.as (S ++ [])) j hil
              generalize Tb[j] = t at hsn htm hcell
              have htb := hIb.tb t htm
              have HSN := Lib.hid hsn
              have HIL := Lib.hid hil
              clear hsn hil
              go_wp2_with (first
                | (go_at_call 43; go_must (refine (tPut E _ _ _ C c m T2 U t hIC htb (by omega) hCS hO).mono ?_; clear hO hCS hcell; rintro e w5 ⟨rfl, C2, hCS, hO⟩)))
              go_roundw
              case rel =>
                have hpl := put_len hIC t
                refine ⟨j + 1, _, C2, by go_num, HIL.out, by omega, hIC.put htb, fun u => ?_, hCS, hO.as _⟩
                rw [mem_put hIC, HMEM.out, HSN.out, List.mem_append, List.mem_singleton]
                constructor
                · rintro (⟨rfl, h⟩ | h1 | ⟨h1, h2⟩)
                  · exact .inr ⟨.inr rfl, h⟩
                  · exact .inl h1
                  · exact .inr ⟨.inl h1, h2⟩
                · rintro (h1 | ⟨h1 | rfl, h2⟩)
                  · exact .inr (.inl h1)
                  · exact .inr (.inr ⟨h1, h2⟩)
                  · exact .inl ⟨rfl, h2⟩
              case measure => have := HIL.out; simp [intOf]; omega
            · have hi1 : ¬ (j : Int) < Tb.length := by omega
              have hTx : Tb.take j = Tb := List.take_of_length_le (by omega)
              have HM3 := Lib.hid (fun t => by rw [HMEM.out t, hTx] : ∀ t, t ∈ T2 ↔ t ∈ T1 ∨ (t ∈ Tb ∧ pg t ∉ U))
              clear HMEM hTx
              go_wp2_with fail
              go_roundw
              case rel =>
                refine ⟨_, _, _, ⟨2, rfl, by omega, T2, by omega, hIC, fun t => ?_, C, hCS, A, hAS, B, hBS, hO.as _⟩, rfl, rfl, by go_num⟩
                rw [HM3.out, HM1.out]
                constructor
                · rintro (⟨h1, h2⟩ | ⟨h1, h2⟩)
                  · refine ⟨?_, h2⟩
                    rcases h1 with ⟨h1, h3⟩ | ⟨h1, h3⟩
                    · exact .inl ⟨by omega, h3⟩
                    · exact .inr ⟨by omega, h3⟩
                  · exact ⟨.inr ⟨by omega, h1⟩, h2⟩
                · rintro ⟨⟨h1, h3⟩ | ⟨h1, h3⟩, h2⟩
                  · exact .inl ⟨.inl ⟨by omega, h3⟩, h2⟩
                  · exact .inr ⟨h3, h2⟩
              case measure => simp [intOf]
        | 2, _ =>
          go_wp2_with fail
          refine (tDeg E _ _ _ C c m T1 U hIC (by omega) hCS hO).mono ?_
          clear hO hCS hF
          rintro e w6 ⟨rfl, T', W', C', hD, hCS, hO⟩
          go_wp2_with fail
          rw [← HPOST.out]
          refine ⟨c, A, B, C', T1, U, T', W', rfl, hAS, hBS, ⟨hIC, HUM.out, fun t => ?_⟩, ?_, ?_, hO.as _⟩
          · rw [HM1.out]
            simp
          · rw [hm]; exact hD
          · rw [hm]; exact hCS
end Go.Proofs.Ytnfclieaendgeaa
