/- The sorter's Merge. -/
import Derived.Test.YtnfclieaendgeaaSrt1
set_option linter.all false
namespace Go.Proofs.Ytnfclieaendgeaa
open Go Go.RowKit Go.Own Go.Hp

def RowsIn (E : World) (I : Fr) (sa : Option Addr) (rs : List RO) : Prop := ∀ w, Own E w I → ∀ i (h : i < rs.length), ∃ ad, sa = some ad ∧ w.cell? (ad.add i) = some (roV rs[i])
theorem len_le_flat {l : List ByteArray} : ∀ {L : List (List ByteArray)}, l ∈ L → l.length ≤ L.flatten.length
  | [], h => by cases h
  | m :: L, h => by
    rw [List.flatten_cons, List.length_append]
    rcases List.mem_cons.1 h with rfl | h
    · omega
    · have := len_le_flat h
      omega
theorem sltStrss : SlT Try.prog 22 23 1 24 (.slice none 0 0) := ⟨by kernel_rfl, by kernel_rfl, rfl⟩

set_option maxRecDepth 100000 in
set_option maxHeartbeats 16000000 in
theorem sMerge (E w : World) (X R I : Fr) (sa : Option Addr) (rs : List RO) (cap : Nat) (hT : RowsIn E I sa rs) (hOk : ∀ r ∈ rs, RoOk E I r) (hn : rs.length ≤ 5864062014805) (ht : ((rs.map RO.l).flatten).length ≤ 5864062014805) (hO : Own E w X) [hp : Pick X I R] :
    Calls Try.prog 17 #[.slice sa rs.length cap] w fun e w' =>
      ((∀ r ∈ rs, Rise r.l) ∧ ∃ oa ocap out O, e = .returned (.tuple #[.slice oa (List.length out) ocap, .int .i64 0]) ∧ Sl 9 1 oa (List.length out) ocap (out.map .string) O ∧ Rise out ∧ (∀ x, out.count x = ((rs.map RO.l).flatten).count x) ∧ Own E w' (O ++ (I ++ R))) ∨
      ((¬ ∀ r ∈ rs, Rise r.l) ∧ e = .returned (.tuple #[.slice none 0 0, .int .i64 1]) ∧ Own E w' (I ++ R)) := by
  replace hO := hO.perm hp.perm
  clear hp
  have hn1 : (rs.length : Int) ≤ 5864062014805 := by omega
  have hO0 := hO
  clear hO
  go_enter Try.func17, Try.ntmps17
  go_wp2_with fail
  go_loopw [4, 9] (fun s4 s9 wr => ∃ (k : Nat) (a : Option Addr) (cp : Nat) (S : Fr), s9 = .int .i64 k ∧ k ≤ rs.length ∧ s4 = .slice a k cp ∧ Sl 23 1 a k cp ((rs.take k).map roV) S ∧ (∀ r ∈ rs.take k, Rise r.l) ∧ Own E wr (S ++ (I ++ R))) (fun _ s9 _ => rs.length - (intOf s9).toNat)
  case atStart => exact ⟨0, none, 0, [], rfl, Nat.zero_le _, rfl, Sl.nil _ _, fun r h => absurd h (by simp), hO0.as _⟩
  case round =>
    clear hO0
    obtain ⟨k, a, cp, S, rfl, hk, rfl, hSl, hRi, hO⟩ := hrel
    by_cases hkl : k < rs.length
    · have hk1 : (k : Int) < rs.length := by omega
      have hk0 : (0 : Int) ≤ k := by omega
      obtain ⟨ad, rfl, hca⟩ := hT wr (hO.as I) k hkl
      have hok := hOk rs[k] (List.getElem_mem _)
      have hsn : rs.take (k + 1) = rs.take k ++ [rs[k]] := List.take_succ_eq_append_getElem hkl
      have hmem : rs[k] ∈ rs := List.getElem_mem _
      have hlen : rs[k].l.length ≤ ((rs.map RO.l).flatten).length := len_le_flat (List.mem_map_of_mem hmem)
      generalize rs[k] = r at hca hok hsn hmem hlen
      have HSN := Lib.hid hsn
      have HMEM := Lib.hid hmem
      have HKL := Lib.hid hkl
      clear hsn hmem hkl
      unfold roV at hca
      go_wp2_with fail
      refine (sIsSorted E _ _ _ I r.ad r.l r.cap hok.txt (by omega) hO).mono ?_
      rintro e w1 ⟨rfl, hO⟩
      by_cases hr : Rise r.l
      · rw [riseB_t hr]
        have HR := Lib.hid hr
        clear hr hlen
        go_wp2_with (first | (refine at_bs ?_; go_must (refine own_build1 (v := ?_) sltStrss hO ?_ ?_ ?_ ?_ ?_ ?_; rotate_left; (· rfl); (· ((conv => lhs; whnf); try exact rfl)); (· rfl); (· decide); (· decide); clear hO; (try clear hF); intro bs _ hO; (try simp only [Value.cells] at hO); ((try simp only [List.nil_append, List.append_nil] at hO); have hF := Own.cells hO; simp only [cellsOf_append, cellsOf_pt] at hF); simp only [Act.put, List.setIfInBounds_toArray, List.set_cons_zero, List.set_cons_succ])) | (refine at_append ?_; go_must ((refine own_append_elem (b1 := ?_) (cs := ?_) (e1 := ?_) (f1 := ?_) sltStrss hO ?_ ?_ ?_ hSl ?_ ?_ ?_ ?_ ?_ ?_ ?_; rotate_left 4; (· rfl); (· rfl); (· rfl); (· exact inferInstance); (· rfl); (· intro u hu; simp at hu; subst hu; rfl); (· first | omega | (simp only [maxLen]; omega)); (· decide); (· first | omega | (simp only [maxLen]; omega)); clear hO; (try clear hF); intro a2 c2 A2 w2 hS2 hO; ((try simp only [List.nil_append, List.append_nil] at hO); have hF := Own.cells hO; simp only [cellsOf_append, cellsOf_pt] at hF); simp only [Act.put, List.setIfInBounds_toArray, List.set_cons_zero, List.set_cons_succ]))))
        go_roundw
        case rel =>
          refine ⟨k + 1, a2, c2, A2, by go_num, HKL.out, rfl, ?_, ?_, hO.as _⟩
          · rw [HSN.out, List.map_append]
            exact hS2
          · intro q hq
            rw [HSN.out] at hq
            rcases List.mem_append.1 hq with hq | hq
            · exact hRi q hq
            · rw [List.mem_singleton] at hq
              subst hq
              exact HR.out
        case measure => have := HKL.out; simp [intOf]; omega
      · rw [riseB_f hr]
        have HR := Lib.hid hr
        clear hr hlen
        go_wp2_with fail
        go_ret2
        exact .inr ⟨fun h => HR.out (h r HMEM.out), rfl, hO.as _⟩
    · obtain rfl : k = rs.length := by omega
      rw [List.take_length] at hSl hRi
      go_wp2_with fail
      refine (merged8 E _ _ _ S I a cp rs hSl hOk hRi hn ht hO).mono ?_
      rintro e w1 ⟨oa, ocap, out, O, rfl, hOut, hR, hC, hO⟩
      go_wp2_with fail
      go_ret2
      exact .inl ⟨hRi, oa, ocap, out, O, rfl, hOut, hR, hC, hO.as _⟩
end Go.Proofs.Ytnfclieaendgeaa
