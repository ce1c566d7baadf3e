/- The document's sets: put. -/
import Derived.Test.YtnfclieaendgeaaTidR1
set_option linter.all false
namespace Go.Td
theorem ins_big {x z : Int} : ∀ {a : List Int}, Up (a ++ [z]) → (∃ y ∈ a, x < y) → ins x (a ++ [z]) = ins x a ++ [z]
  | [], _, h => by obtain ⟨y, h, _⟩ := h; cases h
  | w :: a, hU, h => by
    rw [List.cons_append] at hU ⊢
    obtain ⟨h1, h2⟩ := List.pairwise_cons.1 hU
    unfold ins
    split
    · rfl
    · split
      · rfl
      · next hx hy =>
        obtain ⟨y, hy1, hy2⟩ := h
        rw [ins_big h2 ⟨y, by
          rcases List.mem_cons.1 hy1 with rfl | h
          · omega
          · exact h, hy2⟩]
        rfl
theorem ins_end {x : Int} : ∀ {a : List Int}, (∀ y ∈ a, y < x) → ins x a = a ++ [x]
  | [], _ => rfl
  | w :: a, h => by
    have := h w (by simp)
    unfold ins
    rw [if_neg (by omega), if_neg (by omega), ins_end fun y hy => h y (by simp [hy])]
    rfl
theorem ins_mid {x z : Int} (hz : x < z) : ∀ {a : List Int}, (∀ y ∈ a, y < x) → ins x (a ++ [z]) = a ++ [x] ++ [z]
  | [], _ => by simp [ins, hz]
  | w :: a, h => by
    have := h w (by simp)
    rw [List.cons_append]
    unfold ins
    rw [if_neg (by omega), if_neg (by omega), ins_mid hz fun y hy => h y (by simp [hy])]
    rfl
end Go.Td
namespace Go.Proofs.Ytnfclieaendgeaa
open Go Go.RowKit Go.Own Go.Td

def PutR (E : World) (R : Fr) (l : List Int) (x : Int) (e : Ending) (w' : World) : Prop :=
  ∃ a' cap' F', e = .returned (.slice a' (ins x l).length cap') ∧ Sl 3 1 a' (ins x l).length cap' (intV (ins x l)) F' ∧ Own E w' (F' ++ R)

set_option maxRecDepth 100000 in
set_option maxHeartbeats 16000000 in
theorem r14put (E w : World) (X R F : Fr) (a : Option Addr) (cap : Nat) (l : List Int) (x : Int) (hS : Sl 3 1 a l.length cap (intV l) F) (hl : l.length ≤ 1048576) (hup : Up l) (hO : Own E w X) [hp : Pick X F R] :
    Calls Try.prog 51 #[.slice a l.length cap, .int .i64 x] w (PutR E R l x) := by
  replace hO := hO.perm hp.perm
  clear hp
  have hl1 : (l.length : Int) ≤ 1048576 := by omega
  have hN : NumIn E F a l := num_sl hS
  go_enter Try.func51, Try.ntmps51
  go_wp2_with fail
  refine (r14in E _ _ _ F a cap l x hN (by omega) hO).mono ?_
  rintro e w1 ⟨rfl, rfl⟩
  by_cases hx : x ∈ l
  · have hd : decide (x ∈ l) = true := decide_eq_true hx
    have HX := Lib.hid hx
    clear hx
    rw [hd]
    go_wp2_with fail
    go_ret
    unfold PutR
    rw [ins_old hup HX.out]
    exact ⟨a, cap, F, rfl, hS, hO⟩
  · have hd : decide (x ∈ l) = false := decide_eq_false hx
    rw [hd]
    have HX := Lib.hid hx
    have HUP := Lib.hid hup
    clear hd hx hup
    have hO1 := hO
    clear hO
    go_wp2_with fail
    go_loopw [5, 6, 7] (fun s5 s6 s7 wr => ∃ (i : Nat) (out : List Int) (oa : Option Addr) (oc : Nat) (S : Fr) (d : Bool), s7 = .int .i64 i ∧ s6 = .bool d ∧ s5 = .slice oa (List.length out) oc ∧ i ≤ l.length ∧ Sl 3 1 oa (List.length out) oc (intV out) S ∧ out.length ≤ i + 1 ∧
      (d = true → out = ins x (l.take i) ∧ ∃ y ∈ l.take i, x < y) ∧ (d = false → out = l.take i ∧ ∀ y ∈ l.take i, y < x) ∧ Own E wr (S ++ (F ++ R))) (fun _ _ s7 _ => l.length - (intOf s7).toNat)
    case atStart => exact ⟨0, [], none, 0, [], false, rfl, rfl, rfl, Nat.zero_le _, Sl.nil _ _, by simp, by simp, by simp, hO1.as _⟩
    case round =>
      clear hO1
      obtain ⟨i, out, oa, oc, S, d, rfl, rfl, rfl, hi, hOut, hol, hdt, hdf, hO⟩ := hrel
      have HDT := Lib.hid hdt
      have HDF := Lib.hid hdf
      have hob : (out.length : Int) ≤ 1048577 := by omega
      clear hdt hdf
      by_cases hil : i < l.length
      · have hi1 : (i : Int) < l.length := by omega
        have hi0 : (0 : Int) ≤ i := by omega
        obtain ⟨ad, rfl, hca⟩ := hN.ex (hO.as F) i hil
        have hcw := hca _ (hO.as F)
        have HSN := Lib.hid (List.take_succ_eq_append_getElem hil : l.take (i + 1) = l.take i ++ [l[i]])
        have hmem : l[i] ∈ l := List.getElem_mem _
        have HPW := Lib.hid (List.Pairwise.sublist (List.take_sublist (i + 1) l) HUP.out)
        generalize l[i] = z at hcw HSN hca hmem
        have hxz : x ≠ z := fun h => HX.out (h ▸ hmem)
        have HXZ := Lib.hid hxz
        have HIL := Lib.hid hil
        have HOL := Lib.hid hol
        clear hil hmem hxz hol
        cases d
        · by_cases hz : x < z
          · go_wp2_with (first | (refine at_bs ?_; go_must (refine own_build1 (v := ?_) sltInts hO ?_ ?_ ?_ ?_ ?_ ?_; rotate_left; (· rfl); (· ((conv => lhs; whnf); try exact rfl)); (· rfl); (· decide); (· decide); clear hO; (try clear hF); intro bs _ hO; (try simp only [Value.cells] at hO); ((try simp only [List.nil_append, List.append_nil] at hO); have hF := Own.cells hO; simp only [cellsOf_append, cellsOf_pt] at hF); simp only [Act.put, List.setIfInBounds_toArray, List.set_cons_zero, List.set_cons_succ])) | (refine at_append ?_; go_must (first | ((refine own_append_elem (b1 := ?_) (cs := ?_) (e1 := ?_) (f1 := ?_) sltInts hO ?_ ?_ ?_ hOut ?_ ?_ ?_ ?_ ?_ ?_ ?_; rotate_left 4; (· rfl); (· rfl); (· rfl); (· exact inferInstance); (· rfl); (· intro u hu; simp at hu; subst hu; rfl); (· first | omega | (simp only [maxLen]; omega)); (· decide); (· first | omega | (simp only [maxLen]; omega)); clear hO; (try clear hF); intro a2 c2 S2 w3 hS2 hO; ((try simp only [List.nil_append, List.append_nil] at hO); have hF := Own.cells hO; simp only [cellsOf_append, cellsOf_pt] at hF); simp only [Act.put, List.setIfInBounds_toArray, List.set_cons_zero, List.set_cons_succ]); have hcw := hca _ (hO.as F); clear hOut) | ((refine own_append_elem (b1 := ?_) (cs := ?_) (e1 := ?_) (f1 := ?_) sltInts hO ?_ ?_ ?_ hS2 ?_ ?_ ?_ ?_ ?_ ?_ ?_; rotate_left 4; (· rfl); (· rfl); (· rfl); (· exact inferInstance); (· rfl); (· intro u hu; simp at hu; subst hu; rfl); (· first | omega | (simp only [maxLen]; omega)); (· decide); (· first | omega | (simp only [maxLen]; omega)); clear hO; (try clear hF); intro a3 c3 S3 w4 hS3 hO; ((try simp only [List.nil_append, List.append_nil] at hO); have hF := Own.cells hO; simp only [cellsOf_append, cellsOf_pt] at hF); simp only [Act.put, List.setIfInBounds_toArray, List.set_cons_zero, List.set_cons_succ])))))
            have h5 : out.length + 1 + 1 = (out ++ [x] ++ [z]).length := by simp
            rw [h5] at hS3 ⊢
            go_roundw
            case rel =>
              obtain ⟨h1, h2⟩ := HDF.out (by first | rfl | trivial)
              refine ⟨i + 1, out ++ [x] ++ [z], a3, c3, S3, true, by go_num, rfl, rfl, HIL.out, ?_, ?_, fun _ => ⟨?_, ⟨z, ?_, hz⟩⟩, fun h => by (cases h), hO.as _⟩
              · simp only [List.map_append]
                exact hS3
              · have h3 : out.length ≤ i := by rw [h1, List.length_take]; omega
                simp only [List.length_append, List.length_cons, List.length_nil]
                omega
              · rw [HSN.out, ins_mid hz h2, h1]
              · rw [HSN.out]; simp
            case measure => have := HIL.out; simp [intOf]; omega
          · go_wp2_with (first | (refine at_bs ?_; go_must (refine own_build1 (v := ?_) sltInts hO ?_ ?_ ?_ ?_ ?_ ?_; rotate_left; (· rfl); (· ((conv => lhs; whnf); try exact rfl)); (· rfl); (· decide); (· decide); clear hO; (try clear hF); intro bs _ hO; (try simp only [Value.cells] at hO); ((try simp only [List.nil_append, List.append_nil] at hO); have hF := Own.cells hO; simp only [cellsOf_append, cellsOf_pt] at hF); simp only [Act.put, List.setIfInBounds_toArray, List.set_cons_zero, List.set_cons_succ])) | (refine at_append ?_; go_must ((refine own_append_elem (b1 := ?_) (cs := ?_) (e1 := ?_) (f1 := ?_) sltInts hO ?_ ?_ ?_ hOut ?_ ?_ ?_ ?_ ?_ ?_ ?_; rotate_left 4; (· rfl); (· rfl); (· rfl); (· exact inferInstance); (· rfl); (· intro u hu; simp at hu; subst hu; rfl); (· first | omega | (simp only [maxLen]; omega)); (· decide); (· first | omega | (simp only [maxLen]; omega)); clear hO; (try clear hF); intro a2 c2 S2 w3 hS2 hO; ((try simp only [List.nil_append, List.append_nil] at hO); have hF := Own.cells hO; simp only [cellsOf_append, cellsOf_pt] at hF); simp only [Act.put, List.setIfInBounds_toArray, List.set_cons_zero, List.set_cons_succ]))))
            have h5 : out.length + 1 = (out ++ [z]).length := by simp
            rw [h5] at hS2 ⊢
            go_roundw
            case rel =>
              obtain ⟨h1, h2⟩ := HDF.out (by first | rfl | trivial)
              refine ⟨i + 1, out ++ [z], a2, c2, S2, false, by go_num, rfl, rfl, HIL.out, ?_, ?_, fun h => by (cases h), fun _ => ⟨?_, fun y hy => ?_⟩, hO.as _⟩
              · simp only [List.map_append]
                exact hS2
              · have h3 : out.length ≤ i := by rw [h1, List.length_take]; omega
                simp only [List.length_append, List.length_cons, List.length_nil]
                omega
              · rw [HSN.out, h1]
              · rw [HSN.out] at hy
                rcases List.mem_append.1 hy with hy | hy
                · exact h2 y hy
                · rw [List.mem_singleton] at hy
                  subst hy
                  have := HXZ.out
                  omega
            case measure => have := HIL.out; simp [intOf]; omega
        · go_wp2_with (first | (refine at_bs ?_; go_must (refine own_build1 (v := ?_) sltInts hO ?_ ?_ ?_ ?_ ?_ ?_; rotate_left; (· rfl); (· ((conv => lhs; whnf); try exact rfl)); (· rfl); (· decide); (· decide); clear hO; (try clear hF); intro bs _ hO; (try simp only [Value.cells] at hO); ((try simp only [List.nil_append, List.append_nil] at hO); have hF := Own.cells hO; simp only [cellsOf_append, cellsOf_pt] at hF); simp only [Act.put, List.setIfInBounds_toArray, List.set_cons_zero, List.set_cons_succ])) | (refine at_append ?_; go_must ((refine own_append_elem (b1 := ?_) (cs := ?_) (e1 := ?_) (f1 := ?_) sltInts hO ?_ ?_ ?_ hOut ?_ ?_ ?_ ?_ ?_ ?_ ?_; rotate_left 4; (· rfl); (· rfl); (· rfl); (· exact inferInstance); (· rfl); (· intro u hu; simp at hu; subst hu; rfl); (· first | omega | (simp only [maxLen]; omega)); (· decide); (· first | omega | (simp only [maxLen]; omega)); clear hO; (try clear hF); intro a2 c2 S2 w3 hS2 hO; ((try simp only [List.nil_append, List.append_nil] at hO); have hF := Own.cells hO; simp only [cellsOf_append, cellsOf_pt] at hF); simp only [Act.put, List.setIfInBounds_toArray, List.set_cons_zero, List.set_cons_succ]))))
          have h5 : out.length + 1 = (out ++ [z]).length := by simp
          rw [h5] at hS2 ⊢
          go_roundw
          case rel =>
            obtain ⟨h1, h2⟩ := HDT.out (by first | rfl | trivial)
            refine ⟨i + 1, out ++ [z], a2, c2, S2, true, by go_num, rfl, rfl, HIL.out, ?_, ?_, fun _ => ⟨?_, ?_⟩, fun h => by (cases h), hO.as _⟩
            · simp only [List.map_append]
              exact hS2
            · have := HOL.out
              simp only [List.length_append, List.length_cons, List.length_nil]
              omega
            · have h3 := HPW.out
              rw [HSN.out] at h3
              rw [HSN.out, ins_big h3 h2, h1]
            · obtain ⟨y, hy1, hy2⟩ := h2
              exact ⟨y, by rw [HSN.out]; exact List.mem_append.2 (.inl hy1), hy2⟩
          case measure => have := HIL.out; simp [intOf]; omega
      · have hi1 : ¬ (i : Int) < l.length := by omega
        have hta : l.take i = l := List.take_of_length_le (by omega)
        cases d
        · go_wp2_with (first | (refine at_bs ?_; go_must (refine own_build1 (v := ?_) sltInts hO ?_ ?_ ?_ ?_ ?_ ?_; rotate_left; (· rfl); (· ((conv => lhs; whnf); try exact rfl)); (· rfl); (· decide); (· decide); clear hO; (try clear hF); intro bs _ hO; (try simp only [Value.cells] at hO); ((try simp only [List.nil_append, List.append_nil] at hO); have hF := Own.cells hO; simp only [cellsOf_append, cellsOf_pt] at hF); simp only [Act.put, List.setIfInBounds_toArray, List.set_cons_zero, List.set_cons_succ])) | (refine at_append ?_; go_must ((refine own_append_elem (b1 := ?_) (cs := ?_) (e1 := ?_) (f1 := ?_) sltInts hO ?_ ?_ ?_ hOut ?_ ?_ ?_ ?_ ?_ ?_ ?_; rotate_left 4; (· rfl); (· rfl); (· rfl); (· exact inferInstance); (· rfl); (· intro u hu; simp at hu; subst hu; rfl); (· first | omega | (simp only [maxLen]; omega)); (· decide); (· first | omega | (simp only [maxLen]; omega)); clear hO; (try clear hF); intro a2 c2 S2 w3 hS2 hO; ((try simp only [List.nil_append, List.append_nil] at hO); have hF := Own.cells hO; simp only [cellsOf_append, cellsOf_pt] at hF); simp only [Act.put, List.setIfInBounds_toArray, List.set_cons_zero, List.set_cons_succ]))))
          go_ret
          obtain ⟨h1, h2⟩ := HDF.out (by first | rfl | trivial)
          rw [hta] at h1 h2
          have h3 := ins_end h2
          have h4 : out.length + 1 = (ins x l).length := by rw [h3, h1]; simp
          refine ⟨a2, c2, S2, by rw [← h4]; rfl, ?_, hO.as _⟩
          rw [← h4, h3]
          rw [h1] at hS2 ⊢
          simp only [List.map_append]
          exact hS2
        · go_wp2_with fail
          go_ret
          obtain ⟨h1, h2⟩ := HDT.out (by first | rfl | trivial)
          rw [hta] at h1
          exact ⟨oa, oc, S, by rw [← h1]; rfl, by rw [← h1]; exact hOut, hO.as _⟩
end Go.Proofs.Ytnfclieaendgeaa
