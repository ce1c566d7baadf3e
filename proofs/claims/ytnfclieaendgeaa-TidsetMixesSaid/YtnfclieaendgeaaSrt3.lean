/- vestibulelaw08: awake. -/
import Derived.Test.YtnfclieaendgeaaSrt2
set_option linter.all false
namespace Go.Proofs.Ytnfclieaendgeaa
open Go Go.RowKit Go.Own Go.Hp

theorem rows_sl {E : World} {sa : Option Addr} {cap n : Nat} {rs : List RO} {S : Fr} (h : Sl 23 1 sa n cap (rs.map roV) S) : RowsIn E S sa rs := by
  intro w hO i hi
  have hn : n = rs.length := by have := h.len; simp at this; omega
  obtain ⟨b, rfl⟩ := sl_some8 h (by omega)
  exact ⟨_, rfl, by rw [add_lit, Nat.zero_add]; exact sl_get8 h (hO.as (S ++ [])) i _ (by rw [List.getElem?_map, List.getElem?_eq_getElem hi]; rfl)⟩
theorem RowsIn.more {E : World} {I J : Fr} {sa : Option Addr} {rs : List RO} (h : RowsIn E I sa rs) (hs : ∀ w, Own E w J → Own E w I) : RowsIn E J sa rs := fun w hO => h w (hs w hO)
theorem bl_lit (a b : ByteArray) : bl a b = Op.bytesLess a.data.toList b.data.toList := by
  unfold bl
  rw [ByteArray.toList_eq, ByteArray.toList_eq]

def tA : ByteArray := ⟨#[97]⟩
def tB : ByteArray := ⟨#[98]⟩
def tC : ByteArray := ⟨#[99]⟩
theorem rise_nil : Rise [] := List.Pairwise.nil
theorem rise_one (a : ByteArray) : Rise [a] := List.pairwise_singleton _ _
theorem bl_ca : bl tC tA = false := by rw [bl_lit]; rfl
theorem bl_cb : bl tC tB = false := by rw [bl_lit]; rfl
theorem bl_ba : bl tB tA = false := by rw [bl_lit]; rfl
theorem bl_ac : bl tA tC = true := by rw [bl_lit]; rfl
theorem rise_ac : Rise [tA, tC] := List.pairwise_pair.2 bl_ca
theorem rise_abc : Rise [tA, tB, tC] := by
  refine List.pairwise_cons.2 ⟨fun y hy => ?_, List.pairwise_pair.2 bl_cb⟩
  rcases List.mem_cons.1 hy with rfl | hy
  · exact bl_ba
  · rw [List.mem_singleton] at hy
    subst hy
    exact bl_ca
theorem not_rise_ca : ¬ Rise [tC, tA] := fun h => by
  have h1 := List.pairwise_pair.1 h
  unfold Le at h1
  rw [bl_ac] at h1
  cases h1

set_option maxRecDepth 100000 in
set_option maxHeartbeats 16000000 in
theorem awake8 (E w : World) (X : Fr) (hO : Own E w X) : Calls Try.prog 16 #[] w fun e w' => e = .returned (.bool true) ∧ Own E w' X := by
  go_enter Try.func16, Try.ntmps16
  go_wp2_with (first | (refine at_bs ?_; first | (refine own_buildN (cells := ?_) sltStrs8 hO ?_ ?_ ?_ ?_ ?_ ?_; rotate_left; (· rfl); (· decide); (· decide); (· rfl); (· simp [Instr.fill, Act.eval, Value.cells, Array.replicate_succ]; exact rfl); clear hO; (try clear hF); intro b _ hO; ((try simp only [List.nil_append, List.append_nil] at hO); have hF := Own.cells hO; simp only [cellsOf_append, cellsOf_pt] at hF); simp only [Act.put, List.setIfInBounds_toArray, List.set_cons_zero, List.set_cons_succ]) | (refine own_build1 (v := ?_) sltStrs8 hO ?_ ?_ ?_ ?_ ?_ ?_; rotate_left; (· rfl); (· ((conv => lhs; whnf); try exact rfl)); (· rfl); (· decide); (· decide); clear hO; (try clear hF); intro b _ hO; (try simp only [Value.cells] at hO); ((try simp only [List.nil_append, List.append_nil] at hO); have hF := Own.cells hO; simp only [cellsOf_append, cellsOf_pt] at hF); simp only [Act.put, List.setIfInBounds_toArray, List.set_cons_zero, List.set_cons_succ]) | (refine own_buildN (cells := ?_) sltStrss hO ?_ ?_ ?_ ?_ ?_ ?_; rotate_left; (· rfl); (· decide); (· decide); (· rfl); (· simp [Instr.fill, Act.eval, Value.cells, Array.replicate_succ]; exact rfl); clear hO; (try clear hF); intro b _ hO; ((try simp only [List.nil_append, List.append_nil] at hO); have hF := Own.cells hO; simp only [cellsOf_append, cellsOf_pt] at hF); simp only [Act.put, List.setIfInBounds_toArray, List.set_cons_zero, List.set_cons_succ]) | (refine own_build1 (v := ?_) sltStrss hO ?_ ?_ ?_ ?_ ?_ ?_; rotate_left; (· rfl); (· ((conv => lhs; whnf); try exact rfl)); (· rfl); (· decide); (· decide); clear hO; (try clear hF); intro b _ hO; (try simp only [Value.cells] at hO); ((try simp only [List.nil_append, List.append_nil] at hO); have hF := Own.cells hO; simp only [cellsOf_append, cellsOf_pt] at hF); simp only [Act.put, List.setIfInBounds_toArray, List.set_cons_zero, List.set_cons_succ])))
  rename_i b6 _ b7 _ _ _ _
  have hS6 : Sl 9 1 (some ⟨b6, 0, none⟩) 2 2 ([tA, tC].map .string) (pt b6 (.cells #[.string ⟨#[97]⟩, .string ⟨#[99]⟩] 9 (0, 0))) := Sl.mk (rest := []) rfl (by decide) (by decide) rfl
  have hS7 : Sl 9 1 (some ⟨b7, 0, none⟩) 1 1 ([tB].map .string) (pt b7 (.cells #[.string ⟨#[98]⟩] 9 (0, 0))) := Sl.mk (rest := []) rfl (by decide) (by decide) rfl
  have hS8 : Sl 23 1 (some ⟨b, 0, none⟩) 2 2 ([(⟨some ⟨b6, 0, none⟩, 2, [tA, tC]⟩ : RO), ⟨some ⟨b7, 0, none⟩, 1, [tB]⟩].map roV) (pt b (.cells #[.slice (some ⟨b6, 0, none⟩) 2 2, .slice (some ⟨b7, 0, none⟩) 1 1] 23 (0, 0))) := Sl.mk (rest := []) rfl (by decide) (by decide) rfl
  generalize pt b6 (.cells #[.string ⟨#[97]⟩, .string ⟨#[99]⟩] 9 (0, 0)) = P6 at hS6 hO
  generalize pt b7 (.cells #[.string ⟨#[98]⟩] 9 (0, 0)) = P7 at hS7 hO
  generalize pt b (.cells #[.slice (some ⟨b6, 0, none⟩) 2 2, .slice (some ⟨b7, 0, none⟩) 1 1] 23 (0, 0)) = P8 at hS8 hO
  clear hF
  have hOk : ∀ r ∈ [(⟨some ⟨b6, 0, none⟩, 2, [tA, tC]⟩ : RO), ⟨some ⟨b7, 0, none⟩, 1, [tB]⟩], RoOk E (P8 ++ (P7 ++ P6)) r := by
    intro r hr
    rcases List.mem_cons.1 hr with rfl | hr
    · exact (ro_sl hS6).more fun w hO => hO.as _
    · rw [List.mem_singleton] at hr
      subst hr
      exact (ro_sl hS7).more fun w hO => hO.as _
  refine (sMerge E _ _ _ (P8 ++ (P7 ++ P6)) (some ⟨b, 0, none⟩) _ 2 ((rows_sl hS8).more fun w hO => hO.as _) hOk (Nat.le_of_ble_eq_true rfl) (Nat.le_of_ble_eq_true rfl) hO).mono ?_
  rintro e w1 (⟨-, oa, ocap, out, O, rfl, hOut, hR, hC, hO⟩ | ⟨h, _⟩)
  rotate_left
  · exact absurd (fun r hr => by
      rcases List.mem_cons.1 hr with rfl | hr
      · exact rise_ac
      · rw [List.mem_singleton] at hr
        subst hr
        exact rise_one _) h
  obtain rfl : out = [tA, tB, tC] := rise_uniq hR rise_abc fun x => by
    rw [hC x]
    simp only [List.map_cons, List.map_nil, List.flatten_cons, List.flatten_nil, List.append_nil, List.count_append, List.count_cons, List.count_nil]
    omega
  clear hOk hS8 hS7 hS6 hR hC
  replace hO := hO.as (O ++ X)
  go_wp2_with (first | (refine at_bs ?_; first | (refine own_buildN (cells := ?_) sltStrs8 hO ?_ ?_ ?_ ?_ ?_ ?_; rotate_left; (· rfl); (· decide); (· decide); (· rfl); (· simp [Instr.fill, Act.eval, Value.cells, Array.replicate_succ]; exact rfl); clear hO; (try clear hF); intro b _ hO; ((try simp only [List.nil_append, List.append_nil] at hO); have hF := Own.cells hO; simp only [cellsOf_append, cellsOf_pt] at hF); simp only [Act.put, List.setIfInBounds_toArray, List.set_cons_zero, List.set_cons_succ]) | (refine own_build1 (v := ?_) sltStrs8 hO ?_ ?_ ?_ ?_ ?_ ?_; rotate_left; (· rfl); (· ((conv => lhs; whnf); try exact rfl)); (· rfl); (· decide); (· decide); clear hO; (try clear hF); intro b _ hO; (try simp only [Value.cells] at hO); ((try simp only [List.nil_append, List.append_nil] at hO); have hF := Own.cells hO; simp only [cellsOf_append, cellsOf_pt] at hF); simp only [Act.put, List.setIfInBounds_toArray, List.set_cons_zero, List.set_cons_succ]) | (refine own_buildN (cells := ?_) sltStrss hO ?_ ?_ ?_ ?_ ?_ ?_; rotate_left; (· rfl); (· decide); (· decide); (· rfl); (· simp [Instr.fill, Act.eval, Value.cells, Array.replicate_succ]; exact rfl); clear hO; (try clear hF); intro b _ hO; ((try simp only [List.nil_append, List.append_nil] at hO); have hF := Own.cells hO; simp only [cellsOf_append, cellsOf_pt] at hF); simp only [Act.put, List.setIfInBounds_toArray, List.set_cons_zero, List.set_cons_succ]) | (refine own_build1 (v := ?_) sltStrss hO ?_ ?_ ?_ ?_ ?_ ?_; rotate_left; (· rfl); (· ((conv => lhs; whnf); try exact rfl)); (· rfl); (· decide); (· decide); clear hO; (try clear hF); intro b _ hO; (try simp only [Value.cells] at hO); ((try simp only [List.nil_append, List.append_nil] at hO); have hF := Own.cells hO; simp only [cellsOf_append, cellsOf_pt] at hF); simp only [Act.put, List.setIfInBounds_toArray, List.set_cons_zero, List.set_cons_succ])))
  rename_i b13 _ _ _ _
  have hS6 : Sl 9 1 (some ⟨b13, 0, none⟩) 2 2 ([tC, tA].map .string) (pt b13 (.cells #[.string ⟨#[99]⟩, .string ⟨#[97]⟩] 9 (0, 0))) := Sl.mk (rest := []) rfl (by decide) (by decide) rfl
  have hS8 : Sl 23 1 (some ⟨b, 0, none⟩) 1 1 ([(⟨some ⟨b13, 0, none⟩, 2, [tC, tA]⟩ : RO)].map roV) (pt b (.cells #[.slice (some ⟨b13, 0, none⟩) 2 2] 23 (0, 0))) := Sl.mk (rest := []) rfl (by decide) (by decide) rfl
  generalize pt b13 (.cells #[.string ⟨#[99]⟩, .string ⟨#[97]⟩] 9 (0, 0)) = P6 at hS6 hO
  generalize pt b (.cells #[.slice (some ⟨b13, 0, none⟩) 2 2] 23 (0, 0)) = P8 at hS8 hO
  clear hF
  have hOk : ∀ r ∈ [(⟨some ⟨b13, 0, none⟩, 2, [tC, tA]⟩ : RO)], RoOk E (P8 ++ P6) r := by
    intro r hr
    rw [List.mem_singleton] at hr
    subst hr
    exact (ro_sl hS6).more fun w hO => hO.as _
  refine (sMerge E _ _ _ (P8 ++ P6) (some ⟨b, 0, none⟩) _ 1 ((rows_sl hS8).more fun w hO => hO.as _) hOk (Nat.le_of_ble_eq_true rfl) (Nat.le_of_ble_eq_true rfl) hO).mono ?_
  rintro e w1 (⟨h, _⟩ | ⟨-, rfl, hO⟩)
  · exact absurd (h _ (List.mem_singleton.2 rfl)) not_rise_ca
  clear hOk hS8 hS6
  replace hO := hO.as (O ++ X)
  go_wp2_with (first | (refine at_bs ?_; first | (refine own_buildN (cells := ?_) sltStrs8 hO ?_ ?_ ?_ ?_ ?_ ?_; rotate_left; (· rfl); (· decide); (· decide); (· rfl); (· simp [Instr.fill, Act.eval, Value.cells, Array.replicate_succ]; exact rfl); clear hO; (try clear hF); intro b _ hO; ((try simp only [List.nil_append, List.append_nil] at hO); have hF := Own.cells hO; simp only [cellsOf_append, cellsOf_pt] at hF); simp only [Act.put, List.setIfInBounds_toArray, List.set_cons_zero, List.set_cons_succ]) | (refine own_build1 (v := ?_) sltStrs8 hO ?_ ?_ ?_ ?_ ?_ ?_; rotate_left; (· rfl); (· ((conv => lhs; whnf); try exact rfl)); (· rfl); (· decide); (· decide); clear hO; (try clear hF); intro b _ hO; (try simp only [Value.cells] at hO); ((try simp only [List.nil_append, List.append_nil] at hO); have hF := Own.cells hO; simp only [cellsOf_append, cellsOf_pt] at hF); simp only [Act.put, List.setIfInBounds_toArray, List.set_cons_zero, List.set_cons_succ]) | (refine own_buildN (cells := ?_) sltStrss hO ?_ ?_ ?_ ?_ ?_ ?_; rotate_left; (· rfl); (· decide); (· decide); (· rfl); (· simp [Instr.fill, Act.eval, Value.cells, Array.replicate_succ]; exact rfl); clear hO; (try clear hF); intro b _ hO; ((try simp only [List.nil_append, List.append_nil] at hO); have hF := Own.cells hO; simp only [cellsOf_append, cellsOf_pt] at hF); simp only [Act.put, List.setIfInBounds_toArray, List.set_cons_zero, List.set_cons_succ]) | (refine own_build1 (v := ?_) sltStrss hO ?_ ?_ ?_ ?_ ?_ ?_; rotate_left; (· rfl); (· ((conv => lhs; whnf); try exact rfl)); (· rfl); (· decide); (· decide); clear hO; (try clear hF); intro b _ hO; (try simp only [Value.cells] at hO); ((try simp only [List.nil_append, List.append_nil] at hO); have hF := Own.cells hO; simp only [cellsOf_append, cellsOf_pt] at hF); simp only [Act.put, List.setIfInBounds_toArray, List.set_cons_zero, List.set_cons_succ])))
  have hS9 : Sl 9 1 (some ⟨b, 0, none⟩) 3 3 ([tA, tB, tC].map .string) (pt b (.cells #[.string ⟨#[97]⟩, .string ⟨#[98]⟩, .string ⟨#[99]⟩] 9 (0, 0))) := Sl.mk (rest := []) rfl (by decide) (by decide) rfl
  generalize pt b (.cells #[.string ⟨#[97]⟩, .string ⟨#[98]⟩, .string ⟨#[99]⟩] 9 (0, 0)) = P9 at hS9 hO
  clear hF
  refine (sSame E _ _ _ (P9 ++ O) oa (some ⟨b, 0, none⟩) [tA, tB, tC] [tA, tB, tC] ocap 3 ((txt_sl hOut).more fun w hO => hO.as _) ((txt_sl hS9).more fun w hO => hO.as _) (Nat.le_of_ble_eq_true rfl) hO).mono ?_
  rintro e w1 ⟨rfl, hO⟩
  go_wp2_with fail
  go_ret
  exact ⟨rfl, hO.as _⟩
end Go.Proofs.Ytnfclieaendgeaa
