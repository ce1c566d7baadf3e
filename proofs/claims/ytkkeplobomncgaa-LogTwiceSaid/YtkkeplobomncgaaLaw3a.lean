/- vestibulelaw03: same, awake, LogRefuses. -/
import Derived.Test.YtkkeplobomncgaaLog3
import Derived.Test.YtkkeplobomncgaaLog5
set_option linter.all false
namespace Go.Proofs.Ytkkeplobomncgaa
open Go Go.RowKit Go.Own Go.Dk

theorem sl_some {e : TypeId} {sz : Nat} {a : Option Addr} {n cap : Nat} {xs : List Value} {A : Fr} (h : Sl e sz a n cap xs A) (hn : 0 < n) : ∃ b, a = some ⟨b, 0, none⟩ := by
  rcases h.2.2.2 with ⟨_, hc, _⟩ | ⟨b, rest, hb, _, _⟩
  · have := h.le; omega
  · exact ⟨b, hb⟩

theorem sl_str {E w : World} {X R A : Fr} {a : Option Addr} {cap : Nat} {l : List ByteArray} {b : Nat} (h : Sl 9 1 a l.length cap (l.map .string) A) (hO : Own E w X) [hp : Pick X A R] (ha : a = some ⟨b, 0, none⟩) (i : Nat) (hi : i < l.length) :
    w.cell? ⟨b, i, none⟩ = some (.string (l[i])) := by
  have := h.cell hO ⟨b, 0, none⟩ ha i (by simpa using hi)
  rw [add_lit, Nat.zero_add] at this
  rw [this]
  simp

theorem str_ne (s : ByteArray) : (s.toList != s.toList) = false := by simp

set_option maxRecDepth 100000 in
set_option maxHeartbeats 4000000 in
theorem same3 (E w : World) (X R A B : Fr) (l : List ByteArray) (sa sb : Option Addr) (ca cb : Nat) (hA : Sl 9 1 sa l.length ca (l.map .string) A) (hB : Sl 9 1 sb l.length cb (l.map .string) B) (hO : Own E w X) [hp : Pick X (A ++ B) R] :
    Calls Try.prog 33 #[.slice sa l.length ca, .slice sb l.length cb] w fun e w' => e = .returned (.bool true) ∧ Own E w' (A ++ (B ++ R)) := by
  have hO0 : Own E w (A ++ (B ++ R)) := (hO.perm hp.perm).as _
  clear hp hO
  have hn : l.length ≤ maxLen := Nat.le_trans hA.le hA.cap_le
  unfold maxLen at hn
  go_enter Try.func33, Try.ntmps33
  go_wp2_with fail
  go_loopw [5] (fun i wr => ∃ j : Nat, i = .int .i64 j ∧ j ≤ l.length ∧ Own E wr (A ++ (B ++ R))) (fun i _ => l.length - (intOf i).toNat)
  case atStart => exact ⟨0, rfl, by omega, hO0⟩
  case round =>
    clear hO0
    obtain ⟨j, rfl, hj, hO⟩ := hrel
    by_cases hlt : j < l.length
    · have hj1 : (j : Int) < l.length := by omega
      have hj2 : (0 : Int) ≤ j := by omega
      obtain ⟨ba, rfl⟩ := sl_some hA (by omega)
      obtain ⟨bb, rfl⟩ := sl_some hB (by omega)
      go_wp2_with fail
      refine own_still (by kernel_rfl) (by kernel_rfl) hO ?_
      clear hO
      intro _ hO
      have hca := sl_str hA hO rfl j hlt
      have hcb := sl_str hB hO rfl j hlt
      (repeat still_step)
      refine wpStill_nil ?_
      clear hca hcb
      go_wp2_with fail
      go_roundw
      case rel => exact ⟨j + 1, by go_num, by omega, hO⟩
      case measure => simp [intOf]; omega
    · have hj1 : ¬ (j : Int) < l.length := by omega
      go_wp2_with fail
      go_ret
      exact ⟨rfl, hO⟩

theorem encs_none {l : List ByteArray} (h : encs l = []) : l = [] := by
  have := Go.Dk.encs_len l
  rw [h] at this
  exact List.eq_nil_of_length_eq_zero (by simpa using this)
theorem open_len {rs rs' : List Raw} {n : Nat} (h : rs' = rs ∨ rs' = rs ++ [.trim 0 n]) : rs'.length ≤ rs.length + 1 := by
  rcases h with rfl | rfl <;> simp
theorem ap_len (rs : List Raw) (recs : List ByteArray) (t : ByteArray) : (apR rs recs t).length ≤ rs.length + 2 := by
  unfold apR
  split <;> simp
theorem recs_ap {recs : List ByteArray} (h : Recs recs) (t : ByteArray) : Recs (apL recs t) := by
  unfold apL
  split
  · rename_i ha
    intro s hs
    rcases List.mem_append.1 hs with hs | hs
    · exact h s hs
    · cases List.mem_singleton.1 hs
      exact ⟨ha.1, by have := ha.2.1; omega⟩
  · exact h
theorem recs_nil : Recs [] := fun s hs => by simp at hs
/-- What an opening finds. -/
theorem open_same {rs : List Raw} {recs recs' : List ByteArray} {rest : List UInt8} (h : play rs 0 = encs recs) (hr : Recs recs) (h' : play rs 0 = encs recs' ++ rest) (hs : Stuck rest) (hr' : Recs recs') : recs' = recs :=
  (encs_uniq hr hr' (h.symm.trans h') hs).1.symm

def tA : ByteArray := ⟨#[97]⟩
def tB : ByteArray := ⟨#[98]⟩
theorem apE_a : apE [] ⟨#[97]⟩ = 0 := rfl
theorem apL_a : apL [] ⟨#[97]⟩ = [⟨#[97]⟩] := rfl
theorem apE_b : apE [⟨#[97]⟩] ⟨#[98]⟩ = 0 := rfl
theorem apL_b : apL [⟨#[97]⟩] ⟨#[98]⟩ = [⟨#[97]⟩, ⟨#[98]⟩] := rfl

set_option maxRecDepth 100000 in
set_option maxHeartbeats 4000000 in
theorem awake3 (E w : World) (X : Fr) (hO : Own E w X) : Calls Try.prog 32 #[] w fun e w' => e = .returned (.bool true) ∧ Own E w' X := by
  go_enter Try.func32, Try.ntmps32
  go_wp2_with fail
  refine (dNew E _ _ hO).mono ?_; rintro e w1 ⟨d, A, rfl, hA, hO⟩
  go_wp2_with fail
  refine (lOpen E _ _ _ A d [] hA (by simp) hO).mono ?_; rintro e w1 ⟨l, recs, rest, rs1, sa, cp, S, A1, rfl, hpl, hst, hrec, hrs, hpl1, hA1, hS, hO⟩
  obtain rfl : recs = [] := open_same (recs := []) rfl recs_nil hpl hst hrec
  have hl1 := open_len hrs
  clear hrs hpl
  go_wp2_with fail
  refine (lAppend E _ _ _ A1 l d [] _ rs1 hA1 hpl1 (by simp at hl1; omega) (by decide) hO).mono ?_; rintro e w1 ⟨he, A2, hA2, hO⟩; rw [apE_a] at he; subst he; rw [apL_a] at hO
  have hl2 := ap_len rs1 [] ⟨#[97]⟩
  have hp2 := play_ap hpl1 ⟨#[97]⟩
  rw [apL_a] at hp2
  go_wp2_with fail
  refine (lAppend E _ _ _ A2 l d _ _ _ hA2 hp2 (by simp at hl1; omega) (by decide) hO).mono ?_; rintro e w1 ⟨he, A3, hA3, hO⟩; rw [apE_b] at he; subst he; rw [apL_b] at hO
  have hl3 := ap_len (apR rs1 [] ⟨#[97]⟩) [⟨#[97]⟩] ⟨#[98]⟩
  have hp3 := play_ap hp2 ⟨#[98]⟩
  rw [apL_b] at hp3
  go_wp2_with fail
  refine (lOpen E _ _ _ A3 d _ hA3 (by simp at hl1; omega) hO).mono ?_; rintro e w1 ⟨l2, recs, rest, rs4, sa4, cp4, S4, A4, rfl, hpl, hst, hrec, hrs, hpl4, hA4, hS4, hO⟩
  obtain rfl : recs = [⟨#[97]⟩, ⟨#[98]⟩] := open_same hp3 (recs_ap (recs_ap recs_nil ⟨#[97]⟩) ⟨#[98]⟩) hpl hst hrec
  go_wp2_with (first | (refine at_bs ?_; go_must (refine own_buildN (cells := ?_) sltStrs hO ?_ ?_ ?_ ?_ ?_ ?_; rotate_left; (· rfl); (· decide); (· decide); (· rfl); (· simp [Instr.fill, Act.eval, Value.cells, Array.replicate_succ]; exact rfl); clear hO; (try clear hF); intro bs _ hO; ((try simp only [List.nil_append, List.append_nil] at hO); have hF := Own.cells hO; simp only [cellsOf_append, cellsOf_pt] at hF); simp only [Act.put, List.setIfInBounds_toArray, List.set_cons_zero, List.set_cons_succ])))
  have hB : Sl 9 1 (some ⟨bs, 0, none⟩) 2 2 ([⟨#[97]⟩, ⟨#[98]⟩].map .string) (pt bs (.cells #[.string ⟨#[97]⟩, .string ⟨#[98]⟩] 9 (0, 0))) := Sl.mk (rest := []) rfl (by decide) (by decide) rfl
  refine (same3 E _ _ _ S4 _ [⟨#[97]⟩, ⟨#[98]⟩] sa4 _ cp4 2 hS4 hB hO).mono ?_; rintro e w1 ⟨rfl, hO⟩
  go_wp2_with fail
  go_ret
  exact ⟨rfl, hO.as _⟩
end Go.Proofs.Ytkkeplobomncgaa
