/- The pool's contracts: the clock's hand. -/
import Derived.Test.YtkkeplobomncgaaPool4
set_option linter.all false
namespace Go.Proofs.Ytkkeplobomncgaa
open Go Go.RowKit Go.Own Go.Dk

def strp (f : Frm) : Frm := { f with lately := false }
theorem strp_strp (f : Frm) : strp (strp f) = strp f := rfl
theorem strp_len {a b : List Frm} (h : a.map strp = b.map strp) : a.length = b.length := by
  have := congrArg List.length h
  simpa using this
theorem strp_map {α : Type} {g : Frm → α} (hg : ∀ f, g (strp f) = g f) {a b : List Frm} (h : a.map strp = b.map strp) : a.map g = b.map g := by
  have e : ∀ l : List Frm, l.map g = (l.map strp).map g := fun l => by
    rw [List.map_map]
    exact List.map_congr_left fun f _ => (hg f).symm
  rw [e a, e b, h]
theorem split_at (l : List Frm) (m : Nat) (h : m < l.length) : ∃ pre f post, l = pre ++ f :: post ∧ pre.length = m := by
  refine ⟨l.take m, l[m], l.drop (m + 1), ?_, by rw [List.length_take]; omega⟩
  rw [List.getElem_cons_drop, List.take_append_drop]
def VicPost (E : World) (p d most : Nat) (fs : List Frm) (l : List (Int × Value)) (R : Fr) (e : Ending) (w' : World) : Prop :=
  ∃ hand' fs' P', PoolP p d most hand' fs' l P' ∧ hand' < fs'.length ∧ fs'.map strp = fs.map strp ∧ Own E w' (P' ++ R) ∧
    ((∃ pre f post, fs' = pre ++ f :: post ∧ f.pins = 0 ∧ e = .returned (.pointer (some ⟨f.blk, 0, none⟩))) ∨ ((∀ f ∈ fs', f.pins ≠ 0) ∧ e = .returned (.pointer none)))
theorem rem_nat (m n : Nat) (hn : 0 < n) : ((m : Int) + 1).tmod (n : Int) = (((m + 1) % n : Nat) : Int) := by
  rw [Int.tmod_eq_emod_of_nonneg (by omega), show (m : Int) + 1 = ((m + 1 : Nat) : Int) by omega]
  rfl
theorem sl_some4 {e : TypeId} {sz : Nat} {a : Option Addr} {n cap : Nat} {xs : List Value} {A : Fr} (h : Sl e sz a n cap xs A) (hn : 0 < n) : ∃ b, a = some ⟨b, 0, none⟩ := by
  rcases h.2.2.2 with ⟨_, hc, _⟩ | ⟨b, rest, hb, _, _⟩
  · have := h.le; omega
  · exact ⟨b, hb⟩

theorem mid_get (pre post : List Frm) (f g : Frm) (k : Nat) : (pre ++ g :: post)[k]? = if k = pre.length then some g else (pre ++ f :: post)[k]? := by
  by_cases h : k = pre.length
  · subst h
    simp
  · rw [if_neg h]
    by_cases h1 : k < pre.length
    · rw [List.getElem?_append_left h1, List.getElem?_append_left h1]
    · rw [List.getElem?_append_right (by omega), List.getElem?_append_right (by omega)]
      have : k - pre.length = (k - pre.length - 1) + 1 := by omega
      rw [this, List.getElem?_cons_succ, List.getElem?_cons_succ]
theorem vic_step {hand n i m : Nat} {pre post : List Frm} {f : Frm} (hm : (hand + i) % n = m) (hpre : pre.length = m)
    (hv1 : ∀ j, j < i → j < n → (((pre ++ f :: post)[(hand + j) % n]?).map (·.lately)) = some false) (hv2 : ∀ j, n ≤ j → j < i → ∀ g, (pre ++ f :: post)[(hand + j) % n]? = some g → g.pins ≠ 0) (hc : n ≤ i → f.pins ≠ 0) :
    (∀ j, j < i + 1 → j < n → (((pre ++ strp f :: post)[(hand + j) % n]?).map (·.lately)) = some false) ∧ (∀ j, n ≤ j → j < i + 1 → ∀ g, (pre ++ strp f :: post)[(hand + j) % n]? = some g → g.pins ≠ 0) := by
  refine ⟨fun j hj hjn => ?_, fun j hjn hj g hg => ?_⟩
  · rw [mid_get pre post f (strp f)]
    split
    · rfl
    · rename_i hk
      refine hv1 j ?_ hjn
      by_cases e : j = i
      · subst e
        exact absurd (hm.trans hpre.symm) hk
      · omega
  · rw [mid_get pre post f (strp f)] at hg
    by_cases hk : (hand + j) % n = pre.length
    · rw [if_pos hk] at hg
      cases hg
      show f.pins ≠ 0
      by_cases e : j = i
      · exact hc (by omega)
      · exact hv2 j hjn (by omega) f (by rw [hk]; simp)
    · rw [if_neg hk] at hg
      refine hv2 j hjn ?_ g hg
      by_cases e : j = i
      · subst e
        exact absurd (hm.trans hpre.symm) hk
      · omega
theorem vic_again {hand n i m : Nat} {pre post : List Frm} {f : Frm} (hm : (hand + i) % n = m) (hpre : pre.length = m) (hi : i < 2 * n) (hv1 : ∀ j, j < i → j < n → (((pre ++ f :: post)[(hand + j) % n]?).map (·.lately)) = some false) (h : n ≤ i) : f.lately = false := by
  have h1 : (hand + (i - n)) % n = m := by
    rw [← hm, show hand + i = hand + (i - n) + n by omega, Nat.add_mod_right]
  have := hv1 (i - n) (by omega) (by omega)
  rw [h1, ← hpre] at this
  simpa using this
theorem vic_end {hand n : Nat} {fs : List Frm} (hn : 0 < n) (hl : fs.length = n) (hh : hand < n) (hv2 : ∀ j, n ≤ j → j < 2 * n → ∀ g, fs[(hand + j) % n]? = some g → g.pins ≠ 0) : ∀ g ∈ fs, g.pins ≠ 0 := by
  intro g hg
  obtain ⟨k, hk, rfl⟩ := List.mem_iff_getElem.1 hg
  refine hv2 (n + (k + n - hand) % n) (by omega) (by have := Nat.mod_lt (k + n - hand) hn; omega) _ ?_
  have e : (hand + (n + (k + n - hand) % n)) % n = k := by
    rw [show hand + (n + (k + n - hand) % n) = (hand + (k + n - hand) % n) + n by omega, Nat.add_mod_right, Nat.add_mod_mod, show hand + (k + n - hand) = k + n by omega, Nat.add_mod_right, Nat.mod_eq_of_lt (by omega)]
  rw [e, List.getElem?_eq_getElem hk]

set_option maxRecDepth 100000 in
set_option maxHeartbeats 4000000 in
theorem pVictim (E w : World) (X R P : Fr) (p d most hand : Nat) (fs : List Frm) (l : List (Int × Value)) (hP : PoolP p d most hand fs l P) (hh : hand < fs.length) (hn : fs.length ≤ 1024) (hO : Own E w X) [hp : Pick X P R] :
    Calls Try.prog 55 #[.pointer (some ⟨p, 0, none⟩)] w (VicPost E p d most fs l R) := by
  obtain ⟨la, lc, mb, S, M, hS, hM, rfl⟩ := hP
  replace hO := hO.perm hp.perm
  clear hp
  have hO0 := hO
  generalize hnl : fs.length = n at hO0 hn hh hS
  rw [hnl] at hO
  have hn1 : (n : Int) ≤ 1024 := by omega
  ((try simp only [List.nil_append, List.append_nil] at hO); have hF := Own.cells hO; simp only [cellsOf_append, cellsOf_pt] at hF)
  go_enter Try.func55, Try.ntmps55
  go_wp2_with fail
  clear hF hO
  go_loopw [10] (fun s10 wr => ∃ (i : Nat) (fs' : List Frm), s10 = .int .i64 i ∧ i ≤ 2 * n ∧ fs'.map strp = fs.map strp ∧ (∀ j, j < i → j < n → ((fs'[(hand + j) % n]?).map (·.lately)) = some false) ∧ (∀ j, n ≤ j → j < i → ∀ f, fs'[(hand + j) % n]? = some f → f.pins ≠ 0) ∧
      Own E wr (pt p (.cells #[.pointer (some ⟨d, 0, none⟩), .int .i64 most, .slice la n lc, .int .i64 ((hand + i) % n : Nat), .map (some mb)] 90 (0, 0)) ++ (S ++ (M ++ (frmsF fs' ++ R))))) (fun s10 _ => 2 * n - (intOf s10).toNat)
  case atStart =>
    refine ⟨0, fs, rfl, by omega, rfl, fun j hj => by omega, fun j h1 h2 => by omega, ?_⟩
    rw [Nat.add_zero, Nat.mod_eq_of_lt hh]
    exact hO0.as _
  case round =>
    clear hO0
    obtain ⟨i, fs', rfl, hi, hst, hv1, hv2, hO⟩ := hrel
    have hl' : fs'.length = n := by rw [strp_len hst, hnl]
    by_cases hlt : i < 2 * n
    · have hlt1 : (i : Int) < 2 * (n : Int) := by omega
      have hm : (hand + i) % n < n := Nat.mod_lt _ (by omega)
      obtain ⟨pre, f, post, rfl, hpre⟩ := split_at fs' ((hand + i) % n) (by omega)
      have hnext : ((hand + i) % n + 1) % n = (hand + (i + 1)) % n := by rw [Nat.mod_add_mod]; rfl
      have HV1 := Lib.hid hv1
      have HV2 := Lib.hid hv2
      clear hv1 hv2
      have hrowl := strp_map (g := ptrV) (fun _ => rfl) hst
      generalize hmm : (hand + i) % n = m at hO hm hpre hnext
      have hnext' : ((m + 1 : Nat) : Int) = (m : Int) + 1 := by omega
      have hrem := rem_nat m n (by omega)
      have hm'n : (m + 1) % n < n := Nat.mod_lt _ (by omega)
      generalize (m + 1) % n = m' at hnext hrem hm'n
      have HN := Lib.hid hnext
      clear hnext
      have hm1 : (m : Int) < n := by omega
      have hm0 : (0 : Int) ≤ m := by omega
      have hn0 : (n : Int) ≠ 0 := by omega
      have hn00 : n ≠ 0 := by omega
      have hwr : IntKind.i64.wrap ((m : Int) + 1) = (m : Int) + 1 := by
        simp only [IntKind.wrap, show IntKind.bits .i64 = 64 from rfl, show IntKind.signed .i64 = true from rfl]
        rw [Int.emod_eq_of_lt (by omega) (by omega), if_neg (by simp; omega)]
      obtain ⟨lb, rfl⟩ := sl_some4 hS (by omega)
      have hcell : ∀ (w' : World) (X' R' : Fr) (hO' : Own E w' X') (hp : Pick X' S R'), w'.cell? ⟨lb, m, none⟩ = some (.pointer (some ⟨f.blk, 0, none⟩)) := by
        intro w' X' R' hO' hp
        have hg : (fs.map ptrV)[m]? = some (ptrV f) := by
          rw [← hrowl, List.map_append, List.map_cons, List.getElem?_append_right (by rw [List.length_map]; omega), List.length_map, hpre, Nat.sub_self]
          rfl
        obtain ⟨hlt, hv⟩ := List.getElem?_eq_some_iff.1 hg
        have := hS.cell hO' ⟨lb, 0, none⟩ rfl m hlt
        rw [add_lit, Nat.zero_add, hv] at this
        exact this
      have HC := Lib.hid hcell
      have HST := Lib.hid hst
      clear hcell hrowl hst
      rw [frmsF_app, frmsF_cons] at hO
      unfold frmF at hO
      go_wp2_with fail
      refine own_still (by kernel_rfl) (by kernel_rfl) hO ?_; clear hO; intro _ hO; ((try simp only [List.nil_append, List.append_nil] at hO); have hF := Own.cells hO; simp only [cellsOf_append, cellsOf_pt] at hF)
      have hc := HC.out _ _ _ hO inferInstance
      repeat still_step
      refine wpStill_nil ?_
      clear hc
      go_wp2_with fail
      refine own_still_tail 12 (by kernel_rfl) (by kernel_rfl) hO ?_; clear hO hF; intro _ hO; ((try simp only [List.nil_append, List.append_nil] at hO); have hF := Own.cells hO; simp only [cellsOf_append, cellsOf_pt] at hF); simp only [List.take_succ_cons, List.take_zero, List.drop_succ_cons, List.drop_zero]; (repeat still_step); (try refine wpStill_nil ?_)
      clear hnext'
      rcases Nat.eq_zero_or_pos f.pins with hp0 | hp0
      · have hpi : (f.pins : Int) = 0 := by omega
        cases hla : f.lately
        · rw [hla] at hO
          clear hF
          ((try simp only [List.nil_append, List.append_nil] at hO); have hF := Own.cells hO; simp only [cellsOf_append, cellsOf_pt] at hF)
          go_wp2_with (first | (refine own_store (v := ?_) (off := 3) (b := p) hO ?_ ?_ ?_ ?_ ?_ ?_ ?_; rotate_left; (· rfl); (· ((conv => lhs; whnf); try exact rfl)); (· ((conv => lhs; whnf); try exact rfl)); (· simp [Value.cells]); (· simp [Value.cells, Value.oneCell']); (· simp [Value.cells]); clear hO; (try clear hF); intro _ hO; (try simp only [splice, Value.cells] at hO); ((try simp only [List.nil_append, List.append_nil] at hO); have hF := Own.cells hO; simp only [cellsOf_append, cellsOf_pt] at hF); simp only [Act.put, List.setIfInBounds_toArray, List.set_cons_zero, List.set_cons_succ]))
          (try simp only [splice, Value.cells, List.setIfInBounds_toArray, List.set_cons_zero, List.set_cons_succ] at hO)
          go_ret
          have hst : (pre ++ strp f :: post).map strp = fs.map strp := by rw [← HST.out]; simp [strp_strp]
          have hlen : (pre ++ strp f :: post).length = n := by rw [strp_len hst, hnl]
          refine ⟨m', pre ++ strp f :: post, _, ⟨_, lc, mb, S, M, by rw [hlen, strp_map (g := ptrV) (fun _ => rfl) hst]; exact hS, hM, rfl⟩, by rw [hlen]; exact hm'n, hst, ?_, .inl ⟨pre, strp f, post, rfl, hp0, rfl⟩⟩
          rw [hlen, frmsF_app, frmsF_cons]
          unfold frmF strp
          exact hO.as _
        · rw [hla] at hO
          clear hF
          ((try simp only [List.nil_append, List.append_nil] at hO); have hF := Own.cells hO; simp only [cellsOf_append, cellsOf_pt] at hF)
          go_wp2_with (first | (refine own_store (v := ?_) (off := 3) (b := p) hO ?_ ?_ ?_ ?_ ?_ ?_ ?_; rotate_left; (· rfl); (· ((conv => lhs; whnf); try exact rfl)); (· ((conv => lhs; whnf); try exact rfl)); (· simp [Value.cells]); (· simp [Value.cells, Value.oneCell']); (· simp [Value.cells]); clear hO; (try clear hF); intro _ hO; (try simp only [splice, Value.cells] at hO); ((try simp only [List.nil_append, List.append_nil] at hO); have hF := Own.cells hO; simp only [cellsOf_append, cellsOf_pt] at hF); simp only [Act.put, List.setIfInBounds_toArray, List.set_cons_zero, List.set_cons_succ]) | (refine own_store (v := ?_) (off := 4) (b := f.blk) hO ?_ ?_ ?_ ?_ ?_ ?_ ?_; rotate_left; (· rfl); (· ((conv => lhs; whnf); try exact rfl)); (· ((conv => lhs; whnf); try exact rfl)); (· simp [Value.cells]); (· simp [Value.cells, Value.oneCell']); (· simp [Value.cells]); clear hO; (try clear hF); intro _ hO; (try simp only [splice, Value.cells] at hO); ((try simp only [List.nil_append, List.append_nil] at hO); have hF := Own.cells hO; simp only [cellsOf_append, cellsOf_pt] at hF); simp only [Act.put, List.setIfInBounds_toArray, List.set_cons_zero, List.set_cons_succ]))
          (try simp only [splice, Value.cells, List.setIfInBounds_toArray, List.set_cons_zero, List.set_cons_succ] at hO)
          go_roundw
          case rel =>
            have hst : (pre ++ strp f :: post).map strp = fs.map strp := by rw [← HST.out]; simp [strp_strp]
            obtain ⟨q1, q2⟩ := vic_step hmm hpre HV1.out HV2.out (fun h => by have := vic_again hmm hpre hlt HV1.out h; rw [hla] at this; cases this)
            refine ⟨i + 1, pre ++ strp f :: post, by go_num, by omega, hst, q1, q2, ?_⟩
            rw [← HN.out, frmsF_app, frmsF_cons]
            unfold frmF strp
            exact hO.as _
          case measure => simp [intOf]; omega
      · have hpi : ¬ (f.pins : Int) = 0 := by omega
        clear hF
        ((try simp only [List.nil_append, List.append_nil] at hO); have hF := Own.cells hO; simp only [cellsOf_append, cellsOf_pt] at hF)
        go_wp2_with (first | (refine own_store (v := ?_) (off := 3) (b := p) hO ?_ ?_ ?_ ?_ ?_ ?_ ?_; rotate_left; (· rfl); (· ((conv => lhs; whnf); try exact rfl)); (· ((conv => lhs; whnf); try exact rfl)); (· simp [Value.cells]); (· simp [Value.cells, Value.oneCell']); (· simp [Value.cells]); clear hO; (try clear hF); intro _ hO; (try simp only [splice, Value.cells] at hO); ((try simp only [List.nil_append, List.append_nil] at hO); have hF := Own.cells hO; simp only [cellsOf_append, cellsOf_pt] at hF); simp only [Act.put, List.setIfInBounds_toArray, List.set_cons_zero, List.set_cons_succ]) | (refine own_store (v := ?_) (off := 4) (b := f.blk) hO ?_ ?_ ?_ ?_ ?_ ?_ ?_; rotate_left; (· rfl); (· ((conv => lhs; whnf); try exact rfl)); (· ((conv => lhs; whnf); try exact rfl)); (· simp [Value.cells]); (· simp [Value.cells, Value.oneCell']); (· simp [Value.cells]); clear hO; (try clear hF); intro _ hO; (try simp only [splice, Value.cells] at hO); ((try simp only [List.nil_append, List.append_nil] at hO); have hF := Own.cells hO; simp only [cellsOf_append, cellsOf_pt] at hF); simp only [Act.put, List.setIfInBounds_toArray, List.set_cons_zero, List.set_cons_succ]))
        (try simp only [splice, Value.cells, List.setIfInBounds_toArray, List.set_cons_zero, List.set_cons_succ] at hO)
        go_roundw
        case rel =>
          have hst : (pre ++ strp f :: post).map strp = fs.map strp := by rw [← HST.out]; simp [strp_strp]
          obtain ⟨q1, q2⟩ := vic_step hmm hpre HV1.out HV2.out (fun h => by omega)
          refine ⟨i + 1, pre ++ strp f :: post, by go_num, by omega, hst, q1, q2, ?_⟩
          rw [← HN.out, frmsF_app, frmsF_cons]
          unfold frmF strp
          exact hO.as _
        case measure => simp [intOf]; omega
    · have hlt1 : ¬ (i : Int) < 2 * (n : Int) := by omega
      obtain rfl : i = 2 * n := by omega
      go_wp2_with fail
      go_ret
      have hlen : fs'.length = n := hl'
      refine ⟨(hand + 2 * n) % n, fs', _, ⟨_, lc, mb, S, M, by rw [hlen, strp_map (g := ptrV) (fun _ => rfl) hst]; exact hS, hM, rfl⟩, by rw [hlen]; exact Nat.mod_lt _ (by omega), hst, ?_, .inr ⟨vic_end (by omega) hlen hh hv2, rfl⟩⟩
      rw [hlen]
      exact hO.as _
end Go.Proofs.Ytkkeplobomncgaa
