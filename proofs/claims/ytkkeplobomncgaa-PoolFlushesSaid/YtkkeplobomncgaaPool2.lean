/- The pool's contracts: Unpin, Read, Pins, Write. -/
import Derived.Test.YtkkeplobomncgaaPool1
set_option linter.all false
namespace Go.Proofs.Ytkkeplobomncgaa
open Go Go.RowKit Go.Own Go.Dk

def chg (fs : List Frm) : Nat := (fs.filter (·.changed)).length
theorem chg_app (a b : List Frm) : chg (a ++ b) = chg a + chg b := by simp [chg]
theorem chg_cons (f : Frm) (b : List Frm) : chg (f :: b) = (if f.changed then 1 else 0) + chg b := by
  unfold chg
  cases h : f.changed <;> simp [List.filter_cons, h]
  omega

/-- The pool, its frames, its map and its disk: what each page holds, how often it is pinned; N: a bound of the raw writes. -/
def PoolS (p d most N : Nat) (cont : Nat → List UInt8) (pins : Nat → Nat) (A : Fr) : Prop :=
  ∃ hand fs l rs P D, PoolP p d most hand fs l P ∧ PInv most fs l (play rs 1) cont pins ∧ DiskAt d rs D ∧ (hand < fs.length ∨ hand = 0) ∧ rs.length + chg fs ≤ N ∧ A = P ++ D

theorem _root_.Go.Dk.PInv.mid {most : Nat} {fs : List Frm} {l : List (Int × Value)} {F : List UInt8} {cont : Nat → List UInt8} {pins : Nat → Nat} (h : PInv most fs l F cont pins) {k : Nat} (hk : 0 < pins k) : ∃ pre f post, fs = pre ++ f :: post ∧ f.page = k ∧ f.pins = pins k := by
  rcases page_cases fs k with ⟨pre, f, post, rfl, hf⟩ | hn
  · have : f.page = k := by omega
    exact ⟨pre, f, post, rfl, this, by rw [← this]; exact (h.pg f (by simp)).2.2⟩
  · have := h.out k (fun f hf e => hn f hf (by rw [e]))
    omega
theorem upd_id {α : Type} (f : Nat → α) (k : Nat) : upd f k (f k) = f := by
  funext i
  simp only [upd]
  split
  · rename_i h; rw [h]
  · rfl
theorem PoolP.same {pre post : List Frm} (f f' : Frm) {la : Option Addr} {lc : Nat} {S : Fr} (hb : f'.blk = f.blk) (h : Sl 103 1 la (pre ++ f :: post).length lc ((pre ++ f :: post).map ptrV) S) :
    Sl 103 1 la (pre ++ f' :: post).length lc ((pre ++ f' :: post).map ptrV) S := by
  have e1 : (pre ++ f' :: post).length = (pre ++ f :: post).length := by simp
  have e2 : (pre ++ f' :: post).map ptrV = (pre ++ f :: post).map ptrV := by simp [ptrV, hb]
  rw [e1, e2]
  exact h

set_option maxRecDepth 100000 in
set_option maxHeartbeats 4000000 in
theorem pUnpin_yes (E w : World) (X R A : Fr) (p d most N : Nat) (cont : Nat → List UInt8) (pins : Nat → Nat) (page : Nat) (hS : PoolS p d most N cont pins A) (hm : 0 < most) (h : 0 < pins page) (hb : pins page < 281474976710656) (hO : Own E w X) [hp : Pick X A R] :
    Calls Try.prog 37 #[.pointer (some ⟨p, 0, none⟩), .int .i64 page] w fun e w' => e = .returned (.int .i64 0) ∧ ∃ A', PoolS p d most N cont (upd pins page (pins page - 1)) A' ∧ Own E w' (A' ++ R) := by
  obtain ⟨hand, fs, l, rs, P, D, hP, hI, hD, hh, hN, rfl⟩ := hS
  obtain ⟨pre, f, post, rfl, hk, hfp⟩ := hI.mid h
  subst hk
  have hl := hI.look_in (f := f) (by simp)
  replace hO := hO.perm hp.perm
  clear hp
  go_enter Try.func37, Try.ntmps37
  go_wp2_with fail
  refine (pGiven E _ _ _ P p d most hand _ l hP hm hO).mono ?_; rintro e w1 ⟨rfl, rfl⟩
  go_wp2_with fail
  refine (pPinned_yes E _ _ _ P p d most hand pre post f l hP hl (by omega) hO).mono ?_; rintro e w1 ⟨rfl, rfl⟩
  obtain ⟨la, lc, mb, S, M, hS, hM, rfl⟩ := hP
  rw [frmsF_app, frmsF_cons] at hO
  unfold frmF at hO
  have hb1 : (f.pins : Int) < 281474976710656 := by omega
  have hb2 : (0 : Int) < f.pins := by omega
  have HFP := Lib.hid hfp
  clear hfp
  ((try simp only [List.nil_append, List.append_nil] at hO); have hF := Own.cells hO; simp only [cellsOf_append, cellsOf_pt] at hF)
  go_wp2_with (first | (refine own_store (v := ?_) (off := 2) (b := f.blk) hO ?_ ?_ ?_ ?_ ?_ ?_ ?_; rotate_left; (· rfl); (· ((conv => lhs; whnf); try exact rfl)); (· ((conv => lhs; whnf); try exact rfl)); (· simp [Value.cells]); (· simp [Value.cells, Value.oneCell']); (· simp [Value.cells]); clear hO; (try clear hF); intro _ hO; (try simp only [splice, Value.cells] at hO); ((try simp only [List.nil_append, List.append_nil] at hO); have hF := Own.cells hO; simp only [cellsOf_append, cellsOf_pt] at hF); simp only [Act.put, List.setIfInBounds_toArray, List.set_cons_zero, List.set_cons_succ]))
  simp only [splice, Value.cells, List.setIfInBounds_toArray, List.set_cons_zero, List.set_cons_succ] at hO
  go_ret
  have hfp := HFP.out
  have hi := hI.set (f' := { f with pins := f.pins - 1 }) rfl rfl (by rw [(hI.pg f (by simp)).2.1]; exact hI.clen _) (.inr ⟨rfl, rfl⟩)
  have e1 : ((f.pins : Int) - 1) = ((f.pins - 1 : Nat) : Int) := by omega
  rw [e1] at hO
  refine ⟨rfl, _, ⟨hand, pre ++ { f with pins := f.pins - 1 } :: post, l, rs, _, D, ⟨la, lc, mb, S, M, PoolP.same f _ rfl hS, hM, rfl⟩, ?_, hD, ?_, ?_, rfl⟩, ?_⟩
  · rw [← hfp]
    have e2 : upd cont f.page f.bytes = cont := by rw [(hI.pg f (by simp)).2.1]; exact upd_id _ _
    rw [e2] at hi
    exact hi
  · simpa using hh
  · rw [chg_app, chg_cons] at hN ⊢
    exact hN
  · rw [frmsF_app, frmsF_cons]
    unfold frmF
    have el : (pre ++ { f with pins := f.pins - 1 } :: post).length = (pre ++ f :: post).length := by simp
    rw [el]
    exact hO.as _

/-- No frame of the page is pinned. -/
theorem noPin {most : Nat} {fs : List Frm} {l : List (Int × Value)} {F : List UInt8} {cont : Nat → List UInt8} {pins : Nat → Nat} (hI : PInv most fs l F cont pins) {page : Int} (h : ∀ k : Nat, (k : Int) = page → pins k = 0) :
    (∀ f ∈ fs, (f.page : Int) = page → mlook l page = some (ptrV f) ∧ f.pins = 0) ∧ ((∀ f ∈ fs, (f.page : Int) ≠ page) → mlook l page = none) := by
  refine ⟨fun f hf e => ?_, fun hn => hI.look_out hn⟩
  subst e
  exact ⟨hI.look_in hf, by rw [(hI.pg f hf).2.2]; exact h _ rfl⟩

set_option maxRecDepth 100000 in
set_option maxHeartbeats 4000000 in
theorem pUnpin_no (E w : World) (X R A : Fr) (p d most N : Nat) (cont : Nat → List UInt8) (pins : Nat → Nat) (page : Int) (hS : PoolS p d most N cont pins A) (hm : 0 < most) (h : ∀ k : Nat, (k : Int) = page → pins k = 0) (hO : Own E w X) [hp : Pick X A R] :
    Calls Try.prog 37 #[.pointer (some ⟨p, 0, none⟩), .int .i64 page] w fun e w' => e = .returned (.int .i64 3) ∧ w = w' := by
  obtain ⟨hand, fs, l, rs, P, D, hP, hI, hD, hh, hN, rfl⟩ := hS
  obtain ⟨h1, h2⟩ := noPin hI h
  replace hO := hO.perm hp.perm
  clear hp
  go_enter Try.func37, Try.ntmps37
  go_wp2_with fail
  refine (pGiven E _ _ _ P p d most hand _ l hP hm hO).mono ?_; rintro e w1 ⟨rfl, rfl⟩
  go_wp2_with fail
  refine (pPinned_no E _ _ _ P p d most hand fs l page hP h1 h2 hO).mono ?_; rintro e w1 ⟨rfl, rfl⟩
  clear h1 h2
  go_wp2_with fail
  go_ret
  exact ⟨rfl, rfl⟩

set_option maxRecDepth 100000 in
set_option maxHeartbeats 4000000 in
theorem pRead_no (E w : World) (X R A : Fr) (p d most N : Nat) (cont : Nat → List UInt8) (pins : Nat → Nat) (page : Int) (hS : PoolS p d most N cont pins A) (hm : 0 < most) (h : ∀ k : Nat, (k : Int) = page → pins k = 0) (hO : Own E w X) [hp : Pick X A R] :
    Calls Try.prog 38 #[.pointer (some ⟨p, 0, none⟩), .int .i64 page] w fun e w' => e = .returned (.tuple #[.string .empty, .int .i64 3]) ∧ w = w' := by
  obtain ⟨hand, fs, l, rs, P, D, hP, hI, hD, hh, hN, rfl⟩ := hS
  obtain ⟨h1, h2⟩ := noPin hI h
  replace hO := hO.perm hp.perm
  clear hp
  go_enter Try.func38, Try.ntmps38
  go_wp2_with fail
  refine (pGiven E _ _ _ P p d most hand _ l hP hm hO).mono ?_; rintro e w1 ⟨rfl, rfl⟩
  go_wp2_with fail
  refine (pPinned_no E _ _ _ P p d most hand fs l page hP h1 h2 hO).mono ?_; rintro e w1 ⟨rfl, rfl⟩
  clear h1 h2
  go_wp2_with fail
  go_ret2
  exact ⟨rfl, rfl⟩

set_option maxRecDepth 100000 in
set_option maxHeartbeats 4000000 in
theorem pRead_yes (E w : World) (X R A : Fr) (p d most N : Nat) (cont : Nat → List UInt8) (pins : Nat → Nat) (page : Nat) (hS : PoolS p d most N cont pins A) (hm : 0 < most) (h : 0 < pins page) (hO : Own E w X) [hp : Pick X A R] :
    Calls Try.prog 38 #[.pointer (some ⟨p, 0, none⟩), .int .i64 page] w fun e w' => e = .returned (.tuple #[.string ⟨(cont page).toArray⟩, .int .i64 0]) ∧ w = w' := by
  obtain ⟨hand, fs, l, rs, P, D, hP, hI, hD, hh, hN, rfl⟩ := hS
  obtain ⟨pre, f, post, rfl, hk, hfp⟩ := hI.mid h
  subst hk
  have hl := hI.look_in (f := f) (by simp)
  have hfb := (hI.pg f (by simp)).2.1
  have hfl : f.bytes.length = 512 := by rw [hfb]; exact hI.clen _
  rw [← hfb]
  clear hfb
  replace hO := hO.perm hp.perm
  clear hp
  go_enter Try.func38, Try.ntmps38
  go_wp2_with fail
  refine (pGiven E _ _ _ P p d most hand _ l hP hm hO).mono ?_; rintro e w1 ⟨rfl, rfl⟩
  go_wp2_with fail
  refine (pPinned_yes E _ _ _ P p d most hand pre post f l hP hl (by omega) hO).mono ?_; rintro e w1 ⟨rfl, rfl⟩
  obtain ⟨la, lc, mb, S, M, hS, hM, rfl⟩ := hP
  rw [frmsF_app, frmsF_cons] at hO
  unfold frmF at hO
  clear hfp
  ((try simp only [List.nil_append, List.append_nil] at hO); have hF := Own.cells hO; simp only [cellsOf_append, cellsOf_pt] at hF)
  go_wp2_with (first | (refine at_conv ?_; go_must (refine own_bytes_str (e := 5) (ad := some ⟨f.bb, 0, none⟩) (n := 512) (cap := 512) (l := f.bytes) (by kernel_rfl) (by kernel_rfl) (by kernel_rfl) ?_ ?_ ?_ ?_ ?_ ?_; (· rfl); (· rfl); (· exact hfl); (· intro b hb j v hj; cases hb; rw [add_lit, hO.cell (b := f.bb)]; simpa using hj); (· intro h; cases h); simp only [Act.put, List.setIfInBounds_toArray, List.set_cons_zero, List.set_cons_succ])))
  go_ret2
  exact ⟨rfl, rfl⟩

set_option maxRecDepth 100000 in
set_option maxHeartbeats 4000000 in
theorem pPins (E w : World) (X R A : Fr) (p d most N : Nat) (cont : Nat → List UInt8) (pins : Nat → Nat) (page : Nat) (hS : PoolS p d most N cont pins A) (hm : 0 < most) (hO : Own E w X) [hp : Pick X A R] :
    Calls Try.prog 39 #[.pointer (some ⟨p, 0, none⟩), .int .i64 page] w fun e w' => e = .returned (.int .i64 (pins page)) ∧ w = w' := by
  obtain ⟨hand, fs, l, rs, P, D, hP, hI, hD, hh, hN, rfl⟩ := hS
  rcases page_cases fs page with ⟨pre, f, post, rfl, hk⟩ | hk
  · have hk' : f.page = page := by omega
    subst hk'
    have hl := hI.look_in (f := f) (by simp)
    rw [← (hI.pg f (by simp)).2.2]
    replace hO := hO.perm hp.perm
    clear hp hk
    go_enter Try.func39, Try.ntmps39
    go_wp2_with fail
    refine (pGiven E _ _ _ P p d most hand _ l hP hm hO).mono ?_; rintro e w1 ⟨rfl, rfl⟩
    obtain ⟨la, lc, mb, S, M, hS, hM, rfl⟩ := hP
    rw [frmsF_app, frmsF_cons] at hO
    unfold frmF at hO
    unfold ptrV at hl
    ((try simp only [List.nil_append, List.append_nil] at hO); have hF := Own.cells hO; simp only [cellsOf_append, cellsOf_pt] at hF)
    go_wp2_with (refine at_lookup ?_; go_must (refine own_lookup (kt := 3) (et := 103) (b := mb) (k := f.page) (l := l) (by kernel_rfl) (by kernel_rfl) zeroFP hO hM ?_ ?_ ?_ ?_; (· rfl); (· rfl); (· rfl); rw [hl]; simp only [Act.put, List.setIfInBounds_toArray, List.set_cons_zero, List.set_cons_succ]))
    go_ret
    exact ⟨rfl, rfl⟩
  · have hl := hI.look_out hk
    have h0 := hI.out page (fun f hf e => hk f hf (by rw [e]))
    rw [h0]
    clear h0 hk
    replace hO := hO.perm hp.perm
    clear hp
    go_enter Try.func39, Try.ntmps39
    go_wp2_with fail
    refine (pGiven E _ _ _ P p d most hand _ l hP hm hO).mono ?_; rintro e w1 ⟨rfl, rfl⟩
    obtain ⟨la, lc, mb, S, M, hS, hM, rfl⟩ := hP
    ((try simp only [List.nil_append, List.append_nil] at hO); have hF := Own.cells hO; simp only [cellsOf_append, cellsOf_pt] at hF)
    go_wp2_with (refine at_lookup ?_; go_must (refine own_lookup (kt := 3) (et := 103) (b := mb) (k := page) (l := l) (by kernel_rfl) (by kernel_rfl) zeroFP hO hM ?_ ?_ ?_ ?_; (· rfl); (· rfl); (· rfl); rw [hl]; simp only [Act.put, List.setIfInBounds_toArray, List.set_cons_zero, List.set_cons_succ]))
    go_ret
    exact ⟨rfl, rfl⟩
end Go.Proofs.Ytkkeplobomncgaa
