/- The pool's contracts: Write, the writing back of a frame. -/
import Derived.Test.YtkkeplobomncgaaPool2
set_option linter.all false
namespace Go.Proofs.Ytkkeplobomncgaa
open Go Go.RowKit Go.Own Go.Dk

def putB (l : List UInt8) (k : Nat) (s : List UInt8) : List UInt8 := l.take k ++ s ++ l.drop (k + s.length)
theorem putB_length {l s : List UInt8} {k : Nat} (h : k + s.length ≤ l.length) : (putB l k s).length = l.length := by
  simp only [putB, List.length_append, List.length_take, List.length_drop]
  omega
theorem putB_nil (l : List UInt8) (k : Nat) : putB l k [] = l := by simp [putB]

/-- The bytes of a frame as a slice that owns its row. -/
theorem frmS (f : Frm) (h : f.bytes.length = 512) : Sl 5 1 (some ⟨f.bb, 0, none⟩) 512 512 (bytesV f.bytes) (pt f.bb (.cells (bytesV f.bytes).toArray 5 (0, 0))) := by
  have := Sl.mk (e := 5) (sz := 1) (b := f.bb) (n := 512) (cap := 512) (xs := bytesV f.bytes) (rest := []) (by rw [bytesV_length, h]) (by decide) (by decide) (by rw [List.append_nil, bytesV_length, h])
  rwa [List.append_nil] at this
theorem sl_full {e : TypeId} {b n : Nat} {xs : List Value} {A : Fr} (h : Sl e 1 (some ⟨b, 0, none⟩) n n xs A) : A = pt b (.cells xs.toArray e (0, 0)) := by
  obtain ⟨h1, _, _, h | ⟨b', rest, hb, hl, rfl⟩⟩ := h
  · cases h.1
  · cases hb
    rw [List.length_append, h1] at hl
    have : rest = [] := List.eq_nil_of_length_eq_zero (by omega)
    subst this
    rw [List.append_nil]

set_option maxRecDepth 100000 in
set_option maxHeartbeats 4000000 in
theorem pWrite_no (E w : World) (X R A : Fr) (p d most N : Nat) (cont : Nat → List UInt8) (pins : Nat → Nat) (page at_ : Int) (s : ByteArray) (hS : PoolS p d most N cont pins A) (hm : 0 < most) (h : ∀ k : Nat, (k : Int) = page → pins k = 0) (hO : Own E w X) [hp : Pick X A R] :
    Calls Try.prog 36 #[.pointer (some ⟨p, 0, none⟩), .int .i64 page, .int .i64 at_, .string s] w fun e w' => e = .returned (.int .i64 3) ∧ w = w' := by
  obtain ⟨hand, fs, l, rs, P, D, hP, hI, hD, hh, hN, rfl⟩ := hS
  obtain ⟨h1, h2⟩ := noPin hI h
  replace hO := hO.perm hp.perm
  clear hp
  go_enter Try.func36, Try.ntmps36
  go_wp2_with fail
  refine (pGiven E _ _ _ P p d most hand _ l hP hm hO).mono ?_; rintro e w1 ⟨rfl, rfl⟩
  go_wp2_with fail
  refine (pPinned_no E _ _ _ P p d most hand fs l page hP h1 h2 hO).mono ?_; rintro e w1 ⟨rfl, rfl⟩
  clear h1 h2
  go_wp2_with fail
  go_ret
  exact ⟨rfl, rfl⟩

set_option maxRecDepth 100000 in
set_option maxHeartbeats 4000000 in
theorem pWrite_bad (E w : World) (X R A : Fr) (p d most N : Nat) (cont : Nat → List UInt8) (pins : Nat → Nat) (page : Nat) (at_ : Int) (s : ByteArray) (hS : PoolS p d most N cont pins A) (hm : 0 < most) (h : 0 < pins page) (hat : at_ < 0 ∨ 512 < at_ ∨ 512 - at_ < s.size) (hO : Own E w X) [hp : Pick X A R] :
    Calls Try.prog 36 #[.pointer (some ⟨p, 0, none⟩), .int .i64 page, .int .i64 at_, .string s] w fun e w' => e = .returned (.int .i64 1) ∧ w = w' := by
  obtain ⟨hand, fs, l, rs, P, D, hP, hI, hD, hh, hN, rfl⟩ := hS
  obtain ⟨pre, f, post, rfl, hk, hfp⟩ := hI.mid h
  subst hk
  have hl := hI.look_in (f := f) (by simp)
  replace hO := hO.perm hp.perm
  clear hp
  go_enter Try.func36, Try.ntmps36
  go_wp2_with fail
  refine (pGiven E _ _ _ P p d most hand _ l hP hm hO).mono ?_; rintro e w1 ⟨rfl, rfl⟩
  go_wp2_with fail
  refine (pPinned_yes E _ _ _ P p d most hand pre post f l hP hl (by omega) hO).mono ?_; rintro e w1 ⟨rfl, rfl⟩
  clear hfp hl
  by_cases h1 : at_ < 0
  · clear hat
    go_wp2_with fail
    go_ret
    exact ⟨rfl, rfl⟩
  · by_cases h2 : 512 < at_
    · clear hat
      go_wp2_with fail
      go_ret
      exact ⟨rfl, rfl⟩
    · have h3 : 512 - at_ < s.size := by omega
      clear hat
      go_wp2_with fail
      go_ret
      exact ⟨rfl, rfl⟩

set_option maxRecDepth 100000 in
set_option maxHeartbeats 4000000 in
theorem pWrite_ok (E w : World) (X R A : Fr) (p d most N : Nat) (cont : Nat → List UInt8) (pins : Nat → Nat) (page at_ : Nat) (s : ByteArray) (hS : PoolS p d most N cont pins A) (hm : 0 < most) (h : 0 < pins page) (hat : at_ + s.size ≤ 512) (hO : Own E w X) [hp : Pick X A R] :
    Calls Try.prog 36 #[.pointer (some ⟨p, 0, none⟩), .int .i64 page, .int .i64 at_, .string s] w fun e w' => e = .returned (.int .i64 0) ∧ ∃ A', PoolS p d most (N + 1) (upd cont page (putB (cont page) at_ s.data.toList)) pins A' ∧ Own E w' (A' ++ R) := by
  obtain ⟨hand, fs, l, rs, P, D, hP, hI, hD, hh, hN, rfl⟩ := hS
  obtain ⟨pre, f, post, rfl, hk, hfp⟩ := hI.mid h
  subst hk
  have hl := hI.look_in (f := f) (by simp)
  have hfb := (hI.pg f (by simp)).2.1
  have hfl : f.bytes.length = 512 := by rw [hfb]; exact hI.clen _
  have hSf := frmS f hfl
  have hsz : s.data.toList.length = s.size := by rw [Array.length_toList]; rfl
  replace hO := hO.perm hp.perm
  clear hp
  go_enter Try.func36, Try.ntmps36
  go_wp2_with fail
  refine (pGiven E _ _ _ P p d most hand _ l hP hm hO).mono ?_; rintro e w1 ⟨rfl, rfl⟩
  go_wp2_with fail
  refine (pPinned_yes E _ _ _ P p d most hand pre post f l hP hl (by omega) hO).mono ?_; rintro e w1 ⟨rfl, rfl⟩
  obtain ⟨la, lc, mb, S, M, hS, hM, rfl⟩ := hP
  rw [frmsF_app, frmsF_cons] at hO
  unfold frmF at hO
  have hi := hI.set (f' := { f with bytes := putB f.bytes at_ s.data.toList, changed := f.changed || !(s.toList == []) }) rfl rfl (by rw [putB_length (by omega)]; exact hfl) (by
    cases hb : (s.toList == [])
    · exact .inl (by simp)
    · refine .inr ⟨?_, by simp⟩
      have : s.data.toList = [] := by rw [ByteArray.toList_eq] at hb; simpa using hb
      show putB f.bytes at_ s.data.toList = f.bytes
      rw [this, putB_nil])
  rw [hfb] at hi
  simp only [hfp, upd_id] at hi
  have HI := Lib.hid hi
  have HB := Lib.hid hfb
  have HP := Lib.hid hfp
  clear hi hfb hfp hl
  have hs0 : ¬ (at_ : Int) < 0 := by omega
  have hs1 : ¬ (512 : Int) < at_ := by omega
  have hs2 : ¬ (512 : Int) - at_ < s.size := by omega
  have hs3 : (at_ : Int) ≤ 512 := by omega
  have hov : (bytesV f.bytes).take at_ ++ bytesV s.data.toList ++ (bytesV f.bytes).drop (at_ + s.size) = bytesV (putB f.bytes at_ s.data.toList) := by simp only [putB, bytesV_append, bytesV_take, bytesV_drop, hsz]
  have h5 : at_ = 512 ∨ (at_ ≠ 512 ∧ 512 ≠ at_) := by omega
  have hcb : (f.changed = true ∧ (f.changed || !(s.toList == [])) = true) ∨ (f.changed = false ∧ (s.toList == []) = false ∧ (f.changed || !(s.toList == [])) = true) ∨ (f.changed = false ∧ (s.toList == []) = true ∧ (f.changed || !(s.toList == [])) = false) := by
    cases f.changed <;> cases (s.toList == []) <;> simp
  generalize hcn : (f.changed || !(s.toList == [])) = cn at HI hcb
  clear hcn
  rcases h5 with h5 | ⟨h5, h6⟩
  all_goals (rcases hcb with ⟨hc, rfl⟩ | ⟨hc, hb, rfl⟩ | ⟨hc, hb, rfl⟩)
  all_goals (
    rw [hc] at hO
    have HC := Lib.hid hc
    clear hc
    ((try simp only [List.nil_append, List.append_nil] at hO); have hF := Own.cells hO; simp only [cellsOf_append, cellsOf_pt] at hF)
    go_wp2_with (first | (refine at_copy ?_; go_must (refine own_copy_str (da := ?_) (dn := ?_) (dc := ?_) (l := at_) (s := s) sltBytes hO ?_ ?_ ?_ hSf ?_ ?_ ?_ ?_; rotate_left 3; (· rfl); (· ((conv => lhs; whnf); try exact rfl)); (· rfl); (· intro h0; first | (exfalso; omega; done) | (rw [Option.map_some, add_lit, Nat.zero_add])); (· omega); (· omega); clear hO; (try clear hF); intro A2 _ hS2 hO; obtain rfl := sl_full hS2; (rw [hov] at hO); ((try simp only [List.nil_append, List.append_nil] at hO); have hF := Own.cells hO; simp only [cellsOf_append, cellsOf_pt] at hF); simp only [Act.put, List.setIfInBounds_toArray, List.set_cons_zero, List.set_cons_succ])) | (refine own_store (v := ?_) (off := 3) (b := f.blk) hO ?_ ?_ ?_ ?_ ?_ ?_ ?_; rotate_left; (· rfl); (· ((conv => lhs; whnf); try exact rfl)); (· ((conv => lhs; whnf); try exact rfl)); (· simp [Value.cells]); (· simp [Value.cells, Value.oneCell']); (· simp [Value.cells]); clear hO; (try clear hF); intro _ hO; (try simp only [splice, Value.cells] at hO); ((try simp only [List.nil_append, List.append_nil] at hO); have hF := Own.cells hO; simp only [cellsOf_append, cellsOf_pt] at hF); simp only [Act.put, List.setIfInBounds_toArray, List.set_cons_zero, List.set_cons_succ])))
  all_goals (
    simp only [splice, Value.cells, List.setIfInBounds_toArray, List.set_cons_zero, List.set_cons_succ] at hO
    go_ret
    have el : ∀ g : Frm, (pre ++ g :: post).length = (pre ++ f :: post).length := fun g => by simp
    refine ⟨rfl, _, ⟨hand, pre ++ { f with bytes := putB (cont f.page) at_ s.data.toList, pins := pins f.page, changed := _ } :: post, l, rs, _, D, ⟨la, lc, mb, S, M, PoolP.same f _ rfl hS, hM, rfl⟩, HI.out, hD, by simpa using hh, ?_, rfl⟩, ?_⟩
    · rw [chg_app, chg_cons] at hN ⊢
      rw [HC.out] at hN
      simp at hN ⊢
      omega
    · rw [frmsF_app, frmsF_cons]
      unfold frmF
      rw [el, ← HB.out, ← HP.out]
      exact hO.as _)
end Go.Proofs.Ytkkeplobomncgaa
