/- The pool's contracts: Unpin, Read, Pins, Write. -/
import Derived.Test.YtkfkcloefgfkaaaGreatK2
import Derived.Deep.OwnRows
set_option linter.all false
/- The pool's contracts: Unpin, Read, Pins, Write. -/
namespace Go.Proofs.YtkfkcloefgfkaaaGreat
open Go Go.RowKit Go.Own Go.Dk

def chg (fs : List Frm) : Nat := (fs.filter (·.changed)).length
theorem chg_app (a b : List Frm) : chg (a ++ b) = chg a + chg b := by simp [chg]
theorem chg_cons (f : Frm) (b : List Frm) : chg (f :: b) = (if f.changed then 1 else 0) + chg b := by
  unfold chg
  cases h : f.changed <;> simp [List.filter_cons, h]
  omega

/-- What file 0 holds; and that file 1 holds every page but those of J. -/
def JI (J : Nat → Prop) (F0 : List UInt8) (rs : List Raw) (cont : Nat → List UInt8) : Prop :=
  play rs 0 = F0 ∧ ∀ k, k < 4096 → ¬ J k → pgOf (play rs 1) k = cont k
/-- The pool, its frames, its map and its disk: what each page holds, how often it is pinned; N: a bound of the raw writes. -/
def PoolS (J : Nat → Prop) (F0 : List UInt8) (p d most N : Nat) (cont : Nat → List UInt8) (pins : Nat → Nat) (A : Fr) : Prop :=
  ∃ hand fs l rs P D, PoolP p d most hand fs l P ∧ PInv most fs l (play rs 1) cont pins ∧ DiskAt d rs D ∧ (hand < fs.length ∨ hand = 0) ∧ rs.length + chg fs ≤ N ∧ JI J F0 rs cont ∧ A = P ++ D

theorem JI.set {J : Nat → Prop} {F0 : List UInt8} {rs : List Raw} {cont : Nat → List UInt8} {page : Nat} {x : List UInt8} (h : JI J F0 rs cont) (hj : J page) : JI J F0 rs (upd cont page x) :=
  ⟨h.1, fun k hk hn => by
    have hkp : k ≠ page := fun e => hn (by rw [e]; exact hj)
    rw [upd_ne _ _ _ _ hkp]
    exact h.2 k hk hn⟩
theorem _root_.Go.Dk.PInv.mid {most : Nat} {fs : List Frm} {l : List (Int × Value)} {F : List UInt8} {cont : Nat → List UInt8} {pins : Nat → Nat} (h : PInv most fs l F cont pins) {k : Nat} (hk : 0 < pins k) : ∃ pre f post, fs = pre ++ f :: post ∧ f.page = k ∧ f.pins = pins k := by
  rcases page_cases fs k with ⟨pre, f, post, rfl, hf⟩ | hn
  · have : f.page = k := by omega
    exact ⟨pre, f, post, rfl, this, by rw [← this]; exact (h.pg f (by simp)).2.2⟩
  · have := h.out k (fun f hf e => hn f hf (by rw [e]))
    omega
theorem upd_id {α : Type} (f : Nat → α) (k : Nat) : upd f k (f k) = f := by
  funext i
  simp only [upd]
  split
  · rename_i h; rw [h]
  · rfl
theorem PoolP.same {pre post : List Frm} (f f' : Frm) {la : Option Addr} {lc : Nat} {S : Fr} (hb : f'.blk = f.blk) (h : Sl 205 1 la (pre ++ f :: post).length lc ((pre ++ f :: post).map ptrV) S) :
    Sl 205 1 la (pre ++ f' :: post).length lc ((pre ++ f' :: post).map ptrV) S := by
  have e1 : (pre ++ f' :: post).length = (pre ++ f :: post).length := by simp
  have e2 : (pre ++ f' :: post).map ptrV = (pre ++ f :: post).map ptrV := by simp [ptrV, hb]
  rw [e1, e2]
  exact h

set_option maxRecDepth 100000 in
set_option maxHeartbeats 16000000 in
theorem pUnpin_yes (E w : World) (X R A : Fr) (p d most N : Nat) (cont : Nat → List UInt8) (pins : Nat → Nat) (page : Nat) {J : Nat → Prop} {F0 : List UInt8} (hS : PoolS J F0 p d most N cont pins A) (hm : 0 < most) (h : 0 < pins page) (hb : pins page < 281474976710656) (hO : Own E w X) [hp : Pick X A R] :
    Calls Tryz.prog 109 #[.pointer (some ⟨p, 0, none⟩), .int .i64 page] w fun e w' => e = .returned (.int .i64 0) ∧ ∃ A', PoolS J F0 p d most N cont (upd pins page (pins page - 1)) A' ∧ Own E w' (A' ++ R) := by
  obtain ⟨hand, fs, l, rs, P, D, hP, hI, hD, hh, hN, hJ, rfl⟩ := hS
  obtain ⟨pre, f, post, rfl, hk, hfp⟩ := hI.mid h
  subst hk
  have hl := hI.look_in (f := f) (by simp)
  replace hO := hO.perm hp.perm
  clear hp
  go_enter Tryz.func109, Tryz.ntmps109
  go_wp2_with fail
  refine (pGiven E _ _ _ P p d most hand _ l hP hm hO).mono ?_; rintro e w1 ⟨rfl, rfl⟩
  go_wp2_with fail
  refine (pPinned_yes E _ _ _ P p d most hand pre post f l hP hl (by omega) hO).mono ?_; rintro e w1 ⟨rfl, rfl⟩
  obtain ⟨la, lc, mb, S, M, hS, hM, rfl⟩ := hP
  rw [frmsF_app, frmsF_cons] at hO
  unfold frmF at hO
  have hb1 : (f.pins : Int) < 281474976710656 := by omega
  have hb2 : (0 : Int) < f.pins := by omega
  have HFP := Lib.hid hfp
  clear hfp
  ((try simp only [List.nil_append, List.append_nil] at hO); have hF := Own.cells hO; simp only [cellsOf_append, cellsOf_pt] at hF)
  go_wp2_with (first | (refine own_store (v := ?_) (off := 2) (b := f.blk) hO ?_ ?_ ?_ ?_ ?_ ?_ ?_; rotate_left; (· rfl); (· ((conv => lhs; whnf); try exact rfl)); (· ((conv => lhs; whnf); try exact rfl)); (· simp [Value.cells]); (· simp [Value.cells, Value.oneCell']); (· simp [Value.cells]); clear hO; (try clear hF); intro _ hO; (try simp only [splice, Value.cells] at hO); ((try simp only [List.nil_append, List.append_nil] at hO); have hF := Own.cells hO; simp only [cellsOf_append, cellsOf_pt] at hF); simp only [Act.put, List.setIfInBounds_toArray, List.set_cons_zero, List.set_cons_succ]))
  simp only [splice, Value.cells, List.setIfInBounds_toArray, List.set_cons_zero, List.set_cons_succ] at hO
  go_ret
  have hfp := HFP.out
  have hi := hI.set (f' := { f with pins := f.pins - 1 }) rfl rfl (by rw [(hI.pg f (by simp)).2.1]; exact hI.clen _) (.inr ⟨rfl, rfl⟩)
  have e1 : ((f.pins : Int) - 1) = ((f.pins - 1 : Nat) : Int) := by omega
  rw [e1] at hO
  refine ⟨rfl, _, ⟨hand, pre ++ { f with pins := f.pins - 1 } :: post, l, rs, _, D, ⟨la, lc, mb, S, M, PoolP.same f _ rfl hS, hM, rfl⟩, ?_, hD, ?_, ?_, hJ, rfl⟩, ?_⟩
  · rw [← hfp]
    have e2 : upd cont f.page f.bytes = cont := by rw [(hI.pg f (by simp)).2.1]; exact upd_id _ _
    rw [e2] at hi
    exact hi
  · simpa using hh
  · rw [chg_app, chg_cons] at hN ⊢
    exact hN
  · rw [frmsF_app, frmsF_cons]
    unfold frmF
    have el : (pre ++ { f with pins := f.pins - 1 } :: post).length = (pre ++ f :: post).length := by simp
    rw [el]
    exact hO.as _

/-- No frame of the page is pinned. -/
theorem noPin {most : Nat} {fs : List Frm} {l : List (Int × Value)} {F : List UInt8} {cont : Nat → List UInt8} {pins : Nat → Nat} (hI : PInv most fs l F cont pins) {page : Int} (h : ∀ k : Nat, (k : Int) = page → pins k = 0) :
    (∀ f ∈ fs, (f.page : Int) = page → mlook l page = some (ptrV f) ∧ f.pins = 0) ∧ ((∀ f ∈ fs, (f.page : Int) ≠ page) → mlook l page = none) := by
  refine ⟨fun f hf e => ?_, fun hn => hI.look_out hn⟩
  subst e
  exact ⟨hI.look_in hf, by rw [(hI.pg f hf).2.2]; exact h _ rfl⟩

set_option maxRecDepth 100000 in
set_option maxHeartbeats 16000000 in
theorem pUnpin_no (E w : World) (X R A : Fr) (p d most N : Nat) (cont : Nat → List UInt8) (pins : Nat → Nat) (page : Int) {J : Nat → Prop} {F0 : List UInt8} (hS : PoolS J F0 p d most N cont pins A) (hm : 0 < most) (h : ∀ k : Nat, (k : Int) = page → pins k = 0) (hO : Own E w X) [hp : Pick X A R] :
    Calls Tryz.prog 109 #[.pointer (some ⟨p, 0, none⟩), .int .i64 page] w fun e w' => e = .returned (.int .i64 3) ∧ w = w' := by
  obtain ⟨hand, fs, l, rs, P, D, hP, hI, hD, hh, hN, hJ, rfl⟩ := hS
  obtain ⟨h1, h2⟩ := noPin hI h
  replace hO := hO.perm hp.perm
  clear hp
  go_enter Tryz.func109, Tryz.ntmps109
  go_wp2_with fail
  refine (pGiven E _ _ _ P p d most hand _ l hP hm hO).mono ?_; rintro e w1 ⟨rfl, rfl⟩
  go_wp2_with fail
  refine (pPinned_no E _ _ _ P p d most hand fs l page hP h1 h2 hO).mono ?_; rintro e w1 ⟨rfl, rfl⟩
  clear h1 h2
  go_wp2_with fail
  go_ret
  exact ⟨rfl, rfl⟩

set_option maxRecDepth 100000 in
set_option maxHeartbeats 16000000 in
theorem pRead_no (E w : World) (X R A : Fr) (p d most N : Nat) (cont : Nat → List UInt8) (pins : Nat → Nat) (page : Int) {J : Nat → Prop} {F0 : List UInt8} (hS : PoolS J F0 p d most N cont pins A) (hm : 0 < most) (h : ∀ k : Nat, (k : Int) = page → pins k = 0) (hO : Own E w X) [hp : Pick X A R] :
    Calls Tryz.prog 113 #[.pointer (some ⟨p, 0, none⟩), .int .i64 page] w fun e w' => e = .returned (.tuple #[.string .empty, .int .i64 3]) ∧ w = w' := by
  obtain ⟨hand, fs, l, rs, P, D, hP, hI, hD, hh, hN, hJ, rfl⟩ := hS
  obtain ⟨h1, h2⟩ := noPin hI h
  replace hO := hO.perm hp.perm
  clear hp
  go_enter Tryz.func113, Tryz.ntmps113
  go_wp2_with fail
  refine (pGiven E _ _ _ P p d most hand _ l hP hm hO).mono ?_; rintro e w1 ⟨rfl, rfl⟩
  go_wp2_with fail
  refine (pPinned_no E _ _ _ P p d most hand fs l page hP h1 h2 hO).mono ?_; rintro e w1 ⟨rfl, rfl⟩
  clear h1 h2
  go_wp2_with fail
  go_ret2
  exact ⟨rfl, rfl⟩

set_option maxRecDepth 100000 in
set_option maxHeartbeats 16000000 in
theorem pRead_yes (E w : World) (X R A : Fr) (p d most N : Nat) (cont : Nat → List UInt8) (pins : Nat → Nat) (page : Nat) {J : Nat → Prop} {F0 : List UInt8} (hS : PoolS J F0 p d most N cont pins A) (hm : 0 < most) (h : 0 < pins page) (hO : Own E w X) [hp : Pick X A R] :
    Calls Tryz.prog 113 #[.pointer (some ⟨p, 0, none⟩), .int .i64 page] w fun e w' => e = .returned (.tuple #[.string ⟨(cont page).toArray⟩, .int .i64 0]) ∧ w = w' := by
  obtain ⟨hand, fs, l, rs, P, D, hP, hI, hD, hh, hN, hJ, rfl⟩ := hS
  obtain ⟨pre, f, post, rfl, hk, hfp⟩ := hI.mid h
  subst hk
  have hl := hI.look_in (f := f) (by simp)
  have hfb := (hI.pg f (by simp)).2.1
  have hfl : f.bytes.length = 512 := by rw [hfb]; exact hI.clen _
  rw [← hfb]
  clear hfb
  replace hO := hO.perm hp.perm
  clear hp
  go_enter Tryz.func113, Tryz.ntmps113
  go_wp2_with fail
  refine (pGiven E _ _ _ P p d most hand _ l hP hm hO).mono ?_; rintro e w1 ⟨rfl, rfl⟩
  go_wp2_with fail
  refine (pPinned_yes E _ _ _ P p d most hand pre post f l hP hl (by omega) hO).mono ?_; rintro e w1 ⟨rfl, rfl⟩
  obtain ⟨la, lc, mb, S, M, hS, hM, rfl⟩ := hP
  rw [frmsF_app, frmsF_cons] at hO
  unfold frmF at hO
  clear hfp
  ((try simp only [List.nil_append, List.append_nil] at hO); have hF := Own.cells hO; simp only [cellsOf_append, cellsOf_pt] at hF)
  go_wp2_with (first | (refine at_conv ?_; go_must (refine own_bytes_str (e := 5) (ad := some ⟨f.bb, 0, none⟩) (n := 512) (cap := 512) (l := f.bytes) (by kernel_rfl) (by kernel_rfl) (by kernel_rfl) ?_ ?_ ?_ ?_ ?_ ?_; (· rfl); (· rfl); (· exact hfl); (· intro b hb j v hj; cases hb; rw [add_lit, hO.cell (b := f.bb)]; simpa using hj); (· intro h; cases h); simp only [Act.put, List.setIfInBounds_toArray, List.set_cons_zero, List.set_cons_succ])))
  go_ret2
  exact ⟨rfl, rfl⟩



end Go.Proofs.YtkfkcloefgfkaaaGreat

/- The pool's contracts: Write, the writing back of a frame. -/
namespace Go.Proofs.YtkfkcloefgfkaaaGreat
open Go Go.RowKit Go.Own Go.Dk

def putB (l : List UInt8) (k : Nat) (s : List UInt8) : List UInt8 := l.take k ++ s ++ l.drop (k + s.length)
theorem putB_length {l s : List UInt8} {k : Nat} (h : k + s.length ≤ l.length) : (putB l k s).length = l.length := by
  simp only [putB, List.length_append, List.length_take, List.length_drop]
  omega
theorem putB_nil (l : List UInt8) (k : Nat) : putB l k [] = l := by simp [putB]

/-- The bytes of a frame as a slice that owns its row. -/
theorem frmS (f : Frm) (h : f.bytes.length = 512) : Sl 5 1 (some ⟨f.bb, 0, none⟩) 512 512 (bytesV f.bytes) (pt f.bb (.cells (bytesV f.bytes).toArray 5 (0, 0))) := by
  have := Sl.mk (e := 5) (sz := 1) (b := f.bb) (n := 512) (cap := 512) (xs := bytesV f.bytes) (rest := []) (by rw [bytesV_length, h]) (by decide) (by decide) (by rw [List.append_nil, bytesV_length, h])
  rwa [List.append_nil] at this
theorem sl_full {e : TypeId} {b n : Nat} {xs : List Value} {A : Fr} (h : Sl e 1 (some ⟨b, 0, none⟩) n n xs A) : A = pt b (.cells xs.toArray e (0, 0)) := by
  obtain ⟨h1, _, _, h | ⟨b', rest, hb, hl, rfl⟩⟩ := h
  · cases h.1
  · cases hb
    rw [List.length_append, h1] at hl
    have : rest = [] := List.eq_nil_of_length_eq_zero (by omega)
    subst this
    rw [List.append_nil]

set_option maxRecDepth 100000 in
set_option maxHeartbeats 16000000 in
theorem pWrite_no (E w : World) (X R A : Fr) (p d most N : Nat) (cont : Nat → List UInt8) (pins : Nat → Nat) (page at_ : Int) (s : ByteArray) {J : Nat → Prop} {F0 : List UInt8} (hS : PoolS J F0 p d most N cont pins A) (hm : 0 < most) (h : ∀ k : Nat, (k : Int) = page → pins k = 0) (hO : Own E w X) [hp : Pick X A R] :
    Calls Tryz.prog 108 #[.pointer (some ⟨p, 0, none⟩), .int .i64 page, .int .i64 at_, .string s] w fun e w' => e = .returned (.int .i64 3) ∧ w = w' := by
  obtain ⟨hand, fs, l, rs, P, D, hP, hI, hD, hh, hN, hJ, rfl⟩ := hS
  obtain ⟨h1, h2⟩ := noPin hI h
  replace hO := hO.perm hp.perm
  clear hp
  go_enter Tryz.func108, Tryz.ntmps108
  go_wp2_with fail
  refine (pGiven E _ _ _ P p d most hand _ l hP hm hO).mono ?_; rintro e w1 ⟨rfl, rfl⟩
  go_wp2_with fail
  refine (pPinned_no E _ _ _ P p d most hand fs l page hP h1 h2 hO).mono ?_; rintro e w1 ⟨rfl, rfl⟩
  clear h1 h2
  go_wp2_with fail
  go_ret
  exact ⟨rfl, rfl⟩

set_option maxRecDepth 100000 in
set_option maxHeartbeats 16000000 in
theorem pWrite_bad (E w : World) (X R A : Fr) (p d most N : Nat) (cont : Nat → List UInt8) (pins : Nat → Nat) (page : Nat) (at_ : Int) (s : ByteArray) {J : Nat → Prop} {F0 : List UInt8} (hS : PoolS J F0 p d most N cont pins A) (hm : 0 < most) (h : 0 < pins page) (hat : at_ < 0 ∨ 512 < at_ ∨ 512 - at_ < s.size) (hO : Own E w X) [hp : Pick X A R] :
    Calls Tryz.prog 108 #[.pointer (some ⟨p, 0, none⟩), .int .i64 page, .int .i64 at_, .string s] w fun e w' => e = .returned (.int .i64 1) ∧ w = w' := by
  obtain ⟨hand, fs, l, rs, P, D, hP, hI, hD, hh, hN, hJ, rfl⟩ := hS
  obtain ⟨pre, f, post, rfl, hk, hfp⟩ := hI.mid h
  subst hk
  have hl := hI.look_in (f := f) (by simp)
  replace hO := hO.perm hp.perm
  clear hp
  go_enter Tryz.func108, Tryz.ntmps108
  go_wp2_with fail
  refine (pGiven E _ _ _ P p d most hand _ l hP hm hO).mono ?_; rintro e w1 ⟨rfl, rfl⟩
  go_wp2_with fail
  refine (pPinned_yes E _ _ _ P p d most hand pre post f l hP hl (by omega) hO).mono ?_; rintro e w1 ⟨rfl, rfl⟩
  clear hfp hl
  by_cases h1 : at_ < 0
  · clear hat
    go_wp2_with fail
    go_ret
    exact ⟨rfl, rfl⟩
  · by_cases h2 : 512 < at_
    · clear hat
      go_wp2_with fail
      go_ret
      exact ⟨rfl, rfl⟩
    · have h3 : 512 - at_ < s.size := by omega
      clear hat
      go_wp2_with fail
      go_ret
      exact ⟨rfl, rfl⟩

set_option maxRecDepth 100000 in
set_option maxHeartbeats 16000000 in
theorem pWrite_ok (E w : World) (X R A : Fr) (p d most N : Nat) (cont : Nat → List UInt8) (pins : Nat → Nat) (page at_ : Nat) (s : ByteArray) {J : Nat → Prop} {F0 : List UInt8} (hS : PoolS J F0 p d most N cont pins A) (hm : 0 < most) (h : 0 < pins page) (hJp : J page) (hat : at_ + s.size ≤ 512) (hO : Own E w X) [hp : Pick X A R] :
    Calls Tryz.prog 108 #[.pointer (some ⟨p, 0, none⟩), .int .i64 page, .int .i64 at_, .string s] w fun e w' => e = .returned (.int .i64 0) ∧ ∃ A', PoolS J F0 p d most (N + 1) (upd cont page (putB (cont page) at_ s.data.toList)) pins A' ∧ Own E w' (A' ++ R) := by
  obtain ⟨hand, fs, l, rs, P, D, hP, hI, hD, hh, hN, hJ, rfl⟩ := hS
  obtain ⟨pre, f, post, rfl, hk, hfp⟩ := hI.mid h
  subst hk
  have hl := hI.look_in (f := f) (by simp)
  have hfb := (hI.pg f (by simp)).2.1
  have hfl : f.bytes.length = 512 := by rw [hfb]; exact hI.clen _
  have hSf := frmS f hfl
  have hsz : s.data.toList.length = s.size := by rw [Array.length_toList]; rfl
  replace hO := hO.perm hp.perm
  clear hp
  go_enter Tryz.func108, Tryz.ntmps108
  go_wp2_with fail
  refine (pGiven E _ _ _ P p d most hand _ l hP hm hO).mono ?_; rintro e w1 ⟨rfl, rfl⟩
  go_wp2_with fail
  refine (pPinned_yes E _ _ _ P p d most hand pre post f l hP hl (by omega) hO).mono ?_; rintro e w1 ⟨rfl, rfl⟩
  obtain ⟨la, lc, mb, S, M, hS, hM, rfl⟩ := hP
  rw [frmsF_app, frmsF_cons] at hO
  unfold frmF at hO
  have hi := hI.set (f' := { f with bytes := putB f.bytes at_ s.data.toList, changed := f.changed || !(s.toList == []) }) rfl rfl (by rw [putB_length (by omega)]; exact hfl) (by
    cases hb : (s.toList == [])
    · exact .inl (by simp)
    · refine .inr ⟨?_, by simp⟩
      have : s.data.toList = [] := by rw [ByteArray.toList_eq] at hb; simpa using hb
      show putB f.bytes at_ s.data.toList = f.bytes
      rw [this, putB_nil])
  rw [hfb] at hi
  simp only [hfp, upd_id] at hi
  have HI := Lib.hid hi
  have HB := Lib.hid hfb
  have HP := Lib.hid hfp
  clear hi hfb hfp hl
  have hs0 : ¬ (at_ : Int) < 0 := by omega
  have hs1 : ¬ (512 : Int) < at_ := by omega
  have hs2 : ¬ (512 : Int) - at_ < s.size := by omega
  have hs3 : (at_ : Int) ≤ 512 := by omega
  have hov : (bytesV f.bytes).take at_ ++ bytesV s.data.toList ++ (bytesV f.bytes).drop (at_ + s.size) = bytesV (putB f.bytes at_ s.data.toList) := by simp only [putB, bytesV_append, bytesV_take, bytesV_drop, hsz]
  have h5 : at_ = 512 ∨ (at_ ≠ 512 ∧ 512 ≠ at_) := by omega
  have hcb : (f.changed = true ∧ (f.changed || !(s.toList == [])) = true) ∨ (f.changed = false ∧ (s.toList == []) = false ∧ (f.changed || !(s.toList == [])) = true) ∨ (f.changed = false ∧ (s.toList == []) = true ∧ (f.changed || !(s.toList == [])) = false) := by
    cases f.changed <;> cases (s.toList == []) <;> simp
  generalize hcn : (f.changed || !(s.toList == [])) = cn at HI hcb
  clear hcn
  rcases h5 with h5 | ⟨h5, h6⟩
  all_goals (rcases hcb with ⟨hc, rfl⟩ | ⟨hc, hb, rfl⟩ | ⟨hc, hb, rfl⟩)
  all_goals (
    rw [hc] at hO
    have HC := Lib.hid hc
    clear hc
    ((try simp only [List.nil_append, List.append_nil] at hO); have hF := Own.cells hO; simp only [cellsOf_append, cellsOf_pt] at hF)
    go_wp2_with (first | (refine at_copy ?_; go_must (refine own_copy_str (da := ?_) (dn := ?_) (dc := ?_) (l := at_) (s := s) sltBytes hO ?_ ?_ ?_ hSf ?_ ?_ ?_ ?_; rotate_left 3; (· rfl); (· ((conv => lhs; whnf); try exact rfl)); (· rfl); (· intro h0; first | (exfalso; omega; done) | (rw [Option.map_some, add_lit, Nat.zero_add])); (· omega); (· omega); clear hO; (try clear hF); intro A2 _ hS2 hO; obtain rfl := sl_full hS2; (rw [hov] at hO); ((try simp only [List.nil_append, List.append_nil] at hO); have hF := Own.cells hO; simp only [cellsOf_append, cellsOf_pt] at hF); simp only [Act.put, List.setIfInBounds_toArray, List.set_cons_zero, List.set_cons_succ])) | (refine own_store (v := ?_) (off := 3) (b := f.blk) hO ?_ ?_ ?_ ?_ ?_ ?_ ?_; rotate_left; (· rfl); (· ((conv => lhs; whnf); try exact rfl)); (· ((conv => lhs; whnf); try exact rfl)); (· simp [Value.cells]); (· simp [Value.cells, Value.oneCell']); (· simp [Value.cells]); clear hO; (try clear hF); intro _ hO; (try simp only [splice, Value.cells] at hO); ((try simp only [List.nil_append, List.append_nil] at hO); have hF := Own.cells hO; simp only [cellsOf_append, cellsOf_pt] at hF); simp only [Act.put, List.setIfInBounds_toArray, List.set_cons_zero, List.set_cons_succ])))
  all_goals (
    simp only [splice, Value.cells, List.setIfInBounds_toArray, List.set_cons_zero, List.set_cons_succ] at hO
    go_ret
    have el : ∀ g : Frm, (pre ++ g :: post).length = (pre ++ f :: post).length := fun g => by simp
    refine ⟨rfl, _, ⟨hand, pre ++ { f with bytes := putB (cont f.page) at_ s.data.toList, pins := pins f.page, changed := _ } :: post, l, rs, _, D, ⟨la, lc, mb, S, M, PoolP.same f _ rfl hS, hM, rfl⟩, HI.out, hD, by simpa using hh, ?_, hJ.set hJp, rfl⟩, ?_⟩
    · rw [chg_app, chg_cons] at hN ⊢
      rw [HC.out] at hN
      simp at hN ⊢
      omega
    · rw [frmsF_app, frmsF_cons]
      unfold frmF
      rw [el, ← HB.out, ← HP.out]
      exact hO.as _)
end Go.Proofs.YtkfkcloefgfkaaaGreat

/- The pool's contracts: the writing back of a frame. -/
namespace Go.Proofs.YtkfkcloefgfkaaaGreat
open Go Go.RowKit Go.Own Go.Dk

def wrR (rs : List Raw) (f : Frm) : List Raw := if f.changed then rs ++ [.put 1 (512 * f.page) ⟨f.bytes.toArray⟩] else rs
theorem wr_pg {rs : List Raw} {f : Frm} (hfl : f.bytes.length = 512) (hpg : f.page < 4096) : wr rs 1 ((f.page : Int) * 512) ⟨f.bytes.toArray⟩ = (rs ++ [.put 1 (512 * f.page) ⟨f.bytes.toArray⟩], 0) := by
  have h4 : (⟨f.bytes.toArray⟩ : ByteArray).size = 512 := by simp [ByteArray.size, hfl]
  unfold wr
  rw [if_pos ⟨by decide, by omega, by omega, by omega⟩]
  congr 4
  omega

theorem run_opBytesPt {P : Program} {E w : World} {X : Fr} {a : Act} {d : Option Tmp} {ty : TypeId} {pos : String} {aft : Array Edge} {g : Option (Nat × Bool)} {src dst e e' : TypeId} {x : Operand} {b : Nat} {l : List UInt8} {c : Nat} {f : Nat × Nat} (hO : Own E w X) [hh : Has X b (.cells (bytesV l).toArray e' f)]
    (hx : a.eval x = .slice (some ⟨b, 0, none⟩) l.length c) (hs : P.underlying src = some (.slice e)) (he : P.underlying e = some (.int .u8)) (hd : P.underlying dst = some .string) :
    (execOp a.eval ⟨d, .convert src dst x, ty, pos, aft, g⟩).run P w = .ok (.value (.string ⟨l.toArray⟩)) w := by
  have := run_bytes_str (P := P) (w := w) (src := src) (dst := dst) (cap := c) hs he hd (ad := some ⟨b, 0, none⟩) (l := l) rfl (by intro b' hb j v hj; cases hb; rw [add_lit, hO.cell (b := b)]; simpa using hj) (fun h => by cases h)
  simp [execOp, hx, this]

set_option maxRecDepth 100000 in
set_option maxHeartbeats 16000000 in
theorem pWr (E w : World) (X R P D : Fr) (p d most hand : Nat) (pre post : List Frm) (f : Frm) (l : List (Int × Value)) (rs : List Raw) (hP : PoolP p d most hand (pre ++ f :: post) l P) (hD : DiskAt d rs D) (hfl : f.bytes.length = 512) (hpg : f.page < 4096) (hlen : rs.length ≤ 8796093022208) (hO : Own E w X) [hp : Pick X (P ++ D) R] :
    Calls Tryz.prog 153 #[.pointer (some ⟨p, 0, none⟩), .pointer (some ⟨f.blk, 0, none⟩)] w fun e w' => e = .returned (.tuple #[]) ∧ ∃ P' D', PoolP p d most hand (pre ++ { f with changed := false } :: post) l P' ∧ DiskAt d (wrR rs f) D' ∧ Own E w' (P' ++ (D' ++ R)) := by
  obtain ⟨la, lc, mb, S, M, hS, hM, rfl⟩ := hP
  replace hO := hO.perm hp.perm
  clear hp
  have hpg1 : (f.page : Int) < 4096 := by omega
  rw [frmsF_app, frmsF_cons] at hO
  unfold frmF at hO
  have el : ∀ g : Frm, (pre ++ g :: post).length = (pre ++ f :: post).length := fun g => by simp
  unfold wrR
  generalize hnl : (pre ++ f :: post).length = nl at hO
  cases hc : f.changed
  · rw [hc] at hO
    ((try simp only [List.nil_append, List.append_nil] at hO); have hF := Own.cells hO; simp only [cellsOf_append, cellsOf_pt] at hF)
    go_enter Tryz.func153, Tryz.ntmps153
    go_wp2
    go_end0
    have ef : { f with changed := false } = f := by rw [← hc]
    rw [ef]
    refine ⟨rfl, _, ⟨la, lc, mb, S, M, hS, hM, rfl⟩, D, hD, ?_⟩
    rw [frmsF_app, frmsF_cons, hnl]
    unfold frmF
    rw [hc]
    exact hO.as _
  · rw [hc] at hO
    rw [if_pos rfl]
    have hw := wr_pg (rs := rs) hfl hpg
    ((try simp only [List.nil_append, List.append_nil] at hO); have hF := Own.cells hO; simp only [cellsOf_append, cellsOf_pt] at hF)
    go_enter Tryz.func153, Tryz.ntmps153
    go_wp2_with fail
    refine region_sch (fun w' => Own E w' (pt p (.cells #[.pointer (some ⟨d, 0, none⟩), .int .i64 most, .slice la nl lc, .int .i64 hand, .map (some mb)] 166 (0, 0)) ++ (pt f.blk (.cells #[.int .i64 f.page, .slice (some ⟨f.bb, 0, none⟩) 512 512, .int .i64 f.pins, .bool true, .bool f.lately] 208 (0, 0)) ++ pt f.bb (.cells (bytesV f.bytes).toArray 5 (0, 0))))) (.look 0 (.look 1 (.look 2 (.look 3 (.look 4 (.look 5 (.look 6 (.look 7 (.look 8 (.look 9 (.look 10 (.look 11 (.look 12 (.look 13 (.act 14 .done))))))))))))))) (by kernel_rfl) (by kernel_rfl) (fun _ _ d _ _ h => by cases d <;> exact h) ?_ ?_
    · exact hO.drew.as _
    replace hO := hO.drew
    generalize World.drew _ = w2 at hO ⊢
    (refine sch_look (o := ?_) (v := ?_) ?_ ?_ ?_ ?_; rotate_left 2; (· ((conv => lhs; whnf); try exact rfl)); (· rfl); (· intro w' hO'; (have hF' := Own.cells hO'; simp only [cellsOf_append, cellsOf_pt] at hF'); go_simp; (try exact rfl)); simp only [Act.put, List.setIfInBounds_toArray, List.set_cons_zero, List.set_cons_succ])
    (refine sch_look (o := ?_) (v := ?_) ?_ ?_ ?_ ?_; rotate_left 2; (· ((conv => lhs; whnf); try exact rfl)); (· rfl); (· intro w' hO'; (have hF' := Own.cells hO'; simp only [cellsOf_append, cellsOf_pt] at hF'); go_simp; (try exact rfl)); simp only [Act.put, List.setIfInBounds_toArray, List.set_cons_zero, List.set_cons_succ])
    (refine sch_look (o := ?_) (v := ?_) ?_ ?_ ?_ ?_; rotate_left 2; (· ((conv => lhs; whnf); try exact rfl)); (· rfl); (· intro w' hO'; (have hF' := Own.cells hO'; simp only [cellsOf_append, cellsOf_pt] at hF'); go_simp; (try exact rfl)); simp only [Act.put, List.setIfInBounds_toArray, List.set_cons_zero, List.set_cons_succ])
    (refine sch_look (o := ?_) (v := ?_) ?_ ?_ ?_ ?_; rotate_left 2; (· ((conv => lhs; whnf); try exact rfl)); (· rfl); (· intro w' hO'; (have hF' := Own.cells hO'; simp only [cellsOf_append, cellsOf_pt] at hF'); go_simp; (try exact rfl)); simp only [Act.put, List.setIfInBounds_toArray, List.set_cons_zero, List.set_cons_succ])
    (refine sch_look (o := ?_) (v := ?_) ?_ ?_ ?_ ?_; rotate_left 2; (· ((conv => lhs; whnf); try exact rfl)); (· rfl); (· intro w' hO'; (have hF' := Own.cells hO'; simp only [cellsOf_append, cellsOf_pt] at hF'); go_simp; (try exact rfl)); simp only [Act.put, List.setIfInBounds_toArray, List.set_cons_zero, List.set_cons_succ])
    (refine sch_look (o := ?_) (v := ?_) ?_ ?_ ?_ ?_; rotate_left 2; (· ((conv => lhs; whnf); try exact rfl)); (· rfl); (· intro w' hO'; (have hF' := Own.cells hO'; simp only [cellsOf_append, cellsOf_pt] at hF'); go_simp; (try exact rfl)); simp only [Act.put, List.setIfInBounds_toArray, List.set_cons_zero, List.set_cons_succ])
    (refine sch_look (o := ?_) (v := ?_) ?_ ?_ ?_ ?_; rotate_left 2; (· ((conv => lhs; whnf); try exact rfl)); (· rfl); (· intro w' hO'; (have hF' := Own.cells hO'; simp only [cellsOf_append, cellsOf_pt] at hF'); go_simp; (try exact rfl)); simp only [Act.put, List.setIfInBounds_toArray, List.set_cons_zero, List.set_cons_succ])
    (refine sch_look (o := ?_) (v := ?_) ?_ ?_ ?_ ?_; rotate_left 2; (· ((conv => lhs; whnf); try exact rfl)); (· rfl); (· intro w' hO'; (have hF' := Own.cells hO'; simp only [cellsOf_append, cellsOf_pt] at hF'); go_simp; (try exact rfl)); simp only [Act.put, List.setIfInBounds_toArray, List.set_cons_zero, List.set_cons_succ])
    (refine sch_look (o := ?_) (v := ?_) ?_ ?_ ?_ ?_; rotate_left 2; (· ((conv => lhs; whnf); try exact rfl)); (· rfl); (· intro w' hO'; (have hF' := Own.cells hO'; simp only [cellsOf_append, cellsOf_pt] at hF'); go_simp; (try exact rfl)); simp only [Act.put, List.setIfInBounds_toArray, List.set_cons_zero, List.set_cons_succ])
    (refine sch_look (o := ?_) (v := ?_) ?_ ?_ ?_ ?_; rotate_left 2; (· ((conv => lhs; whnf); try exact rfl)); (· rfl); (· intro w' hO'; (have hF' := Own.cells hO'; simp only [cellsOf_append, cellsOf_pt] at hF'); go_simp; (try exact rfl)); simp only [Act.put, List.setIfInBounds_toArray, List.set_cons_zero, List.set_cons_succ])
    (refine sch_look (o := ?_) (v := ?_) ?_ ?_ ?_ ?_; rotate_left 2; (· ((conv => lhs; whnf); try exact rfl)); (· rfl); (· intro w' hO'; (have hF' := Own.cells hO'; simp only [cellsOf_append, cellsOf_pt] at hF'); go_simp; (try exact rfl)); simp only [Act.put, List.setIfInBounds_toArray, List.set_cons_zero, List.set_cons_succ])
    (refine sch_look (o := ?_) (v := ?_) ?_ ?_ ?_ ?_; rotate_left 2; (· ((conv => lhs; whnf); try exact rfl)); (· rfl); (· intro w' hO'; (have hF' := Own.cells hO'; simp only [cellsOf_append, cellsOf_pt] at hF'); go_simp; (try exact rfl)); simp only [Act.put, List.setIfInBounds_toArray, List.set_cons_zero, List.set_cons_succ])
    (refine sch_look (o := ?_) (v := ?_) ?_ ?_ ?_ ?_; rotate_left 2; (· ((conv => lhs; whnf); try exact rfl)); (· rfl); (· intro w' hO'; (have hF' := Own.cells hO'; simp only [cellsOf_append, cellsOf_pt] at hF'); go_simp; (try exact rfl)); simp only [Act.put, List.setIfInBounds_toArray, List.set_cons_zero, List.set_cons_succ])
    (refine sch_look (o := ?_) (v := .string ⟨f.bytes.toArray⟩) ?_ ?_ ?_ ?_; rotate_left; (· ((conv => lhs; whnf); try exact rfl)); (· rfl); (· intro w' hO'; exact run_opBytesPt (e := 5) (b := f.bb) (l := f.bytes) hO' (by rw [hfl]; rfl) (by kernel_rfl) (by kernel_rfl) (by kernel_rfl)); simp only [Act.put, List.setIfInBounds_toArray, List.set_cons_zero, List.set_cons_succ])
    (refine sch_act (o := ?_) ?_ ?_; rotate_left; (· ((conv => lhs; whnf); try exact rfl)))
    go_wp2_with fail
    refine (dWrite E _ _ _ d rs D 1 _ ⟨f.bytes.toArray⟩ (by simp [ByteArray.size, hfl, maxLen]) hD hlen hO).mono ?_; rw [hw]; rintro e w1 ⟨rfl, D1, hD1, hO⟩
    go_wp2_with fail
    refine ⟨hO.as _, ?_⟩
    refine sch_done ?_
    clear hF
    ((try simp only [List.nil_append, List.append_nil] at hO); have hF := Own.cells hO; simp only [cellsOf_append, cellsOf_pt] at hF)
    go_wp2_with (first | (refine own_store (v := ?_) (off := 3) (b := f.blk) hO ?_ ?_ ?_ ?_ ?_ ?_ ?_; rotate_left; (· rfl); (· ((conv => lhs; whnf); try exact rfl)); (· ((conv => lhs; whnf); try exact rfl)); (· simp [Value.cells]); (· simp [Value.cells, Value.oneCell']); (· simp [Value.cells]); clear hO; (try clear hF); intro _ hO; (try simp only [splice, Value.cells] at hO); ((try simp only [List.nil_append, List.append_nil] at hO); have hF := Own.cells hO; simp only [cellsOf_append, cellsOf_pt] at hF); simp only [Act.put, List.setIfInBounds_toArray, List.set_cons_zero, List.set_cons_succ]))
    simp only [splice, Value.cells, List.setIfInBounds_toArray, List.set_cons_zero, List.set_cons_succ] at hO
    go_end0
    refine ⟨rfl, _, D1, ⟨la, lc, mb, S, M, PoolP.same f _ rfl hS, hM, rfl⟩, hD1, ?_⟩
    rw [frmsF_app, frmsF_cons, el, hnl]
    unfold frmF
    exact hO.as _
end Go.Proofs.YtkfkcloefgfkaaaGreat

/- The pool's contracts: the clock's hand. -/
namespace Go.Proofs.YtkfkcloefgfkaaaGreat
open Go Go.RowKit Go.Own Go.Dk

def strp (f : Frm) : Frm := { f with lately := false }
theorem strp_strp (f : Frm) : strp (strp f) = strp f := rfl
theorem strp_len {a b : List Frm} (h : a.map strp = b.map strp) : a.length = b.length := by
  have := congrArg List.length h
  simpa using this
theorem strp_map {α : Type} {g : Frm → α} (hg : ∀ f, g (strp f) = g f) {a b : List Frm} (h : a.map strp = b.map strp) : a.map g = b.map g := by
  have e : ∀ l : List Frm, l.map g = (l.map strp).map g := fun l => by
    rw [List.map_map]
    exact List.map_congr_left fun f _ => (hg f).symm
  rw [e a, e b, h]
theorem split_at (l : List Frm) (m : Nat) (h : m < l.length) : ∃ pre f post, l = pre ++ f :: post ∧ pre.length = m := by
  refine ⟨l.take m, l[m], l.drop (m + 1), ?_, by rw [List.length_take]; omega⟩
  rw [List.getElem_cons_drop, List.take_append_drop]
def VicPost (E : World) (p d most : Nat) (fs : List Frm) (l : List (Int × Value)) (R : Fr) (e : Ending) (w' : World) : Prop :=
  ∃ hand' fs' P', PoolP p d most hand' fs' l P' ∧ hand' < fs'.length ∧ fs'.map strp = fs.map strp ∧ Own E w' (P' ++ R) ∧
    ((∃ pre f post, fs' = pre ++ f :: post ∧ f.pins = 0 ∧ e = .returned (.pointer (some ⟨f.blk, 0, none⟩))) ∨ ((∀ f ∈ fs', f.pins ≠ 0) ∧ e = .returned (.pointer none)))
theorem rem_nat (m n : Nat) (hn : 0 < n) : ((m : Int) + 1).tmod (n : Int) = (((m + 1) % n : Nat) : Int) := by
  rw [Int.tmod_eq_emod_of_nonneg (by omega), show (m : Int) + 1 = ((m + 1 : Nat) : Int) by omega]
  rfl
theorem sl_some4 {e : TypeId} {sz : Nat} {a : Option Addr} {n cap : Nat} {xs : List Value} {A : Fr} (h : Sl e sz a n cap xs A) (hn : 0 < n) : ∃ b, a = some ⟨b, 0, none⟩ := by
  rcases h.2.2.2 with ⟨_, hc, _⟩ | ⟨b, rest, hb, _, _⟩
  · have := h.le; omega
  · exact ⟨b, hb⟩

theorem mid_get (pre post : List Frm) (f g : Frm) (k : Nat) : (pre ++ g :: post)[k]? = if k = pre.length then some g else (pre ++ f :: post)[k]? := by
  by_cases h : k = pre.length
  · subst h
    simp
  · rw [if_neg h]
    by_cases h1 : k < pre.length
    · rw [List.getElem?_append_left h1, List.getElem?_append_left h1]
    · rw [List.getElem?_append_right (by omega), List.getElem?_append_right (by omega)]
      have : k - pre.length = (k - pre.length - 1) + 1 := by omega
      rw [this, List.getElem?_cons_succ, List.getElem?_cons_succ]
theorem vic_step {hand n i m : Nat} {pre post : List Frm} {f : Frm} (hm : (hand + i) % n = m) (hpre : pre.length = m)
    (hv1 : ∀ j, j < i → j < n → (((pre ++ f :: post)[(hand + j) % n]?).map (·.lately)) = some false) (hv2 : ∀ j, n ≤ j → j < i → ∀ g, (pre ++ f :: post)[(hand + j) % n]? = some g → g.pins ≠ 0) (hc : n ≤ i → f.pins ≠ 0) :
    (∀ j, j < i + 1 → j < n → (((pre ++ strp f :: post)[(hand + j) % n]?).map (·.lately)) = some false) ∧ (∀ j, n ≤ j → j < i + 1 → ∀ g, (pre ++ strp f :: post)[(hand + j) % n]? = some g → g.pins ≠ 0) := by
  refine ⟨fun j hj hjn => ?_, fun j hjn hj g hg => ?_⟩
  · rw [mid_get pre post f (strp f)]
    split
    · rfl
    · rename_i hk
      refine hv1 j ?_ hjn
      by_cases e : j = i
      · subst e
        exact absurd (hm.trans hpre.symm) hk
      · omega
  · rw [mid_get pre post f (strp f)] at hg
    by_cases hk : (hand + j) % n = pre.length
    · rw [if_pos hk] at hg
      cases hg
      show f.pins ≠ 0
      by_cases e : j = i
      · exact hc (by omega)
      · exact hv2 j hjn (by omega) f (by rw [hk]; simp)
    · rw [if_neg hk] at hg
      refine hv2 j hjn ?_ g hg
      by_cases e : j = i
      · subst e
        exact absurd (hm.trans hpre.symm) hk
      · omega
theorem vic_again {hand n i m : Nat} {pre post : List Frm} {f : Frm} (hm : (hand + i) % n = m) (hpre : pre.length = m) (hi : i < 2 * n) (hv1 : ∀ j, j < i → j < n → (((pre ++ f :: post)[(hand + j) % n]?).map (·.lately)) = some false) (h : n ≤ i) : f.lately = false := by
  have h1 : (hand + (i - n)) % n = m := by
    rw [← hm, show hand + i = hand + (i - n) + n by omega, Nat.add_mod_right]
  have := hv1 (i - n) (by omega) (by omega)
  rw [h1, ← hpre] at this
  simpa using this
theorem vic_end {hand n : Nat} {fs : List Frm} (hn : 0 < n) (hl : fs.length = n) (hh : hand < n) (hv2 : ∀ j, n ≤ j → j < 2 * n → ∀ g, fs[(hand + j) % n]? = some g → g.pins ≠ 0) : ∀ g ∈ fs, g.pins ≠ 0 := by
  intro g hg
  obtain ⟨k, hk, rfl⟩ := List.mem_iff_getElem.1 hg
  refine hv2 (n + (k + n - hand) % n) (by omega) (by have := Nat.mod_lt (k + n - hand) hn; omega) _ ?_
  have e : (hand + (n + (k + n - hand) % n)) % n = k := by
    rw [show hand + (n + (k + n - hand) % n) = (hand + (k + n - hand) % n) + n by omega, Nat.add_mod_right, Nat.add_mod_mod, show hand + (k + n - hand) = k + n by omega, Nat.add_mod_right, Nat.mod_eq_of_lt (by omega)]
  rw [e, List.getElem?_eq_getElem hk]

set_option maxRecDepth 100000 in
set_option maxHeartbeats 16000000 in
theorem pVictim (E w : World) (X R P : Fr) (p d most hand : Nat) (fs : List Frm) (l : List (Int × Value)) (hP : PoolP p d most hand fs l P) (hh : hand < fs.length) (hn : fs.length ≤ 1024) (hO : Own E w X) [hp : Pick X P R] :
    Calls Tryz.prog 170 #[.pointer (some ⟨p, 0, none⟩)] w (VicPost E p d most fs l R) := by
  obtain ⟨la, lc, mb, S, M, hS, hM, rfl⟩ := hP
  replace hO := hO.perm hp.perm
  clear hp
  have hO0 := hO
  generalize hnl : fs.length = n at hO0 hn hh hS
  rw [hnl] at hO
  have hn1 : (n : Int) ≤ 1024 := by omega
  ((try simp only [List.nil_append, List.append_nil] at hO); have hF := Own.cells hO; simp only [cellsOf_append, cellsOf_pt] at hF)
  go_enter Tryz.func170, Tryz.ntmps170
  go_wp2_with fail
  clear hF hO
  go_loopw [10] (fun s10 wr => ∃ (i : Nat) (fs' : List Frm), s10 = .int .i64 i ∧ i ≤ 2 * n ∧ fs'.map strp = fs.map strp ∧ (∀ j, j < i → j < n → ((fs'[(hand + j) % n]?).map (·.lately)) = some false) ∧ (∀ j, n ≤ j → j < i → ∀ f, fs'[(hand + j) % n]? = some f → f.pins ≠ 0) ∧
      Own E wr (pt p (.cells #[.pointer (some ⟨d, 0, none⟩), .int .i64 most, .slice la n lc, .int .i64 ((hand + i) % n : Nat), .map (some mb)] 166 (0, 0)) ++ (S ++ (M ++ (frmsF fs' ++ R))))) (fun s10 _ => 2 * n - (intOf s10).toNat)
  case atStart =>
    refine ⟨0, fs, rfl, by omega, rfl, fun j hj => by omega, fun j h1 h2 => by omega, ?_⟩
    rw [Nat.add_zero, Nat.mod_eq_of_lt hh]
    exact hO0.as _
  case round =>
    clear hO0
    obtain ⟨i, fs', rfl, hi, hst, hv1, hv2, hO⟩ := hrel
    have hl' : fs'.length = n := by rw [strp_len hst, hnl]
    by_cases hlt : i < 2 * n
    · have hlt1 : (i : Int) < 2 * (n : Int) := by omega
      have hm : (hand + i) % n < n := Nat.mod_lt _ (by omega)
      obtain ⟨pre, f, post, rfl, hpre⟩ := split_at fs' ((hand + i) % n) (by omega)
      have hnext : ((hand + i) % n + 1) % n = (hand + (i + 1)) % n := by rw [Nat.mod_add_mod]; rfl
      have HV1 := Lib.hid hv1
      have HV2 := Lib.hid hv2
      clear hv1 hv2
      have hrowl := strp_map (g := ptrV) (fun _ => rfl) hst
      generalize hmm : (hand + i) % n = m at hO hm hpre hnext
      have hnext' : ((m + 1 : Nat) : Int) = (m : Int) + 1 := by omega
      have hrem := rem_nat m n (by omega)
      have hm'n : (m + 1) % n < n := Nat.mod_lt _ (by omega)
      generalize (m + 1) % n = m' at hnext hrem hm'n
      have HN := Lib.hid hnext
      clear hnext
      have hm1 : (m : Int) < n := by omega
      have hm0 : (0 : Int) ≤ m := by omega
      have hn0 : (n : Int) ≠ 0 := by omega
      have hn00 : n ≠ 0 := by omega
      have hwr : IntKind.i64.wrap ((m : Int) + 1) = (m : Int) + 1 := by
        simp only [IntKind.wrap, show IntKind.bits .i64 = 64 from rfl, show IntKind.signed .i64 = true from rfl]
        rw [Int.emod_eq_of_lt (by omega) (by omega), if_neg (by simp; omega)]
      obtain ⟨lb, rfl⟩ := sl_some4 hS (by omega)
      have hcell : ∀ (w' : World) (X' R' : Fr) (hO' : Own E w' X') (hp : Pick X' S R'), w'.cell? ⟨lb, m, none⟩ = some (.pointer (some ⟨f.blk, 0, none⟩)) := by
        intro w' X' R' hO' hp
        have hg : (fs.map ptrV)[m]? = some (ptrV f) := by
          rw [← hrowl, List.map_append, List.map_cons, List.getElem?_append_right (by rw [List.length_map]; omega), List.length_map, hpre, Nat.sub_self]
          rfl
        obtain ⟨hlt, hv⟩ := List.getElem?_eq_some_iff.1 hg
        have := hS.cell hO' ⟨lb, 0, none⟩ rfl m hlt
        rw [add_lit, Nat.zero_add, hv] at this
        exact this
      have HC := Lib.hid hcell
      have HST := Lib.hid hst
      clear hcell hrowl hst
      rw [frmsF_app, frmsF_cons] at hO
      unfold frmF at hO
      go_wp2_with fail
      refine own_still (by kernel_rfl) (by kernel_rfl) hO ?_; clear hO; intro _ hO; ((try simp only [List.nil_append, List.append_nil] at hO); have hF := Own.cells hO; simp only [cellsOf_append, cellsOf_pt] at hF)
      have hc := HC.out _ _ _ hO inferInstance
      repeat still_step
      refine wpStill_nil ?_
      clear hc
      go_wp2_with fail
      refine own_still_tail 12 (by kernel_rfl) (by kernel_rfl) hO ?_; clear hO hF; intro _ hO; ((try simp only [List.nil_append, List.append_nil] at hO); have hF := Own.cells hO; simp only [cellsOf_append, cellsOf_pt] at hF); simp only [List.take_succ_cons, List.take_zero, List.drop_succ_cons, List.drop_zero]; (repeat still_step); (try refine wpStill_nil ?_)
      clear hnext'
      rcases Nat.eq_zero_or_pos f.pins with hp0 | hp0
      · have hpi : (f.pins : Int) = 0 := by omega
        cases hla : f.lately
        · rw [hla] at hO
          clear hF
          ((try simp only [List.nil_append, List.append_nil] at hO); have hF := Own.cells hO; simp only [cellsOf_append, cellsOf_pt] at hF)
          go_wp2_with (first | (refine own_store (v := ?_) (off := 3) (b := p) hO ?_ ?_ ?_ ?_ ?_ ?_ ?_; rotate_left; (· rfl); (· ((conv => lhs; whnf); try exact rfl)); (· ((conv => lhs; whnf); try exact rfl)); (· simp [Value.cells]); (· simp [Value.cells, Value.oneCell']); (· simp [Value.cells]); clear hO; (try clear hF); intro _ hO; (try simp only [splice, Value.cells] at hO); ((try simp only [List.nil_append, List.append_nil] at hO); have hF := Own.cells hO; simp only [cellsOf_append, cellsOf_pt] at hF); simp only [Act.put, List.setIfInBounds_toArray, List.set_cons_zero, List.set_cons_succ]))
          (try simp only [splice, Value.cells, List.setIfInBounds_toArray, List.set_cons_zero, List.set_cons_succ] at hO)
          go_ret
          have hst : (pre ++ strp f :: post).map strp = fs.map strp := by rw [← HST.out]; simp [strp_strp]
          have hlen : (pre ++ strp f :: post).length = n := by rw [strp_len hst, hnl]
          refine ⟨m', pre ++ strp f :: post, _, ⟨_, lc, mb, S, M, by rw [hlen, strp_map (g := ptrV) (fun _ => rfl) hst]; exact hS, hM, rfl⟩, by rw [hlen]; exact hm'n, hst, ?_, .inl ⟨pre, strp f, post, rfl, hp0, rfl⟩⟩
          rw [hlen, frmsF_app, frmsF_cons]
          unfold frmF strp
          exact hO.as _
        · rw [hla] at hO
          clear hF
          ((try simp only [List.nil_append, List.append_nil] at hO); have hF := Own.cells hO; simp only [cellsOf_append, cellsOf_pt] at hF)
          go_wp2_with (first | (refine own_store (v := ?_) (off := 3) (b := p) hO ?_ ?_ ?_ ?_ ?_ ?_ ?_; rotate_left; (· rfl); (· ((conv => lhs; whnf); try exact rfl)); (· ((conv => lhs; whnf); try exact rfl)); (· simp [Value.cells]); (· simp [Value.cells, Value.oneCell']); (· simp [Value.cells]); clear hO; (try clear hF); intro _ hO; (try simp only [splice, Value.cells] at hO); ((try simp only [List.nil_append, List.append_nil] at hO); have hF := Own.cells hO; simp only [cellsOf_append, cellsOf_pt] at hF); simp only [Act.put, List.setIfInBounds_toArray, List.set_cons_zero, List.set_cons_succ]) | (refine own_store (v := ?_) (off := 4) (b := f.blk) hO ?_ ?_ ?_ ?_ ?_ ?_ ?_; rotate_left; (· rfl); (· ((conv => lhs; whnf); try exact rfl)); (· ((conv => lhs; whnf); try exact rfl)); (· simp [Value.cells]); (· simp [Value.cells, Value.oneCell']); (· simp [Value.cells]); clear hO; (try clear hF); intro _ hO; (try simp only [splice, Value.cells] at hO); ((try simp only [List.nil_append, List.append_nil] at hO); have hF := Own.cells hO; simp only [cellsOf_append, cellsOf_pt] at hF); simp only [Act.put, List.setIfInBounds_toArray, List.set_cons_zero, List.set_cons_succ]))
          (try simp only [splice, Value.cells, List.setIfInBounds_toArray, List.set_cons_zero, List.set_cons_succ] at hO)
          go_roundw
          case rel =>
            have hst : (pre ++ strp f :: post).map strp = fs.map strp := by rw [← HST.out]; simp [strp_strp]
            obtain ⟨q1, q2⟩ := vic_step hmm hpre HV1.out HV2.out (fun h => by have := vic_again hmm hpre hlt HV1.out h; rw [hla] at this; cases this)
            refine ⟨i + 1, pre ++ strp f :: post, by go_num, by omega, hst, q1, q2, ?_⟩
            rw [← HN.out, frmsF_app, frmsF_cons]
            unfold frmF strp
            exact hO.as _
          case measure => simp [intOf]; omega
      · have hpi : ¬ (f.pins : Int) = 0 := by omega
        clear hF
        ((try simp only [List.nil_append, List.append_nil] at hO); have hF := Own.cells hO; simp only [cellsOf_append, cellsOf_pt] at hF)
        go_wp2_with (first | (refine own_store (v := ?_) (off := 3) (b := p) hO ?_ ?_ ?_ ?_ ?_ ?_ ?_; rotate_left; (· rfl); (· ((conv => lhs; whnf); try exact rfl)); (· ((conv => lhs; whnf); try exact rfl)); (· simp [Value.cells]); (· simp [Value.cells, Value.oneCell']); (· simp [Value.cells]); clear hO; (try clear hF); intro _ hO; (try simp only [splice, Value.cells] at hO); ((try simp only [List.nil_append, List.append_nil] at hO); have hF := Own.cells hO; simp only [cellsOf_append, cellsOf_pt] at hF); simp only [Act.put, List.setIfInBounds_toArray, List.set_cons_zero, List.set_cons_succ]) | (refine own_store (v := ?_) (off := 4) (b := f.blk) hO ?_ ?_ ?_ ?_ ?_ ?_ ?_; rotate_left; (· rfl); (· ((conv => lhs; whnf); try exact rfl)); (· ((conv => lhs; whnf); try exact rfl)); (· simp [Value.cells]); (· simp [Value.cells, Value.oneCell']); (· simp [Value.cells]); clear hO; (try clear hF); intro _ hO; (try simp only [splice, Value.cells] at hO); ((try simp only [List.nil_append, List.append_nil] at hO); have hF := Own.cells hO; simp only [cellsOf_append, cellsOf_pt] at hF); simp only [Act.put, List.setIfInBounds_toArray, List.set_cons_zero, List.set_cons_succ]))
        (try simp only [splice, Value.cells, List.setIfInBounds_toArray, List.set_cons_zero, List.set_cons_succ] at hO)
        go_roundw
        case rel =>
          have hst : (pre ++ strp f :: post).map strp = fs.map strp := by rw [← HST.out]; simp [strp_strp]
          obtain ⟨q1, q2⟩ := vic_step hmm hpre HV1.out HV2.out (fun h => by omega)
          refine ⟨i + 1, pre ++ strp f :: post, by go_num, by omega, hst, q1, q2, ?_⟩
          rw [← HN.out, frmsF_app, frmsF_cons]
          unfold frmF strp
          exact hO.as _
        case measure => simp [intOf]; omega
    · have hlt1 : ¬ (i : Int) < 2 * (n : Int) := by omega
      obtain rfl : i = 2 * n := by omega
      go_wp2_with fail
      go_ret
      have hlen : fs'.length = n := hl'
      refine ⟨(hand + 2 * n) % n, fs', _, ⟨_, lc, mb, S, M, by rw [hlen, strp_map (g := ptrV) (fun _ => rfl) hst]; exact hS, hM, rfl⟩, by rw [hlen]; exact Nat.mod_lt _ (by omega), hst, ?_, .inr ⟨vic_end (by omega) hlen hh hv2, rfl⟩⟩
      rw [hlen]
      exact hO.as _
end Go.Proofs.YtkfkcloefgfkaaaGreat

/- The pool's contracts: room for another page. -/
namespace Go.Proofs.YtkfkcloefgfkaaaGreat
open Go Go.RowKit Go.Own Go.Dk

theorem sltFrames : SlT Tryz.prog 164 205 1 8 (.pointer none) := ⟨by kernel_rfl, by kernel_rfl, rfl⟩

/-- The pool with a frame that holds no page. -/
def PoolH (p d most hand : Nat) (pre : List Frm) (b : Nat) (c0 c1 c2 c3 c4 : Value) (post : List Frm) (l : List (Int × Value)) (A : Fr) : Prop :=
  ∃ la lc mb S M, Sl 205 1 la (pre.length + 1 + post.length) lc (pre.map ptrV ++ .pointer (some ⟨b, 0, none⟩) :: post.map ptrV) S ∧ MapAt mb l M ∧
    A = pt p (.cells #[.pointer (some ⟨d, 0, none⟩), .int .i64 most, .slice la (pre.length + 1 + post.length) lc, .int .i64 hand, .map (some mb)] 166 (0, 0)) ++ (S ++ (M ++ (frmsF pre ++ (pt b (.cells #[c0, c1, c2, c3, c4] 208 (0, 0)) ++ frmsF post))))
def RoomPost (E : World) (J : Nat → Prop) (F0 : List UInt8) (p d most N : Nat) (fs0 : List Frm) (cont : Nat → List UInt8) (pins : Nat → Nat) (R : Fr) (e : Ending) (w' : World) : Prop :=
  (∃ hand pre b c0 c1 c2 c3 c4 post l rs P D, PoolH p d most hand pre b c0 c1 c2 c3 c4 post l P ∧ PInv most (pre ++ post) l (play rs 1) cont pins ∧ (pre ++ post).length < most ∧ hand < pre.length + 1 + post.length ∧ DiskAt d rs D ∧ rs.length + chg (pre ++ post) ≤ N ∧ JI J F0 rs cont ∧ (∀ f ∈ pre ++ post, ∃ g ∈ fs0, g.page = f.page) ∧ Own E w' (P ++ (D ++ R)) ∧
    e = .returned (.pointer (some ⟨b, 0, none⟩))) ∨
  (∃ hand fs l rs P D, PoolP p d most hand fs l P ∧ PInv most fs l (play rs 1) cont pins ∧ DiskAt d rs D ∧ hand < fs.length ∧ rs.length + chg fs ≤ N ∧ JI J F0 rs cont ∧ fs.length = most ∧ (∀ f ∈ fs, f.pins ≠ 0) ∧ Own E w' (P ++ (D ++ R)) ∧ e = .returned (.pointer none))

theorem _root_.Go.Dk.PInv.ofStrp {most : Nat} {fs fs' : List Frm} {l : List (Int × Value)} {F : List UInt8} {cont : Nat → List UInt8} {pins : Nat → Nat} (h : PInv most fs l F cont pins) (hs : fs'.map strp = fs.map strp) : PInv most fs' l F cont pins := by
  have hm : ∀ f ∈ fs', ∃ g ∈ fs, strp g = strp f := by
    intro f hf
    have : strp f ∈ fs.map strp := by rw [← hs]; exact List.mem_map.2 ⟨f, hf, rfl⟩
    obtain ⟨g, hg, e⟩ := List.mem_map.1 this
    exact ⟨g, hg, e⟩
  have hm' : ∀ f ∈ fs, ∃ g ∈ fs', strp g = strp f := by
    intro f hf
    have : strp f ∈ fs'.map strp := by rw [hs]; exact List.mem_map.2 ⟨f, hf, rfl⟩
    obtain ⟨g, hg, e⟩ := List.mem_map.1 this
    exact ⟨g, hg, e⟩
  refine ⟨by rw [strp_len hs]; exact h.len, by rw [strp_map (g := pairV) (fun _ => rfl) hs]; exact h.perm, by rw [strp_map (g := (·.page)) (fun _ => rfl) hs]; exact h.nodup, ?_, ?_, ?_, h.clen⟩
  · intro f hf
    obtain ⟨g, hg, e⟩ := hm f hf
    have e1 : g.page = f.page := congrArg (·.page) e
    have e2 : g.bytes = f.bytes := congrArg (·.bytes) e
    have e3 : g.pins = f.pins := congrArg (·.pins) e
    rw [← e1, ← e2, ← e3]
    exact h.pg g hg
  · intro k hk
    refine h.out k fun f hf => ?_
    obtain ⟨g, hg, e⟩ := hm' f hf
    have e1 : g.page = f.page := congrArg (·.page) e
    rw [← e1]
    exact hk g hg
  · intro k hk4 hk
    refine h.disk k hk4 fun f hf e => ?_
    obtain ⟨g, hg, e'⟩ := hm' f hf
    have e1 : g.page = f.page := congrArg (·.page) e'
    have e2 : g.changed = f.changed := congrArg (·.changed) e'
    rw [← e2]
    exact hk g hg (e1.trans e)
theorem chg_strp {a b : List Frm} (h : a.map strp = b.map strp) : chg a = chg b := by
  have e : ∀ l : List Frm, chg l = ((l.map (·.changed)).filter id).length := by
    intro l
    induction l with
    | nil => rfl
    | cons f l ih => rw [chg_cons, ih]; cases hc : f.changed <;> simp [hc] <;> omega
  rw [e, e, strp_map (g := (·.changed)) (fun _ => rfl) h]

/-- A frame is written back, if it was changed. -/
theorem _root_.Go.Dk.PInv.wr {most : Nat} {pre post : List Frm} {f : Frm} {l : List (Int × Value)} {F : List UInt8} {cont : Nat → List UInt8} {pins : Nat → Nat} (h : PInv most (pre ++ f :: post) l F cont pins) (rs : List Raw) (hF : play rs 1 = F) :
    PInv most (pre ++ { f with changed := false } :: post) l (play (wrR rs f) 1) cont pins := by
  unfold wrR
  cases hc : f.changed
  · rw [if_neg (by simp), hF]
    have ef : { f with changed := false } = f := by rw [← hc]
    rw [ef]
    exact h
  · rw [if_pos rfl, play_snoc]
    simp only [Raw.app, upd_same, hF]
    exact h.wrote

theorem JI.wr {J : Nat → Prop} {F0 : List UInt8} {most : Nat} {pre post : List Frm} {f : Frm} {l : List (Int × Value)} {F : List UInt8} {rs : List Raw} {cont : Nat → List UInt8} {pins : Nat → Nat} (h : JI J F0 rs cont) (_hp : f.page < 4096) (hI : PInv most (pre ++ f :: post) l F cont pins) : JI J F0 (wrR rs f) cont := by
  unfold wrR
  cases f.changed
  · exact h
  · rw [if_pos rfl]
    have hfb := (hI.pg f (by simp)).2.1
    have hfl : f.bytes.length = 512 := by rw [hfb]; exact hI.clen _
    refine ⟨?_, fun k hk hn => ?_⟩
    · rw [play_snoc]
      simp only [Raw.app]
      rw [upd_ne _ _ _ _ (by decide)]
      exact h.1
    · rw [play_snoc]
      simp only [Raw.app, upd_same]
      by_cases hkp : k = f.page
      · rw [hkp, pgOf_over_same _ _ _ hfl, hfb]
      · rw [pgOf_over_ne _ _ _ _ hfl hkp]
        exact h.2 k hk hn
/-- A frame that is not pinned nor changed is let go. -/
theorem _root_.Go.Dk.PInv.drop {most : Nat} {pre post : List Frm} {f : Frm} {l : List (Int × Value)} {F : List UInt8} {cont : Nat → List UInt8} {pins : Nat → Nat} (h : PInv most (pre ++ f :: post) l F cont pins) (hc : f.changed = false) (hp : f.pins = 0) :
    PInv most (pre ++ post) (l.filter (·.1 != (f.page : Int))) F cont pins := by
  have hne := nodup_mid h.nodup
  have hmem0 : ∀ g, g ∈ pre ++ f :: post ↔ g = f ∨ g ∈ pre ++ post := by intro g; simp; exact ⟨by rintro (h | h | h) <;> simp [h], by rintro (h | h | h) <;> simp [h]⟩
  refine ⟨by have := h.len; simp at this ⊢; omega, ?_, ?_, ?_, ?_, ?_, h.clen⟩
  · have h1 := h.perm.filter (·.1 != (f.page : Int))
    have h2 : ((pre ++ f :: post).map pairV).filter (·.1 != (f.page : Int)) = (pre ++ post).map pairV := by
      have h3 : ∀ k : List Frm, (∀ g ∈ k, g.page ≠ f.page) → (k.map pairV).filter (·.1 != (f.page : Int)) = k.map pairV := by
        intro k hk
        rw [List.filter_eq_self]
        intro q hq
        obtain ⟨g, hg, rfl⟩ := List.mem_map.1 hq
        have := hk g hg
        simp [pairV]
        omega
      rw [List.map_append, List.map_cons, List.filter_append, List.filter_cons_of_neg (by simp [pairV]), h3 pre (fun g hg => hne g (by simp [hg])), h3 post (fun g hg => hne g (by simp [hg])), List.map_append]
    rw [h2] at h1
    exact h1
  · exact h.nodup.sublist (List.Sublist.map _ (List.Sublist.append_left (List.sublist_cons_self _ _) _))
  · intro g hg
    exact h.pg g ((hmem0 g).2 (.inr hg))
  · intro k hk
    by_cases hkp : k = f.page
    · subst hkp
      rw [← (h.pg f (by simp)).2.2, hp]
    · refine h.out k fun g hg => ?_
      rcases (hmem0 g).1 hg with rfl | hg
      · exact fun e => hkp e.symm
      · exact hk g hg
  · intro k hk4 hk
    refine h.disk k hk4 fun g hg e => ?_
    rcases (hmem0 g).1 hg with rfl | hg
    · exact hc
    · exact hk g hg e

set_option maxRecDepth 100000 in
set_option maxHeartbeats 16000000 in
theorem pRoom {J : Nat → Prop} {F0 : List UInt8} (E w : World) (X R P D : Fr) (p d most hand N : Nat) (fs : List Frm) (l : List (Int × Value)) (rs : List Raw) (cont : Nat → List UInt8) (pins : Nat → Nat) (hP : PoolP p d most hand fs l P) (hI : PInv most fs l (play rs 1) cont pins) (hD : DiskAt d rs D) (hh : hand < fs.length ∨ hand = 0)
    (hN : rs.length + chg fs ≤ N) (hJ : JI J F0 rs cont) (hm : 0 < most) (hm2 : most ≤ 1024) (hNN : N ≤ 8796093022208) (hO : Own E w X) [hp : Pick X (P ++ D) R] :
    Calls Tryz.prog 154 #[.pointer (some ⟨p, 0, none⟩)] w (RoomPost E J F0 p d most N fs cont pins R) := by
  have hP0 := hP
  obtain ⟨la, lc, mb, S, M, hS, hM, rfl⟩ := hP
  replace hO := hO.perm hp.perm
  clear hp
  have hlm := hI.len
  by_cases hlt : fs.length < most
  · have hlt1 : (fs.length : Int) < most := by omega
    ((try simp only [List.nil_append, List.append_nil] at hO); have hF := Own.cells hO; simp only [cellsOf_append, cellsOf_pt] at hF)
    go_enter Tryz.func154, Tryz.ntmps154
    go_wp2_with fail
    (refine own_still (by kernel_rfl) (by kernel_rfl) hO ?_; clear hO; (try clear hF); intro _ hO; ((try simp only [List.nil_append, List.append_nil] at hO); have hF := Own.cells hO; simp only [cellsOf_append, cellsOf_pt] at hF); (repeat still_step); refine wpStill_nil ?_)
    clear hF
    ((try simp only [List.nil_append, List.append_nil] at hO); have hF := Own.cells hO; simp only [cellsOf_append, cellsOf_pt] at hF)
    go_wp2_with (first | (refine at_box ?_; go_must (refine own_box (v := ?_) hO ?_ ?_ ?_; rotate_left; (· rfl); (· ((conv => lhs; whnf); try exact rfl)); clear hO; (try clear hF); intro b _ hO; (try simp only [Value.cells] at hO); ((try simp only [List.nil_append, List.append_nil] at hO); have hF := Own.cells hO; simp only [cellsOf_append, cellsOf_pt] at hF); simp only [Act.put, List.setIfInBounds_toArray, List.set_cons_zero, List.set_cons_succ])) | (refine at_bs ?_; go_must (refine own_build1 (v := ?_) sltFrames hO ?_ ?_ ?_ ?_ ?_ ?_; rotate_left; (· rfl); (· ((conv => lhs; whnf); try exact rfl)); (· rfl); (· decide); (· decide); clear hO; (try clear hF); intro bs _ hO; (try simp only [Value.cells] at hO); ((try simp only [List.nil_append, List.append_nil] at hO); have hF := Own.cells hO; simp only [cellsOf_append, cellsOf_pt] at hF); simp only [Act.put, List.setIfInBounds_toArray, List.set_cons_zero, List.set_cons_succ])) | (refine at_append ?_; go_must (refine own_append_elem (b1 := ?_) (cs := ?_) (e1 := ?_) (f1 := ?_) sltFrames hO ?_ ?_ ?_ hS ?_ ?_ ?_ ?_ ?_ ?_ ?_; rotate_left 4; (· rfl); (· rfl); (· rfl); (· exact inferInstance); (· rfl); (· intro u hu; simp at hu; subst hu; rfl); (· first | omega | (simp only [maxLen]; omega)); (· decide); (· first | omega | (simp only [maxLen]; omega)); clear hO; (try clear hF); intro _ _ _ _ hS hO; ((try simp only [List.nil_append, List.append_nil] at hO); have hF := Own.cells hO; simp only [cellsOf_append, cellsOf_pt] at hF); simp only [Act.put, List.setIfInBounds_toArray, List.set_cons_zero, List.set_cons_succ])) | (refine own_store (v := ?_) (off := 2) (b := p) hO ?_ ?_ ?_ ?_ ?_ ?_ ?_; rotate_left; (· rfl); (· ((conv => lhs; whnf); try exact rfl)); (· ((conv => lhs; whnf); try exact rfl)); (· simp [Value.cells]); (· simp [Value.cells, Value.oneCell']); (· simp [Value.cells]); clear hO; (try clear hF); intro _ hO; (try simp only [splice, Value.cells] at hO); ((try simp only [List.nil_append, List.append_nil] at hO); have hF := Own.cells hO; simp only [cellsOf_append, cellsOf_pt] at hF); simp only [Act.put, List.setIfInBounds_toArray, List.set_cons_zero, List.set_cons_succ]))
    (try simp only [splice, Value.cells, List.setIfInBounds_toArray, List.set_cons_zero, List.set_cons_succ] at hO)
    go_ret
    refine .inl ⟨hand, fs, b, .int .i64 0, .slice none 0 0, .int .i64 0, .bool false, .bool false, [], l, rs, _, D, ⟨_, _, mb, _, M, by simpa using hS, hM, rfl⟩, by rw [List.append_nil]; exact hI, by rw [List.append_nil]; exact hlt, ?_, hD, by rw [List.append_nil]; exact hN, hJ, fun f hf => ⟨f, by simpa using hf, rfl⟩, ?_, rfl⟩
    · rcases hh with hh | hh <;> simp <;> omega
    · rw [frmsF_nil, List.length_nil, Nat.add_zero, List.append_nil]
      exact hO.as _
  · have hlt1 : ¬ (fs.length : Int) < most := by omega
    have hh' : hand < fs.length := by omega
    ((try simp only [List.nil_append, List.append_nil] at hO); have hF := Own.cells hO; simp only [cellsOf_append, cellsOf_pt] at hF)
    go_enter Tryz.func154, Tryz.ntmps154
    go_wp2_with fail
    (refine own_still (by kernel_rfl) (by kernel_rfl) hO ?_; clear hO; (try clear hF); intro _ hO; ((try simp only [List.nil_append, List.append_nil] at hO); have hF := Own.cells hO; simp only [cellsOf_append, cellsOf_pt] at hF); (repeat still_step); refine wpStill_nil ?_)
    clear hF
    go_wp2_with fail
    refine (pVictim E _ _ _ _ p d most hand fs l hP0 hh' (by omega) hO).mono ?_; rintro e w1 ⟨hand1, fs1, P1, hP1, hh1, hst, hO, hc⟩
    rcases hc with ⟨pre, f, post, rfl, hp0, rfl⟩ | ⟨hall, rfl⟩
    · have hI1 := hI.ofStrp hst
      have hfb := (hI1.pg f (by simp)).2.1
      have hfl : f.bytes.length = 512 := by rw [hfb]; exact hI1.clen _
      have hlk := hI1.look_in (f := f) (by simp)
      clear hfb
      go_wp2_with fail
      refine (pWr E _ _ _ P1 D p d most hand1 pre post f l rs hP1 hD hfl (hI1.pg f (by simp)).1 (by omega) hO).mono ?_; rintro e w1 ⟨rfl, P2, D2, hP2, hD2, hO⟩
      obtain ⟨la2, lc2, mb2, S2, M2, hS2, hM2, rfl⟩ := hP2
      rw [frmsF_app, frmsF_cons] at hO
      unfold frmF at hO
      clear hP0
      ((try simp only [List.nil_append, List.append_nil] at hO); have hF := Own.cells hO; simp only [cellsOf_append, cellsOf_pt] at hF)
      go_wp2_with fail
      (refine own_still_tail 8 (by kernel_rfl) (by kernel_rfl) hO ?_; clear hO; (try clear hF); intro _ hO; ((try simp only [List.nil_append, List.append_nil] at hO); have hF := Own.cells hO; simp only [cellsOf_append, cellsOf_pt] at hF); simp only [List.take_succ_cons, List.take_zero, List.drop_succ_cons, List.drop_zero]; (repeat still_step); (try refine wpStill_nil ?_))
      go_wp2_with (refine at_del ?_; go_must (refine own_mapDelete (kt := 3) (et := 205) (b := mb2) (k := f.page) (l := l) (by kernel_rfl) (by kernel_rfl) hO hM2 ?_ ?_ ?_ hlk ?_; (· rfl); (· rfl); (· rfl); clear hO; (try clear hF); intro _ M3 hM3 hO; ((try simp only [List.nil_append, List.append_nil] at hO); have hF := Own.cells hO; simp only [cellsOf_append, cellsOf_pt] at hF); simp only [Act.put, List.setIfInBounds_toArray, List.set_cons_zero, List.set_cons_succ]))
      go_ret
      have hI2 := hI1.wr rs rfl
      have hN2 : rs.length + chg (pre ++ f :: post) ≤ N := by rw [chg_strp hst]; exact hN
      have el : (pre ++ { f with changed := false } :: post).length = pre.length + 1 + post.length := by simp; omega
      have hlen := strp_len hst
      refine .inl ⟨hand1, pre, f.blk, .int .i64 f.page, .slice (some ⟨f.bb, 0, none⟩) 512 512, .int .i64 f.pins, .bool false, .bool f.lately, post, _, wrR rs f, _, D2, ⟨la2, lc2, mb2, S2, M3, ?_, hM3, rfl⟩, hI2.drop rfl hp0, ?_, ?_, hD2, ?_, hJ.wr (hI1.pg f (by simp)).1 hI1, ?_, ?_, rfl⟩
      · rw [el, List.map_append, List.map_cons] at hS2
        exact hS2
      · simp at hlen ⊢; omega
      · simp at hh1 ⊢; omega
      · rw [chg_app, chg_cons] at hN2
        rw [chg_app]
        unfold wrR
        cases hc : f.changed <;> rw [hc] at hN2 <;> simp at hN2 ⊢ <;> omega
      · intro g hg
        have : strp g ∈ fs.map strp := by
          rw [← hst]
          exact List.mem_map.2 ⟨g, by simp at hg ⊢; rcases hg with h | h <;> simp [h], rfl⟩
        obtain ⟨g', hg', e⟩ := List.mem_map.1 this
        exact ⟨g', hg', congrArg (·.page) e⟩
      · rw [el] at hO
        exact hO.as _
    · go_wp2_with fail
      go_ret
      exact .inr ⟨hand1, fs1, l, rs, P1, D, hP1, hI.ofStrp hst, hD, hh1, by rw [chg_strp hst]; exact hN, hJ, by rw [strp_len hst]; omega, hall, hO.as _, rfl⟩
end Go.Proofs.YtkfkcloefgfkaaaGreat

/- The pool's contracts: Pin. -/
namespace Go.Proofs.YtkfkcloefgfkaaaGreat
open Go Go.RowKit Go.Own Go.Dk

section
variable {P : Program} {ops : Array Oper} {Q : Exit → Act → World → Prop} {rest : List Oper} {a : Act} {E w : World} {X R : Fr} {d : Option Tmp} {ty : TypeId} {pos : String} {aft : Array Edge} {g : Option (Nat × Bool)}
theorem own_makeBytes {t e : TypeId} {lx cx : Operand} {n : Nat} (hT : SlT P t e 1 1 (.int .u8 0)) (hO : Own E w X) (hw : Region.wanted ⟨d, .makeSlice t lx cx, ty, pos, aft, g⟩ (yielded ops a.tmps) = true)
    (hl : a.eval lx = .int .i64 n) (hc : a.eval cx = .int .i64 n) (hn : n ≤ 140737488355328)
    (next : ∀ b w1, Own E w1 (pt b (.cells (bytesV (List.replicate n 0)).toArray e (0, 0)) ++ X) → wpList P ops Q rest (a.put d (.slice (some ⟨b, 0, none⟩) n n)) w1) :
    wpList P ops Q (⟨d, .makeSlice t lx cx, ty, pos, aft, g⟩ :: rest) a w := by
  obtain ⟨i, hi, hz, hsz, hby⟩ := hT.parts
  have hr := run_make_row (P := P) t e i (.int .u8 0) hT.und hi hz hsz rfl .i64 .i64 n (by rw [hby]; omega) (by omega) w
  have hm : madeCells #[Value.int .u8 0] n = (bytesV (List.replicate n 0)).toArray := by
    apply Array.ext
    · simp [madeCells, bytesV]
    · intro j h1 h2
      simp [madeCells, bytesV, byteV, Nat.mod_one]
  rw [hm] at hr
  refine wpList_run_value hw ?_ (next _ _ (hO.alloc _))
  simp [execOp, hl, hc, hr]
end
theorem sz_1 (rs : List Raw) : sz rs 1 = (play rs 1).length := by
  unfold sz
  rw [if_pos (by decide)]
  rfl
theorem rd_pg (rs : List Raw) (page h : Nat) (hi : Int) (e : hi = h) (hh : 512 * page + h ≤ (play rs 1).length) : rd rs 1 ((page : Int) * 512) hi = (⟨(((play rs 1).drop (512 * page)).take h).toArray⟩, 0) := by
  subst e
  have e1 : (1 : Int).toNat = 1 := rfl
  unfold rd
  rw [e1, if_pos ⟨by decide, by omega, by omega, by omega, by omega⟩]
  congr 5
  congr 1
  omega
theorem pg_fill (F : List UInt8) (page h : Nat) (hh : h = min 512 (F.length - 512 * page)) : (bytesV (List.replicate 512 0)).take 0 ++ bytesV ((F.drop (512 * page)).take h) ++ (bytesV (List.replicate 512 0)).drop (0 + h) = bytesV (pgOf F page) := by
  have e1 : (F.drop (512 * page)).take 512 = (F.drop (512 * page)).take h := by
    rw [hh]
    by_cases h5 : 512 ≤ F.length - 512 * page
    · rw [Nat.min_eq_left h5]
    · rw [Nat.min_eq_right (by omega), List.take_of_length_le (by simp; omega), List.take_of_length_le (by simp)]
  have e2 : ((F.drop (512 * page)).take h).length = h := by rw [List.length_take, List.length_drop]; omega
  unfold pgOf
  rw [e1, e2, bytesV_append, List.take_zero, List.nil_append, Nat.zero_add, ← bytesV_drop, List.drop_replicate]
theorem zeroS (bb : Nat) : Sl 5 1 (some ⟨bb, 0, none⟩) 512 512 (bytesV (List.replicate 512 0)) (pt bb (.cells (bytesV (List.replicate 512 0)).toArray 5 (0, 0))) :=
  frmS ⟨0, bb, 0, List.replicate 512 0, 0, false, false⟩ (List.length_replicate)

/-- A page comes into a frame. -/
theorem _root_.Go.Dk.PInv.add {most : Nat} {pre post : List Frm} {f : Frm} {l : List (Int × Value)} {F : List UInt8} {cont : Nat → List UInt8} {pins : Nat → Nat} (h : PInv most (pre ++ post) l F cont pins) (hlt : (pre ++ post).length < most) (hpg : f.page < 4096)
    (hn : ∀ g ∈ pre ++ post, g.page ≠ f.page) (hb : f.bytes = cont f.page) (hd : pgOf F f.page = cont f.page) : PInv most (pre ++ f :: post) (l ++ [pairV f]) F cont (upd pins f.page f.pins) := by
  have hmem : ∀ g, g ∈ pre ++ f :: post ↔ g = f ∨ g ∈ pre ++ post := by intro g; simp; exact ⟨by rintro (h | h | h) <;> simp [h], by rintro (h | h | h) <;> simp [h]⟩
  refine ⟨by simp at hlt ⊢; omega, ?_, ?_, ?_, ?_, ?_, h.clen⟩
  · have h1 : (l ++ [pairV f]).Perm ((pre ++ post).map pairV ++ [pairV f]) := h.perm.append_right _
    refine h1.trans ?_
    rw [List.map_append, List.map_append, List.map_cons]
    refine (List.perm_append_comm).trans ?_
    show (pairV f :: (pre.map pairV ++ post.map pairV)).Perm _
    exact (List.perm_middle).symm
  · rw [List.map_append, List.map_cons]
    refine (List.perm_middle.nodup_iff).2 (List.nodup_cons.2 ⟨fun hm => ?_, by rw [← List.map_append]; exact h.nodup⟩)
    rw [← List.map_append] at hm
    obtain ⟨g, hg, e⟩ := List.mem_map.1 hm
    exact hn g hg e
  · intro g hg
    rcases (hmem g).1 hg with rfl | hg
    · exact ⟨hpg, hb, by rw [upd_same]⟩
    · rw [upd_ne _ _ _ _ (hn g hg)]
      exact h.pg g hg
  · intro k hk
    have hkp : k ≠ f.page := fun e => hk f ((hmem f).2 (.inl rfl)) e.symm
    rw [upd_ne _ _ _ _ hkp]
    exact h.out k fun g hg => hk g ((hmem g).2 (.inr hg))
  · intro k hk4 hk
    by_cases hkp : k = f.page
    · subst hkp
      exact hd
    · exact h.disk k hk4 fun g hg => hk g ((hmem g).2 (.inr hg))

def PinPost (E : World) (J : Nat → Prop) (F0 : List UInt8) (p d most N : Nat) (cont : Nat → List UInt8) (pins : Nat → Nat) (page : Nat) (R : Fr) (e : Ending) (w' : World) : Prop :=
  (e = .returned (.int .i64 0) ∧ ∃ A', PoolS J F0 p d most N cont (upd pins page (pins page + 1)) A' ∧ Own E w' (A' ++ R)) ∨
  (e = .returned (.int .i64 40) ∧ pins page = 0 ∧ (∃ Q : List Nat, Q.Nodup ∧ Q.length = most ∧ ∀ k ∈ Q, 0 < pins k) ∧ ∃ A', PoolS J F0 p d most N cont pins A' ∧ Own E w' (A' ++ R))

set_option maxRecDepth 100000 in
set_option maxHeartbeats 16000000 in
theorem pPin_bad (E w : World) (X R A : Fr) (p d most N : Nat) (cont : Nat → List UInt8) (pins : Nat → Nat) (page : Int) {J : Nat → Prop} {F0 : List UInt8} (hS : PoolS J F0 p d most N cont pins A) (hm : 0 < most) (h : page < 0 ∨ 4096 ≤ page) (hO : Own E w X) [hp : Pick X A R] :
    Calls Tryz.prog 107 #[.pointer (some ⟨p, 0, none⟩), .int .i64 page] w fun e w' => e = .returned (.int .i64 1) ∧ w = w' := by
  obtain ⟨hand, fs, l, rs, P, D, hP, hI, hD, hh, hN, hJ, rfl⟩ := hS
  replace hO := hO.perm hp.perm
  clear hp
  by_cases h1 : page < 0
  · clear h
    go_enter Tryz.func107, Tryz.ntmps107
    go_wp2_with fail
    refine (pGiven E _ _ _ P p d most hand _ l hP hm hO).mono ?_; rintro e w1 ⟨rfl, rfl⟩
    go_wp2_with fail
    go_ret
    exact ⟨rfl, rfl⟩
  · have h2 : 4096 ≤ page := by omega
    clear h
    go_enter Tryz.func107, Tryz.ntmps107
    go_wp2_with fail
    refine (pGiven E _ _ _ P p d most hand _ l hP hm hO).mono ?_; rintro e w1 ⟨rfl, rfl⟩
    go_wp2_with fail
    go_ret
    exact ⟨rfl, rfl⟩

set_option maxRecDepth 100000 in
set_option maxHeartbeats 16000000 in
theorem pPin (E w : World) (X R A : Fr) (p d most N : Nat) (cont : Nat → List UInt8) (pins : Nat → Nat) (page : Nat) {J : Nat → Prop} {F0 : List UInt8} (hS : PoolS J F0 p d most N cont pins A) (hm : 0 < most) (hm2 : most ≤ 1024) (hNN : N ≤ 8796093022208) (hpg : page < 4096) (hb : pins page < 281474976710656) (hO : Own E w X) [hp : Pick X A R] :
    Calls Tryz.prog 107 #[.pointer (some ⟨p, 0, none⟩), .int .i64 page] w (PinPost E J F0 p d most N cont pins page R) := by
  obtain ⟨hand, fs, l, rs, P, D, hP, hI, hD, hh, hN, hJ, rfl⟩ := hS
  replace hO := hO.perm hp.perm
  clear hp
  have hpg0 : (0 : Int) ≤ page := by omega
  have hpg1 : (page : Int) < 4096 := by omega
  have hP0 := hP
  rcases page_cases fs page with ⟨pre, f, post, rfl, hk⟩ | hk
  · have hk' : f.page = page := by omega
    subst hk'
    have hl := hI.look_in (f := f) (by simp)
    have hfp := (hI.pg f (by simp)).2.2
    have hfb := (hI.pg f (by simp)).2.1
    have hb1 : f.pins < 281474976710656 := by omega
    have HFP := Lib.hid hfp
    have hb2 : wrap64 ((f.pins : Int) + 1) = (f.pins : Int) + 1 := by unfold wrap64; omega
    clear hb1
    clear hfp hfb hk
    go_enter Tryz.func107, Tryz.ntmps107
    go_wp2_with fail
    refine (pGiven E _ _ _ P p d most hand _ l hP hm hO).mono ?_; rintro e w1 ⟨rfl, rfl⟩
    obtain ⟨la, lc, mb, S, M, hS, hM, rfl⟩ := hP
    rw [frmsF_app, frmsF_cons] at hO
    unfold frmF at hO
    unfold ptrV at hl
    ((try simp only [List.nil_append, List.append_nil] at hO); have hF := Own.cells hO; simp only [cellsOf_append, cellsOf_pt] at hF)
    go_wp2_with (first | (refine at_lookup ?_; go_must (refine own_lookup (kt := 3) (et := 205) (b := mb) (k := f.page) (l := l) (by kernel_rfl) (by kernel_rfl) zeroFP hO hM ?_ ?_ ?_ ?_; (· rfl); (· rfl); (· rfl); rw [hl]; simp only [Act.put, List.setIfInBounds_toArray, List.set_cons_zero, List.set_cons_succ])) | (refine own_store (v := ?_) (off := 2) (b := f.blk) hO ?_ ?_ ?_ ?_ ?_ ?_ ?_; rotate_left; (· rfl); (· ((conv => lhs; whnf); try exact rfl)); (· ((conv => lhs; whnf); try exact rfl)); (· simp [Value.cells]); (· simp [Value.cells, Value.oneCell']); (· simp [Value.cells]); clear hO; (try clear hF); intro _ hO; (try simp only [splice, Value.cells] at hO); ((try simp only [List.nil_append, List.append_nil] at hO); have hF := Own.cells hO; simp only [cellsOf_append, cellsOf_pt] at hF); simp only [Act.put, List.setIfInBounds_toArray, List.set_cons_zero, List.set_cons_succ]) | (refine own_store (v := ?_) (off := 4) (b := f.blk) hO ?_ ?_ ?_ ?_ ?_ ?_ ?_; rotate_left; (· rfl); (· ((conv => lhs; whnf); try exact rfl)); (· ((conv => lhs; whnf); try exact rfl)); (· simp [Value.cells]); (· simp [Value.cells, Value.oneCell']); (· simp [Value.cells]); clear hO; (try clear hF); intro _ hO; (try simp only [splice, Value.cells] at hO); ((try simp only [List.nil_append, List.append_nil] at hO); have hF := Own.cells hO; simp only [cellsOf_append, cellsOf_pt] at hF); simp only [Act.put, List.setIfInBounds_toArray, List.set_cons_zero, List.set_cons_succ]))
    (try simp only [splice, Value.cells, List.setIfInBounds_toArray, List.set_cons_zero, List.set_cons_succ] at hO)
    go_ret
    have e1 : ((f.pins : Int) + 1) = ((f.pins + 1 : Nat) : Int) := by omega
    rw [hb2, e1] at hO
    have el : (pre ++ { f with pins := f.pins + 1, lately := true } :: post).length = (pre ++ f :: post).length := by simp
    refine .inl ⟨rfl, _, ⟨hand, pre ++ { f with pins := f.pins + 1, lately := true } :: post, l, rs, _, D, ⟨la, lc, mb, S, M, PoolP.same f _ rfl hS, hM, rfl⟩, ?_, hD, ?_, ?_, hJ, rfl⟩, ?_⟩
    · have hfb := (hI.pg f (by simp)).2.1
      have hi := hI.set (f' := { f with pins := f.pins + 1, lately := true }) rfl rfl (by rw [(hI.pg f (by simp)).2.1]; exact hI.clen _) (.inr ⟨rfl, rfl⟩)
      have e2 : upd cont f.page f.bytes = cont := by rw [hfb]; exact upd_id _ _
      rw [e2] at hi
      rw [← HFP.out]
      exact hi
    · simpa using hh
    · rw [chg_app, chg_cons] at hN ⊢
      exact hN
    · rw [frmsF_app, frmsF_cons, el]
      unfold frmF
      exact hO.as _
  · have hl := hI.look_out hk
    go_enter Tryz.func107, Tryz.ntmps107
    go_wp2_with fail
    refine (pGiven E _ _ _ P p d most hand _ l hP hm hO).mono ?_; rintro e w1 ⟨rfl, rfl⟩
    obtain ⟨la, lc, mb, S, M, hS, hM, rfl⟩ := hP
    ((try simp only [List.nil_append, List.append_nil] at hO); have hF := Own.cells hO; simp only [cellsOf_append, cellsOf_pt] at hF)
    go_wp2_with (first | (refine at_lookup ?_; go_must (refine own_lookup (kt := 3) (et := 205) (b := mb) (k := page) (l := l) (by kernel_rfl) (by kernel_rfl) zeroFP hO hM ?_ ?_ ?_ ?_; (· rfl); (· rfl); (· rfl); rw [hl]; simp only [Act.put, List.setIfInBounds_toArray, List.set_cons_zero, List.set_cons_succ])))
    refine (pRoom E _ _ _ _ D p d most hand N fs l rs cont pins hP0 hI hD hh hN hJ hm hm2 hNN hO).mono ?_; rintro e w1 (⟨hand1, pre, b, c0, c1, c2, c3, c4, post, l1, rs1, P1, D1, hP1, hI1, hlt1, hh1, hD1, hN1, hJ1, hsub, hO, rfl⟩ | ⟨hand1, fs1, l1, rs1, P1, D1, hP1, hI1, hD1, hh1, hN1, hJ1, hful, hall, hO, rfl⟩)
    · obtain ⟨la, lc, mb, S, M, hS, hM, rfl⟩ := hP1
      clear hF
      ((try simp only [List.nil_append, List.append_nil] at hO); have hF := Own.cells hO; simp only [cellsOf_append, cellsOf_pt] at hF)
      go_wp2_with (first | (refine at_mks ?_; go_must (refine own_makeBytes (e := 5) (n := 512) sltBytes hO ?_ ?_ ?_ (by decide) ?_; (· rfl); (· rfl); (· rfl); clear hO; (try clear hF); intro bb _ hO; ((try simp only [List.nil_append, List.append_nil] at hO); have hF := Own.cells hO; simp only [cellsOf_append, cellsOf_pt] at hF); simp only [Act.put, List.setIfInBounds_toArray, List.set_cons_zero, List.set_cons_succ])) | (refine own_store (v := ?_) (off := 0) (b := b) hO ?_ ?_ ?_ ?_ ?_ ?_ ?_; rotate_left; (· rfl); (· ((conv => lhs; whnf); try exact rfl)); (· ((conv => lhs; whnf); try exact rfl)); (· simp [Value.cells]); (· simp [Value.cells, Value.oneCell']); (· simp [Value.cells]); clear hO; (try clear hF); intro _ hO; (try simp only [splice, Value.cells] at hO); ((try simp only [List.nil_append, List.append_nil] at hO); have hF := Own.cells hO; simp only [cellsOf_append, cellsOf_pt] at hF); simp only [Act.put, List.setIfInBounds_toArray, List.set_cons_zero, List.set_cons_succ]))
      (try simp only [splice, Value.cells, List.setIfInBounds_toArray, List.set_cons_zero, List.set_cons_succ] at hO)
      have hnp : ∀ g ∈ pre ++ post, g.page ≠ page := by
        intro g hg e
        obtain ⟨g', hg', e'⟩ := hsub g hg
        exact hk g' hg' (by rw [e', e])
      have hdk := hI1.disk page hpg (fun g hg e => absurd e (hnp g hg))
      have hl1 := hI1.look_out (k := (page : Int)) (fun g hg e => hnp g hg (by omega))
      have hle := play_le hD1.1 1
      have hp0 := hI1.out page (fun g hg e => hnp g hg e)
      have hadd := hI1.add (f := ⟨b, bb, page, cont page, 1, false, true⟩) hlt1 hpg hnp rfl hdk
      have HADD := Lib.hid hadd
      have HK := Lib.hid hdk
      have HNP := Lib.hid hnp
      have HP0 := Lib.hid hp0
      clear hdk hnp hk hsub hp0 hadd
      refine (dSize E _ _ _ d rs1 D1 1 hD1 hO).mono ?_; rw [sz_1]; rintro e w1 ⟨rfl, rfl⟩
      have hle1 : ((play rs1 1).length : Int) ≤ 4194304 := by omega
      by_cases hf1 : 512 * page + 512 < (play rs1 1).length
      · have hf2 : (page : Int) * 512 + 512 < (play rs1 1).length := by omega
        go_wp2_with fail
        refine (dRead E _ _ _ d rs1 D1 1 _ _ hD1 hO).mono ?_; rw [rd_pg rs1 page 512 512 rfl (by omega)]; rintro e w1 ⟨rfl, rfl⟩
        have hmin : 512 = min 512 ((play rs1 1).length - 512 * page) := by omega
        (
        have hov := pg_fill (play rs1 1) page 512 hmin
        have hsz : (⟨(((play rs1 1).drop (512 * page)).take 512).toArray⟩ : ByteArray).size = 512 := by simp [ByteArray.size]; omega
        have hdt : (⟨(((play rs1 1).drop (512 * page)).take 512).toArray⟩ : ByteArray).data.toList = ((play rs1 1).drop (512 * page)).take 512 := by simp
        rw [← hdt, HK.out] at hov
        clear hdt hmin
        generalize (⟨(((play rs1 1).drop (512 * page)).take 512).toArray⟩ : ByteArray) = s at hov hsz ⊢
        have hov2 : (bytesV (List.replicate 512 0)).take 0 ++ bytesV s.data.toList ++ (bytesV (List.replicate 512 0)).drop (0 + s.size) = bytesV (cont page) := by rw [hsz]; exact hov
        have HOV := Lib.hid hov2
        clear hov hov2
        have hs5 : s.size ≤ 512 := by omega
        clear hF
        ((try simp only [List.nil_append, List.append_nil] at hO); have hF := Own.cells hO; simp only [cellsOf_append, cellsOf_pt] at hF)
        (
        go_wp2_with (first | (refine at_copy ?_; go_must (refine own_copy_str (da := ?_) (dn := ?_) (dc := ?_) (l := 0) (s := s) sltBytes hO ?_ ?_ ?_ (zeroS bb) ?_ ?_ ?_ ?_; rotate_left 3; (· rfl); (· ((conv => lhs; whnf); try exact rfl)); (· rfl); (· intro h0; rw [Option.map_some, add_lit]); (· omega); (· omega); clear hO; (try clear hF); intro A2 _ hS2 hO; obtain rfl := sl_full hS2; (rw [HOV.out] at hO); ((try simp only [List.nil_append, List.append_nil] at hO); have hF := Own.cells hO; simp only [cellsOf_append, cellsOf_pt] at hF); simp only [Act.put, List.setIfInBounds_toArray, List.set_cons_zero, List.set_cons_succ])) | (refine at_mapup ?_; go_must (refine own_mapNew (kt := 3) (et := 205) (b := mb) (k := page) (v := .pointer (some ⟨b, 0, none⟩)) (l := l1) (by kernel_rfl) (by kernel_rfl) hO hM ?_ ?_ ?_ ?_ hl1 ?_; (· rfl); (· rfl); (· rfl); (· rfl); clear hO; (try clear hF); intro _ M3 hM3 hO; ((try simp only [List.nil_append, List.append_nil] at hO); have hF := Own.cells hO; simp only [cellsOf_append, cellsOf_pt] at hF); simp only [Act.put, List.setIfInBounds_toArray, List.set_cons_zero, List.set_cons_succ])) | (refine own_store (v := ?_) (off := 2) (b := b) hO ?_ ?_ ?_ ?_ ?_ ?_ ?_; rotate_left; (· rfl); (· ((conv => lhs; whnf); try exact rfl)); (· ((conv => lhs; whnf); try exact rfl)); (· simp [Value.cells]); (· simp [Value.cells, Value.oneCell']); (· simp [Value.cells]); clear hO; (try clear hF); intro _ hO; (try simp only [splice, Value.cells] at hO); ((try simp only [List.nil_append, List.append_nil] at hO); have hF := Own.cells hO; simp only [cellsOf_append, cellsOf_pt] at hF); simp only [Act.put, List.setIfInBounds_toArray, List.set_cons_zero, List.set_cons_succ]) | (refine own_store (v := ?_) (off := 4) (b := b) hO ?_ ?_ ?_ ?_ ?_ ?_ ?_; rotate_left; (· rfl); (· ((conv => lhs; whnf); try exact rfl)); (· ((conv => lhs; whnf); try exact rfl)); (· simp [Value.cells]); (· simp [Value.cells, Value.oneCell']); (· simp [Value.cells]); clear hO; (try clear hF); intro _ hO; (try simp only [splice, Value.cells] at hO); ((try simp only [List.nil_append, List.append_nil] at hO); have hF := Own.cells hO; simp only [cellsOf_append, cellsOf_pt] at hF); simp only [Act.put, List.setIfInBounds_toArray, List.set_cons_zero, List.set_cons_succ]))
        (try simp only [splice, Value.cells, List.setIfInBounds_toArray, List.set_cons_zero, List.set_cons_succ] at hO)
        go_ret
        have hp0 := HP0.out
        refine .inl ⟨rfl, _, ⟨hand1, pre ++ ⟨b, bb, page, cont page, 1, false, true⟩ :: post, l1 ++ [pairV ⟨b, bb, page, cont page, 1, false, true⟩], rs1, _, D1, ⟨la, lc, mb, S, M3, ?_, hM3, rfl⟩, ?_, hD1, ?_, ?_, hJ1, rfl⟩, ?_⟩
        · rw [show (pre ++ (⟨b, bb, page, cont page, 1, false, true⟩ : Frm) :: post).length = pre.length + 1 + post.length by simp; omega, List.map_append, List.map_cons]
          exact hS
        · rw [hp0]
          exact HADD.out
        · left; simp; omega
        · rw [chg_app] at hN1
          rw [chg_app, chg_cons]
          simp
          omega
        · rw [show (pre ++ (⟨b, bb, page, cont page, 1, false, true⟩ : Frm) :: post).length = pre.length + 1 + post.length by simp; omega, frmsF_app, frmsF_cons]
          unfold frmF
          exact hO.as _))
      · by_cases hf3 : 512 * page < (play rs1 1).length
        · obtain ⟨h, hh1⟩ : ∃ h : Nat, h = (play rs1 1).length - 512 * page := ⟨_, rfl⟩
          have hf2 : (page : Int) * 512 < (play rs1 1).length := by omega
          have hf4 : ((play rs1 1).length : Int) ≤ (page : Int) * 512 + 512 := by omega
          go_wp2_with fail
          refine (dRead E _ _ _ d rs1 D1 1 _ _ hD1 hO).mono ?_; rw [rd_pg rs1 page h (((play rs1 1).length : Int) - (page : Int) * 512) (by omega) (by omega)]; rintro e w1 ⟨rfl, rfl⟩
          have hmin : h = min 512 ((play rs1 1).length - 512 * page) := by omega
          (
        have hov := pg_fill (play rs1 1) page h hmin
        have hsz : (⟨(((play rs1 1).drop (512 * page)).take h).toArray⟩ : ByteArray).size = h := by simp [ByteArray.size]; omega
        have hdt : (⟨(((play rs1 1).drop (512 * page)).take h).toArray⟩ : ByteArray).data.toList = ((play rs1 1).drop (512 * page)).take h := by simp
        rw [← hdt, HK.out] at hov
        clear hdt hmin
        generalize (⟨(((play rs1 1).drop (512 * page)).take h).toArray⟩ : ByteArray) = s at hov hsz ⊢
        have hov2 : (bytesV (List.replicate 512 0)).take 0 ++ bytesV s.data.toList ++ (bytesV (List.replicate 512 0)).drop (0 + s.size) = bytesV (cont page) := by rw [hsz]; exact hov
        have HOV := Lib.hid hov2
        clear hov hov2
        have hs5 : s.size ≤ 512 := by omega
        clear hF
        ((try simp only [List.nil_append, List.append_nil] at hO); have hF := Own.cells hO; simp only [cellsOf_append, cellsOf_pt] at hF)
        (
        go_wp2_with (first | (refine at_copy ?_; go_must (refine own_copy_str (da := ?_) (dn := ?_) (dc := ?_) (l := 0) (s := s) sltBytes hO ?_ ?_ ?_ (zeroS bb) ?_ ?_ ?_ ?_; rotate_left 3; (· rfl); (· ((conv => lhs; whnf); try exact rfl)); (· rfl); (· intro h0; rw [Option.map_some, add_lit]); (· omega); (· omega); clear hO; (try clear hF); intro A2 _ hS2 hO; obtain rfl := sl_full hS2; (rw [HOV.out] at hO); ((try simp only [List.nil_append, List.append_nil] at hO); have hF := Own.cells hO; simp only [cellsOf_append, cellsOf_pt] at hF); simp only [Act.put, List.setIfInBounds_toArray, List.set_cons_zero, List.set_cons_succ])) | (refine at_mapup ?_; go_must (refine own_mapNew (kt := 3) (et := 205) (b := mb) (k := page) (v := .pointer (some ⟨b, 0, none⟩)) (l := l1) (by kernel_rfl) (by kernel_rfl) hO hM ?_ ?_ ?_ ?_ hl1 ?_; (· rfl); (· rfl); (· rfl); (· rfl); clear hO; (try clear hF); intro _ M3 hM3 hO; ((try simp only [List.nil_append, List.append_nil] at hO); have hF := Own.cells hO; simp only [cellsOf_append, cellsOf_pt] at hF); simp only [Act.put, List.setIfInBounds_toArray, List.set_cons_zero, List.set_cons_succ])) | (refine own_store (v := ?_) (off := 2) (b := b) hO ?_ ?_ ?_ ?_ ?_ ?_ ?_; rotate_left; (· rfl); (· ((conv => lhs; whnf); try exact rfl)); (· ((conv => lhs; whnf); try exact rfl)); (· simp [Value.cells]); (· simp [Value.cells, Value.oneCell']); (· simp [Value.cells]); clear hO; (try clear hF); intro _ hO; (try simp only [splice, Value.cells] at hO); ((try simp only [List.nil_append, List.append_nil] at hO); have hF := Own.cells hO; simp only [cellsOf_append, cellsOf_pt] at hF); simp only [Act.put, List.setIfInBounds_toArray, List.set_cons_zero, List.set_cons_succ]) | (refine own_store (v := ?_) (off := 4) (b := b) hO ?_ ?_ ?_ ?_ ?_ ?_ ?_; rotate_left; (· rfl); (· ((conv => lhs; whnf); try exact rfl)); (· ((conv => lhs; whnf); try exact rfl)); (· simp [Value.cells]); (· simp [Value.cells, Value.oneCell']); (· simp [Value.cells]); clear hO; (try clear hF); intro _ hO; (try simp only [splice, Value.cells] at hO); ((try simp only [List.nil_append, List.append_nil] at hO); have hF := Own.cells hO; simp only [cellsOf_append, cellsOf_pt] at hF); simp only [Act.put, List.setIfInBounds_toArray, List.set_cons_zero, List.set_cons_succ]))
        (try simp only [splice, Value.cells, List.setIfInBounds_toArray, List.set_cons_zero, List.set_cons_succ] at hO)
        go_ret
        have hp0 := HP0.out
        refine .inl ⟨rfl, _, ⟨hand1, pre ++ ⟨b, bb, page, cont page, 1, false, true⟩ :: post, l1 ++ [pairV ⟨b, bb, page, cont page, 1, false, true⟩], rs1, _, D1, ⟨la, lc, mb, S, M3, ?_, hM3, rfl⟩, ?_, hD1, ?_, ?_, hJ1, rfl⟩, ?_⟩
        · rw [show (pre ++ (⟨b, bb, page, cont page, 1, false, true⟩ : Frm) :: post).length = pre.length + 1 + post.length by simp; omega, List.map_append, List.map_cons]
          exact hS
        · rw [hp0]
          exact HADD.out
        · left; simp; omega
        · rw [chg_app] at hN1
          rw [chg_app, chg_cons]
          simp
          omega
        · rw [show (pre ++ (⟨b, bb, page, cont page, 1, false, true⟩ : Frm) :: post).length = pre.length + 1 + post.length by simp; omega, frmsF_app, frmsF_cons]
          unfold frmF
          exact hO.as _))
        · have hf2 : ((play rs1 1).length : Int) ≤ (page : Int) * 512 := by omega
          have hz : bytesV (List.replicate 512 0) = bytesV (cont page) := by
            rw [← HK.out]
            unfold pgOf
            rw [List.drop_eq_nil_of_le (by omega)]
            rfl
          rw [hz] at hO
          (
        go_wp2_with (first | (refine at_copy ?_; go_must (refine own_copy_str (da := ?_) (dn := ?_) (dc := ?_) (l := 0) (s := s) sltBytes hO ?_ ?_ ?_ (zeroS bb) ?_ ?_ ?_ ?_; rotate_left 3; (· rfl); (· ((conv => lhs; whnf); try exact rfl)); (· rfl); (· intro h0; rw [Option.map_some, add_lit]); (· omega); (· omega); clear hO; (try clear hF); intro A2 _ hS2 hO; obtain rfl := sl_full hS2; (rw [HOV.out] at hO); ((try simp only [List.nil_append, List.append_nil] at hO); have hF := Own.cells hO; simp only [cellsOf_append, cellsOf_pt] at hF); simp only [Act.put, List.setIfInBounds_toArray, List.set_cons_zero, List.set_cons_succ])) | (refine at_mapup ?_; go_must (refine own_mapNew (kt := 3) (et := 205) (b := mb) (k := page) (v := .pointer (some ⟨b, 0, none⟩)) (l := l1) (by kernel_rfl) (by kernel_rfl) hO hM ?_ ?_ ?_ ?_ hl1 ?_; (· rfl); (· rfl); (· rfl); (· rfl); clear hO; (try clear hF); intro _ M3 hM3 hO; ((try simp only [List.nil_append, List.append_nil] at hO); have hF := Own.cells hO; simp only [cellsOf_append, cellsOf_pt] at hF); simp only [Act.put, List.setIfInBounds_toArray, List.set_cons_zero, List.set_cons_succ])) | (refine own_store (v := ?_) (off := 2) (b := b) hO ?_ ?_ ?_ ?_ ?_ ?_ ?_; rotate_left; (· rfl); (· ((conv => lhs; whnf); try exact rfl)); (· ((conv => lhs; whnf); try exact rfl)); (· simp [Value.cells]); (· simp [Value.cells, Value.oneCell']); (· simp [Value.cells]); clear hO; (try clear hF); intro _ hO; (try simp only [splice, Value.cells] at hO); ((try simp only [List.nil_append, List.append_nil] at hO); have hF := Own.cells hO; simp only [cellsOf_append, cellsOf_pt] at hF); simp only [Act.put, List.setIfInBounds_toArray, List.set_cons_zero, List.set_cons_succ]) | (refine own_store (v := ?_) (off := 4) (b := b) hO ?_ ?_ ?_ ?_ ?_ ?_ ?_; rotate_left; (· rfl); (· ((conv => lhs; whnf); try exact rfl)); (· ((conv => lhs; whnf); try exact rfl)); (· simp [Value.cells]); (· simp [Value.cells, Value.oneCell']); (· simp [Value.cells]); clear hO; (try clear hF); intro _ hO; (try simp only [splice, Value.cells] at hO); ((try simp only [List.nil_append, List.append_nil] at hO); have hF := Own.cells hO; simp only [cellsOf_append, cellsOf_pt] at hF); simp only [Act.put, List.setIfInBounds_toArray, List.set_cons_zero, List.set_cons_succ]))
        (try simp only [splice, Value.cells, List.setIfInBounds_toArray, List.set_cons_zero, List.set_cons_succ] at hO)
        go_ret
        have hp0 := HP0.out
        refine .inl ⟨rfl, _, ⟨hand1, pre ++ ⟨b, bb, page, cont page, 1, false, true⟩ :: post, l1 ++ [pairV ⟨b, bb, page, cont page, 1, false, true⟩], rs1, _, D1, ⟨la, lc, mb, S, M3, ?_, hM3, rfl⟩, ?_, hD1, ?_, ?_, hJ1, rfl⟩, ?_⟩
        · rw [show (pre ++ (⟨b, bb, page, cont page, 1, false, true⟩ : Frm) :: post).length = pre.length + 1 + post.length by simp; omega, List.map_append, List.map_cons]
          exact hS
        · rw [hp0]
          exact HADD.out
        · left; simp; omega
        · rw [chg_app] at hN1
          rw [chg_app, chg_cons]
          simp
          omega
        · rw [show (pre ++ (⟨b, bb, page, cont page, 1, false, true⟩ : Frm) :: post).length = pre.length + 1 + post.length by simp; omega, frmsF_app, frmsF_cons]
          unfold frmF
          exact hO.as _)
    · go_wp2_with fail
      go_ret
      refine .inr ⟨rfl, hI.out page (fun f hf e => hk f hf (by rw [e])), ⟨fs1.map (·.page), hI1.nodup, by rw [List.length_map, hful], ?_⟩, _, ⟨hand1, fs1, l1, rs1, P1, D1, hP1, hI1, hD1, .inl hh1, hN1, hJ1, rfl⟩, hO.as _⟩
      intro k hkk
      obtain ⟨f, hf, rfl⟩ := List.mem_map.1 hkk
      have := hall f hf
      rw [(hI1.pg f hf).2.2] at this
      omega
end Go.Proofs.YtkfkcloefgfkaaaGreat

/- The pool's contracts: New; a pool that nobody made. -/
namespace Go.Proofs.YtkfkcloefgfkaaaGreat
open Go Go.RowKit Go.Own Go.Dk

theorem rd_00 (rs : List Raw) : rd rs 1 0 0 = (⟨#[]⟩, 0) := by
  have := rd_pg rs 0 0 0 rfl (by omega)
  simpa using this

set_option maxRecDepth 100000 in
set_option maxHeartbeats 16000000 in
theorem pNew_ok (E w : World) (X R D : Fr) (d most : Nat) (rs : List Raw) (hD : DiskAt d rs D) (hm : 0 < most) (hm2 : most ≤ 1024) (hO : Own E w X) [hp : Pick X D R] :
    Calls Tryz.prog 59 #[.pointer (some ⟨d, 0, none⟩), .int .i64 most] w fun e w' => ∃ p P, e = .returned (.tuple #[.pointer (some ⟨p, 0, none⟩), .int .i64 0]) ∧ PoolP p d most 0 [] [] P ∧ Own E w' (P ++ (D ++ R)) := by
  replace hO := hO.perm hp.perm
  clear hp
  have hm3 : (1 : Int) ≤ most := by omega
  have hm4 : (most : Int) ≤ 1024 := by omega
  go_enter Tryz.func59, Tryz.ntmps59
  go_wp2_with fail
  refine (dRead E _ _ _ d rs D 1 0 0 hD hO).mono ?_; rw [rd_00]; rintro e w1 ⟨rfl, rfl⟩
  go_wp2_with (first | (refine at_box ?_; go_must (refine own_box (v := ?_) hO ?_ ?_ ?_; rotate_left; (· rfl); (· ((conv => lhs; whnf); try exact rfl)); clear hO; (try clear hF); intro b _ hO; (try simp only [Value.cells] at hO); ((try simp only [List.nil_append, List.append_nil] at hO); have hF := Own.cells hO; simp only [cellsOf_append, cellsOf_pt] at hF); simp only [Act.put, List.setIfInBounds_toArray, List.set_cons_zero, List.set_cons_succ])) | (refine at_mkMap ?_; go_must (refine own_makeMap hO ?_ ?_; (· rfl); clear hO; (try clear hF); intro mb M _ hM hO; ((try simp only [List.nil_append, List.append_nil] at hO); have hF := Own.cells hO; simp only [cellsOf_append, cellsOf_pt] at hF); simp only [Act.put, List.setIfInBounds_toArray, List.set_cons_zero, List.set_cons_succ])))
  go_ret2
  refine ⟨b, _, rfl, ⟨none, 0, mb, [], M, Sl.nil _ _, hM, rfl⟩, ?_⟩
  show Own E _ ((pt b (.cells #[.pointer (some ⟨d, 0, none⟩), .int .i64 most, .slice none 0 0, .int .i64 0, .map (some mb)] 166 (0, 0)) ++ (M ++ [])) ++ (D ++ R))
  rw [List.append_nil]
  exact hO.as _

set_option maxRecDepth 100000 in
set_option maxHeartbeats 16000000 in
theorem pNew_bad (E w : World) (X R D : Fr) (d : Nat) (frames : Int) (rs : List Raw) (hD : DiskAt d rs D) (hf : frames < 1 ∨ 1024 < frames) (hO : Own E w X) [hp : Pick X D R] :
    Calls Tryz.prog 59 #[.pointer (some ⟨d, 0, none⟩), .int .i64 frames] w fun e w' => e = .returned (.tuple #[.pointer none, .int .i64 1]) ∧ w = w' := by
  replace hO := hO.perm hp.perm
  clear hp
  by_cases h1 : frames < 1
  · clear hf
    go_enter Tryz.func59, Tryz.ntmps59
    go_wp2_with fail
    refine (dRead E _ _ _ d rs D 1 0 0 hD hO).mono ?_; rw [rd_00]; rintro e w1 ⟨rfl, rfl⟩
    go_wp2_with fail
    go_ret2
    exact ⟨rfl, rfl⟩
  · have h2 : 1024 < frames := by omega
    clear hf
    go_enter Tryz.func59, Tryz.ntmps59
    go_wp2_with fail
    refine (dRead E _ _ _ d rs D 1 0 0 hD hO).mono ?_; rw [rd_00]; rintro e w1 ⟨rfl, rfl⟩
    go_wp2_with fail
    go_ret2
    exact ⟨rfl, rfl⟩

set_option maxRecDepth 100000 in
set_option maxHeartbeats 16000000 in
theorem pNew_nil (w : World) (frames : Int) : Calls Tryz.prog 59 #[.pointer none, .int .i64 frames] w fun e w' => e = .returned (.tuple #[.pointer none, .int .i64 1]) ∧ w = w' := by
  have hN : Nob w (.pointer none) := .inl rfl
  go_enter Tryz.func59, Tryz.ntmps59
  go_wp2_with fail
  refine (nRead _ _ _ _ _ hN).mono ?_; rintro e w1 ⟨rfl, rfl⟩
  go_wp2_with fail
  go_ret2
  exact ⟨rfl, rfl⟩

theorem PInv.new (most : Nat) : PInv most [] [] [] (fun _ => List.replicate 512 0) (fun _ => 0) :=
  ⟨Nat.zero_le _, .refl _, List.nodup_nil, fun f hf => absurd hf (by simp), fun _ _ => rfl, fun k _ _ => pgOf_nil k, fun _ => List.length_replicate⟩
theorem PoolS.new {J : Nat → Prop} {p d most : Nat} {P D : Fr} (hP : PoolP p d most 0 [] [] P) (hD : DiskAt d [] D) : PoolS J [] p d most 0 (fun _ => List.replicate 512 0) (fun _ => 0) (P ++ D) :=
  ⟨0, [], [], [], P, D, hP, PInv.new most, hD, .inr rfl, by simp [chg], ⟨rfl, fun k _ _ => pgOf_nil k⟩, rfl⟩

/-- A pointer to no pool: nil, or a pool of no frames. -/
def NoPool (v : Value) (w : World) : Prop := v = .pointer none ∨ ∃ b, v = .pointer (some ⟨b, 0, none⟩) ∧ w.cell? ⟨b, 1, none⟩ = some (.int .i64 0)

set_option maxRecDepth 100000 in
set_option maxHeartbeats 16000000 in
theorem nGiven (w : World) (v : Value) (h : NoPool v w) : Calls Tryz.prog 151 #[v] w fun e w' => e = .returned (.bool false) ∧ w = w' := by
  rcases h with rfl | ⟨l, rfl, hl⟩
  · go_enter Tryz.func151, Tryz.ntmps151
    go_wp2
    go_ret
    exact ⟨rfl, rfl⟩
  · go_enter Tryz.func151, Tryz.ntmps151
    go_wp2
    go_ret
    exact ⟨rfl, rfl⟩
set_option maxRecDepth 100000 in
set_option maxHeartbeats 16000000 in
theorem nPin (w : World) (v : Value) (n : Int) (h : NoPool v w) : Calls Tryz.prog 107 #[v, .int .i64 n] w fun e w' => e = .returned (.int .i64 1) ∧ w = w' := by
  go_enter Tryz.func107, Tryz.ntmps107
  go_wp2_with fail
  refine (nGiven _ _ h).mono ?_; rintro e w1 ⟨rfl, rfl⟩
  go_wp2_with fail
  go_ret
  exact ⟨rfl, rfl⟩
set_option maxRecDepth 100000 in
set_option maxHeartbeats 16000000 in
theorem nUnpin (w : World) (v : Value) (n : Int) (h : NoPool v w) : Calls Tryz.prog 109 #[v, .int .i64 n] w fun e w' => e = .returned (.int .i64 1) ∧ w = w' := by
  go_enter Tryz.func109, Tryz.ntmps109
  go_wp2_with fail
  refine (nGiven _ _ h).mono ?_; rintro e w1 ⟨rfl, rfl⟩
  go_wp2_with fail
  go_ret
  exact ⟨rfl, rfl⟩
set_option maxRecDepth 100000 in
set_option maxHeartbeats 16000000 in
theorem nPRead (w : World) (v : Value) (n : Int) (h : NoPool v w) : Calls Tryz.prog 113 #[v, .int .i64 n] w fun e w' => e = .returned (.tuple #[.string .empty, .int .i64 1]) ∧ w = w' := by
  go_enter Tryz.func113, Tryz.ntmps113
  go_wp2_with fail
  refine (nGiven _ _ h).mono ?_; rintro e w1 ⟨rfl, rfl⟩
  go_wp2_with fail
  go_ret2
  exact ⟨rfl, rfl⟩
set_option maxRecDepth 100000 in
set_option maxHeartbeats 16000000 in
theorem nPWrite (w : World) (v : Value) (n m : Int) (s : ByteArray) (h : NoPool v w) : Calls Tryz.prog 108 #[v, .int .i64 n, .int .i64 m, .string s] w fun e w' => e = .returned (.int .i64 1) ∧ w = w' := by
  go_enter Tryz.func108, Tryz.ntmps108
  go_wp2_with fail
  refine (nGiven _ _ h).mono ?_; rintro e w1 ⟨rfl, rfl⟩
  go_wp2_with fail
  go_ret
  exact ⟨rfl, rfl⟩
set_option maxRecDepth 100000 in
set_option maxHeartbeats 16000000 in
theorem nFlush (w : World) (v : Value) (h : NoPool v w) : Calls Tryz.prog 105 #[v] w fun e w' => e = .returned (.int .i64 1) ∧ w = w' := by
  go_enter Tryz.func105, Tryz.ntmps105
  go_wp2_with fail
  refine (nGiven _ _ h).mono ?_; rintro e w1 ⟨rfl, rfl⟩
  go_wp2_with fail
  go_ret
  exact ⟨rfl, rfl⟩


end Go.Proofs.YtkfkcloefgfkaaaGreat

/- Maps keyed by ints: ranging over one that stays as it is. -/
namespace Go.Own
open Go Go.RowKit Go.ChangeMaps

/-- An iterator at block r over the map at block b that holds l: the keys that were told, in order. -/
def Ranging (r b : Nat) (l : List (Int × Value)) (done : List Int) (A : Fr) : Prop :=
  ∃ (es : Array MapEntry) (clock : Nat) (xs : List MapEntry), MI es clock l ∧ (xs.map (·.born)).Nodup ∧ (∀ e ∈ xs, e ∈ es.toList) ∧ xs.map (·.key) = done.map (Value.int .i64) ∧
    A = pt r (.mapIter (some b) clock (xs.map (·.born)).toArray clock) ++ pt b (.map es clock)

theorem perm_of_sub : ∀ {a b : List Int}, a.Nodup → (∀ k ∈ a, k ∈ b) → b.length ≤ a.length → a.Perm b
  | [], b, _, _, hl => by
    have : b = [] := List.eq_nil_of_length_eq_zero (by simpa using hl)
    rw [this]
  | k :: a, b, hn, hs, hl => by
    rw [List.nodup_cons] at hn
    have hk : k ∈ b := hs k (by simp)
    have h1 := perm_of_sub (a := a) (b := b.erase k) hn.2 (fun j hj => (List.mem_erase_of_ne (by intro e; subst e; exact hn.1 hj)).2 (hs j (by simp [hj]))) (by
      rw [List.length_erase_of_mem hk]
      simp at hl
      omega)
    exact (h1.cons k).trans (List.perm_cons_erase hk).symm

theorem MI.key_inj {es : Array MapEntry} {c : Nat} {l : List (Int × Value)} (h : MI es c l) : (es.toList.map (·.key)).Nodup := by
  have e1 : es.toList.map (·.key) = (l.map (·.1)).map (Value.int .i64) := by
    have := congrArg (List.map Prod.fst) h.ent
    rw [List.map_map, List.map_map] at this
    rw [List.map_map]
    exact this
  rw [e1]
  exact List.Pairwise.map _ (fun a b hab e => hab (by injection e)) h.keys
theorem key_eq {es : List MapEntry} (h : (es.map (·.key)).Nodup) : ∀ {x e : MapEntry}, x ∈ es → e ∈ es → x.key = e.key → x = e := by
  induction es with
  | nil => intro x e hx; simp at hx
  | cons a es ih =>
    intro x e hx he hk
    rw [List.map_cons, List.nodup_cons] at h
    rcases List.mem_cons.1 hx with rfl | hx <;> rcases List.mem_cons.1 he with rfl | he
    · rfl
    · exact (h.1 (List.mem_map.2 ⟨e, by assumption, hk.symm⟩)).elim
    · exact (h.1 (List.mem_map.2 ⟨x, by assumption, hk⟩)).elim
    · exact ih h.2 hx he hk
theorem Ranging.nodup {r b : Nat} {l : List (Int × Value)} {done : List Int} {A : Fr} (h : Ranging r b l done A) : done.Nodup ∧ (∀ k ∈ done, k ∈ l.map (·.1)) := by
  obtain ⟨es, c, xs, hM, hn, hs, hk, rfl⟩ := h
  have hkn : (xs.map (·.key)).Nodup := by
    have h1 : xs.Pairwise (fun x y => x.born ≠ y.born) := by simpa [List.Nodup, List.pairwise_map] using hn
    rw [List.Nodup, List.pairwise_map]
    refine h1.imp_of_mem ?_
    intro x y hx hy hb e
    exact hb (by rw [key_eq hM.key_inj (hs x hx) (hs y hy) e])
  rw [hk] at hkn
  refine ⟨by
    rw [List.Nodup, List.pairwise_map] at hkn
    exact hkn.imp (fun h e => h (by rw [e])), fun k hkd => ?_⟩
  have : Value.int .i64 k ∈ xs.map (·.key) := by rw [hk]; exact List.mem_map.2 ⟨k, hkd, rfl⟩
  obtain ⟨e, he, hek⟩ := List.mem_map.1 this
  have : (e.key, e.val) ∈ l.map (fun p => (Value.int .i64 p.1, p.2)) := by rw [← hM.ent]; exact List.mem_map.2 ⟨e, hs e he, rfl⟩
  obtain ⟨p, hp, hpe⟩ := List.mem_map.1 this
  have e1 := congrArg Prod.fst hpe
  simp only [hek] at e1
  injection e1 with _ e2
  exact List.mem_map.2 ⟨p, hp, e2⟩
theorem len_of_sub : ∀ {a b : List Int}, a.Nodup → (∀ k ∈ a, k ∈ b) → a.length ≤ b.length
  | [], _, _, _ => by simp
  | k :: a, b, hn, hs => by
    rw [List.nodup_cons] at hn
    have hk : k ∈ b := hs k (by simp)
    have h1 := len_of_sub (a := a) (b := b.erase k) hn.2 (fun j hj => (List.mem_erase_of_ne (by intro e; subst e; exact hn.1 hj)).2 (hs j (by simp [hj])))
    rw [List.length_erase_of_mem hk] at h1
    have := List.length_pos_of_mem hk
    simp
    omega
theorem Ranging.le {r b : Nat} {l : List (Int × Value)} {done : List Int} {A : Fr} (h : Ranging r b l done A) : done.length ≤ l.length := by
  obtain ⟨h1, h2⟩ := h.nodup
  have := len_of_sub h1 h2
  rwa [List.length_map] at this
theorem Ranging.back {r b : Nat} {l : List (Int × Value)} {done : List Int} {A : Fr} (h : Ranging r b l done A) : ∃ I M, MapAt b l M ∧ A = I ++ M := by
  obtain ⟨es, c, xs, hM, _, _, _, rfl⟩ := h
  exact ⟨_, _, ⟨es, c, hM, rfl⟩, rfl⟩
theorem Ranging.map {r b : Nat} {l : List (Int × Value)} {done : List Int} {A : Fr} (h : Ranging r b l done A) : ∃ M, MapAt b l M ∧ A = A := by
  obtain ⟨es, c, xs, hM, _⟩ := h
  exact ⟨_, ⟨es, c, hM, rfl⟩, rfl⟩

section
variable {P : Program} {t kt et : TypeId} {E w : World} {X R A : Fr} {b r : Nat} {l : List (Int × Value)} {done : List Int}
variable {ops : Array Oper} {Q : Exit → Act → World → Prop} {rest : List Oper} {a : Act} {d : Option Tmp} {ty : TypeId} {pos : String} {aft : Array Edge} {g : Option (Nat × Bool)}

theorem own_range (ht : P.underlying t = some (.map kt et)) (hO : Own E w X) (hM : MapAt b l A) [hp : Pick X A R] {m : Operand}
    (hw : Region.wanted ⟨d, .range t m, ty, pos, aft, g⟩ (yielded ops a.tmps) = true) (hm : a.eval m = .map (some b))
    (next : ∀ r w1 A1, Ranging r b l [] A1 → Own E w1 (A1 ++ R) → wpList P ops Q rest (a.put d (.pointer (some ⟨r, 0, none⟩))) w1) :
    wpList P ops Q (⟨d, .range t m, ty, pos, aft, g⟩ :: rest) a w := by
  obtain ⟨es, c, hM, rfl⟩ := hM
  have hO1 := hO.perm hp.perm
  have hg : w.heap[b]? = some (.map es c) := hO1.mem (b, .map es c) (by simp [pt])
  have hr := run_range_map (P := P) w t kt et b es c ht hg
  refine wpList_run_value (v := .pointer (some ⟨w.heap.size, 0, none⟩)) (w1 := w.alloc (.mapIter (some b) c #[] c)) hw ?_ (next w.heap.size _ _ ⟨es, c, [], hM, by simp, by simp, rfl, rfl⟩ ?_)
  · simp [execOp, hm, hr]
  · have := hO1.alloc (.mapIter (some b) c #[] c)
    simpa [List.append_assoc] using this

theorem own_nextV (hO : Own E w X) (hM : Ranging r b l done A) [hp : Pick X A R] {m : Operand}
    (hw : Region.wanted ⟨d, .next m false, ty, pos, aft, g⟩ (yielded ops a.tmps) = true) (hm : a.eval m = .pointer (some ⟨r, 0, none⟩))
    (hend : done.Perm (l.map (·.1)) → wpList P ops Q rest (a.put d (.tuple #[.bool false])) w)
    (next : ∀ k v w1 A1, (k, v) ∈ l → Ranging r b l (done ++ [k]) A1 → Own E w1 (A1 ++ R) → (Instr.entry (.pointer (some ⟨r, 0, none⟩))).run P w1 = .ok (.tuple #[.int .i64 k, v]) w1 → wpList P ops Q rest (a.put d (.tuple #[.bool true, .int .i64 k, v])) w1) :
    wpList P ops Q (⟨d, .next m false, ty, pos, aft, g⟩ :: rest) a w := by
  obtain ⟨es, c, xs, hMI, hn, hs, hk, rfl⟩ := hM
  have hO1 := hO.perm hp.perm
  have hb : w.heap[b]? = some (.map es c) := hO1.mem (b, .map es c) (by simp [pt])
  have hr : w.heap[r]? = some (.mapIter (some b) c (xs.map (·.born)).toArray c) := hO1.mem (r, _) (by simp [pt])
  rcases run_next_at (P := P) w ty r b c c (xs.map (·.born)).toArray es c hr hb hMI.old (Nat.le_refl _) with ⟨h0, hrun⟩ | ⟨e, he, w1, hw1, hrun⟩
  · refine wpList_run_value (v := .tuple #[.bool false]) (w1 := w) hw ?_ (hend ?_)
    · simp [execOp, hm, hrun]
    · have hR : Ranging r b l done (pt r (.mapIter (some b) c (xs.map (·.born)).toArray c) ++ pt b (.map es c)) := ⟨es, c, xs, hMI, hn, hs, hk, rfl⟩
      obtain ⟨q1, q2⟩ := hR.nodup
      refine perm_of_sub q1 q2 ?_
      have hall := all_seen es _ h0
      have hsub : ∀ e ∈ es.toList, e ∈ xs := by
        intro e he
        have := hall e he
        rw [Array.contains_iff_mem] at this
        have hm' : e.born ∈ xs.map (·.born) := by simpa using this
        obtain ⟨x, hx, hxe⟩ := List.mem_map.1 hm'
        rw [← born_inj hMI.born (hs x hx) he hxe]
        exact hx
      have hle : es.toList.length ≤ xs.length := by
        have h2 : ∀ (L M : List Nat), L.Nodup → (∀ k ∈ L, k ∈ M) → L.length ≤ M.length := by
          intro L
          induction L with
          | nil => intro M _ _; simp
          | cons q L ih =>
            intro M hnd hsb
            rw [List.nodup_cons] at hnd
            have hq := hsb q (by simp)
            have := ih (M.erase q) hnd.2 (fun k hk => (List.mem_erase_of_ne (by intro e; subst e; exact hnd.1 hk)).2 (hsb k (by simp [hk])))
            rw [List.length_erase_of_mem hq] at this
            have := List.length_pos_of_mem hq
            simp
            omega
        have := h2 (es.toList.map (·.born)) (xs.map (·.born)) hMI.born (fun k hk => by
          obtain ⟨e, he, rfl⟩ := List.mem_map.1 hk
          exact List.mem_map.2 ⟨e, hsub e he, rfl⟩)
        simpa using this
      have l1 := congrArg List.length hMI.ent
      have l2 := congrArg List.length hk
      simp only [List.length_map] at l1 l2 ⊢
      omega
  · obtain ⟨he1, he2⟩ := mem_left he
    have hkv : (e.key, e.val) ∈ l.map (fun p => (Value.int .i64 p.1, p.2)) := by rw [← hMI.ent]; exact List.mem_map.2 ⟨e, he1, rfl⟩
    obtain ⟨p, hpl, hpe⟩ := List.mem_map.1 hkv
    have hpv : (p.1, e.val) ∈ l := by
      have h9 : p.2 = e.val := congrArg Prod.snd hpe
      rw [← h9]
      exact hpl
    have hke : e.key = .int .i64 p.1 := (congrArg Prod.fst hpe).symm
    have hnew : e.born ∉ xs.map (·.born) := by
      intro h
      have : (xs.map (·.born)).toArray.contains e.born = true := by rw [Array.contains_iff_mem]; simpa using h
      rw [this] at he2
      cases he2
    have hO2 : Own E w1 (pt r (.mapIter (some b) c (xs.map (·.born)).toArray c) ++ (pt b (.map es c) ++ R)) := by
      have : Own E w (pt r (.mapIter (some b) c (xs.map (·.born)).toArray c) ++ (pt b (.map es c) ++ R)) := by simpa [List.append_assoc] using hO1
      rcases hw1 with rfl | rfl
      · exact this
      · exact this.drew
    have hpush : (xs.map (·.born)).toArray.push e.born = ((xs ++ [e]).map (·.born)).toArray := by simp
    rw [hpush, hke] at hrun
    have hbn : b ≠ r := fun h => hO2.fresh (b, .map es c) (by simp [pt]) (by simp [h])
    have hrl : r < w1.heap.size := hO2.lt (b := r) (o := .mapIter (some b) c (xs.map (·.born)).toArray c) (by simp [pt])
    refine wpList_run_value (v := .tuple #[.bool true, .int .i64 p.1, e.val]) (w1 := setBlock w1 r (.mapIter (some b) c ((xs ++ [e]).map (·.born)).toArray c)) hw ?_ (next p.1 e.val _ _ hpv ⟨es, c, xs ++ [e], hMI, ?_, ?_, ?_, rfl⟩ ?_ ?_)
    · simp [execOp, hm, hrun]
    · rw [List.map_append, List.nodup_append]
      refine ⟨hn, by simp, ?_⟩
      intro x hx y hy
      simp at hy
      subst hy
      intro h
      exact hnew (h ▸ hx)
    · intro x hx
      rcases List.mem_append.1 hx with hx | hx
      · exact hs x hx
      · rw [List.mem_singleton.1 hx]; exact he1
    · rw [List.map_append, List.map_append, hk]
      simp [hke]
    · rw [List.append_assoc]
      refine hO2.modify rfl rfl rfl ?_ ?_
      · simp [setBlock, hrl]
      · intro j hj
        simp [setBlock, Ne.symm hj]
    · have h1 : (setBlock w1 r (.mapIter (some b) c ((xs ++ [e]).map (·.born)).toArray c)).heap[r]? = some (.mapIter (some b) c ((xs.map (·.born)).toArray.push e.born) c) := by simp [setBlock, hrl]
      have hb1 : w1.heap[b]? = some (.map es c) := hO2.mem (b, .map es c) (by simp [pt])
      have h2 : (setBlock w1 r (.mapIter (some b) c ((xs ++ [e]).map (·.born)).toArray c)).heap[b]? = some (.map es c) := by simp [setBlock, Ne.symm hbn, hb1]
      have := run_entry_at (P := P) _ r b c (xs.map (·.born)).toArray es c e h1 h2 he1 hMI.born
      rw [this, hke]

theorem own_next (hO : Own E w X) (hM : Ranging r b l done A) [hp : Pick X A R] {m : Operand}
    (hw : Region.wanted ⟨d, .next m false, ty, pos, aft, g⟩ (yielded ops a.tmps) = true) (hm : a.eval m = .pointer (some ⟨r, 0, none⟩))
    (hend : done.Perm (l.map (·.1)) → wpList P ops Q rest (a.put d (.tuple #[.bool false])) w)
    (next : ∀ k v w1 A1, Ranging r b l (done ++ [k]) A1 → Own E w1 (A1 ++ R) → (Instr.entry (.pointer (some ⟨r, 0, none⟩))).run P w1 = .ok (.tuple #[.int .i64 k, v]) w1 → wpList P ops Q rest (a.put d (.tuple #[.bool true, .int .i64 k, v])) w1) :
    wpList P ops Q (⟨d, .next m false, ty, pos, aft, g⟩ :: rest) a w := own_nextV hO hM hw hm hend fun k v w1 A1 _ => next k v w1 A1
end
theorem at_rng {P : Program} {ops : Array Oper} {Q : Exit → Act → World → Prop} {rest : List Oper} {a : Act} {w : World} {d : Option Tmp} {ty : TypeId} {pos : String} {aft : Array Edge} {g : Option (Nat × Bool)} {t : TypeId} {m : Operand} (h : wpList P ops Q (⟨d, .range t m, ty, pos, aft, g⟩ :: rest) a w) : wpList P ops Q (⟨d, .range t m, ty, pos, aft, g⟩ :: rest) a w := h
theorem at_nxt {P : Program} {ops : Array Oper} {Q : Exit → Act → World → Prop} {rest : List Oper} {a : Act} {w : World} {d : Option Tmp} {ty : TypeId} {pos : String} {aft : Array Edge} {g : Option (Nat × Bool)} {m : Operand} (h : wpList P ops Q (⟨d, .next m false, ty, pos, aft, g⟩ :: rest) a w) : wpList P ops Q (⟨d, .next m false, ty, pos, aft, g⟩ :: rest) a w := h
end Go.Own
