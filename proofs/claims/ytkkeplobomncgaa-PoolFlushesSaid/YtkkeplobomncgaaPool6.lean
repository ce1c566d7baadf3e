/- The pool's contracts: room for another page. -/
import Derived.Test.YtkkeplobomncgaaPool5
set_option linter.all false
namespace Go.Proofs.Ytkkeplobomncgaa
open Go Go.RowKit Go.Own Go.Dk

theorem sltFrames : SlT Try.prog 87 103 1 8 (.pointer none) := ⟨by kernel_rfl, by kernel_rfl, rfl⟩

/-- The pool with a frame that holds no page. -/
def PoolH (p d most hand : Nat) (pre : List Frm) (b : Nat) (c0 c1 c2 c3 c4 : Value) (post : List Frm) (l : List (Int × Value)) (A : Fr) : Prop :=
  ∃ la lc mb S M, Sl 103 1 la (pre.length + 1 + post.length) lc (pre.map ptrV ++ .pointer (some ⟨b, 0, none⟩) :: post.map ptrV) S ∧ MapAt mb l M ∧
    A = pt p (.cells #[.pointer (some ⟨d, 0, none⟩), .int .i64 most, .slice la (pre.length + 1 + post.length) lc, .int .i64 hand, .map (some mb)] 90 (0, 0)) ++ (S ++ (M ++ (frmsF pre ++ (pt b (.cells #[c0, c1, c2, c3, c4] 106 (0, 0)) ++ frmsF post))))
def RoomPost (E : World) (p d most N : Nat) (fs0 : List Frm) (cont : Nat → List UInt8) (pins : Nat → Nat) (R : Fr) (e : Ending) (w' : World) : Prop :=
  (∃ hand pre b c0 c1 c2 c3 c4 post l rs P D, PoolH p d most hand pre b c0 c1 c2 c3 c4 post l P ∧ PInv most (pre ++ post) l (play rs 1) cont pins ∧ (pre ++ post).length < most ∧ hand < pre.length + 1 + post.length ∧ DiskAt d rs D ∧ rs.length + chg (pre ++ post) ≤ N ∧ (∀ f ∈ pre ++ post, ∃ g ∈ fs0, g.page = f.page) ∧ Own E w' (P ++ (D ++ R)) ∧
    e = .returned (.pointer (some ⟨b, 0, none⟩))) ∨
  (∃ hand fs l rs P D, PoolP p d most hand fs l P ∧ PInv most fs l (play rs 1) cont pins ∧ DiskAt d rs D ∧ hand < fs.length ∧ rs.length + chg fs ≤ N ∧ fs.length = most ∧ (∀ f ∈ fs, f.pins ≠ 0) ∧ Own E w' (P ++ (D ++ R)) ∧ e = .returned (.pointer none))

theorem _root_.Go.Dk.PInv.ofStrp {most : Nat} {fs fs' : List Frm} {l : List (Int × Value)} {F : List UInt8} {cont : Nat → List UInt8} {pins : Nat → Nat} (h : PInv most fs l F cont pins) (hs : fs'.map strp = fs.map strp) : PInv most fs' l F cont pins := by
  have hm : ∀ f ∈ fs', ∃ g ∈ fs, strp g = strp f := by
    intro f hf
    have : strp f ∈ fs.map strp := by rw [← hs]; exact List.mem_map.2 ⟨f, hf, rfl⟩
    obtain ⟨g, hg, e⟩ := List.mem_map.1 this
    exact ⟨g, hg, e⟩
  have hm' : ∀ f ∈ fs, ∃ g ∈ fs', strp g = strp f := by
    intro f hf
    have : strp f ∈ fs'.map strp := by rw [hs]; exact List.mem_map.2 ⟨f, hf, rfl⟩
    obtain ⟨g, hg, e⟩ := List.mem_map.1 this
    exact ⟨g, hg, e⟩
  refine ⟨by rw [strp_len hs]; exact h.len, by rw [strp_map (g := pairV) (fun _ => rfl) hs]; exact h.perm, by rw [strp_map (g := (·.page)) (fun _ => rfl) hs]; exact h.nodup, ?_, ?_, ?_, h.clen⟩
  · intro f hf
    obtain ⟨g, hg, e⟩ := hm f hf
    have e1 : g.page = f.page := congrArg (·.page) e
    have e2 : g.bytes = f.bytes := congrArg (·.bytes) e
    have e3 : g.pins = f.pins := congrArg (·.pins) e
    rw [← e1, ← e2, ← e3]
    exact h.pg g hg
  · intro k hk
    refine h.out k fun f hf => ?_
    obtain ⟨g, hg, e⟩ := hm' f hf
    have e1 : g.page = f.page := congrArg (·.page) e
    rw [← e1]
    exact hk g hg
  · intro k hk4 hk
    refine h.disk k hk4 fun f hf e => ?_
    obtain ⟨g, hg, e'⟩ := hm' f hf
    have e1 : g.page = f.page := congrArg (·.page) e'
    have e2 : g.changed = f.changed := congrArg (·.changed) e'
    rw [← e2]
    exact hk g hg (e1.trans e)
theorem chg_strp {a b : List Frm} (h : a.map strp = b.map strp) : chg a = chg b := by
  have e : ∀ l : List Frm, chg l = ((l.map (·.changed)).filter id).length := by
    intro l
    induction l with
    | nil => rfl
    | cons f l ih => rw [chg_cons, ih]; cases hc : f.changed <;> simp [hc] <;> omega
  rw [e, e, strp_map (g := (·.changed)) (fun _ => rfl) h]

/-- A frame is written back, if it was changed. -/
theorem _root_.Go.Dk.PInv.wr {most : Nat} {pre post : List Frm} {f : Frm} {l : List (Int × Value)} {F : List UInt8} {cont : Nat → List UInt8} {pins : Nat → Nat} (h : PInv most (pre ++ f :: post) l F cont pins) (rs : List Raw) (hF : play rs 1 = F) :
    PInv most (pre ++ { f with changed := false } :: post) l (play (wrR rs f) 1) cont pins := by
  unfold wrR
  cases hc : f.changed
  · rw [if_neg (by simp), hF]
    have ef : { f with changed := false } = f := by rw [← hc]
    rw [ef]
    exact h
  · rw [if_pos rfl, play_snoc]
    simp only [Raw.app, upd_same, hF]
    exact h.wrote

/-- A frame that is not pinned nor changed is let go. -/
theorem _root_.Go.Dk.PInv.drop {most : Nat} {pre post : List Frm} {f : Frm} {l : List (Int × Value)} {F : List UInt8} {cont : Nat → List UInt8} {pins : Nat → Nat} (h : PInv most (pre ++ f :: post) l F cont pins) (hc : f.changed = false) (hp : f.pins = 0) :
    PInv most (pre ++ post) (l.filter (·.1 != (f.page : Int))) F cont pins := by
  have hne := nodup_mid h.nodup
  have hmem0 : ∀ g, g ∈ pre ++ f :: post ↔ g = f ∨ g ∈ pre ++ post := by intro g; simp; exact ⟨by rintro (h | h | h) <;> simp [h], by rintro (h | h | h) <;> simp [h]⟩
  refine ⟨by have := h.len; simp at this ⊢; omega, ?_, ?_, ?_, ?_, ?_, h.clen⟩
  · have h1 := h.perm.filter (·.1 != (f.page : Int))
    have h2 : ((pre ++ f :: post).map pairV).filter (·.1 != (f.page : Int)) = (pre ++ post).map pairV := by
      have h3 : ∀ k : List Frm, (∀ g ∈ k, g.page ≠ f.page) → (k.map pairV).filter (·.1 != (f.page : Int)) = k.map pairV := by
        intro k hk
        rw [List.filter_eq_self]
        intro q hq
        obtain ⟨g, hg, rfl⟩ := List.mem_map.1 hq
        have := hk g hg
        simp [pairV]
        omega
      rw [List.map_append, List.map_cons, List.filter_append, List.filter_cons_of_neg (by simp [pairV]), h3 pre (fun g hg => hne g (by simp [hg])), h3 post (fun g hg => hne g (by simp [hg])), List.map_append]
    rw [h2] at h1
    exact h1
  · exact h.nodup.sublist (List.Sublist.map _ (List.Sublist.append_left (List.sublist_cons_self _ _) _))
  · intro g hg
    exact h.pg g ((hmem0 g).2 (.inr hg))
  · intro k hk
    by_cases hkp : k = f.page
    · subst hkp
      rw [← (h.pg f (by simp)).2.2, hp]
    · refine h.out k fun g hg => ?_
      rcases (hmem0 g).1 hg with rfl | hg
      · exact fun e => hkp e.symm
      · exact hk g hg
  · intro k hk4 hk
    refine h.disk k hk4 fun g hg e => ?_
    rcases (hmem0 g).1 hg with rfl | hg
    · exact hc
    · exact hk g hg e

set_option maxRecDepth 100000 in
set_option maxHeartbeats 4000000 in
theorem pRoom (E w : World) (X R P D : Fr) (p d most hand N : Nat) (fs : List Frm) (l : List (Int × Value)) (rs : List Raw) (cont : Nat → List UInt8) (pins : Nat → Nat) (hP : PoolP p d most hand fs l P) (hI : PInv most fs l (play rs 1) cont pins) (hD : DiskAt d rs D) (hh : hand < fs.length ∨ hand = 0)
    (hN : rs.length + chg fs ≤ N) (hm : 0 < most) (hm2 : most ≤ 1024) (hNN : N ≤ 8796093022208) (hO : Own E w X) [hp : Pick X (P ++ D) R] :
    Calls Try.prog 49 #[.pointer (some ⟨p, 0, none⟩)] w (RoomPost E p d most N fs cont pins R) := by
  have hP0 := hP
  obtain ⟨la, lc, mb, S, M, hS, hM, rfl⟩ := hP
  replace hO := hO.perm hp.perm
  clear hp
  have hlm := hI.len
  by_cases hlt : fs.length < most
  · have hlt1 : (fs.length : Int) < most := by omega
    ((try simp only [List.nil_append, List.append_nil] at hO); have hF := Own.cells hO; simp only [cellsOf_append, cellsOf_pt] at hF)
    go_enter Try.func49, Try.ntmps49
    go_wp2_with fail
    (refine own_still (by kernel_rfl) (by kernel_rfl) hO ?_; clear hO; (try clear hF); intro _ hO; ((try simp only [List.nil_append, List.append_nil] at hO); have hF := Own.cells hO; simp only [cellsOf_append, cellsOf_pt] at hF); (repeat still_step); refine wpStill_nil ?_)
    clear hF
    ((try simp only [List.nil_append, List.append_nil] at hO); have hF := Own.cells hO; simp only [cellsOf_append, cellsOf_pt] at hF)
    go_wp2_with (first | (refine at_box ?_; go_must (refine own_box (v := ?_) hO ?_ ?_ ?_; rotate_left; (· rfl); (· ((conv => lhs; whnf); try exact rfl)); clear hO; (try clear hF); intro b _ hO; (try simp only [Value.cells] at hO); ((try simp only [List.nil_append, List.append_nil] at hO); have hF := Own.cells hO; simp only [cellsOf_append, cellsOf_pt] at hF); simp only [Act.put, List.setIfInBounds_toArray, List.set_cons_zero, List.set_cons_succ])) | (refine at_bs ?_; go_must (refine own_build1 (v := ?_) sltFrames hO ?_ ?_ ?_ ?_ ?_ ?_; rotate_left; (· rfl); (· ((conv => lhs; whnf); try exact rfl)); (· rfl); (· decide); (· decide); clear hO; (try clear hF); intro bs _ hO; (try simp only [Value.cells] at hO); ((try simp only [List.nil_append, List.append_nil] at hO); have hF := Own.cells hO; simp only [cellsOf_append, cellsOf_pt] at hF); simp only [Act.put, List.setIfInBounds_toArray, List.set_cons_zero, List.set_cons_succ])) | (refine at_append ?_; go_must (refine own_append_elem (b1 := ?_) (cs := ?_) (e1 := ?_) (f1 := ?_) sltFrames hO ?_ ?_ ?_ hS ?_ ?_ ?_ ?_ ?_ ?_ ?_; rotate_left 4; (· rfl); (· rfl); (· rfl); (· exact inferInstance); (· rfl); (· intro u hu; simp at hu; subst hu; rfl); (· first | omega | (simp only [maxLen]; omega)); (· decide); (· first | omega | (simp only [maxLen]; omega)); clear hO; (try clear hF); intro _ _ _ _ hS hO; ((try simp only [List.nil_append, List.append_nil] at hO); have hF := Own.cells hO; simp only [cellsOf_append, cellsOf_pt] at hF); simp only [Act.put, List.setIfInBounds_toArray, List.set_cons_zero, List.set_cons_succ])) | (refine own_store (v := ?_) (off := 2) (b := p) hO ?_ ?_ ?_ ?_ ?_ ?_ ?_; rotate_left; (· rfl); (· ((conv => lhs; whnf); try exact rfl)); (· ((conv => lhs; whnf); try exact rfl)); (· simp [Value.cells]); (· simp [Value.cells, Value.oneCell']); (· simp [Value.cells]); clear hO; (try clear hF); intro _ hO; (try simp only [splice, Value.cells] at hO); ((try simp only [List.nil_append, List.append_nil] at hO); have hF := Own.cells hO; simp only [cellsOf_append, cellsOf_pt] at hF); simp only [Act.put, List.setIfInBounds_toArray, List.set_cons_zero, List.set_cons_succ]))
    (try simp only [splice, Value.cells, List.setIfInBounds_toArray, List.set_cons_zero, List.set_cons_succ] at hO)
    go_ret
    refine .inl ⟨hand, fs, b, .int .i64 0, .slice none 0 0, .int .i64 0, .bool false, .bool false, [], l, rs, _, D, ⟨_, _, mb, _, M, by simpa using hS, hM, rfl⟩, by rw [List.append_nil]; exact hI, by rw [List.append_nil]; exact hlt, ?_, hD, by rw [List.append_nil]; exact hN, fun f hf => ⟨f, by simpa using hf, rfl⟩, ?_, rfl⟩
    · rcases hh with hh | hh <;> simp <;> omega
    · rw [frmsF_nil, List.length_nil, Nat.add_zero, List.append_nil]
      exact hO.as _
  · have hlt1 : ¬ (fs.length : Int) < most := by omega
    have hh' : hand < fs.length := by omega
    ((try simp only [List.nil_append, List.append_nil] at hO); have hF := Own.cells hO; simp only [cellsOf_append, cellsOf_pt] at hF)
    go_enter Try.func49, Try.ntmps49
    go_wp2_with fail
    (refine own_still (by kernel_rfl) (by kernel_rfl) hO ?_; clear hO; (try clear hF); intro _ hO; ((try simp only [List.nil_append, List.append_nil] at hO); have hF := Own.cells hO; simp only [cellsOf_append, cellsOf_pt] at hF); (repeat still_step); refine wpStill_nil ?_)
    clear hF
    go_wp2_with fail
    refine (pVictim E _ _ _ _ p d most hand fs l hP0 hh' (by omega) hO).mono ?_; rintro e w1 ⟨hand1, fs1, P1, hP1, hh1, hst, hO, hc⟩
    rcases hc with ⟨pre, f, post, rfl, hp0, rfl⟩ | ⟨hall, rfl⟩
    · have hI1 := hI.ofStrp hst
      have hfb := (hI1.pg f (by simp)).2.1
      have hfl : f.bytes.length = 512 := by rw [hfb]; exact hI1.clen _
      have hlk := hI1.look_in (f := f) (by simp)
      clear hfb
      go_wp2_with fail
      refine (pWr E _ _ _ P1 D p d most hand1 pre post f l rs hP1 hD hfl (hI1.pg f (by simp)).1 (by omega) hO).mono ?_; rintro e w1 ⟨rfl, P2, D2, hP2, hD2, hO⟩
      obtain ⟨la2, lc2, mb2, S2, M2, hS2, hM2, rfl⟩ := hP2
      rw [frmsF_app, frmsF_cons] at hO
      unfold frmF at hO
      clear hP0
      ((try simp only [List.nil_append, List.append_nil] at hO); have hF := Own.cells hO; simp only [cellsOf_append, cellsOf_pt] at hF)
      go_wp2_with fail
      (refine own_still_tail 8 (by kernel_rfl) (by kernel_rfl) hO ?_; clear hO; (try clear hF); intro _ hO; ((try simp only [List.nil_append, List.append_nil] at hO); have hF := Own.cells hO; simp only [cellsOf_append, cellsOf_pt] at hF); simp only [List.take_succ_cons, List.take_zero, List.drop_succ_cons, List.drop_zero]; (repeat still_step); (try refine wpStill_nil ?_))
      go_wp2_with (refine at_del ?_; go_must (refine own_mapDelete (kt := 3) (et := 103) (b := mb2) (k := f.page) (l := l) (by kernel_rfl) (by kernel_rfl) hO hM2 ?_ ?_ ?_ hlk ?_; (· rfl); (· rfl); (· rfl); clear hO; (try clear hF); intro _ M3 hM3 hO; ((try simp only [List.nil_append, List.append_nil] at hO); have hF := Own.cells hO; simp only [cellsOf_append, cellsOf_pt] at hF); simp only [Act.put, List.setIfInBounds_toArray, List.set_cons_zero, List.set_cons_succ]))
      go_ret
      have hI2 := hI1.wr rs rfl
      have hN2 : rs.length + chg (pre ++ f :: post) ≤ N := by rw [chg_strp hst]; exact hN
      have el : (pre ++ { f with changed := false } :: post).length = pre.length + 1 + post.length := by simp; omega
      have hlen := strp_len hst
      refine .inl ⟨hand1, pre, f.blk, .int .i64 f.page, .slice (some ⟨f.bb, 0, none⟩) 512 512, .int .i64 f.pins, .bool false, .bool f.lately, post, _, wrR rs f, _, D2, ⟨la2, lc2, mb2, S2, M3, ?_, hM3, rfl⟩, hI2.drop rfl hp0, ?_, ?_, hD2, ?_, ?_, ?_, rfl⟩
      · rw [el, List.map_append, List.map_cons] at hS2
        exact hS2
      · simp at hlen ⊢; omega
      · simp at hh1 ⊢; omega
      · rw [chg_app, chg_cons] at hN2
        rw [chg_app]
        unfold wrR
        cases hc : f.changed <;> rw [hc] at hN2 <;> simp at hN2 ⊢ <;> omega
      · intro g hg
        have : strp g ∈ fs.map strp := by
          rw [← hst]
          exact List.mem_map.2 ⟨g, by simp at hg ⊢; rcases hg with h | h <;> simp [h], rfl⟩
        obtain ⟨g', hg', e⟩ := List.mem_map.1 this
        exact ⟨g', hg', congrArg (·.page) e⟩
      · rw [el] at hO
        exact hO.as _
    · go_wp2_with fail
      go_ret
      exact .inr ⟨hand1, fs1, l, rs, P1, D, hP1, hI.ofStrp hst, hD, hh1, by rw [chg_strp hst]; exact hN, by rw [strp_len hst]; omega, hall, hO.as _, rfl⟩
end Go.Proofs.Ytkkeplobomncgaa
