/- The pool's contracts: Pin. -/
import Derived.Test.YtkkeplobomncgaaPool6
import Derived.Deep.OwnRows
set_option linter.all false
namespace Go.Proofs.Ytkkeplobomncgaa
open Go Go.RowKit Go.Own Go.Dk

section
variable {P : Program} {ops : Array Oper} {Q : Exit → Act → World → Prop} {rest : List Oper} {a : Act} {E w : World} {X R : Fr} {d : Option Tmp} {ty : TypeId} {pos : String} {aft : Array Edge} {g : Option (Nat × Bool)}
theorem own_makeBytes {t e : TypeId} {lx cx : Operand} {n : Nat} (hT : SlT P t e 1 1 (.int .u8 0)) (hO : Own E w X) (hw : Region.wanted ⟨d, .makeSlice t lx cx, ty, pos, aft, g⟩ (yielded ops a.tmps) = true)
    (hl : a.eval lx = .int .i64 n) (hc : a.eval cx = .int .i64 n) (hn : n ≤ 140737488355328)
    (next : ∀ b w1, Own E w1 (pt b (.cells (bytesV (List.replicate n 0)).toArray e (0, 0)) ++ X) → wpList P ops Q rest (a.put d (.slice (some ⟨b, 0, none⟩) n n)) w1) :
    wpList P ops Q (⟨d, .makeSlice t lx cx, ty, pos, aft, g⟩ :: rest) a w := by
  obtain ⟨i, hi, hz, hsz, hby⟩ := hT.parts
  have hr := run_make_row (P := P) t e i (.int .u8 0) hT.und hi hz hsz rfl .i64 .i64 n (by rw [hby]; omega) (by omega) w
  have hm : madeCells #[Value.int .u8 0] n = (bytesV (List.replicate n 0)).toArray := by
    apply Array.ext
    · simp [madeCells, bytesV]
    · intro j h1 h2
      simp [madeCells, bytesV, byteV, Nat.mod_one]
  rw [hm] at hr
  refine wpList_run_value hw ?_ (next _ _ (hO.alloc _))
  simp [execOp, hl, hc, hr]
end
theorem sz_1 (rs : List Raw) : sz rs 1 = (play rs 1).length := by
  unfold sz
  rw [if_pos (by decide)]
  rfl
theorem rd_pg (rs : List Raw) (page h : Nat) (hi : Int) (e : hi = h) (hh : 512 * page + h ≤ (play rs 1).length) : rd rs 1 ((page : Int) * 512) hi = (⟨(((play rs 1).drop (512 * page)).take h).toArray⟩, 0) := by
  subst e
  have e1 : (1 : Int).toNat = 1 := rfl
  unfold rd
  rw [e1, if_pos ⟨by decide, by omega, by omega, by omega, by omega⟩]
  congr 5
  congr 1
  omega
theorem pg_fill (F : List UInt8) (page h : Nat) (hh : h = min 512 (F.length - 512 * page)) : (bytesV (List.replicate 512 0)).take 0 ++ bytesV ((F.drop (512 * page)).take h) ++ (bytesV (List.replicate 512 0)).drop (0 + h) = bytesV (pgOf F page) := by
  have e1 : (F.drop (512 * page)).take 512 = (F.drop (512 * page)).take h := by
    rw [hh]
    by_cases h5 : 512 ≤ F.length - 512 * page
    · rw [Nat.min_eq_left h5]
    · rw [Nat.min_eq_right (by omega), List.take_of_length_le (by simp; omega), List.take_of_length_le (by simp)]
  have e2 : ((F.drop (512 * page)).take h).length = h := by rw [List.length_take, List.length_drop]; omega
  unfold pgOf
  rw [e1, e2, bytesV_append, List.take_zero, List.nil_append, Nat.zero_add, ← bytesV_drop, List.drop_replicate]
theorem zeroS (bb : Nat) : Sl 5 1 (some ⟨bb, 0, none⟩) 512 512 (bytesV (List.replicate 512 0)) (pt bb (.cells (bytesV (List.replicate 512 0)).toArray 5 (0, 0))) :=
  frmS ⟨0, bb, 0, List.replicate 512 0, 0, false, false⟩ (List.length_replicate)

/-- A page comes into a frame. -/
theorem _root_.Go.Dk.PInv.add {most : Nat} {pre post : List Frm} {f : Frm} {l : List (Int × Value)} {F : List UInt8} {cont : Nat → List UInt8} {pins : Nat → Nat} (h : PInv most (pre ++ post) l F cont pins) (hlt : (pre ++ post).length < most) (hpg : f.page < 4096)
    (hn : ∀ g ∈ pre ++ post, g.page ≠ f.page) (hb : f.bytes = cont f.page) (hd : pgOf F f.page = cont f.page) : PInv most (pre ++ f :: post) (l ++ [pairV f]) F cont (upd pins f.page f.pins) := by
  have hmem : ∀ g, g ∈ pre ++ f :: post ↔ g = f ∨ g ∈ pre ++ post := by intro g; simp; exact ⟨by rintro (h | h | h) <;> simp [h], by rintro (h | h | h) <;> simp [h]⟩
  refine ⟨by simp at hlt ⊢; omega, ?_, ?_, ?_, ?_, ?_, h.clen⟩
  · have h1 : (l ++ [pairV f]).Perm ((pre ++ post).map pairV ++ [pairV f]) := h.perm.append_right _
    refine h1.trans ?_
    rw [List.map_append, List.map_append, List.map_cons]
    refine (List.perm_append_comm).trans ?_
    show (pairV f :: (pre.map pairV ++ post.map pairV)).Perm _
    exact (List.perm_middle).symm
  · rw [List.map_append, List.map_cons]
    refine (List.perm_middle.nodup_iff).2 (List.nodup_cons.2 ⟨fun hm => ?_, by rw [← List.map_append]; exact h.nodup⟩)
    rw [← List.map_append] at hm
    obtain ⟨g, hg, e⟩ := List.mem_map.1 hm
    exact hn g hg e
  · intro g hg
    rcases (hmem g).1 hg with rfl | hg
    · exact ⟨hpg, hb, by rw [upd_same]⟩
    · rw [upd_ne _ _ _ _ (hn g hg)]
      exact h.pg g hg
  · intro k hk
    have hkp : k ≠ f.page := fun e => hk f ((hmem f).2 (.inl rfl)) e.symm
    rw [upd_ne _ _ _ _ hkp]
    exact h.out k fun g hg => hk g ((hmem g).2 (.inr hg))
  · intro k hk4 hk
    by_cases hkp : k = f.page
    · subst hkp
      exact hd
    · exact h.disk k hk4 fun g hg => hk g ((hmem g).2 (.inr hg))

def PinPost (E : World) (p d most N : Nat) (cont : Nat → List UInt8) (pins : Nat → Nat) (page : Nat) (R : Fr) (e : Ending) (w' : World) : Prop :=
  (e = .returned (.int .i64 0) ∧ ∃ A', PoolS p d most N cont (upd pins page (pins page + 1)) A' ∧ Own E w' (A' ++ R)) ∨
  (e = .returned (.int .i64 40) ∧ pins page = 0 ∧ (∃ Q : List Nat, Q.Nodup ∧ Q.length = most ∧ ∀ k ∈ Q, 0 < pins k) ∧ ∃ A', PoolS p d most N cont pins A' ∧ Own E w' (A' ++ R))

set_option maxRecDepth 100000 in
set_option maxHeartbeats 4000000 in
theorem pPin_bad (E w : World) (X R A : Fr) (p d most N : Nat) (cont : Nat → List UInt8) (pins : Nat → Nat) (page : Int) (hS : PoolS p d most N cont pins A) (hm : 0 < most) (h : page < 0 ∨ 4096 ≤ page) (hO : Own E w X) [hp : Pick X A R] :
    Calls Try.prog 35 #[.pointer (some ⟨p, 0, none⟩), .int .i64 page] w fun e w' => e = .returned (.int .i64 1) ∧ w = w' := by
  obtain ⟨hand, fs, l, rs, P, D, hP, hI, hD, hh, hN, rfl⟩ := hS
  replace hO := hO.perm hp.perm
  clear hp
  by_cases h1 : page < 0
  · clear h
    go_enter Try.func35, Try.ntmps35
    go_wp2_with fail
    refine (pGiven E _ _ _ P p d most hand _ l hP hm hO).mono ?_; rintro e w1 ⟨rfl, rfl⟩
    go_wp2_with fail
    go_ret
    exact ⟨rfl, rfl⟩
  · have h2 : 4096 ≤ page := by omega
    clear h
    go_enter Try.func35, Try.ntmps35
    go_wp2_with fail
    refine (pGiven E _ _ _ P p d most hand _ l hP hm hO).mono ?_; rintro e w1 ⟨rfl, rfl⟩
    go_wp2_with fail
    go_ret
    exact ⟨rfl, rfl⟩

set_option maxRecDepth 100000 in
set_option maxHeartbeats 4000000 in
theorem pPin (E w : World) (X R A : Fr) (p d most N : Nat) (cont : Nat → List UInt8) (pins : Nat → Nat) (page : Nat) (hS : PoolS p d most N cont pins A) (hm : 0 < most) (hm2 : most ≤ 1024) (hNN : N ≤ 8796093022208) (hpg : page < 4096) (hb : pins page < 281474976710656) (hO : Own E w X) [hp : Pick X A R] :
    Calls Try.prog 35 #[.pointer (some ⟨p, 0, none⟩), .int .i64 page] w (PinPost E p d most N cont pins page R) := by
  obtain ⟨hand, fs, l, rs, P, D, hP, hI, hD, hh, hN, rfl⟩ := hS
  replace hO := hO.perm hp.perm
  clear hp
  have hpg0 : (0 : Int) ≤ page := by omega
  have hpg1 : (page : Int) < 4096 := by omega
  have hP0 := hP
  rcases page_cases fs page with ⟨pre, f, post, rfl, hk⟩ | hk
  · have hk' : f.page = page := by omega
    subst hk'
    have hl := hI.look_in (f := f) (by simp)
    have hfp := (hI.pg f (by simp)).2.2
    have hfb := (hI.pg f (by simp)).2.1
    have hb1 : f.pins < 281474976710656 := by omega
    have HFP := Lib.hid hfp
    have hb2 : wrap64 ((f.pins : Int) + 1) = (f.pins : Int) + 1 := by unfold wrap64; omega
    clear hb1
    clear hfp hfb hk
    go_enter Try.func35, Try.ntmps35
    go_wp2_with fail
    refine (pGiven E _ _ _ P p d most hand _ l hP hm hO).mono ?_; rintro e w1 ⟨rfl, rfl⟩
    obtain ⟨la, lc, mb, S, M, hS, hM, rfl⟩ := hP
    rw [frmsF_app, frmsF_cons] at hO
    unfold frmF at hO
    unfold ptrV at hl
    ((try simp only [List.nil_append, List.append_nil] at hO); have hF := Own.cells hO; simp only [cellsOf_append, cellsOf_pt] at hF)
    go_wp2_with (first | (refine at_lookup ?_; go_must (refine own_lookup (kt := 3) (et := 103) (b := mb) (k := f.page) (l := l) (by kernel_rfl) (by kernel_rfl) zeroFP hO hM ?_ ?_ ?_ ?_; (· rfl); (· rfl); (· rfl); rw [hl]; simp only [Act.put, List.setIfInBounds_toArray, List.set_cons_zero, List.set_cons_succ])) | (refine own_store (v := ?_) (off := 2) (b := f.blk) hO ?_ ?_ ?_ ?_ ?_ ?_ ?_; rotate_left; (· rfl); (· ((conv => lhs; whnf); try exact rfl)); (· ((conv => lhs; whnf); try exact rfl)); (· simp [Value.cells]); (· simp [Value.cells, Value.oneCell']); (· simp [Value.cells]); clear hO; (try clear hF); intro _ hO; (try simp only [splice, Value.cells] at hO); ((try simp only [List.nil_append, List.append_nil] at hO); have hF := Own.cells hO; simp only [cellsOf_append, cellsOf_pt] at hF); simp only [Act.put, List.setIfInBounds_toArray, List.set_cons_zero, List.set_cons_succ]) | (refine own_store (v := ?_) (off := 4) (b := f.blk) hO ?_ ?_ ?_ ?_ ?_ ?_ ?_; rotate_left; (· rfl); (· ((conv => lhs; whnf); try exact rfl)); (· ((conv => lhs; whnf); try exact rfl)); (· simp [Value.cells]); (· simp [Value.cells, Value.oneCell']); (· simp [Value.cells]); clear hO; (try clear hF); intro _ hO; (try simp only [splice, Value.cells] at hO); ((try simp only [List.nil_append, List.append_nil] at hO); have hF := Own.cells hO; simp only [cellsOf_append, cellsOf_pt] at hF); simp only [Act.put, List.setIfInBounds_toArray, List.set_cons_zero, List.set_cons_succ]))
    (try simp only [splice, Value.cells, List.setIfInBounds_toArray, List.set_cons_zero, List.set_cons_succ] at hO)
    go_ret
    have e1 : ((f.pins : Int) + 1) = ((f.pins + 1 : Nat) : Int) := by omega
    rw [hb2, e1] at hO
    have el : (pre ++ { f with pins := f.pins + 1, lately := true } :: post).length = (pre ++ f :: post).length := by simp
    refine .inl ⟨rfl, _, ⟨hand, pre ++ { f with pins := f.pins + 1, lately := true } :: post, l, rs, _, D, ⟨la, lc, mb, S, M, PoolP.same f _ rfl hS, hM, rfl⟩, ?_, hD, ?_, ?_, rfl⟩, ?_⟩
    · have hfb := (hI.pg f (by simp)).2.1
      have hi := hI.set (f' := { f with pins := f.pins + 1, lately := true }) rfl rfl (by rw [(hI.pg f (by simp)).2.1]; exact hI.clen _) (.inr ⟨rfl, rfl⟩)
      have e2 : upd cont f.page f.bytes = cont := by rw [hfb]; exact upd_id _ _
      rw [e2] at hi
      rw [← HFP.out]
      exact hi
    · simpa using hh
    · rw [chg_app, chg_cons] at hN ⊢
      exact hN
    · rw [frmsF_app, frmsF_cons, el]
      unfold frmF
      exact hO.as _
  · have hl := hI.look_out hk
    go_enter Try.func35, Try.ntmps35
    go_wp2_with fail
    refine (pGiven E _ _ _ P p d most hand _ l hP hm hO).mono ?_; rintro e w1 ⟨rfl, rfl⟩
    obtain ⟨la, lc, mb, S, M, hS, hM, rfl⟩ := hP
    ((try simp only [List.nil_append, List.append_nil] at hO); have hF := Own.cells hO; simp only [cellsOf_append, cellsOf_pt] at hF)
    go_wp2_with (first | (refine at_lookup ?_; go_must (refine own_lookup (kt := 3) (et := 103) (b := mb) (k := page) (l := l) (by kernel_rfl) (by kernel_rfl) zeroFP hO hM ?_ ?_ ?_ ?_; (· rfl); (· rfl); (· rfl); rw [hl]; simp only [Act.put, List.setIfInBounds_toArray, List.set_cons_zero, List.set_cons_succ])))
    refine (pRoom E _ _ _ _ D p d most hand N fs l rs cont pins hP0 hI hD hh hN hm hm2 hNN hO).mono ?_; rintro e w1 (⟨hand1, pre, b, c0, c1, c2, c3, c4, post, l1, rs1, P1, D1, hP1, hI1, hlt1, hh1, hD1, hN1, hsub, hO, rfl⟩ | ⟨hand1, fs1, l1, rs1, P1, D1, hP1, hI1, hD1, hh1, hN1, hful, hall, hO, rfl⟩)
    · obtain ⟨la, lc, mb, S, M, hS, hM, rfl⟩ := hP1
      clear hF
      ((try simp only [List.nil_append, List.append_nil] at hO); have hF := Own.cells hO; simp only [cellsOf_append, cellsOf_pt] at hF)
      go_wp2_with (first | (refine at_mks ?_; go_must (refine own_makeBytes (e := 5) (n := 512) sltBytes hO ?_ ?_ ?_ (by decide) ?_; (· rfl); (· rfl); (· rfl); clear hO; (try clear hF); intro bb _ hO; ((try simp only [List.nil_append, List.append_nil] at hO); have hF := Own.cells hO; simp only [cellsOf_append, cellsOf_pt] at hF); simp only [Act.put, List.setIfInBounds_toArray, List.set_cons_zero, List.set_cons_succ])) | (refine own_store (v := ?_) (off := 0) (b := b) hO ?_ ?_ ?_ ?_ ?_ ?_ ?_; rotate_left; (· rfl); (· ((conv => lhs; whnf); try exact rfl)); (· ((conv => lhs; whnf); try exact rfl)); (· simp [Value.cells]); (· simp [Value.cells, Value.oneCell']); (· simp [Value.cells]); clear hO; (try clear hF); intro _ hO; (try simp only [splice, Value.cells] at hO); ((try simp only [List.nil_append, List.append_nil] at hO); have hF := Own.cells hO; simp only [cellsOf_append, cellsOf_pt] at hF); simp only [Act.put, List.setIfInBounds_toArray, List.set_cons_zero, List.set_cons_succ]))
      (try simp only [splice, Value.cells, List.setIfInBounds_toArray, List.set_cons_zero, List.set_cons_succ] at hO)
      have hnp : ∀ g ∈ pre ++ post, g.page ≠ page := by
        intro g hg e
        obtain ⟨g', hg', e'⟩ := hsub g hg
        exact hk g' hg' (by rw [e', e])
      have hdk := hI1.disk page hpg (fun g hg e => absurd e (hnp g hg))
      have hl1 := hI1.look_out (k := (page : Int)) (fun g hg e => hnp g hg (by omega))
      have hle := play_le hD1.1 1
      have hp0 := hI1.out page (fun g hg e => hnp g hg e)
      have hadd := hI1.add (f := ⟨b, bb, page, cont page, 1, false, true⟩) hlt1 hpg hnp rfl hdk
      have HADD := Lib.hid hadd
      have HK := Lib.hid hdk
      have HNP := Lib.hid hnp
      have HP0 := Lib.hid hp0
      clear hdk hnp hk hsub hp0 hadd
      refine (dSize E _ _ _ d rs1 D1 1 hD1 hO).mono ?_; rw [sz_1]; rintro e w1 ⟨rfl, rfl⟩
      have hle1 : ((play rs1 1).length : Int) ≤ 4194304 := by omega
      by_cases hf1 : 512 * page + 512 < (play rs1 1).length
      · have hf2 : (page : Int) * 512 + 512 < (play rs1 1).length := by omega
        go_wp2_with fail
        refine (dRead E _ _ _ d rs1 D1 1 _ _ hD1 hO).mono ?_; rw [rd_pg rs1 page 512 512 rfl (by omega)]; rintro e w1 ⟨rfl, rfl⟩
        have hmin : 512 = min 512 ((play rs1 1).length - 512 * page) := by omega
        (
        have hov := pg_fill (play rs1 1) page 512 hmin
        have hsz : (⟨(((play rs1 1).drop (512 * page)).take 512).toArray⟩ : ByteArray).size = 512 := by simp [ByteArray.size]; omega
        have hdt : (⟨(((play rs1 1).drop (512 * page)).take 512).toArray⟩ : ByteArray).data.toList = ((play rs1 1).drop (512 * page)).take 512 := by simp
        rw [← hdt, HK.out] at hov
        clear hdt hmin
        generalize (⟨(((play rs1 1).drop (512 * page)).take 512).toArray⟩ : ByteArray) = s at hov hsz ⊢
        have hov2 : (bytesV (List.replicate 512 0)).take 0 ++ bytesV s.data.toList ++ (bytesV (List.replicate 512 0)).drop (0 + s.size) = bytesV (cont page) := by rw [hsz]; exact hov
        have HOV := Lib.hid hov2
        clear hov hov2
        have hs5 : s.size ≤ 512 := by omega
        clear hF
        ((try simp only [List.nil_append, List.append_nil] at hO); have hF := Own.cells hO; simp only [cellsOf_append, cellsOf_pt] at hF)
        (
        go_wp2_with (first | (refine at_copy ?_; go_must (refine own_copy_str (da := ?_) (dn := ?_) (dc := ?_) (l := 0) (s := s) sltBytes hO ?_ ?_ ?_ (zeroS bb) ?_ ?_ ?_ ?_; rotate_left 3; (· rfl); (· ((conv => lhs; whnf); try exact rfl)); (· rfl); (· intro h0; rw [Option.map_some, add_lit]); (· omega); (· omega); clear hO; (try clear hF); intro A2 _ hS2 hO; obtain rfl := sl_full hS2; (rw [HOV.out] at hO); ((try simp only [List.nil_append, List.append_nil] at hO); have hF := Own.cells hO; simp only [cellsOf_append, cellsOf_pt] at hF); simp only [Act.put, List.setIfInBounds_toArray, List.set_cons_zero, List.set_cons_succ])) | (refine at_mapup ?_; go_must (refine own_mapNew (kt := 3) (et := 103) (b := mb) (k := page) (v := .pointer (some ⟨b, 0, none⟩)) (l := l1) (by kernel_rfl) (by kernel_rfl) hO hM ?_ ?_ ?_ ?_ hl1 ?_; (· rfl); (· rfl); (· rfl); (· rfl); clear hO; (try clear hF); intro _ M3 hM3 hO; ((try simp only [List.nil_append, List.append_nil] at hO); have hF := Own.cells hO; simp only [cellsOf_append, cellsOf_pt] at hF); simp only [Act.put, List.setIfInBounds_toArray, List.set_cons_zero, List.set_cons_succ])) | (refine own_store (v := ?_) (off := 2) (b := b) hO ?_ ?_ ?_ ?_ ?_ ?_ ?_; rotate_left; (· rfl); (· ((conv => lhs; whnf); try exact rfl)); (· ((conv => lhs; whnf); try exact rfl)); (· simp [Value.cells]); (· simp [Value.cells, Value.oneCell']); (· simp [Value.cells]); clear hO; (try clear hF); intro _ hO; (try simp only [splice, Value.cells] at hO); ((try simp only [List.nil_append, List.append_nil] at hO); have hF := Own.cells hO; simp only [cellsOf_append, cellsOf_pt] at hF); simp only [Act.put, List.setIfInBounds_toArray, List.set_cons_zero, List.set_cons_succ]) | (refine own_store (v := ?_) (off := 4) (b := b) hO ?_ ?_ ?_ ?_ ?_ ?_ ?_; rotate_left; (· rfl); (· ((conv => lhs; whnf); try exact rfl)); (· ((conv => lhs; whnf); try exact rfl)); (· simp [Value.cells]); (· simp [Value.cells, Value.oneCell']); (· simp [Value.cells]); clear hO; (try clear hF); intro _ hO; (try simp only [splice, Value.cells] at hO); ((try simp only [List.nil_append, List.append_nil] at hO); have hF := Own.cells hO; simp only [cellsOf_append, cellsOf_pt] at hF); simp only [Act.put, List.setIfInBounds_toArray, List.set_cons_zero, List.set_cons_succ]))
        (try simp only [splice, Value.cells, List.setIfInBounds_toArray, List.set_cons_zero, List.set_cons_succ] at hO)
        go_ret
        have hp0 := HP0.out
        refine .inl ⟨rfl, _, ⟨hand1, pre ++ ⟨b, bb, page, cont page, 1, false, true⟩ :: post, l1 ++ [pairV ⟨b, bb, page, cont page, 1, false, true⟩], rs1, _, D1, ⟨la, lc, mb, S, M3, ?_, hM3, rfl⟩, ?_, hD1, ?_, ?_, rfl⟩, ?_⟩
        · rw [show (pre ++ (⟨b, bb, page, cont page, 1, false, true⟩ : Frm) :: post).length = pre.length + 1 + post.length by simp; omega, List.map_append, List.map_cons]
          exact hS
        · rw [hp0]
          exact HADD.out
        · left; simp; omega
        · rw [chg_app] at hN1
          rw [chg_app, chg_cons]
          simp
          omega
        · rw [show (pre ++ (⟨b, bb, page, cont page, 1, false, true⟩ : Frm) :: post).length = pre.length + 1 + post.length by simp; omega, frmsF_app, frmsF_cons]
          unfold frmF
          exact hO.as _))
      · by_cases hf3 : 512 * page < (play rs1 1).length
        · obtain ⟨h, hh1⟩ : ∃ h : Nat, h = (play rs1 1).length - 512 * page := ⟨_, rfl⟩
          have hf2 : (page : Int) * 512 < (play rs1 1).length := by omega
          have hf4 : ((play rs1 1).length : Int) ≤ (page : Int) * 512 + 512 := by omega
          go_wp2_with fail
          refine (dRead E _ _ _ d rs1 D1 1 _ _ hD1 hO).mono ?_; rw [rd_pg rs1 page h (((play rs1 1).length : Int) - (page : Int) * 512) (by omega) (by omega)]; rintro e w1 ⟨rfl, rfl⟩
          have hmin : h = min 512 ((play rs1 1).length - 512 * page) := by omega
          (
        have hov := pg_fill (play rs1 1) page h hmin
        have hsz : (⟨(((play rs1 1).drop (512 * page)).take h).toArray⟩ : ByteArray).size = h := by simp [ByteArray.size]; omega
        have hdt : (⟨(((play rs1 1).drop (512 * page)).take h).toArray⟩ : ByteArray).data.toList = ((play rs1 1).drop (512 * page)).take h := by simp
        rw [← hdt, HK.out] at hov
        clear hdt hmin
        generalize (⟨(((play rs1 1).drop (512 * page)).take h).toArray⟩ : ByteArray) = s at hov hsz ⊢
        have hov2 : (bytesV (List.replicate 512 0)).take 0 ++ bytesV s.data.toList ++ (bytesV (List.replicate 512 0)).drop (0 + s.size) = bytesV (cont page) := by rw [hsz]; exact hov
        have HOV := Lib.hid hov2
        clear hov hov2
        have hs5 : s.size ≤ 512 := by omega
        clear hF
        ((try simp only [List.nil_append, List.append_nil] at hO); have hF := Own.cells hO; simp only [cellsOf_append, cellsOf_pt] at hF)
        (
        go_wp2_with (first | (refine at_copy ?_; go_must (refine own_copy_str (da := ?_) (dn := ?_) (dc := ?_) (l := 0) (s := s) sltBytes hO ?_ ?_ ?_ (zeroS bb) ?_ ?_ ?_ ?_; rotate_left 3; (· rfl); (· ((conv => lhs; whnf); try exact rfl)); (· rfl); (· intro h0; rw [Option.map_some, add_lit]); (· omega); (· omega); clear hO; (try clear hF); intro A2 _ hS2 hO; obtain rfl := sl_full hS2; (rw [HOV.out] at hO); ((try simp only [List.nil_append, List.append_nil] at hO); have hF := Own.cells hO; simp only [cellsOf_append, cellsOf_pt] at hF); simp only [Act.put, List.setIfInBounds_toArray, List.set_cons_zero, List.set_cons_succ])) | (refine at_mapup ?_; go_must (refine own_mapNew (kt := 3) (et := 103) (b := mb) (k := page) (v := .pointer (some ⟨b, 0, none⟩)) (l := l1) (by kernel_rfl) (by kernel_rfl) hO hM ?_ ?_ ?_ ?_ hl1 ?_; (· rfl); (· rfl); (· rfl); (· rfl); clear hO; (try clear hF); intro _ M3 hM3 hO; ((try simp only [List.nil_append, List.append_nil] at hO); have hF := Own.cells hO; simp only [cellsOf_append, cellsOf_pt] at hF); simp only [Act.put, List.setIfInBounds_toArray, List.set_cons_zero, List.set_cons_succ])) | (refine own_store (v := ?_) (off := 2) (b := b) hO ?_ ?_ ?_ ?_ ?_ ?_ ?_; rotate_left; (· rfl); (· ((conv => lhs; whnf); try exact rfl)); (· ((conv => lhs; whnf); try exact rfl)); (· simp [Value.cells]); (· simp [Value.cells, Value.oneCell']); (· simp [Value.cells]); clear hO; (try clear hF); intro _ hO; (try simp only [splice, Value.cells] at hO); ((try simp only [List.nil_append, List.append_nil] at hO); have hF := Own.cells hO; simp only [cellsOf_append, cellsOf_pt] at hF); simp only [Act.put, List.setIfInBounds_toArray, List.set_cons_zero, List.set_cons_succ]) | (refine own_store (v := ?_) (off := 4) (b := b) hO ?_ ?_ ?_ ?_ ?_ ?_ ?_; rotate_left; (· rfl); (· ((conv => lhs; whnf); try exact rfl)); (· ((conv => lhs; whnf); try exact rfl)); (· simp [Value.cells]); (· simp [Value.cells, Value.oneCell']); (· simp [Value.cells]); clear hO; (try clear hF); intro _ hO; (try simp only [splice, Value.cells] at hO); ((try simp only [List.nil_append, List.append_nil] at hO); have hF := Own.cells hO; simp only [cellsOf_append, cellsOf_pt] at hF); simp only [Act.put, List.setIfInBounds_toArray, List.set_cons_zero, List.set_cons_succ]))
        (try simp only [splice, Value.cells, List.setIfInBounds_toArray, List.set_cons_zero, List.set_cons_succ] at hO)
        go_ret
        have hp0 := HP0.out
        refine .inl ⟨rfl, _, ⟨hand1, pre ++ ⟨b, bb, page, cont page, 1, false, true⟩ :: post, l1 ++ [pairV ⟨b, bb, page, cont page, 1, false, true⟩], rs1, _, D1, ⟨la, lc, mb, S, M3, ?_, hM3, rfl⟩, ?_, hD1, ?_, ?_, rfl⟩, ?_⟩
        · rw [show (pre ++ (⟨b, bb, page, cont page, 1, false, true⟩ : Frm) :: post).length = pre.length + 1 + post.length by simp; omega, List.map_append, List.map_cons]
          exact hS
        · rw [hp0]
          exact HADD.out
        · left; simp; omega
        · rw [chg_app] at hN1
          rw [chg_app, chg_cons]
          simp
          omega
        · rw [show (pre ++ (⟨b, bb, page, cont page, 1, false, true⟩ : Frm) :: post).length = pre.length + 1 + post.length by simp; omega, frmsF_app, frmsF_cons]
          unfold frmF
          exact hO.as _))
        · have hf2 : ((play rs1 1).length : Int) ≤ (page : Int) * 512 := by omega
          have hz : bytesV (List.replicate 512 0) = bytesV (cont page) := by
            rw [← HK.out]
            unfold pgOf
            rw [List.drop_eq_nil_of_le (by omega)]
            rfl
          rw [hz] at hO
          (
        go_wp2_with (first | (refine at_copy ?_; go_must (refine own_copy_str (da := ?_) (dn := ?_) (dc := ?_) (l := 0) (s := s) sltBytes hO ?_ ?_ ?_ (zeroS bb) ?_ ?_ ?_ ?_; rotate_left 3; (· rfl); (· ((conv => lhs; whnf); try exact rfl)); (· rfl); (· intro h0; rw [Option.map_some, add_lit]); (· omega); (· omega); clear hO; (try clear hF); intro A2 _ hS2 hO; obtain rfl := sl_full hS2; (rw [HOV.out] at hO); ((try simp only [List.nil_append, List.append_nil] at hO); have hF := Own.cells hO; simp only [cellsOf_append, cellsOf_pt] at hF); simp only [Act.put, List.setIfInBounds_toArray, List.set_cons_zero, List.set_cons_succ])) | (refine at_mapup ?_; go_must (refine own_mapNew (kt := 3) (et := 103) (b := mb) (k := page) (v := .pointer (some ⟨b, 0, none⟩)) (l := l1) (by kernel_rfl) (by kernel_rfl) hO hM ?_ ?_ ?_ ?_ hl1 ?_; (· rfl); (· rfl); (· rfl); (· rfl); clear hO; (try clear hF); intro _ M3 hM3 hO; ((try simp only [List.nil_append, List.append_nil] at hO); have hF := Own.cells hO; simp only [cellsOf_append, cellsOf_pt] at hF); simp only [Act.put, List.setIfInBounds_toArray, List.set_cons_zero, List.set_cons_succ])) | (refine own_store (v := ?_) (off := 2) (b := b) hO ?_ ?_ ?_ ?_ ?_ ?_ ?_; rotate_left; (· rfl); (· ((conv => lhs; whnf); try exact rfl)); (· ((conv => lhs; whnf); try exact rfl)); (· simp [Value.cells]); (· simp [Value.cells, Value.oneCell']); (· simp [Value.cells]); clear hO; (try clear hF); intro _ hO; (try simp only [splice, Value.cells] at hO); ((try simp only [List.nil_append, List.append_nil] at hO); have hF := Own.cells hO; simp only [cellsOf_append, cellsOf_pt] at hF); simp only [Act.put, List.setIfInBounds_toArray, List.set_cons_zero, List.set_cons_succ]) | (refine own_store (v := ?_) (off := 4) (b := b) hO ?_ ?_ ?_ ?_ ?_ ?_ ?_; rotate_left; (· rfl); (· ((conv => lhs; whnf); try exact rfl)); (· ((conv => lhs; whnf); try exact rfl)); (· simp [Value.cells]); (· simp [Value.cells, Value.oneCell']); (· simp [Value.cells]); clear hO; (try clear hF); intro _ hO; (try simp only [splice, Value.cells] at hO); ((try simp only [List.nil_append, List.append_nil] at hO); have hF := Own.cells hO; simp only [cellsOf_append, cellsOf_pt] at hF); simp only [Act.put, List.setIfInBounds_toArray, List.set_cons_zero, List.set_cons_succ]))
        (try simp only [splice, Value.cells, List.setIfInBounds_toArray, List.set_cons_zero, List.set_cons_succ] at hO)
        go_ret
        have hp0 := HP0.out
        refine .inl ⟨rfl, _, ⟨hand1, pre ++ ⟨b, bb, page, cont page, 1, false, true⟩ :: post, l1 ++ [pairV ⟨b, bb, page, cont page, 1, false, true⟩], rs1, _, D1, ⟨la, lc, mb, S, M3, ?_, hM3, rfl⟩, ?_, hD1, ?_, ?_, rfl⟩, ?_⟩
        · rw [show (pre ++ (⟨b, bb, page, cont page, 1, false, true⟩ : Frm) :: post).length = pre.length + 1 + post.length by simp; omega, List.map_append, List.map_cons]
          exact hS
        · rw [hp0]
          exact HADD.out
        · left; simp; omega
        · rw [chg_app] at hN1
          rw [chg_app, chg_cons]
          simp
          omega
        · rw [show (pre ++ (⟨b, bb, page, cont page, 1, false, true⟩ : Frm) :: post).length = pre.length + 1 + post.length by simp; omega, frmsF_app, frmsF_cons]
          unfold frmF
          exact hO.as _)
    · go_wp2_with fail
      go_ret
      refine .inr ⟨rfl, hI.out page (fun f hf e => hk f hf (by rw [e])), ⟨fs1.map (·.page), hI1.nodup, by rw [List.length_map, hful], ?_⟩, _, ⟨hand1, fs1, l1, rs1, P1, D1, hP1, hI1, hD1, .inl hh1, hN1, rfl⟩, hO.as _⟩
      intro k hkk
      obtain ⟨f, hf, rfl⟩ := List.mem_map.1 hkk
      have := hall f hf
      rw [(hI1.pg f hf).2.2] at this
      omega
end Go.Proofs.Ytkkeplobomncgaa
