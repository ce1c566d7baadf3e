/- Sets of addresses: Tids, Pages. -/
import Derived.Test.YtnfclieaendgeaaTid6
set_option linter.all false
namespace Go.Proofs.Ytnfclieaendgeaa
open Go Go.RowKit Go.Own Go.Td

def lk (xs : List Pg) (p : Int) : List Int := ((xs.find? fun g => g.p == p).map Pg.l).getD []
theorem lk_of {xs : List Pg} (hn : (xs.map Pg.p).Nodup) {g : Pg} (hg : g ∈ xs) : lk xs g.p = g.l := by
  induction xs with
  | nil => cases hg
  | cons h xs ih =>
    rw [List.map_cons, List.nodup_cons] at hn
    unfold lk at *
    rcases List.mem_cons.1 hg with rfl | hg
    · simp
    · have hne : ¬ h.p = g.p := fun e => hn.1 (List.mem_map.2 ⟨g, hg, e.symm⟩)
      have hne2 : (h.p == g.p) = false := by simpa using hne
      rw [List.find?_cons, hne2]
      exact ih hn.2 hg
theorem lk_all {xs : List Pg} (hn : (xs.map Pg.p).Nodup) : (xs.map Pg.p).map (lk xs) = xs.map Pg.l := by
  rw [List.map_map]
  exact List.map_congr_left fun g hg => lk_of hn hg
theorem srt_up {zs T : List Int} (h : zs.Perm T) (hT : Up T) : srt zs = T :=
  up_ext (srt_rise (h.nodup_iff.2 hT.nodup)) hT fun x => by rw [(srt_perm zs).mem_iff, h.mem_iff]
theorem up_bound {W : List Int} {n : Nat} (h : Up W) (hb : ∀ p ∈ W, 0 ≤ p ∧ p < n) : W.length ≤ n := by
  have := len_of_sub (b := (List.range n).map (fun k : Nat => (k : Int))) h.nodup fun k hk => by
    obtain ⟨h1, h2⟩ := hb k hk
    exact List.mem_map.2 ⟨k.toNat, List.mem_range.2 (by omega), by show ((k.toNat : Nat) : Int) = k; omega⟩
  simpa using this
def TidsP (E : World) (R : Fr) (b most : Nat) (T W L : List Int) (e : Ending) (w' : World) : Prop :=
  ∃ a cap S A', e = .returned (.slice a (List.length L) cap) ∧ Sl 3 1 a (List.length L) cap (intV L) S ∧ SetAt b most T W A' ∧ Own E w' (S ++ (A' ++ R))

set_option maxRecDepth 100000 in
set_option maxHeartbeats 16000000 in
theorem tTids (E w : World) (X R A : Fr) (b most : Nat) (T W : List Int) (hI : Inv T W) (hl : T.length ≤ 4096) (hA : SetAt b most T W A) (hO : Own E w X) [hp : Pick X A R] :
    Calls Try.prog 24 #[.pointer (some ⟨b, 0, none⟩)] w (TidsP E R b most T W T) := by
  replace hO := hO.perm hp.perm
  clear hp
  go_enter Try.func24, Try.ntmps24
  go_wp2_with fail
  refine (tGiven E _ _ _ A b most T W hA hO).mono ?_
  rintro e w1 ⟨rfl, rfl⟩
  obtain ⟨me, mw, xs, ws, ME, MW, hE, hW, hok, hT, hP, rfl⟩ := hA
  have hkn := mapAt_nodup hE
  rw [pgsM_keys] at hkn
  unfold setF at hO
  ((try simp only [List.nil_append, List.append_nil] at hO); have hF := Own.cells hO; simp only [cellsOf_append, cellsOf_pt] at hF)
  go_wp2_with (first | (refine at_rng ?_; go_must (refine own_range (kt := 3) (et := 33) (b := me) (l := pgsM xs) (by kernel_rfl) hO hE ?_ ?_ ?_; (· rfl); (· rfl); clear hO; (try clear hF); intro r _ B hR hO; ((try simp only [List.nil_append, List.append_nil] at hO); have hF := Own.cells hO; simp only [cellsOf_append, cellsOf_pt] at hF); simp only [Act.put, List.setIfInBounds_toArray, List.set_cons_zero, List.set_cons_succ])))
  replace hO := hO.as (pt b (.cells #[.bool true, .int .i64 most, .int .i64 T.length, .map (some me), .map (some mw)] 56 (0, 0)) ++ (B ++ (MW ++ (pgsF xs ++ R))))
  have hxT : xs.length ≤ T.length := by
    rw [← hT.length_eq]
    have : ∀ ys : List Pg, (∀ g ∈ ys, PgOk g) → ys.length ≤ ((ys.map Pg.l).flatten).length := by
      intro ys
      induction ys with
      | nil => intro _; simp
      | cons y ys ih =>
        intro h
        have h1 := List.length_pos_iff.2 (h y (by simp)).ne
        have h2 := ih fun g hg => h g (by simp [hg])
        simp only [List.map_cons, List.flatten_cons, List.length_append, List.length_cons]
        omega
    exact this xs hok
  have hxl : (pgsM xs).length = xs.length := by unfold pgsM; rw [List.length_map]
  have hO1 := hO
  clear hO hF
  go_loopw [3] (fun s3 wr => ∃ (done : List Int) (B : Fr) (a : Option Addr) (cap : Nat) (out : List Int) (S : Fr), s3 = .slice a (List.length out) cap ∧ Sl 3 1 a (List.length out) cap (intV out) S ∧ out = (done.map (lk xs)).flatten ∧ out.length ≤ done.length * 4096 ∧ Ranging r me (pgsM xs) done B ∧
    Own E wr (S ++ (pt b (.cells #[.bool true, .int .i64 most, .int .i64 T.length, .map (some me), .map (some mw)] 56 (0, 0)) ++ (B ++ (MW ++ (pgsF xs ++ R)))))) (fun _ w => xs.length - seenN w r)
  case atStart => exact ⟨[], B, none, 0, [], [], rfl, Sl.nil _ _, rfl, by simp, hR, hO1.as _⟩
  case round =>
    clear hO1 hR
    obtain ⟨done, B, a, cap, out, S, rfl, hS, hout, hob, hR, hO⟩ := hrel
    have HOUT := Lib.hid hout
    have hseen := hR.seen hO
    have HSEEN := Lib.hid hseen
    have hdl := hR.le
    rw [hxl] at hdl
    have hoi : (out.length : Int) ≤ 16777216 := by omega
    clear hseen hout
    ((try simp only [List.nil_append, List.append_nil] at hO); have hF := Own.cells hO; simp only [cellsOf_append, cellsOf_pt] at hF)
    go_wp2_with (refine at_nxt ?_; go_must (refine own_nextV (r := r) (b := me) (l := pgsM xs) (done := done) hO hR ?_ ?_ ?_ ?_; (· rfl); (· rfl)))
    · intro hperm
      simp only [Act.put, List.setIfInBounds_toArray, List.set_cons_zero, List.set_cons_succ]
      rw [pgsM_keys] at hperm
      have hpo : out.Perm T := by
        rw [HOUT.out]
        refine List.Perm.trans (List.Perm.flatten (hperm.map (lk xs))) ?_
        rw [lk_all hkn]
        exact hT
      have HPO := Lib.hid hpo
      clear hpo hperm
      obtain ⟨I, M2, hM2, rfl⟩ := hR.back
      go_wp2_with fail
      refine (sortI E _ _ _ S a cap out hS (by omega) hO).mono ?_
      rintro e w4 ⟨rfl, S2, hS2, hO⟩
      go_wp2_with fail
      go_ret
      have h1 := srt_up HPO.out hI.t
      have h2 : out.length = T.length := HPO.out.length_eq
      rw [h1, h2] at hS2
      refine ⟨a, cap, S2, _, by rw [← h2]; rfl, hS2, ⟨me, mw, xs, ws, M2, MW, hM2, hW, hok, hT, hP, rfl⟩, ?_⟩
      unfold setF
      exact hO.as _
    · intro k v w2 A2 hkv hR2 hO hen
      simp only [Act.put, List.setIfInBounds_toArray, List.set_cons_zero, List.set_cons_succ]
      obtain ⟨g, hg, hgkv⟩ := List.mem_map.1 hkv
      obtain ⟨rfl, rfl⟩ := Prod.mk.inj hgkv
      unfold pgV at hen
      have hle := hR2.le
      have hgo := hok g hg
      have hgl : g.l.length ≤ 4096 := by
        have := len_flat (List.mem_map_of_mem (f := Pg.l) hg)
        rw [hT.length_eq] at this
        omega
      have hlkg := lk_of hkn hg
      obtain ⟨pre, post, hxs⟩ := psplit hg
      have hFx : pgsF xs = pgsF pre ++ (g.F ++ pgsF post) := by rw [hxs, pgsF_app, pgsF_cons]
      have HFX := Lib.hid hFx
      have HLE := Lib.hid hle
      have HLK := Lib.hid hlkg
      have HXS := Lib.hid hxs
      rw [hFx] at hO
      clear hF hle hgkv hkv hlkg hFx hxs
      ((try simp only [List.nil_append, List.append_nil] at hO); have hF := Own.cells hO; simp only [cellsOf_append, cellsOf_pt] at hF)
      go_wp2_with (first | (refine at_append ?_; go_must (refine own_append (xv := .slice g.a g.l.length g.cap) (m := g.l.length) (news := intV g.l) sltInts (.inl (by kernel_rfl)) hO ?_ ?_ ?_ hS ?_ ?_ ?_ ?_ ?_ ?_ ?_; (· rfl); (· rfl); (· rfl); (· intro w; rfl); (· intro w' hO'; exact hgo.sl.firstCells hO'); (· simp); (· exact intV_one _); (· simp only [maxLen]; omega); (· left; omega); clear hO; (try clear hF); intro a2 c2 S2 w3 hS2 hO; ((try simp only [List.nil_append, List.append_nil] at hO); have hF := Own.cells hO; simp only [cellsOf_append, cellsOf_pt] at hF); simp only [Act.put, List.setIfInBounds_toArray, List.set_cons_zero, List.set_cons_succ])))
      have hol : out.length + g.l.length = (out ++ g.l).length := by simp
      rw [hol] at hS2 ⊢
      rw [← HFX.out] at hO
      have hseen2 := hR2.seen hO
      go_roundw
      case rel =>
        refine ⟨done ++ [g.p], A2, a2, c2, out ++ g.l, S2, rfl, ?_, ?_, ?_, hR2, hO.as _⟩
        · unfold intV
          rw [List.map_append]
          exact hS2
        · rw [HOUT.out, List.map_append, List.flatten_append, List.map_cons, HLK.out]
          simp
        · simp only [List.length_append, List.length_cons, List.length_nil]
          omega
      case measure =>
        rw [hseen2, HSEEN.out]
        have := HLE.out
        simp only [List.length_append, List.length_cons, List.length_nil] at this ⊢
        omega

set_option maxRecDepth 100000 in
set_option maxHeartbeats 16000000 in
theorem tPages (E w : World) (X R A : Fr) (b most : Nat) (T W : List Int) (hI : Inv T W) (hA : SetAt b most T W A) (hO : Own E w X) [hp : Pick X A R] :
    Calls Try.prog 23 #[.pointer (some ⟨b, 0, none⟩)] w (TidsP E R b most T W W) := by
  replace hO := hO.perm hp.perm
  clear hp
  go_enter Try.func23, Try.ntmps23
  go_wp2_with fail
  refine (tGiven E _ _ _ A b most T W hA hO).mono ?_
  rintro e w1 ⟨rfl, rfl⟩
  obtain ⟨me, mw, xs, ws, ME, MW, hE, hW, hok, hT, hP, rfl⟩ := hA
  unfold setF at hO
  ((try simp only [List.nil_append, List.append_nil] at hO); have hF := Own.cells hO; simp only [cellsOf_append, cellsOf_pt] at hF)
  go_wp2_with (first | (refine at_rng ?_; go_must (refine own_range (kt := 3) (et := 4) (b := mw) (l := wsM ws) (by kernel_rfl) hO hW ?_ ?_ ?_; (· rfl); (· rfl); clear hO; (try clear hF); intro r _ B hR hO; ((try simp only [List.nil_append, List.append_nil] at hO); have hF := Own.cells hO; simp only [cellsOf_append, cellsOf_pt] at hF); simp only [Act.put, List.setIfInBounds_toArray, List.set_cons_zero, List.set_cons_succ])))
  replace hO := hO.as (pt b (.cells #[.bool true, .int .i64 most, .int .i64 T.length, .map (some me), .map (some mw)] 56 (0, 0)) ++ (B ++ (ME ++ (pgsF xs ++ R))))
  have hwl : (wsM ws).length = ws.length := by unfold wsM; rw [List.length_map]
  have hwb : ws.length ≤ 262144 := by rw [hP.length_eq]; exact up_bound hI.w hI.wb
  have hwk : (wsM ws).map (·.1) = ws := by
    unfold wsM
    rw [List.map_map]
    exact List.map_id ws
  have hO1 := hO
  clear hO hF
  go_loopw [3] (fun s3 wr => ∃ (done : List Int) (B : Fr) (a : Option Addr) (cap : Nat) (S : Fr), s3 = .slice a (List.length done) cap ∧ Sl 3 1 a (List.length done) cap (intV done) S ∧ Ranging r mw (wsM ws) done B ∧
    Own E wr (S ++ (pt b (.cells #[.bool true, .int .i64 most, .int .i64 T.length, .map (some me), .map (some mw)] 56 (0, 0)) ++ (B ++ (ME ++ (pgsF xs ++ R)))))) (fun _ w => ws.length - seenN w r)
  case atStart => exact ⟨[], B, none, 0, [], rfl, Sl.nil _ _, hR, hO1.as _⟩
  case round =>
    clear hO1 hR
    obtain ⟨done, B, a, cap, S, rfl, hS, hR, hO⟩ := hrel
    have hseen := hR.seen hO
    have HSEEN := Lib.hid hseen
    have hdl := hR.le
    rw [hwl] at hdl
    have hoi : (done.length : Int) ≤ 262144 := by omega
    clear hseen
    ((try simp only [List.nil_append, List.append_nil] at hO); have hF := Own.cells hO; simp only [cellsOf_append, cellsOf_pt] at hF)
    go_wp2_with (refine at_nxt ?_; go_must (refine own_nextV (r := r) (b := mw) (l := wsM ws) (done := done) hO hR ?_ ?_ ?_ ?_; (· rfl); (· rfl)))
    · intro hperm
      simp only [Act.put, List.setIfInBounds_toArray, List.set_cons_zero, List.set_cons_succ]
      rw [hwk] at hperm
      have HPO := Lib.hid (hperm.trans hP)
      clear hperm
      obtain ⟨I, M2, hM2, rfl⟩ := hR.back
      go_wp2_with fail
      refine (sortI E _ _ _ S a cap done hS (by omega) hO).mono ?_
      rintro e w4 ⟨rfl, S2, hS2, hO⟩
      go_wp2_with fail
      go_ret
      have h1 := srt_up HPO.out hI.w
      have h2 : done.length = W.length := HPO.out.length_eq
      rw [h1, h2] at hS2
      refine ⟨a, cap, S2, _, by rw [← h2]; rfl, hS2, ⟨me, mw, xs, ws, ME, M2, hE, hM2, hok, hT, hP, rfl⟩, ?_⟩
      unfold setF
      exact hO.as _
    · intro k v w2 A2 hkv hR2 hO hen
      simp only [Act.put, List.setIfInBounds_toArray, List.set_cons_zero, List.set_cons_succ]
      obtain ⟨q, hq, hgkv⟩ := List.mem_map.1 hkv
      obtain ⟨rfl, rfl⟩ := Prod.mk.inj hgkv
      have hle := hR2.le
      have HLE := Lib.hid hle
      clear hF hle hgkv hkv
      ((try simp only [List.nil_append, List.append_nil] at hO); have hF := Own.cells hO; simp only [cellsOf_append, cellsOf_pt] at hF)
      go_wp2_with (first | (refine at_bs ?_; go_must (refine own_build1 (v := ?_) sltInts hO ?_ ?_ ?_ ?_ ?_ ?_; rotate_left; (· rfl); (· ((conv => lhs; whnf); try exact rfl)); (· rfl); (· decide); (· decide); clear hO; (try clear hF); intro bs _ hO; (try simp only [Value.cells] at hO); ((try simp only [List.nil_append, List.append_nil] at hO); have hF := Own.cells hO; simp only [cellsOf_append, cellsOf_pt] at hF); simp only [Act.put, List.setIfInBounds_toArray, List.set_cons_zero, List.set_cons_succ])) | (refine at_append ?_; go_must ((refine own_append_elem (b1 := ?_) (cs := ?_) (e1 := ?_) (f1 := ?_) sltInts hO ?_ ?_ ?_ hS ?_ ?_ ?_ ?_ ?_ ?_ ?_; rotate_left 4; (· rfl); (· rfl); (· rfl); (· exact inferInstance); (· rfl); (· intro u hu; simp at hu; subst hu; rfl); (· first | omega | (simp only [maxLen]; omega)); (· decide); (· first | omega | (simp only [maxLen]; omega)); clear hO; (try clear hF); intro a2 c2 S2 w3 hS2 hO; ((try simp only [List.nil_append, List.append_nil] at hO); have hF := Own.cells hO; simp only [cellsOf_append, cellsOf_pt] at hF); simp only [Act.put, List.setIfInBounds_toArray, List.set_cons_zero, List.set_cons_succ]))))
      have hol : done.length + 1 = (done ++ [q]).length := by simp
      rw [hol] at hS2 ⊢
      have hseen2 := hR2.seen hO
      go_roundw
      case rel =>
        refine ⟨done ++ [q], A2, a2, c2, S2, rfl, ?_, hR2, hO.as _⟩
        unfold intV
        rw [List.map_append]
        exact hS2
      case measure =>
        rw [hseen2, HSEEN.out]
        have := HLE.out
        rw [hwl] at this
        simp only [List.length_append, List.length_cons, List.length_nil] at this ⊢
        omega
end Go.Proofs.Ytnfclieaendgeaa
