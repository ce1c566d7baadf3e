/- Sets of addresses: put. -/
import Derived.Test.YtnfclieaendgeaaTid3
set_option linter.all false
namespace Go.Proofs.Ytnfclieaendgeaa
open Go Go.RowKit Go.Own Go.Td

def PutP (E : World) (R : Fr) (b most : Nat) (T W : List Int) (t : Int) (e : Ending) (w' : World) : Prop :=
  e = .returned (.tuple #[]) ∧ ∃ A', SetAt b most (Td.put T W t) W A' ∧ Own E w' (A' ++ R)
theorem len_flat {l : List Int} : ∀ {L : List (List Int)}, l ∈ L → l.length ≤ L.flatten.length
  | [], h => by cases h
  | m :: L, h => by
    rw [List.flatten_cons, List.length_append]
    rcases List.mem_cons.1 h with rfl | h
    · omega
    · have := len_flat h
      omega
theorem wrap_n' (n : Nat) (h : n ≤ 8796093022208) : IntKind.i64.wrap (n : Int) = (n : Int) := by
  simp only [IntKind.wrap, show IntKind.bits .i64 = 64 from rfl, show IntKind.signed .i64 = true from rfl]
  rw [Int.emod_eq_of_lt (by omega) (by omega), if_neg (by simp; omega)]
theorem put_new {T W : List Int} {t : Int} (hw : pg t ∉ W) : Td.put T W t = ins t T := by unfold Td.put; rw [if_neg hw]

set_option maxRecDepth 100000 in
set_option maxHeartbeats 16000000 in
theorem tPut (E w : World) (X R A : Fr) (b most : Nat) (T W : List Int) (t : Int) (hI : Inv T W) (ht : 0 ≤ t ∧ t < 16777216) (hl : T.length ≤ 1048575) (hA : SetAt b most T W A) (hO : Own E w X) [hp : Pick X A R] :
    Calls Try.prog 43 #[.pointer (some ⟨b, 0, none⟩), .int .i64 t] w (PutP E R b most T W t) := by
  replace hO := hO.perm hp.perm
  clear hp
  have hpage : pg (max t 0) = pg t := by rw [show max t 0 = t by omega]
  obtain ⟨me, mw, xs, ws, ME, MW, hE, hW, hok, hT, hP, rfl⟩ := hA
  have hkn := mapAt_nodup hE
  rw [pgsM_keys] at hkn
  have hpb := pg_b ht
  go_enter Try.func43, Try.ntmps43
  go_wp2_with fail
  refine (tPage _ t (by omega) (by omega)).mono ?_
  rw [hpage]
  rintro e w1 ⟨rfl, rfl⟩
  clear hpage
  generalize hpt : pg t = p at hpb
  unfold setF at hO
  ((try simp only [List.nil_append, List.append_nil] at hO); have hF := Own.cells hO; simp only [cellsOf_append, cellsOf_pt] at hF)
  by_cases hin : p ∈ W
  · have hc : ws.contains p = true := by simpa using hP.mem_iff.2 hin
    go_wp2_with (first | (refine at_lookup ?_; go_must (refine own_lookup (kt := 3) (et := 4) (b := mw) (k := p) (l := wsM ws) (by kernel_rfl) (by kernel_rfl) zeroBool hO hW ?_ ?_ ?_ ?_; (· rfl); (· rfl); (· rfl); rw [look_ws, hc]; simp only [Act.put, List.setIfInBounds_toArray, List.set_cons_zero, List.set_cons_succ])))
    go_end0
    have : Td.put T W t = T := by unfold Td.put; rw [if_pos (by rw [hpt]; exact hin)]
    refine ⟨rfl, _, ⟨me, mw, xs, ws, ME, MW, hE, hW, hok, by rw [this]; exact hT, hP, by rw [this]⟩, ?_⟩
    unfold setF
    exact hO
  have hc : ws.contains p = false := by simpa using fun h => hin (hP.mem_iff.1 h)
  have hput : Td.put T W t = ins t T := put_new (by rw [hpt]; exact hin)
  have HPUT := Lib.hid hput
  clear hput
  by_cases hg : ∃ g ∈ xs, g.p = p
  · obtain ⟨g, hgx, hgp⟩ := hg
    have hlk : mlook (pgsM xs) p = some (pgV g) := by rw [← hgp]; exact look_pgs hkn hgx
    have hgo := hok g hgx
    have hmem := mem_page hok hkn hT hgx t (by rw [hpt, hgp])
    have hgl : g.l.length ≤ 1048575 := by
      have := len_flat (List.mem_map_of_mem (f := Pg.l) hgx)
      rw [hT.length_eq] at this
      omega
    go_wp2_with (first | (refine at_lookup ?_; go_must (first
      | (refine own_lookup (kt := 3) (et := 4) (b := mw) (k := p) (l := wsM ws) (by kernel_rfl) (by kernel_rfl) zeroBool hO hW ?_ ?_ ?_ ?_; (· rfl); (· rfl); (· rfl); rw [look_ws, hc]; simp only [Act.put, List.setIfInBounds_toArray, List.set_cons_zero, List.set_cons_succ])
      | (refine own_lookup (kt := 3) (et := 33) (b := me) (k := p) (l := pgsM xs) (by kernel_rfl) (by kernel_rfl) zeroInts hO hE ?_ ?_ ?_ ?_; (· rfl); (· rfl); (· rfl); rw [hlk]; unfold pgV; simp only [Option.getD_some]; simp only [Act.put, List.setIfInBounds_toArray, List.set_cons_zero, List.set_cons_succ]))))
    obtain ⟨pre, post, rfl⟩ := psplit hgx
    rw [pgsF_app, pgsF_cons] at hO
    subst hgp
    by_cases hx : t ∈ g.l
    · have hcx : g.l.contains t = true := by simpa using hx
      refine (cBS E _ _ _ g.F g.a g.cap g.l t hgo.sl (by omega) hgo.up hO).mono ?_
      rw [hcx]
      clear hO hF
      rintro e w2 ⟨rfl, hO⟩
      go_wp2_with fail
      go_end0
      unfold PutP
      rw [HPUT.out, ins_old hI.t (hmem.2 hx)]
      refine ⟨rfl, _, ⟨me, mw, pre ++ g :: post, ws, ME, MW, hE, hW, hok, hT, hP, rfl⟩, ?_⟩
      rw [pgsF_app, pgsF_cons]
      unfold setF
      exact hO.as _
    · have hcx : g.l.contains t = false := by simpa using hx
      refine (cBS E _ _ _ g.F g.a g.cap g.l t hgo.sl (by omega) hgo.up hO).mono ?_
      rw [hcx]
      clear hO hF
      rintro e w2 ⟨rfl, hO⟩
      have hub : ((g.l.countP (· < t) : Nat) : Int) ≤ 1048575 := by have := List.countP_le_length (p := fun y => decide (y < t)) (l := g.l); omega
      have hwn : IntKind.i64.wrap ((T.length : Int) + 1) = (T.length : Int) + 1 := by
        have h9 := wrap_n' (T.length + 1) (by omega)
        simpa using h9
      have hTl : (T.length : Int) ≤ 1048575 := by omega
      ((try simp only [List.nil_append, List.append_nil] at hO); have hF := Own.cells hO; simp only [cellsOf_append, cellsOf_pt] at hF)
      go_wp2_with fail
      (try (go_wp2_with fail))
      refine region_k (fun w' => Own E w' (pt b (.cells #[.bool true, .int .i64 most, .int .i64 T.length, .map (some me), .map (some mw)] 56 (0, 0)))) 10 (.look 0 (.look 1 (.look 2 (.look 3 (.look 4 (.look 5 (.look 6 (.look 7 (.act 8 (.act 9 (.act 10 .done))))))))))) (by kernel_rfl) (by kernel_rfl) (fun _ _ d _ _ h => by cases d <;> exact h) ?_ ?_
      · exact hO.drew.as _
      replace hO := hO.drew
      generalize World.drew _ = wdr at hO ⊢
      first | (refine k_look (o := ?_) (v := ?_) ?_ ?_ ?_ ?_; rotate_left 2; (· ((conv => lhs; whnf); try exact rfl)); (· rfl); (· intro w' hO'; (have hF' := Own.cells hO'; simp only [cellsOf_append, cellsOf_pt] at hF'); go_simp; (try exact rfl)); simp only [Act.put, List.setIfInBounds_toArray, List.set_cons_zero, List.set_cons_succ]) | (refine k_pass (o := ?_) ?_ ?_ ?_; rotate_left; (· ((conv => lhs; whnf); try exact rfl)); (· rfl); simp only [Act.put, List.setIfInBounds_toArray, List.set_cons_zero, List.set_cons_succ]) | (refine k_look (o := ?_) (v := .agg ?_) ?_ ?_ ?_ ?_; rotate_left 2; (· ((conv => lhs; whnf); try exact rfl)); (· rfl); (· intro w' hO'; refine run_opLoadS (b := ?_) (cs := ?_) (e := ?_) (f := ?_) hO' ?_ ?_ ?_ ?_; rotate_left 4; (· exact rfl); (· exact inferInstance); (· simp; done); (· simp; done)); simp only [Act.put, List.setIfInBounds_toArray, List.set_cons_zero, List.set_cons_succ])
      first | (refine k_look (o := ?_) (v := ?_) ?_ ?_ ?_ ?_; rotate_left 2; (· ((conv => lhs; whnf); try exact rfl)); (· rfl); (· intro w' hO'; (have hF' := Own.cells hO'; simp only [cellsOf_append, cellsOf_pt] at hF'); go_simp; (try exact rfl)); simp only [Act.put, List.setIfInBounds_toArray, List.set_cons_zero, List.set_cons_succ]) | (refine k_pass (o := ?_) ?_ ?_ ?_; rotate_left; (· ((conv => lhs; whnf); try exact rfl)); (· rfl); simp only [Act.put, List.setIfInBounds_toArray, List.set_cons_zero, List.set_cons_succ]) | (refine k_look (o := ?_) (v := .agg ?_) ?_ ?_ ?_ ?_; rotate_left 2; (· ((conv => lhs; whnf); try exact rfl)); (· rfl); (· intro w' hO'; refine run_opLoadS (b := ?_) (cs := ?_) (e := ?_) (f := ?_) hO' ?_ ?_ ?_ ?_; rotate_left 4; (· exact rfl); (· exact inferInstance); (· simp; done); (· simp; done)); simp only [Act.put, List.setIfInBounds_toArray, List.set_cons_zero, List.set_cons_succ])
      first | (refine k_look (o := ?_) (v := ?_) ?_ ?_ ?_ ?_; rotate_left 2; (· ((conv => lhs; whnf); try exact rfl)); (· rfl); (· intro w' hO'; (have hF' := Own.cells hO'; simp only [cellsOf_append, cellsOf_pt] at hF'); go_simp; (try exact rfl)); simp only [Act.put, List.setIfInBounds_toArray, List.set_cons_zero, List.set_cons_succ]) | (refine k_pass (o := ?_) ?_ ?_ ?_; rotate_left; (· ((conv => lhs; whnf); try exact rfl)); (· rfl); simp only [Act.put, List.setIfInBounds_toArray, List.set_cons_zero, List.set_cons_succ]) | (refine k_look (o := ?_) (v := .agg ?_) ?_ ?_ ?_ ?_; rotate_left 2; (· ((conv => lhs; whnf); try exact rfl)); (· rfl); (· intro w' hO'; refine run_opLoadS (b := ?_) (cs := ?_) (e := ?_) (f := ?_) hO' ?_ ?_ ?_ ?_; rotate_left 4; (· exact rfl); (· exact inferInstance); (· simp; done); (· simp; done)); simp only [Act.put, List.setIfInBounds_toArray, List.set_cons_zero, List.set_cons_succ])
      first | (refine k_look (o := ?_) (v := ?_) ?_ ?_ ?_ ?_; rotate_left 2; (· ((conv => lhs; whnf); try exact rfl)); (· rfl); (· intro w' hO'; (have hF' := Own.cells hO'; simp only [cellsOf_append, cellsOf_pt] at hF'); go_simp; (try exact rfl)); simp only [Act.put, List.setIfInBounds_toArray, List.set_cons_zero, List.set_cons_succ]) | (refine k_pass (o := ?_) ?_ ?_ ?_; rotate_left; (· ((conv => lhs; whnf); try exact rfl)); (· rfl); simp only [Act.put, List.setIfInBounds_toArray, List.set_cons_zero, List.set_cons_succ]) | (refine k_look (o := ?_) (v := .agg ?_) ?_ ?_ ?_ ?_; rotate_left 2; (· ((conv => lhs; whnf); try exact rfl)); (· rfl); (· intro w' hO'; refine run_opLoadS (b := ?_) (cs := ?_) (e := ?_) (f := ?_) hO' ?_ ?_ ?_ ?_; rotate_left 4; (· exact rfl); (· exact inferInstance); (· simp; done); (· simp; done)); simp only [Act.put, List.setIfInBounds_toArray, List.set_cons_zero, List.set_cons_succ])
      first | (refine k_look (o := ?_) (v := ?_) ?_ ?_ ?_ ?_; rotate_left 2; (· ((conv => lhs; whnf); try exact rfl)); (· rfl); (· intro w' hO'; (have hF' := Own.cells hO'; simp only [cellsOf_append, cellsOf_pt] at hF'); go_simp; (try exact rfl)); simp only [Act.put, List.setIfInBounds_toArray, List.set_cons_zero, List.set_cons_succ]) | (refine k_pass (o := ?_) ?_ ?_ ?_; rotate_left; (· ((conv => lhs; whnf); try exact rfl)); (· rfl); simp only [Act.put, List.setIfInBounds_toArray, List.set_cons_zero, List.set_cons_succ]) | (refine k_look (o := ?_) (v := .agg ?_) ?_ ?_ ?_ ?_; rotate_left 2; (· ((conv => lhs; whnf); try exact rfl)); (· rfl); (· intro w' hO'; refine run_opLoadS (b := ?_) (cs := ?_) (e := ?_) (f := ?_) hO' ?_ ?_ ?_ ?_; rotate_left 4; (· exact rfl); (· exact inferInstance); (· simp; done); (· simp; done)); simp only [Act.put, List.setIfInBounds_toArray, List.set_cons_zero, List.set_cons_succ])
      first | (refine k_look (o := ?_) (v := ?_) ?_ ?_ ?_ ?_; rotate_left 2; (· ((conv => lhs; whnf); try exact rfl)); (· rfl); (· intro w' hO'; (have hF' := Own.cells hO'; simp only [cellsOf_append, cellsOf_pt] at hF'); go_simp; (try exact rfl)); simp only [Act.put, List.setIfInBounds_toArray, List.set_cons_zero, List.set_cons_succ]) | (refine k_pass (o := ?_) ?_ ?_ ?_; rotate_left; (· ((conv => lhs; whnf); try exact rfl)); (· rfl); simp only [Act.put, List.setIfInBounds_toArray, List.set_cons_zero, List.set_cons_succ]) | (refine k_look (o := ?_) (v := .agg ?_) ?_ ?_ ?_ ?_; rotate_left 2; (· ((conv => lhs; whnf); try exact rfl)); (· rfl); (· intro w' hO'; refine run_opLoadS (b := ?_) (cs := ?_) (e := ?_) (f := ?_) hO' ?_ ?_ ?_ ?_; rotate_left 4; (· exact rfl); (· exact inferInstance); (· simp; done); (· simp; done)); simp only [Act.put, List.setIfInBounds_toArray, List.set_cons_zero, List.set_cons_succ])
      first | (refine k_look (o := ?_) (v := ?_) ?_ ?_ ?_ ?_; rotate_left 2; (· ((conv => lhs; whnf); try exact rfl)); (· rfl); (· intro w' hO'; (have hF' := Own.cells hO'; simp only [cellsOf_append, cellsOf_pt] at hF'); go_simp; (try exact rfl)); simp only [Act.put, List.setIfInBounds_toArray, List.set_cons_zero, List.set_cons_succ]) | (refine k_pass (o := ?_) ?_ ?_ ?_; rotate_left; (· ((conv => lhs; whnf); try exact rfl)); (· rfl); simp only [Act.put, List.setIfInBounds_toArray, List.set_cons_zero, List.set_cons_succ]) | (refine k_look (o := ?_) (v := .agg ?_) ?_ ?_ ?_ ?_; rotate_left 2; (· ((conv => lhs; whnf); try exact rfl)); (· rfl); (· intro w' hO'; refine run_opLoadS (b := ?_) (cs := ?_) (e := ?_) (f := ?_) hO' ?_ ?_ ?_ ?_; rotate_left 4; (· exact rfl); (· exact inferInstance); (· simp; done); (· simp; done)); simp only [Act.put, List.setIfInBounds_toArray, List.set_cons_zero, List.set_cons_succ])
      first | (refine k_look (o := ?_) (v := ?_) ?_ ?_ ?_ ?_; rotate_left 2; (· ((conv => lhs; whnf); try exact rfl)); (· rfl); (· intro w' hO'; (have hF' := Own.cells hO'; simp only [cellsOf_append, cellsOf_pt] at hF'); go_simp; (try exact rfl)); simp only [Act.put, List.setIfInBounds_toArray, List.set_cons_zero, List.set_cons_succ]) | (refine k_pass (o := ?_) ?_ ?_ ?_; rotate_left; (· ((conv => lhs; whnf); try exact rfl)); (· rfl); simp only [Act.put, List.setIfInBounds_toArray, List.set_cons_zero, List.set_cons_succ]) | (refine k_look (o := ?_) (v := .agg ?_) ?_ ?_ ?_ ?_; rotate_left 2; (· ((conv => lhs; whnf); try exact rfl)); (· rfl); (· intro w' hO'; refine run_opLoadS (b := ?_) (cs := ?_) (e := ?_) (f := ?_) hO' ?_ ?_ ?_ ?_; rotate_left 4; (· exact rfl); (· exact inferInstance); (· simp; done); (· simp; done)); simp only [Act.put, List.setIfInBounds_toArray, List.set_cons_zero, List.set_cons_succ])
      (refine k_act (o := ?_) ?_ ?_; rotate_left; (· ((conv => lhs; whnf); try exact rfl)))
      go_wp2_with (first | (refine at_bs ?_; (refine own_build1 (v := ?_) sltInts hO ?_ ?_ ?_ ?_ ?_ ?_; rotate_left; (· rfl); (· ((conv => lhs; whnf); try exact rfl)); (· rfl); (· decide); (· decide); clear hO; (try clear hF); intro vb _ hO; (try simp only [Value.cells] at hO); ((try simp only [List.nil_append, List.append_nil] at hO); have hF := Own.cells hO; simp only [cellsOf_append, cellsOf_pt] at hF); simp only [Act.put, List.setIfInBounds_toArray, List.set_cons_zero, List.set_cons_succ])))
      refine ⟨hO.as _, ?_⟩
      (refine k_act (o := ?_) ?_ ?_; rotate_left; (· ((conv => lhs; whnf); try exact rfl)))
      go_wp2_with fail
      refine (cInsert E _ _ _ g.F g.a g.cap vb g.l t hgo.sl (by omega) hgo.up hx hO).mono ?_
      clear hO
      (try clear hF)
      rintro e w3 ⟨a2, c2, S2, rfl, hS2, hO⟩
      go_wp2_with fail
      refine ⟨hO.as _, ?_⟩
      (refine k_act (o := ?_) ?_ ?_; rotate_left; (· ((conv => lhs; whnf); try exact rfl)))
      go_wp2_with (first | (refine at_mapup ?_; go_must (refine own_mapSet (kt := 3) (et := 33) (b := me) (k := g.p) (v := .slice a2 (g.l.length + 1) c2) (v0 := pgV g) (by kernel_rfl) (by kernel_rfl) hO hE ?_ ?_ ?_ ?_ hlk ?_; (· rfl); (· rfl); (· rfl); (· rfl); clear hO; (try clear hF); intro w4 ME2 hE2 hO; ((try simp only [List.nil_append, List.append_nil] at hO); have hF := Own.cells hO; simp only [cellsOf_append, cellsOf_pt] at hF); simp only [Act.put, List.setIfInBounds_toArray, List.set_cons_zero, List.set_cons_succ])))
      refine k_done ?_
      go_wp2_with (first | (refine own_store (v := ?_) (off := 2) (b := b) hO ?_ ?_ ?_ ?_ ?_ ?_ ?_; rotate_left; (· rfl); (· ((conv => lhs; whnf); try exact rfl)); (· ((conv => lhs; whnf); try exact rfl)); (· simp [Value.cells]); (· simp [Value.cells, Value.oneCell']); (· simp [Value.cells]); clear hO; (try clear hF); intro _ hO; (try simp only [splice, Value.cells] at hO); ((try simp only [List.nil_append, List.append_nil] at hO); have hF := Own.cells hO; simp only [cellsOf_append, cellsOf_pt] at hF); simp only [Act.put, List.setIfInBounds_toArray, List.set_cons_zero, List.set_cons_succ]))
      (try simp only [splice, Value.cells, List.setIfInBounds_toArray, List.set_cons_zero, List.set_cons_succ] at hO)
      go_end0
      unfold PutP
      rw [HPUT.out]
      have hil : (ins t g.l).length = g.l.length + 1 := by rw [(ins_perm hgo.up hx).length_eq]; rfl
      have hiT : (ins t T).length = T.length + 1 := by rw [(ins_perm hI.t (fun h => hx (hmem.1 h))).length_eq]; rfl
      have hE3 : MapAt me (pgsM (pre ++ (⟨g.p, ins t g.l, a2, c2, S2⟩ : Pg) :: post)) ME2 := by
        rw [← mset_pgs hkn (g' := (⟨g.p, ins t g.l, a2, c2, S2⟩ : Pg)) rfl]
        unfold pgV
        dsimp only
        rw [hil]
        exact hE2
      have hgo2 : PgOk (⟨g.p, ins t g.l, a2, c2, S2⟩ : Pg) := ⟨by dsimp only; rw [hil]; exact hS2, fun h => by dsimp only at h; rw [h] at hil; simp at hil, up_ins hgo.up, fun u hu => by
        rcases mem_ins.1 hu with rfl | hu
        · exact hpt
        · exact hgo.on u hu⟩
      refine ⟨rfl, _, ⟨me, mw, pre ++ (⟨g.p, ins t g.l, a2, c2, S2⟩ : Pg) :: post, ws, ME2, MW, hE3, hW, fun h hh => ?_, ?_, hP, rfl⟩, ?_⟩
      · rcases List.mem_append.1 hh with hh | hh
        · exact hok h (List.mem_append.2 (.inl hh))
        · rcases List.mem_cons.1 hh with rfl | hh
          · exact hgo2
          · exact hok h (List.mem_append.2 (.inr (List.mem_cons_of_mem _ hh)))
      · refine List.Perm.trans ?_ (ins_perm hI.t (fun h => hx (hmem.1 h))).symm
        refine List.Perm.trans ?_ (hT.cons t)
        simp only [List.map_append, List.map_cons, List.flatten_append, List.flatten_cons]
        refine List.Perm.trans (List.Perm.append_left _ (List.Perm.append_right _ (ins_perm hgo.up hx))) ?_
        simp only [List.cons_append]
        exact List.perm_middle
      · rw [pgsF_app, pgsF_cons, hiT]
        unfold setF
        have := hO.as (pt b (.cells #[.bool true, .int .i64 most, .int .i64 ((T.length : Int) + 1), .map (some me), .map (some mw)] 56 (0, 0)) ++ (ME2 ++ (MW ++ (pgsF pre ++ (S2 ++ pgsF post)))) ++ R)
        simpa using this
  · have hlk : mlook (pgsM xs) p = none := look_pgs_none fun g hgx h => hg ⟨g, hgx, h⟩
    have hxT : t ∉ T := not_page hok hT fun g hgx h => hg ⟨g, hgx, by rw [h, hpt]⟩
    go_wp2_with (first | (refine at_lookup ?_; go_must (first
      | (refine own_lookup (kt := 3) (et := 4) (b := mw) (k := p) (l := wsM ws) (by kernel_rfl) (by kernel_rfl) zeroBool hO hW ?_ ?_ ?_ ?_; (· rfl); (· rfl); (· rfl); rw [look_ws, hc]; simp only [Act.put, List.setIfInBounds_toArray, List.set_cons_zero, List.set_cons_succ])
      | (refine own_lookup (kt := 3) (et := 33) (b := me) (k := p) (l := pgsM xs) (by kernel_rfl) (by kernel_rfl) zeroInts hO hE ?_ ?_ ?_ ?_; (· rfl); (· rfl); (· rfl); rw [hlk]; simp only [Option.getD_none]; simp only [Act.put, List.setIfInBounds_toArray, List.set_cons_zero, List.set_cons_succ]))))
    refine (cBS E _ _ _ [] none 0 [] t (Sl.nil _ _) (by simp) List.Pairwise.nil hO).mono ?_
    clear hO hF
    rintro e w2 ⟨rfl, hO⟩
    have hwn : IntKind.i64.wrap ((T.length : Int) + 1) = (T.length : Int) + 1 := by
      have h9 := wrap_n' (T.length + 1) (by omega)
      simpa using h9
    have hTl : (T.length : Int) ≤ 1048575 := by omega
    ((try simp only [List.nil_append, List.append_nil] at hO); have hF := Own.cells hO; simp only [cellsOf_append, cellsOf_pt] at hF)
    go_wp2_with fail
    (try (go_wp2_with fail))
    refine region_k (fun w' => Own E w' (pt b (.cells #[.bool true, .int .i64 most, .int .i64 T.length, .map (some me), .map (some mw)] 56 (0, 0)))) 10 (.look 0 (.look 1 (.look 2 (.look 3 (.look 4 (.look 5 (.look 6 (.look 7 (.act 8 (.act 9 (.act 10 .done))))))))))) (by kernel_rfl) (by kernel_rfl) (fun _ _ d _ _ h => by cases d <;> exact h) ?_ ?_
    · exact hO.drew.as _
    replace hO := hO.drew
    generalize World.drew _ = wdr at hO ⊢
    first | (refine k_look (o := ?_) (v := ?_) ?_ ?_ ?_ ?_; rotate_left 2; (· ((conv => lhs; whnf); try exact rfl)); (· rfl); (· intro w' hO'; (have hF' := Own.cells hO'; simp only [cellsOf_append, cellsOf_pt] at hF'); go_simp; (try exact rfl)); simp only [Act.put, List.setIfInBounds_toArray, List.set_cons_zero, List.set_cons_succ]) | (refine k_pass (o := ?_) ?_ ?_ ?_; rotate_left; (· ((conv => lhs; whnf); try exact rfl)); (· rfl); simp only [Act.put, List.setIfInBounds_toArray, List.set_cons_zero, List.set_cons_succ]) | (refine k_look (o := ?_) (v := .agg ?_) ?_ ?_ ?_ ?_; rotate_left 2; (· ((conv => lhs; whnf); try exact rfl)); (· rfl); (· intro w' hO'; refine run_opLoadS (b := ?_) (cs := ?_) (e := ?_) (f := ?_) hO' ?_ ?_ ?_ ?_; rotate_left 4; (· exact rfl); (· exact inferInstance); (· simp; done); (· simp; done)); simp only [Act.put, List.setIfInBounds_toArray, List.set_cons_zero, List.set_cons_succ])
    first | (refine k_look (o := ?_) (v := ?_) ?_ ?_ ?_ ?_; rotate_left 2; (· ((conv => lhs; whnf); try exact rfl)); (· rfl); (· intro w' hO'; (have hF' := Own.cells hO'; simp only [cellsOf_append, cellsOf_pt] at hF'); go_simp; (try exact rfl)); simp only [Act.put, List.setIfInBounds_toArray, List.set_cons_zero, List.set_cons_succ]) | (refine k_pass (o := ?_) ?_ ?_ ?_; rotate_left; (· ((conv => lhs; whnf); try exact rfl)); (· rfl); simp only [Act.put, List.setIfInBounds_toArray, List.set_cons_zero, List.set_cons_succ]) | (refine k_look (o := ?_) (v := .agg ?_) ?_ ?_ ?_ ?_; rotate_left 2; (· ((conv => lhs; whnf); try exact rfl)); (· rfl); (· intro w' hO'; refine run_opLoadS (b := ?_) (cs := ?_) (e := ?_) (f := ?_) hO' ?_ ?_ ?_ ?_; rotate_left 4; (· exact rfl); (· exact inferInstance); (· simp; done); (· simp; done)); simp only [Act.put, List.setIfInBounds_toArray, List.set_cons_zero, List.set_cons_succ])
    first | (refine k_look (o := ?_) (v := ?_) ?_ ?_ ?_ ?_; rotate_left 2; (· ((conv => lhs; whnf); try exact rfl)); (· rfl); (· intro w' hO'; (have hF' := Own.cells hO'; simp only [cellsOf_append, cellsOf_pt] at hF'); go_simp; (try exact rfl)); simp only [Act.put, List.setIfInBounds_toArray, List.set_cons_zero, List.set_cons_succ]) | (refine k_pass (o := ?_) ?_ ?_ ?_; rotate_left; (· ((conv => lhs; whnf); try exact rfl)); (· rfl); simp only [Act.put, List.setIfInBounds_toArray, List.set_cons_zero, List.set_cons_succ]) | (refine k_look (o := ?_) (v := .agg ?_) ?_ ?_ ?_ ?_; rotate_left 2; (· ((conv => lhs; whnf); try exact rfl)); (· rfl); (· intro w' hO'; refine run_opLoadS (b := ?_) (cs := ?_) (e := ?_) (f := ?_) hO' ?_ ?_ ?_ ?_; rotate_left 4; (· exact rfl); (· exact inferInstance); (· simp; done); (· simp; done)); simp only [Act.put, List.setIfInBounds_toArray, List.set_cons_zero, List.set_cons_succ])
    first | (refine k_look (o := ?_) (v := ?_) ?_ ?_ ?_ ?_; rotate_left 2; (· ((conv => lhs; whnf); try exact rfl)); (· rfl); (· intro w' hO'; (have hF' := Own.cells hO'; simp only [cellsOf_append, cellsOf_pt] at hF'); go_simp; (try exact rfl)); simp only [Act.put, List.setIfInBounds_toArray, List.set_cons_zero, List.set_cons_succ]) | (refine k_pass (o := ?_) ?_ ?_ ?_; rotate_left; (· ((conv => lhs; whnf); try exact rfl)); (· rfl); simp only [Act.put, List.setIfInBounds_toArray, List.set_cons_zero, List.set_cons_succ]) | (refine k_look (o := ?_) (v := .agg ?_) ?_ ?_ ?_ ?_; rotate_left 2; (· ((conv => lhs; whnf); try exact rfl)); (· rfl); (· intro w' hO'; refine run_opLoadS (b := ?_) (cs := ?_) (e := ?_) (f := ?_) hO' ?_ ?_ ?_ ?_; rotate_left 4; (· exact rfl); (· exact inferInstance); (· simp; done); (· simp; done)); simp only [Act.put, List.setIfInBounds_toArray, List.set_cons_zero, List.set_cons_succ])
    first | (refine k_look (o := ?_) (v := ?_) ?_ ?_ ?_ ?_; rotate_left 2; (· ((conv => lhs; whnf); try exact rfl)); (· rfl); (· intro w' hO'; (have hF' := Own.cells hO'; simp only [cellsOf_append, cellsOf_pt] at hF'); go_simp; (try exact rfl)); simp only [Act.put, List.setIfInBounds_toArray, List.set_cons_zero, List.set_cons_succ]) | (refine k_pass (o := ?_) ?_ ?_ ?_; rotate_left; (· ((conv => lhs; whnf); try exact rfl)); (· rfl); simp only [Act.put, List.setIfInBounds_toArray, List.set_cons_zero, List.set_cons_succ]) | (refine k_look (o := ?_) (v := .agg ?_) ?_ ?_ ?_ ?_; rotate_left 2; (· ((conv => lhs; whnf); try exact rfl)); (· rfl); (· intro w' hO'; refine run_opLoadS (b := ?_) (cs := ?_) (e := ?_) (f := ?_) hO' ?_ ?_ ?_ ?_; rotate_left 4; (· exact rfl); (· exact inferInstance); (· simp; done); (· simp; done)); simp only [Act.put, List.setIfInBounds_toArray, List.set_cons_zero, List.set_cons_succ])
    first | (refine k_look (o := ?_) (v := ?_) ?_ ?_ ?_ ?_; rotate_left 2; (· ((conv => lhs; whnf); try exact rfl)); (· rfl); (· intro w' hO'; (have hF' := Own.cells hO'; simp only [cellsOf_append, cellsOf_pt] at hF'); go_simp; (try exact rfl)); simp only [Act.put, List.setIfInBounds_toArray, List.set_cons_zero, List.set_cons_succ]) | (refine k_pass (o := ?_) ?_ ?_ ?_; rotate_left; (· ((conv => lhs; whnf); try exact rfl)); (· rfl); simp only [Act.put, List.setIfInBounds_toArray, List.set_cons_zero, List.set_cons_succ]) | (refine k_look (o := ?_) (v := .agg ?_) ?_ ?_ ?_ ?_; rotate_left 2; (· ((conv => lhs; whnf); try exact rfl)); (· rfl); (· intro w' hO'; refine run_opLoadS (b := ?_) (cs := ?_) (e := ?_) (f := ?_) hO' ?_ ?_ ?_ ?_; rotate_left 4; (· exact rfl); (· exact inferInstance); (· simp; done); (· simp; done)); simp only [Act.put, List.setIfInBounds_toArray, List.set_cons_zero, List.set_cons_succ])
    first | (refine k_look (o := ?_) (v := ?_) ?_ ?_ ?_ ?_; rotate_left 2; (· ((conv => lhs; whnf); try exact rfl)); (· rfl); (· intro w' hO'; (have hF' := Own.cells hO'; simp only [cellsOf_append, cellsOf_pt] at hF'); go_simp; (try exact rfl)); simp only [Act.put, List.setIfInBounds_toArray, List.set_cons_zero, List.set_cons_succ]) | (refine k_pass (o := ?_) ?_ ?_ ?_; rotate_left; (· ((conv => lhs; whnf); try exact rfl)); (· rfl); simp only [Act.put, List.setIfInBounds_toArray, List.set_cons_zero, List.set_cons_succ]) | (refine k_look (o := ?_) (v := .agg ?_) ?_ ?_ ?_ ?_; rotate_left 2; (· ((conv => lhs; whnf); try exact rfl)); (· rfl); (· intro w' hO'; refine run_opLoadS (b := ?_) (cs := ?_) (e := ?_) (f := ?_) hO' ?_ ?_ ?_ ?_; rotate_left 4; (· exact rfl); (· exact inferInstance); (· simp; done); (· simp; done)); simp only [Act.put, List.setIfInBounds_toArray, List.set_cons_zero, List.set_cons_succ])
    first | (refine k_look (o := ?_) (v := ?_) ?_ ?_ ?_ ?_; rotate_left 2; (· ((conv => lhs; whnf); try exact rfl)); (· rfl); (· intro w' hO'; (have hF' := Own.cells hO'; simp only [cellsOf_append, cellsOf_pt] at hF'); go_simp; (try exact rfl)); simp only [Act.put, List.setIfInBounds_toArray, List.set_cons_zero, List.set_cons_succ]) | (refine k_pass (o := ?_) ?_ ?_ ?_; rotate_left; (· ((conv => lhs; whnf); try exact rfl)); (· rfl); simp only [Act.put, List.setIfInBounds_toArray, List.set_cons_zero, List.set_cons_succ]) | (refine k_look (o := ?_) (v := .agg ?_) ?_ ?_ ?_ ?_; rotate_left 2; (· ((conv => lhs; whnf); try exact rfl)); (· rfl); (· intro w' hO'; refine run_opLoadS (b := ?_) (cs := ?_) (e := ?_) (f := ?_) hO' ?_ ?_ ?_ ?_; rotate_left 4; (· exact rfl); (· exact inferInstance); (· simp; done); (· simp; done)); simp only [Act.put, List.setIfInBounds_toArray, List.set_cons_zero, List.set_cons_succ])
    (refine k_act (o := ?_) ?_ ?_; rotate_left; (· ((conv => lhs; whnf); try exact rfl)))
    go_wp2_with (first | (refine at_bs ?_; (refine own_build1 (v := ?_) sltInts hO ?_ ?_ ?_ ?_ ?_ ?_; rotate_left; (· rfl); (· ((conv => lhs; whnf); try exact rfl)); (· rfl); (· decide); (· decide); clear hO; (try clear hF); intro vb _ hO; (try simp only [Value.cells] at hO); ((try simp only [List.nil_append, List.append_nil] at hO); have hF := Own.cells hO; simp only [cellsOf_append, cellsOf_pt] at hF); simp only [Act.put, List.setIfInBounds_toArray, List.set_cons_zero, List.set_cons_succ])))
    refine ⟨hO.as _, ?_⟩
    (refine k_act (o := ?_) ?_ ?_; rotate_left; (· ((conv => lhs; whnf); try exact rfl)))
    go_wp2_with fail
    refine (cInsert E _ _ _ [] none 0 vb [] t (Sl.nil _ _) (by simp) List.Pairwise.nil (by simp) hO).mono ?_
    clear hO
    (try clear hF)
    rintro e w3 ⟨a2, c2, S2, rfl, hS2, hO⟩
    go_wp2_with fail
    refine ⟨hO.as _, ?_⟩
    (refine k_act (o := ?_) ?_ ?_; rotate_left; (· ((conv => lhs; whnf); try exact rfl)))
    go_wp2_with (first | (refine at_mapup ?_; go_must (refine own_mapNew (kt := 3) (et := 33) (b := me) (k := p) (v := .slice a2 (([] : List Int).length + 1) c2) (by kernel_rfl) (by kernel_rfl) hO hE ?_ ?_ ?_ ?_ hlk ?_; (· rfl); (· rfl); (· rfl); (· rfl); clear hO; (try clear hF); intro w4 ME2 hE2 hO; ((try simp only [List.nil_append, List.append_nil] at hO); have hF := Own.cells hO; simp only [cellsOf_append, cellsOf_pt] at hF); simp only [Act.put, List.setIfInBounds_toArray, List.set_cons_zero, List.set_cons_succ])))
    refine k_done ?_
    go_wp2_with (first | (refine own_store (v := ?_) (off := 2) (b := b) hO ?_ ?_ ?_ ?_ ?_ ?_ ?_; rotate_left; (· rfl); (· ((conv => lhs; whnf); try exact rfl)); (· ((conv => lhs; whnf); try exact rfl)); (· simp [Value.cells]); (· simp [Value.cells, Value.oneCell']); (· simp [Value.cells]); clear hO; (try clear hF); intro _ hO; (try simp only [splice, Value.cells] at hO); ((try simp only [List.nil_append, List.append_nil] at hO); have hF := Own.cells hO; simp only [cellsOf_append, cellsOf_pt] at hF); simp only [Act.put, List.setIfInBounds_toArray, List.set_cons_zero, List.set_cons_succ]))
    (try simp only [splice, Value.cells, List.setIfInBounds_toArray, List.set_cons_zero, List.set_cons_succ] at hO)
    go_end0
    unfold PutP
    rw [HPUT.out]
    have hiT : (ins t T).length = T.length + 1 := by rw [(ins_perm hI.t hxT).length_eq]; rfl
    have hE3 : MapAt me (pgsM (xs ++ [(⟨p, [t], a2, c2, S2⟩ : Pg)])) ME2 := by
      have : pgsM (xs ++ [(⟨p, [t], a2, c2, S2⟩ : Pg)]) = pgsM xs ++ [(p, .slice a2 (([] : List Int).length + 1) c2)] := by unfold pgsM pgV; rw [List.map_append]; rfl
      rw [this]
      exact hE2
    have hgo2 : PgOk (⟨p, [t], a2, c2, S2⟩ : Pg) := ⟨hS2, fun h => by (cases h), List.pairwise_singleton _ _, fun u hu => by rw [List.mem_singleton] at hu; subst hu; exact hpt⟩
    refine ⟨rfl, _, ⟨me, mw, xs ++ [(⟨p, [t], a2, c2, S2⟩ : Pg)], ws, ME2, MW, hE3, hW, fun h hh => ?_, ?_, hP, rfl⟩, ?_⟩
    · rcases List.mem_append.1 hh with hh | hh
      · exact hok h hh
      · rw [List.mem_singleton] at hh
        subst hh
        exact hgo2
    · refine List.Perm.trans ?_ (ins_perm hI.t hxT).symm
      refine List.Perm.trans ?_ (hT.cons t)
      simp only [List.map_append, List.map_cons, List.map_nil, List.flatten_append, List.flatten_cons, List.flatten_nil, List.append_nil]
      exact List.perm_append_comm
    · rw [pgsF_app, hiT]
      have hF1 : pgsF [(⟨p, [t], a2, c2, S2⟩ : Pg)] = S2 := by simp [pgsF]
      rw [hF1]
      unfold setF
      have := hO.as (pt b (.cells #[.bool true, .int .i64 most, .int .i64 ((T.length : Int) + 1), .map (some me), .map (some mw)] 56 (0, 0)) ++ (ME2 ++ (MW ++ (pgsF xs ++ S2))) ++ R)
      simpa using this
end Go.Proofs.Ytnfclieaendgeaa
