/- Sets of addresses: degrade. -/
import Derived.Test.YtnfclieaendgeaaTid4
set_option linter.all false
namespace Go.Proofs.Ytnfclieaendgeaa
open Go Go.RowKit Go.Own Go.Td

def DegP (E : World) (R : Fr) (b most : Nat) (T W : List Int) (e : Ending) (w' : World) : Prop :=
  e = .returned (.tuple #[]) ∧ ∃ T' W' A', Deg most T W T' W' ∧ SetAt b most T' W' A' ∧ Own E w' (A' ++ R)
theorem cnt_page {xs : List Pg} {T : List Int} (hok : ∀ g ∈ xs, PgOk g) (hn : (xs.map Pg.p).Nodup) (hT : ((xs.map Pg.l).flatten).Perm T) (hU : Up T) {g : Pg} (hg : g ∈ xs) : cnt T g.p = g.l.length := by
  unfold cnt
  have hgo := hok g hg
  have : (T.filter fun t => pg t == g.p).Perm g.l := by
    refine (List.perm_ext_iff_of_nodup (hU.filter _).nodup hgo.up.nodup).2 fun t => ?_
    rw [List.mem_filter]
    constructor
    · rintro ⟨h1, h2⟩
      exact (mem_page hok hn hT hg t (by simpa using h2)).1 h1
    · intro h
      have := hgo.on t h
      exact ⟨(mem_page hok hn hT hg t this).2 h, by simpa using this⟩
  exact this.length_eq
theorem pages_mem {xs : List Pg} {T : List Int} (hok : ∀ g ∈ xs, PgOk g) (hT : ((xs.map Pg.l).flatten).Perm T) (q : Int) : q ∈ xs.map Pg.p ↔ ∃ t ∈ T, pg t = q := by
  constructor
  · intro h
    obtain ⟨g, hg, rfl⟩ := List.mem_map.1 h
    obtain ⟨t, ht⟩ := List.exists_mem_of_ne_nil _ (hok g hg).ne
    exact ⟨t, hT.mem_iff.1 (List.mem_flatten.2 ⟨g.l, List.mem_map.2 ⟨g, hg, rfl⟩, ht⟩), (hok g hg).on t ht⟩
  · rintro ⟨t, ht, rfl⟩
    obtain ⟨l, hl, htl⟩ := List.mem_flatten.1 (hT.mem_iff.2 ht)
    obtain ⟨g, hg, rfl⟩ := List.mem_map.1 hl
    rw [(hok g hg).on t htl]
    exact List.mem_map.2 ⟨g, hg, rfl⟩
theorem filter_pgs {pre post : List Pg} {g : Pg} (hn : ((pre ++ g :: post).map Pg.p).Nodup) : (pgsM (pre ++ g :: post)).filter (fun x => x.1 != g.p) = pgsM (pre ++ post) := by
  rw [List.map_append, List.map_cons] at hn
  obtain ⟨h1, h2, h3⟩ := List.nodup_append.1 hn
  have ha : ∀ ys : List Pg, (∀ h ∈ ys, h.p ≠ g.p) → (pgsM ys).filter (fun x => x.1 != g.p) = pgsM ys := by
    intro ys hy
    rw [List.filter_eq_self]
    intro x hx
    obtain ⟨h, hh, rfl⟩ := List.mem_map.1 hx
    simpa using hy h hh
  have hp : ∀ a b : List Pg, pgsM (a ++ b) = pgsM a ++ pgsM b := fun a b => by unfold pgsM; rw [List.map_append]
  have hc : pgsM (g :: post) = (g.p, pgV g) :: pgsM post := rfl
  rw [hp, hp, List.filter_append, hc, List.filter_cons_of_neg (by simp), ha pre fun h hh e => h3 _ (List.mem_map.2 ⟨h, hh, rfl⟩) _ (List.mem_cons_self ..) e, ha post fun h hh e => (List.nodup_cons.1 h2).1 (List.mem_map.2 ⟨h, hh, e⟩)]
theorem filter_split {α : Type} (p : α → Bool) : ∀ l : List α, (l.filter p).length + (l.filter fun x => !p x).length = l.length
  | [] => rfl
  | a :: l => by
    have := filter_split p l
    by_cases h : p a
    · simp [h]; omega
    · simp [h]; omega
theorem flat_filter {pre post : List Pg} {g : Pg} {T : List Int} (hok : ∀ h ∈ pre ++ g :: post, PgOk h) (hn : ((pre ++ g :: post).map Pg.p).Nodup) (hT : (((pre ++ g :: post).map Pg.l).flatten).Perm T) : (((pre ++ post).map Pg.l).flatten).Perm (T.filter fun t => pg t != g.p) := by
  refine List.Perm.trans ?_ (hT.filter _)
  have ha : ∀ ys : List Pg, (∀ h ∈ ys, PgOk h ∧ h.p ≠ g.p) → ((ys.map Pg.l).flatten).filter (fun t => pg t != g.p) = (ys.map Pg.l).flatten := by
    intro ys hy
    rw [List.filter_eq_self]
    intro t ht
    obtain ⟨l, hl, htl⟩ := List.mem_flatten.1 ht
    obtain ⟨h, hh, rfl⟩ := List.mem_map.1 hl
    have := (hy h hh).1.on t htl
    simpa [this] using (hy h hh).2
  rw [List.map_append, List.map_cons] at hn
  obtain ⟨h1, h2, h3⟩ := List.nodup_append.1 hn
  have hg : g.l.filter (fun t => pg t != g.p) = [] := by
    rw [List.filter_eq_nil_iff]
    intro t ht
    simpa using (hok g (by simp)).on t ht
  simp only [List.map_append, List.map_cons, List.flatten_append, List.flatten_cons, List.filter_append]
  rw [ha pre fun h hh => ⟨hok h (by simp [hh]), fun e => h3 _ (List.mem_map.2 ⟨h, hh, rfl⟩) _ (List.mem_cons_self ..) e⟩, hg, ha post fun h hh => ⟨hok h (by simp [hh]), fun e => (List.nodup_cons.1 h2).1 (List.mem_map.2 ⟨h, hh, e⟩)⟩]
  exact .refl _
theorem wsM_snoc (ws : List Int) (p : Int) : wsM (ws ++ [p]) = wsM ws ++ [(p, .bool true)] := by unfold wsM; rw [List.map_append]; rfl

set_option maxRecDepth 100000 in
set_option maxHeartbeats 16000000 in
theorem tDeg (E w : World) (X R A : Fr) (b most : Nat) (T W : List Int) (hI : Inv T W) (hl : T.length ≤ 1048575) (hA : SetAt b most T W A) (hO : Own E w X) [hp : Pick X A R] :
    Calls Try.prog 44 #[.pointer (some ⟨b, 0, none⟩)] w (DegP E R b most T W) := by
  replace hO := hO.perm hp.perm
  clear hp
  have hO0 := hO
  clear hO
  go_enter Try.func44, Try.ntmps44
  go_wp2_with fail
  go_loopw [2] (fun s2 wr => ∃ (T1 W1 : List Int) (A1 : Fr), Inv T1 W1 ∧ T1.length ≤ 1048575 ∧ (∀ T' W', Deg most T1 W1 T' W' → Deg most T W T' W') ∧ SetAt b most T1 W1 A1 ∧ Own E wr (A1 ++ R)) (fun _ w => cellN w ⟨b, 2, none⟩)
  case atStart => exact ⟨T, W, A, hI, hl, fun _ _ h => h, hA, hO0⟩
  case round =>
    clear hO0 hA hI hl
    obtain ⟨T1, W1, A1, hI, hl, hD, ⟨me, mw, xs, ws, ME, MW, hE, hW, hok, hT, hP, rfl⟩, hO⟩ := hrel
    have hkn := mapAt_nodup hE
    rw [pgsM_keys] at hkn
    unfold setF at hO
    have hTl : (T1.length : Int) ≤ 1048575 := by omega
    ((try simp only [List.nil_append, List.append_nil] at hO); have hF := Own.cells hO; simp only [cellsOf_append, cellsOf_pt] at hF)
    by_cases hm : most < T1.length
    · have hm1 : (most : Int) < T1.length := by omega
      have hcell : cellN wr ⟨b, 2, none⟩ = T1.length := by
        unfold cellN
        rw [hF.1.1.1 2]
        simp
      have HM := Lib.hid hm
      have HCELL := Lib.hid hcell
      clear hm hcell
      go_wp2_with fail
      (try (go_wp2_with fail))
      refine region_schO hO (.look 0 (.look 1 (.look 2 (.look 3 (.look 4 (.look 5 (.look 6 (.look 7 (.look 8 .done))))))))) (by kernel_rfl) (by kernel_rfl) (fun _ _ d _ _ h => by cases d <;> exact h) ?_
      clear hO; (try clear hF); intro _ hO
      first | (refine sch_look (o := ?_) (v := ?_) ?_ ?_ ?_ ?_; rotate_left 2; (· ((conv => lhs; whnf); try exact rfl)); (· rfl); (· intro w' hO'; (have hF' := Own.cells hO'; simp only [cellsOf_append, cellsOf_pt] at hF'); go_simp; (try exact rfl)); simp only [Act.put, List.setIfInBounds_toArray, List.set_cons_zero, List.set_cons_succ]) | (refine sch_pass (o := ?_) ?_ ?_ ?_; rotate_left; (· ((conv => lhs; whnf); try exact rfl)); (· rfl); simp only [Act.put, List.setIfInBounds_toArray, List.set_cons_zero, List.set_cons_succ]) | (refine sch_look (o := ?_) (v := .agg ?_) ?_ ?_ ?_ ?_; rotate_left 2; (· ((conv => lhs; whnf); try exact rfl)); (· rfl); (· intro w' hO'; refine run_opLoadS (b := ?_) (cs := ?_) (e := ?_) (f := ?_) hO' ?_ ?_ ?_ ?_; rotate_left 4; (· exact rfl); (· exact inferInstance); (· simp; done); (· simp; done)); simp only [Act.put, List.setIfInBounds_toArray, List.set_cons_zero, List.set_cons_succ])
      first | (refine sch_look (o := ?_) (v := ?_) ?_ ?_ ?_ ?_; rotate_left 2; (· ((conv => lhs; whnf); try exact rfl)); (· rfl); (· intro w' hO'; (have hF' := Own.cells hO'; simp only [cellsOf_append, cellsOf_pt] at hF'); go_simp; (try exact rfl)); simp only [Act.put, List.setIfInBounds_toArray, List.set_cons_zero, List.set_cons_succ]) | (refine sch_pass (o := ?_) ?_ ?_ ?_; rotate_left; (· ((conv => lhs; whnf); try exact rfl)); (· rfl); simp only [Act.put, List.setIfInBounds_toArray, List.set_cons_zero, List.set_cons_succ]) | (refine sch_look (o := ?_) (v := .agg ?_) ?_ ?_ ?_ ?_; rotate_left 2; (· ((conv => lhs; whnf); try exact rfl)); (· rfl); (· intro w' hO'; refine run_opLoadS (b := ?_) (cs := ?_) (e := ?_) (f := ?_) hO' ?_ ?_ ?_ ?_; rotate_left 4; (· exact rfl); (· exact inferInstance); (· simp; done); (· simp; done)); simp only [Act.put, List.setIfInBounds_toArray, List.set_cons_zero, List.set_cons_succ])
      first | (refine sch_look (o := ?_) (v := ?_) ?_ ?_ ?_ ?_; rotate_left 2; (· ((conv => lhs; whnf); try exact rfl)); (· rfl); (· intro w' hO'; (have hF' := Own.cells hO'; simp only [cellsOf_append, cellsOf_pt] at hF'); go_simp; (try exact rfl)); simp only [Act.put, List.setIfInBounds_toArray, List.set_cons_zero, List.set_cons_succ]) | (refine sch_pass (o := ?_) ?_ ?_ ?_; rotate_left; (· ((conv => lhs; whnf); try exact rfl)); (· rfl); simp only [Act.put, List.setIfInBounds_toArray, List.set_cons_zero, List.set_cons_succ]) | (refine sch_look (o := ?_) (v := .agg ?_) ?_ ?_ ?_ ?_; rotate_left 2; (· ((conv => lhs; whnf); try exact rfl)); (· rfl); (· intro w' hO'; refine run_opLoadS (b := ?_) (cs := ?_) (e := ?_) (f := ?_) hO' ?_ ?_ ?_ ?_; rotate_left 4; (· exact rfl); (· exact inferInstance); (· simp; done); (· simp; done)); simp only [Act.put, List.setIfInBounds_toArray, List.set_cons_zero, List.set_cons_succ])
      first | (refine sch_look (o := ?_) (v := ?_) ?_ ?_ ?_ ?_; rotate_left 2; (· ((conv => lhs; whnf); try exact rfl)); (· rfl); (· intro w' hO'; (have hF' := Own.cells hO'; simp only [cellsOf_append, cellsOf_pt] at hF'); go_simp; (try exact rfl)); simp only [Act.put, List.setIfInBounds_toArray, List.set_cons_zero, List.set_cons_succ]) | (refine sch_pass (o := ?_) ?_ ?_ ?_; rotate_left; (· ((conv => lhs; whnf); try exact rfl)); (· rfl); simp only [Act.put, List.setIfInBounds_toArray, List.set_cons_zero, List.set_cons_succ]) | (refine sch_look (o := ?_) (v := .agg ?_) ?_ ?_ ?_ ?_; rotate_left 2; (· ((conv => lhs; whnf); try exact rfl)); (· rfl); (· intro w' hO'; refine run_opLoadS (b := ?_) (cs := ?_) (e := ?_) (f := ?_) hO' ?_ ?_ ?_ ?_; rotate_left 4; (· exact rfl); (· exact inferInstance); (· simp; done); (· simp; done)); simp only [Act.put, List.setIfInBounds_toArray, List.set_cons_zero, List.set_cons_succ])
      first | (refine sch_look (o := ?_) (v := ?_) ?_ ?_ ?_ ?_; rotate_left 2; (· ((conv => lhs; whnf); try exact rfl)); (· rfl); (· intro w' hO'; (have hF' := Own.cells hO'; simp only [cellsOf_append, cellsOf_pt] at hF'); go_simp; (try exact rfl)); simp only [Act.put, List.setIfInBounds_toArray, List.set_cons_zero, List.set_cons_succ]) | (refine sch_pass (o := ?_) ?_ ?_ ?_; rotate_left; (· ((conv => lhs; whnf); try exact rfl)); (· rfl); simp only [Act.put, List.setIfInBounds_toArray, List.set_cons_zero, List.set_cons_succ]) | (refine sch_look (o := ?_) (v := .agg ?_) ?_ ?_ ?_ ?_; rotate_left 2; (· ((conv => lhs; whnf); try exact rfl)); (· rfl); (· intro w' hO'; refine run_opLoadS (b := ?_) (cs := ?_) (e := ?_) (f := ?_) hO' ?_ ?_ ?_ ?_; rotate_left 4; (· exact rfl); (· exact inferInstance); (· simp; done); (· simp; done)); simp only [Act.put, List.setIfInBounds_toArray, List.set_cons_zero, List.set_cons_succ])
      first | (refine sch_look (o := ?_) (v := ?_) ?_ ?_ ?_ ?_; rotate_left 2; (· ((conv => lhs; whnf); try exact rfl)); (· rfl); (· intro w' hO'; (have hF' := Own.cells hO'; simp only [cellsOf_append, cellsOf_pt] at hF'); go_simp; (try exact rfl)); simp only [Act.put, List.setIfInBounds_toArray, List.set_cons_zero, List.set_cons_succ]) | (refine sch_pass (o := ?_) ?_ ?_ ?_; rotate_left; (· ((conv => lhs; whnf); try exact rfl)); (· rfl); simp only [Act.put, List.setIfInBounds_toArray, List.set_cons_zero, List.set_cons_succ]) | (refine sch_look (o := ?_) (v := .agg ?_) ?_ ?_ ?_ ?_; rotate_left 2; (· ((conv => lhs; whnf); try exact rfl)); (· rfl); (· intro w' hO'; refine run_opLoadS (b := ?_) (cs := ?_) (e := ?_) (f := ?_) hO' ?_ ?_ ?_ ?_; rotate_left 4; (· exact rfl); (· exact inferInstance); (· simp; done); (· simp; done)); simp only [Act.put, List.setIfInBounds_toArray, List.set_cons_zero, List.set_cons_succ])
      first | (refine sch_look (o := ?_) (v := ?_) ?_ ?_ ?_ ?_; rotate_left 2; (· ((conv => lhs; whnf); try exact rfl)); (· rfl); (· intro w' hO'; (have hF' := Own.cells hO'; simp only [cellsOf_append, cellsOf_pt] at hF'); go_simp; (try exact rfl)); simp only [Act.put, List.setIfInBounds_toArray, List.set_cons_zero, List.set_cons_succ]) | (refine sch_pass (o := ?_) ?_ ?_ ?_; rotate_left; (· ((conv => lhs; whnf); try exact rfl)); (· rfl); simp only [Act.put, List.setIfInBounds_toArray, List.set_cons_zero, List.set_cons_succ]) | (refine sch_look (o := ?_) (v := .agg ?_) ?_ ?_ ?_ ?_; rotate_left 2; (· ((conv => lhs; whnf); try exact rfl)); (· rfl); (· intro w' hO'; refine run_opLoadS (b := ?_) (cs := ?_) (e := ?_) (f := ?_) hO' ?_ ?_ ?_ ?_; rotate_left 4; (· exact rfl); (· exact inferInstance); (· simp; done); (· simp; done)); simp only [Act.put, List.setIfInBounds_toArray, List.set_cons_zero, List.set_cons_succ])
      first | (refine sch_look (o := ?_) (v := ?_) ?_ ?_ ?_ ?_; rotate_left 2; (· ((conv => lhs; whnf); try exact rfl)); (· rfl); (· intro w' hO'; (have hF' := Own.cells hO'; simp only [cellsOf_append, cellsOf_pt] at hF'); go_simp; (try exact rfl)); simp only [Act.put, List.setIfInBounds_toArray, List.set_cons_zero, List.set_cons_succ]) | (refine sch_pass (o := ?_) ?_ ?_ ?_; rotate_left; (· ((conv => lhs; whnf); try exact rfl)); (· rfl); simp only [Act.put, List.setIfInBounds_toArray, List.set_cons_zero, List.set_cons_succ]) | (refine sch_look (o := ?_) (v := .agg ?_) ?_ ?_ ?_ ?_; rotate_left 2; (· ((conv => lhs; whnf); try exact rfl)); (· rfl); (· intro w' hO'; refine run_opLoadS (b := ?_) (cs := ?_) (e := ?_) (f := ?_) hO' ?_ ?_ ?_ ?_; rotate_left 4; (· exact rfl); (· exact inferInstance); (· simp; done); (· simp; done)); simp only [Act.put, List.setIfInBounds_toArray, List.set_cons_zero, List.set_cons_succ])
      first | (refine sch_look (o := ?_) (v := ?_) ?_ ?_ ?_ ?_; rotate_left 2; (· ((conv => lhs; whnf); try exact rfl)); (· rfl); (· intro w' hO'; (have hF' := Own.cells hO'; simp only [cellsOf_append, cellsOf_pt] at hF'); go_simp; (try exact rfl)); simp only [Act.put, List.setIfInBounds_toArray, List.set_cons_zero, List.set_cons_succ]) | (refine sch_pass (o := ?_) ?_ ?_ ?_; rotate_left; (· ((conv => lhs; whnf); try exact rfl)); (· rfl); simp only [Act.put, List.setIfInBounds_toArray, List.set_cons_zero, List.set_cons_succ]) | (refine sch_look (o := ?_) (v := .agg ?_) ?_ ?_ ?_ ?_; rotate_left 2; (· ((conv => lhs; whnf); try exact rfl)); (· rfl); (· intro w' hO'; refine run_opLoadS (b := ?_) (cs := ?_) (e := ?_) (f := ?_) hO' ?_ ?_ ?_ ?_; rotate_left 4; (· exact rfl); (· exact inferInstance); (· simp; done); (· simp; done)); simp only [Act.put, List.setIfInBounds_toArray, List.set_cons_zero, List.set_cons_succ])
      refine sch_done ?_
      have hF := Own.cells hO; simp only [cellsOf_append, cellsOf_pt] at hF
      go_wp2_with (first | (refine at_rng ?_; go_must (refine own_range (kt := 3) (et := 33) (b := me) (l := pgsM xs) (by kernel_rfl) hO hE ?_ ?_ ?_; (· rfl); (· rfl); clear hO; (try clear hF); intro r _ B hR hO; ((try simp only [List.nil_append, List.append_nil] at hO); have hF := Own.cells hO; simp only [cellsOf_append, cellsOf_pt] at hF); simp only [Act.put, List.setIfInBounds_toArray, List.set_cons_zero, List.set_cons_succ])))
      replace hO := hO.as (pt b (.cells #[.bool true, .int .i64 most, .int .i64 T1.length, .map (some me), .map (some mw)] 56 (0, 0)) ++ (B ++ (MW ++ (pgsF xs ++ R))))
      have hO1 := hO
      clear hO hF
      go_loopw [2] (fun s2 wr => ∃ (done : List Int) (B : Fr) (z : Int), s2 = .int .i64 z ∧ ((done = [] ∧ z = -1) ∨ (0 ≤ z ∧ BestIn T1 done z)) ∧ Ranging r me (pgsM xs) done B ∧ Own E wr (pt b (.cells #[.bool true, .int .i64 most, .int .i64 T1.length, .map (some me), .map (some mw)] 56 (0, 0)) ++ (B ++ (MW ++ (pgsF xs ++ R))))) (fun _ w => xs.length - seenN w r)
      case atStart => exact ⟨[], B, -1, rfl, .inl ⟨rfl, rfl⟩, hR, hO1⟩
      case round =>
        clear hO1 hR
        obtain ⟨done, B, z, rfl, hz, hR, hO⟩ := hrel
        have HZ := Lib.hid hz
        have hseen := hR.seen hO
        have HSEEN := Lib.hid hseen
        clear hz hseen
        ((try simp only [List.nil_append, List.append_nil] at hO); have hF := Own.cells hO; simp only [cellsOf_append, cellsOf_pt] at hF)
        go_wp2_with (refine at_nxt ?_; go_must (refine own_nextV (r := r) (b := me) (l := pgsM xs) (done := done) hO hR ?_ ?_ ?_ ?_; (· rfl); (· rfl)))
        · intro hperm
          simp only [Act.put, List.setIfInBounds_toArray, List.set_cons_zero, List.set_cons_succ]
          rw [pgsM_keys] at hperm
          have hzb : 0 ≤ z ∧ BestIn T1 done z := by
            rcases HZ.out with ⟨h0, _⟩ | h
            · exfalso
              subst h0
              have h1 := hperm.length_eq
              have h2 : T1 ≠ [] := fun h => by have := HM.out; rw [h] at this; simp at this
              obtain ⟨t, ht⟩ := List.exists_mem_of_ne_nil _ h2
              have h3 := (pages_mem hok hT (pg t)).2 ⟨t, ht, rfl⟩
              have := hperm.mem_iff.2 h3
              cases this
            · exact h
          obtain ⟨hz0, hzi⟩ := hzb
          have hbest : Best T1 z := hzi.best fun q => by rw [hperm.mem_iff]; exact pages_mem hok hT q
          obtain ⟨gz, hgz, hgzp⟩ := List.mem_map.1 (hperm.mem_iff.1 hzi.ex)
          have hlz : mlook (pgsM xs) z = some (pgV gz) := by rw [← hgzp]; exact look_pgs hkn hgz
          have hcz := cnt_page hok hkn hT hI.t hgz
          rw [hgzp] at hcz
          have hzw : z ∉ W1 := by
            obtain ⟨t, ht, rfl⟩ := hbest.ex
            exact hI.tw t ht
          have hlw : mlook (wsM ws) z = none := look_ws_none fun h => hzw (hP.mem_iff.1 h)
          have hflt : (T1.filter fun t => pg t != z).length + gz.l.length = T1.length := by
            rw [← hcz]
            unfold cnt
            have h1 := filter_split (fun t => pg t == z) T1
            have h2 : (T1.filter fun t => !(pg t == z)) = T1.filter fun t => pg t != z := rfl
            rw [h2] at h1
            omega
          have hgzl : gz.l.length ≤ T1.length := by omega
          have hgne := (hok gz hgz).ne
          have hws : IntKind.i64.wrap ((T1.length : Int) - (gz.l.length : Int)) = ((T1.length - gz.l.length : Nat) : Int) := by
            rw [show (T1.length : Int) - (gz.l.length : Int) = ((T1.length - gz.l.length : Nat) : Int) by omega]
            exact wrap_n' _ (by omega)
          have HB := Lib.hid hbest
          have HFLT := Lib.hid hflt
          have HGZ := Lib.hid hgzl
          have HGL := Lib.hid (List.length_pos_iff.2 hgne)
          clear hperm hbest hcz hflt hzi hgzl hgne
          unfold pgV at hlz
          obtain ⟨I, M2, hM2, rfl⟩ := hR.back
          replace hO := hO.as (pt b (.cells #[.bool true, .int .i64 most, .int .i64 T1.length, .map (some me), .map (some mw)] 56 (0, 0)) ++ (M2 ++ (MW ++ (pgsF xs ++ R))))
          clear hF hR
          go_wp2_with fail
          (try (go_wp2_with fail))
          refine region_k (fun w' => Own E w' (pt b (.cells #[.bool true, .int .i64 most, .int .i64 T1.length, .map (some me), .map (some mw)] 56 (0, 0)) ++ M2)) 14 (.look 0 (.look 1 (.look 2 (.look 3 (.look 4 (.look 5 (.look 6 (.look 7 (.look 8 (.look 9 (.look 10 (.look 11 (.act 12 (.look 13 (.act 14 .done))))))))))))))) (by kernel_rfl) (by kernel_rfl) (fun _ _ d _ _ h => by cases d <;> exact h) ?_ ?_
          · exact hO.drew.as _
          replace hO := hO.drew
          generalize World.drew _ = wdr at hO ⊢
          first | (refine k_look (o := ?_) (v := ?_) ?_ ?_ ?_ ?_; rotate_left 2; (· ((conv => lhs; whnf); try exact rfl)); (· rfl); (· intro w' hO'; (have hF' := Own.cells hO'; simp only [cellsOf_append, cellsOf_pt] at hF'); go_simp; (try exact rfl)); simp only [Act.put, List.setIfInBounds_toArray, List.set_cons_zero, List.set_cons_succ]) | (refine k_pass (o := ?_) ?_ ?_ ?_; rotate_left; (· ((conv => lhs; whnf); try exact rfl)); (· rfl); simp only [Act.put, List.setIfInBounds_toArray, List.set_cons_zero, List.set_cons_succ]) | (refine k_look (o := ?_) (v := .agg ?_) ?_ ?_ ?_ ?_; rotate_left 2; (· ((conv => lhs; whnf); try exact rfl)); (· rfl); (· intro w' hO'; refine run_opLoadS (b := ?_) (cs := ?_) (e := ?_) (f := ?_) hO' ?_ ?_ ?_ ?_; rotate_left 4; (· exact rfl); (· exact inferInstance); (· simp; done); (· simp; done)); simp only [Act.put, List.setIfInBounds_toArray, List.set_cons_zero, List.set_cons_succ])
          first | (refine k_look (o := ?_) (v := ?_) ?_ ?_ ?_ ?_; rotate_left 2; (· ((conv => lhs; whnf); try exact rfl)); (· rfl); (· intro w' hO'; (have hF' := Own.cells hO'; simp only [cellsOf_append, cellsOf_pt] at hF'); go_simp; (try exact rfl)); simp only [Act.put, List.setIfInBounds_toArray, List.set_cons_zero, List.set_cons_succ]) | (refine k_pass (o := ?_) ?_ ?_ ?_; rotate_left; (· ((conv => lhs; whnf); try exact rfl)); (· rfl); simp only [Act.put, List.setIfInBounds_toArray, List.set_cons_zero, List.set_cons_succ]) | (refine k_look (o := ?_) (v := .agg ?_) ?_ ?_ ?_ ?_; rotate_left 2; (· ((conv => lhs; whnf); try exact rfl)); (· rfl); (· intro w' hO'; refine run_opLoadS (b := ?_) (cs := ?_) (e := ?_) (f := ?_) hO' ?_ ?_ ?_ ?_; rotate_left 4; (· exact rfl); (· exact inferInstance); (· simp; done); (· simp; done)); simp only [Act.put, List.setIfInBounds_toArray, List.set_cons_zero, List.set_cons_succ])
          first | (refine k_look (o := ?_) (v := ?_) ?_ ?_ ?_ ?_; rotate_left 2; (· ((conv => lhs; whnf); try exact rfl)); (· rfl); (· intro w' hO'; (have hF' := Own.cells hO'; simp only [cellsOf_append, cellsOf_pt] at hF'); go_simp; (try exact rfl)); simp only [Act.put, List.setIfInBounds_toArray, List.set_cons_zero, List.set_cons_succ]) | (refine k_pass (o := ?_) ?_ ?_ ?_; rotate_left; (· ((conv => lhs; whnf); try exact rfl)); (· rfl); simp only [Act.put, List.setIfInBounds_toArray, List.set_cons_zero, List.set_cons_succ]) | (refine k_look (o := ?_) (v := .agg ?_) ?_ ?_ ?_ ?_; rotate_left 2; (· ((conv => lhs; whnf); try exact rfl)); (· rfl); (· intro w' hO'; refine run_opLoadS (b := ?_) (cs := ?_) (e := ?_) (f := ?_) hO' ?_ ?_ ?_ ?_; rotate_left 4; (· exact rfl); (· exact inferInstance); (· simp; done); (· simp; done)); simp only [Act.put, List.setIfInBounds_toArray, List.set_cons_zero, List.set_cons_succ])
          first | (refine k_look (o := ?_) (v := ?_) ?_ ?_ ?_ ?_; rotate_left 2; (· ((conv => lhs; whnf); try exact rfl)); (· rfl); (· intro w' hO'; (have hF' := Own.cells hO'; simp only [cellsOf_append, cellsOf_pt] at hF'); go_simp; (try exact rfl)); simp only [Act.put, List.setIfInBounds_toArray, List.set_cons_zero, List.set_cons_succ]) | (refine k_pass (o := ?_) ?_ ?_ ?_; rotate_left; (· ((conv => lhs; whnf); try exact rfl)); (· rfl); simp only [Act.put, List.setIfInBounds_toArray, List.set_cons_zero, List.set_cons_succ]) | (refine k_look (o := ?_) (v := .agg ?_) ?_ ?_ ?_ ?_; rotate_left 2; (· ((conv => lhs; whnf); try exact rfl)); (· rfl); (· intro w' hO'; refine run_opLoadS (b := ?_) (cs := ?_) (e := ?_) (f := ?_) hO' ?_ ?_ ?_ ?_; rotate_left 4; (· exact rfl); (· exact inferInstance); (· simp; done); (· simp; done)); simp only [Act.put, List.setIfInBounds_toArray, List.set_cons_zero, List.set_cons_succ])
          first | (refine k_look (o := ?_) (v := ?_) ?_ ?_ ?_ ?_; rotate_left 2; (· ((conv => lhs; whnf); try exact rfl)); (· rfl); (· intro w' hO'; (have hF' := Own.cells hO'; simp only [cellsOf_append, cellsOf_pt] at hF'); go_simp; (try exact rfl)); simp only [Act.put, List.setIfInBounds_toArray, List.set_cons_zero, List.set_cons_succ]) | (refine k_pass (o := ?_) ?_ ?_ ?_; rotate_left; (· ((conv => lhs; whnf); try exact rfl)); (· rfl); simp only [Act.put, List.setIfInBounds_toArray, List.set_cons_zero, List.set_cons_succ]) | (refine k_look (o := ?_) (v := .agg ?_) ?_ ?_ ?_ ?_; rotate_left 2; (· ((conv => lhs; whnf); try exact rfl)); (· rfl); (· intro w' hO'; refine run_opLoadS (b := ?_) (cs := ?_) (e := ?_) (f := ?_) hO' ?_ ?_ ?_ ?_; rotate_left 4; (· exact rfl); (· exact inferInstance); (· simp; done); (· simp; done)); simp only [Act.put, List.setIfInBounds_toArray, List.set_cons_zero, List.set_cons_succ])
          first | (refine k_look (o := ?_) (v := ?_) ?_ ?_ ?_ ?_; rotate_left 2; (· ((conv => lhs; whnf); try exact rfl)); (· rfl); (· intro w' hO'; (have hF' := Own.cells hO'; simp only [cellsOf_append, cellsOf_pt] at hF'); go_simp; (try exact rfl)); simp only [Act.put, List.setIfInBounds_toArray, List.set_cons_zero, List.set_cons_succ]) | (refine k_pass (o := ?_) ?_ ?_ ?_; rotate_left; (· ((conv => lhs; whnf); try exact rfl)); (· rfl); simp only [Act.put, List.setIfInBounds_toArray, List.set_cons_zero, List.set_cons_succ]) | (refine k_look (o := ?_) (v := .agg ?_) ?_ ?_ ?_ ?_; rotate_left 2; (· ((conv => lhs; whnf); try exact rfl)); (· rfl); (· intro w' hO'; refine run_opLoadS (b := ?_) (cs := ?_) (e := ?_) (f := ?_) hO' ?_ ?_ ?_ ?_; rotate_left 4; (· exact rfl); (· exact inferInstance); (· simp; done); (· simp; done)); simp only [Act.put, List.setIfInBounds_toArray, List.set_cons_zero, List.set_cons_succ])
          first | (refine k_look (o := ?_) (v := ?_) ?_ ?_ ?_ ?_; rotate_left 2; (· ((conv => lhs; whnf); try exact rfl)); (· rfl); (· intro w' hO'; (have hF' := Own.cells hO'; simp only [cellsOf_append, cellsOf_pt] at hF'); go_simp; (try exact rfl)); simp only [Act.put, List.setIfInBounds_toArray, List.set_cons_zero, List.set_cons_succ]) | (refine k_pass (o := ?_) ?_ ?_ ?_; rotate_left; (· ((conv => lhs; whnf); try exact rfl)); (· rfl); simp only [Act.put, List.setIfInBounds_toArray, List.set_cons_zero, List.set_cons_succ]) | (refine k_look (o := ?_) (v := .agg ?_) ?_ ?_ ?_ ?_; rotate_left 2; (· ((conv => lhs; whnf); try exact rfl)); (· rfl); (· intro w' hO'; refine run_opLoadS (b := ?_) (cs := ?_) (e := ?_) (f := ?_) hO' ?_ ?_ ?_ ?_; rotate_left 4; (· exact rfl); (· exact inferInstance); (· simp; done); (· simp; done)); simp only [Act.put, List.setIfInBounds_toArray, List.set_cons_zero, List.set_cons_succ])
          first | (refine k_look (o := ?_) (v := ?_) ?_ ?_ ?_ ?_; rotate_left 2; (· ((conv => lhs; whnf); try exact rfl)); (· rfl); (· intro w' hO'; (have hF' := Own.cells hO'; simp only [cellsOf_append, cellsOf_pt] at hF'); go_simp; (try exact rfl)); simp only [Act.put, List.setIfInBounds_toArray, List.set_cons_zero, List.set_cons_succ]) | (refine k_pass (o := ?_) ?_ ?_ ?_; rotate_left; (· ((conv => lhs; whnf); try exact rfl)); (· rfl); simp only [Act.put, List.setIfInBounds_toArray, List.set_cons_zero, List.set_cons_succ]) | (refine k_look (o := ?_) (v := .agg ?_) ?_ ?_ ?_ ?_; rotate_left 2; (· ((conv => lhs; whnf); try exact rfl)); (· rfl); (· intro w' hO'; refine run_opLoadS (b := ?_) (cs := ?_) (e := ?_) (f := ?_) hO' ?_ ?_ ?_ ?_; rotate_left 4; (· exact rfl); (· exact inferInstance); (· simp; done); (· simp; done)); simp only [Act.put, List.setIfInBounds_toArray, List.set_cons_zero, List.set_cons_succ])
          first | (refine k_look (o := ?_) (v := ?_) ?_ ?_ ?_ ?_; rotate_left 2; (· ((conv => lhs; whnf); try exact rfl)); (· rfl); (· intro w' hO'; (have hF' := Own.cells hO'; simp only [cellsOf_append, cellsOf_pt] at hF'); go_simp; (try exact rfl)); simp only [Act.put, List.setIfInBounds_toArray, List.set_cons_zero, List.set_cons_succ]) | (refine k_pass (o := ?_) ?_ ?_ ?_; rotate_left; (· ((conv => lhs; whnf); try exact rfl)); (· rfl); simp only [Act.put, List.setIfInBounds_toArray, List.set_cons_zero, List.set_cons_succ]) | (refine k_look (o := ?_) (v := .agg ?_) ?_ ?_ ?_ ?_; rotate_left 2; (· ((conv => lhs; whnf); try exact rfl)); (· rfl); (· intro w' hO'; refine run_opLoadS (b := ?_) (cs := ?_) (e := ?_) (f := ?_) hO' ?_ ?_ ?_ ?_; rotate_left 4; (· exact rfl); (· exact inferInstance); (· simp; done); (· simp; done)); simp only [Act.put, List.setIfInBounds_toArray, List.set_cons_zero, List.set_cons_succ])
          (refine k_look (o := ?_) (v := .slice gz.a gz.l.length gz.cap) ?_ ?_ ?_ ?_; rotate_left; (· ((conv => lhs; whnf); try exact rfl)); (· rfl); (· intro w' hO'; exact run_opLookup (kt := 3) (et := 33) (k := z) (by kernel_rfl) (by kernel_rfl) zeroInts hO' hM2 rfl rfl hlz); simp only [Act.put, List.setIfInBounds_toArray, List.set_cons_zero, List.set_cons_succ])
          first | (refine k_look (o := ?_) (v := ?_) ?_ ?_ ?_ ?_; rotate_left 2; (· ((conv => lhs; whnf); try exact rfl)); (· rfl); (· intro w' hO'; (have hF' := Own.cells hO'; simp only [cellsOf_append, cellsOf_pt] at hF'); go_simp; (try exact rfl)); simp only [Act.put, List.setIfInBounds_toArray, List.set_cons_zero, List.set_cons_succ]) | (refine k_pass (o := ?_) ?_ ?_ ?_; rotate_left; (· ((conv => lhs; whnf); try exact rfl)); (· rfl); simp only [Act.put, List.setIfInBounds_toArray, List.set_cons_zero, List.set_cons_succ]) | (refine k_look (o := ?_) (v := .agg ?_) ?_ ?_ ?_ ?_; rotate_left 2; (· ((conv => lhs; whnf); try exact rfl)); (· rfl); (· intro w' hO'; refine run_opLoadS (b := ?_) (cs := ?_) (e := ?_) (f := ?_) hO' ?_ ?_ ?_ ?_; rotate_left 4; (· exact rfl); (· exact inferInstance); (· simp; done); (· simp; done)); simp only [Act.put, List.setIfInBounds_toArray, List.set_cons_zero, List.set_cons_succ])
          first | (refine k_look (o := ?_) (v := ?_) ?_ ?_ ?_ ?_; rotate_left 2; (· ((conv => lhs; whnf); try exact rfl)); (· rfl); (· intro w' hO'; (have hF' := Own.cells hO'; simp only [cellsOf_append, cellsOf_pt] at hF'); go_simp; (try exact rfl)); simp only [Act.put, List.setIfInBounds_toArray, List.set_cons_zero, List.set_cons_succ]) | (refine k_pass (o := ?_) ?_ ?_ ?_; rotate_left; (· ((conv => lhs; whnf); try exact rfl)); (· rfl); simp only [Act.put, List.setIfInBounds_toArray, List.set_cons_zero, List.set_cons_succ]) | (refine k_look (o := ?_) (v := .agg ?_) ?_ ?_ ?_ ?_; rotate_left 2; (· ((conv => lhs; whnf); try exact rfl)); (· rfl); (· intro w' hO'; refine run_opLoadS (b := ?_) (cs := ?_) (e := ?_) (f := ?_) hO' ?_ ?_ ?_ ?_; rotate_left 4; (· exact rfl); (· exact inferInstance); (· simp; done); (· simp; done)); simp only [Act.put, List.setIfInBounds_toArray, List.set_cons_zero, List.set_cons_succ])
          (refine k_act (o := ?_) ?_ ?_; rotate_left; (· ((conv => lhs; whnf); try exact rfl)))
          go_wp2_with fail
          refine ⟨hO.as _, ?_⟩
          first | (refine k_look (o := ?_) (v := ?_) ?_ ?_ ?_ ?_; rotate_left 2; (· ((conv => lhs; whnf); try exact rfl)); (· rfl); (· intro w' hO'; (have hF' := Own.cells hO'; simp only [cellsOf_append, cellsOf_pt] at hF'); go_simp; (try exact rfl)); simp only [Act.put, List.setIfInBounds_toArray, List.set_cons_zero, List.set_cons_succ]) | (refine k_pass (o := ?_) ?_ ?_ ?_; rotate_left; (· ((conv => lhs; whnf); try exact rfl)); (· rfl); simp only [Act.put, List.setIfInBounds_toArray, List.set_cons_zero, List.set_cons_succ]) | (refine k_look (o := ?_) (v := .agg ?_) ?_ ?_ ?_ ?_; rotate_left 2; (· ((conv => lhs; whnf); try exact rfl)); (· rfl); (· intro w' hO'; refine run_opLoadS (b := ?_) (cs := ?_) (e := ?_) (f := ?_) hO' ?_ ?_ ?_ ?_; rotate_left 4; (· exact rfl); (· exact inferInstance); (· simp; done); (· simp; done)); simp only [Act.put, List.setIfInBounds_toArray, List.set_cons_zero, List.set_cons_succ])
          (refine k_act (o := ?_) ?_ ?_; rotate_left; (· ((conv => lhs; whnf); try exact rfl)))
          go_wp2_with (first | (refine own_store (v := ?_) (off := 2) (b := b) hO ?_ ?_ ?_ ?_ ?_ ?_ ?_; rotate_left; (· rfl); (· ((conv => lhs; whnf); try exact rfl)); (· ((conv => lhs; whnf); try exact rfl)); (· simp [Value.cells]); (· simp [Value.cells, Value.oneCell']); (· simp [Value.cells]); clear hO; (try clear hF); intro _ hO; (try simp only [splice, Value.cells] at hO); ((try simp only [List.nil_append, List.append_nil] at hO); have hF := Own.cells hO; simp only [cellsOf_append, cellsOf_pt] at hF); simp only [Act.put, List.setIfInBounds_toArray, List.set_cons_zero, List.set_cons_succ]))
          refine k_done ?_
          (try simp only [splice, Value.cells, List.setIfInBounds_toArray, List.set_cons_zero, List.set_cons_succ] at hO)
          (try simp only [hws] at hO)
          go_wp2_with (first
            | (refine at_del ?_; go_must (refine own_mapDelete (kt := 3) (et := 33) (b := me) (k := z) (by kernel_rfl) (by kernel_rfl) hO hM2 ?_ ?_ ?_ hlz ?_; (· rfl); (· rfl); (· rfl); clear hO; (try clear hF); intro w4 ME2 hE2 hO; ((try simp only [List.nil_append, List.append_nil] at hO); have hF := Own.cells hO; simp only [cellsOf_append, cellsOf_pt] at hF); simp only [Act.put, List.setIfInBounds_toArray, List.set_cons_zero, List.set_cons_succ]))
            | (refine at_mapup ?_; go_must (refine own_mapNew (kt := 3) (et := 4) (b := mw) (k := z) (v := .bool true) (by kernel_rfl) (by kernel_rfl) hO hW ?_ ?_ ?_ ?_ hlw ?_; (· rfl); (· rfl); (· rfl); (· rfl); clear hO; (try clear hF); intro w5 MW2 hW2 hO; ((try simp only [List.nil_append, List.append_nil] at hO); have hF := Own.cells hO; simp only [cellsOf_append, cellsOf_pt] at hF); simp only [Act.put, List.setIfInBounds_toArray, List.set_cons_zero, List.set_cons_succ])))
          obtain ⟨pre, post, rfl⟩ := psplit hgz
          subst hgzp
          have hT2l : (T1.filter fun t => pg t != gz.p).length = T1.length - gz.l.length := by have := HFLT.out; omega
          go_roundw
          case rel =>
            refine ⟨T1.filter fun t => pg t != gz.p, ins gz.p W1, _, hI.step HB.out.ex, by omega, fun T' W' h => hD T' W' (.step HM.out HB.out h), ⟨me, mw, pre ++ post, ws ++ [gz.p], ME2, MW2, ?_, ?_, fun h hh => ?_, flat_filter hok hkn hT, ?_, rfl⟩, ?_⟩
            · rw [← filter_pgs hkn]
              exact hE2
            · rw [wsM_snoc]
              exact hW2
            · rcases List.mem_append.1 hh with hh | hh
              · exact hok h (List.mem_append.2 (.inl hh))
              · exact hok h (List.mem_append.2 (.inr (List.mem_cons_of_mem _ hh)))
            · refine List.Perm.trans ?_ (ins_perm hI.w hzw).symm
              exact List.perm_append_comm.trans (hP.cons gz.p)
            · rw [hT2l, pgsF_app]
              rw [pgsF_app, pgsF_cons] at hO
              unfold setF
              have := hO.as (pt b (.cells #[.bool true, .int .i64 most, .int .i64 ((T1.length - gz.l.length : Nat) : Int), .map (some me), .map (some mw)] 56 (0, 0)) ++ (ME2 ++ (MW2 ++ (pgsF pre ++ pgsF post))) ++ R)
              exact this
          case measure =>
            rw [HCELL.out]
            unfold cellN
            rw [hF.2.2.1.1 2]
            have h1 := HGL.out
            have h2 := HGZ.out
            simp
            omega
        · intro k v w2 A2 hkv hR2 hO hen
          simp only [Act.put, List.setIfInBounds_toArray, List.set_cons_zero, List.set_cons_succ]
          obtain ⟨g, hg, hgkv⟩ := List.mem_map.1 hkv
          obtain ⟨rfl, rfl⟩ := Prod.mk.inj hgkv
          unfold pgV at hen
          have hcg := cnt_page hok hkn hT hI.t hg
          have hle := hR2.le
          have hseen2 := hR2.seen hO
          have hxl : (pgsM xs).length = xs.length := by unfold pgsM; rw [List.length_map]
          have hdl : (done ++ [g.p]).length = done.length + 1 := by simp
          have HSEEN2 := Lib.hid hseen2
          have HLE := Lib.hid hle
          have HCG := Lib.hid hcg
          have hgl : g.l.length ≤ T1.length := by
            have := len_flat (List.mem_map_of_mem (f := Pg.l) hg)
            rw [hT.length_eq] at this
            exact this
          clear hle hseen2 hcg hF hgkv hkv
          have hgp0 : 0 ≤ g.p := by
            obtain ⟨t, ht⟩ := List.exists_mem_of_ne_nil _ (hok g hg).ne
            rw [← (hok g hg).on t ht]
            have := hI.tb t (hT.mem_iff.1 (List.mem_flatten.2 ⟨g.l, List.mem_map.2 ⟨g, hg, rfl⟩, ht⟩))
            unfold pg
            omega
          obtain ⟨I, M2, hM2, rfl⟩ := hR2.back
          replace hO := hO.as (pt b (.cells #[.bool true, .int .i64 most, .int .i64 T1.length, .map (some me), .map (some mw)] 56 (0, 0)) ++ ((I ++ M2) ++ (MW ++ (pgsF xs ++ R))))
          ((try simp only [List.nil_append, List.append_nil] at hO); have hF := Own.cells hO; simp only [cellsOf_append, cellsOf_pt] at hF)
          by_cases hd : done = []
          · have hzm : z = -1 := by
              rcases HZ.out with ⟨_, h⟩ | ⟨_, h⟩
              · exact h
              · exfalso; have := h.ex; rw [hd] at this; cases this
            subst hzm
            go_wp2_with fail
            go_roundw
            case rel =>
              refine ⟨done ++ [g.p], I ++ M2, g.p, rfl, .inr ⟨hgp0, ?_⟩, hR2, hO⟩
              rw [hd]
              exact BestIn.one _ _
            case measure => rw [HSEEN2.out, HSEEN.out]; have := HLE.out; omega
          · have hzi : 0 ≤ z ∧ BestIn T1 done z := by
              rcases HZ.out with ⟨h, _⟩ | h
              · exact absurd h hd
              · exact h
            obtain ⟨hz0, hzi⟩ := hzi
            have hzk : z ∈ xs.map Pg.p := by
              have := hR2.nodup.2 z (List.mem_append.2 (.inl hzi.ex))
              rwa [pgsM_keys] at this
            obtain ⟨gz, hgz, rfl⟩ := List.mem_map.1 hzk
            have hlz := look_pgs hkn hgz
            have hcz := cnt_page hok hkn hT hI.t hgz
            have hgzl : gz.l.length ≤ T1.length := by
              have := len_flat (List.mem_map_of_mem (f := Pg.l) hgz)
              rw [hT.length_eq] at this
              exact this
            have HZI := Lib.hid hzi
            have HCZ := Lib.hid hcz
            clear hzi hcz hd hzk
            unfold pgV at hlz
            have hzd : decide (gz.p < 0) = false := by simp; omega
            by_cases hc1 : gz.l.length < g.l.length
            · have hc1i : decide ((gz.l.length : Int) < g.l.length) = true := by simp; omega
              go_wp2_with (first | (refine at_lookup ?_; go_must (refine own_lookup (kt := 3) (et := 33) (b := me) (k := gz.p) (l := pgsM xs) (by kernel_rfl) (by kernel_rfl) zeroInts hO hM2 ?_ ?_ ?_ ?_; (· rfl); (· rfl); (· rfl); rw [hlz]; simp only [Option.getD_some]; simp only [Act.put, List.setIfInBounds_toArray, List.set_cons_zero, List.set_cons_succ])))
              go_roundw
              case rel => exact ⟨done ++ [g.p], I ++ M2, g.p, rfl, .inr ⟨hgp0, HZI.out.more (.inl (by rw [HCZ.out, HCG.out]; exact hc1))⟩, hR2, hO⟩
              case measure => rw [HSEEN2.out, HSEEN.out]; have := HLE.out; omega
            · have hc1i : decide ((gz.l.length : Int) < g.l.length) = false := by simp; omega
              by_cases hc2 : g.l.length = gz.l.length
              · have hc2i : ((g.l.length : Int) == (gz.l.length : Int)) = true := by rw [hc2]; simp
                have HC2 := Lib.hid hc2
                clear hc2
                by_cases hc3 : g.p < gz.p
                · have hc3i : decide (g.p < gz.p) = true := by simpa using hc3
                  go_wp2_with (first | (refine at_lookup ?_; go_must (refine own_lookup (kt := 3) (et := 33) (b := me) (k := gz.p) (l := pgsM xs) (by kernel_rfl) (by kernel_rfl) zeroInts hO hM2 ?_ ?_ ?_ ?_; (· rfl); (· rfl); (· rfl); rw [hlz]; simp only [Option.getD_some]; simp only [Act.put, List.setIfInBounds_toArray, List.set_cons_zero, List.set_cons_succ])))
                  go_roundw
                  case rel => exact ⟨done ++ [g.p], I ++ M2, g.p, rfl, .inr ⟨hgp0, HZI.out.more (.inr ⟨by rw [HCZ.out, HCG.out, HC2.out], hc3⟩)⟩, hR2, hO⟩
                  case measure => rw [HSEEN2.out, HSEEN.out]; have := HLE.out; omega
                · have hc3i : decide (g.p < gz.p) = false := by simpa using hc3
                  go_wp2_with (first | (refine at_lookup ?_; go_must (refine own_lookup (kt := 3) (et := 33) (b := me) (k := gz.p) (l := pgsM xs) (by kernel_rfl) (by kernel_rfl) zeroInts hO hM2 ?_ ?_ ?_ ?_; (· rfl); (· rfl); (· rfl); rw [hlz]; simp only [Option.getD_some]; simp only [Act.put, List.setIfInBounds_toArray, List.set_cons_zero, List.set_cons_succ])))
                  go_roundw
                  case rel => exact ⟨done ++ [g.p], I ++ M2, gz.p, rfl, .inr ⟨hz0, HZI.out.stay (by rw [HCZ.out, HCG.out]; omega)⟩, hR2, hO⟩
                  case measure => rw [HSEEN2.out, HSEEN.out]; have := HLE.out; omega
              · have hc2i : ((g.l.length : Int) == (gz.l.length : Int)) = false := by simp; omega
                go_wp2_with (first | (refine at_lookup ?_; go_must (refine own_lookup (kt := 3) (et := 33) (b := me) (k := gz.p) (l := pgsM xs) (by kernel_rfl) (by kernel_rfl) zeroInts hO hM2 ?_ ?_ ?_ ?_; (· rfl); (· rfl); (· rfl); rw [hlz]; simp only [Option.getD_some]; simp only [Act.put, List.setIfInBounds_toArray, List.set_cons_zero, List.set_cons_succ])))
                go_roundw
                case rel => exact ⟨done ++ [g.p], I ++ M2, gz.p, rfl, .inr ⟨hz0, HZI.out.stay (by rw [HCZ.out, HCG.out]; omega)⟩, hR2, hO⟩
                case measure => rw [HSEEN2.out, HSEEN.out]; have := HLE.out; omega
    · have hm1 : ¬ (most : Int) < T1.length := by omega
      have HM := Lib.hid hm
      clear hm
      go_wp2_with fail
      (try (go_wp2_with fail))
      refine region_schO hO (.look 0 (.look 1 (.look 2 (.look 3 (.look 4 (.look 5 (.look 6 (.look 7 (.look 8 .done))))))))) (by kernel_rfl) (by kernel_rfl) (fun _ _ d _ _ h => by cases d <;> exact h) ?_
      clear hO; (try clear hF); intro _ hO
      first | (refine sch_look (o := ?_) (v := ?_) ?_ ?_ ?_ ?_; rotate_left 2; (· ((conv => lhs; whnf); try exact rfl)); (· rfl); (· intro w' hO'; (have hF' := Own.cells hO'; simp only [cellsOf_append, cellsOf_pt] at hF'); go_simp; (try exact rfl)); simp only [Act.put, List.setIfInBounds_toArray, List.set_cons_zero, List.set_cons_succ]) | (refine sch_pass (o := ?_) ?_ ?_ ?_; rotate_left; (· ((conv => lhs; whnf); try exact rfl)); (· rfl); simp only [Act.put, List.setIfInBounds_toArray, List.set_cons_zero, List.set_cons_succ]) | (refine sch_look (o := ?_) (v := .agg ?_) ?_ ?_ ?_ ?_; rotate_left 2; (· ((conv => lhs; whnf); try exact rfl)); (· rfl); (· intro w' hO'; refine run_opLoadS (b := ?_) (cs := ?_) (e := ?_) (f := ?_) hO' ?_ ?_ ?_ ?_; rotate_left 4; (· exact rfl); (· exact inferInstance); (· simp; done); (· simp; done)); simp only [Act.put, List.setIfInBounds_toArray, List.set_cons_zero, List.set_cons_succ])
      first | (refine sch_look (o := ?_) (v := ?_) ?_ ?_ ?_ ?_; rotate_left 2; (· ((conv => lhs; whnf); try exact rfl)); (· rfl); (· intro w' hO'; (have hF' := Own.cells hO'; simp only [cellsOf_append, cellsOf_pt] at hF'); go_simp; (try exact rfl)); simp only [Act.put, List.setIfInBounds_toArray, List.set_cons_zero, List.set_cons_succ]) | (refine sch_pass (o := ?_) ?_ ?_ ?_; rotate_left; (· ((conv => lhs; whnf); try exact rfl)); (· rfl); simp only [Act.put, List.setIfInBounds_toArray, List.set_cons_zero, List.set_cons_succ]) | (refine sch_look (o := ?_) (v := .agg ?_) ?_ ?_ ?_ ?_; rotate_left 2; (· ((conv => lhs; whnf); try exact rfl)); (· rfl); (· intro w' hO'; refine run_opLoadS (b := ?_) (cs := ?_) (e := ?_) (f := ?_) hO' ?_ ?_ ?_ ?_; rotate_left 4; (· exact rfl); (· exact inferInstance); (· simp; done); (· simp; done)); simp only [Act.put, List.setIfInBounds_toArray, List.set_cons_zero, List.set_cons_succ])
      first | (refine sch_look (o := ?_) (v := ?_) ?_ ?_ ?_ ?_; rotate_left 2; (· ((conv => lhs; whnf); try exact rfl)); (· rfl); (· intro w' hO'; (have hF' := Own.cells hO'; simp only [cellsOf_append, cellsOf_pt] at hF'); go_simp; (try exact rfl)); simp only [Act.put, List.setIfInBounds_toArray, List.set_cons_zero, List.set_cons_succ]) | (refine sch_pass (o := ?_) ?_ ?_ ?_; rotate_left; (· ((conv => lhs; whnf); try exact rfl)); (· rfl); simp only [Act.put, List.setIfInBounds_toArray, List.set_cons_zero, List.set_cons_succ]) | (refine sch_look (o := ?_) (v := .agg ?_) ?_ ?_ ?_ ?_; rotate_left 2; (· ((conv => lhs; whnf); try exact rfl)); (· rfl); (· intro w' hO'; refine run_opLoadS (b := ?_) (cs := ?_) (e := ?_) (f := ?_) hO' ?_ ?_ ?_ ?_; rotate_left 4; (· exact rfl); (· exact inferInstance); (· simp; done); (· simp; done)); simp only [Act.put, List.setIfInBounds_toArray, List.set_cons_zero, List.set_cons_succ])
      first | (refine sch_look (o := ?_) (v := ?_) ?_ ?_ ?_ ?_; rotate_left 2; (· ((conv => lhs; whnf); try exact rfl)); (· rfl); (· intro w' hO'; (have hF' := Own.cells hO'; simp only [cellsOf_append, cellsOf_pt] at hF'); go_simp; (try exact rfl)); simp only [Act.put, List.setIfInBounds_toArray, List.set_cons_zero, List.set_cons_succ]) | (refine sch_pass (o := ?_) ?_ ?_ ?_; rotate_left; (· ((conv => lhs; whnf); try exact rfl)); (· rfl); simp only [Act.put, List.setIfInBounds_toArray, List.set_cons_zero, List.set_cons_succ]) | (refine sch_look (o := ?_) (v := .agg ?_) ?_ ?_ ?_ ?_; rotate_left 2; (· ((conv => lhs; whnf); try exact rfl)); (· rfl); (· intro w' hO'; refine run_opLoadS (b := ?_) (cs := ?_) (e := ?_) (f := ?_) hO' ?_ ?_ ?_ ?_; rotate_left 4; (· exact rfl); (· exact inferInstance); (· simp; done); (· simp; done)); simp only [Act.put, List.setIfInBounds_toArray, List.set_cons_zero, List.set_cons_succ])
      first | (refine sch_look (o := ?_) (v := ?_) ?_ ?_ ?_ ?_; rotate_left 2; (· ((conv => lhs; whnf); try exact rfl)); (· rfl); (· intro w' hO'; (have hF' := Own.cells hO'; simp only [cellsOf_append, cellsOf_pt] at hF'); go_simp; (try exact rfl)); simp only [Act.put, List.setIfInBounds_toArray, List.set_cons_zero, List.set_cons_succ]) | (refine sch_pass (o := ?_) ?_ ?_ ?_; rotate_left; (· ((conv => lhs; whnf); try exact rfl)); (· rfl); simp only [Act.put, List.setIfInBounds_toArray, List.set_cons_zero, List.set_cons_succ]) | (refine sch_look (o := ?_) (v := .agg ?_) ?_ ?_ ?_ ?_; rotate_left 2; (· ((conv => lhs; whnf); try exact rfl)); (· rfl); (· intro w' hO'; refine run_opLoadS (b := ?_) (cs := ?_) (e := ?_) (f := ?_) hO' ?_ ?_ ?_ ?_; rotate_left 4; (· exact rfl); (· exact inferInstance); (· simp; done); (· simp; done)); simp only [Act.put, List.setIfInBounds_toArray, List.set_cons_zero, List.set_cons_succ])
      first | (refine sch_look (o := ?_) (v := ?_) ?_ ?_ ?_ ?_; rotate_left 2; (· ((conv => lhs; whnf); try exact rfl)); (· rfl); (· intro w' hO'; (have hF' := Own.cells hO'; simp only [cellsOf_append, cellsOf_pt] at hF'); go_simp; (try exact rfl)); simp only [Act.put, List.setIfInBounds_toArray, List.set_cons_zero, List.set_cons_succ]) | (refine sch_pass (o := ?_) ?_ ?_ ?_; rotate_left; (· ((conv => lhs; whnf); try exact rfl)); (· rfl); simp only [Act.put, List.setIfInBounds_toArray, List.set_cons_zero, List.set_cons_succ]) | (refine sch_look (o := ?_) (v := .agg ?_) ?_ ?_ ?_ ?_; rotate_left 2; (· ((conv => lhs; whnf); try exact rfl)); (· rfl); (· intro w' hO'; refine run_opLoadS (b := ?_) (cs := ?_) (e := ?_) (f := ?_) hO' ?_ ?_ ?_ ?_; rotate_left 4; (· exact rfl); (· exact inferInstance); (· simp; done); (· simp; done)); simp only [Act.put, List.setIfInBounds_toArray, List.set_cons_zero, List.set_cons_succ])
      first | (refine sch_look (o := ?_) (v := ?_) ?_ ?_ ?_ ?_; rotate_left 2; (· ((conv => lhs; whnf); try exact rfl)); (· rfl); (· intro w' hO'; (have hF' := Own.cells hO'; simp only [cellsOf_append, cellsOf_pt] at hF'); go_simp; (try exact rfl)); simp only [Act.put, List.setIfInBounds_toArray, List.set_cons_zero, List.set_cons_succ]) | (refine sch_pass (o := ?_) ?_ ?_ ?_; rotate_left; (· ((conv => lhs; whnf); try exact rfl)); (· rfl); simp only [Act.put, List.setIfInBounds_toArray, List.set_cons_zero, List.set_cons_succ]) | (refine sch_look (o := ?_) (v := .agg ?_) ?_ ?_ ?_ ?_; rotate_left 2; (· ((conv => lhs; whnf); try exact rfl)); (· rfl); (· intro w' hO'; refine run_opLoadS (b := ?_) (cs := ?_) (e := ?_) (f := ?_) hO' ?_ ?_ ?_ ?_; rotate_left 4; (· exact rfl); (· exact inferInstance); (· simp; done); (· simp; done)); simp only [Act.put, List.setIfInBounds_toArray, List.set_cons_zero, List.set_cons_succ])
      first | (refine sch_look (o := ?_) (v := ?_) ?_ ?_ ?_ ?_; rotate_left 2; (· ((conv => lhs; whnf); try exact rfl)); (· rfl); (· intro w' hO'; (have hF' := Own.cells hO'; simp only [cellsOf_append, cellsOf_pt] at hF'); go_simp; (try exact rfl)); simp only [Act.put, List.setIfInBounds_toArray, List.set_cons_zero, List.set_cons_succ]) | (refine sch_pass (o := ?_) ?_ ?_ ?_; rotate_left; (· ((conv => lhs; whnf); try exact rfl)); (· rfl); simp only [Act.put, List.setIfInBounds_toArray, List.set_cons_zero, List.set_cons_succ]) | (refine sch_look (o := ?_) (v := .agg ?_) ?_ ?_ ?_ ?_; rotate_left 2; (· ((conv => lhs; whnf); try exact rfl)); (· rfl); (· intro w' hO'; refine run_opLoadS (b := ?_) (cs := ?_) (e := ?_) (f := ?_) hO' ?_ ?_ ?_ ?_; rotate_left 4; (· exact rfl); (· exact inferInstance); (· simp; done); (· simp; done)); simp only [Act.put, List.setIfInBounds_toArray, List.set_cons_zero, List.set_cons_succ])
      first | (refine sch_look (o := ?_) (v := ?_) ?_ ?_ ?_ ?_; rotate_left 2; (· ((conv => lhs; whnf); try exact rfl)); (· rfl); (· intro w' hO'; (have hF' := Own.cells hO'; simp only [cellsOf_append, cellsOf_pt] at hF'); go_simp; (try exact rfl)); simp only [Act.put, List.setIfInBounds_toArray, List.set_cons_zero, List.set_cons_succ]) | (refine sch_pass (o := ?_) ?_ ?_ ?_; rotate_left; (· ((conv => lhs; whnf); try exact rfl)); (· rfl); simp only [Act.put, List.setIfInBounds_toArray, List.set_cons_zero, List.set_cons_succ]) | (refine sch_look (o := ?_) (v := .agg ?_) ?_ ?_ ?_ ?_; rotate_left 2; (· ((conv => lhs; whnf); try exact rfl)); (· rfl); (· intro w' hO'; refine run_opLoadS (b := ?_) (cs := ?_) (e := ?_) (f := ?_) hO' ?_ ?_ ?_ ?_; rotate_left 4; (· exact rfl); (· exact inferInstance); (· simp; done); (· simp; done)); simp only [Act.put, List.setIfInBounds_toArray, List.set_cons_zero, List.set_cons_succ])
      refine sch_done ?_
      go_wp2_with fail
      go_end0
      exact ⟨rfl, T1, W1, _, hD _ _ (.done (by have := HM.out; omega)), ⟨me, mw, xs, ws, ME, MW, hE, hW, hok, hT, hP, rfl⟩, by unfold setF; exact hO⟩
end Go.Proofs.Ytnfclieaendgeaa
