/- Sets of addresses: both, And, Or. -/
import Derived.Test.YtnfclieaendgeaaTid7
set_option linter.all false
namespace Go.Td
/-- What is in both of two sets, before pages stand whole. -/
structure AndS (Ta Wa Tb Wb T W : List Int) : Prop where
  inv : Inv T W
  w : ∀ p, p ∈ W ↔ p ∈ Wa ∧ p ∈ Wb
  t : ∀ t, t ∈ T ↔ (t ∈ Ta ∧ has Tb Wb t) ∨ (t ∈ Tb ∧ has Ta Wa t)
structure OrS (Ta Wa Tb Wb T W : List Int) : Prop where
  inv : Inv T W
  w : ∀ p, p ∈ W ↔ p ∈ Wa ∨ p ∈ Wb
  t : ∀ t, t ∈ T ↔ (t ∈ Ta ∨ t ∈ Tb) ∧ pg t ∉ W
theorem AndS.uniq {Ta Wa Tb Wb T W T' W' : List Int} (h : AndS Ta Wa Tb Wb T W) (k : AndS Ta Wa Tb Wb T' W') : T = T' ∧ W = W' :=
  ⟨up_ext h.inv.t k.inv.t fun x => by rw [h.t, k.t], up_ext h.inv.w k.inv.w fun x => by rw [h.w, k.w]⟩
theorem OrS.uniq {Ta Wa Tb Wb T W T' W' : List Int} (h : OrS Ta Wa Tb Wb T W) (k : OrS Ta Wa Tb Wb T' W') : T = T' ∧ W = W' := by
  have hW : W = W' := up_ext h.inv.w k.inv.w fun x => by rw [h.w, k.w]
  subst hW
  exact ⟨up_ext h.inv.t k.inv.t fun x => by rw [h.t, k.t], rfl⟩
theorem AndS.swap {Ta Wa Tb Wb T W : List Int} (h : AndS Ta Wa Tb Wb T W) : AndS Tb Wb Ta Wa T W :=
  ⟨h.inv, fun p => by rw [h.w]; exact And.comm, fun t => by rw [h.t]; exact Or.comm⟩
theorem OrS.swap {Ta Wa Tb Wb T W : List Int} (h : OrS Ta Wa Tb Wb T W) : OrS Tb Wb Ta Wa T W :=
  ⟨h.inv, fun p => by rw [h.w]; exact Or.comm, fun t => by rw [h.t]; exact and_congr_left fun _ => Or.comm⟩
theorem AndS.len {Ta Wa Tb Wb T W : List Int} (h : AndS Ta Wa Tb Wb T W) : T.length ≤ Ta.length + Tb.length := by
  have := Own.len_of_sub (b := Ta ++ Tb) h.inv.t.nodup fun k hk => by
    rcases (h.t k).1 hk with ⟨h1, _⟩ | ⟨h1, _⟩
    · exact List.mem_append.2 (.inl h1)
    · exact List.mem_append.2 (.inr h1)
  simpa using this
theorem OrS.len {Ta Wa Tb Wb T W : List Int} (h : OrS Ta Wa Tb Wb T W) : T.length ≤ Ta.length + Tb.length := by
  have := Own.len_of_sub (b := Ta ++ Tb) h.inv.t.nodup fun k hk => by
    rcases ((h.t k).1 hk).1 with h1 | h1
    · exact List.mem_append.2 (.inl h1)
    · exact List.mem_append.2 (.inr h1)
  simpa using this
end Go.Td
namespace Go.Proofs.Ytnfclieaendgeaa
open Go Go.RowKit Go.Own Go.Td

theorem min_n (a b : Nat) : min (a : Int) (b : Int) = ((min a b : Nat) : Int) := by omega
def BothP (E : World) (R : Fr) (m : Nat) (e : Ending) (w' : World) : Prop :=
  ∃ b A, e = .returned (.tuple #[.pointer (some ⟨b, 0, none⟩), .int .i64 0]) ∧ SetAt b m [] [] A ∧ Own E w' (A ++ R)
set_option maxRecDepth 100000 in
set_option maxHeartbeats 16000000 in
theorem tBoth (E w : World) (X R A B : Fr) (a b ma mb : Nat) (Ta Wa Tb Wb : List Int) (hma : ma ≤ 64) (hmb : mb ≤ 64) (hA : SetAt a ma Ta Wa A) (hB : SetAt b mb Tb Wb B) (hO : Own E w X) [hp : Pick X (A ++ B) R] :
    Calls Try.prog 48 #[.pointer (some ⟨a, 0, none⟩), .pointer (some ⟨b, 0, none⟩)] w (BothP E (A ++ (B ++ R)) (min ma mb)) := by
  replace hO : Own E w (A ++ (B ++ R)) := by have := hO.perm hp.perm; rwa [List.append_assoc] at this
  clear hp
  generalize hpost : BothP E (A ++ (B ++ R)) (min ma mb) = POST
  have HPOST := Lib.hid hpost
  clear hpost
  go_enter Try.func48, Try.ntmps48
  go_wp2_with fail
  refine (tGiven E _ _ _ A a ma Ta Wa hA hO).mono ?_
  rintro e w1 ⟨rfl, rfl⟩
  go_wp2_with fail
  refine (tGiven E _ _ _ B b mb Tb Wb hB hO).mono ?_
  rintro e w1 ⟨rfl, rfl⟩
  have hmn := min_n ma mb
  have hml : min ma mb ≤ 64 := by omega
  generalize hm : min ma mb = m at hmn hml HPOST
  obtain ⟨me, mw, xs, ws, ME, MW, hE, hW, hok, hT, hP, rfl⟩ := hA
  obtain ⟨me2, mw2, xs2, ws2, ME2, MW2, hE2, hW2, hok2, hT2, hP2, rfl⟩ := hB
  unfold setF at hO
  ((try simp only [List.nil_append, List.append_nil] at hO); have hF := Own.cells hO; simp only [cellsOf_append, cellsOf_pt] at hF)
  (try (go_wp2_with fail))
  refine region_schO hO (.look 0 (.look 1 (.look 2 (.look 3 (.look 4 (.look 5 (.look 6 (.look 7 (.look 8 (.act 9 (.look 10 (.look 11 (.look 12 (.look 13 .done)))))))))))))) (by kernel_rfl) (by kernel_rfl) (fun _ _ d _ _ h => by cases d <;> exact h) ?_
  clear hO; (try clear hF); intro _ hO
  first | (refine sch_look (o := ?_) (v := ?_) ?_ ?_ ?_ ?_; rotate_left 2; (· ((conv => lhs; whnf); try exact rfl)); (· rfl); (· intro w' hO'; (have hF' := Own.cells hO'; simp only [cellsOf_append, cellsOf_pt] at hF'); go_simp; (try exact rfl)); simp only [Act.put, List.setIfInBounds_toArray, List.set_cons_zero, List.set_cons_succ]) | (refine sch_pass (o := ?_) ?_ ?_ ?_; rotate_left; (· ((conv => lhs; whnf); try exact rfl)); (· rfl); simp only [Act.put, List.setIfInBounds_toArray, List.set_cons_zero, List.set_cons_succ]) | (refine sch_look (o := ?_) (v := .agg ?_) ?_ ?_ ?_ ?_; rotate_left 2; (· ((conv => lhs; whnf); try exact rfl)); (· rfl); (· intro w' hO'; refine run_opLoadS (b := ?_) (cs := ?_) (e := ?_) (f := ?_) hO' ?_ ?_ ?_ ?_; rotate_left 4; (· exact rfl); (· exact inferInstance); (· simp; done); (· simp; done)); simp only [Act.put, List.setIfInBounds_toArray, List.set_cons_zero, List.set_cons_succ])
  first | (refine sch_look (o := ?_) (v := ?_) ?_ ?_ ?_ ?_; rotate_left 2; (· ((conv => lhs; whnf); try exact rfl)); (· rfl); (· intro w' hO'; (have hF' := Own.cells hO'; simp only [cellsOf_append, cellsOf_pt] at hF'); go_simp; (try exact rfl)); simp only [Act.put, List.setIfInBounds_toArray, List.set_cons_zero, List.set_cons_succ]) | (refine sch_pass (o := ?_) ?_ ?_ ?_; rotate_left; (· ((conv => lhs; whnf); try exact rfl)); (· rfl); simp only [Act.put, List.setIfInBounds_toArray, List.set_cons_zero, List.set_cons_succ]) | (refine sch_look (o := ?_) (v := .agg ?_) ?_ ?_ ?_ ?_; rotate_left 2; (· ((conv => lhs; whnf); try exact rfl)); (· rfl); (· intro w' hO'; refine run_opLoadS (b := ?_) (cs := ?_) (e := ?_) (f := ?_) hO' ?_ ?_ ?_ ?_; rotate_left 4; (· exact rfl); (· exact inferInstance); (· simp; done); (· simp; done)); simp only [Act.put, List.setIfInBounds_toArray, List.set_cons_zero, List.set_cons_succ])
  first | (refine sch_look (o := ?_) (v := ?_) ?_ ?_ ?_ ?_; rotate_left 2; (· ((conv => lhs; whnf); try exact rfl)); (· rfl); (· intro w' hO'; (have hF' := Own.cells hO'; simp only [cellsOf_append, cellsOf_pt] at hF'); go_simp; (try exact rfl)); simp only [Act.put, List.setIfInBounds_toArray, List.set_cons_zero, List.set_cons_succ]) | (refine sch_pass (o := ?_) ?_ ?_ ?_; rotate_left; (· ((conv => lhs; whnf); try exact rfl)); (· rfl); simp only [Act.put, List.setIfInBounds_toArray, List.set_cons_zero, List.set_cons_succ]) | (refine sch_look (o := ?_) (v := .agg ?_) ?_ ?_ ?_ ?_; rotate_left 2; (· ((conv => lhs; whnf); try exact rfl)); (· rfl); (· intro w' hO'; refine run_opLoadS (b := ?_) (cs := ?_) (e := ?_) (f := ?_) hO' ?_ ?_ ?_ ?_; rotate_left 4; (· exact rfl); (· exact inferInstance); (· simp; done); (· simp; done)); simp only [Act.put, List.setIfInBounds_toArray, List.set_cons_zero, List.set_cons_succ])
  first | (refine sch_look (o := ?_) (v := ?_) ?_ ?_ ?_ ?_; rotate_left 2; (· ((conv => lhs; whnf); try exact rfl)); (· rfl); (· intro w' hO'; (have hF' := Own.cells hO'; simp only [cellsOf_append, cellsOf_pt] at hF'); go_simp; (try exact rfl)); simp only [Act.put, List.setIfInBounds_toArray, List.set_cons_zero, List.set_cons_succ]) | (refine sch_pass (o := ?_) ?_ ?_ ?_; rotate_left; (· ((conv => lhs; whnf); try exact rfl)); (· rfl); simp only [Act.put, List.setIfInBounds_toArray, List.set_cons_zero, List.set_cons_succ]) | (refine sch_look (o := ?_) (v := .agg ?_) ?_ ?_ ?_ ?_; rotate_left 2; (· ((conv => lhs; whnf); try exact rfl)); (· rfl); (· intro w' hO'; refine run_opLoadS (b := ?_) (cs := ?_) (e := ?_) (f := ?_) hO' ?_ ?_ ?_ ?_; rotate_left 4; (· exact rfl); (· exact inferInstance); (· simp; done); (· simp; done)); simp only [Act.put, List.setIfInBounds_toArray, List.set_cons_zero, List.set_cons_succ])
  first | (refine sch_look (o := ?_) (v := ?_) ?_ ?_ ?_ ?_; rotate_left 2; (· ((conv => lhs; whnf); try exact rfl)); (· rfl); (· intro w' hO'; (have hF' := Own.cells hO'; simp only [cellsOf_append, cellsOf_pt] at hF'); go_simp; (try exact rfl)); simp only [Act.put, List.setIfInBounds_toArray, List.set_cons_zero, List.set_cons_succ]) | (refine sch_pass (o := ?_) ?_ ?_ ?_; rotate_left; (· ((conv => lhs; whnf); try exact rfl)); (· rfl); simp only [Act.put, List.setIfInBounds_toArray, List.set_cons_zero, List.set_cons_succ]) | (refine sch_look (o := ?_) (v := .agg ?_) ?_ ?_ ?_ ?_; rotate_left 2; (· ((conv => lhs; whnf); try exact rfl)); (· rfl); (· intro w' hO'; refine run_opLoadS (b := ?_) (cs := ?_) (e := ?_) (f := ?_) hO' ?_ ?_ ?_ ?_; rotate_left 4; (· exact rfl); (· exact inferInstance); (· simp; done); (· simp; done)); simp only [Act.put, List.setIfInBounds_toArray, List.set_cons_zero, List.set_cons_succ])
  first | (refine sch_look (o := ?_) (v := ?_) ?_ ?_ ?_ ?_; rotate_left 2; (· ((conv => lhs; whnf); try exact rfl)); (· rfl); (· intro w' hO'; (have hF' := Own.cells hO'; simp only [cellsOf_append, cellsOf_pt] at hF'); go_simp; (try exact rfl)); simp only [Act.put, List.setIfInBounds_toArray, List.set_cons_zero, List.set_cons_succ]) | (refine sch_pass (o := ?_) ?_ ?_ ?_; rotate_left; (· ((conv => lhs; whnf); try exact rfl)); (· rfl); simp only [Act.put, List.setIfInBounds_toArray, List.set_cons_zero, List.set_cons_succ]) | (refine sch_look (o := ?_) (v := .agg ?_) ?_ ?_ ?_ ?_; rotate_left 2; (· ((conv => lhs; whnf); try exact rfl)); (· rfl); (· intro w' hO'; refine run_opLoadS (b := ?_) (cs := ?_) (e := ?_) (f := ?_) hO' ?_ ?_ ?_ ?_; rotate_left 4; (· exact rfl); (· exact inferInstance); (· simp; done); (· simp; done)); simp only [Act.put, List.setIfInBounds_toArray, List.set_cons_zero, List.set_cons_succ])
  first | (refine sch_look (o := ?_) (v := ?_) ?_ ?_ ?_ ?_; rotate_left 2; (· ((conv => lhs; whnf); try exact rfl)); (· rfl); (· intro w' hO'; (have hF' := Own.cells hO'; simp only [cellsOf_append, cellsOf_pt] at hF'); go_simp; (try exact rfl)); simp only [Act.put, List.setIfInBounds_toArray, List.set_cons_zero, List.set_cons_succ]) | (refine sch_pass (o := ?_) ?_ ?_ ?_; rotate_left; (· ((conv => lhs; whnf); try exact rfl)); (· rfl); simp only [Act.put, List.setIfInBounds_toArray, List.set_cons_zero, List.set_cons_succ]) | (refine sch_look (o := ?_) (v := .agg ?_) ?_ ?_ ?_ ?_; rotate_left 2; (· ((conv => lhs; whnf); try exact rfl)); (· rfl); (· intro w' hO'; refine run_opLoadS (b := ?_) (cs := ?_) (e := ?_) (f := ?_) hO' ?_ ?_ ?_ ?_; rotate_left 4; (· exact rfl); (· exact inferInstance); (· simp; done); (· simp; done)); simp only [Act.put, List.setIfInBounds_toArray, List.set_cons_zero, List.set_cons_succ])
  first | (refine sch_look (o := ?_) (v := ?_) ?_ ?_ ?_ ?_; rotate_left 2; (· ((conv => lhs; whnf); try exact rfl)); (· rfl); (· intro w' hO'; (have hF' := Own.cells hO'; simp only [cellsOf_append, cellsOf_pt] at hF'); go_simp; (try exact rfl)); simp only [Act.put, List.setIfInBounds_toArray, List.set_cons_zero, List.set_cons_succ]) | (refine sch_pass (o := ?_) ?_ ?_ ?_; rotate_left; (· ((conv => lhs; whnf); try exact rfl)); (· rfl); simp only [Act.put, List.setIfInBounds_toArray, List.set_cons_zero, List.set_cons_succ]) | (refine sch_look (o := ?_) (v := .agg ?_) ?_ ?_ ?_ ?_; rotate_left 2; (· ((conv => lhs; whnf); try exact rfl)); (· rfl); (· intro w' hO'; refine run_opLoadS (b := ?_) (cs := ?_) (e := ?_) (f := ?_) hO' ?_ ?_ ?_ ?_; rotate_left 4; (· exact rfl); (· exact inferInstance); (· simp; done); (· simp; done)); simp only [Act.put, List.setIfInBounds_toArray, List.set_cons_zero, List.set_cons_succ])
  first | (refine sch_look (o := ?_) (v := ?_) ?_ ?_ ?_ ?_; rotate_left 2; (· ((conv => lhs; whnf); try exact rfl)); (· rfl); (· intro w' hO'; (have hF' := Own.cells hO'; simp only [cellsOf_append, cellsOf_pt] at hF'); go_simp; (try exact rfl)); simp only [Act.put, List.setIfInBounds_toArray, List.set_cons_zero, List.set_cons_succ]) | (refine sch_pass (o := ?_) ?_ ?_ ?_; rotate_left; (· ((conv => lhs; whnf); try exact rfl)); (· rfl); simp only [Act.put, List.setIfInBounds_toArray, List.set_cons_zero, List.set_cons_succ]) | (refine sch_look (o := ?_) (v := .agg ?_) ?_ ?_ ?_ ?_; rotate_left 2; (· ((conv => lhs; whnf); try exact rfl)); (· rfl); (· intro w' hO'; refine run_opLoadS (b := ?_) (cs := ?_) (e := ?_) (f := ?_) hO' ?_ ?_ ?_ ?_; rotate_left 4; (· exact rfl); (· exact inferInstance); (· simp; done); (· simp; done)); simp only [Act.put, List.setIfInBounds_toArray, List.set_cons_zero, List.set_cons_succ])
  (refine sch_act (o := ?_) ?_ ?_; rotate_left; (· ((conv => lhs; whnf); try exact rfl)))
  go_wp2_with fail
  refine (tNew E _ _ m hO).mono ?_
  clear hO
  rintro e w3 (⟨_, _, c, C, rfl, hC, hO⟩ | ⟨hno, _⟩)
  rotate_left
  exact absurd ⟨by omega, by omega⟩ hno
  go_wp2_with fail
  refine ⟨hO.as _, ?_⟩
  first | (refine sch_look (o := ?_) (v := ?_) ?_ ?_ ?_ ?_; rotate_left 2; (· ((conv => lhs; whnf); try exact rfl)); (· rfl); (· intro w' hO'; (have hF' := Own.cells hO'; simp only [cellsOf_append, cellsOf_pt] at hF'); go_simp; (try exact rfl)); simp only [Act.put, List.setIfInBounds_toArray, List.set_cons_zero, List.set_cons_succ]) | (refine sch_pass (o := ?_) ?_ ?_ ?_; rotate_left; (· ((conv => lhs; whnf); try exact rfl)); (· rfl); simp only [Act.put, List.setIfInBounds_toArray, List.set_cons_zero, List.set_cons_succ]) | (refine sch_look (o := ?_) (v := .agg ?_) ?_ ?_ ?_ ?_; rotate_left 2; (· ((conv => lhs; whnf); try exact rfl)); (· rfl); (· intro w' hO'; refine run_opLoadS (b := ?_) (cs := ?_) (e := ?_) (f := ?_) hO' ?_ ?_ ?_ ?_; rotate_left 4; (· exact rfl); (· exact inferInstance); (· simp; done); (· simp; done)); simp only [Act.put, List.setIfInBounds_toArray, List.set_cons_zero, List.set_cons_succ])
  first | (refine sch_look (o := ?_) (v := ?_) ?_ ?_ ?_ ?_; rotate_left 2; (· ((conv => lhs; whnf); try exact rfl)); (· rfl); (· intro w' hO'; (have hF' := Own.cells hO'; simp only [cellsOf_append, cellsOf_pt] at hF'); go_simp; (try exact rfl)); simp only [Act.put, List.setIfInBounds_toArray, List.set_cons_zero, List.set_cons_succ]) | (refine sch_pass (o := ?_) ?_ ?_ ?_; rotate_left; (· ((conv => lhs; whnf); try exact rfl)); (· rfl); simp only [Act.put, List.setIfInBounds_toArray, List.set_cons_zero, List.set_cons_succ]) | (refine sch_look (o := ?_) (v := .agg ?_) ?_ ?_ ?_ ?_; rotate_left 2; (· ((conv => lhs; whnf); try exact rfl)); (· rfl); (· intro w' hO'; refine run_opLoadS (b := ?_) (cs := ?_) (e := ?_) (f := ?_) hO' ?_ ?_ ?_ ?_; rotate_left 4; (· exact rfl); (· exact inferInstance); (· simp; done); (· simp; done)); simp only [Act.put, List.setIfInBounds_toArray, List.set_cons_zero, List.set_cons_succ])
  first | (refine sch_look (o := ?_) (v := ?_) ?_ ?_ ?_ ?_; rotate_left 2; (· ((conv => lhs; whnf); try exact rfl)); (· rfl); (· intro w' hO'; (have hF' := Own.cells hO'; simp only [cellsOf_append, cellsOf_pt] at hF'); go_simp; (try exact rfl)); simp only [Act.put, List.setIfInBounds_toArray, List.set_cons_zero, List.set_cons_succ]) | (refine sch_pass (o := ?_) ?_ ?_ ?_; rotate_left; (· ((conv => lhs; whnf); try exact rfl)); (· rfl); simp only [Act.put, List.setIfInBounds_toArray, List.set_cons_zero, List.set_cons_succ]) | (refine sch_look (o := ?_) (v := .agg ?_) ?_ ?_ ?_ ?_; rotate_left 2; (· ((conv => lhs; whnf); try exact rfl)); (· rfl); (· intro w' hO'; refine run_opLoadS (b := ?_) (cs := ?_) (e := ?_) (f := ?_) hO' ?_ ?_ ?_ ?_; rotate_left 4; (· exact rfl); (· exact inferInstance); (· simp; done); (· simp; done)); simp only [Act.put, List.setIfInBounds_toArray, List.set_cons_zero, List.set_cons_succ])
  first | (refine sch_look (o := ?_) (v := ?_) ?_ ?_ ?_ ?_; rotate_left 2; (· ((conv => lhs; whnf); try exact rfl)); (· rfl); (· intro w' hO'; (have hF' := Own.cells hO'; simp only [cellsOf_append, cellsOf_pt] at hF'); go_simp; (try exact rfl)); simp only [Act.put, List.setIfInBounds_toArray, List.set_cons_zero, List.set_cons_succ]) | (refine sch_pass (o := ?_) ?_ ?_ ?_; rotate_left; (· ((conv => lhs; whnf); try exact rfl)); (· rfl); simp only [Act.put, List.setIfInBounds_toArray, List.set_cons_zero, List.set_cons_succ]) | (refine sch_look (o := ?_) (v := .agg ?_) ?_ ?_ ?_ ?_; rotate_left 2; (· ((conv => lhs; whnf); try exact rfl)); (· rfl); (· intro w' hO'; refine run_opLoadS (b := ?_) (cs := ?_) (e := ?_) (f := ?_) hO' ?_ ?_ ?_ ?_; rotate_left 4; (· exact rfl); (· exact inferInstance); (· simp; done); (· simp; done)); simp only [Act.put, List.setIfInBounds_toArray, List.set_cons_zero, List.set_cons_succ])
  refine sch_done ?_
  go_wp2_with fail
  rw [← HPOST.out]
  refine ⟨c, C, rfl, by simpa using hC, ?_⟩
  unfold setF
  exact hO
/-- An empty set. -/
theorem set_nil {c m : Nat} {C : Fr} (h : SetAt c m [] [] C) : ∃ mc nc MC NC, MapAt mc [] MC ∧ MapAt nc [] NC ∧ C = pt c (.cells #[.bool true, .int .i64 m, .int .i64 0, .map (some mc), .map (some nc)] 56 (0, 0)) ++ (MC ++ NC) := by
  obtain ⟨mc, nc, xc, wc, MC, NC, hC1, hC2, hokc, hTc, hPc, rfl⟩ := h
  obtain rfl : xc = [] := by
    cases xc with
    | nil => rfl
    | cons g xc =>
      exfalso
      have h1 := hTc.length_eq
      have h2 := List.length_pos_iff.2 (hokc g (by simp)).ne
      simp only [List.map_cons, List.flatten_cons, List.length_append, List.length_nil] at h1
      omega
  obtain rfl : wc = [] := by have := hPc.length_eq; exact List.eq_nil_of_length_eq_zero (by simpa using this)
  exact ⟨mc, nc, MC, NC, hC1, hC2, by simp [setF, pgsF]⟩
/-- Pages alone. -/
theorem set_whole {c m mc nc : Nat} {MC NC : Fr} {ws U : List Int} (h1 : MapAt mc [] MC) (h2 : MapAt nc (wsM ws) NC) (hU : ws.Perm U) :
    SetAt c m [] U (pt c (.cells #[.bool true, .int .i64 m, .int .i64 0, .map (some mc), .map (some nc)] 56 (0, 0)) ++ (MC ++ NC)) :=
  ⟨mc, nc, [], ws, MC, NC, h1, h2, fun g hg => absurd hg (by simp), .refl _, hU, by simp [setF, pgsF]⟩
theorem wsM_keys (ws : List Int) : (wsM ws).map (·.1) = ws := by
  unfold wsM
  rw [List.map_map]
  exact List.map_id ws
theorem wsM_len (ws : List Int) : (wsM ws).length = ws.length := by unfold wsM; rw [List.length_map]
theorem tsome {a : Option Addr} {n cap : Nat} {xs : List Value} {A : Fr} (h : Sl 3 1 a n cap xs A) (hn : 0 < n) : ∃ b, a = some ⟨b, 0, none⟩ := by
  rcases h.2.2.2 with ⟨_, hc, _⟩ | ⟨b, rest, hb, _, _⟩
  · have := h.le; omega
  · exact ⟨b, hb⟩
theorem tcell {E w : World} {X R A : Fr} {b n cap : Nat} {l : List Int} (h : Sl 3 1 (some ⟨b, 0, none⟩) n cap (intV l) A) (hO : Own E w X) [hp : Pick X A R] (i : Nat) (hi : i < l.length) : w.cell? ⟨b, i, none⟩ = some (.int .i64 l[i]) := by
  have h1 := h.cell hO ⟨b, 0, none⟩ rfl i (by rw [List.length_map]; exact hi)
  rw [add_lit, Nat.zero_add] at h1
  rw [h1, List.getElem_map]
def AndP (E : World) (R : Fr) (a b ma mb : Nat) (Ta Wa Tb Wb : List Int) (e : Ending) (w' : World) : Prop :=
  ∃ c A' B' C T W T' W', e = .returned (.tuple #[.pointer (some ⟨c, 0, none⟩), .int .i64 0]) ∧ SetAt a ma Ta Wa A' ∧ SetAt b mb Tb Wb B' ∧ AndS Ta Wa Tb Wb T W ∧ Deg (min ma mb) T W T' W' ∧ SetAt c (min ma mb) T' W' C ∧ Own E w' (C ++ (A' ++ (B' ++ R)))

/-- A page more stands whole: the block of the map of pages alone is changed. -/
theorem SetAt.open {b most : Nat} {T W : List Int} {A : Fr} (h : SetAt b most T W A) : ∃ me mw xs ws ME MW, MapAt me (pgsM xs) ME ∧ MapAt mw (wsM ws) MW ∧ (∀ g ∈ xs, PgOk g) ∧ ((xs.map Pg.l).flatten).Perm T ∧ ws.Perm W ∧ A = setF b me mw most T.length ++ (ME ++ (MW ++ pgsF xs)) := h
theorem inv_whole {W : List Int} (hU : Up W) (hb : ∀ p ∈ W, 0 ≤ p ∧ p < 262144) : Inv [] W := ⟨List.Pairwise.nil, hU, fun t h => absurd h (by simp), fun t h => absurd h (by simp), hb⟩

set_option maxRecDepth 100000 in
set_option maxHeartbeats 16000000 in
theorem tAnd (E w : World) (X R A B : Fr) (a b ma mb : Nat) (Ta Wa Tb Wb : List Int) (hIa : Inv Ta Wa) (hIb : Inv Tb Wb) (hma : ma ≤ 64) (hmb : mb ≤ 64) (hla : Ta.length ≤ 64) (hlb : Tb.length ≤ 64) (hA : SetAt a ma Ta Wa A) (hB : SetAt b mb Tb Wb B) (hO : Own E w X) [hp : Pick X (A ++ B) R] :
    Calls Try.prog 27 #[.pointer (some ⟨a, 0, none⟩), .pointer (some ⟨b, 0, none⟩)] w (AndP E R a b ma mb Ta Wa Tb Wb) := by
  replace hO : Own E w (A ++ (B ++ R)) := by have := hO.perm hp.perm; rwa [List.append_assoc] at this
  clear hp
  generalize hpost : AndP E R a b ma mb Ta Wa Tb Wb = POST
  have HPOST := Lib.hid hpost
  clear hpost
  go_enter Try.func27, Try.ntmps27
  go_wp2_with fail
  refine (tBoth E _ _ R A B a b ma mb Ta Wa Tb Wb hma hmb hA hB hO).mono ?_
  clear hO
  rintro e w1 ⟨c, C, rfl, hC, hO⟩
  generalize hm : min ma mb = m at hC HPOST
  have hm64 : m ≤ 64 := by omega
  obtain ⟨me, mw, xs, ws, ME, MW, hE, hW, hok, hT, hP, rfl⟩ := hA
  obtain ⟨eb, wb, xb, vs, EB, WB, hEb, hWb, hokb, hTb, hPb, rfl⟩ := hB
  obtain ⟨mc, nc, MC, NC, hC1, hC2, rfl⟩ := set_nil hC
  unfold setF at hO
  have hF := Own.cells hO; simp only [cellsOf_append, cellsOf_pt] at hF
  go_wp2_with (first | (refine at_rng ?_; go_must (refine own_range (kt := 3) (et := 4) (b := mw) (l := wsM ws) (by kernel_rfl) hO hW ?_ ?_ ?_; (· rfl); (· rfl); clear hO; (try clear hF); intro r _ D hR hO; ((try simp only [List.nil_append, List.append_nil] at hO); have hF := Own.cells hO; simp only [cellsOf_append, cellsOf_pt] at hF); simp only [Act.put, List.setIfInBounds_toArray, List.set_cons_zero, List.set_cons_succ])))
  replace hO := hO.as (D ++ (pt c (.cells #[.bool true, .int .i64 m, .int .i64 0, .map (some mc), .map (some nc)] 56 (0, 0)) ++ (MC ++ (NC ++ (pt a (.cells #[.bool true, .int .i64 ma, .int .i64 Ta.length, .map (some me), .map (some mw)] 56 (0, 0)) ++ (ME ++ (pgsF xs ++ (pt b (.cells #[.bool true, .int .i64 mb, .int .i64 Tb.length, .map (some eb), .map (some wb)] 56 (0, 0)) ++ (EB ++ (WB ++ (pgsF xb ++ R)))))))))))
  have hO1 := hO
  clear hO hF hW hC
  go_loopw [8] (fun _ wr => ∃ (done : List Int) (D NC : Fr), Ranging r mw (wsM ws) done D ∧ MapAt nc (wsM (done.filter fun p => vs.contains p)) NC ∧ Own E wr (D ++ (pt c (.cells #[.bool true, .int .i64 m, .int .i64 0, .map (some mc), .map (some nc)] 56 (0, 0)) ++ (MC ++ (NC ++ (pt a (.cells #[.bool true, .int .i64 ma, .int .i64 Ta.length, .map (some me), .map (some mw)] 56 (0, 0)) ++ (ME ++ (pgsF xs ++ (pt b (.cells #[.bool true, .int .i64 mb, .int .i64 Tb.length, .map (some eb), .map (some wb)] 56 (0, 0)) ++ (EB ++ (WB ++ (pgsF xb ++ R)))))))))))) (fun _ w => ws.length - seenN w r)
  case atStart => exact ⟨[], D, NC, hR, hC2, hO1⟩
  case round =>
    clear hO1 hR hC2
    obtain ⟨done, D, NC, hR, hC2, hO⟩ := hrel
    have HSEEN := Lib.hid (hR.seen hO)
    ((try simp only [List.nil_append, List.append_nil] at hO); have hF := Own.cells hO; simp only [cellsOf_append, cellsOf_pt] at hF)
    go_wp2_with (refine at_nxt ?_; go_must (refine own_nextV (r := r) (b := mw) (l := wsM ws) (done := done) hO hR ?_ ?_ ?_ ?_; (· rfl); (· rfl)))
    rotate_left
    · intro k v w2 A2 hkv hR2 hO hen
      simp only [Act.put, List.setIfInBounds_toArray, List.set_cons_zero, List.set_cons_succ]
      obtain ⟨q, hq, hgkv⟩ := List.mem_map.1 hkv
      obtain ⟨rfl, rfl⟩ := Prod.mk.inj hgkv
      have HLE := Lib.hid hR2.le
      have hnq : q ∉ done := by
        have := hR2.nodup.1
        rw [List.nodup_append] at this
        intro h
        exact this.2.2 q h q (by simp) rfl
      replace hO := hO.as (A2 ++ (pt c (.cells #[.bool true, .int .i64 m, .int .i64 0, .map (some mc), .map (some nc)] 56 (0, 0)) ++ (MC ++ (NC ++ (pt a (.cells #[.bool true, .int .i64 ma, .int .i64 Ta.length, .map (some me), .map (some mw)] 56 (0, 0)) ++ (ME ++ (pgsF xs ++ (pt b (.cells #[.bool true, .int .i64 mb, .int .i64 Tb.length, .map (some eb), .map (some wb)] 56 (0, 0)) ++ (EB ++ (WB ++ (pgsF xb ++ R)))))))))))
      clear hF hgkv hkv
      ((try simp only [List.nil_append, List.append_nil] at hO); have hF := Own.cells hO; simp only [cellsOf_append, cellsOf_pt] at hF)
      by_cases hv : q ∈ vs
      · have hc : vs.contains q = true := by simpa using hv
        have hln : mlook (wsM (done.filter fun p => vs.contains p)) q = none := look_ws_none fun h => hnq (List.mem_filter.1 h).1
        go_wp2_with (first
          | (refine at_lookup ?_; go_must (refine own_lookup (kt := 3) (et := 4) (b := wb) (k := q) (l := wsM vs) (by kernel_rfl) (by kernel_rfl) zeroBool hO hWb ?_ ?_ ?_ ?_; (· rfl); (· rfl); (· rfl); rw [look_ws, hc]; simp only [Act.put, List.setIfInBounds_toArray, List.set_cons_zero, List.set_cons_succ]))
          | (refine at_mapup ?_; go_must (refine own_mapNew (kt := 3) (et := 4) (b := nc) (k := q) (v := .bool true) (by kernel_rfl) (by kernel_rfl) hO hC2 ?_ ?_ ?_ ?_ hln ?_; (· rfl); (· rfl); (· rfl); (· rfl); clear hO; (try clear hF); intro w5 NC2 hN2 hO; ((try simp only [List.nil_append, List.append_nil] at hO); have hF := Own.cells hO; simp only [cellsOf_append, cellsOf_pt] at hF); simp only [Act.put, List.setIfInBounds_toArray, List.set_cons_zero, List.set_cons_succ])))
        have hf : (done ++ [q]).filter (fun p => vs.contains p) = (done.filter fun p => vs.contains p) ++ [q] := by rw [List.filter_append, List.filter_cons_of_pos hc]; rfl
        have hseen2 := hR2.seen hO
        go_roundw
        case rel => exact ⟨done ++ [q], A2, NC2, hR2, by rw [hf, wsM_snoc]; exact hN2, hO.as _⟩
        case measure =>
          rw [hseen2, HSEEN.out]
          have := HLE.out
          rw [wsM_len] at this
          simp only [List.length_append, List.length_cons, List.length_nil] at this ⊢
          omega
      · have hc : vs.contains q = false := by simpa using hv
        go_wp2_with (first
          | (refine at_lookup ?_; go_must (refine own_lookup (kt := 3) (et := 4) (b := wb) (k := q) (l := wsM vs) (by kernel_rfl) (by kernel_rfl) zeroBool hO hWb ?_ ?_ ?_ ?_; (· rfl); (· rfl); (· rfl); rw [look_ws, hc]; simp only [Act.put, List.setIfInBounds_toArray, List.set_cons_zero, List.set_cons_succ])))
        have hf : (done ++ [q]).filter (fun p => vs.contains p) = (done.filter fun p => vs.contains p) := by rw [List.filter_append, List.filter_cons_of_neg (by rw [hc]; simp)]; simp
        have hseen2 := hR2.seen hO
        go_roundw
        case rel => exact ⟨done ++ [q], A2, NC, hR2, by rw [hf]; exact hC2, hO.as _⟩
        case measure =>
          rw [hseen2, HSEEN.out]
          have := HLE.out
          rw [wsM_len] at this
          simp only [List.length_append, List.length_cons, List.length_nil] at this ⊢
          omega
    · intro hperm
      simp only [Act.put, List.setIfInBounds_toArray, List.set_cons_zero, List.set_cons_succ]
      rw [wsM_keys] at hperm
      obtain ⟨U, hU, hUp⟩ := exists_up (l := done.filter fun p => vs.contains p) (List.Nodup.sublist List.filter_sublist hR.nodup.1)
      have hUm : ∀ p, p ∈ U ↔ p ∈ Wa ∧ p ∈ Wb := fun p => by
        rw [← hUp.mem_iff, List.mem_filter, hperm.mem_iff, hP.mem_iff, List.contains_iff_mem, hPb.mem_iff]
      have HUM := Lib.hid hUm
      have hUb : ∀ p ∈ U, 0 ≤ p ∧ p < 262144 := fun p hp => hIa.wb p ((hUm p).1 hp).1
      have hCS := set_whole (c := c) (m := m) hC1 hC2 hUp
      have hIC := inv_whole hU hUb
      obtain ⟨I, MW, hMW, rfl⟩ := hR.back
      have hAS : SetAt a ma Ta Wa (pt a (.cells #[.bool true, .int .i64 ma, .int .i64 Ta.length, .map (some me), .map (some mw)] 56 (0, 0)) ++ (ME ++ (MW ++ pgsF xs))) := ⟨me, mw, xs, ws, ME, MW, hE, hMW, hok, hT, hP, rfl⟩
      have hBS : SetAt b mb Tb Wb (pt b (.cells #[.bool true, .int .i64 mb, .int .i64 Tb.length, .map (some eb), .map (some wb)] 56 (0, 0)) ++ (EB ++ (WB ++ pgsF xb))) := ⟨eb, wb, xb, vs, EB, WB, hEb, hWb, hokb, hTb, hPb, rfl⟩
      replace hO := hO.as ((pt c (.cells #[.bool true, .int .i64 m, .int .i64 0, .map (some mc), .map (some nc)] 56 (0, 0)) ++ (MC ++ NC)) ++ ((pt a (.cells #[.bool true, .int .i64 ma, .int .i64 Ta.length, .map (some me), .map (some mw)] 56 (0, 0)) ++ (ME ++ (MW ++ pgsF xs))) ++ ((pt b (.cells #[.bool true, .int .i64 mb, .int .i64 Tb.length, .map (some eb), .map (some wb)] 56 (0, 0)) ++ (EB ++ (WB ++ pgsF xb))) ++ R)))
      clear hF hR hMW hE hC1 hC2 hEb hWb hperm hUm hUp hok hokb hT hTb hP hPb
      generalize (pt c (.cells #[.bool true, .int .i64 m, .int .i64 0, .map (some mc), .map (some nc)] 56 (0, 0)) ++ (MC ++ NC)) = C at hCS hO
      generalize (pt a (.cells #[.bool true, .int .i64 ma, .int .i64 Ta.length, .map (some me), .map (some mw)] 56 (0, 0)) ++ (ME ++ (MW ++ pgsF xs))) = A at hAS hO
      generalize (pt b (.cells #[.bool true, .int .i64 mb, .int .i64 Tb.length, .map (some eb), .map (some wb)] 56 (0, 0)) ++ (EB ++ (WB ++ pgsF xb))) = B at hBS hO
      have hla1 : (Ta.length : Int) ≤ 64 := by omega
      have hlb1 : (Tb.length : Int) ≤ 64 := by omega
      go_wp2_with fail
      refine (tTids E _ _ _ A a ma Ta Wa hIa (by omega) hAS hO).mono ?_
      clear hO hAS
      rintro e w4 ⟨sa, scap, S, A, rfl, hS, hAS, hO⟩
      have hO1 := hO
      clear hO
      go_wp2_with fail
      go_loopw [45] (fun s45 wr => ∃ (i : Nat) (T1 : List Int) (C : Fr), s45 = .int .i64 i ∧ i ≤ Ta.length ∧ T1.length ≤ i ∧ Inv T1 U ∧ (∀ t, t ∈ T1 ↔ t ∈ Ta.take i ∧ has Tb Wb t) ∧ SetAt c m T1 U C ∧ Own E wr (S ++ (A ++ (C ++ (B ++ R))))) (fun s45 _ => Ta.length - (intOf s45).toNat)
      case atStart => exact ⟨0, [], C, rfl, Nat.zero_le _, Nat.zero_le _, hIC, fun t => by simp, hCS, hO1⟩
      case round =>
        clear hO1 hIC hCS
        obtain ⟨i, T1, C, rfl, hi, hTl, hIC, hm1, hCS, hO⟩ := hrel
        have HMEM := Lib.hid hm1
        clear hm1
        by_cases hil : i < Ta.length
        · have hi1 : (i : Int) < Ta.length := by omega
          have hi0 : (0 : Int) ≤ i := by omega
          have hsn : Ta.take (i + 1) = Ta.take i ++ [Ta[i]] := List.take_succ_eq_append_getElem hil
          have htm : Ta[i] ∈ Ta := List.getElem_mem _
          obtain ⟨sb, rfl⟩ := tsome hS (by omega)
          have hcell := tcell hS (hO.as (S ++ [])) i hil
          generalize Ta[i] = t at hsn htm hcell
          have htb := hIa.tb t htm
          have htU : pg t ∉ U := fun h => hIa.tw t htm ((HUM.out _).1 h).1
          have HSN := Lib.hid hsn
          have HIL := Lib.hid hil
          clear hsn hil
          by_cases hh : has Tb Wb t
          · go_wp2_with (first
              | (go_at_call 25; go_must (refine (tHas E _ _ _ B b mb Tb Wb t hIb (by omega) (by omega) (by omega) hBS hO).mono ?_; rintro e w5 ⟨rfl, rfl⟩; rw [decide_eq_true hh]))
              | (go_at_call 43; go_must (refine (tPut E _ _ _ C c m T1 U t hIC htb (by omega) hCS hO).mono ?_; clear hO hCS hcell; rintro e w5 ⟨rfl, C2, hCS, hO⟩)))
            go_roundw
            case rel =>
              have hpl := put_len hIC t
              refine ⟨i + 1, _, C2, by go_num, HIL.out, by omega, hIC.put htb, fun u => ?_, hCS, hO.as _⟩
              rw [mem_put hIC, HMEM.out, HSN.out, List.mem_append, List.mem_singleton]
              constructor
              · rintro (⟨rfl, _⟩ | ⟨h1, h2⟩)
                · exact ⟨.inr rfl, hh⟩
                · exact ⟨.inl h1, h2⟩
              · rintro ⟨h1 | rfl, h2⟩
                · exact .inr ⟨h1, h2⟩
                · exact .inl ⟨rfl, htU⟩
            case measure => have := HIL.out; simp [intOf]; omega
          · go_wp2_with (first
              | (go_at_call 25; go_must (refine (tHas E _ _ _ B b mb Tb Wb t hIb (by omega) (by omega) (by omega) hBS hO).mono ?_; rintro e w5 ⟨rfl, rfl⟩; rw [decide_eq_false hh])))
            go_roundw
            case rel =>
              refine ⟨i + 1, T1, C, by go_num, HIL.out, by omega, hIC, fun u => ?_, hCS, hO⟩
              rw [HMEM.out, HSN.out, List.mem_append, List.mem_singleton]
              constructor
              · rintro ⟨h1, h2⟩
                exact ⟨.inl h1, h2⟩
              · rintro ⟨h1 | rfl, h2⟩
                · exact ⟨h1, h2⟩
                · exact absurd h2 hh
            case measure => have := HIL.out; simp [intOf]; omega
        · have hi1 : ¬ (i : Int) < Ta.length := by omega
          have hTa : Ta.take i = Ta := List.take_of_length_le (by omega)
          have HM2 := Lib.hid (fun t => by rw [HMEM.out t, hTa] : ∀ t, t ∈ T1 ↔ t ∈ Ta ∧ has Tb Wb t)
          clear HMEM hTa
          have hTl2 : T1.length ≤ 64 := by omega
          go_wp2_with fail
          refine (tTids E _ _ _ B b mb Tb Wb hIb (by omega) hBS hO).mono ?_
          clear hO hBS
          rintro e w4 ⟨ub, ucap, V, B, rfl, hV, hBS, hO⟩
          have hO1 := hO
          have hIC1 := hIC
          have hCS1 := hCS
          clear hO hIC hCS
          go_wp2_with fail
          go_loopw [59] (fun s59 wr => ∃ (j : Nat) (T2 : List Int) (C : Fr), s59 = .int .i64 j ∧ j ≤ Tb.length ∧ T2.length ≤ 64 + j ∧ Inv T2 U ∧ (∀ t, t ∈ T2 ↔ (t ∈ Ta ∧ has Tb Wb t) ∨ (t ∈ Tb.take j ∧ has Ta Wa t)) ∧ SetAt c m T2 U C ∧ Own E wr (V ++ (A ++ (C ++ (B ++ R))))) (fun s59 _ => Tb.length - (intOf s59).toNat)
          case atStart => exact ⟨0, T1, C, rfl, Nat.zero_le _, by omega, hIC1, fun t => by rw [HM2.out t]; simp, hCS1, hO1.as _⟩
          case round =>
            clear hO1 hIC1 hCS1 hTl hTl2
            obtain ⟨j, T2, C, rfl, hj, hTl, hIC, hm1, hCS, hO⟩ := hrel
            have HMEM := Lib.hid hm1
            clear hm1
            by_cases hil : j < Tb.length
            · have hi1 : (j : Int) < Tb.length := by omega
              have hi0 : (0 : Int) ≤ j := by omega
              have hsn : Tb.take (j + 1) = Tb.take j ++ [Tb[j]] := List.take_succ_eq_append_getElem hil
              have htm : Tb[j] ∈ Tb := List.getElem_mem _
              obtain ⟨sb, rfl⟩ := tsome hV (by omega)
              have hcell := tcell hV (hO.as (V ++ [])) j hil
              generalize Tb[j] = t at hsn htm hcell
              have htb := hIb.tb t htm
              have htU : pg t ∉ U := fun h => hIb.tw t htm ((HUM.out _).1 h).2
              have HSN := Lib.hid hsn
              have HIL := Lib.hid hil
              clear hsn hil
              by_cases hh : has Ta Wa t
              · go_wp2_with (first
                  | (go_at_call 25; go_must (refine (tHas E _ _ _ A a ma Ta Wa t hIa (by omega) (by omega) (by omega) hAS hO).mono ?_; rintro e w5 ⟨rfl, rfl⟩; rw [decide_eq_true hh]))
                  | (go_at_call 43; go_must (refine (tPut E _ _ _ C c m T2 U t hIC htb (by omega) hCS hO).mono ?_; clear hO hCS hcell; rintro e w5 ⟨rfl, C2, hCS, hO⟩)))
                go_roundw
                case rel =>
                  have hpl := put_len hIC t
                  refine ⟨j + 1, _, C2, by go_num, HIL.out, by omega, hIC.put htb, fun u => ?_, hCS, hO.as _⟩
                  rw [mem_put hIC, HMEM.out, HSN.out, List.mem_append, List.mem_singleton]
                  constructor
                  · rintro (⟨rfl, _⟩ | h1 | ⟨h1, h2⟩)
                    · exact .inr ⟨.inr rfl, hh⟩
                    · exact .inl h1
                    · exact .inr ⟨.inl h1, h2⟩
                  · rintro (h1 | ⟨h1 | rfl, h2⟩)
                    · exact .inr (.inl h1)
                    · exact .inr (.inr ⟨h1, h2⟩)
                    · exact .inl ⟨rfl, htU⟩
                case measure => have := HIL.out; simp [intOf]; omega
              · go_wp2_with (first
                  | (go_at_call 25; go_must (refine (tHas E _ _ _ A a ma Ta Wa t hIa (by omega) (by omega) (by omega) hAS hO).mono ?_; rintro e w5 ⟨rfl, rfl⟩; rw [decide_eq_false hh])))
                go_roundw
                case rel =>
                  refine ⟨j + 1, T2, C, by go_num, HIL.out, by omega, hIC, fun u => ?_, hCS, hO⟩
                  rw [HMEM.out, HSN.out, List.mem_append, List.mem_singleton]
                  constructor
                  · rintro (h1 | ⟨h1, h2⟩)
                    · exact .inl h1
                    · exact .inr ⟨.inl h1, h2⟩
                  · rintro (h1 | ⟨h1 | rfl, h2⟩)
                    · exact .inl h1
                    · exact .inr ⟨h1, h2⟩
                    · exact absurd h2 hh
                case measure => have := HIL.out; simp [intOf]; omega
            · have hi1 : ¬ (j : Int) < Tb.length := by omega
              have hTb2 : Tb.take j = Tb := List.take_of_length_le (by omega)
              have HM3 := Lib.hid (fun t => by rw [HMEM.out t, hTb2] : ∀ t, t ∈ T2 ↔ (t ∈ Ta ∧ has Tb Wb t) ∨ (t ∈ Tb ∧ has Ta Wa t))
              clear HMEM hTb2
              go_wp2_with fail
              refine (tDeg E _ _ _ C c m T2 U hIC (by omega) hCS hO).mono ?_
              clear hO hCS
              rintro e w6 ⟨rfl, T', W', C', hD, hCS, hO⟩
              go_wp2_with fail
              rw [← HPOST.out]
              refine ⟨c, A, B, C', T2, U, T', W', rfl, hAS, hBS, ⟨hIC, HUM.out, HM3.out⟩, ?_, ?_, hO.as _⟩
              · rw [hm]; exact hD
              · rw [hm]; exact hCS
end Go.Proofs.Ytnfclieaendgeaa
