/- The library's Insert at held entries: a new row. -/
import Derived.Test.YticclennllklpaaDoorK3
import Derived.Laws.Externs
import Derived.Lib.SliceRun
set_option linter.all false
/- The library's Insert at held entries: a new row. -/
namespace Go.Proofs.YticclennllklpaaDoor
open Go Go.RowKit Go.Own Go.Dt

def zH : Value := .agg #[.string .empty, .int .i64 0, .int .i64 0, .string .empty, .slice none 0 0, .int .i64 0]
set_option maxRecDepth 100000 in
set_option maxHeartbeats 16000000 in
theorem insGrow (E w : World) (X R S : Fr) (sb n i : Nat) (xs : List Value) (hi : i < n) (hn : n ≤ 2000000000000) (hS : Sl 79 6 (some ⟨sb, 0, none⟩) n n xs S) (hx1 : ∀ u ∈ xs, u.oneCell' = true) (vb : Nat) (vs : List Value) (h6 : vs.length = 6) (h1 : ∀ u ∈ vs, u.oneCell' = true) (hO : Own E w X) [hp : Pick X (S ++ pt vb (.cells vs.toArray 79 (0, 0))) R] :
    Calls Tryd.prog 29 #[.slice (some ⟨sb, 0, none⟩) n n, .int .i64 i, .slice (some ⟨vb, 0, none⟩) 1 1] w (InsP E n i xs vs R) := by
  replace hO : Own E w (S ++ (pt vb (.cells vs.toArray 79 (0, 0)) ++ R)) := by have := hO.perm hp.perm; rwa [List.append_assoc] at this
  clear hp
  generalize hpost : InsP E n i xs vs R = POST
  have HPOST := Lib.hid hpost
  clear hpost
  have H6 := Lib.hid h6
  have H1 := Lib.hid h1
  have HX1 := Lib.hid hx1
  have HI := Lib.hid hi
  clear h6 h1 hx1
  have g1 : (0 : Int) ≤ i := by omega
  have g2 : (i : Int) ≤ n := by omega
  have g3 : ((i : Int) == n) = false := by rw [beq_eq_false_iff_ne]; omega
  have g4 : (n : Int) < (n : Int) + 1 := by omega
  have g5 : IntKind.i64.wrap ((n : Int) + 1) = (n : Int) + 1 := by rw [IntKind.wrap_i64]; omega
  have g6 : IntKind.i64.wrap ((n : Int) + 1 - i) = ((n + 1 - i : Nat) : Int) := by rw [IntKind.wrap_i64]; omega
  have g7 : ¬ n = i := by omega
  have g8 : i ≤ n := by omega
  clear hi
  go_enter Tryd.func29, Tryd.ntmps29
  go_wp2_with (first | (refine at_append ?_; refine Stop.go ?_))
  refine ⟨?_⟩
  have hSt := hS.take i g8
  refine own_append_zeros_new (sz := 6) (bytes := 80) (z := zH) (e := 79) (m := n + 1 - i) sltH (by kernel_rfl) hO ?_ ?_ ?_ rfl hSt ?_ ?_ ?_ ?_ ?_
  · rfl
  · rfl
  · rfl
  · omega
  · simp only [maxLen]; omega
  · omega
  · rw [show i + (n + 1 - i) = n + 1 by omega]; exact next_fits rfl hn (by decide)
  intro a2 c2 S2 w2 hc2 hS2 hO2
  obtain ⟨sb2, ha2⟩ := sl_some9 hS2 (by omega)
  cases ha2
  rw [show i + (n + 1 - i) = n + 1 by omega] at hS2 hc2 ⊢
  have hzl : (Builtin.zeroCells zH.cells (n + 1 - i)).toList.length = (n + 1 - i) * 6 := by rw [Array.length_toList, size_zeroCells]; rfl
  have hxl : (xs.take (i * 6)).length = i * 6 := by rw [List.length_take, hS.len]; omega
  replace hO := hO2.as (S2 ++ (S ++ (pt vb (.cells vs.toArray 79 (0, 0)) ++ R)))
  generalize (Builtin.zeroCells zH.cells (n + 1 - i)).toList = zs at hS2 hzl
  clear hO2 hSt
  have g9 : ¬ c2 = i := by omega
  have g10 : (i : Int) ≤ (n : Int) + 1 := by omega
  have hS2l := hS2.len
  have HZL := Lib.hid hzl
  have HXL := Lib.hid hxl
  have HS2L := Lib.hid hS2l
  clear hzl hxl hS2l
  simp only [Act.put, List.setIfInBounds_toArray, List.set_cons_zero, List.set_cons_succ]
  go_wp2_with (first | (refine at_copy ?_; refine Stop.go ?_))
  refine ⟨?_⟩
  have hnews : (Builtin.firstCells 6 1 (.slice (some ⟨vb, 0, none⟩) 1 1)).run Tryd.prog _ = .ok vs.toArray _ := first_pt (sz := 6) (by rw [H6.out]) hO
  refine own_copy_sl (da := some ⟨sb2, i * 6, none⟩) (dn := n + 1 - i) (dc := c2 - i) (l := i) (m := 1) (news := vs) sltH hO ?_ ?_ ?_ hS2 ?_ hnews ?_ H1.out ?_ ?_ ?_
  · rfl
  · rfl
  · rfl
  · simp only [Nat.min_def]; split <;> omega
  · rw [H6.out]
  · intro _
    rw [Option.map_some, add_lit, Nat.zero_add]
  · omega
  clear hO
  intro S3 w3 hS3 hO
  have hlen3 := hS3.len
  have e3 : ((xs.take (i * 6) ++ zs).take (i * 6) ++ vs ++ (xs.take (i * 6) ++ zs).drop ((i + 1) * 6)) = xs.take (i * 6) ++ vs ++ (xs.take (i * 6) ++ zs).drop ((i + 1) * 6) := by
    rw [List.take_left' HXL.out]
  rw [e3] at hS3 hlen3
  generalize hT : (xs.take (i * 6) ++ zs).drop ((i + 1) * 6) = T at hS3 hlen3
  have hTl : T.length = (n - i) * 6 := by
    rw [List.length_append, List.length_append, HXL.out, H6.out] at hlen3
    omega
  have HTL := Lib.hid hTl
  have hdl : (xs.drop (i * 6)).length = (n - i) * 6 := by rw [List.length_drop, hS.len]; omega
  have HDL := Lib.hid hdl
  replace hO := hO.as (S3 ++ (S ++ (pt vb (.cells vs.toArray 79 (0, 0)) ++ R)))
  clear hT hTl hdl e3 hlen3 hS2 hnews
  have k1 : ¬ c2 = i + 1 := by omega
  have k2 : IntKind.i64.wrap ((i : Int) + 1) = (i : Int) + 1 := by rw [IntKind.wrap_i64]; omega
  have k3 : (0 : Int) ≤ (i : Int) + 1 := by omega
  have k4 : (i : Int) + 1 ≤ (n : Int) + 1 := by omega
  have k5 : ((i : Int) + 1).toNat = i + 1 := by omega
  have hnd : ∀ w', Own E w' S → (Builtin.firstCells 6 (n - i) (.slice (some ⟨sb, i * 6, none⟩) (n - i) (n - i))).run Tryd.prog w' = .ok (xs.drop (i * 6)).toArray w' := fun w' h => by
    refine run_firstCells_some w' 6 (n - i) ⟨sb, i * 6, none⟩ (n - i) (n - i) _ HDL.out ?_
    intro j v hj
    rw [List.getElem?_drop] at hj
    obtain ⟨hlt, hv⟩ := List.getElem?_eq_some_iff.1 hj
    have := hS.cell h ⟨sb, 0, none⟩ rfl (i * 6 + j) hlt
    rw [add_lit, Nat.zero_add] at this
    rw [add_lit, this, hv]
  have HND := Lib.hid hnd
  clear hnd
  simp only [Act.put, List.setIfInBounds_toArray, List.set_cons_zero, List.set_cons_succ]
  go_wp2_with fail
  (try (go_wp2_with fail))
  refine region_sch (fun w' => Own E w' (S)) (.look 0 (.look 1 (.look 2 (.look 3 (.look 4 (.look 5 (.look 6 (.look 7 (.act 8 .done))))))))) (by kernel_rfl) (by kernel_rfl) (fun _ _ d _ _ h => by cases d <;> exact h) ?_ ?_
  · exact hO.drew.as _
  replace hO := hO.drew
  generalize World.drew _ = wdr at hO ⊢
  first | (refine sch_look (o := ?_) (v := ?_) ?_ ?_ ?_ ?_; rotate_left 2; (· ((conv => lhs; whnf); try exact rfl)); (· rfl); (· intro w' hO'; skip; go_simp; (try exact rfl)); simp only [Act.put, List.setIfInBounds_toArray, List.set_cons_zero, List.set_cons_succ]) | (refine sch_pass (o := ?_) ?_ ?_ ?_; rotate_left; (· ((conv => lhs; whnf); try exact rfl)); (· rfl); simp only [Act.put, List.setIfInBounds_toArray, List.set_cons_zero, List.set_cons_succ]) | (refine sch_look (o := ?_) (v := .agg ?_) ?_ ?_ ?_ ?_; rotate_left 2; (· ((conv => lhs; whnf); try exact rfl)); (· rfl); (· intro w' hO'; refine run_opLoadS (b := ?_) (cs := ?_) (e := ?_) (f := ?_) hO' ?_ ?_ ?_ ?_; rotate_left 4; (· exact rfl); (· exact inferInstance); (· simp; done); (· simp; done)); simp only [Act.put, List.setIfInBounds_toArray, List.set_cons_zero, List.set_cons_succ])
  first | (refine sch_look (o := ?_) (v := ?_) ?_ ?_ ?_ ?_; rotate_left 2; (· ((conv => lhs; whnf); try exact rfl)); (· rfl); (· intro w' hO'; skip; go_simp; (try exact rfl)); simp only [Act.put, List.setIfInBounds_toArray, List.set_cons_zero, List.set_cons_succ]) | (refine sch_pass (o := ?_) ?_ ?_ ?_; rotate_left; (· ((conv => lhs; whnf); try exact rfl)); (· rfl); simp only [Act.put, List.setIfInBounds_toArray, List.set_cons_zero, List.set_cons_succ]) | (refine sch_look (o := ?_) (v := .agg ?_) ?_ ?_ ?_ ?_; rotate_left 2; (· ((conv => lhs; whnf); try exact rfl)); (· rfl); (· intro w' hO'; refine run_opLoadS (b := ?_) (cs := ?_) (e := ?_) (f := ?_) hO' ?_ ?_ ?_ ?_; rotate_left 4; (· exact rfl); (· exact inferInstance); (· simp; done); (· simp; done)); simp only [Act.put, List.setIfInBounds_toArray, List.set_cons_zero, List.set_cons_succ])
  first | (refine sch_look (o := ?_) (v := ?_) ?_ ?_ ?_ ?_; rotate_left 2; (· ((conv => lhs; whnf); try exact rfl)); (· rfl); (· intro w' hO'; skip; go_simp; (try exact rfl)); simp only [Act.put, List.setIfInBounds_toArray, List.set_cons_zero, List.set_cons_succ]) | (refine sch_pass (o := ?_) ?_ ?_ ?_; rotate_left; (· ((conv => lhs; whnf); try exact rfl)); (· rfl); simp only [Act.put, List.setIfInBounds_toArray, List.set_cons_zero, List.set_cons_succ]) | (refine sch_look (o := ?_) (v := .agg ?_) ?_ ?_ ?_ ?_; rotate_left 2; (· ((conv => lhs; whnf); try exact rfl)); (· rfl); (· intro w' hO'; refine run_opLoadS (b := ?_) (cs := ?_) (e := ?_) (f := ?_) hO' ?_ ?_ ?_ ?_; rotate_left 4; (· exact rfl); (· exact inferInstance); (· simp; done); (· simp; done)); simp only [Act.put, List.setIfInBounds_toArray, List.set_cons_zero, List.set_cons_succ])
  first | (refine sch_look (o := ?_) (v := ?_) ?_ ?_ ?_ ?_; rotate_left 2; (· ((conv => lhs; whnf); try exact rfl)); (· rfl); (· intro w' hO'; skip; go_simp; (try exact rfl)); simp only [Act.put, List.setIfInBounds_toArray, List.set_cons_zero, List.set_cons_succ]) | (refine sch_pass (o := ?_) ?_ ?_ ?_; rotate_left; (· ((conv => lhs; whnf); try exact rfl)); (· rfl); simp only [Act.put, List.setIfInBounds_toArray, List.set_cons_zero, List.set_cons_succ]) | (refine sch_look (o := ?_) (v := .agg ?_) ?_ ?_ ?_ ?_; rotate_left 2; (· ((conv => lhs; whnf); try exact rfl)); (· rfl); (· intro w' hO'; refine run_opLoadS (b := ?_) (cs := ?_) (e := ?_) (f := ?_) hO' ?_ ?_ ?_ ?_; rotate_left 4; (· exact rfl); (· exact inferInstance); (· simp; done); (· simp; done)); simp only [Act.put, List.setIfInBounds_toArray, List.set_cons_zero, List.set_cons_succ])
  first | (refine sch_look (o := ?_) (v := ?_) ?_ ?_ ?_ ?_; rotate_left 2; (· ((conv => lhs; whnf); try exact rfl)); (· rfl); (· intro w' hO'; skip; go_simp; (try exact rfl)); simp only [Act.put, List.setIfInBounds_toArray, List.set_cons_zero, List.set_cons_succ]) | (refine sch_pass (o := ?_) ?_ ?_ ?_; rotate_left; (· ((conv => lhs; whnf); try exact rfl)); (· rfl); simp only [Act.put, List.setIfInBounds_toArray, List.set_cons_zero, List.set_cons_succ]) | (refine sch_look (o := ?_) (v := .agg ?_) ?_ ?_ ?_ ?_; rotate_left 2; (· ((conv => lhs; whnf); try exact rfl)); (· rfl); (· intro w' hO'; refine run_opLoadS (b := ?_) (cs := ?_) (e := ?_) (f := ?_) hO' ?_ ?_ ?_ ?_; rotate_left 4; (· exact rfl); (· exact inferInstance); (· simp; done); (· simp; done)); simp only [Act.put, List.setIfInBounds_toArray, List.set_cons_zero, List.set_cons_succ])
  first | (refine sch_look (o := ?_) (v := ?_) ?_ ?_ ?_ ?_; rotate_left 2; (· ((conv => lhs; whnf); try exact rfl)); (· rfl); (· intro w' hO'; skip; go_simp; (try exact rfl)); simp only [Act.put, List.setIfInBounds_toArray, List.set_cons_zero, List.set_cons_succ]) | (refine sch_pass (o := ?_) ?_ ?_ ?_; rotate_left; (· ((conv => lhs; whnf); try exact rfl)); (· rfl); simp only [Act.put, List.setIfInBounds_toArray, List.set_cons_zero, List.set_cons_succ]) | (refine sch_look (o := ?_) (v := .agg ?_) ?_ ?_ ?_ ?_; rotate_left 2; (· ((conv => lhs; whnf); try exact rfl)); (· rfl); (· intro w' hO'; refine run_opLoadS (b := ?_) (cs := ?_) (e := ?_) (f := ?_) hO' ?_ ?_ ?_ ?_; rotate_left 4; (· exact rfl); (· exact inferInstance); (· simp; done); (· simp; done)); simp only [Act.put, List.setIfInBounds_toArray, List.set_cons_zero, List.set_cons_succ])
  first | (refine sch_look (o := ?_) (v := ?_) ?_ ?_ ?_ ?_; rotate_left 2; (· ((conv => lhs; whnf); try exact rfl)); (· rfl); (· intro w' hO'; skip; go_simp; (try exact rfl)); simp only [Act.put, List.setIfInBounds_toArray, List.set_cons_zero, List.set_cons_succ]) | (refine sch_pass (o := ?_) ?_ ?_ ?_; rotate_left; (· ((conv => lhs; whnf); try exact rfl)); (· rfl); simp only [Act.put, List.setIfInBounds_toArray, List.set_cons_zero, List.set_cons_succ]) | (refine sch_look (o := ?_) (v := .agg ?_) ?_ ?_ ?_ ?_; rotate_left 2; (· ((conv => lhs; whnf); try exact rfl)); (· rfl); (· intro w' hO'; refine run_opLoadS (b := ?_) (cs := ?_) (e := ?_) (f := ?_) hO' ?_ ?_ ?_ ?_; rotate_left 4; (· exact rfl); (· exact inferInstance); (· simp; done); (· simp; done)); simp only [Act.put, List.setIfInBounds_toArray, List.set_cons_zero, List.set_cons_succ])
  first | (refine sch_look (o := ?_) (v := ?_) ?_ ?_ ?_ ?_; rotate_left 2; (· ((conv => lhs; whnf); try exact rfl)); (· rfl); (· intro w' hO'; skip; go_simp; (try exact rfl)); simp only [Act.put, List.setIfInBounds_toArray, List.set_cons_zero, List.set_cons_succ]) | (refine sch_pass (o := ?_) ?_ ?_ ?_; rotate_left; (· ((conv => lhs; whnf); try exact rfl)); (· rfl); simp only [Act.put, List.setIfInBounds_toArray, List.set_cons_zero, List.set_cons_succ]) | (refine sch_look (o := ?_) (v := .agg ?_) ?_ ?_ ?_ ?_; rotate_left 2; (· ((conv => lhs; whnf); try exact rfl)); (· rfl); (· intro w' hO'; refine run_opLoadS (b := ?_) (cs := ?_) (e := ?_) (f := ?_) hO' ?_ ?_ ?_ ?_; rotate_left 4; (· exact rfl); (· exact inferInstance); (· simp; done); (· simp; done)); simp only [Act.put, List.setIfInBounds_toArray, List.set_cons_zero, List.set_cons_succ])
  (refine sch_act (o := ?_) ?_ ?_; rotate_left; (· ((conv => lhs; whnf); try exact rfl)))
  go_wp2_with (first | (refine at_copy ?_; refine Stop.go ?_))
  refine ⟨?_⟩
  refine own_copy_sl (da := some ⟨sb2, (i + 1) * 6, none⟩) (dn := n - i) (dc := c2 - (i + 1)) (ua := some ⟨sb, i * 6, none⟩) (un := n - i) (uc := n - i) (l := i + 1) (m := n - i) (news := xs.drop (i * 6)) sltH hO ?_ ?_ ?_ hS3 ?_ (HND.out _ (hO.as S)) HDL.out ?_ ?_ ?_ ?_
  (· rfl)
  (· rfl)
  (· rfl)
  (· simp only [Nat.min_def]; split <;> omega)
  (· intro u hu; exact HX1.out u (List.mem_of_mem_drop hu))
  (· intro _; rw [Option.map_some, add_lit, Nat.zero_add])
  (· have := HI.out; omega)
  clear hO
  intro S4 w4 hS4 hO
  refine ⟨hO.as _, ?_⟩
  refine sch_done ?_
  go_wp2_with fail
  rw [← HPOST.out]
  have hAB : (xs.take (i * 6) ++ vs).length = (i + 1) * 6 := by rw [List.length_append, HXL.out, H6.out]; omega
  have hD : (xs.take (i * 6) ++ vs ++ T).drop ((i + 1 + (n - i)) * 6) = [] := List.drop_of_length_le (by rw [List.length_append, hAB, HTL.out]; omega)
  rw [List.take_left' hAB, hD, List.append_nil] at hS4
  exact ⟨_, c2, S4, rfl, hS4, hO.as _⟩
end Go.Proofs.YticclennllklpaaDoor

/- The library's Insert at held entries: where there is room. -/
namespace Go.Proofs.YticclennllklpaaDoor
open Go Go.RowKit Go.Own Go.Dt

theorem overl (w : World) (E : World) (X R : Fr) (b vb q la lb ca : Nat) (cs : Array Value) (vs : Array Value) (hcs : cs.size ≠ 0) (hO : Own E w X) [hp : Pick X (pt b (.cells cs 79 (0, 0)) ++ pt vb (.cells vs 79 (0, 0))) R] :
    (callFunc 47 #[.slice (some ⟨vb, 0, none⟩) 1 1, .slice (some ⟨b, q, none⟩) lb ca]).run Tryd.prog w = .ok (.value (.bool false)) w := by
  have hO2 : Own E w (pt b (.cells cs 79 (0, 0)) ++ (pt vb (.cells vs 79 (0, 0)) ++ R)) := by have := hO.perm hp.perm; rwa [List.append_assoc] at this
  have hne : vb ≠ b := hO2.ne
  have hc := Own.cells hO2
  simp only [cellsOf_append, cellsOf_pt] at hc
  have hshv : w.shape? vb = some (79, vs.size) := by
    have := hO2.get (b := vb)
    simp [World.shape?, this]
  have hshb : w.shape? b = some (79, cs.size) := by
    have := hO2.get (b := b)
    simp [World.shape?, this]
  rw [run_callFunc_extern Tryd.func47 (by kernel_rfl) (by kernel_rfl) (by kernel_rfl) (e := Extern.SlicesOverlaps.overlaps #[64, 64] #[4]) (by kernel_rfl),
    Lib.run_overlaps_apart w 64 4 79 sltH.und 6 (fun w => sltH.size w) ⟨vb, 0, none⟩ ⟨b, q, none⟩ 1 1 lb ca hne 79 79 vs.size cs.size hshv hshb hcs (hc.2.1.2 0) (hc.2.1.2 vs.size)]
  rfl
set_option maxRecDepth 100000 in
set_option maxHeartbeats 16000000 in
theorem insRoom (E w : World) (X R S : Fr) (sb n cap i : Nat) (xs : List Value) (hi : i < n) (hroom : n + 1 ≤ cap) (hn : n ≤ 2000000000000) (hS : Sl 79 6 (some ⟨sb, 0, none⟩) n cap xs S) (hx1 : ∀ u ∈ xs, u.oneCell' = true) (vb : Nat) (vs : List Value) (h6 : vs.length = 6) (h1 : ∀ u ∈ vs, u.oneCell' = true) (hO : Own E w X) [hp : Pick X (S ++ pt vb (.cells vs.toArray 79 (0, 0))) R] :
    Calls Tryd.prog 29 #[.slice (some ⟨sb, 0, none⟩) n cap, .int .i64 i, .slice (some ⟨vb, 0, none⟩) 1 1] w (InsP E n i xs vs R) := by
  replace hO : Own E w (S ++ (pt vb (.cells vs.toArray 79 (0, 0)) ++ R)) := by have := hO.perm hp.perm; rwa [List.append_assoc] at this
  clear hp
  generalize hpost : InsP E n i xs vs R = POST
  have HPOST := Lib.hid hpost
  clear hpost
  have H6 := Lib.hid h6
  have H1 := Lib.hid h1
  have HX1 := Lib.hid hx1
  have HI := Lib.hid hi
  clear h6 h1 hx1
  obtain ⟨ys, hyl, hSL⟩ := hS.longer hroom
  have hcm := hS.cap_le
  unfold maxLen at hcm
  have g1 : (0 : Int) ≤ i := by omega
  have g2 : (i : Int) ≤ n := by omega
  have g3 : ((i : Int) == n) = false := by rw [beq_eq_false_iff_ne]; omega
  have g4 : ¬ (cap : Int) < (n : Int) + 1 := by omega
  have g5 : IntKind.i64.wrap ((n : Int) + 1) = (n : Int) + 1 := by rw [IntKind.wrap_i64]; omega
  have g7 : ¬ cap = i := by omega
  have g9 : (0 : Int) ≤ (n : Int) + 1 := by omega
  have g10 : (n : Int) + 1 ≤ cap := by omega
  have k1 : ¬ cap = i + 1 := by omega
  have k2 : IntKind.i64.wrap ((i : Int) + 1) = (i : Int) + 1 := by rw [IntKind.wrap_i64]; omega
  have k3 : (0 : Int) ≤ (i : Int) + 1 := by omega
  have k4 : (i : Int) + 1 ≤ (n : Int) + 1 := by omega
  have k5 : ((i : Int) + 1).toNat = i + 1 := by omega
  have k6 : ((n : Int) + 1).toNat = n + 1 := by omega
  have k7 : (i : Int) ≤ (n : Int) + 1 := by omega
  have hxl := hS.len
  have HXL := Lib.hid hxl
  have HYL := Lib.hid hyl
  have HSS := Lib.hid hS
  clear hi hS hxl hyl hcm
  have hov : ∀ lb cb, (callFunc 47 #[.slice (some ⟨vb, 0, none⟩) 1 1, .slice (some ⟨sb, (i + 1) * 6, none⟩) lb cb]).run Tryd.prog w = .ok (.value (.bool false)) w := fun lb cb => by
    rcases hSL.2.2.2 with ⟨h, _, _⟩ | ⟨b, rst, hb, hl, hA⟩
    · cases h
    · cases hb
      subst hA
      exact overl w E _ R sb vb ((i + 1) * 6) 1 lb cb ((xs ++ ys) ++ rst).toArray vs.toArray (by rw [List.size_toArray, hl]; omega) (hO.as ((pt sb (.cells ((xs ++ ys) ++ rst).toArray 79 (0, 0)) ++ pt vb (.cells vs.toArray 79 (0, 0))) ++ R))
  go_enter Tryd.func29, Tryd.ntmps29
  go_wp2_with (first | (simp only [hov]) | (refine at_copy ?_; refine Stop.go ?_))
  have hdl : (xs.drop (i * 6)).length = (n - i) * 6 := by rw [List.length_drop, HXL.out]; omega
  have HDL := Lib.hid hdl
  clear hdl
  have hnd : ∀ w', Own E w' S → (Builtin.firstCells 6 (n - i) (.slice (some ⟨sb, i * 6, none⟩) (n + 1 - i) (cap - i))).run Tryd.prog w' = .ok (xs.drop (i * 6)).toArray w' := fun w' h => by
    refine run_firstCells_some w' 6 (n - i) ⟨sb, i * 6, none⟩ (n + 1 - i) (cap - i) _ HDL.out ?_
    intro j v hj
    rw [List.getElem?_drop] at hj
    obtain ⟨hlt, hv⟩ := List.getElem?_eq_some_iff.1 hj
    have := HSS.out.cell h ⟨sb, 0, none⟩ rfl (i * 6 + j) hlt
    rw [add_lit, Nat.zero_add] at this
    rw [add_lit, this, hv]
  have HND := Lib.hid hnd
  clear hnd hov
  (try (go_wp2_with fail))
  refine region_sch (fun w' => Own E w' (pt vb (.cells vs.toArray 79 (0, 0)))) (.look 0 (.look 1 (.look 2 (.look 3 (.look 4 (.look 5 (.look 6 (.look 7 (.act 8 .done))))))))) (by kernel_rfl) (by kernel_rfl) (fun _ _ d _ _ h => by cases d <;> exact h) ?_ ?_
  · exact hO.drew.as _
  replace hO := hO.drew
  generalize World.drew _ = wdr at hO ⊢
  first | (refine sch_look (o := ?_) (v := ?_) ?_ ?_ ?_ ?_; rotate_left 2; (· ((conv => lhs; whnf); try exact rfl)); (· rfl); (· intro w' hO'; skip; go_simp; (try exact rfl)); simp only [Act.put, List.setIfInBounds_toArray, List.set_cons_zero, List.set_cons_succ]) | (refine sch_pass (o := ?_) ?_ ?_ ?_; rotate_left; (· ((conv => lhs; whnf); try exact rfl)); (· rfl); simp only [Act.put, List.setIfInBounds_toArray, List.set_cons_zero, List.set_cons_succ]) | (refine sch_look (o := ?_) (v := .agg ?_) ?_ ?_ ?_ ?_; rotate_left 2; (· ((conv => lhs; whnf); try exact rfl)); (· rfl); (· intro w' hO'; refine run_opLoadS (b := ?_) (cs := ?_) (e := ?_) (f := ?_) hO' ?_ ?_ ?_ ?_; rotate_left 4; (· exact rfl); (· exact inferInstance); (· simp; done); (· simp; done)); simp only [Act.put, List.setIfInBounds_toArray, List.set_cons_zero, List.set_cons_succ])
  first | (refine sch_look (o := ?_) (v := ?_) ?_ ?_ ?_ ?_; rotate_left 2; (· ((conv => lhs; whnf); try exact rfl)); (· rfl); (· intro w' hO'; skip; go_simp; (try exact rfl)); simp only [Act.put, List.setIfInBounds_toArray, List.set_cons_zero, List.set_cons_succ]) | (refine sch_pass (o := ?_) ?_ ?_ ?_; rotate_left; (· ((conv => lhs; whnf); try exact rfl)); (· rfl); simp only [Act.put, List.setIfInBounds_toArray, List.set_cons_zero, List.set_cons_succ]) | (refine sch_look (o := ?_) (v := .agg ?_) ?_ ?_ ?_ ?_; rotate_left 2; (· ((conv => lhs; whnf); try exact rfl)); (· rfl); (· intro w' hO'; refine run_opLoadS (b := ?_) (cs := ?_) (e := ?_) (f := ?_) hO' ?_ ?_ ?_ ?_; rotate_left 4; (· exact rfl); (· exact inferInstance); (· simp; done); (· simp; done)); simp only [Act.put, List.setIfInBounds_toArray, List.set_cons_zero, List.set_cons_succ])
  first | (refine sch_look (o := ?_) (v := ?_) ?_ ?_ ?_ ?_; rotate_left 2; (· ((conv => lhs; whnf); try exact rfl)); (· rfl); (· intro w' hO'; skip; go_simp; (try exact rfl)); simp only [Act.put, List.setIfInBounds_toArray, List.set_cons_zero, List.set_cons_succ]) | (refine sch_pass (o := ?_) ?_ ?_ ?_; rotate_left; (· ((conv => lhs; whnf); try exact rfl)); (· rfl); simp only [Act.put, List.setIfInBounds_toArray, List.set_cons_zero, List.set_cons_succ]) | (refine sch_look (o := ?_) (v := .agg ?_) ?_ ?_ ?_ ?_; rotate_left 2; (· ((conv => lhs; whnf); try exact rfl)); (· rfl); (· intro w' hO'; refine run_opLoadS (b := ?_) (cs := ?_) (e := ?_) (f := ?_) hO' ?_ ?_ ?_ ?_; rotate_left 4; (· exact rfl); (· exact inferInstance); (· simp; done); (· simp; done)); simp only [Act.put, List.setIfInBounds_toArray, List.set_cons_zero, List.set_cons_succ])
  first | (refine sch_look (o := ?_) (v := ?_) ?_ ?_ ?_ ?_; rotate_left 2; (· ((conv => lhs; whnf); try exact rfl)); (· rfl); (· intro w' hO'; skip; go_simp; (try exact rfl)); simp only [Act.put, List.setIfInBounds_toArray, List.set_cons_zero, List.set_cons_succ]) | (refine sch_pass (o := ?_) ?_ ?_ ?_; rotate_left; (· ((conv => lhs; whnf); try exact rfl)); (· rfl); simp only [Act.put, List.setIfInBounds_toArray, List.set_cons_zero, List.set_cons_succ]) | (refine sch_look (o := ?_) (v := .agg ?_) ?_ ?_ ?_ ?_; rotate_left 2; (· ((conv => lhs; whnf); try exact rfl)); (· rfl); (· intro w' hO'; refine run_opLoadS (b := ?_) (cs := ?_) (e := ?_) (f := ?_) hO' ?_ ?_ ?_ ?_; rotate_left 4; (· exact rfl); (· exact inferInstance); (· simp; done); (· simp; done)); simp only [Act.put, List.setIfInBounds_toArray, List.set_cons_zero, List.set_cons_succ])
  first | (refine sch_look (o := ?_) (v := ?_) ?_ ?_ ?_ ?_; rotate_left 2; (· ((conv => lhs; whnf); try exact rfl)); (· rfl); (· intro w' hO'; skip; go_simp; (try exact rfl)); simp only [Act.put, List.setIfInBounds_toArray, List.set_cons_zero, List.set_cons_succ]) | (refine sch_pass (o := ?_) ?_ ?_ ?_; rotate_left; (· ((conv => lhs; whnf); try exact rfl)); (· rfl); simp only [Act.put, List.setIfInBounds_toArray, List.set_cons_zero, List.set_cons_succ]) | (refine sch_look (o := ?_) (v := .agg ?_) ?_ ?_ ?_ ?_; rotate_left 2; (· ((conv => lhs; whnf); try exact rfl)); (· rfl); (· intro w' hO'; refine run_opLoadS (b := ?_) (cs := ?_) (e := ?_) (f := ?_) hO' ?_ ?_ ?_ ?_; rotate_left 4; (· exact rfl); (· exact inferInstance); (· simp; done); (· simp; done)); simp only [Act.put, List.setIfInBounds_toArray, List.set_cons_zero, List.set_cons_succ])
  first | (refine sch_look (o := ?_) (v := ?_) ?_ ?_ ?_ ?_; rotate_left 2; (· ((conv => lhs; whnf); try exact rfl)); (· rfl); (· intro w' hO'; skip; go_simp; (try exact rfl)); simp only [Act.put, List.setIfInBounds_toArray, List.set_cons_zero, List.set_cons_succ]) | (refine sch_pass (o := ?_) ?_ ?_ ?_; rotate_left; (· ((conv => lhs; whnf); try exact rfl)); (· rfl); simp only [Act.put, List.setIfInBounds_toArray, List.set_cons_zero, List.set_cons_succ]) | (refine sch_look (o := ?_) (v := .agg ?_) ?_ ?_ ?_ ?_; rotate_left 2; (· ((conv => lhs; whnf); try exact rfl)); (· rfl); (· intro w' hO'; refine run_opLoadS (b := ?_) (cs := ?_) (e := ?_) (f := ?_) hO' ?_ ?_ ?_ ?_; rotate_left 4; (· exact rfl); (· exact inferInstance); (· simp; done); (· simp; done)); simp only [Act.put, List.setIfInBounds_toArray, List.set_cons_zero, List.set_cons_succ])
  first | (refine sch_look (o := ?_) (v := ?_) ?_ ?_ ?_ ?_; rotate_left 2; (· ((conv => lhs; whnf); try exact rfl)); (· rfl); (· intro w' hO'; skip; go_simp; (try exact rfl)); simp only [Act.put, List.setIfInBounds_toArray, List.set_cons_zero, List.set_cons_succ]) | (refine sch_pass (o := ?_) ?_ ?_ ?_; rotate_left; (· ((conv => lhs; whnf); try exact rfl)); (· rfl); simp only [Act.put, List.setIfInBounds_toArray, List.set_cons_zero, List.set_cons_succ]) | (refine sch_look (o := ?_) (v := .agg ?_) ?_ ?_ ?_ ?_; rotate_left 2; (· ((conv => lhs; whnf); try exact rfl)); (· rfl); (· intro w' hO'; refine run_opLoadS (b := ?_) (cs := ?_) (e := ?_) (f := ?_) hO' ?_ ?_ ?_ ?_; rotate_left 4; (· exact rfl); (· exact inferInstance); (· simp; done); (· simp; done)); simp only [Act.put, List.setIfInBounds_toArray, List.set_cons_zero, List.set_cons_succ])
  first | (refine sch_look (o := ?_) (v := ?_) ?_ ?_ ?_ ?_; rotate_left 2; (· ((conv => lhs; whnf); try exact rfl)); (· rfl); (· intro w' hO'; skip; go_simp; (try exact rfl)); simp only [Act.put, List.setIfInBounds_toArray, List.set_cons_zero, List.set_cons_succ]) | (refine sch_pass (o := ?_) ?_ ?_ ?_; rotate_left; (· ((conv => lhs; whnf); try exact rfl)); (· rfl); simp only [Act.put, List.setIfInBounds_toArray, List.set_cons_zero, List.set_cons_succ]) | (refine sch_look (o := ?_) (v := .agg ?_) ?_ ?_ ?_ ?_; rotate_left 2; (· ((conv => lhs; whnf); try exact rfl)); (· rfl); (· intro w' hO'; refine run_opLoadS (b := ?_) (cs := ?_) (e := ?_) (f := ?_) hO' ?_ ?_ ?_ ?_; rotate_left 4; (· exact rfl); (· exact inferInstance); (· simp; done); (· simp; done)); simp only [Act.put, List.setIfInBounds_toArray, List.set_cons_zero, List.set_cons_succ])
  (refine sch_act (o := ?_) ?_ ?_; rotate_left; (· ((conv => lhs; whnf); try exact rfl)))
  go_wp2_with (first | (refine at_copy ?_; refine Stop.go ?_))
  refine ⟨?_⟩
  refine own_copy_sl (da := some ⟨sb, (i + 1) * 6, none⟩) (dn := n - i) (dc := cap - (i + 1)) (ua := some ⟨sb, i * 6, none⟩) (un := n + 1 - i) (uc := cap - i) (l := i + 1) (m := n - i) (news := xs.drop (i * 6)) sltH hO ?_ ?_ ?_ hSL ?_ (HND.out _ (hO.as S)) HDL.out ?_ ?_ ?_ ?_
  (· rfl)
  (· rfl)
  (· rfl)
  (· simp only [Nat.min_def]; split <;> omega)
  (· intro u hu; exact HX1.out u (List.mem_of_mem_drop hu))
  (· intro _; rw [Option.map_some, add_lit, Nat.zero_add])
  (· have := HI.out; omega)
  clear hO
  intro S4 w4 hS4 hO
  refine ⟨hO.as _, ?_⟩
  refine sch_done ?_
  have hBl : ((xs ++ ys).take ((i + 1) * 6)).length = (i + 1) * 6 := by rw [List.length_take, List.length_append, HXL.out, HYL.out]; have := HI.out; omega
  have hD : (xs ++ ys).drop ((i + 1 + (n - i)) * 6) = [] := List.drop_of_length_le (by rw [List.length_append, HXL.out, HYL.out]; have := HI.out; omega)
  have hBt : ((xs ++ ys).take ((i + 1) * 6)).take (i * 6) = xs.take (i * 6) := by
    rw [List.take_take, Nat.min_eq_left (by omega), List.take_append_of_le_length (by rw [HXL.out]; have := HI.out; omega)]
  rw [hD, List.append_nil] at hS4
  generalize (xs ++ ys).take ((i + 1) * 6) = B at hS4 hBl hBt
  have HBL := Lib.hid hBl
  have HBT := Lib.hid hBt
  clear hBl hBt hD hSL
  go_wp2_with (first | (refine at_copy ?_; refine Stop.go ?_))
  refine ⟨?_⟩
  have hnews : (Builtin.firstCells 6 1 (.slice (some ⟨vb, 0, none⟩) 1 1)).run Tryd.prog _ = .ok vs.toArray _ := first_pt (sz := 6) (by rw [H6.out]) hO
  refine own_copy_sl (da := some ⟨sb, i * 6, none⟩) (dn := n + 1 - i) (dc := cap - i) (l := i) (m := 1) (news := vs) sltH hO ?_ ?_ ?_ hS4 ?_ hnews ?_ H1.out ?_ ?_ ?_
  · rfl
  · rfl
  · rfl
  · have := HI.out; simp only [Nat.min_def]; split <;> omega
  · rw [H6.out]
  · intro _
    rw [Option.map_some, add_lit, Nat.zero_add]
  · have := HI.out; omega
  clear hO
  intro S5 w5 hS5 hO
  simp only [Act.put, List.setIfInBounds_toArray, List.set_cons_zero, List.set_cons_succ]
  go_wp2_with fail
  rw [← HPOST.out]
  have e5 : (B ++ xs.drop (i * 6)).take (i * 6) ++ vs ++ (B ++ xs.drop (i * 6)).drop ((i + 1) * 6) = xs.take (i * 6) ++ vs ++ xs.drop (i * 6) := by
    rw [List.take_append_of_le_length (by rw [HBL.out]; omega), HBT.out, List.drop_left' HBL.out]
  rw [e5] at hS5
  exact ⟨_, cap, S5, rfl, hS5, hO.as _⟩
end Go.Proofs.YticclennllklpaaDoor

/- The library's Insert at held entries; a list of its own. -/
namespace Go.Own
open Go.RowKit
section
variable {P : Program} {ops : Array Oper} {Q : Exit → Act → World → Prop} {rest : List Oper} {a : Act} {E w : World} {X : Fr} {d : Option Tmp} {ty : TypeId} {pos : String} {aft : Array Edge} {g : Option (Nat × Bool)}
/-- A slice without elements, of its own. -/
theorem own_build0 {t e : TypeId} {sz bytes : Nat} {z : Value} (hT : SlT P t e sz bytes z) (hO : Own E w X)
    (hw : Region.wanted ⟨d, .buildSlice t 0 #[], ty, pos, aft, g⟩ (yielded ops a.tmps) = true)
    (next : ∀ b w1, Own E w1 (pt b (.cells #[] e) ++ X) → wpList P ops Q rest (a.put d (.slice (some ⟨b, 0, none⟩) 0 0)) w1) :
    wpList P ops Q (⟨d, .buildSlice t 0 #[], ty, pos, aft, g⟩ :: rest) a w := by
  obtain ⟨i, hi, hz, hsz, hby⟩ := hT.parts
  refine wpList_run_value hw ?_ (next _ _ (hO.alloc _))
  simp [execOp, Instr.buildSlice, run_underlying hT.und, sizeOf, typeInfo, zeroValue, hi, hz, hsz, newRow, Instr.fill]
  congr 2
  exact Array.eq_empty_of_size_eq_zero (by simp)
end
end Go.Own
namespace Go.Proofs.YticclennllklpaaDoor
open Go Go.RowKit Go.Own Go.Dt

theorem insH (E w : World) (X R S : Fr) (sa : Option Addr) (n cap i : Nat) (xs : List Value) (hi : i ≤ n) (hn : n ≤ 2000000000000) (hS : Sl 79 6 sa n cap xs S) (hx1 : ∀ u ∈ xs, u.oneCell' = true) (vb : Nat) (vs : List Value) (h6 : vs.length = 6) (h1 : ∀ u ∈ vs, u.oneCell' = true) (hO : Own E w X) [hp : Pick X (S ++ pt vb (.cells vs.toArray 79 (0, 0))) R] :
    Calls Tryd.prog 29 #[.slice sa n cap, .int .i64 i, .slice (some ⟨vb, 0, none⟩) 1 1] w (InsP E n i xs vs R) := by
  have hO1 : Own E w ((S ++ pt vb (.cells vs.toArray 79 (0, 0))) ++ R) := hO.perm hp.perm
  by_cases he : i = n
  · subst he
    exact insEnd E w _ R S sa cap i xs hn hS vb vs h6 h1 hO1
  · obtain ⟨sb, rfl⟩ := sl_some9 hS (by omega)
    by_cases hc : cap = n
    · subst hc
      exact insGrow E w _ R S sb cap i xs (by omega) hn hS hx1 vb vs h6 h1 hO1
    · have := hS.le
      exact insRoom E w _ R S sb n cap i xs (by omega) (by omega) hn hS hx1 vb vs h6 h1 hO1
theorem sltD : SlT Tryd.prog 28 30 4 56 (.agg #[.int .i64 0, .int .i64 0, .string .empty, .slice none 0 0]) := ⟨by kernel_rfl, by kernel_rfl, rfl⟩
def rowsD (l : List It) (ia : Nat → Option Addr) (ic : Nat → Nat) : List Value := l.zipIdx.flatMap fun x => itV x.1 (ia x.2) (ic x.2)
theorem rowsD_len (l : List It) (ia : Nat → Option Addr) (ic : Nat → Nat) : (rowsD l ia ic).length = l.length * 4 := by
  unfold rowsD
  rw [rows_len _ 4 (fun _ => rfl), List.length_zipIdx]
theorem rowsD_at (l : List It) (ia : Nat → Option Addr) (ic : Nat → Nat) (i : Nat) (hi : i < l.length) (j : Nat) (hj : j < 4) : (rowsD l ia ic)[i * 4 + j]? = (itV (l[i]'hi) (ia i) (ic i))[j]? := by
  unfold rowsD
  have hz : i < l.zipIdx.length := by rw [List.length_zipIdx]; exact hi
  rw [rows_at _ 4 (fun _ => rfl) l.zipIdx i hz j hj, List.getElem_zipIdx, Nat.zero_add]
theorem rowsD_one (l : List It) (ia : Nat → Option Addr) (ic : Nat → Nat) : ∀ u ∈ rowsD l ia ic, u.oneCell' = true := by
  intro u hu
  unfold rowsD at hu
  obtain ⟨x, _, hx⟩ := List.mem_flatMap.1 hu
  unfold itV at hx
  simp only [List.mem_cons, List.not_mem_nil, or_false] at hx
  rcases hx with rfl | rfl | rfl | rfl <;> rfl
/-- Rows of items of a slice of its own. -/
theorem items_own {E : World} {so : Option Addr} {co : Nat} {SO : Fr} {l : List It} {ia : Nat → Option Addr} {ic : Nat → Nat} (hS : Sl 30 4 so l.length co (rowsD l ia ic) SO) : ItemsAt E SO so l := by
  refine ⟨ia, ic, fun Y w hO i hi => ?_⟩
  obtain ⟨b, rfl⟩ := sl_some9 hS (by omega)
  refine ⟨⟨b, 0, none⟩, rfl, fun j u hj => ?_⟩
  have hj4 : j < 4 := by have := (List.getElem?_eq_some_iff.1 hj).1; exact this
  have hlt : i * 4 + j < (rowsD l ia ic).length := by rw [rowsD_len]; omega
  have := hS.cell hO ⟨b, 0, none⟩ rfl (i * 4 + j) hlt
  rw [add_lit, Nat.zero_add] at this
  rw [add_lit, add_lit, Nat.zero_add, this, ← List.getElem?_eq_getElem hlt, rowsD_at l ia ic i hi j hj4, hj]
def CloP (E : World) (l : List It) (X : Fr) (e : Ending) (w' : World) : Prop :=
  ∃ (so : Option Addr) (co : Nat) (SO : Fr), e = .returned (.slice so l.length co) ∧ ItemsAt E SO so l ∧ Own E w' (SO ++ X)
set_option maxRecDepth 100000 in
set_option maxHeartbeats 16000000 in
theorem cloneD (E w : World) (X R I : Fr) (sa : Option Addr) (cap : Nat) (l : List It) (hl : l.length ≤ 8) (hI : ItemsAt E I sa l) (hO : Own E w X) [hp : Pick X I R] :
    Calls Tryd.prog 49 #[.slice sa l.length cap] w (CloP E l (I ++ R)) := by
  replace hO := hO.perm hp.perm
  clear hp
  generalize hpost : CloP E l (I ++ R) = POST
  have HPOST := Lib.hid hpost
  clear hpost
  cases sa with
  | none =>
    have hl0 : l = [] := by
      cases l with
      | nil => rfl
      | cons x l =>
        obtain ⟨ia, ic, h⟩ := hI
        obtain ⟨ad, h1, _⟩ := h R w hO 0 (Nat.succ_pos _)
        cases h1
    subst hl0
    have q : ∀ (w : World) (n c : Nat), (binOp .eql 28 (.slice none n c) (.slice none 0 0)).run Tryd.prog w = .ok (.bool true) w := fun w n c => Lib.run_eql_slice_nil w _ _ none n c 0 0 sltD.und
    go_enter Tryd.func49, Tryd.ntmps49
    go_wp2_with fail
    rw [← HPOST.out]
    exact ⟨none, _, [], rfl, ItemsAt.nil _ _ _, hO⟩
  | some ad =>
    obtain ⟨ia, ic, h⟩ := hI
    have hcs : ∀ w', Own E w' (I ++ R) → (Builtin.firstCells 4 l.length (.slice (some ad) l.length cap)).run Tryd.prog w' = .ok (rowsD l ia ic).toArray w' := fun w' h' => by
      refine run_firstCells_some w' 4 l.length ad l.length cap _ (rowsD_len l ia ic) ?_
      intro j v hj
      have hjl : j < l.length * 4 := by have := (List.getElem?_eq_some_iff.1 hj).1; rwa [rowsD_len] at this
      have e1 : j = j / 4 * 4 + j % 4 := by omega
      have hi : j / 4 < l.length := by omega
      obtain ⟨ad', h1, h2⟩ := h R w' h' (j / 4) hi
      cases h1
      have h3 := h2 (j % 4) v (by rw [← rowsD_at l ia ic (j / 4) hi (j % 4) (by omega), ← e1]; exact hj)
      rw [add_add] at h3
      rwa [← e1] at h3
    have HCS := Lib.hid hcs
    clear hcs h
    have q : ∀ (w : World) (n c : Nat), (binOp .eql 28 (.slice (some ad) n c) (.slice none 0 0)).run Tryd.prog w = .ok (.bool false) w := fun w n c => Lib.run_eql_slice_nil w _ _ (some ad) n c 0 0 sltD.und
    go_enter Tryd.func49, Tryd.ntmps49
    go_wp2_with (first | (refine at_bs ?_; refine own_build0 sltD hO ?_ ?_; (· rfl); clear hO; intro b3 _ hO; simp only [Act.put, List.setIfInBounds_toArray, List.set_cons_zero, List.set_cons_succ]) | (refine at_append ?_; refine Stop.go ?_))
    refine ⟨?_⟩
    have hS0 : Sl 30 4 (some ⟨b3, 0, none⟩) 0 0 [] (pt b3 (.cells #[] 30 (0, 0))) := ⟨rfl, Nat.le_refl _, by simp [maxLen], .inr ⟨b3, [], rfl, rfl, rfl⟩⟩
    refine own_append (sz := 4) (bytes := 56) (z := .agg #[.int .i64 0, .int .i64 0, .string .empty, .slice none 0 0]) (e := 30) (xv := .slice (some ad) l.length cap) (m := l.length) (news := rowsD l ia ic) sltD (.inl (by kernel_rfl)) hO ?_ ?_ ?_ hS0 ?_ ?_ ?_ ?_ ?_ ?_ ?_
    · rfl
    · rfl
    · rfl
    · intro w; rfl
    · intro w' hO'; exact HCS.out w' (hO'.as _)
    · exact rowsD_len l ia ic
    · exact rowsD_one l ia ic
    · simp only [maxLen]; omega
    · left; omega
    clear hO
    intro so4 co4 SO4 w7 hSO4 hO
    rw [Nat.zero_add, List.nil_append] at hSO4
    rw [Nat.zero_add]
    simp only [Act.put, List.setIfInBounds_toArray, List.set_cons_zero, List.set_cons_succ]
    go_wp2_with fail
    rw [← HPOST.out]
    exact ⟨so4, co4, SO4, rfl, items_own hSO4, hO⟩
end Go.Proofs.YticclennllklpaaDoor

/- The method: a datum of its own; NewPlain. -/
namespace Go.Proofs.YticclennllklpaaDoor
open Go Go.RowKit Go.Own Go.Dt

def OwnP (E : World) (d : Dt) (X : Fr) (e : Ending) (w' : World) : Prop :=
  ∃ (so : Option Addr) (co : Nat) (SO : Fr), e = .returned (.agg #[.int .i64 d.k, .int .i64 d.n, .string d.s, .slice so d.l.length co]) ∧ ItemsAt E SO so d.l ∧ Own E w' (SO ++ X)
set_option maxRecDepth 100000 in
set_option maxHeartbeats 16000000 in
theorem ownD (E w : World) (X R I : Fr) (d : Dt) (sa : Option Addr) (cap : Nat) (hl : d.l.length ≤ 8) (hI : ItemsAt E I sa d.l) (hO : Own E w X) [hp : Pick X I R] :
    Calls Tryd.prog 30 #[.agg #[.int .i64 d.k, .int .i64 d.n, .string d.s, .slice sa d.l.length cap]] w (OwnP E d (I ++ R)) := by
  replace hO := hO.perm hp.perm
  clear hp
  generalize hpost : OwnP E d (I ++ R) = POST
  have HPOST := Lib.hid hpost
  clear hpost
  go_enter Tryd.func30, Tryd.ntmps30
  go_wp2_with (first | (refine at_box ?_; go_must (refine own_box (v := ?_) hO ?_ ?_ ?_; rotate_left; (· rfl); (· ((conv => lhs; whnf); try exact rfl)); clear hO; (try clear hF); intro ob _ hO; (try simp only [Value.cells] at hO); ((try simp only [List.nil_append, List.append_nil] at hO); have hF := Own.cells hO; simp only [cellsOf_append, cellsOf_pt] at hF); simp only [Act.put, List.setIfInBounds_toArray, List.set_cons_zero, List.set_cons_succ])) | (refine at_alloc ?_; go_must (refine own_alloc (z := .agg #[.int .i64 0, .int .i64 0, .string .empty, .slice none 0 0]) hO ?_ ?_ ?_; (· rfl); (· kernel_rfl); clear hO; (try clear hF); intro nb _ hO; (try simp only [Value.cells] at hO); ((try simp only [List.nil_append, List.append_nil] at hO); have hF := Own.cells hO; simp only [cellsOf_append, cellsOf_pt] at hF); simp only [Act.put, List.setIfInBounds_toArray, List.set_cons_zero, List.set_cons_succ])))
  refine (cloneD E _ _ _ I sa cap d.l hl hI hO).mono ?_
  clear hO hF
  rintro e w1 ⟨so, co, SO, rfl, hSO, hO⟩
  replace hO := hO.as (pt nb (.cells #[.int .i64 0, .int .i64 0, .string .empty, .slice none 0 0] 30 (0, 0)) ++ (pt ob (.cells #[.int .i64 d.k, .int .i64 d.n, .string d.s, .slice sa d.l.length cap] 30 (0, 0)) ++ (SO ++ (I ++ R))))
  ((try simp only [List.nil_append, List.append_nil] at hO); have hF := Own.cells hO; simp only [cellsOf_append, cellsOf_pt] at hF)
  go_wp2_with (first | (refine own_store (v := ?_) (off := 3) (b := ob) hO ?_ ?_ ?_ ?_ ?_ ?_ ?_; rotate_left; (· rfl); (· ((conv => lhs; whnf); try exact rfl)); (· ((conv => lhs; whnf); try exact rfl)); (· simp [Value.cells]); (· simp [Value.cells, Value.oneCell']); (· simp [Value.cells]); clear hO; (try clear hF); intro _ hO; (try simp only [splice, Value.cells] at hO); ((try simp only [List.nil_append, List.append_nil] at hO); have hF := Own.cells hO; simp only [cellsOf_append, cellsOf_pt] at hF); simp only [Act.put, List.setIfInBounds_toArray, List.set_cons_zero, List.set_cons_succ]) | (refine own_store (v := ?_) (off := 0) (b := nb) hO ?_ ?_ ?_ ?_ ?_ ?_ ?_; rotate_left; (· rfl); (· ((conv => lhs; whnf); try exact rfl)); (· ((conv => lhs; whnf); try exact rfl)); (· simp [Value.cells]); (· simp [Value.cells, Value.oneCell']); (· simp [Value.cells]); clear hO; (try clear hF); intro _ hO; (try simp only [splice, Value.cells] at hO); ((try simp only [List.nil_append, List.append_nil] at hO); have hF := Own.cells hO; simp only [cellsOf_append, cellsOf_pt] at hF); simp only [Act.put, List.setIfInBounds_toArray, List.set_cons_zero, List.set_cons_succ]) | (refine at_load ?_; refine own_loadS (b := ?_) (cs := ?_) (e := ?_) (f := ?_) hO ?_ ?_ ?_ ?_ ?_ ?_; rotate_left 4; (· rfl); (· rfl); (· exact inferInstance); (· simp; done); (· simp [Value.cells]; done); simp only [Act.put, List.setIfInBounds_toArray, List.set_cons_zero, List.set_cons_succ]))
  simp only [List.setIfInBounds_toArray, List.set_cons_zero, List.set_cons_succ, Nat.zero_add, Nat.reduceAdd] at hO
  refine bodyPost_ret (results_cell_own (t := 30) (b := nb) (cs := #[.int .i64 d.k, .int .i64 d.n, .string d.s, .slice so d.l.length co]) (e := _) (f := _) rfl hO (by exact rfl) (by exact inferInstance) (by simp) (by simp)) rfl ?_
  rw [← HPOST.out]
  exact ⟨so, co, SO, rfl, hSO, hO.as _⟩
set_option maxRecDepth 100000 in
set_option maxHeartbeats 16000000 in
theorem newPlain (E w : World) (X : Fr) (hO : Own E w X) : Calls Tryd.prog 10 #[] w fun e w' => ∃ p, e = .returned (.pointer (some ⟨p, 0, none⟩)) ∧ Own E w' (plainF p none 0 0 ++ X) := by
  go_enter Tryd.func10, Tryd.ntmps10
  go_wp2_with (first | (refine at_box ?_; go_must (refine own_box (v := ?_) hO ?_ ?_ ?_; rotate_left; (· rfl); (· ((conv => lhs; whnf); try exact rfl)); clear hO; (try clear hF); intro ob _ hO; (try simp only [Value.cells] at hO); ((try simp only [List.nil_append, List.append_nil] at hO); have hF := Own.cells hO; simp only [cellsOf_append, cellsOf_pt] at hF); simp only [Act.put, List.setIfInBounds_toArray, List.set_cons_zero, List.set_cons_succ])))
  go_ret
  exact ⟨ob, rfl, hO⟩
end Go.Proofs.YticclennllklpaaDoor

/- The method: Insert. -/
namespace Go.Own
theorem rows_take {α : Type} (f : α → List Value) (k : Nat) (hk : ∀ x, (f x).length = k) : ∀ (l : List α) (j : Nat), (l.flatMap f).take (j * k) = (l.take j).flatMap f
  | [], j => by simp
  | x :: l, 0 => by simp
  | x :: l, j + 1 => by
    rw [List.flatMap_cons, List.take_succ_cons, List.flatMap_cons, ← rows_take f k hk l j, Nat.succ_mul, Nat.add_comm (j * k) k, List.take_append, hk, List.take_of_length_le (by rw [hk]; omega)]
    congr 2
    omega
theorem rows_drop {α : Type} (f : α → List Value) (k : Nat) (hk : ∀ x, (f x).length = k) : ∀ (l : List α) (j : Nat), (l.flatMap f).drop (j * k) = (l.drop j).flatMap f
  | [], j => by simp
  | x :: l, 0 => by simp
  | x :: l, j + 1 => by
    rw [List.flatMap_cons, List.drop_succ_cons, ← rows_drop f k hk l j, Nat.succ_mul, Nat.add_comm (j * k) k, List.drop_append, hk, List.drop_of_length_le (by rw [hk]; omega), List.nil_append]
    congr 1
    omega
theorem five_cells {E w : World} {X : Fr} {b : Nat} {e : TypeId} {f : Nat × Nat} {c0 c1 c2 c3 c4 : Value} (hO : Own E w X) [hh : Has X b (.cells #[c0, c1, c2, c3, c4] e f)] : ∀ j v, [c0, c1, c2, c3][j]? = some v → w.cell? ((⟨b, 0, none⟩ : Addr).add j) = some v := by
  intro j v hj
  rw [add_lit, hO.cell (b := b), Nat.zero_add]
  match j, hj with
  | 0, hj => exact hj
  | 1, hj => exact hj
  | 2, hj => exact hj
  | 3, hj => exact hj
end Go.Own
namespace Go.Proofs.YticclennllklpaaDoor
open Go Go.RowKit Go.Own Go.Dt

theorem helds_one (hs : List Hl) : ∀ u ∈ hs.flatMap Hl.v, u.oneCell' = true := by
  intro u hu
  obtain ⟨x, _, hx⟩ := List.mem_flatMap.1 hu
  unfold Hl.v heldV at hx
  simp only [List.mem_cons, List.not_mem_nil, or_false] at hx
  rcases hx with rfl | rfl | rfl | rfl | rfl | rfl <;> rfl
/-- A method in hand. -/
def PlainAt (E : World) (p : Nat) (hs : List Hl) (A : Fr) : Prop :=
  ∃ (sa : Option Addr) (cap : Nat) (S FC : Fr), Es (esOf hs) ∧ Sl 79 6 sa hs.length cap (hs.flatMap Hl.v) S ∧ (∀ h ∈ hs, ItemsAt E FC h.a h.e.d.l) ∧ A = plainF p sa hs.length cap ++ (S ++ FC)
theorem PlainAt.new (E : World) (p : Nat) : PlainAt E p [] (plainF p none 0 0) := ⟨none, 0, [], [], ⟨List.Pairwise.nil, fun _ h => (nomatch h)⟩, Sl.nil _ _, fun _ h => (nomatch h), by simp⟩
def InsertP (E : World) (p : Nat) (hs : List Hl) (y : En) (X : Fr) (e : Ending) (w' : World) : Prop :=
  ∃ (err : Int) (hs' : List Hl) (A' : Fr), e = .returned (.int .i64 err) ∧ PlainAt E p hs' A' ∧ ((okE y = false ∧ err = 1 ∧ esOf hs' = esOf hs) ∨ (okE y = true ∧ y ∈ esOf hs ∧ err = 160 ∧ esOf hs' = esOf hs) ∨ (okE y = true ∧ y ∉ esOf hs ∧ err = 0 ∧ esOf hs' = wiE y (esOf hs))) ∧ Own E w' (A' ++ X)
set_option maxRecDepth 100000 in
set_option maxHeartbeats 16000000 in
theorem pInsert (E w : World) (X R A I : Fr) (p : Nat) (hs : List Hl) (hl : hs.length ≤ 2000000000000) (hA : PlainAt E p hs A) (y : En) (ay : Option Addr) (cy : Nat) (hw : y.d.wf) (hI : ItemsAt E I ay y.d.l) (hG : MaxL E I) (hO : Own E w X) [hp : Pick X (A ++ I) R] :
    Calls Tryd.prog 11 #[.pointer (some ⟨p, 0, none⟩), .agg #[.int .i64 y.d.k, .int .i64 y.d.n, .string y.d.s, .slice ay y.d.l.length cy, .int .i64 y.t]] w (InsertP E p hs y (I ++ R)) := by
  replace hO : Own E w (A ++ (I ++ R)) := by have := hO.perm hp.perm; rwa [List.append_assoc] at this
  clear hp
  generalize hpost : InsertP E p hs y (I ++ R) = POST
  have HPOST := Lib.hid hpost
  clear hpost
  obtain ⟨sa, cap, S, FC, hE, hS, hFC, rfl⟩ := hA
  have HE := Lib.hid hE
  have HFC := Lib.hid hFC
  clear hE hFC
  replace hO : Own E w (plainF p sa hs.length cap ++ (S ++ (I ++ (FC ++ R)))) := hO.as _
  go_enter Tryd.func11, Tryd.ntmps11
  go_wp2_with (first | (refine at_box ?_; go_must (refine own_box (v := ?_) hO ?_ ?_ ?_; rotate_left; (· rfl); (· ((conv => lhs; whnf); try exact rfl)); clear hO; (try clear hF); intro ob _ hO; (try simp only [Value.cells] at hO); ((try simp only [List.nil_append, List.append_nil] at hO); have hF := Own.cells hO; simp only [cellsOf_append, cellsOf_pt] at hF); simp only [Act.put, List.setIfInBounds_toArray, List.set_cons_zero, List.set_cons_succ])) | (refine at_load ?_; refine own_loadS (b := ?_) (cs := ?_) (e := ?_) (f := ?_) hO ?_ ?_ ?_ ?_ ?_ ?_; rotate_left 4; (· rfl); (· rfl); (· exact inferInstance); (· simp; done); (· simp [Value.cells]; done); simp only [Act.put, List.setIfInBounds_toArray, List.set_cons_zero, List.set_cons_succ]))
  refine (pFind0 E _ _ _ S I p sa cap hs hl HE.out.up hS y ay cy hw hI hG (hO.as ((plainF p sa hs.length cap ++ (S ++ I)) ++ (pt ob (.cells #[.int .i64 y.d.k, .int .i64 y.d.n, .string y.d.s, .slice ay y.d.l.length cy, .int .i64 y.t] 32 (0, 0)) ++ (FC ++ R))))).mono ?_
  clear hO hF
  rintro e w1 ⟨hr, hO⟩
  replace hO : Own E w1 (pt ob (.cells #[.int .i64 y.d.k, .int .i64 y.d.n, .string y.d.s, .slice ay y.d.l.length cy, .int .i64 y.t] 32 (0, 0)) ++ (plainF p sa hs.length cap ++ (S ++ (I ++ (FC ++ R))))) := hO.as _
  rcases hr with ⟨hok, k, hAt, rfl⟩ | ⟨hok, rfl⟩
  rotate_left
  · have HOK := Lib.hid hok
    clear hok
    go_wp2_with fail
    rw [← HPOST.out]
    exact ⟨1, hs, _, rfl, ⟨sa, cap, S, FC, HE.out, hS, HFC.out, rfl⟩, .inl ⟨HOK.out, rfl, rfl⟩, hO.as _⟩
  have hye : y.ok := (okB_iff hw).1 hok
  have hth := hAt.there HE.out hye
  have HAT := Lib.hid hAt
  have HOK := Lib.hid (And.intro hok hye)
  clear hAt hok
  by_cases hm : y ∈ esOf hs
  · rw [hth, decide_eq_true hm]
    have HM := Lib.hid hm
    clear hm hth hye
    go_wp2_with fail
    rw [← HPOST.out]
    exact ⟨160, hs, _, rfl, ⟨sa, cap, S, FC, HE.out, hS, HFC.out, rfl⟩, .inr (.inl ⟨HOK.out.1, HM.out, rfl, rfl⟩), hO.as _⟩
  rw [hth, decide_eq_false hm]
  have HM := Lib.hid hm
  have hd1 : y.d.ok = true := hye.1
  have hl8 : y.d.l.length ≤ 8 := by
    by_cases k3 : y.d.k = 3
    · exact (Dt.ok_list k3 hd1).2.2.1
    · have h9 : y.d.l.length = 0 := (It.ok_or (Dt.ok_one k3 hd1)).1
      omega
  have hkl : k ≤ hs.length := by have := HAT.out.le; rwa [esOf_len] at this
  have HD1 := Lib.hid hd1
  clear hm hth hye hd1
  have hF := Own.cells hO; simp only [cellsOf_append, cellsOf_pt] at hF
  go_wp2_with (first | (refine at_load ?_; refine own_loadS (b := ?_) (cs := ?_) (e := ?_) (f := ?_) hO ?_ ?_ ?_ ?_ ?_ ?_; rotate_left 4; (· rfl); (· rfl); (· exact inferInstance); (· simp; done); (· simp [Value.cells]; done); simp only [Act.put, List.setIfInBounds_toArray, List.set_cons_zero, List.set_cons_succ]))
  refine (datBytes E _ _ _ I y.d ay cy hw hI hG (hO.as (I ++ (pt ob (.cells #[.int .i64 y.d.k, .int .i64 y.d.n, .string y.d.s, .slice ay y.d.l.length cy, .int .i64 y.t] 32 (0, 0)) ++ (plainF p sa hs.length cap ++ (S ++ (FC ++ R))))))).mono ?_
  clear hO hF
  rintro e w2 ⟨rfl, hO⟩
  rw [if_pos HD1.out]
  replace hO : Own E w2 (pt ob (.cells #[.int .i64 y.d.k, .int .i64 y.d.n, .string y.d.s, .slice ay y.d.l.length cy, .int .i64 y.t] 32 (0, 0)) ++ (plainF p sa hs.length cap ++ (S ++ (I ++ (FC ++ R))))) := hO.as _
  go_wp2_with fail
  (try (go_wp2_with fail))
  refine region_k (fun w' => Own E w' (pt ob (.cells #[.int .i64 y.d.k, .int .i64 y.d.n, .string y.d.s, .slice ay y.d.l.length cy, .int .i64 y.t] 32 (0, 0)) ++ plainF p sa hs.length cap)) 18 (.look 0 (.look 1 (.look 2 (.look 3 (.look 4 (.look 5 (.look 6 (.look 7 (.look 8 (.look 10 (.look 11 (.act 9 (.look 12 (.look 13 (.act 14 (.act 15 (.act 16 (.look 17 (.act 18 .done))))))))))))))))))) (by kernel_rfl) (by kernel_rfl) (fun _ _ d _ _ h => by cases d <;> exact h) ?_ ?_
  · exact hO.drew.as _
  replace hO := hO.drew
  generalize World.drew _ = wdr at hO ⊢
  first | (refine k_look (o := ?_) (v := ?_) ?_ ?_ ?_ ?_; rotate_left 2; (· ((conv => lhs; whnf); try exact rfl)); (· rfl); (· intro w' hO'; have c1 : w'.cell? ⟨p, 1, none⟩ = some (.slice sa hs.length cap) := (by unfold plainF at hO'; rw [hO'.cell (b := p)]; rfl); have c2 : w'.cell? ⟨ob, 4, none⟩ = some (.int .i64 y.t) := (by rw [hO'.cell (b := ob)]; rfl); go_simp; (try exact rfl)); simp only [Act.put, List.setIfInBounds_toArray, List.set_cons_zero, List.set_cons_succ]) | (refine k_pass (o := ?_) ?_ ?_ ?_; rotate_left; (· ((conv => lhs; whnf); try exact rfl)); (· rfl); simp only [Act.put, List.setIfInBounds_toArray, List.set_cons_zero, List.set_cons_succ]) | (refine k_look (o := ?_) (v := .agg ?_) ?_ ?_ ?_ ?_; rotate_left 2; (· ((conv => lhs; whnf); try exact rfl)); (· rfl); (· intro w' hO'; refine run_opLoadS (b := ?_) (cs := ?_) (e := ?_) (f := ?_) hO' ?_ ?_ ?_ ?_; rotate_left 4; (· exact rfl); (· exact inferInstance); (· simp; done); (· simp; done)); simp only [Act.put, List.setIfInBounds_toArray, List.set_cons_zero, List.set_cons_succ])
  first | (refine k_look (o := ?_) (v := ?_) ?_ ?_ ?_ ?_; rotate_left 2; (· ((conv => lhs; whnf); try exact rfl)); (· rfl); (· intro w' hO'; have c1 : w'.cell? ⟨p, 1, none⟩ = some (.slice sa hs.length cap) := (by unfold plainF at hO'; rw [hO'.cell (b := p)]; rfl); have c2 : w'.cell? ⟨ob, 4, none⟩ = some (.int .i64 y.t) := (by rw [hO'.cell (b := ob)]; rfl); go_simp; (try exact rfl)); simp only [Act.put, List.setIfInBounds_toArray, List.set_cons_zero, List.set_cons_succ]) | (refine k_pass (o := ?_) ?_ ?_ ?_; rotate_left; (· ((conv => lhs; whnf); try exact rfl)); (· rfl); simp only [Act.put, List.setIfInBounds_toArray, List.set_cons_zero, List.set_cons_succ]) | (refine k_look (o := ?_) (v := .agg ?_) ?_ ?_ ?_ ?_; rotate_left 2; (· ((conv => lhs; whnf); try exact rfl)); (· rfl); (· intro w' hO'; refine run_opLoadS (b := ?_) (cs := ?_) (e := ?_) (f := ?_) hO' ?_ ?_ ?_ ?_; rotate_left 4; (· exact rfl); (· exact inferInstance); (· simp; done); (· simp; done)); simp only [Act.put, List.setIfInBounds_toArray, List.set_cons_zero, List.set_cons_succ])
  first | (refine k_look (o := ?_) (v := ?_) ?_ ?_ ?_ ?_; rotate_left 2; (· ((conv => lhs; whnf); try exact rfl)); (· rfl); (· intro w' hO'; have c1 : w'.cell? ⟨p, 1, none⟩ = some (.slice sa hs.length cap) := (by unfold plainF at hO'; rw [hO'.cell (b := p)]; rfl); have c2 : w'.cell? ⟨ob, 4, none⟩ = some (.int .i64 y.t) := (by rw [hO'.cell (b := ob)]; rfl); go_simp; (try exact rfl)); simp only [Act.put, List.setIfInBounds_toArray, List.set_cons_zero, List.set_cons_succ]) | (refine k_pass (o := ?_) ?_ ?_ ?_; rotate_left; (· ((conv => lhs; whnf); try exact rfl)); (· rfl); simp only [Act.put, List.setIfInBounds_toArray, List.set_cons_zero, List.set_cons_succ]) | (refine k_look (o := ?_) (v := .agg ?_) ?_ ?_ ?_ ?_; rotate_left 2; (· ((conv => lhs; whnf); try exact rfl)); (· rfl); (· intro w' hO'; refine run_opLoadS (b := ?_) (cs := ?_) (e := ?_) (f := ?_) hO' ?_ ?_ ?_ ?_; rotate_left 4; (· exact rfl); (· exact inferInstance); (· simp; done); (· simp; done)); simp only [Act.put, List.setIfInBounds_toArray, List.set_cons_zero, List.set_cons_succ])
  first | (refine k_look (o := ?_) (v := ?_) ?_ ?_ ?_ ?_; rotate_left 2; (· ((conv => lhs; whnf); try exact rfl)); (· rfl); (· intro w' hO'; have c1 : w'.cell? ⟨p, 1, none⟩ = some (.slice sa hs.length cap) := (by unfold plainF at hO'; rw [hO'.cell (b := p)]; rfl); have c2 : w'.cell? ⟨ob, 4, none⟩ = some (.int .i64 y.t) := (by rw [hO'.cell (b := ob)]; rfl); go_simp; (try exact rfl)); simp only [Act.put, List.setIfInBounds_toArray, List.set_cons_zero, List.set_cons_succ]) | (refine k_pass (o := ?_) ?_ ?_ ?_; rotate_left; (· ((conv => lhs; whnf); try exact rfl)); (· rfl); simp only [Act.put, List.setIfInBounds_toArray, List.set_cons_zero, List.set_cons_succ]) | (refine k_look (o := ?_) (v := .agg ?_) ?_ ?_ ?_ ?_; rotate_left 2; (· ((conv => lhs; whnf); try exact rfl)); (· rfl); (· intro w' hO'; refine run_opLoadS (b := ?_) (cs := ?_) (e := ?_) (f := ?_) hO' ?_ ?_ ?_ ?_; rotate_left 4; (· exact rfl); (· exact inferInstance); (· simp; done); (· simp; done)); simp only [Act.put, List.setIfInBounds_toArray, List.set_cons_zero, List.set_cons_succ])
  first | (refine k_look (o := ?_) (v := ?_) ?_ ?_ ?_ ?_; rotate_left 2; (· ((conv => lhs; whnf); try exact rfl)); (· rfl); (· intro w' hO'; have c1 : w'.cell? ⟨p, 1, none⟩ = some (.slice sa hs.length cap) := (by unfold plainF at hO'; rw [hO'.cell (b := p)]; rfl); have c2 : w'.cell? ⟨ob, 4, none⟩ = some (.int .i64 y.t) := (by rw [hO'.cell (b := ob)]; rfl); go_simp; (try exact rfl)); simp only [Act.put, List.setIfInBounds_toArray, List.set_cons_zero, List.set_cons_succ]) | (refine k_pass (o := ?_) ?_ ?_ ?_; rotate_left; (· ((conv => lhs; whnf); try exact rfl)); (· rfl); simp only [Act.put, List.setIfInBounds_toArray, List.set_cons_zero, List.set_cons_succ]) | (refine k_look (o := ?_) (v := .agg ?_) ?_ ?_ ?_ ?_; rotate_left 2; (· ((conv => lhs; whnf); try exact rfl)); (· rfl); (· intro w' hO'; refine run_opLoadS (b := ?_) (cs := ?_) (e := ?_) (f := ?_) hO' ?_ ?_ ?_ ?_; rotate_left 4; (· exact rfl); (· exact inferInstance); (· simp; done); (· simp; done)); simp only [Act.put, List.setIfInBounds_toArray, List.set_cons_zero, List.set_cons_succ])
  first | (refine k_look (o := ?_) (v := ?_) ?_ ?_ ?_ ?_; rotate_left 2; (· ((conv => lhs; whnf); try exact rfl)); (· rfl); (· intro w' hO'; have c1 : w'.cell? ⟨p, 1, none⟩ = some (.slice sa hs.length cap) := (by unfold plainF at hO'; rw [hO'.cell (b := p)]; rfl); have c2 : w'.cell? ⟨ob, 4, none⟩ = some (.int .i64 y.t) := (by rw [hO'.cell (b := ob)]; rfl); go_simp; (try exact rfl)); simp only [Act.put, List.setIfInBounds_toArray, List.set_cons_zero, List.set_cons_succ]) | (refine k_pass (o := ?_) ?_ ?_ ?_; rotate_left; (· ((conv => lhs; whnf); try exact rfl)); (· rfl); simp only [Act.put, List.setIfInBounds_toArray, List.set_cons_zero, List.set_cons_succ]) | (refine k_look (o := ?_) (v := .agg ?_) ?_ ?_ ?_ ?_; rotate_left 2; (· ((conv => lhs; whnf); try exact rfl)); (· rfl); (· intro w' hO'; refine run_opLoadS (b := ?_) (cs := ?_) (e := ?_) (f := ?_) hO' ?_ ?_ ?_ ?_; rotate_left 4; (· exact rfl); (· exact inferInstance); (· simp; done); (· simp; done)); simp only [Act.put, List.setIfInBounds_toArray, List.set_cons_zero, List.set_cons_succ])
  first | (refine k_look (o := ?_) (v := ?_) ?_ ?_ ?_ ?_; rotate_left 2; (· ((conv => lhs; whnf); try exact rfl)); (· rfl); (· intro w' hO'; have c1 : w'.cell? ⟨p, 1, none⟩ = some (.slice sa hs.length cap) := (by unfold plainF at hO'; rw [hO'.cell (b := p)]; rfl); have c2 : w'.cell? ⟨ob, 4, none⟩ = some (.int .i64 y.t) := (by rw [hO'.cell (b := ob)]; rfl); go_simp; (try exact rfl)); simp only [Act.put, List.setIfInBounds_toArray, List.set_cons_zero, List.set_cons_succ]) | (refine k_pass (o := ?_) ?_ ?_ ?_; rotate_left; (· ((conv => lhs; whnf); try exact rfl)); (· rfl); simp only [Act.put, List.setIfInBounds_toArray, List.set_cons_zero, List.set_cons_succ]) | (refine k_look (o := ?_) (v := .agg ?_) ?_ ?_ ?_ ?_; rotate_left 2; (· ((conv => lhs; whnf); try exact rfl)); (· rfl); (· intro w' hO'; refine run_opLoadS (b := ?_) (cs := ?_) (e := ?_) (f := ?_) hO' ?_ ?_ ?_ ?_; rotate_left 4; (· exact rfl); (· exact inferInstance); (· simp; done); (· simp; done)); simp only [Act.put, List.setIfInBounds_toArray, List.set_cons_zero, List.set_cons_succ])
  first | (refine k_look (o := ?_) (v := ?_) ?_ ?_ ?_ ?_; rotate_left 2; (· ((conv => lhs; whnf); try exact rfl)); (· rfl); (· intro w' hO'; have c1 : w'.cell? ⟨p, 1, none⟩ = some (.slice sa hs.length cap) := (by unfold plainF at hO'; rw [hO'.cell (b := p)]; rfl); have c2 : w'.cell? ⟨ob, 4, none⟩ = some (.int .i64 y.t) := (by rw [hO'.cell (b := ob)]; rfl); go_simp; (try exact rfl)); simp only [Act.put, List.setIfInBounds_toArray, List.set_cons_zero, List.set_cons_succ]) | (refine k_pass (o := ?_) ?_ ?_ ?_; rotate_left; (· ((conv => lhs; whnf); try exact rfl)); (· rfl); simp only [Act.put, List.setIfInBounds_toArray, List.set_cons_zero, List.set_cons_succ]) | (refine k_look (o := ?_) (v := .agg ?_) ?_ ?_ ?_ ?_; rotate_left 2; (· ((conv => lhs; whnf); try exact rfl)); (· rfl); (· intro w' hO'; refine run_opLoadS (b := ?_) (cs := ?_) (e := ?_) (f := ?_) hO' ?_ ?_ ?_ ?_; rotate_left 4; (· exact rfl); (· exact inferInstance); (· simp; done); (· simp; done)); simp only [Act.put, List.setIfInBounds_toArray, List.set_cons_zero, List.set_cons_succ])
  (refine k_look (o := ?_) (v := .agg #[.int .i64 y.d.k, .int .i64 y.d.n, .string y.d.s, .slice ay y.d.l.length cy]) ?_ ?_ ?_ ?_; rotate_left; (· ((conv => lhs; whnf); try exact rfl)); (· rfl); (· intro w' hO'; exact run_opLoadC (ad := ⟨ob, 0, none⟩) (cs := [.int .i64 y.d.k, .int .i64 y.d.n, .string y.d.s, .slice ay y.d.l.length cy]) (five_cells hO') rfl (by simp) (by simp)); simp only [Act.put, List.setIfInBounds_toArray, List.set_cons_zero, List.set_cons_succ])
  first | (refine k_look (o := ?_) (v := ?_) ?_ ?_ ?_ ?_; rotate_left 2; (· ((conv => lhs; whnf); try exact rfl)); (· rfl); (· intro w' hO'; have c1 : w'.cell? ⟨p, 1, none⟩ = some (.slice sa hs.length cap) := (by unfold plainF at hO'; rw [hO'.cell (b := p)]; rfl); have c2 : w'.cell? ⟨ob, 4, none⟩ = some (.int .i64 y.t) := (by rw [hO'.cell (b := ob)]; rfl); go_simp; (try exact rfl)); simp only [Act.put, List.setIfInBounds_toArray, List.set_cons_zero, List.set_cons_succ]) | (refine k_pass (o := ?_) ?_ ?_ ?_; rotate_left; (· ((conv => lhs; whnf); try exact rfl)); (· rfl); simp only [Act.put, List.setIfInBounds_toArray, List.set_cons_zero, List.set_cons_succ]) | (refine k_look (o := ?_) (v := .agg ?_) ?_ ?_ ?_ ?_; rotate_left 2; (· ((conv => lhs; whnf); try exact rfl)); (· rfl); (· intro w' hO'; refine run_opLoadS (b := ?_) (cs := ?_) (e := ?_) (f := ?_) hO' ?_ ?_ ?_ ?_; rotate_left 4; (· exact rfl); (· exact inferInstance); (· simp; done); (· simp; done)); simp only [Act.put, List.setIfInBounds_toArray, List.set_cons_zero, List.set_cons_succ])
  first | (refine k_look (o := ?_) (v := ?_) ?_ ?_ ?_ ?_; rotate_left 2; (· ((conv => lhs; whnf); try exact rfl)); (· rfl); (· intro w' hO'; have c1 : w'.cell? ⟨p, 1, none⟩ = some (.slice sa hs.length cap) := (by unfold plainF at hO'; rw [hO'.cell (b := p)]; rfl); have c2 : w'.cell? ⟨ob, 4, none⟩ = some (.int .i64 y.t) := (by rw [hO'.cell (b := ob)]; rfl); go_simp; (try exact rfl)); simp only [Act.put, List.setIfInBounds_toArray, List.set_cons_zero, List.set_cons_succ]) | (refine k_pass (o := ?_) ?_ ?_ ?_; rotate_left; (· ((conv => lhs; whnf); try exact rfl)); (· rfl); simp only [Act.put, List.setIfInBounds_toArray, List.set_cons_zero, List.set_cons_succ]) | (refine k_look (o := ?_) (v := .agg ?_) ?_ ?_ ?_ ?_; rotate_left 2; (· ((conv => lhs; whnf); try exact rfl)); (· rfl); (· intro w' hO'; refine run_opLoadS (b := ?_) (cs := ?_) (e := ?_) (f := ?_) hO' ?_ ?_ ?_ ?_; rotate_left 4; (· exact rfl); (· exact inferInstance); (· simp; done); (· simp; done)); simp only [Act.put, List.setIfInBounds_toArray, List.set_cons_zero, List.set_cons_succ])
  (refine k_act (o := ?_) ?_ ?_; rotate_left; (· ((conv => lhs; whnf); try exact rfl)))
  go_wp2_with fail
  refine (ownD E _ _ _ I y.d ay cy hl8 hI (hO.as (I ++ (pt ob (.cells #[.int .i64 y.d.k, .int .i64 y.d.n, .string y.d.s, .slice ay y.d.l.length cy, .int .i64 y.t] 32 (0, 0)) ++ (plainF p sa hs.length cap ++ (S ++ (FC ++ R))))))).mono ?_
  clear hO
  rintro e w3 ⟨so, co, SO, rfl, hSO, hO⟩
  go_wp2_with fail
  refine ⟨hO.as _, ?_⟩
  first | (refine k_look (o := ?_) (v := ?_) ?_ ?_ ?_ ?_; rotate_left 2; (· ((conv => lhs; whnf); try exact rfl)); (· rfl); (· intro w' hO'; have c1 : w'.cell? ⟨p, 1, none⟩ = some (.slice sa hs.length cap) := (by unfold plainF at hO'; rw [hO'.cell (b := p)]; rfl); have c2 : w'.cell? ⟨ob, 4, none⟩ = some (.int .i64 y.t) := (by rw [hO'.cell (b := ob)]; rfl); go_simp; (try exact rfl)); simp only [Act.put, List.setIfInBounds_toArray, List.set_cons_zero, List.set_cons_succ]) | (refine k_pass (o := ?_) ?_ ?_ ?_; rotate_left; (· ((conv => lhs; whnf); try exact rfl)); (· rfl); simp only [Act.put, List.setIfInBounds_toArray, List.set_cons_zero, List.set_cons_succ]) | (refine k_look (o := ?_) (v := .agg ?_) ?_ ?_ ?_ ?_; rotate_left 2; (· ((conv => lhs; whnf); try exact rfl)); (· rfl); (· intro w' hO'; refine run_opLoadS (b := ?_) (cs := ?_) (e := ?_) (f := ?_) hO' ?_ ?_ ?_ ?_; rotate_left 4; (· exact rfl); (· exact inferInstance); (· simp; done); (· simp; done)); simp only [Act.put, List.setIfInBounds_toArray, List.set_cons_zero, List.set_cons_succ])
  first | (refine k_look (o := ?_) (v := ?_) ?_ ?_ ?_ ?_; rotate_left 2; (· ((conv => lhs; whnf); try exact rfl)); (· rfl); (· intro w' hO'; have c1 : w'.cell? ⟨p, 1, none⟩ = some (.slice sa hs.length cap) := (by unfold plainF at hO'; rw [hO'.cell (b := p)]; rfl); have c2 : w'.cell? ⟨ob, 4, none⟩ = some (.int .i64 y.t) := (by rw [hO'.cell (b := ob)]; rfl); go_simp; (try exact rfl)); simp only [Act.put, List.setIfInBounds_toArray, List.set_cons_zero, List.set_cons_succ]) | (refine k_pass (o := ?_) ?_ ?_ ?_; rotate_left; (· ((conv => lhs; whnf); try exact rfl)); (· rfl); simp only [Act.put, List.setIfInBounds_toArray, List.set_cons_zero, List.set_cons_succ]) | (refine k_look (o := ?_) (v := .agg ?_) ?_ ?_ ?_ ?_; rotate_left 2; (· ((conv => lhs; whnf); try exact rfl)); (· rfl); (· intro w' hO'; refine run_opLoadS (b := ?_) (cs := ?_) (e := ?_) (f := ?_) hO' ?_ ?_ ?_ ?_; rotate_left 4; (· exact rfl); (· exact inferInstance); (· simp; done); (· simp; done)); simp only [Act.put, List.setIfInBounds_toArray, List.set_cons_zero, List.set_cons_succ])
  (refine k_act (o := ?_) ?_ ?_; rotate_left; (· ((conv => lhs; whnf); try exact rfl)))
  go_wp2_with (first | (refine at_bs ?_; go_must (refine own_build1 (v := ?_) sltH hO ?_ ?_ ?_ ?_ ?_ ?_; rotate_left; (· rfl); (· ((conv => lhs; whnf); try exact rfl)); (· rfl); (· decide); (· decide); clear hO; (try clear hF); intro vb _ hO; (try simp only [Value.cells] at hO); ((try simp only [List.nil_append, List.append_nil] at hO); have hF := Own.cells hO; simp only [cellsOf_append, cellsOf_pt] at hF); simp only [Act.put, List.setIfInBounds_toArray, List.set_cons_zero, List.set_cons_succ])))
  refine ⟨hO.as _, ?_⟩
  (refine k_act (o := ?_) ?_ ?_; rotate_left; (· ((conv => lhs; whnf); try exact rfl)))
  go_wp2_with fail
  refine (insH E _ _ _ S sa hs.length cap k (hs.flatMap Hl.v) hkl hl hS (helds_one hs) vb [.string (encB y.d), .int .i64 y.d.k, .int .i64 y.d.n, .string y.d.s, .slice so y.d.l.length co, .int .i64 y.t] rfl (by intro u hu; simp only [List.mem_cons, List.not_mem_nil, or_false] at hu; rcases hu with rfl | rfl | rfl | rfl | rfl | rfl <;> rfl) hO).mono ?_
  clear hO
  rintro e w4 ⟨so2, co2, SO2, rfl, hSO2, hO⟩
  go_wp2_with fail
  refine ⟨hO.as _, ?_⟩
  (refine k_act (o := ?_) ?_ ?_; rotate_left; (· ((conv => lhs; whnf); try exact rfl)))
  go_wp2_with fail
  refine ⟨hO.as _, ?_⟩
  first | (refine k_look (o := ?_) (v := ?_) ?_ ?_ ?_ ?_; rotate_left 2; (· ((conv => lhs; whnf); try exact rfl)); (· rfl); (· intro w' hO'; have c1 : w'.cell? ⟨p, 1, none⟩ = some (.slice sa hs.length cap) := (by unfold plainF at hO'; rw [hO'.cell (b := p)]; rfl); have c2 : w'.cell? ⟨ob, 4, none⟩ = some (.int .i64 y.t) := (by rw [hO'.cell (b := ob)]; rfl); go_simp; (try exact rfl)); simp only [Act.put, List.setIfInBounds_toArray, List.set_cons_zero, List.set_cons_succ]) | (refine k_pass (o := ?_) ?_ ?_ ?_; rotate_left; (· ((conv => lhs; whnf); try exact rfl)); (· rfl); simp only [Act.put, List.setIfInBounds_toArray, List.set_cons_zero, List.set_cons_succ]) | (refine k_look (o := ?_) (v := .agg ?_) ?_ ?_ ?_ ?_; rotate_left 2; (· ((conv => lhs; whnf); try exact rfl)); (· rfl); (· intro w' hO'; refine run_opLoadS (b := ?_) (cs := ?_) (e := ?_) (f := ?_) hO' ?_ ?_ ?_ ?_; rotate_left 4; (· exact rfl); (· exact inferInstance); (· simp; done); (· simp; done)); simp only [Act.put, List.setIfInBounds_toArray, List.set_cons_zero, List.set_cons_succ])
  (refine k_act (o := ?_) ?_ ?_; rotate_left; (· ((conv => lhs; whnf); try exact rfl)))
  unfold plainF at hO
  go_wp2_with (first | (refine own_store (v := ?_) (off := 1) (b := p) hO ?_ ?_ ?_ ?_ ?_ ?_ ?_; rotate_left; (· rfl); (· ((conv => lhs; whnf); try exact rfl)); (· ((conv => lhs; whnf); try exact rfl)); (· simp [Value.cells]); (· simp [Value.cells, Value.oneCell']); (· simp [Value.cells]); clear hO; (try clear hF); intro _ hO; (try simp only [splice, Value.cells] at hO); ((try simp only [List.nil_append, List.append_nil] at hO); have hF := Own.cells hO; simp only [cellsOf_append, cellsOf_pt] at hF); simp only [Act.put, List.setIfInBounds_toArray, List.set_cons_zero, List.set_cons_succ]))
  simp only [List.setIfInBounds_toArray, List.set_cons_zero, List.set_cons_succ] at hO
  refine k_done ?_
  go_wp2_with fail
  rw [← HPOST.out]
  obtain ⟨hok, hye⟩ := HOK.out
  have hes : esOf (hs.take k ++ (⟨y, so, co⟩ : Hl) :: hs.drop k) = wiE y (esOf hs) := by
    rw [HAT.out.ins HE.out hye HM.out]
    unfold esOf
    rw [List.map_append, List.map_cons, List.map_take, List.map_drop]
  have hlen : (hs.take k ++ (⟨y, so, co⟩ : Hl) :: hs.drop k).length = hs.length + 1 := by
    rw [List.length_append, List.length_cons, List.length_take, List.length_drop]
    omega
  have hrow : (hs.flatMap Hl.v).take (k * 6) ++ [.string (encB y.d), .int .i64 y.d.k, .int .i64 y.d.n, .string y.d.s, .slice so y.d.l.length co, .int .i64 y.t] ++ (hs.flatMap Hl.v).drop (k * 6) = (hs.take k ++ (⟨y, so, co⟩ : Hl) :: hs.drop k).flatMap Hl.v := by
    rw [rows_take Hl.v 6 Hl.len, rows_drop Hl.v 6 Hl.len, List.flatMap_append, List.flatMap_cons, List.append_assoc]
    rfl
  rw [hrow, ← hlen] at hSO2
  refine ⟨0, hs.take k ++ (⟨y, so, co⟩ : Hl) :: hs.drop k, _, rfl, ⟨so2, co2, SO2, SO ++ FC, ?_, hSO2, ?_, rfl⟩, .inr (.inr ⟨hok, HM.out, rfl, hes⟩), ?_⟩
  · rw [hes]
    exact HE.out.ins hye HM.out
  · intro h hh
    rcases List.mem_append.1 hh with hh | hh
    · exact (HFC.out h (List.mem_of_mem_take hh)).of List.perm_append_comm
    · rcases List.mem_cons.1 hh with rfl | hh
      · exact hSO.of (.refl _)
      · exact (HFC.out h (List.mem_of_mem_drop hh)).of List.perm_append_comm
  · unfold plainF
    rw [hlen]
    exact hO.as _
end Go.Proofs.YticclennllklpaaDoor

/- The method: Find, Name. -/
namespace Go.Dt
theorem tw_get {α : Type} (p : α → Bool) : ∀ (l : List α) (j : Nat) (h : j < (l.takeWhile p).length) (h2 : j < l.length), p (l[j]'h2) = true ∧ (l.takeWhile p)[j]'h = l[j]'h2
  | [], _, h, _ => absurd h (Nat.not_lt_zero _)
  | x :: l, j, h, h2 => by
    by_cases hp : p x = true
    · simp only [List.takeWhile_cons_of_pos hp] at h ⊢
      cases j with
      | zero => exact ⟨hp, rfl⟩
      | succ j => exact tw_get p l j (Nat.lt_of_succ_lt_succ h) (Nat.lt_of_succ_lt_succ h2)
    · rw [List.takeWhile_cons_of_neg hp] at h
      exact absurd h (Nat.not_lt_zero _)
theorem tw_stop {α : Type} (p : α → Bool) : ∀ (l : List α) (h : (l.takeWhile p).length < l.length), p (l[(l.takeWhile p).length]'h) = false
  | [], h => absurd h (Nat.not_lt_zero _)
  | x :: l, h => by
    by_cases hp : p x = true
    · simp only [List.takeWhile_cons_of_pos hp] at h ⊢
      exact tw_stop p l (Nat.lt_of_succ_lt_succ h)
    · simp only [List.takeWhile_cons_of_neg hp, List.length_nil, List.getElem_cons_zero]
      simpa using hp
theorem tw_le {α : Type} (p : α → Bool) (l : List α) : (l.takeWhile p).length ≤ l.length := (List.takeWhile_sublist p).length_le
end Go.Dt
namespace Go.Proofs.YticclennllklpaaDoor
open Go Go.RowKit Go.Own Go.Dt

def tidsV (l : List En) : List Value := l.map fun x => Value.int .i64 x.t
def FindKP (E : World) (es : List En) (d : Dt) (X : Fr) (e : Ending) (w' : World) : Prop :=
  ∃ (so : Option Addr) (co : Nat) (SO : Fr), (if d.ok then e = .returned (.tuple #[.slice so (keyE es d).length co, .int .i64 0]) ∧ Sl 3 1 so (keyE es d).length co (tidsV (keyE es d)) SO else e = .returned (.tuple #[.slice none 0 0, .int .i64 1])) ∧ Own E w' (SO ++ X)
theorem encB_beq (a b : Dt) : ((encB a).toList == (encB b).toList) = decide (a.enc = b.enc) := by
  rw [Lib.toList_data, Lib.toList_data, encB_list, encB_list]
  by_cases h : a.enc = b.enc
  · rw [h, beq_self_eq_true, decide_eq_true rfl]
  · rw [decide_eq_false h, beq_eq_false_iff_ne]
    exact h
set_option maxRecDepth 100000 in
set_option maxHeartbeats 16000000 in
theorem pFindK (E w : World) (X R A I : Fr) (p : Nat) (hs : List Hl) (hl : hs.length ≤ 2000000000000) (hA : PlainAt E p hs A) (d : Dt) (ay : Option Addr) (cy : Nat) (hw : d.wf) (hI : ItemsAt E I ay d.l) (hG : MaxL E I) (hO : Own E w X) [hp : Pick X (A ++ I) R] :
    Calls Tryd.prog 26 #[.pointer (some ⟨p, 0, none⟩), .agg #[.int .i64 d.k, .int .i64 d.n, .string d.s, .slice ay d.l.length cy]] w (FindKP E (esOf hs) d (A ++ (I ++ R))) := by
  replace hO : Own E w (A ++ (I ++ R)) := by have := hO.perm hp.perm; rwa [List.append_assoc] at this
  clear hp
  generalize hpost : FindKP E (esOf hs) d (A ++ (I ++ R)) = POST
  have HPOST := Lib.hid hpost
  clear hpost
  obtain ⟨sa, cap, S, FC, hE, hS, hFC, rfl⟩ := hA
  have HE := Lib.hid hE
  clear hE hFC
  replace hO : Own E w (plainF p sa hs.length cap ++ (S ++ (I ++ (FC ++ R)))) := hO.as _
  go_enter Tryd.func26, Tryd.ntmps26
  go_wp2_with (first | (refine at_box ?_; go_must (refine own_box (v := ?_) hO ?_ ?_ ?_; rotate_left; (· rfl); (· ((conv => lhs; whnf); try exact rfl)); clear hO; (try clear hF); intro ob _ hO; (try simp only [Value.cells] at hO); ((try simp only [List.nil_append, List.append_nil] at hO); have hF := Own.cells hO; simp only [cellsOf_append, cellsOf_pt] at hF); simp only [Act.put, List.setIfInBounds_toArray, List.set_cons_zero, List.set_cons_succ])) | (refine at_load ?_; refine own_loadS (b := ?_) (cs := ?_) (e := ?_) (f := ?_) hO ?_ ?_ ?_ ?_ ?_ ?_; rotate_left 4; (· rfl); (· rfl); (· exact inferInstance); (· simp; done); (· simp [Value.cells]; done); simp only [Act.put, List.setIfInBounds_toArray, List.set_cons_zero, List.set_cons_succ]))
  refine (pFind0 E _ _ _ S I p sa cap hs hl HE.out.up hS ⟨d, 0⟩ ay cy hw hI hG (hO.as ((plainF p sa hs.length cap ++ (S ++ I)) ++ (pt ob (.cells #[.int .i64 d.k, .int .i64 d.n, .string d.s, .slice ay d.l.length cy] 30 (0, 0)) ++ (FC ++ R))))).mono ?_
  clear hO hF
  rintro e w1 ⟨hr, hO⟩
  replace hO : Own E w1 (pt ob (.cells #[.int .i64 d.k, .int .i64 d.n, .string d.s, .slice ay d.l.length cy] 30 (0, 0)) ++ (plainF p sa hs.length cap ++ (S ++ (I ++ (FC ++ R))))) := hO.as _
  have hokd : okE ⟨d, 0⟩ = d.ok := by unfold okE; simp
  rw [hokd] at hr
  rcases hr with ⟨hok, k, hAt, rfl⟩ | ⟨hok, rfl⟩
  rotate_left
  · have HOK := Lib.hid hok
    clear hok hokd
    go_wp2_with fail
    rw [← HPOST.out]
    refine ⟨none, 0, [], ?_, hO.as _⟩
    rw [HOK.out, if_neg (by decide)]
    rfl
  have hrun : keyE (esOf hs) d = ((esOf hs).drop k).takeWhile fun x => decide (x.d.enc = d.enc) := key_run HE.out hok hw k hAt.lo hAt.hi
  have HRUN := Lib.hid hrun
  have hkl : k ≤ hs.length := by have := hAt.le; rwa [esOf_len] at this
  have HOK := Lib.hid hok
  clear hrun hok hokd hAt
  have hF := Own.cells hO; simp only [cellsOf_append, cellsOf_pt] at hF
  go_wp2_with (first | (refine at_load ?_; refine own_loadS (b := ?_) (cs := ?_) (e := ?_) (f := ?_) hO ?_ ?_ ?_ ?_ ?_ ?_; rotate_left 4; (· rfl); (· rfl); (· exact inferInstance); (· simp; done); (· simp [Value.cells]; done); simp only [Act.put, List.setIfInBounds_toArray, List.set_cons_zero, List.set_cons_succ]))
  refine (datBytes E _ _ _ I d ay cy hw hI hG (hO.as (I ++ (pt ob (.cells #[.int .i64 d.k, .int .i64 d.n, .string d.s, .slice ay d.l.length cy] 30 (0, 0)) ++ (plainF p sa hs.length cap ++ (S ++ (FC ++ R))))))).mono ?_
  clear hO hF
  rintro e w2 ⟨rfl, hO⟩
  rw [if_pos HOK.out]
  replace hO : Own E w2 (plainF p sa hs.length cap ++ (S ++ (I ++ (FC ++ R)))) := hO.as _
  go_wp2_with fail
  have hO1 := hO
  clear hO
  obtain ⟨rl, hrl⟩ : ∃ rl, ((esOf hs).drop k).takeWhile (fun x => decide (x.d.enc = d.enc)) = rl := ⟨_, rfl⟩
  have HRL := Lib.hid hrl
  have hrll : rl.length ≤ hs.length - k := by
    have := tw_le (fun x : En => decide (x.d.enc = d.enc)) ((esOf hs).drop k)
    rw [hrl, List.length_drop, esOf_len] at this
    exact this
  clear hrl
  go_loopw [6, 11] (fun i o wr => ∃ (j : Nat) (so : Option Addr) (co : Nat) (SO : Fr), i = .int .i64 ((k + j : Nat) : Int) ∧ j ≤ rl.length ∧ o = .slice so j co ∧ Sl 3 1 so j co (tidsV (rl.take j)) SO ∧ Own E wr (SO ++ (plainF p sa hs.length cap ++ (S ++ (I ++ (FC ++ R)))))) (fun i _ _ => hs.length - (intOf i).toNat)
  case atStart => exact ⟨0, none, 0, [], rfl, Nat.zero_le _, rfl, Sl.nil _ _, hO1⟩
  case round =>
    clear hO1
    obtain ⟨j, so, co, SO, rfl, hj, rfl, hSO, hO⟩ := hrel
    by_cases hlt : j < rl.length
    · have g1 : ((k + j : Nat) : Int) < hs.length := by omega
      have g2 : (0 : Int) ≤ ((k + j : Nat) : Int) := by omega
      have hkj : k + j < hs.length := by omega
      obtain ⟨sb, rfl⟩ := sl_some9 hS (by omega)
      obtain ⟨x, hx⟩ : ∃ x, hs[k + j]'hkj = x := ⟨_, rfl⟩
      have hde : j < ((esOf hs).drop k).length := by rw [List.length_drop, esOf_len]; omega
      have hget := tw_get (fun x : En => decide (x.d.enc = d.enc)) ((esOf hs).drop k) j (by rw [HRL.out]; exact hlt) hde
      have hdx : ((esOf hs).drop k)[j]'hde = x.e := by
        rw [List.getElem_drop, esOf_get hs (k + j) (by rw [esOf_len]; exact hkj) hkj, hx]
      rw [hdx] at hget
      have henc : ((encB x.e.d).toList == (encB d).toList) = true := by rw [encB_beq]; exact hget.1
      have hrlj : rl[j]'hlt = x.e := by
        have := hget.2
        simp only [HRL.out] at this
        exact this
      have hsc : ∀ i v, x.v[i]? = some v → wr.cell? ((⟨sb, (k + j) * 6, none⟩ : Addr).add i) = some v := hx ▸ row_cells Hl.len hS hO hkj
      have c0 : wr.cell? ⟨sb, (k + j) * 6, none⟩ = some (.string (encB x.e.d)) := by have := hsc 0 _ rfl; rwa [add_lit, Nat.add_zero] at this
      have c5 : wr.cell? ⟨sb, (k + j) * 6 + 5, none⟩ = some (.int .i64 x.e.t) := by have := hsc 5 _ rfl; rwa [add_lit] at this
      have cp : wr.cell? ⟨p, 1, none⟩ = some (.slice (some ⟨sb, 0, none⟩) hs.length cap) := by
        have h9 : Own E wr (pt p (.cells #[.bool true, .slice (some ⟨sb, 0, none⟩) hs.length cap] 66 (0, 0)) ++ (SO ++ (S ++ (I ++ (FC ++ R))))) := hO.as (plainF p (some ⟨sb, 0, none⟩) hs.length cap ++ (SO ++ (S ++ (I ++ (FC ++ R)))))
        rw [h9.cell (b := p)]; rfl
      have HJ := Lib.hid (And.intro hj (And.intro hlt (And.intro hkj hrll)))
      have HRJ := Lib.hid (show ∀ h : j < rl.length, rl[j]'h = x.e from fun _ => hrlj)
      clear hget hdx hx hsc hde hkj hrlj hj hlt
      go_wp2_with (first | (refine at_bs ?_; go_must (refine own_build1 (v := ?_) sltI9 hO ?_ ?_ ?_ ?_ ?_ ?_; rotate_left; (· rfl); (· ((conv => lhs; whnf); try exact rfl)); (· rfl); (· decide); (· decide); clear hO; (try clear hF); intro bs _ hO; (try simp only [Value.cells] at hO); ((try simp only [List.nil_append, List.append_nil] at hO); have hF := Own.cells hO; simp only [cellsOf_append, cellsOf_pt] at hF); simp only [Act.put, List.setIfInBounds_toArray, List.set_cons_zero, List.set_cons_succ])) | (refine at_append ?_; go_must (refine own_append_elem (b1 := ?_) (cs := ?_) (e1 := ?_) (f1 := ?_) sltI9 hO ?_ ?_ ?_ hSO ?_ ?_ ?_ ?_ ?_ ?_ ?_; rotate_left 4; (· rfl); (· rfl); (· rfl); (· exact inferInstance); (· rfl); (· intro u hu; simp at hu; subst hu; rfl); (· first | omega | (simp only [maxLen]; omega)); (· decide); (· first | omega | (simp only [maxLen]; omega)); clear hO; (try clear hF); intro so2 co2 SO2 w4 hSO2 hO; ((try simp only [List.nil_append, List.append_nil] at hO); have hF := Own.cells hO; simp only [cellsOf_append, cellsOf_pt] at hF); simp only [Act.put, List.setIfInBounds_toArray, List.set_cons_zero, List.set_cons_succ])))
      obtain ⟨hj, hlt, hkj, hrll⟩ := HJ.out
      go_roundw
      case rel =>
        refine ⟨j + 1, so2, co2, SO2, by go_num, hlt, rfl, ?_, hO.as _⟩
        rw [List.take_succ_eq_append_getElem hlt, HRJ.out hlt]
        unfold tidsV
        rw [List.map_append]
        exact hSO2
      case measure => simp [intOf]; omega
    · obtain rfl : j = rl.length := by omega
      rw [List.take_length] at hSO
      have hfin : ∀ w', Own E w' (SO ++ (plainF p sa hs.length cap ++ (S ++ (I ++ (FC ++ R))))) → POST (.returned (.tuple #[.slice so rl.length co, .int .i64 0])) w' := fun w' h => by
        rw [← HPOST.out]
        refine ⟨so, co, SO, ?_, h.as _⟩
        rw [if_pos HOK.out, HRUN.out, HRL.out]
        exact ⟨rfl, hSO⟩
      have HFIN := Lib.hid hfin
      clear hfin
      by_cases hkn : k + rl.length < hs.length
      · have g1 : ((k + rl.length : Nat) : Int) < hs.length := by omega
        have g2 : (0 : Int) ≤ ((k + rl.length : Nat) : Int) := by omega
        obtain ⟨sb, rfl⟩ := sl_some9 hS (by omega)
        obtain ⟨x, hx⟩ : ∃ x, hs[k + rl.length]'hkn = x := ⟨_, rfl⟩
        have hde : rl.length < ((esOf hs).drop k).length := by rw [List.length_drop, esOf_len]; omega
        have hst := tw_stop (fun x : En => decide (x.d.enc = d.enc)) ((esOf hs).drop k) (by rw [HRL.out]; exact hde)
        have hdx : ((esOf hs).drop k)[rl.length]'hde = x.e := by
          rw [List.getElem_drop, esOf_get hs (k + rl.length) (by rw [esOf_len]; exact hkn) hkn, hx]
        simp only [HRL.out, hdx] at hst
        have henc : ((encB x.e.d).toList == (encB d).toList) = false := by rw [encB_beq]; exact hst
        have hsc : ∀ i v, x.v[i]? = some v → wr.cell? ((⟨sb, (k + rl.length) * 6, none⟩ : Addr).add i) = some v := hx ▸ row_cells Hl.len hS hO hkn
        have c0 : wr.cell? ⟨sb, (k + rl.length) * 6, none⟩ = some (.string (encB x.e.d)) := by have := hsc 0 _ rfl; rwa [add_lit, Nat.add_zero] at this
        have cp : wr.cell? ⟨p, 1, none⟩ = some (.slice (some ⟨sb, 0, none⟩) hs.length cap) := by
          have h9 : Own E wr (pt p (.cells #[.bool true, .slice (some ⟨sb, 0, none⟩) hs.length cap] 66 (0, 0)) ++ (SO ++ (S ++ (I ++ (FC ++ R))))) := hO.as (plainF p (some ⟨sb, 0, none⟩) hs.length cap ++ (SO ++ (S ++ (I ++ (FC ++ R)))))
          rw [h9.cell (b := p)]; rfl
        clear hst hdx hx hsc hde hkn hj hlt hrll
        go_wp2_with fail
        exact HFIN.out _ hO
      · have g1 : ¬ ((k + rl.length : Nat) : Int) < hs.length := by omega
        have g3 : decide (((k + rl.length : Nat) : Int) < hs.length) = false := decide_eq_false g1
        have cp : wr.cell? ⟨p, 1, none⟩ = some (.slice sa hs.length cap) := by
          have h9 : Own E wr (pt p (.cells #[.bool true, .slice sa hs.length cap] 66 (0, 0)) ++ (SO ++ (S ++ (I ++ (FC ++ R))))) := hO.as (plainF p sa hs.length cap ++ (SO ++ (S ++ (I ++ (FC ++ R)))))
          rw [h9.cell (b := p)]; rfl
        clear hkn hj hlt hrll
        go_wp2_with fail
        exact HFIN.out _ hO
end Go.Proofs.YticclennllklpaaDoor

/- Layer 9: awake. -/
namespace Go.Proofs.YticclennllklpaaDoor
open Go Go.RowKit Go.Own Go.Dt

def plainS : ByteArray := ⟨#[112, 108, 97, 105, 110]⟩
set_option maxRecDepth 100000 in
set_option maxHeartbeats 16000000 in
theorem pName (E w : World) (X R : Fr) (p n cap : Nat) (sa : Option Addr) (hO : Own E w X) [hp : Pick X (plainF p sa n cap) R] :
    Calls Tryd.prog 25 #[.pointer (some ⟨p, 0, none⟩)] w fun e w' => e = .returned (.string plainS) ∧ w = w' := by
  go_enter Tryd.func25, Tryd.ntmps25
  go_wp2_with (go_at_call 33; refine (pGiven E _ _ _ p n cap sa hO).mono ?_; rintro e w1 ⟨rfl, rfl⟩)
  go_ret
  exact ⟨rfl, rfl⟩
theorem PlainAt.name {E w : World} {X A R : Fr} {p : Nat} {hs : List Hl} (hA : PlainAt E p hs A) (hO : Own E w X) [hp : Pick X A R] :
    Calls Tryd.prog 25 #[.pointer (some ⟨p, 0, none⟩)] w fun e w' => e = .returned (.string plainS) ∧ w = w' := by
  have hO1 := hO.perm hp.perm
  obtain ⟨sa, cap, S, FC, _, _, _, rfl⟩ := hA
  exact pName E w _ ((S ++ FC) ++ R) p hs.length cap sa (hO1.as (plainF p sa hs.length cap ++ ((S ++ FC) ++ R)))
theorem ins_new {E : World} {err : Int} {hs hs' : List Hl} {y : En} (h : (okE y = false ∧ err = 1 ∧ esOf hs' = esOf hs) ∨ (okE y = true ∧ y ∈ esOf hs ∧ err = 160 ∧ esOf hs' = esOf hs) ∨ (okE y = true ∧ y ∉ esOf hs ∧ err = 0 ∧ esOf hs' = wiE y (esOf hs))) (hok : okE y = true) (hn : y ∉ esOf hs) : err = 0 ∧ esOf hs' = wiE y (esOf hs) := by
  rcases h with ⟨h, _⟩ | ⟨_, h, _⟩ | ⟨_, _, h⟩
  · rw [hok] at h; cases h
  · exact absurd h hn
  · exact h
theorem ins_dup {E : World} {err : Int} {hs hs' : List Hl} {y : En} (h : (okE y = false ∧ err = 1 ∧ esOf hs' = esOf hs) ∨ (okE y = true ∧ y ∈ esOf hs ∧ err = 160 ∧ esOf hs' = esOf hs) ∨ (okE y = true ∧ y ∉ esOf hs ∧ err = 0 ∧ esOf hs' = wiE y (esOf hs))) (hok : okE y = true) (hn : y ∈ esOf hs) : err = 160 ∧ esOf hs' = esOf hs := by
  rcases h with ⟨h, _⟩ | ⟨_, _, h⟩ | ⟨_, h, _⟩
  · rw [hok] at h; cases h
  · exact h
  · exact absurd hn h
def D5 : Dt := ⟨1, 5, ByteArray.empty, []⟩
theorem D5w : D5.wf := ⟨⟨by decide, by decide⟩, ⟨by decide, by decide⟩, fun _ h => (nomatch h)⟩
theorem n01 : (⟨D5, 0⟩ : En) ∉ wiE ⟨D5, 1⟩ (esOf []) := by
  show _ ∉ [(⟨D5, 1⟩ : En)]
  simp
theorem w01 : wiE ⟨D5, 0⟩ (wiE ⟨D5, 1⟩ (esOf [])) = [⟨D5, 0⟩, ⟨D5, 1⟩] := by
  show wiE ⟨D5, 0⟩ [⟨D5, 1⟩] = _
  unfold wiE
  rw [if_pos (show elt ⟨D5, 0⟩ ⟨D5, 1⟩ from .inr ⟨rfl, by decide⟩)]
set_option maxRecDepth 100000 in
set_option maxHeartbeats 16000000 in
theorem awake9 (E w : World) (X R I : Fr) (hG : MaxL E I) (hO : Own E w X) [hp : Pick X I R] :
    Calls Tryd.prog 9 #[] w fun e w' => e = .returned (.bool true) ∧ Own E w' (I ++ R) := by
  replace hO := hO.perm hp.perm
  clear hp
  go_enter Tryd.func9, Tryd.ntmps9
  go_wp2_with fail
  refine (newPlain E _ _ hO).mono ?_
  clear hO
  rintro e w1 ⟨p, rfl, hO⟩
  have hA := PlainAt.new E p
  replace hO := hO.as (plainF p none 0 0 ++ (I ++ R))
  generalize plainF p none 0 0 = A at hA hO
  go_wp2_with (first | (refine at_alloc ?_; go_must (refine own_alloc (z := .agg #[.int .i64 0, .int .i64 0, .string .empty, .slice none 0 0]) hO ?_ ?_ ?_; (· rfl); (· kernel_rfl); clear hO; (try clear hF); intro kb _ hO; (try simp only [Value.cells] at hO); ((try simp only [List.nil_append, List.append_nil] at hO); have hF := Own.cells hO; simp only [cellsOf_append, cellsOf_pt] at hF); simp only [Act.put, List.setIfInBounds_toArray, List.set_cons_zero, List.set_cons_succ])) | (refine own_store (v := ?_) (off := 0) (b := kb) hO ?_ ?_ ?_ ?_ ?_ ?_ ?_; rotate_left; (· rfl); (· ((conv => lhs; whnf); try exact rfl)); (· ((conv => lhs; whnf); try exact rfl)); (· simp [Value.cells]); (· simp [Value.cells, Value.oneCell']); (· simp [Value.cells]); clear hO; (try clear hF); intro _ hO; (try simp only [splice, Value.cells] at hO); ((try simp only [List.nil_append, List.append_nil] at hO); have hF := Own.cells hO; simp only [cellsOf_append, cellsOf_pt] at hF); simp only [Act.put, List.setIfInBounds_toArray, List.set_cons_zero, List.set_cons_succ]))
  simp only [List.setIfInBounds_toArray, List.set_cons_zero, List.set_cons_succ, Nat.zero_add, Nat.reduceAdd] at hO
  clear hF
  replace hO : Own E _ (pt kb (.cells #[.int .i64 1, .int .i64 5, .string .empty, .slice none 0 0] 30 (0, 0)) ++ (A ++ (I ++ R))) := hO
  (try (go_wp2_with fail))
  refine region_sch (fun w' => Own E w' (pt kb (.cells #[.int .i64 1, .int .i64 5, .string .empty, .slice none 0 0] 30 (0, 0)))) (.look 0 (.look 1 (.look 2 (.look 4 (.look 5 (.look 6 (.look 8 (.look 9 (.look 10 (.act 3 (.act 7 (.act 11 (.look 12 (.look 13 (.look 14 .done))))))))))))))) (by kernel_rfl) (by kernel_rfl) (fun _ _ d _ _ h => by cases d <;> exact h) ?_ ?_
  · exact hO.drew.as _
  replace hO := hO.drew
  generalize World.drew _ = wdr at hO ⊢
  first | (refine sch_look (o := ?_) (v := ?_) ?_ ?_ ?_ ?_; rotate_left 2; (· ((conv => lhs; whnf); try exact rfl)); (· rfl); (· intro w' hO'; skip; go_simp; (try exact rfl)); simp only [Act.put, List.setIfInBounds_toArray, List.set_cons_zero, List.set_cons_succ]) | (refine sch_pass (o := ?_) ?_ ?_ ?_; rotate_left; (· ((conv => lhs; whnf); try exact rfl)); (· rfl); simp only [Act.put, List.setIfInBounds_toArray, List.set_cons_zero, List.set_cons_succ]) | (refine sch_look (o := ?_) (v := .agg ?_) ?_ ?_ ?_ ?_; rotate_left 2; (· ((conv => lhs; whnf); try exact rfl)); (· rfl); (· intro w' hO'; refine run_opLoadS (b := ?_) (cs := ?_) (e := ?_) (f := ?_) hO' ?_ ?_ ?_ ?_; rotate_left 4; (· exact rfl); (· exact inferInstance); (· simp; done); (· simp; done)); simp only [Act.put, List.setIfInBounds_toArray, List.set_cons_zero, List.set_cons_succ])
  (refine sch_look (o := ?_) (v := .agg #[.int .i64 1, .int .i64 5, .string .empty, .slice none 0 0]) ?_ ?_ ?_ ?_; rotate_left; (· ((conv => lhs; whnf); try exact rfl)); (· rfl); (· intro w' hO'; exact run_opLoadS (b := kb) (cs := #[.int .i64 1, .int .i64 5, .string .empty, .slice none 0 0]) (e := 30) (f := _) hO' rfl inferInstance (by simp) (by simp)); simp only [Act.put, List.setIfInBounds_toArray, List.set_cons_zero, List.set_cons_succ])
  first | (refine sch_look (o := ?_) (v := ?_) ?_ ?_ ?_ ?_; rotate_left 2; (· ((conv => lhs; whnf); try exact rfl)); (· rfl); (· intro w' hO'; skip; go_simp; (try exact rfl)); simp only [Act.put, List.setIfInBounds_toArray, List.set_cons_zero, List.set_cons_succ]) | (refine sch_pass (o := ?_) ?_ ?_ ?_; rotate_left; (· ((conv => lhs; whnf); try exact rfl)); (· rfl); simp only [Act.put, List.setIfInBounds_toArray, List.set_cons_zero, List.set_cons_succ]) | (refine sch_look (o := ?_) (v := .agg ?_) ?_ ?_ ?_ ?_; rotate_left 2; (· ((conv => lhs; whnf); try exact rfl)); (· rfl); (· intro w' hO'; refine run_opLoadS (b := ?_) (cs := ?_) (e := ?_) (f := ?_) hO' ?_ ?_ ?_ ?_; rotate_left 4; (· exact rfl); (· exact inferInstance); (· simp; done); (· simp; done)); simp only [Act.put, List.setIfInBounds_toArray, List.set_cons_zero, List.set_cons_succ])
  first | (refine sch_look (o := ?_) (v := ?_) ?_ ?_ ?_ ?_; rotate_left 2; (· ((conv => lhs; whnf); try exact rfl)); (· rfl); (· intro w' hO'; skip; go_simp; (try exact rfl)); simp only [Act.put, List.setIfInBounds_toArray, List.set_cons_zero, List.set_cons_succ]) | (refine sch_pass (o := ?_) ?_ ?_ ?_; rotate_left; (· ((conv => lhs; whnf); try exact rfl)); (· rfl); simp only [Act.put, List.setIfInBounds_toArray, List.set_cons_zero, List.set_cons_succ]) | (refine sch_look (o := ?_) (v := .agg ?_) ?_ ?_ ?_ ?_; rotate_left 2; (· ((conv => lhs; whnf); try exact rfl)); (· rfl); (· intro w' hO'; refine run_opLoadS (b := ?_) (cs := ?_) (e := ?_) (f := ?_) hO' ?_ ?_ ?_ ?_; rotate_left 4; (· exact rfl); (· exact inferInstance); (· simp; done); (· simp; done)); simp only [Act.put, List.setIfInBounds_toArray, List.set_cons_zero, List.set_cons_succ])
  (refine sch_look (o := ?_) (v := .agg #[.int .i64 1, .int .i64 5, .string .empty, .slice none 0 0]) ?_ ?_ ?_ ?_; rotate_left; (· ((conv => lhs; whnf); try exact rfl)); (· rfl); (· intro w' hO'; exact run_opLoadS (b := kb) (cs := #[.int .i64 1, .int .i64 5, .string .empty, .slice none 0 0]) (e := 30) (f := _) hO' rfl inferInstance (by simp) (by simp)); simp only [Act.put, List.setIfInBounds_toArray, List.set_cons_zero, List.set_cons_succ])
  first | (refine sch_look (o := ?_) (v := ?_) ?_ ?_ ?_ ?_; rotate_left 2; (· ((conv => lhs; whnf); try exact rfl)); (· rfl); (· intro w' hO'; skip; go_simp; (try exact rfl)); simp only [Act.put, List.setIfInBounds_toArray, List.set_cons_zero, List.set_cons_succ]) | (refine sch_pass (o := ?_) ?_ ?_ ?_; rotate_left; (· ((conv => lhs; whnf); try exact rfl)); (· rfl); simp only [Act.put, List.setIfInBounds_toArray, List.set_cons_zero, List.set_cons_succ]) | (refine sch_look (o := ?_) (v := .agg ?_) ?_ ?_ ?_ ?_; rotate_left 2; (· ((conv => lhs; whnf); try exact rfl)); (· rfl); (· intro w' hO'; refine run_opLoadS (b := ?_) (cs := ?_) (e := ?_) (f := ?_) hO' ?_ ?_ ?_ ?_; rotate_left 4; (· exact rfl); (· exact inferInstance); (· simp; done); (· simp; done)); simp only [Act.put, List.setIfInBounds_toArray, List.set_cons_zero, List.set_cons_succ])
  first | (refine sch_look (o := ?_) (v := ?_) ?_ ?_ ?_ ?_; rotate_left 2; (· ((conv => lhs; whnf); try exact rfl)); (· rfl); (· intro w' hO'; skip; go_simp; (try exact rfl)); simp only [Act.put, List.setIfInBounds_toArray, List.set_cons_zero, List.set_cons_succ]) | (refine sch_pass (o := ?_) ?_ ?_ ?_; rotate_left; (· ((conv => lhs; whnf); try exact rfl)); (· rfl); simp only [Act.put, List.setIfInBounds_toArray, List.set_cons_zero, List.set_cons_succ]) | (refine sch_look (o := ?_) (v := .agg ?_) ?_ ?_ ?_ ?_; rotate_left 2; (· ((conv => lhs; whnf); try exact rfl)); (· rfl); (· intro w' hO'; refine run_opLoadS (b := ?_) (cs := ?_) (e := ?_) (f := ?_) hO' ?_ ?_ ?_ ?_; rotate_left 4; (· exact rfl); (· exact inferInstance); (· simp; done); (· simp; done)); simp only [Act.put, List.setIfInBounds_toArray, List.set_cons_zero, List.set_cons_succ])
  (refine sch_look (o := ?_) (v := .agg #[.int .i64 1, .int .i64 5, .string .empty, .slice none 0 0]) ?_ ?_ ?_ ?_; rotate_left; (· ((conv => lhs; whnf); try exact rfl)); (· rfl); (· intro w' hO'; exact run_opLoadS (b := kb) (cs := #[.int .i64 1, .int .i64 5, .string .empty, .slice none 0 0]) (e := 30) (f := _) hO' rfl inferInstance (by simp) (by simp)); simp only [Act.put, List.setIfInBounds_toArray, List.set_cons_zero, List.set_cons_succ])
  first | (refine sch_look (o := ?_) (v := ?_) ?_ ?_ ?_ ?_; rotate_left 2; (· ((conv => lhs; whnf); try exact rfl)); (· rfl); (· intro w' hO'; skip; go_simp; (try exact rfl)); simp only [Act.put, List.setIfInBounds_toArray, List.set_cons_zero, List.set_cons_succ]) | (refine sch_pass (o := ?_) ?_ ?_ ?_; rotate_left; (· ((conv => lhs; whnf); try exact rfl)); (· rfl); simp only [Act.put, List.setIfInBounds_toArray, List.set_cons_zero, List.set_cons_succ]) | (refine sch_look (o := ?_) (v := .agg ?_) ?_ ?_ ?_ ?_; rotate_left 2; (· ((conv => lhs; whnf); try exact rfl)); (· rfl); (· intro w' hO'; refine run_opLoadS (b := ?_) (cs := ?_) (e := ?_) (f := ?_) hO' ?_ ?_ ?_ ?_; rotate_left 4; (· exact rfl); (· exact inferInstance); (· simp; done); (· simp; done)); simp only [Act.put, List.setIfInBounds_toArray, List.set_cons_zero, List.set_cons_succ])
  (refine sch_act (o := ?_) ?_ ?_; rotate_left; (· ((conv => lhs; whnf); try exact rfl)))
  go_wp2_with fail
  refine (pInsert E _ _ _ A I p [] (Nat.zero_le _) hA ⟨D5, 1⟩ none 0 D5w (ItemsAt.nil _ _ _) hG (hO.as ((A ++ I) ++ (pt kb (.cells #[.int .i64 1, .int .i64 5, .string .empty, .slice none 0 0] 30 (0, 0)) ++ R)))).mono ?_
  clear hO
  rintro e w3 ⟨err3, hs3, A3, rfl, hA3, hd3, hO⟩
  obtain ⟨rfl, he3⟩ := ins_new (E := E) hd3 rfl (fun h => nomatch h)
  have hl3 : hs3.length ≤ 2000000000000 := by (have := esOf_len hs3; rw [he3] at this; have h9 : (wiE ⟨D5, 1⟩ (esOf [])).length = 1 := rfl; omega)
  clear hd3 hA
  go_wp2_with fail
  refine ⟨hO.as _, ?_⟩
  (refine sch_act (o := ?_) ?_ ?_; rotate_left; (· ((conv => lhs; whnf); try exact rfl)))
  go_wp2_with fail
  refine (pInsert E _ _ _ A3 I p hs3 hl3 hA3 ⟨D5, 0⟩ none 0 D5w (ItemsAt.nil _ _ _) hG (hO.as ((A3 ++ I) ++ (pt kb (.cells #[.int .i64 1, .int .i64 5, .string .empty, .slice none 0 0] 30 (0, 0)) ++ R)))).mono ?_
  clear hO
  rintro e w4 ⟨err4, hs4, A4, rfl, hA4, hd4, hO⟩
  obtain ⟨rfl, he4⟩ := ins_new (E := E) hd4 rfl (by rw [he3]; exact n01)
  rw [he3] at he4
  have he4 : esOf hs4 = [⟨D5, 0⟩, ⟨D5, 1⟩] := he4.trans w01
  have hl4 : hs4.length ≤ 2000000000000 := by (have := esOf_len hs4; rw [he4] at this; have h9 : ([⟨D5, 0⟩, ⟨D5, 1⟩] : List En).length = 2 := rfl; omega)
  clear hd4 hA3
  go_wp2_with fail
  refine ⟨hO.as _, ?_⟩
  (refine sch_act (o := ?_) ?_ ?_; rotate_left; (· ((conv => lhs; whnf); try exact rfl)))
  go_wp2_with fail
  refine (pInsert E _ _ _ A4 I p hs4 hl4 hA4 ⟨D5, 0⟩ none 0 D5w (ItemsAt.nil _ _ _) hG (hO.as ((A4 ++ I) ++ (pt kb (.cells #[.int .i64 1, .int .i64 5, .string .empty, .slice none 0 0] 30 (0, 0)) ++ R)))).mono ?_
  clear hO
  rintro e w5 ⟨err5, hs5, A5, rfl, hA5, hd5, hO⟩
  obtain ⟨rfl, he5⟩ := ins_dup (E := E) hd5 rfl (by rw [he4]; exact List.mem_cons_self ..)
  rw [he4] at he5
  have hl5 : hs5.length ≤ 2000000000000 := by (have := esOf_len hs5; rw [he5] at this; have h9 : ([⟨D5, 0⟩, ⟨D5, 1⟩] : List En).length = 2 := rfl; omega)
  clear hd5 hA4
  go_wp2_with fail
  refine ⟨hO.as _, ?_⟩
  first | (refine sch_look (o := ?_) (v := ?_) ?_ ?_ ?_ ?_; rotate_left 2; (· ((conv => lhs; whnf); try exact rfl)); (· rfl); (· intro w' hO'; skip; go_simp; (try exact rfl)); simp only [Act.put, List.setIfInBounds_toArray, List.set_cons_zero, List.set_cons_succ]) | (refine sch_pass (o := ?_) ?_ ?_ ?_; rotate_left; (· ((conv => lhs; whnf); try exact rfl)); (· rfl); simp only [Act.put, List.setIfInBounds_toArray, List.set_cons_zero, List.set_cons_succ]) | (refine sch_look (o := ?_) (v := .agg ?_) ?_ ?_ ?_ ?_; rotate_left 2; (· ((conv => lhs; whnf); try exact rfl)); (· rfl); (· intro w' hO'; refine run_opLoadS (b := ?_) (cs := ?_) (e := ?_) (f := ?_) hO' ?_ ?_ ?_ ?_; rotate_left 4; (· exact rfl); (· exact inferInstance); (· simp; done); (· simp; done)); simp only [Act.put, List.setIfInBounds_toArray, List.set_cons_zero, List.set_cons_succ])
  first | (refine sch_look (o := ?_) (v := ?_) ?_ ?_ ?_ ?_; rotate_left 2; (· ((conv => lhs; whnf); try exact rfl)); (· rfl); (· intro w' hO'; skip; go_simp; (try exact rfl)); simp only [Act.put, List.setIfInBounds_toArray, List.set_cons_zero, List.set_cons_succ]) | (refine sch_pass (o := ?_) ?_ ?_ ?_; rotate_left; (· ((conv => lhs; whnf); try exact rfl)); (· rfl); simp only [Act.put, List.setIfInBounds_toArray, List.set_cons_zero, List.set_cons_succ]) | (refine sch_look (o := ?_) (v := .agg ?_) ?_ ?_ ?_ ?_; rotate_left 2; (· ((conv => lhs; whnf); try exact rfl)); (· rfl); (· intro w' hO'; refine run_opLoadS (b := ?_) (cs := ?_) (e := ?_) (f := ?_) hO' ?_ ?_ ?_ ?_; rotate_left 4; (· exact rfl); (· exact inferInstance); (· simp; done); (· simp; done)); simp only [Act.put, List.setIfInBounds_toArray, List.set_cons_zero, List.set_cons_succ])
  first | (refine sch_look (o := ?_) (v := ?_) ?_ ?_ ?_ ?_; rotate_left 2; (· ((conv => lhs; whnf); try exact rfl)); (· rfl); (· intro w' hO'; skip; go_simp; (try exact rfl)); simp only [Act.put, List.setIfInBounds_toArray, List.set_cons_zero, List.set_cons_succ]) | (refine sch_pass (o := ?_) ?_ ?_ ?_; rotate_left; (· ((conv => lhs; whnf); try exact rfl)); (· rfl); simp only [Act.put, List.setIfInBounds_toArray, List.set_cons_zero, List.set_cons_succ]) | (refine sch_look (o := ?_) (v := .agg ?_) ?_ ?_ ?_ ?_; rotate_left 2; (· ((conv => lhs; whnf); try exact rfl)); (· rfl); (· intro w' hO'; refine run_opLoadS (b := ?_) (cs := ?_) (e := ?_) (f := ?_) hO' ?_ ?_ ?_ ?_; rotate_left 4; (· exact rfl); (· exact inferInstance); (· simp; done); (· simp; done)); simp only [Act.put, List.setIfInBounds_toArray, List.set_cons_zero, List.set_cons_succ])
  refine sch_done ?_
  replace hO : Own E _ (pt kb (.cells #[.int .i64 1, .int .i64 5, .string .empty, .slice none 0 0] 30 (0, 0)) ++ (A5 ++ (I ++ R))) := hO.as _
  clear he3 hl3 he4 hl4
  have hF := Own.cells hO; simp only [cellsOf_append, cellsOf_pt] at hF
  go_wp2_with (first | (refine at_load ?_; refine own_loadS (b := ?_) (cs := ?_) (e := ?_) (f := ?_) hO ?_ ?_ ?_ ?_ ?_ ?_; rotate_left 4; (· rfl); (· rfl); (· exact inferInstance); (· simp; done); (· simp [Value.cells]; done); simp only [Act.put, List.setIfInBounds_toArray, List.set_cons_zero, List.set_cons_succ]))
  refine (pFindK E _ _ _ A5 I p hs5 hl5 hA5 D5 none 0 D5w (ItemsAt.nil _ _ _) hG (hO.as ((A5 ++ I) ++ (pt kb (.cells #[.int .i64 1, .int .i64 5, .string .empty, .slice none 0 0] 30 (0, 0)) ++ R)))).mono ?_
  clear hO hF
  rintro e w6 ⟨so, co, SO, hr, hO⟩
  rw [if_pos (show D5.ok = true from rfl), he5] at hr
  have hk : keyE [⟨D5, 0⟩, ⟨D5, 1⟩] D5 = [⟨D5, 0⟩, ⟨D5, 1⟩] := by simp [keyE]
  rw [hk] at hr
  obtain ⟨rfl, hSO⟩ := hr
  replace hO : Own E w6 (SO ++ (A5 ++ (I ++ R))) := hO.as _
  obtain ⟨sb, rfl⟩ := sl_some9 hSO (by decide)
  have c0 : w6.cell? ⟨sb, 0, none⟩ = some (.int .i64 0) := by
    have := hSO.cell hO ⟨sb, 0, none⟩ rfl 0 (by decide)
    rw [add_lit] at this
    exact this
  have c1 : w6.cell? ⟨sb, 1, none⟩ = some (.int .i64 1) := by
    have := hSO.cell hO ⟨sb, 0, none⟩ rfl 1 (by decide)
    rw [add_lit] at this
    exact this
  have hpl : (plainS.toList == [112, 108, 97, 105, 110]) = true := by rw [Lib.toList_data]; rfl
  have h2 : ([⟨D5, 0⟩, ⟨D5, 1⟩] : List En).length = 2 := rfl
  rw [h2]
  clear hk he5 hl5
  go_wp2_with (go_at_call 25; refine (hA5.name hO).mono ?_; rintro e w9 ⟨rfl, rfl⟩)
  go_ret
  exact ⟨rfl, hO.as _⟩
end Go.Proofs.YticclennllklpaaDoor

/- Layer 9: arguments: a datum, an entry. -/
namespace Go.Proofs.YticclennllklpaaDoor
open Go Go.RowKit Go.Own Go.Dt Go.ChangeShapes Go.WideShapes Go.Deep
section
variable {H : Type} {enc : TypeId × Value → H} {W : World} {spare : Nat → Bool}
theorem cD4 : Tryd.prog.cellsOf 30 = 4 := by kernel_rfl
theorem cE5 : Tryd.prog.cellsOf 32 = 5 := by kernel_rfl
theorem cI1 : Tryd.prog.cellsOf 3 = 1 := by kernel_rfl
theorem cS1 : Tryd.prog.cellsOf 9 = 1 := by kernel_rfl
theorem cL1 : Tryd.prog.cellsOf 28 = 1 := by kernel_rfl
set_option maxRecDepth 100000 in
theorem openIt {fuel : Nat} {v : Value} {x : DataW H × List MemPlace} (h : DataW.trod enc Tryd.prog W 0 spare true fuel 28 [v] = some x) :
    ∃ (sa : Option Addr) (cap : Nat) (l : List It), v = .slice sa l.length cap ∧ l.length ≤ cap ∧ ItemsAt W (oldFr W) sa l ∧ ∀ x ∈ l, i64 x.k ∧ i64 x.n :=
  openItems Tryd.underlying28 Tryd.underlying30 Tryd.underlying3 Tryd.underlying9 (by kernel_rfl) (by kernel_rfl) (by kernel_rfl) h
set_option maxRecDepth 100000 in
theorem openDat {fuel : Nat} {cs : List Value} {x : DataW H × List MemPlace} (h : DataW.trod enc Tryd.prog W 0 spare true fuel 30 cs = some x) :
    ∃ (d : Dt) (sa : Option Addr) (cap : Nat), cs = datV d sa cap ∧ d.wf ∧ d.l.length ≤ cap ∧ ItemsAt W (oldFr W) sa d.l := by
  obtain ⟨xs, n, rfl, rfl, hl, hn, hf⟩ := DataW.trod_struct Tryd.underlying30 h
  rw [cD4] at hl
  match cs, hl with
  | [c0, c1, c2, c3], _ =>
    have t0 : DataW.trod enc Tryd.prog W 0 spare true n 3 (([c0, c1, c2, c3].drop 0).take (Tryd.prog.cellsOf 3)) = xs[0]? := hf 0 _ rfl
    rw [cI1] at t0
    replace t0 : DataW.trod enc Tryd.prog W 0 spare true n 3 [c0] = xs[0]? := t0
    have t1 : DataW.trod enc Tryd.prog W 0 spare true n 3 (([c0, c1, c2, c3].drop 1).take (Tryd.prog.cellsOf 3)) = xs[1]? := hf 1 _ rfl
    rw [cI1] at t1
    replace t1 : DataW.trod enc Tryd.prog W 0 spare true n 3 [c1] = xs[1]? := t1
    have t2 : DataW.trod enc Tryd.prog W 0 spare true n 9 (([c0, c1, c2, c3].drop 2).take (Tryd.prog.cellsOf 9)) = xs[2]? := hf 2 _ rfl
    rw [cS1] at t2
    replace t2 : DataW.trod enc Tryd.prog W 0 spare true n 9 [c2] = xs[2]? := t2
    have t3 : DataW.trod enc Tryd.prog W 0 spare true n 28 (([c0, c1, c2, c3].drop 3).take (Tryd.prog.cellsOf 28)) = xs[3]? := hf 3 _ rfl
    rw [cL1] at t3
    replace t3 : DataW.trod enc Tryd.prog W 0 spare true n 28 [c3] = xs[3]? := t3
    have hn4 : xs.length = 4 := hn
    have e0 : xs[0]? = some xs[0] := List.getElem?_eq_getElem (by omega)
    have e1 : xs[1]? = some xs[1] := List.getElem?_eq_getElem (by omega)
    have e2 : xs[2]? = some xs[2] := List.getElem?_eq_getElem (by omega)
    have e3 : xs[3]? = some xs[3] := List.getElem?_eq_getElem (by omega)
    rw [e0] at t0
    rw [e1] at t1
    rw [e2] at t2
    rw [e3] at t3
    obtain ⟨k0, c0, _, w0⟩ := DataW.trod_int Tryd.underlying3 t0
    obtain ⟨k1, c1, _, w1⟩ := DataW.trod_int Tryd.underlying3 t1
    obtain ⟨s2, c2, _, _⟩ := DataW.trod_string Tryd.underlying9 t2
    obtain ⟨sa, cap, l, rfl, hlc, hI, hw⟩ := openIt t3
    simp only [List.cons.injEq, and_true] at c0 c1 c2
    subst c0 c1 c2
    exact ⟨⟨k0, k1, s2, l⟩, sa, cap, rfl, ⟨wfI w0, wfI w1, hw⟩, hlc, hI⟩
set_option maxRecDepth 100000 in
theorem openEn {fuel : Nat} {cs : List Value} {x : DataW H × List MemPlace} (h : DataW.trod enc Tryd.prog W 0 spare true fuel 32 cs = some x) :
    ∃ (e : En) (sa : Option Addr) (cap : Nat), cs = datV e.d sa cap ++ [.int .i64 e.t] ∧ e.d.wf ∧ i64 e.t ∧ e.d.l.length ≤ cap ∧ ItemsAt W (oldFr W) sa e.d.l := by
  obtain ⟨xs, n, rfl, rfl, hl, hn, hf⟩ := DataW.trod_struct Tryd.underlying32 h
  rw [cE5] at hl
  match cs, hl with
  | [c0, c1, c2, c3, c4], _ =>
    have t0 : DataW.trod enc Tryd.prog W 0 spare true n 30 (([c0, c1, c2, c3, c4].drop 0).take (Tryd.prog.cellsOf 30)) = xs[0]? := hf 0 _ rfl
    rw [cD4] at t0
    replace t0 : DataW.trod enc Tryd.prog W 0 spare true n 30 [c0, c1, c2, c3] = xs[0]? := t0
    have t1 : DataW.trod enc Tryd.prog W 0 spare true n 3 (([c0, c1, c2, c3, c4].drop 4).take (Tryd.prog.cellsOf 3)) = xs[1]? := hf 1 _ rfl
    rw [cI1] at t1
    replace t1 : DataW.trod enc Tryd.prog W 0 spare true n 3 [c4] = xs[1]? := t1
    have hn4 : xs.length = 2 := hn
    have e0 : xs[0]? = some xs[0] := List.getElem?_eq_getElem (by omega)
    have e1 : xs[1]? = some xs[1] := List.getElem?_eq_getElem (by omega)
    rw [e0] at t0
    rw [e1] at t1
    obtain ⟨d, sa, cap, c0, hw, hlc, hI⟩ := openDat t0
    obtain ⟨k1, c1, _, w1⟩ := DataW.trod_int Tryd.underlying3 t1
    simp only [List.cons.injEq, and_true] at c1
    subst c1
    simp only [datV, List.cons.injEq, and_true] at c0
    obtain ⟨rfl, rfl, rfl, rfl⟩ := c0
    exact ⟨⟨d, k1⟩, sa, cap, rfl, hw, wfI w1, hlc, hI⟩
end
end Go.Proofs.YticclennllklpaaDoor
