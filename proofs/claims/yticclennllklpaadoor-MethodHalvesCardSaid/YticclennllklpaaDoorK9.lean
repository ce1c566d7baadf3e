/- A row of several elements, built in place. -/
import Derived.Test.YticclennllklpaaDoorK3
import Derived.Test.YticclennllklpaaDoorK4
import Derived.Test.YticclennllklpaaDoorK5
import Derived.Test.YticclennllklpaaDoorK8
import Derived.Test.YticclennllklpaaDoorK6
set_option linter.all false
/- A row of several elements, built in place. -/
namespace Go.Own
open Go.RowKit
section
variable {P : Program} {ops : Array Oper} {Q : Exit → Act → World → Prop} {rest : List Oper} {a : Act} {E w : World} {X R A : Fr} {d : Option Tmp} {ty : TypeId} {pos : String} {aft : Array Edge} {g : Option (Nat × Bool)}
theorem own_buildM {t e : TypeId} {sz bytes k : Nat} {z : Value} {ps : Array (Nat × Operand)} {cells : Array Value} (hT : SlT P t e sz bytes z) (hO : Own E w X)
    (hw : Region.wanted ⟨d, .buildSlice t k ps, ty, pos, aft, g⟩ (yielded ops a.tmps) = true) (h24 : k * sz ≤ 16777216) (h0 : 0 < k) (h1 : 0 < sz)
    (hf : Instr.fill (fun i => some (i * sz, sz)) (Array.map (fun x => z.cells[x % z.cells.size]!) (Array.range (k * sz))) (ps.toList.map fun p => (p.1, a.eval p.2)) = some cells)
    (next : ∀ b w1, Own E w1 (pt b (.cells cells e) ++ X) → wpList P ops Q rest (a.put d (.slice (some ⟨b, 0, none⟩) k k)) w1) :
    wpList P ops Q (⟨d, .buildSlice t k ps, ty, pos, aft, g⟩ :: rest) a w := by
  obtain ⟨i, hi, hz, hsz, hby⟩ := hT.parts
  refine wpList_run_value hw ?_ (next _ _ (hO.alloc _))
  have hbig : ¬ (16777216 < k * sz) := by omega
  have hne : k * sz ≠ 0 := Nat.mul_ne_zero (by omega) (by omega)
  simp [execOp, Instr.buildSlice, run_underlying hT.und, sizeOf, typeInfo, zeroValue, hi, hz, hsz, hbig, hne, newRow]
  rw [hf]
  simp
end
end Go.Own

/- The method: Delete, Drop, Check. -/
namespace Go.Own
open Go.RowKit
section
variable {P : Program} {ops : Array Oper} {Q : Exit → Act → World → Prop} {rest : List Oper} {a : Act} {E w : World} {X R A : Fr} {d : Option Tmp} {ty : TypeId} {pos : String} {aft : Array Edge} {g : Option (Nat × Bool)}
theorem at_clear {w : World} {Q : Exit → Act → World → Prop} {x ats} (h : wpList P ops Q (⟨d, .call { callee := .builtin .clear, args := x, argTypes := ats }, ty, pos, aft, g⟩ :: rest) a w) : wpList P ops Q (⟨d, .call { callee := .builtin .clear, args := x, argTypes := ats }, ty, pos, aft, g⟩ :: rest) a w := h
/-- append where there is room: the row stays. -/
theorem own_append_room {t tx e : TypeId} {sz bytes : Nat} {z : Value} {s x : Operand} {b : Nat} {n cap m : Nat} {xv : Value} {xs news : List Value} (hT : SlT P t e sz bytes z)
    (htx : P.underlying tx = some (.slice e) ∨ P.underlying tx = some .string) (hO : Own E w X)
    (hw : Region.wanted ⟨d, .call { callee := .builtin .append, args := #[s, x], argTypes := #[t, tx] }, ty, pos, aft, g⟩ (yielded ops a.tmps) = true)
    (hs : a.eval s = .slice (some ⟨b, 0, none⟩) n cap) (hx : a.eval x = xv) (hv : Sl e sz (some ⟨b, 0, none⟩) n cap xs A) [hp : Pick X A R]
    (hlen : ∀ w, (Builtin.lenOf xv).run P w = .ok m w) (hnews : ∀ w', Own E w' X → (Builtin.firstCells sz m xv).run P w' = .ok news.toArray w')
    (hl : news.length = m * sz) (h1 : ∀ u ∈ news, u.oneCell' = true) (hroom : n + m ≤ cap)
    (next : ∀ A' w1, Sl e sz (some ⟨b, 0, none⟩) (n + m) cap (xs ++ news) A' → Own E w1 (A' ++ R) → wpList P ops Q rest (a.put d (.slice (some ⟨b, 0, none⟩) (n + m) cap)) w1) :
    wpList P ops Q (⟨d, .call { callee := .builtin .append, args := #[s, x], argTypes := #[t, tx] }, ty, pos, aft, g⟩ :: rest) a w := by
  obtain ⟨i, hi, hz, hsz, hby⟩ := hT.parts
  have hO1 : Own E w (A ++ R) := hO.perm hp.perm
  subst hsz hby
  have hxs : (xs ++ news).length = (n + m) * i.size := by rw [List.length_append, hv.1, hl, Nat.add_mul]
  obtain ⟨A', w1, hr, hS, hO2⟩ : ∃ A' w', (Builtin.append_ #[t, tx] ty #[.slice (some ⟨b, 0, none⟩) n cap, xv]).run P w = .ok (.slice (some ⟨b, 0, none⟩) (n + m) cap) w' ∧ Sl e i.size (some ⟨b, 0, none⟩) (n + m) cap (xs ++ news) A' ∧ Own E w' (A' ++ R) := by
    rcases hv.2.2.2 with ⟨ha, _, _⟩ | ⟨b', rst, ha, hl4, hA⟩
    · cases ha
    · cases ha
      subst hA
      have hf := hnews w hO
      have hn1 : n * i.size = xs.length := hv.1.symm
      obtain ⟨w1, hst, hO2⟩ := run_storeCells_own (P := P) (b := b) (off := n * i.size) (e := e) news 0 (xs ++ rst).toArray w _ R hO1 inferInstance h1 (by
        have hle := Nat.mul_le_mul_right i.size hroom
        simp only [List.size_toArray, hl4]; rw [hl, Nat.add_zero, ← Nat.add_mul]; exact hle)
      have hsp : splice (xs ++ rst).toArray (n * i.size + 0) news = ((xs ++ news) ++ rst.drop news.length).toArray := by
        rw [Nat.add_zero, hn1]
        refine splice_append news xs rst ?_
        have hle := Nat.mul_le_mul_right i.size hroom
        rw [Nat.add_mul, ← hl4, List.length_append, hn1, ← hl] at hle
        omega
      rw [hsp] at hO2
      refine ⟨_, w1, ?_, ⟨hxs, hroom, hv.2.2.1, .inr ⟨b, rst.drop news.length, rfl, ?_, rfl⟩⟩, hO2⟩
      · simp only [Builtin.append_, add_lit]
        rcases htx with hu | hu <;> simp [run_underlying hT.und, run_underlying hu, sizeOf, typeInfo, hi, hlen, hf, hroom, add_lit, hst]
      · have hle := Nat.mul_le_mul_right i.size hroom
        rw [Nat.add_mul, ← hl] at hle
        rw [← hl4]
        rw [← hl4] at hle
        simp only [List.length_append, List.length_drop] at hle ⊢
        omega
  refine wpList_run_value hw ?_ (next A' w1 hS hO2)
  rw [execOp_append, hs, hx]
  simp [hr]
end
end Go.Own
namespace Go.Proofs.YticclennllklpaaDoor
open Go Go.RowKit Go.Own Go.Dt

set_option maxRecDepth 100000 in
set_option maxHeartbeats 16000000 in
theorem delH (E w : World) (X R S : Fr) (sb q cap i : Nat) (xs : List Value) (hi : i ≤ q) (hn : q ≤ 2000000000000) (hS : Sl 79 6 (some ⟨sb, 0, none⟩) (q + 1) cap xs S) (hx1 : ∀ u ∈ xs, u.oneCell' = true) (hO : Own E w X) [hp : Pick X S R] :
    Calls Tryd.prog 107 #[.slice (some ⟨sb, 0, none⟩) (q + 1) cap, .int .i64 i, .int .i64 ((i : Int) + 1)] w fun e w' => ∃ S', e = .returned (.slice (some ⟨sb, 0, none⟩) q cap) ∧ Sl 79 6 (some ⟨sb, 0, none⟩) q cap (xs.take (i * 6) ++ xs.drop ((i + 1) * 6)) S' ∧ Own E w' (S' ++ R) := by
  replace hO := hO.perm hp.perm
  clear hp
  have hcm := hS.cap_le
  unfold maxLen at hcm
  have hcq := hS.le
  have HX1 := Lib.hid hx1
  have HI := Lib.hid (And.intro hi hcq)
  have g1 : (0 : Int) ≤ i := by omega
  have g2 : (i : Int) ≤ (i : Int) + 1 := by omega
  have g3 : (i : Int) + 1 ≤ (q : Int) + 1 := by omega
  have g4 : (q : Int) + 1 ≤ cap := by omega
  have g5 : ((i : Int) == (i : Int) + 1) = false := by rw [beq_eq_false_iff_ne]; omega
  have g6 : (i : Int) ≤ cap := by omega
  have g7 : ¬ q + 1 = i := by omega
  have g8 : ((i : Int) + 1).toNat = i + 1 := by omega
  have g9 : ((q : Int) + 1).toNat = q + 1 := by omega
  have g10 : (0 : Int) ≤ (i : Int) + 1 := by omega
  have g11 : (q : Int) ≤ cap := by omega
  have g12 : ¬ cap = q := by omega
  have g13 : (q : Int) ≤ (q : Int) + 1 := by omega
  have g14 : (0 : Int) ≤ (q : Int) + 1 := by omega
  have hxl := hS.len
  have hdl : (xs.drop ((i + 1) * 6)).length = (q - i) * 6 := by rw [List.length_drop, hxl]; omega
  obtain ⟨ad, had⟩ : ∃ ad, (if cap = i + 1 then some (⟨sb, 0, none⟩ : Addr) else some ⟨sb, (i + 1) * 6, none⟩) = ad := ⟨_, rfl⟩
  have hnd : ∀ (w' : World) (m c : Nat), Own E w' S → (Builtin.firstCells 6 (q - i) (.slice ad m c)).run Tryd.prog w' = .ok (xs.drop ((i + 1) * 6)).toArray w' := fun w' m c h => by
    by_cases h0 : cap = i + 1
    · have e0 : xs.drop ((i + 1) * 6) = [] := List.drop_of_length_le (by rw [hxl]; omega)
      have e1 : q - i = 0 := by omega
      rw [← had, if_pos h0, e0, e1]
      exact run_firstCells_some w' 6 0 _ m c [] rfl (by simp)
    · rw [← had, if_neg h0]
      refine run_firstCells_some w' 6 (q - i) ⟨sb, (i + 1) * 6, none⟩ m c _ hdl ?_
      intro j v hj
      rw [List.getElem?_drop] at hj
      obtain ⟨hlt, hv⟩ := List.getElem?_eq_some_iff.1 hj
      have := hS.cell h ⟨sb, 0, none⟩ rfl ((i + 1) * 6 + j) hlt
      rw [add_lit, Nat.zero_add] at this
      rw [add_lit, this, hv]
  have HND := Lib.hid hnd
  have HDL := Lib.hid hdl
  have hST := hS.take i (by omega)
  have HXL := Lib.hid hxl
  clear hnd hdl hxl hS hi hcq hcm hx1
  go_enter Tryd.func107, Tryd.ntmps107
  go_wp2_with fail
  (try (go_wp2_with fail))
  refine region_sch (fun w' => Own E w' (([] : Fr))) (.look 0 (.look 1 (.look 2 (.look 3 (.look 4 (.look 5 (.act 6 (.look 7 .done)))))))) (by kernel_rfl) (by kernel_rfl) (fun _ _ d _ _ h => by cases d <;> exact h) ?_ ?_
  · exact hO.drew.as _
  replace hO := hO.drew
  generalize World.drew _ = wdr at hO ⊢
  first | (refine sch_look (o := ?_) (v := ?_) ?_ ?_ ?_ ?_; rotate_left 2; (· ((conv => lhs; whnf); try exact rfl)); (· rfl); (· intro w' hO'; skip; go_simp; (try exact rfl)); simp only [Act.put, List.setIfInBounds_toArray, List.set_cons_zero, List.set_cons_succ]) | (refine sch_pass (o := ?_) ?_ ?_ ?_; rotate_left; (· ((conv => lhs; whnf); try exact rfl)); (· rfl); simp only [Act.put, List.setIfInBounds_toArray, List.set_cons_zero, List.set_cons_succ]) | (refine sch_look (o := ?_) (v := .agg ?_) ?_ ?_ ?_ ?_; rotate_left 2; (· ((conv => lhs; whnf); try exact rfl)); (· rfl); (· intro w' hO'; refine run_opLoadS (b := ?_) (cs := ?_) (e := ?_) (f := ?_) hO' ?_ ?_ ?_ ?_; rotate_left 4; (· exact rfl); (· exact inferInstance); (· simp; done); (· simp; done)); simp only [Act.put, List.setIfInBounds_toArray, List.set_cons_zero, List.set_cons_succ])
  first | (refine sch_look (o := ?_) (v := ?_) ?_ ?_ ?_ ?_; rotate_left 2; (· ((conv => lhs; whnf); try exact rfl)); (· rfl); (· intro w' hO'; skip; go_simp; (try exact rfl)); simp only [Act.put, List.setIfInBounds_toArray, List.set_cons_zero, List.set_cons_succ]) | (refine sch_pass (o := ?_) ?_ ?_ ?_; rotate_left; (· ((conv => lhs; whnf); try exact rfl)); (· rfl); simp only [Act.put, List.setIfInBounds_toArray, List.set_cons_zero, List.set_cons_succ]) | (refine sch_look (o := ?_) (v := .agg ?_) ?_ ?_ ?_ ?_; rotate_left 2; (· ((conv => lhs; whnf); try exact rfl)); (· rfl); (· intro w' hO'; refine run_opLoadS (b := ?_) (cs := ?_) (e := ?_) (f := ?_) hO' ?_ ?_ ?_ ?_; rotate_left 4; (· exact rfl); (· exact inferInstance); (· simp; done); (· simp; done)); simp only [Act.put, List.setIfInBounds_toArray, List.set_cons_zero, List.set_cons_succ])
  first | (refine sch_look (o := ?_) (v := ?_) ?_ ?_ ?_ ?_; rotate_left 2; (· ((conv => lhs; whnf); try exact rfl)); (· rfl); (· intro w' hO'; skip; go_simp; (try exact rfl)); simp only [Act.put, List.setIfInBounds_toArray, List.set_cons_zero, List.set_cons_succ]) | (refine sch_pass (o := ?_) ?_ ?_ ?_; rotate_left; (· ((conv => lhs; whnf); try exact rfl)); (· rfl); simp only [Act.put, List.setIfInBounds_toArray, List.set_cons_zero, List.set_cons_succ]) | (refine sch_look (o := ?_) (v := .agg ?_) ?_ ?_ ?_ ?_; rotate_left 2; (· ((conv => lhs; whnf); try exact rfl)); (· rfl); (· intro w' hO'; refine run_opLoadS (b := ?_) (cs := ?_) (e := ?_) (f := ?_) hO' ?_ ?_ ?_ ?_; rotate_left 4; (· exact rfl); (· exact inferInstance); (· simp; done); (· simp; done)); simp only [Act.put, List.setIfInBounds_toArray, List.set_cons_zero, List.set_cons_succ])
  first | (refine sch_look (o := ?_) (v := ?_) ?_ ?_ ?_ ?_; rotate_left 2; (· ((conv => lhs; whnf); try exact rfl)); (· rfl); (· intro w' hO'; skip; go_simp; (try exact rfl)); simp only [Act.put, List.setIfInBounds_toArray, List.set_cons_zero, List.set_cons_succ]) | (refine sch_pass (o := ?_) ?_ ?_ ?_; rotate_left; (· ((conv => lhs; whnf); try exact rfl)); (· rfl); simp only [Act.put, List.setIfInBounds_toArray, List.set_cons_zero, List.set_cons_succ]) | (refine sch_look (o := ?_) (v := .agg ?_) ?_ ?_ ?_ ?_; rotate_left 2; (· ((conv => lhs; whnf); try exact rfl)); (· rfl); (· intro w' hO'; refine run_opLoadS (b := ?_) (cs := ?_) (e := ?_) (f := ?_) hO' ?_ ?_ ?_ ?_; rotate_left 4; (· exact rfl); (· exact inferInstance); (· simp; done); (· simp; done)); simp only [Act.put, List.setIfInBounds_toArray, List.set_cons_zero, List.set_cons_succ])
  first | (refine sch_look (o := ?_) (v := ?_) ?_ ?_ ?_ ?_; rotate_left 2; (· ((conv => lhs; whnf); try exact rfl)); (· rfl); (· intro w' hO'; skip; go_simp; (try exact rfl)); simp only [Act.put, List.setIfInBounds_toArray, List.set_cons_zero, List.set_cons_succ]) | (refine sch_pass (o := ?_) ?_ ?_ ?_; rotate_left; (· ((conv => lhs; whnf); try exact rfl)); (· rfl); simp only [Act.put, List.setIfInBounds_toArray, List.set_cons_zero, List.set_cons_succ]) | (refine sch_look (o := ?_) (v := .agg ?_) ?_ ?_ ?_ ?_; rotate_left 2; (· ((conv => lhs; whnf); try exact rfl)); (· rfl); (· intro w' hO'; refine run_opLoadS (b := ?_) (cs := ?_) (e := ?_) (f := ?_) hO' ?_ ?_ ?_ ?_; rotate_left 4; (· exact rfl); (· exact inferInstance); (· simp; done); (· simp; done)); simp only [Act.put, List.setIfInBounds_toArray, List.set_cons_zero, List.set_cons_succ])
  (refine sch_look (o := ?_) (v := .slice ad (q - i) (cap - (i + 1))) ?_ ?_ ?_ ?_; rotate_left; (· ((conv => lhs; whnf); try exact rfl)); (· rfl); (· intro w' hO'; go_simp; (try rw [had]); (try exact rfl)); simp only [Act.put, List.setIfInBounds_toArray, List.set_cons_zero, List.set_cons_succ])
  (refine sch_act (o := ?_) ?_ ?_; rotate_left; (· ((conv => lhs; whnf); try exact rfl)))
  go_wp2_with (first | (refine at_append ?_; refine Stop.go ?_))
  refine ⟨?_⟩
  refine own_append_room (sz := 6) (bytes := 80) (z := .agg #[.string .empty, .int .i64 0, .int .i64 0, .string .empty, .slice none 0 0, .int .i64 0]) (xv := .slice ad (q - i) (cap - (i + 1))) (m := q - i) (news := xs.drop ((i + 1) * 6)) sltH (.inl (by kernel_rfl)) hO ?_ ?_ ?_ hST ?_ ?_ HDL.out ?_ ?_ ?_
  (· rfl)
  (· rfl)
  (· rfl)
  (· intro w; rfl)
  (· intro w' hO'; exact HND.out w' _ _ (hO'.as S))
  (· intro u hu; exact HX1.out u (List.mem_of_mem_drop hu))
  (· have := HI.out; omega)
  clear hO
  intro S4 w4 hS4 hO
  rw [show i + (q - i) = q by have := HI.out; omega] at hS4 ⊢
  refine ⟨hO.as _, ?_⟩
  first | (refine sch_look (o := ?_) (v := ?_) ?_ ?_ ?_ ?_; rotate_left 2; (· ((conv => lhs; whnf); try exact rfl)); (· rfl); (· intro w' hO'; skip; go_simp; (try exact rfl)); simp only [Act.put, List.setIfInBounds_toArray, List.set_cons_zero, List.set_cons_succ]) | (refine sch_pass (o := ?_) ?_ ?_ ?_; rotate_left; (· ((conv => lhs; whnf); try exact rfl)); (· rfl); simp only [Act.put, List.setIfInBounds_toArray, List.set_cons_zero, List.set_cons_succ]) | (refine sch_look (o := ?_) (v := .agg ?_) ?_ ?_ ?_ ?_; rotate_left 2; (· ((conv => lhs; whnf); try exact rfl)); (· rfl); (· intro w' hO'; refine run_opLoadS (b := ?_) (cs := ?_) (e := ?_) (f := ?_) hO' ?_ ?_ ?_ ?_; rotate_left 4; (· exact rfl); (· exact inferInstance); (· simp; done); (· simp; done)); simp only [Act.put, List.setIfInBounds_toArray, List.set_cons_zero, List.set_cons_succ])
  refine sch_done ?_
  go_wp2_with (refine at_clear ?_; refine Stop.go ?_)
  refine ⟨?_⟩
  refine own_clear_sl (da := some ⟨sb, q * 6, none⟩) (k := 1) (kc := cap - q) sltH hO ?_ ?_ hS4 ?_ ?_ ?_ ?_ ?_
  · rfl
  · rfl
  · intro u hu; simp [Value.cells] at hu; rcases hu with rfl | rfl | rfl | rfl | rfl <;> rfl
  · decide
  · rw [Option.map_some, add_lit, Nat.zero_add]
  · have := HI.out; omega
  clear hO
  intro S5 w5 hS5 hO
  simp only [Act.put, List.setIfInBounds_toArray, List.set_cons_zero, List.set_cons_succ]
  go_wp2_with fail
  go_ret
  exact ⟨S5, rfl, hS5, hO.as _⟩
def DeleteP (E : World) (p : Nat) (hs : List Hl) (y : En) (X : Fr) (e : Ending) (w' : World) : Prop :=
  ∃ (err : Int) (hs' : List Hl) (A' : Fr), e = .returned (.int .i64 err) ∧ PlainAt E p hs' A' ∧ ((okE y = false ∧ err = 1 ∧ esOf hs' = esOf hs) ∨ (okE y = true ∧ y ∉ esOf hs ∧ err = 3 ∧ esOf hs' = esOf hs) ∨ (okE y = true ∧ y ∈ esOf hs ∧ err = 0 ∧ esOf hs' = woE (esOf hs) y)) ∧ Own E w' (A' ++ X)
set_option maxRecDepth 100000 in
set_option maxHeartbeats 16000000 in
theorem pDelete (E w : World) (X R A I : Fr) (p : Nat) (hs : List Hl) (hl : hs.length ≤ 2000000000000) (hA : PlainAt E p hs A) (y : En) (ay : Option Addr) (cy : Nat) (hw : y.d.wf) (hI : ItemsAt E I ay y.d.l) (hG : MaxL E I) (hO : Own E w X) [hp : Pick X (A ++ I) R] :
    Calls Tryd.prog 105 #[.pointer (some ⟨p, 0, none⟩), .agg #[.int .i64 y.d.k, .int .i64 y.d.n, .string y.d.s, .slice ay y.d.l.length cy, .int .i64 y.t]] w (DeleteP E p hs y (I ++ R)) := by
  replace hO : Own E w (A ++ (I ++ R)) := by have := hO.perm hp.perm; rwa [List.append_assoc] at this
  clear hp
  generalize hpost : DeleteP E p hs y (I ++ R) = POST
  have HPOST := Lib.hid hpost
  clear hpost
  obtain ⟨sa, cap, S, FC, hE, hS, hFC, rfl⟩ := hA
  have HE := Lib.hid hE
  have HFC := Lib.hid hFC
  clear hE hFC
  replace hO : Own E w (plainF p sa hs.length cap ++ (S ++ (I ++ (FC ++ R)))) := hO.as _
  go_enter Tryd.func105, Tryd.ntmps105
  go_wp2_with (first | (refine at_box ?_; go_must (refine own_box (v := ?_) hO ?_ ?_ ?_; rotate_left; (· rfl); (· ((conv => lhs; whnf); try exact rfl)); clear hO; (try clear hF); intro ob _ hO; (try simp only [Value.cells] at hO); ((try simp only [List.nil_append, List.append_nil] at hO); have hF := Own.cells hO; simp only [cellsOf_append, cellsOf_pt] at hF); simp only [Act.put, List.setIfInBounds_toArray, List.set_cons_zero, List.set_cons_succ])) | (refine at_load ?_; refine own_loadS (b := ?_) (cs := ?_) (e := ?_) (f := ?_) hO ?_ ?_ ?_ ?_ ?_ ?_; rotate_left 4; (· rfl); (· rfl); (· exact inferInstance); (· simp; done); (· simp [Value.cells]; done); simp only [Act.put, List.setIfInBounds_toArray, List.set_cons_zero, List.set_cons_succ]))
  refine (pFind0 E _ _ _ S I p sa cap hs hl HE.out.up hS y ay cy hw hI hG (hO.as ((plainF p sa hs.length cap ++ (S ++ I)) ++ (pt ob (.cells #[.int .i64 y.d.k, .int .i64 y.d.n, .string y.d.s, .slice ay y.d.l.length cy, .int .i64 y.t] 32 (0, 0)) ++ (FC ++ R))))).mono ?_
  clear hO hF
  rintro e w1 ⟨hr, hO⟩
  replace hO : Own E w1 (pt ob (.cells #[.int .i64 y.d.k, .int .i64 y.d.n, .string y.d.s, .slice ay y.d.l.length cy, .int .i64 y.t] 32 (0, 0)) ++ (plainF p sa hs.length cap ++ (S ++ (I ++ (FC ++ R))))) := hO.as _
  rcases hr with ⟨hok, k, hAt, rfl⟩ | ⟨hok, rfl⟩
  rotate_left
  · have HOK := Lib.hid hok
    clear hok
    go_wp2_with fail
    rw [← HPOST.out]
    exact ⟨1, hs, _, rfl, ⟨sa, cap, S, FC, HE.out, hS, HFC.out, rfl⟩, .inl ⟨HOK.out, rfl, rfl⟩, hO.as _⟩
  have hye : y.ok := (okB_iff hw).1 hok
  have hth := hAt.there HE.out hye
  have HOK := Lib.hid (And.intro hok hye)
  by_cases hm : y ∈ esOf hs
  rotate_left
  · rw [hth, decide_eq_false hm]
    have HM := Lib.hid hm
    clear hm hth hye hAt hok
    go_wp2_with fail
    rw [← HPOST.out]
    exact ⟨3, hs, _, rfl, ⟨sa, cap, S, FC, HE.out, hS, HFC.out, rfl⟩, .inr (.inl ⟨HOK.out.1, HM.out, rfl, rfl⟩), hO.as _⟩
  rw [hth, decide_eq_true hm]
  obtain ⟨hk, hky⟩ := hAt.get HE.out hye hm
  have hkl : k < hs.length := by rwa [esOf_len] at hk
  have hwo := woE_at HE.out k hk
  rw [hky] at hwo
  obtain ⟨q, hq⟩ : ∃ q, hs.length = q + 1 := ⟨hs.length - 1, by omega⟩
  obtain ⟨sb, rfl⟩ := sl_some9 hS (by omega)
  have hS1 : Sl 79 6 (some ⟨sb, 0, none⟩) (q + 1) cap (hs.flatMap Hl.v) S := by rw [← hq]; exact hS
  have hkq : k ≤ q := by omega
  have hqb : q ≤ 2000000000000 := by omega
  have HM := Lib.hid hm
  have HWO := Lib.hid hwo
  have HQ := Lib.hid hq
  have hw0 : IntKind.i64.wrap ((k : Int) + 1) = (k : Int) + 1 := wi_1 k (by omega)
  have hw1 : wrap64 ((k : Int) + 1) = (k : Int) + 1 := w64_1 k (by omega)
  rw [hq] at hO
  clear hm hth hye hAt hok hk hky hkl hwo hq hl hS
  have cp : w1.cell? ⟨p, 1, none⟩ = some (.slice (some ⟨sb, 0, none⟩) (q + 1) cap) := by
    have h9 : Own E w1 (pt p (.cells #[.bool true, .slice (some ⟨sb, 0, none⟩) (q + 1) cap] 66 (0, 0)) ++ (S ++ (I ++ (FC ++ R)))) := hO.as (plainF p (some ⟨sb, 0, none⟩) (q + 1) cap ++ (S ++ (I ++ (FC ++ R))))
    rw [h9.cell (b := p)]; rfl
  go_wp2_with fail
  refine (delH E _ _ (plainF p (some ⟨sb, 0, none⟩) (q + 1) cap ++ (I ++ (FC ++ R))) S sb q cap k (hs.flatMap Hl.v) hkq hqb hS1 (helds_one hs) (hO.as (S ++ (plainF p (some ⟨sb, 0, none⟩) (q + 1) cap ++ (I ++ (FC ++ R)))))).mono ?_
  clear hO cp
  rintro e w2 ⟨S', rfl, hS2, hO⟩
  replace hO : Own E w2 (pt p (.cells #[.bool true, .slice (some ⟨sb, 0, none⟩) (q + 1) cap] 66 (0, 0)) ++ (S' ++ (I ++ (FC ++ R)))) := by
    have := hO.as (plainF p (some ⟨sb, 0, none⟩) (q + 1) cap ++ (S' ++ (I ++ (FC ++ R))))
    exact this
  go_wp2_with (first | (refine own_store (v := ?_) (off := 1) (b := p) hO ?_ ?_ ?_ ?_ ?_ ?_ ?_; rotate_left; (· rfl); (· ((conv => lhs; whnf); try exact rfl)); (· ((conv => lhs; whnf); try exact rfl)); (· simp [Value.cells]); (· simp [Value.cells, Value.oneCell']); (· simp [Value.cells]); clear hO; (try clear hF); intro _ hO; (try simp only [splice, Value.cells] at hO); ((try simp only [List.nil_append, List.append_nil] at hO); have hF := Own.cells hO; simp only [cellsOf_append, cellsOf_pt] at hF); simp only [Act.put, List.setIfInBounds_toArray, List.set_cons_zero, List.set_cons_succ]))
  simp only [List.setIfInBounds_toArray, List.set_cons_zero, List.set_cons_succ] at hO
  rw [← HPOST.out]
  have hes : esOf (hs.take k ++ hs.drop (k + 1)) = woE (esOf hs) y := by
    rw [HWO.out]
    unfold esOf
    rw [List.map_append, List.map_take, List.map_drop]
  have hlen : (hs.take k ++ hs.drop (k + 1)).length = q := by
    rw [List.length_append, List.length_take, List.length_drop, HQ.out]
    omega
  rw [rows_take Hl.v 6 Hl.len, rows_drop Hl.v 6 Hl.len, ← List.flatMap_append, ← hlen] at hS2
  obtain ⟨hok, hye⟩ := HOK.out
  refine ⟨0, hs.take k ++ hs.drop (k + 1), _, rfl, ⟨some ⟨sb, 0, none⟩, cap, S', FC, ?_, hS2, ?_, rfl⟩, .inr (.inr ⟨hok, HM.out, rfl, hes⟩), ?_⟩
  · have := HE.out.cut k
    unfold esOf at this ⊢
    rw [List.map_append, List.map_take, List.map_drop]
    exact this
  · intro h hh
    rcases List.mem_append.1 hh with hh | hh
    · exact HFC.out h (List.mem_of_mem_take hh)
    · exact HFC.out h (List.mem_of_mem_drop hh)
  · unfold plainF
    rw [hlen]
    exact hO.as _
set_option maxRecDepth 100000 in
set_option maxHeartbeats 16000000 in
theorem pDrop (E w : World) (X R A : Fr) (p : Nat) (hs : List Hl) (hA : PlainAt E p hs A) (hO : Own E w X) [hp : Pick X A R] :
    Calls Tryd.prog 106 #[.pointer (some ⟨p, 0, none⟩)] w fun e w' => ∃ A', e = .returned (.int .i64 0) ∧ PlainAt E p [] A' ∧ Own E w' (A' ++ R) := by
  replace hO := hO.perm hp.perm
  clear hp
  obtain ⟨sa, cap, S, FC, hE, hS, hFC, rfl⟩ := hA
  replace hO : Own E w (plainF p sa hs.length cap ++ (S ++ (FC ++ R))) := hO.as _
  go_enter Tryd.func106, Tryd.ntmps106
  go_wp2_with fail
  refine (pGiven E _ _ _ p hs.length cap sa hO).mono ?_
  rintro e w1 ⟨rfl, rfl⟩
  unfold plainF at hO
  go_wp2_with (first | (refine own_store (v := ?_) (off := 1) (b := p) hO ?_ ?_ ?_ ?_ ?_ ?_ ?_; rotate_left; (· rfl); (· ((conv => lhs; whnf); try exact rfl)); (· ((conv => lhs; whnf); try exact rfl)); (· simp [Value.cells]); (· simp [Value.cells, Value.oneCell']); (· simp [Value.cells]); clear hO; (try clear hF); intro _ hO; (try simp only [splice, Value.cells] at hO); ((try simp only [List.nil_append, List.append_nil] at hO); have hF := Own.cells hO; simp only [cellsOf_append, cellsOf_pt] at hF); simp only [Act.put, List.setIfInBounds_toArray, List.set_cons_zero, List.set_cons_succ]))
  simp only [List.setIfInBounds_toArray, List.set_cons_zero, List.set_cons_succ] at hO
  go_ret
  exact ⟨_, rfl, PlainAt.new E p, hO.as (pt p (.cells #[.bool true, .slice none 0 0] 66 (0, 0)) ++ R)⟩
theorem pCheck (E w : World) (X R A : Fr) (p : Nat) (hs : List Hl) (hA : PlainAt E p hs A) (hO : Own E w X) [hp : Pick X A R] :
    Calls Tryd.prog 104 #[.pointer (some ⟨p, 0, none⟩)] w fun e w' => e = .returned (.bool true) ∧ w = w' := by
  obtain ⟨sa, cap, S, FC, hE, hS, hFC, rfl⟩ := hA
  replace hO := hO.perm hp.perm
  replace hO : Own E w (plainF p sa hs.length cap ++ (S ++ (FC ++ R))) := hO.as _
  clear hp
  go_enter Tryd.func104, Tryd.ntmps104
  go_wp2_with fail
  refine (pGiven E _ _ _ p hs.length cap sa hO).mono ?_
  rintro e w1 ⟨rfl, rfl⟩
  go_wp2_with fail
  go_ret
  exact ⟨rfl, rfl⟩
end Go.Proofs.YticclennllklpaaDoor

/- Layer 9: the reference's Range, whole; the method's bounds. -/
namespace Go.Proofs.YticclennllklpaaDoor
open Go Go.RowKit Go.Own Go.Dt

theorem bdR_val (o : Option Dt) : bdR o = 0 ∨ bdR o = 1 ∨ bdR o = 10 := by
  cases o with
  | none => exact .inl rfl
  | some d =>
    unfold bdR
    simp only
    split
    · split
      · exact .inr (.inr rfl)
      · exact .inl rfl
    · exact .inr (.inl rfl)
set_option maxRecDepth 100000 in
set_option maxHeartbeats 16000000 in
theorem refRangeErr (E w : World) (X R F : Fr) (so : Option Addr) (n co : Nat) (f t : Value) (of ot : Option Dt) (b : Bool) (hF1 : BdAt E F f of) (hF2 : BdAt E F t ot) (hz : rgE of ot ≠ 0) (hO : Own E w X) [hp : Pick X F R] :
    Calls Tryd.prog 20 #[.slice so n co, f, t, .bool b] w fun e w' => e = .returned (.tuple #[.slice none 0 0, .int .i64 (rgE of ot)]) ∧ Own E w' (F ++ R) := by
  replace hO := hO.perm hp.perm
  clear hp
  have v1 := bdR_val of
  have v2 := bdR_val ot
  obtain ⟨z, hzz⟩ : ∃ z, rgE of ot = z := ⟨_, rfl⟩
  rw [hzz] at hz ⊢
  unfold rgE at hzz
  obtain ⟨p, hp⟩ : ∃ p, bdR of = p := ⟨_, rfl⟩
  obtain ⟨q, hq⟩ : ∃ q, bdR ot = q := ⟨_, rfl⟩
  rw [hp] at v1 hzz
  rw [hq] at v2 hzz
  have HP := Lib.hid hp
  have HQ := Lib.hid hq
  clear hp hq
  go_enter Tryd.func20, Tryd.ntmps20
  go_wp2_with fail
  refine (refBound E _ _ R F f of hF1 hO).mono ?_
  rw [HP.out]
  clear hO
  rintro e w1 ⟨rfl, hO⟩
  go_wp2_with fail
  refine (refBound E _ _ R F t ot hF2 hO).mono ?_
  rw [HQ.out]
  clear hO
  rintro e w2 ⟨rfl, hO⟩
  rcases v1 with rfl | rfl | rfl <;> rcases v2 with rfl | rfl | rfl
  · exact absurd hzz.symm hz
  all_goals (
    obtain rfl : z = _ := hzz.symm
    clear hz hzz
    go_wp2_with fail
    go_ret2
    exact ⟨rfl, hO⟩)
def rgR (f t : Option Dt) (b : Bool) (es : List En) : List En := if rgE f t = 0 then rgL f t b es else []
theorem refRange (E w : World) (X R S F : Fr) (so : Option Addr) (co : Nat) (os : List Oe) (hl : os.length ≤ 2000000000000) (hok : ∀ o ∈ os, o.e.d.ok = true) (hwf : ∀ o ∈ os, o.e.d.wf) (hL : LAt E F so co os S) (f t : Value) (of ot : Option Dt) (b : Bool) (hF1 : BdAt E F f of) (hF2 : BdAt E F t ot) (hO : Own E w X) [hp : Pick X (S ++ F) R] :
    Calls Tryd.prog 20 #[.slice so os.length co, f, t, .bool b] w fun e w' => ∃ (so2 : Option Addr) (co2 : Nat) (os2 : List Oe) (S2 : Fr), e = .returned (.tuple #[.slice so2 os2.length co2, .int .i64 (rgE of ot)]) ∧ esO os2 = rgR of ot b (esO os) ∧ LAt E F so2 co2 os2 S2 ∧ Own E w' (S2 ++ (S ++ (F ++ R))) := by
  have hO1 : Own E w (S ++ (F ++ R)) := by have := hO.perm hp.perm; rwa [List.append_assoc] at this
  by_cases hz : rgE of ot = 0
  · obtain ⟨h1, h2⟩ := rgE_ok hz
    have fin : ∀ (e : Ending) (w' : World), (∃ (so2 : Option Addr) (co2 : Nat) (S2 : Fr), e = .returned (.tuple #[.slice so2 (rgO of ot b os).length co2, .int .i64 0]) ∧ LAt E F so2 co2 (rgO of ot b os) S2 ∧ Own E w' (S2 ++ (S ++ (F ++ R)))) → ∃ (so2 : Option Addr) (co2 : Nat) (os2 : List Oe) (S2 : Fr), e = .returned (.tuple #[.slice so2 os2.length co2, .int .i64 (rgE of ot)]) ∧ esO os2 = rgR of ot b (esO os) ∧ LAt E F so2 co2 os2 S2 ∧ Own E w' (S2 ++ (S ++ (F ++ R))) := by
      rintro e w' ⟨so2, co2, S2, h3, h4, h5⟩
      exact ⟨so2, co2, _, S2, by rw [hz]; exact h3, by unfold rgR; rw [if_pos hz, rgO_es], h4, h5⟩
    rcases hF1 with ⟨rfl, rfl⟩ | ⟨adf, df, af, cf, rfl, rfl, wf, fI, fc⟩ <;> rcases hF2 with ⟨rfl, rfl⟩ | ⟨adt, dt, at_, ct, rfl, rfl, wt, tI, tc⟩ <;> cases b
    · exact (rng000 E w _ R S F so co os hl hok hwf hL hz h1 h2 (.inl ⟨rfl, rfl⟩) (.inl ⟨rfl, rfl⟩) hO1).mono fin
    · exact (rng001 E w _ R S F so co os hl hok hwf hL hz h1 h2 (.inl ⟨rfl, rfl⟩) (.inl ⟨rfl, rfl⟩) hO1).mono fin
    · exact (rng010 E w _ R S F so co os hl hok hwf hL adt dt at_ ct (bd_ok h2).1 wt tI tc hz h1 h2 (.inl ⟨rfl, rfl⟩) (.inr ⟨adt, dt, at_, ct, rfl, rfl, wt, tI, tc⟩) hO1).mono fin
    · exact (rng011 E w _ R S F so co os hl hok hwf hL adt dt at_ ct (bd_ok h2).1 wt tI tc hz h1 h2 (.inl ⟨rfl, rfl⟩) (.inr ⟨adt, dt, at_, ct, rfl, rfl, wt, tI, tc⟩) hO1).mono fin
    · exact (rng100 E w _ R S F so co os hl hok hwf hL adf df af cf (bd_ok h1).1 wf fI fc hz h1 h2 (.inr ⟨adf, df, af, cf, rfl, rfl, wf, fI, fc⟩) (.inl ⟨rfl, rfl⟩) hO1).mono fin
    · exact (rng101 E w _ R S F so co os hl hok hwf hL adf df af cf (bd_ok h1).1 wf fI fc hz h1 h2 (.inr ⟨adf, df, af, cf, rfl, rfl, wf, fI, fc⟩) (.inl ⟨rfl, rfl⟩) hO1).mono fin
    · exact (rng110 E w _ R S F so co os hl hok hwf hL adf df af cf (bd_ok h1).1 wf fI fc adt dt at_ ct (bd_ok h2).1 wt tI tc hz h1 h2 (.inr ⟨adf, df, af, cf, rfl, rfl, wf, fI, fc⟩) (.inr ⟨adt, dt, at_, ct, rfl, rfl, wt, tI, tc⟩) hO1).mono fin
    · exact (rng111 E w _ R S F so co os hl hok hwf hL adf df af cf (bd_ok h1).1 wf fI fc adt dt at_ ct (bd_ok h2).1 wt tI tc hz h1 h2 (.inr ⟨adf, df, af, cf, rfl, rfl, wf, fI, fc⟩) (.inr ⟨adt, dt, at_, ct, rfl, rfl, wt, tI, tc⟩) hO1).mono fin
  · refine (refRangeErr E w _ (S ++ R) F so os.length co f t of ot b hF1 hF2 hz (hO1.as (F ++ (S ++ R)))).mono ?_
    rintro e w' ⟨rfl, h⟩
    exact ⟨none, 0, [], [], rfl, by unfold rgR; rw [if_neg hz]; rfl, LAt.nil E F, h.as _⟩
end Go.Proofs.YticclennllklpaaDoor

/- The method: the bounds of a range. (printed by wip/gen/genRO.py) -/
namespace Go.Proofs.YticclennllklpaaDoor
open Go Go.RowKit Go.Own Go.Dt

def loS : Option Dt → ByteArray
  | none => ByteArray.empty
  | some d => encB d
theorem sltB2 : SlT Tryd.prog 122 121 2 16 (.agg #[.pointer none, .pointer none]) := ⟨by kernel_rfl, by kernel_rfl, rfl⟩
theorem row4z : (Array.map (fun x => (Value.agg #[.pointer none, .pointer none]).cells[x % (Value.agg #[.pointer none, .pointer none]).cells.size]!) (Array.range (2 * 2))) = #[.pointer none, .pointer none, .pointer none, .pointer none] := by kernel_rfl
theorem bdR_none : bdR none = 0 := rfl
theorem bd_no {d : Dt} (h : bdR (some d) ≠ 1) : d.ok = true := by
  have h : (if d.ok = true then (if d.k = 3 then (10 : Int) else 0) else 1) ≠ 1 := h
  split at h
  · rename_i h1; exact h1
  · exact absurd rfl h
theorem bd_ne {d : Dt} (h : d.ok = true) : bdR (some d) ≠ 1 := by
  show (if d.ok = true then (if d.k = 3 then (10 : Int) else 0) else 1) ≠ 1
  rw [if_pos h]
  split <;> decide
theorem bd_one {d : Dt} (h : d.ok = false) : bdR (some d) = 1 := by
  show (if d.ok = true then (if d.k = 3 then (10 : Int) else 0) else 1) = 1
  rw [if_neg (by rw [h]; decide)]
theorem bd_3 {d : Dt} (h : d.ok = true) (k : d.k = 3) : bdR (some d) = 10 := by
  show (if d.ok = true then (if d.k = 3 then (10 : Int) else 0) else 1) = 10
  rw [if_pos h, if_pos k]
theorem bd_0 {d : Dt} (h : d.ok = true) (k : d.k ≠ 3) : bdR (some d) = 0 := by
  show (if d.ok = true then (if d.k = 3 then (10 : Int) else 0) else 1) = 0
  rw [if_pos h, if_neg k]
theorem rg_one {f t : Option Dt} (h : bdR f = 1 ∨ bdR t = 1) : rgE f t = 1 := by unfold rgE; rw [if_pos h]
theorem rg_ten {f t : Option Dt} (h1 : bdR f ≠ 1) (h2 : bdR t ≠ 1) (h : bdR f = 10 ∨ bdR t = 10) : rgE f t = 10 := by
  unfold rgE
  rw [if_neg (fun h => h.elim h1 h2), if_pos]
  rcases h with h | h
  · exact .inl (by rw [h]; decide)
  · exact .inr (by rw [h]; decide)
theorem rg_zero {f t : Option Dt} (h1 : bdR f = 0) (h2 : bdR t = 0) : rgE f t = 0 := by
  unfold rgE
  rw [if_neg (by rw [h1, h2]; decide), if_neg (by rw [h1, h2]; decide)]
theorem results_cct {P : Program} {E w : World} {X : Fr} {fn : Func} {p q u : Tmp} {t : TypeId} {b1 b2 : Nat} {v1 v2 : Value} {e1 e2 : TypeId} {tmps : Array Value} {vu : Value} (h : fn.results = #[.cell p t, .cell q t, .tmp u]) (hO : Own E w X)
    (hp : tmps.getD p undef = .pointer (some ⟨b1, 0, none⟩)) (hq : tmps.getD q undef = .pointer (some ⟨b2, 0, none⟩)) (hu : tmps.getD u undef = vu) (hh1 : Has X b1 (.cells #[v1] e1 (0, 0))) (hh2 : Has X b2 (.cells #[v2] e2 (0, 0))) (ht : ∀ w, (isAgg t).run P w = .ok false w) :
    (results fn tmps).run P w = .ok (.tuple #[v1, v2, vu]) w := by
  have c1 : w.cell? ⟨b1, 0, none⟩ = some v1 := by rw [hO.cell (b := b1)]; rfl
  have c2 : w.cell? ⟨b2, 0, none⟩ = some v2 := by rw [hO.cell (b := b2)]; rfl
  have h1 : (results fn tmps).run P w = ((asAddr (tmps.getD p undef)).run P w).andThen fun a w₁ => ((loadVar t a).run P w₁).andThen fun v w₂ => ((asAddr (tmps.getD q undef)).run P w₂).andThen fun a' w₃ => ((loadVar t a').run P w₃).andThen fun v' w₄ => .ok (.tuple #[v, v', tmps.getD u undef]) w₄ := by
    simp only [results, h]
    simp [Sem.run_bind, Result.andThen]
  rw [h1, hp, hq, hu]
  simp [asAddr, loadVar, ht, run_load, c1, c2]
theorem row_at0 {E w : World} {X : Fr} {b : Nat} {e : TypeId} {f : Nat × Nat} {c0 c1 c2 c3 : Value} (hO : Own E w X) [hh : Has X b (.cells #[c0, c1, c2, c3] e f)] : ∀ j v, [c0, c1][j]? = some v → w.cell? ((⟨b, 0, none⟩ : Addr).add j) = some v := by
  intro j v hj
  rw [add_lit, hO.cell (b := b)]
  match j, hj with
  | 0, hj => exact hj
  | 1, hj => exact hj
theorem row_at1 {E w : World} {X : Fr} {b : Nat} {e : TypeId} {f : Nat × Nat} {c0 c1 c2 c3 : Value} (hO : Own E w X) [hh : Has X b (.cells #[c0, c1, c2, c3] e f)] : ∀ j v, [c2, c3][j]? = some v → w.cell? ((⟨b, 2, none⟩ : Addr).add j) = some v := by
  intro j v hj
  rw [add_lit, hO.cell (b := b)]
  match j, hj with
  | 0, hj => exact hj
  | 1, hj => exact hj
set_option maxRecDepth 100000 in
set_option maxHeartbeats 16000000 in
theorem bounds9 (E w : World) (X R I : Fr) (f t : Value) (of ot : Option Dt) (hF1 : BdAt E I f of) (hF2 : BdAt E I t ot) (hG : MaxL E I) (hO : Own E w X) [hp : Pick X I R] :
    Calls Tryd.prog 35 #[f, t] w fun e w' => ∃ lo hi : ByteArray, e = .returned (.tuple #[.string lo, .string hi, .int .i64 (rgE of ot)]) ∧ ((rgE of ot = 0 ∧ lo = loS of ∧ hi = loS ot) ∨ rgE of ot ≠ 0) ∧ Own E w' (I ++ R) := by
  replace hO := hO.perm hp.perm
  clear hp
  generalize hpost : (fun (e : Ending) (w' : World) => ∃ lo hi : ByteArray, e = .returned (.tuple #[.string lo, .string hi, .int .i64 (rgE of ot)]) ∧ ((rgE of ot = 0 ∧ lo = loS of ∧ hi = loS ot) ∨ rgE of ot ≠ 0) ∧ Own E w' (I ++ R)) = POST
  have HPOST := Lib.hid hpost
  clear hpost
  obtain ⟨pf, rfl⟩ : ∃ o : Option Addr, f = .pointer o := by rcases hF1 with ⟨h, _⟩ | ⟨ad, _, _, _, h, _⟩; exact ⟨_, h⟩; exact ⟨_, h⟩
  obtain ⟨pt_, rfl⟩ : ∃ o : Option Addr, t = .pointer o := by rcases hF2 with ⟨h, _⟩ | ⟨ad, _, _, _, h, _⟩; exact ⟨_, h⟩; exact ⟨_, h⟩
  go_enter Tryd.func35, Tryd.ntmps35
  go_wp2_with (first | ((have hzz : lb = lb := rfl); clear hzz; refine at_alloc (t := 9) ?_; go_must (refine own_alloc (z := .string ByteArray.empty) hO ?_ ?_ ?_; (· rfl); (· kernel_rfl); clear hO; (try clear hF); intro hb _ hO; (try simp only [Value.cells] at hO); ((try simp only [List.nil_append, List.append_nil] at hO); have hF := Own.cells hO; simp only [cellsOf_append, cellsOf_pt] at hF); simp only [Act.put, List.setIfInBounds_toArray, List.set_cons_zero, List.set_cons_succ])) | (refine at_alloc (t := 9) ?_; go_must (refine own_alloc (z := .string ByteArray.empty) hO ?_ ?_ ?_; (· rfl); (· kernel_rfl); clear hO; (try clear hF); intro lb _ hO; (try simp only [Value.cells] at hO); ((try simp only [List.nil_append, List.append_nil] at hO); have hF := Own.cells hO; simp only [cellsOf_append, cellsOf_pt] at hF); simp only [Act.put, List.setIfInBounds_toArray, List.set_cons_zero, List.set_cons_succ])) | (refine at_bs ?_; go_must (refine own_buildM (sz := 2) (cells := #[.pointer pf, .pointer (some ⟨lb, 0, none⟩), .pointer pt_, .pointer (some ⟨hb, 0, none⟩)]) sltB2 hO ?_ ?_ ?_ ?_ ?_ ?_; (· rfl); (· decide); (· decide); (· decide); (· rw [row4z]; rfl); clear hO; (try clear hF); intro rb _ hO; ((try simp only [List.nil_append, List.append_nil] at hO); have hF := Own.cells hO; simp only [cellsOf_append, cellsOf_pt] at hF); simp only [Act.put, List.setIfInBounds_toArray, List.set_cons_zero, List.set_cons_succ])))
  replace hO : Own E _ (pt rb (.cells #[.pointer pf, .pointer (some ⟨lb, 0, none⟩), .pointer pt_, .pointer (some ⟨hb, 0, none⟩)] 121 (0, 0)) ++ (pt lb (.cells #[.string ByteArray.empty] 9 (0, 0)) ++ (pt hb (.cells #[.string ByteArray.empty] 9 (0, 0)) ++ (I ++ R)))) := hO.as _
  have hO1 := hO
  clear hO hF
  go_loopw [17] (fun i wr => ∃ (j : Nat) (lo hi : ByteArray), i = .int .i64 (j : Int) ∧ ((j = 0 ∧ lo = ByteArray.empty ∧ hi = ByteArray.empty) ∨ (j = 1 ∧ lo = loS of ∧ hi = ByteArray.empty ∧ bdR of ≠ 1) ∨ (j = 2 ∧ lo = loS of ∧ hi = loS ot ∧ bdR of ≠ 1 ∧ bdR ot ≠ 1)) ∧ Own E wr (pt rb (.cells #[.pointer pf, .pointer (some ⟨lb, 0, none⟩), .pointer pt_, .pointer (some ⟨hb, 0, none⟩)] 121 (0, 0)) ++ (pt lb (.cells #[.string lo] 9 (0, 0)) ++ (pt hb (.cells #[.string hi] 9 (0, 0)) ++ (I ++ R))))) (fun i _ => 2 - (intOf i).toNat)
  case atStart => exact ⟨0, ByteArray.empty, ByteArray.empty, rfl, .inl ⟨rfl, rfl, rfl⟩, hO1⟩
  case round =>
    clear hO1
    obtain ⟨j, lo, hi, rfl, hst, hO⟩ := hrel
    have hF := Own.cells hO; simp only [cellsOf_append, cellsOf_pt] at hF
    rcases hst with ⟨rfl, rfl, rfl⟩ | ⟨rfl, hlo, rfl, hbf⟩ | ⟨rfl, hlo, hhi, hbf, hbt⟩
    · skip
      rcases hF1 with ⟨hv, ho⟩ | ⟨ad, d, a, c, hv, ho, hwd, hId, hcd⟩
      · cases hv
        subst ho
        go_wp2_with (first | (refine at_load (t := 121) ?_; go_must (refine own_loadC (ad := ⟨rb, 0, none⟩) (cs := [.pointer none, .pointer (some ⟨lb, 0, none⟩)]) ?_ (row_at0 hO (hh := inferInstance)) ?_ ?_ ?_ ?_; (· rfl); (· ((conv => lhs; whnf); try exact rfl)); (· simp; done); (· simp; done); simp only [Act.put, List.setIfInBounds_toArray, List.set_cons_zero, List.set_cons_succ])) | (refine at_alloc (t := 121) ?_; go_must (refine own_alloc (z := .agg #[.pointer none, .pointer none]) hO ?_ ?_ ?_; (· rfl); (· kernel_rfl); clear hO; (try clear hF); intro xb _ hO; (try simp only [Value.cells] at hO); ((try simp only [List.nil_append, List.append_nil] at hO); have hF := Own.cells hO; simp only [cellsOf_append, cellsOf_pt] at hF); simp only [Act.put, List.setIfInBounds_toArray, List.set_cons_zero, List.set_cons_succ])) | (refine own_store (v := ?_) (off := 0) (b := xb) hO ?_ ?_ ?_ ?_ ?_ ?_ ?_; rotate_left; (· rfl); (· ((conv => lhs; whnf); try exact rfl)); (· ((conv => lhs; whnf); try exact rfl)); (· simp [Value.cells]); (· simp [Value.cells, Value.oneCell']); (· simp [Value.cells]); clear hO; (try clear hF); intro _ hO; (try simp only [splice, Value.cells] at hO); ((try simp only [List.nil_append, List.append_nil] at hO); have hF := Own.cells hO; simp only [cellsOf_append, cellsOf_pt] at hF); simp only [Act.put, List.setIfInBounds_toArray, List.set_cons_zero, List.set_cons_succ]))
        simp only [List.setIfInBounds_toArray, List.set_cons_zero, List.set_cons_succ, Nat.zero_add, Nat.reduceAdd] at hO
        go_roundw
        case rel => exact ⟨1, ByteArray.empty, ByteArray.empty, rfl, .inr (.inl ⟨rfl, rfl, rfl, by decide⟩), hO.as _⟩
        case measure => simp [intOf]
      · cases hv
        subst ho
        have HC := Lib.hid (show ∀ (Y : Fr) (w : World), Own E w (I ++ Y) → ∀ j u, ([.int .i64 d.k, .int .i64 d.n, .string d.s, .slice a d.l.length c] : List Value)[j]? = some u → w.cell? (ad.add j) = some u from hcd)
        clear hcd
        go_wp2_with (first | (refine at_load (t := 121) ?_; go_must (refine own_loadC (ad := ⟨rb, 0, none⟩) (cs := [.pointer (some ad), .pointer (some ⟨lb, 0, none⟩)]) ?_ (row_at0 hO (hh := inferInstance)) ?_ ?_ ?_ ?_; (· rfl); (· ((conv => lhs; whnf); try exact rfl)); (· simp; done); (· simp; done); simp only [Act.put, List.setIfInBounds_toArray, List.set_cons_zero, List.set_cons_succ])) | (refine at_alloc (t := 121) ?_; go_must (refine own_alloc (z := .agg #[.pointer none, .pointer none]) hO ?_ ?_ ?_; (· rfl); (· kernel_rfl); clear hO; (try clear hF); intro xb _ hO; (try simp only [Value.cells] at hO); ((try simp only [List.nil_append, List.append_nil] at hO); have hF := Own.cells hO; simp only [cellsOf_append, cellsOf_pt] at hF); simp only [Act.put, List.setIfInBounds_toArray, List.set_cons_zero, List.set_cons_succ])) | (refine own_store (v := ?_) (off := 0) (b := xb) hO ?_ ?_ ?_ ?_ ?_ ?_ ?_; rotate_left; (· rfl); (· ((conv => lhs; whnf); try exact rfl)); (· ((conv => lhs; whnf); try exact rfl)); (· simp [Value.cells]); (· simp [Value.cells, Value.oneCell']); (· simp [Value.cells]); clear hO; (try clear hF); intro _ hO; (try simp only [splice, Value.cells] at hO); ((try simp only [List.nil_append, List.append_nil] at hO); have hF := Own.cells hO; simp only [cellsOf_append, cellsOf_pt] at hF); simp only [Act.put, List.setIfInBounds_toArray, List.set_cons_zero, List.set_cons_succ]) | (refine at_load (t := 30) ?_; go_must (refine own_loadC (ad := ad) (cs := [.int .i64 d.k, .int .i64 d.n, .string d.s, .slice a d.l.length c]) ?_ (HC.out _ _ (hO.as (I ++ R))) ?_ ?_ ?_ ?_; (· rfl); (· ((conv => lhs; whnf); try exact rfl)); (· simp; done); (· simp; done); simp only [Act.put, List.setIfInBounds_toArray, List.set_cons_zero, List.set_cons_succ])))
        simp only [List.setIfInBounds_toArray, List.set_cons_zero, List.set_cons_succ, Nat.zero_add, Nat.reduceAdd] at hO
        refine (datBytes E _ _ (pt xb (.cells #[.pointer (some ad), .pointer (some ⟨lb, 0, none⟩)] 121 (0, 0)) ++ (pt rb (.cells #[.pointer (some ad), .pointer (some ⟨lb, 0, none⟩), .pointer pt_, .pointer (some ⟨hb, 0, none⟩)] 121 (0, 0)) ++ (pt lb (.cells #[.string ByteArray.empty] 9 (0, 0)) ++ (pt hb (.cells #[.string ByteArray.empty] 9 (0, 0)) ++ R)))) I d a c hwd hId hG (hO.as (I ++ (pt xb (.cells #[.pointer (some ad), .pointer (some ⟨lb, 0, none⟩)] 121 (0, 0)) ++ (pt rb (.cells #[.pointer (some ad), .pointer (some ⟨lb, 0, none⟩), .pointer pt_, .pointer (some ⟨hb, 0, none⟩)] 121 (0, 0)) ++ (pt lb (.cells #[.string ByteArray.empty] 9 (0, 0)) ++ (pt hb (.cells #[.string ByteArray.empty] 9 (0, 0)) ++ R))))))).mono ?_
        clear hO hF
        rintro e w4 ⟨rfl, hO⟩
        replace hO : Own E w4 (pt xb (.cells #[.pointer (some ad), .pointer (some ⟨lb, 0, none⟩)] 121 (0, 0)) ++ (pt rb (.cells #[.pointer (some ad), .pointer (some ⟨lb, 0, none⟩), .pointer pt_, .pointer (some ⟨hb, 0, none⟩)] 121 (0, 0)) ++ (pt lb (.cells #[.string ByteArray.empty] 9 (0, 0)) ++ (pt hb (.cells #[.string ByteArray.empty] 9 (0, 0)) ++ (I ++ R))))) := hO.as _
        have hF := Own.cells hO; simp only [cellsOf_append, cellsOf_pt] at hF
        cases hok : d.ok
        · rw [if_neg (by decide)]
          have HOK := Lib.hid hok
          clear hok
          go_wp2_with (first | ((have hzz : hO1x = hO1x := rfl); clear hzz; (refine own_store (v := ?_) (off := 0) (b := hb) hO ?_ ?_ ?_ ?_ ?_ ?_ ?_; rotate_left; (· rfl); (· ((conv => lhs; whnf); try exact rfl)); (· ((conv => lhs; whnf); try exact rfl)); (· simp [Value.cells]); (· simp [Value.cells, Value.oneCell']); (· simp [Value.cells]); clear hO; (try clear hF); intro _ hO; (try simp only [splice, Value.cells] at hO); ((try simp only [List.nil_append, List.append_nil] at hO); have hF := Own.cells hO; simp only [cellsOf_append, cellsOf_pt] at hF); simp only [Act.put, List.setIfInBounds_toArray, List.set_cons_zero, List.set_cons_succ])) | (have hO1x : Nat := 0; (refine own_store (v := ?_) (off := 0) (b := lb) hO ?_ ?_ ?_ ?_ ?_ ?_ ?_; rotate_left; (· rfl); (· ((conv => lhs; whnf); try exact rfl)); (· ((conv => lhs; whnf); try exact rfl)); (· simp [Value.cells]); (· simp [Value.cells, Value.oneCell']); (· simp [Value.cells]); clear hO; (try clear hF); intro _ hO; (try simp only [splice, Value.cells] at hO); ((try simp only [List.nil_append, List.append_nil] at hO); have hF := Own.cells hO; simp only [cellsOf_append, cellsOf_pt] at hF); simp only [Act.put, List.setIfInBounds_toArray, List.set_cons_zero, List.set_cons_succ])))
          simp only [List.setIfInBounds_toArray, List.set_cons_zero, List.set_cons_succ, Nat.zero_add, Nat.reduceAdd] at hO
          refine bodyPost_ret (results_cct (P := Tryd.prog) (b1 := lb) (b2 := hb) rfl hO (by exact rfl) (by exact rfl) (by exact rfl) inferInstance inferInstance (fun w => by simp)) rfl ?_
          rw [← HPOST.out]
          have hz : rgE (some d) ot = 1 := rg_one (.inl (bd_one HOK.out))
          exact ⟨_, _, by rw [hz]; rfl, .inr (by rw [hz]; decide), hO.as _⟩
        · rw [if_pos rfl]
          have HOK := Lib.hid hok
          clear hok
          go_wp2_with (first | (refine own_store (v := ?_) (off := 0) (b := lb) hO ?_ ?_ ?_ ?_ ?_ ?_ ?_; rotate_left; (· rfl); (· ((conv => lhs; whnf); try exact rfl)); (· ((conv => lhs; whnf); try exact rfl)); (· simp [Value.cells]); (· simp [Value.cells, Value.oneCell']); (· simp [Value.cells]); clear hO; (try clear hF); intro _ hO; (try simp only [splice, Value.cells] at hO); ((try simp only [List.nil_append, List.append_nil] at hO); have hF := Own.cells hO; simp only [cellsOf_append, cellsOf_pt] at hF); simp only [Act.put, List.setIfInBounds_toArray, List.set_cons_zero, List.set_cons_succ]))
          simp only [List.setIfInBounds_toArray, List.set_cons_zero, List.set_cons_succ, Nat.zero_add, Nat.reduceAdd] at hO
          go_roundw
          case rel => exact ⟨1, encB d, ByteArray.empty, rfl, .inr (.inl ⟨rfl, rfl, rfl, bd_ne HOK.out⟩), hO.as _⟩
          case measure => simp [intOf]
    · have HLO := Lib.hid (And.intro hlo hbf)
      clear hlo hbf
      rcases hF2 with ⟨hv, ho⟩ | ⟨ad, d, a, c, hv, ho, hwd, hId, hcd⟩
      · cases hv
        subst ho
        go_wp2_with (first | (refine at_load (t := 121) ?_; go_must (refine own_loadC (ad := ⟨rb, 2, none⟩) (cs := [.pointer none, .pointer (some ⟨hb, 0, none⟩)]) ?_ (row_at1 hO (hh := inferInstance)) ?_ ?_ ?_ ?_; (· rfl); (· ((conv => lhs; whnf); try exact rfl)); (· simp; done); (· simp; done); simp only [Act.put, List.setIfInBounds_toArray, List.set_cons_zero, List.set_cons_succ])) | (refine at_alloc (t := 121) ?_; go_must (refine own_alloc (z := .agg #[.pointer none, .pointer none]) hO ?_ ?_ ?_; (· rfl); (· kernel_rfl); clear hO; (try clear hF); intro xb _ hO; (try simp only [Value.cells] at hO); ((try simp only [List.nil_append, List.append_nil] at hO); have hF := Own.cells hO; simp only [cellsOf_append, cellsOf_pt] at hF); simp only [Act.put, List.setIfInBounds_toArray, List.set_cons_zero, List.set_cons_succ])) | (refine own_store (v := ?_) (off := 0) (b := xb) hO ?_ ?_ ?_ ?_ ?_ ?_ ?_; rotate_left; (· rfl); (· ((conv => lhs; whnf); try exact rfl)); (· ((conv => lhs; whnf); try exact rfl)); (· simp [Value.cells]); (· simp [Value.cells, Value.oneCell']); (· simp [Value.cells]); clear hO; (try clear hF); intro _ hO; (try simp only [splice, Value.cells] at hO); ((try simp only [List.nil_append, List.append_nil] at hO); have hF := Own.cells hO; simp only [cellsOf_append, cellsOf_pt] at hF); simp only [Act.put, List.setIfInBounds_toArray, List.set_cons_zero, List.set_cons_succ]))
        simp only [List.setIfInBounds_toArray, List.set_cons_zero, List.set_cons_succ, Nat.zero_add, Nat.reduceAdd] at hO
        go_roundw
        case rel => exact ⟨2, lo, ByteArray.empty, rfl, .inr (.inr ⟨rfl, HLO.out.1, rfl, HLO.out.2, by decide⟩), hO.as _⟩
        case measure => simp [intOf]
      · cases hv
        subst ho
        have HC := Lib.hid (show ∀ (Y : Fr) (w : World), Own E w (I ++ Y) → ∀ j u, ([.int .i64 d.k, .int .i64 d.n, .string d.s, .slice a d.l.length c] : List Value)[j]? = some u → w.cell? (ad.add j) = some u from hcd)
        clear hcd
        go_wp2_with (first | (refine at_load (t := 121) ?_; go_must (refine own_loadC (ad := ⟨rb, 2, none⟩) (cs := [.pointer (some ad), .pointer (some ⟨hb, 0, none⟩)]) ?_ (row_at1 hO (hh := inferInstance)) ?_ ?_ ?_ ?_; (· rfl); (· ((conv => lhs; whnf); try exact rfl)); (· simp; done); (· simp; done); simp only [Act.put, List.setIfInBounds_toArray, List.set_cons_zero, List.set_cons_succ])) | (refine at_alloc (t := 121) ?_; go_must (refine own_alloc (z := .agg #[.pointer none, .pointer none]) hO ?_ ?_ ?_; (· rfl); (· kernel_rfl); clear hO; (try clear hF); intro xb _ hO; (try simp only [Value.cells] at hO); ((try simp only [List.nil_append, List.append_nil] at hO); have hF := Own.cells hO; simp only [cellsOf_append, cellsOf_pt] at hF); simp only [Act.put, List.setIfInBounds_toArray, List.set_cons_zero, List.set_cons_succ])) | (refine own_store (v := ?_) (off := 0) (b := xb) hO ?_ ?_ ?_ ?_ ?_ ?_ ?_; rotate_left; (· rfl); (· ((conv => lhs; whnf); try exact rfl)); (· ((conv => lhs; whnf); try exact rfl)); (· simp [Value.cells]); (· simp [Value.cells, Value.oneCell']); (· simp [Value.cells]); clear hO; (try clear hF); intro _ hO; (try simp only [splice, Value.cells] at hO); ((try simp only [List.nil_append, List.append_nil] at hO); have hF := Own.cells hO; simp only [cellsOf_append, cellsOf_pt] at hF); simp only [Act.put, List.setIfInBounds_toArray, List.set_cons_zero, List.set_cons_succ]) | (refine at_load (t := 30) ?_; go_must (refine own_loadC (ad := ad) (cs := [.int .i64 d.k, .int .i64 d.n, .string d.s, .slice a d.l.length c]) ?_ (HC.out _ _ (hO.as (I ++ R))) ?_ ?_ ?_ ?_; (· rfl); (· ((conv => lhs; whnf); try exact rfl)); (· simp; done); (· simp; done); simp only [Act.put, List.setIfInBounds_toArray, List.set_cons_zero, List.set_cons_succ])))
        simp only [List.setIfInBounds_toArray, List.set_cons_zero, List.set_cons_succ, Nat.zero_add, Nat.reduceAdd] at hO
        refine (datBytes E _ _ (pt xb (.cells #[.pointer (some ad), .pointer (some ⟨hb, 0, none⟩)] 121 (0, 0)) ++ (pt rb (.cells #[.pointer pf, .pointer (some ⟨lb, 0, none⟩), .pointer (some ad), .pointer (some ⟨hb, 0, none⟩)] 121 (0, 0)) ++ (pt lb (.cells #[.string lo] 9 (0, 0)) ++ (pt hb (.cells #[.string ByteArray.empty] 9 (0, 0)) ++ R)))) I d a c hwd hId hG (hO.as (I ++ (pt xb (.cells #[.pointer (some ad), .pointer (some ⟨hb, 0, none⟩)] 121 (0, 0)) ++ (pt rb (.cells #[.pointer pf, .pointer (some ⟨lb, 0, none⟩), .pointer (some ad), .pointer (some ⟨hb, 0, none⟩)] 121 (0, 0)) ++ (pt lb (.cells #[.string lo] 9 (0, 0)) ++ (pt hb (.cells #[.string ByteArray.empty] 9 (0, 0)) ++ R))))))).mono ?_
        clear hO hF
        rintro e w4 ⟨rfl, hO⟩
        replace hO : Own E w4 (pt xb (.cells #[.pointer (some ad), .pointer (some ⟨hb, 0, none⟩)] 121 (0, 0)) ++ (pt rb (.cells #[.pointer pf, .pointer (some ⟨lb, 0, none⟩), .pointer (some ad), .pointer (some ⟨hb, 0, none⟩)] 121 (0, 0)) ++ (pt lb (.cells #[.string lo] 9 (0, 0)) ++ (pt hb (.cells #[.string ByteArray.empty] 9 (0, 0)) ++ (I ++ R))))) := hO.as _
        have hF := Own.cells hO; simp only [cellsOf_append, cellsOf_pt] at hF
        cases hok : d.ok
        · rw [if_neg (by decide)]
          have HOK := Lib.hid hok
          clear hok
          go_wp2_with (first | ((have hzz : hO1x = hO1x := rfl); clear hzz; (refine own_store (v := ?_) (off := 0) (b := hb) hO ?_ ?_ ?_ ?_ ?_ ?_ ?_; rotate_left; (· rfl); (· ((conv => lhs; whnf); try exact rfl)); (· ((conv => lhs; whnf); try exact rfl)); (· simp [Value.cells]); (· simp [Value.cells, Value.oneCell']); (· simp [Value.cells]); clear hO; (try clear hF); intro _ hO; (try simp only [splice, Value.cells] at hO); ((try simp only [List.nil_append, List.append_nil] at hO); have hF := Own.cells hO; simp only [cellsOf_append, cellsOf_pt] at hF); simp only [Act.put, List.setIfInBounds_toArray, List.set_cons_zero, List.set_cons_succ])) | (have hO1x : Nat := 0; (refine own_store (v := ?_) (off := 0) (b := lb) hO ?_ ?_ ?_ ?_ ?_ ?_ ?_; rotate_left; (· rfl); (· ((conv => lhs; whnf); try exact rfl)); (· ((conv => lhs; whnf); try exact rfl)); (· simp [Value.cells]); (· simp [Value.cells, Value.oneCell']); (· simp [Value.cells]); clear hO; (try clear hF); intro _ hO; (try simp only [splice, Value.cells] at hO); ((try simp only [List.nil_append, List.append_nil] at hO); have hF := Own.cells hO; simp only [cellsOf_append, cellsOf_pt] at hF); simp only [Act.put, List.setIfInBounds_toArray, List.set_cons_zero, List.set_cons_succ])))
          simp only [List.setIfInBounds_toArray, List.set_cons_zero, List.set_cons_succ, Nat.zero_add, Nat.reduceAdd] at hO
          refine bodyPost_ret (results_cct (P := Tryd.prog) (b1 := lb) (b2 := hb) rfl hO (by exact rfl) (by exact rfl) (by exact rfl) inferInstance inferInstance (fun w => by simp)) rfl ?_
          rw [← HPOST.out]
          have hz : rgE of (some d) = 1 := rg_one (.inr (bd_one HOK.out))
          exact ⟨_, _, by rw [hz]; rfl, .inr (by rw [hz]; decide), hO.as _⟩
        · rw [if_pos rfl]
          have HOK := Lib.hid hok
          clear hok
          go_wp2_with (first | (refine own_store (v := ?_) (off := 0) (b := hb) hO ?_ ?_ ?_ ?_ ?_ ?_ ?_; rotate_left; (· rfl); (· ((conv => lhs; whnf); try exact rfl)); (· ((conv => lhs; whnf); try exact rfl)); (· simp [Value.cells]); (· simp [Value.cells, Value.oneCell']); (· simp [Value.cells]); clear hO; (try clear hF); intro _ hO; (try simp only [splice, Value.cells] at hO); ((try simp only [List.nil_append, List.append_nil] at hO); have hF := Own.cells hO; simp only [cellsOf_append, cellsOf_pt] at hF); simp only [Act.put, List.setIfInBounds_toArray, List.set_cons_zero, List.set_cons_succ]))
          simp only [List.setIfInBounds_toArray, List.set_cons_zero, List.set_cons_succ, Nat.zero_add, Nat.reduceAdd] at hO
          go_roundw
          case rel => exact ⟨2, lo, encB d, rfl, .inr (.inr ⟨rfl, HLO.out.1, rfl, HLO.out.2, bd_ne HOK.out⟩), hO.as _⟩
          case measure => simp [intOf]
    · have HLO := Lib.hid (And.intro hlo (And.intro hhi (And.intro hbf hbt)))
      clear hlo hhi hbf hbt
      rcases hF1 with ⟨hv1, rfl⟩ | ⟨adf, df, af, cf, hv1, rfl, wf, fI, fc⟩ <;> rcases hF2 with ⟨hv2, rfl⟩ | ⟨adt, dt, at_, ct, hv2, rfl, wt, tI, tc⟩ <;> cases hv1 <;> cases hv2
      · skip
        · go_wp2_with (first | ((have hzz : hO1x = hO1x := rfl); clear hzz; (refine own_store (v := ?_) (off := 0) (b := hb) hO ?_ ?_ ?_ ?_ ?_ ?_ ?_; rotate_left; (· rfl); (· ((conv => lhs; whnf); try exact rfl)); (· ((conv => lhs; whnf); try exact rfl)); (· simp [Value.cells]); (· simp [Value.cells, Value.oneCell']); (· simp [Value.cells]); clear hO; (try clear hF); intro _ hO; (try simp only [splice, Value.cells] at hO); ((try simp only [List.nil_append, List.append_nil] at hO); have hF := Own.cells hO; simp only [cellsOf_append, cellsOf_pt] at hF); simp only [Act.put, List.setIfInBounds_toArray, List.set_cons_zero, List.set_cons_succ])) | (have hO1x : Nat := 0; (refine own_store (v := ?_) (off := 0) (b := lb) hO ?_ ?_ ?_ ?_ ?_ ?_ ?_; rotate_left; (· rfl); (· ((conv => lhs; whnf); try exact rfl)); (· ((conv => lhs; whnf); try exact rfl)); (· simp [Value.cells]); (· simp [Value.cells, Value.oneCell']); (· simp [Value.cells]); clear hO; (try clear hF); intro _ hO; (try simp only [splice, Value.cells] at hO); ((try simp only [List.nil_append, List.append_nil] at hO); have hF := Own.cells hO; simp only [cellsOf_append, cellsOf_pt] at hF); simp only [Act.put, List.setIfInBounds_toArray, List.set_cons_zero, List.set_cons_succ])))
          simp only [List.setIfInBounds_toArray, List.set_cons_zero, List.set_cons_succ, Nat.zero_add, Nat.reduceAdd] at hO
          refine bodyPost_ret (results_cct (P := Tryd.prog) (b1 := lb) (b2 := hb) rfl hO (by exact rfl) (by exact rfl) (by exact rfl) inferInstance inferInstance (fun w => by simp)) rfl ?_
          rw [← HPOST.out]
          obtain ⟨h1, h2, h3, h4⟩ := HLO.out
          have hz := rg_zero bdR_none bdR_none
          refine ⟨_, _, by rw [hz]; rfl, .inl ⟨hz, h1, h2⟩, hO.as _⟩
      · skip
        have ct0 := (show wr.cell? adt = some (.int .i64 dt.k) by have := tc _ _ (hO.as (I ++ R)) 0 _ rfl; rwa [add0] at this)
        by_cases k4 : dt.k = 3
        · have K4 := Lib.hid k4
          rw [k4] at ct0
          clear k4
          skip
          · go_wp2_with (first | ((have hzz : hO1x = hO1x := rfl); clear hzz; (refine own_store (v := ?_) (off := 0) (b := hb) hO ?_ ?_ ?_ ?_ ?_ ?_ ?_; rotate_left; (· rfl); (· ((conv => lhs; whnf); try exact rfl)); (· ((conv => lhs; whnf); try exact rfl)); (· simp [Value.cells]); (· simp [Value.cells, Value.oneCell']); (· simp [Value.cells]); clear hO; (try clear hF); intro _ hO; (try simp only [splice, Value.cells] at hO); ((try simp only [List.nil_append, List.append_nil] at hO); have hF := Own.cells hO; simp only [cellsOf_append, cellsOf_pt] at hF); simp only [Act.put, List.setIfInBounds_toArray, List.set_cons_zero, List.set_cons_succ])) | (have hO1x : Nat := 0; (refine own_store (v := ?_) (off := 0) (b := lb) hO ?_ ?_ ?_ ?_ ?_ ?_ ?_; rotate_left; (· rfl); (· ((conv => lhs; whnf); try exact rfl)); (· ((conv => lhs; whnf); try exact rfl)); (· simp [Value.cells]); (· simp [Value.cells, Value.oneCell']); (· simp [Value.cells]); clear hO; (try clear hF); intro _ hO; (try simp only [splice, Value.cells] at hO); ((try simp only [List.nil_append, List.append_nil] at hO); have hF := Own.cells hO; simp only [cellsOf_append, cellsOf_pt] at hF); simp only [Act.put, List.setIfInBounds_toArray, List.set_cons_zero, List.set_cons_succ])))
            simp only [List.setIfInBounds_toArray, List.set_cons_zero, List.set_cons_succ, Nat.zero_add, Nat.reduceAdd] at hO
            refine bodyPost_ret (results_cct (P := Tryd.prog) (b1 := lb) (b2 := hb) rfl hO (by exact rfl) (by exact rfl) (by exact rfl) inferInstance inferInstance (fun w => by simp)) rfl ?_
            rw [← HPOST.out]
            obtain ⟨h1, h2, h3, h4⟩ := HLO.out
            have hz := rg_ten h3 h4 (.inr (bd_3 (bd_no h4) K4.out))
            exact ⟨_, _, by rw [hz]; rfl, .inr (by rw [hz]; decide), hO.as _⟩
        · have K4 := Lib.hid k4
          have kt : (dt.k == 3) = false := beq_eq_false_iff_ne.2 k4
          clear k4
          · go_wp2_with (first | ((have hzz : hO1x = hO1x := rfl); clear hzz; (refine own_store (v := ?_) (off := 0) (b := hb) hO ?_ ?_ ?_ ?_ ?_ ?_ ?_; rotate_left; (· rfl); (· ((conv => lhs; whnf); try exact rfl)); (· ((conv => lhs; whnf); try exact rfl)); (· simp [Value.cells]); (· simp [Value.cells, Value.oneCell']); (· simp [Value.cells]); clear hO; (try clear hF); intro _ hO; (try simp only [splice, Value.cells] at hO); ((try simp only [List.nil_append, List.append_nil] at hO); have hF := Own.cells hO; simp only [cellsOf_append, cellsOf_pt] at hF); simp only [Act.put, List.setIfInBounds_toArray, List.set_cons_zero, List.set_cons_succ])) | (have hO1x : Nat := 0; (refine own_store (v := ?_) (off := 0) (b := lb) hO ?_ ?_ ?_ ?_ ?_ ?_ ?_; rotate_left; (· rfl); (· ((conv => lhs; whnf); try exact rfl)); (· ((conv => lhs; whnf); try exact rfl)); (· simp [Value.cells]); (· simp [Value.cells, Value.oneCell']); (· simp [Value.cells]); clear hO; (try clear hF); intro _ hO; (try simp only [splice, Value.cells] at hO); ((try simp only [List.nil_append, List.append_nil] at hO); have hF := Own.cells hO; simp only [cellsOf_append, cellsOf_pt] at hF); simp only [Act.put, List.setIfInBounds_toArray, List.set_cons_zero, List.set_cons_succ])))
            simp only [List.setIfInBounds_toArray, List.set_cons_zero, List.set_cons_succ, Nat.zero_add, Nat.reduceAdd] at hO
            refine bodyPost_ret (results_cct (P := Tryd.prog) (b1 := lb) (b2 := hb) rfl hO (by exact rfl) (by exact rfl) (by exact rfl) inferInstance inferInstance (fun w => by simp)) rfl ?_
            rw [← HPOST.out]
            obtain ⟨h1, h2, h3, h4⟩ := HLO.out
            have hz := rg_zero bdR_none (bd_0 (bd_no h4) K4.out)
            refine ⟨_, _, by rw [hz]; rfl, .inl ⟨hz, h1, h2⟩, hO.as _⟩
      · skip
        have cf0 := (show wr.cell? adf = some (.int .i64 df.k) by have := fc _ _ (hO.as (I ++ R)) 0 _ rfl; rwa [add0] at this)
        by_cases k3 : df.k = 3
        · have K3 := Lib.hid k3
          rw [k3] at cf0
          clear k3
          skip
          · go_wp2_with (first | ((have hzz : hO1x = hO1x := rfl); clear hzz; (refine own_store (v := ?_) (off := 0) (b := hb) hO ?_ ?_ ?_ ?_ ?_ ?_ ?_; rotate_left; (· rfl); (· ((conv => lhs; whnf); try exact rfl)); (· ((conv => lhs; whnf); try exact rfl)); (· simp [Value.cells]); (· simp [Value.cells, Value.oneCell']); (· simp [Value.cells]); clear hO; (try clear hF); intro _ hO; (try simp only [splice, Value.cells] at hO); ((try simp only [List.nil_append, List.append_nil] at hO); have hF := Own.cells hO; simp only [cellsOf_append, cellsOf_pt] at hF); simp only [Act.put, List.setIfInBounds_toArray, List.set_cons_zero, List.set_cons_succ])) | (have hO1x : Nat := 0; (refine own_store (v := ?_) (off := 0) (b := lb) hO ?_ ?_ ?_ ?_ ?_ ?_ ?_; rotate_left; (· rfl); (· ((conv => lhs; whnf); try exact rfl)); (· ((conv => lhs; whnf); try exact rfl)); (· simp [Value.cells]); (· simp [Value.cells, Value.oneCell']); (· simp [Value.cells]); clear hO; (try clear hF); intro _ hO; (try simp only [splice, Value.cells] at hO); ((try simp only [List.nil_append, List.append_nil] at hO); have hF := Own.cells hO; simp only [cellsOf_append, cellsOf_pt] at hF); simp only [Act.put, List.setIfInBounds_toArray, List.set_cons_zero, List.set_cons_succ])))
            simp only [List.setIfInBounds_toArray, List.set_cons_zero, List.set_cons_succ, Nat.zero_add, Nat.reduceAdd] at hO
            refine bodyPost_ret (results_cct (P := Tryd.prog) (b1 := lb) (b2 := hb) rfl hO (by exact rfl) (by exact rfl) (by exact rfl) inferInstance inferInstance (fun w => by simp)) rfl ?_
            rw [← HPOST.out]
            obtain ⟨h1, h2, h3, h4⟩ := HLO.out
            have hz := rg_ten h3 h4 (.inl (bd_3 (bd_no h3) K3.out))
            exact ⟨_, _, by rw [hz]; rfl, .inr (by rw [hz]; decide), hO.as _⟩
        · have K3 := Lib.hid k3
          have kf : (df.k == 3) = false := beq_eq_false_iff_ne.2 k3
          clear k3
          · go_wp2_with (first | ((have hzz : hO1x = hO1x := rfl); clear hzz; (refine own_store (v := ?_) (off := 0) (b := hb) hO ?_ ?_ ?_ ?_ ?_ ?_ ?_; rotate_left; (· rfl); (· ((conv => lhs; whnf); try exact rfl)); (· ((conv => lhs; whnf); try exact rfl)); (· simp [Value.cells]); (· simp [Value.cells, Value.oneCell']); (· simp [Value.cells]); clear hO; (try clear hF); intro _ hO; (try simp only [splice, Value.cells] at hO); ((try simp only [List.nil_append, List.append_nil] at hO); have hF := Own.cells hO; simp only [cellsOf_append, cellsOf_pt] at hF); simp only [Act.put, List.setIfInBounds_toArray, List.set_cons_zero, List.set_cons_succ])) | (have hO1x : Nat := 0; (refine own_store (v := ?_) (off := 0) (b := lb) hO ?_ ?_ ?_ ?_ ?_ ?_ ?_; rotate_left; (· rfl); (· ((conv => lhs; whnf); try exact rfl)); (· ((conv => lhs; whnf); try exact rfl)); (· simp [Value.cells]); (· simp [Value.cells, Value.oneCell']); (· simp [Value.cells]); clear hO; (try clear hF); intro _ hO; (try simp only [splice, Value.cells] at hO); ((try simp only [List.nil_append, List.append_nil] at hO); have hF := Own.cells hO; simp only [cellsOf_append, cellsOf_pt] at hF); simp only [Act.put, List.setIfInBounds_toArray, List.set_cons_zero, List.set_cons_succ])))
            simp only [List.setIfInBounds_toArray, List.set_cons_zero, List.set_cons_succ, Nat.zero_add, Nat.reduceAdd] at hO
            refine bodyPost_ret (results_cct (P := Tryd.prog) (b1 := lb) (b2 := hb) rfl hO (by exact rfl) (by exact rfl) (by exact rfl) inferInstance inferInstance (fun w => by simp)) rfl ?_
            rw [← HPOST.out]
            obtain ⟨h1, h2, h3, h4⟩ := HLO.out
            have hz := rg_zero (bd_0 (bd_no h3) K3.out) bdR_none
            refine ⟨_, _, by rw [hz]; rfl, .inl ⟨hz, h1, h2⟩, hO.as _⟩
      · skip
        have cf0 := (show wr.cell? adf = some (.int .i64 df.k) by have := fc _ _ (hO.as (I ++ R)) 0 _ rfl; rwa [add0] at this)
        by_cases k3 : df.k = 3
        · have K3 := Lib.hid k3
          rw [k3] at cf0
          clear k3
          skip
          · go_wp2_with (first | ((have hzz : hO1x = hO1x := rfl); clear hzz; (refine own_store (v := ?_) (off := 0) (b := hb) hO ?_ ?_ ?_ ?_ ?_ ?_ ?_; rotate_left; (· rfl); (· ((conv => lhs; whnf); try exact rfl)); (· ((conv => lhs; whnf); try exact rfl)); (· simp [Value.cells]); (· simp [Value.cells, Value.oneCell']); (· simp [Value.cells]); clear hO; (try clear hF); intro _ hO; (try simp only [splice, Value.cells] at hO); ((try simp only [List.nil_append, List.append_nil] at hO); have hF := Own.cells hO; simp only [cellsOf_append, cellsOf_pt] at hF); simp only [Act.put, List.setIfInBounds_toArray, List.set_cons_zero, List.set_cons_succ])) | (have hO1x : Nat := 0; (refine own_store (v := ?_) (off := 0) (b := lb) hO ?_ ?_ ?_ ?_ ?_ ?_ ?_; rotate_left; (· rfl); (· ((conv => lhs; whnf); try exact rfl)); (· ((conv => lhs; whnf); try exact rfl)); (· simp [Value.cells]); (· simp [Value.cells, Value.oneCell']); (· simp [Value.cells]); clear hO; (try clear hF); intro _ hO; (try simp only [splice, Value.cells] at hO); ((try simp only [List.nil_append, List.append_nil] at hO); have hF := Own.cells hO; simp only [cellsOf_append, cellsOf_pt] at hF); simp only [Act.put, List.setIfInBounds_toArray, List.set_cons_zero, List.set_cons_succ])))
            simp only [List.setIfInBounds_toArray, List.set_cons_zero, List.set_cons_succ, Nat.zero_add, Nat.reduceAdd] at hO
            refine bodyPost_ret (results_cct (P := Tryd.prog) (b1 := lb) (b2 := hb) rfl hO (by exact rfl) (by exact rfl) (by exact rfl) inferInstance inferInstance (fun w => by simp)) rfl ?_
            rw [← HPOST.out]
            obtain ⟨h1, h2, h3, h4⟩ := HLO.out
            have hz := rg_ten h3 h4 (.inl (bd_3 (bd_no h3) K3.out))
            exact ⟨_, _, by rw [hz]; rfl, .inr (by rw [hz]; decide), hO.as _⟩
        · have K3 := Lib.hid k3
          have kf : (df.k == 3) = false := beq_eq_false_iff_ne.2 k3
          clear k3
          have ct0 := (show wr.cell? adt = some (.int .i64 dt.k) by have := tc _ _ (hO.as (I ++ R)) 0 _ rfl; rwa [add0] at this)
          by_cases k4 : dt.k = 3
          · have K4 := Lib.hid k4
            rw [k4] at ct0
            clear k4
            skip
            · go_wp2_with (first | ((have hzz : hO1x = hO1x := rfl); clear hzz; (refine own_store (v := ?_) (off := 0) (b := hb) hO ?_ ?_ ?_ ?_ ?_ ?_ ?_; rotate_left; (· rfl); (· ((conv => lhs; whnf); try exact rfl)); (· ((conv => lhs; whnf); try exact rfl)); (· simp [Value.cells]); (· simp [Value.cells, Value.oneCell']); (· simp [Value.cells]); clear hO; (try clear hF); intro _ hO; (try simp only [splice, Value.cells] at hO); ((try simp only [List.nil_append, List.append_nil] at hO); have hF := Own.cells hO; simp only [cellsOf_append, cellsOf_pt] at hF); simp only [Act.put, List.setIfInBounds_toArray, List.set_cons_zero, List.set_cons_succ])) | (have hO1x : Nat := 0; (refine own_store (v := ?_) (off := 0) (b := lb) hO ?_ ?_ ?_ ?_ ?_ ?_ ?_; rotate_left; (· rfl); (· ((conv => lhs; whnf); try exact rfl)); (· ((conv => lhs; whnf); try exact rfl)); (· simp [Value.cells]); (· simp [Value.cells, Value.oneCell']); (· simp [Value.cells]); clear hO; (try clear hF); intro _ hO; (try simp only [splice, Value.cells] at hO); ((try simp only [List.nil_append, List.append_nil] at hO); have hF := Own.cells hO; simp only [cellsOf_append, cellsOf_pt] at hF); simp only [Act.put, List.setIfInBounds_toArray, List.set_cons_zero, List.set_cons_succ])))
              simp only [List.setIfInBounds_toArray, List.set_cons_zero, List.set_cons_succ, Nat.zero_add, Nat.reduceAdd] at hO
              refine bodyPost_ret (results_cct (P := Tryd.prog) (b1 := lb) (b2 := hb) rfl hO (by exact rfl) (by exact rfl) (by exact rfl) inferInstance inferInstance (fun w => by simp)) rfl ?_
              rw [← HPOST.out]
              obtain ⟨h1, h2, h3, h4⟩ := HLO.out
              have hz := rg_ten h3 h4 (.inr (bd_3 (bd_no h4) K4.out))
              exact ⟨_, _, by rw [hz]; rfl, .inr (by rw [hz]; decide), hO.as _⟩
          · have K4 := Lib.hid k4
            have kt : (dt.k == 3) = false := beq_eq_false_iff_ne.2 k4
            clear k4
            · go_wp2_with (first | ((have hzz : hO1x = hO1x := rfl); clear hzz; (refine own_store (v := ?_) (off := 0) (b := hb) hO ?_ ?_ ?_ ?_ ?_ ?_ ?_; rotate_left; (· rfl); (· ((conv => lhs; whnf); try exact rfl)); (· ((conv => lhs; whnf); try exact rfl)); (· simp [Value.cells]); (· simp [Value.cells, Value.oneCell']); (· simp [Value.cells]); clear hO; (try clear hF); intro _ hO; (try simp only [splice, Value.cells] at hO); ((try simp only [List.nil_append, List.append_nil] at hO); have hF := Own.cells hO; simp only [cellsOf_append, cellsOf_pt] at hF); simp only [Act.put, List.setIfInBounds_toArray, List.set_cons_zero, List.set_cons_succ])) | (have hO1x : Nat := 0; (refine own_store (v := ?_) (off := 0) (b := lb) hO ?_ ?_ ?_ ?_ ?_ ?_ ?_; rotate_left; (· rfl); (· ((conv => lhs; whnf); try exact rfl)); (· ((conv => lhs; whnf); try exact rfl)); (· simp [Value.cells]); (· simp [Value.cells, Value.oneCell']); (· simp [Value.cells]); clear hO; (try clear hF); intro _ hO; (try simp only [splice, Value.cells] at hO); ((try simp only [List.nil_append, List.append_nil] at hO); have hF := Own.cells hO; simp only [cellsOf_append, cellsOf_pt] at hF); simp only [Act.put, List.setIfInBounds_toArray, List.set_cons_zero, List.set_cons_succ])))
              simp only [List.setIfInBounds_toArray, List.set_cons_zero, List.set_cons_succ, Nat.zero_add, Nat.reduceAdd] at hO
              refine bodyPost_ret (results_cct (P := Tryd.prog) (b1 := lb) (b2 := hb) rfl hO (by exact rfl) (by exact rfl) (by exact rfl) inferInstance inferInstance (fun w => by simp)) rfl ?_
              rw [← HPOST.out]
              obtain ⟨h1, h2, h3, h4⟩ := HLO.out
              have hz := rg_zero (bd_0 (bd_no h3) K3.out) (bd_0 (bd_no h4) K4.out)
              refine ⟨_, _, by rw [hz]; rfl, .inl ⟨hz, h1, h2⟩, hO.as _⟩
end Go.Proofs.YticclennllklpaaDoor

/- Layer 9: MethodTurns. -/
namespace Go.Proofs.YticclennllklpaaDoor
open Go Go.RowKit Go.Own Go.Dt

set_option maxRecDepth 100000 in
set_option maxHeartbeats 16000000 in
theorem all9 (E w : World) (X : Fr) (hO : Own E w X) :
    Calls Tryd.prog 13 #[] w fun e w' => ∃ b, e = .returned (.slice (some ⟨b, 0, none⟩) 3 3) ∧ Own E w' (pt b (.cells #[.int .i64 1, .int .i64 2, .int .i64 3] 3 (0, 0)) ++ X) := by
  go_enter Tryd.func13, Tryd.ntmps13
  go_wp2_with (first | (refine at_bs ?_; go_must (refine own_buildN (cells := ?_) sltI9 hO ?_ ?_ ?_ ?_ ?_ ?_; rotate_left; (· rfl); (· decide); (· decide); (· rfl); (· simp [Instr.fill, Act.eval, Value.cells, Array.replicate_succ]; exact rfl); clear hO; (try clear hF); intro b _ hO; ((try simp only [List.nil_append, List.append_nil] at hO); have hF := Own.cells hO; simp only [cellsOf_append, cellsOf_pt] at hF); simp only [Act.put, List.setIfInBounds_toArray, List.set_cons_zero, List.set_cons_succ])))
  go_ret
  exact ⟨b, rfl, hO⟩
def K3 : List Int := [1, 2, 3]
theorem sl_three {E : World} (b : Nat) : Sl 3 1 (some ⟨b, 0, none⟩) K3.length 3 (K3.map (Value.int .i64)) (pt b (.cells #[.int .i64 1, .int .i64 2, .int .i64 3] 3 (0, 0))) := ⟨rfl, Nat.le_refl _, by simp [maxLen], .inr ⟨b, [], rfl, rfl, rfl⟩⟩
theorem okE_kind {e : En} (h : okE e = true) : K3.contains e.d.k = true := by
  have h1 : e.d.ok = true := by unfold okE at h; simp only [Bool.and_eq_true] at h; exact h.1.1
  have : e.d.k = 1 ∨ e.d.k = 2 ∨ e.d.k = 3 := by
    by_cases k3 : e.d.k = 3
    · exact .inr (.inr k3)
    · rcases (It.ok_or (Dt.ok_one k3 h1)).2 with h | h
      · exact .inl h.1
      · exact .inr (.inl h.1)
  rcases this with h | h | h <;> rw [h] <;> decide
theorem PlainAt.es {E : World} {p : Nat} {hs : List Hl} {A : Fr} (h : PlainAt E p hs A) : Es (esOf hs) := by
  obtain ⟨_, _, _, _, h, _⟩ := h
  exact h
theorem tmod_n (x : Int) (n : Nat) (h0 : 0 < n) (hn : n ≤ 8796093022208) : ∃ p : Nat, p < n ∧ ((¬ x.tmod (n : Int) < 0 ∧ x.tmod (n : Int) = p) ∨ (x.tmod (n : Int) < 0 ∧ wrap64 (-x.tmod (n : Int)) = p)) := by
  have h1 : x.tmod (n : Int) < n := Int.tmod_lt_of_pos x (by omega)
  have h2 : -(n : Int) < x.tmod (n : Int) := Int.lt_tmod_of_pos x (by omega)
  refine ⟨(x.tmod (n : Int)).natAbs, by omega, ?_⟩
  by_cases h : 0 ≤ x.tmod (n : Int)
  · exact .inl ⟨by omega, by omega⟩
  · refine .inr ⟨by omega, ?_⟩
    unfold wrap64
    omega
theorem tmod_nn (m n : Nat) : Int.tmod (m : Int) (n : Int) = ((m % n : Nat) : Int) := by rw [Int.tmod_eq_emod_of_nonneg (by omega)]; omega
theorem wrapN (m : Int) (h0 : 0 ≤ m) (h1 : m < 1000000000000000) : IntKind.i64.wrap m = m ∧ wrap64 m = m := ⟨by rw [IntKind.wrap_i64]; omega, by unfold wrap64; omega⟩
/-- What an insertion makes of what is held. -/
theorem ins_mem {err : Int} {hs hs' : List Hl} {y : En} {T : En → Prop} (h : (okE y = false ∧ err = 1 ∧ esOf hs' = esOf hs) ∨ (okE y = true ∧ y ∈ esOf hs ∧ err = 160 ∧ esOf hs' = esOf hs) ∨ (okE y = true ∧ y ∉ esOf hs ∧ err = 0 ∧ esOf hs' = wiE y (esOf hs)))
    (hT : ∀ e, e ∈ esOf hs ↔ okE e = true ∧ T e) : (∀ e, e ∈ esOf hs' ↔ okE e = true ∧ (T e ∨ e = y)) ∧ hs'.length ≤ hs.length + 1 := by
  rcases h with ⟨h1, _, h2⟩ | ⟨h1, h3, _, h2⟩ | ⟨h1, h3, _, h2⟩
  · refine ⟨fun e => ?_, by have := congrArg List.length h2; rw [esOf_len, esOf_len] at this; omega⟩
    rw [h2, hT]
    refine ⟨fun h => ⟨h.1, .inl h.2⟩, fun h => ⟨h.1, ?_⟩⟩
    rcases h.2 with h4 | rfl
    · exact h4
    · rw [h1] at h; cases h.1
  · refine ⟨fun e => ?_, by have := congrArg List.length h2; rw [esOf_len, esOf_len] at this; omega⟩
    rw [h2, hT]
    refine ⟨fun h => ⟨h.1, .inl h.2⟩, fun h => ⟨h.1, ?_⟩⟩
    rcases h.2 with h4 | rfl
    · exact h4
    · exact ((hT _).1 h3).2
  · refine ⟨fun e => ?_, by have := congrArg List.length h2; rw [esOf_len, (wiE_perm y (esOf hs)).length_eq, List.length_cons, esOf_len] at this; omega⟩
    rw [h2, wiE_mem, hT]
    constructor
    · rintro (rfl | h)
      · exact ⟨h1, .inr rfl⟩
      · exact ⟨h.1, .inl h.2⟩
    · rintro ⟨h, h4 | rfl⟩
      · exact .inr ⟨h, h4⟩
      · exact .inl rfl
theorem ins_want {err : Int} {hs hs' : List Hl} {y : En} (h : (okE y = false ∧ err = 1 ∧ esOf hs' = esOf hs) ∨ (okE y = true ∧ y ∈ esOf hs ∧ err = 160 ∧ esOf hs' = esOf hs) ∨ (okE y = true ∧ y ∉ esOf hs ∧ err = 0 ∧ esOf hs' = wiE y (esOf hs))) :
    (refused K3 y = 1 ∧ err = 1) ∨ (refused K3 y = 0 ∧ err = 160) ∨ (refused K3 y = 0 ∧ err = 0) := by
  unfold refused
  rcases h with ⟨h1, h2, _⟩ | ⟨h1, _, h2, _⟩ | ⟨h1, _, h2, _⟩
  · exact .inl ⟨by rw [h1]; rfl, h2⟩
  · exact .inr (.inl ⟨by rw [if_pos h1, if_pos (okE_kind h1)], h2⟩)
  · exact .inr (.inr ⟨by rw [if_pos h1, if_pos (okE_kind h1)], h2⟩)
theorem turns_eq {n k : Nat} {l a b : List En} (hn : l.length = n) (hk : k < n) (ha : Es a) (hb : Es b) (h1 : ∀ e, e ∈ a ↔ okE e = true ∧ ∃ i, i < n ∧ l[i]? = some e) (h2 : ∀ e, e ∈ b ↔ okE e = true ∧ ∃ i, i < n ∧ l[(n - 1 - i + k) % n]? = some e) : a = b := by
  refine up_ext ha.up hb.up fun e => ?_
  rw [h1, h2]
  constructor
  · rintro ⟨h, i, hi, he⟩
    obtain ⟨j, hj, hji⟩ := turned hk hi
    exact ⟨h, j, hj, by rw [hji]; exact he⟩
  · rintro ⟨h, i, _, he⟩
    exact ⟨h, _, Nat.mod_lt _ (by omega), he⟩
theorem step_mem {f : Nat → Nat} {l : List En} {j : Nat} {y e : En} (hy : l[f j]? = some y) : ((∃ i, i < j ∧ l[f i]? = some e) ∨ e = y) ↔ ∃ i, i < j + 1 ∧ l[f i]? = some e := by
  constructor
  · rintro (⟨i, hi, he⟩ | rfl)
    · exact ⟨i, by omega, he⟩
    · exact ⟨j, by omega, hy⟩
  · rintro ⟨i, hi, he⟩
    by_cases hij : i = j
    · subst hij
      rw [hy] at he
      exact .inr (Option.some.inj he).symm
    · exact .inl ⟨i, by omega, he⟩
set_option maxRecDepth 100000 in
set_option maxHeartbeats 16000000 in
theorem methodTurns (E w : World) (X R I : Fr) (sa : Option Addr) (ca : Nat) (l : List En) (by_ : Int) (hI : EntsAt E I sa l) (hwf : ∀ e ∈ l, e.d.wf) (hll : l.length ≤ 4000000000000) (hG : MaxL E I) (hO : Own E w X) [hp : Pick X I R] :
    Calls Tryd.prog 3 #[.slice sa l.length ca, .int .i64 by_] w fun e w' => e = .returned (.bool true) ∧ Own E w' (I ++ R) := by
  replace hO := hO.perm hp.perm
  clear hp
  obtain ⟨n, hn⟩ : ∃ n, l.length = n := ⟨_, rfl⟩
  rw [hn] at hll ⊢
  have HN := Lib.hid hn
  have HWF := Lib.hid hwf
  clear hn hwf
  by_cases h0 : n = 0 ∨ 200 < n
  · go_enter Tryd.func3, Tryd.ntmps3
    rcases h0 with h0 | h0
    · subst h0
      go_wp2_with fail
      refine (awake9 E _ _ R I hG hO).mono ?_
      rintro e w1 ⟨rfl, hO⟩
      go_wp2_with fail
      go_ret
      exact ⟨rfl, hO⟩
    · have h1 : ((n : Int) == 0) = false := beq_eq_false_iff_ne.2 (by omega)
      have h2 : (200 : Int) < n := by omega
      clear h0
      go_wp2_with fail
      refine (awake9 E _ _ R I hG hO).mono ?_
      rintro e w1 ⟨rfl, hO⟩
      go_wp2_with fail
      go_ret
      exact ⟨rfl, hO⟩
  obtain ⟨h0, h200⟩ := not_or.1 h0
  obtain ⟨k, hk, hx⟩ := tmod_n by_ n (by omega) (by omega)
  have HB := Lib.hid (And.intro h0 (And.intro h200 hk))
  have h1 : ((n : Int) == 0) = false := beq_eq_false_iff_ne.2 (by omega)
  have h2 : ¬ (200 : Int) < n := by omega
  clear h0 h200 hk hll
  go_enter Tryd.func3, Tryd.ntmps3
  rcases hx with ⟨hx0, hx⟩ | ⟨hx0, hx⟩
  all_goals (
    have HX := Lib.hid hx
    clear hx
    go_wp2_with fail
    rw [HX.out]
    refine (newPlain E _ _ hO).mono ?_
    clear hO
    rintro e w1 ⟨p, rfl, hO⟩
    go_wp2_with fail
    refine (newPlain E _ _ hO).mono ?_
    clear hO
    rintro e w2 ⟨q, rfl, hO⟩
    go_wp2_with fail
    clear hx0
    have hO1 := hO
    clear hO
    go_loopw [9] (fun i wr => ∃ (j : Nat) (hs1 hs2 : List Hl) (A1 A2 : Fr), i = .int .i64 (j : Int) ∧ j ≤ n ∧ PlainAt E p hs1 A1 ∧ PlainAt E q hs2 A2 ∧ hs1.length ≤ j ∧ hs2.length ≤ j ∧ (∀ e, e ∈ esOf hs1 ↔ okE e = true ∧ ∃ i, i < j ∧ l[i]? = some e) ∧ (∀ e, e ∈ esOf hs2 ↔ okE e = true ∧ ∃ i, i < j ∧ l[(n - 1 - i + k) % n]? = some e) ∧ Own E wr (A1 ++ (A2 ++ (I ++ R)))) (fun i _ => n - (intOf i).toNat)
    case atStart => exact ⟨0, [], [], _, _, rfl, Nat.zero_le _, PlainAt.new E p, PlainAt.new E q, Nat.le_refl _, Nat.le_refl _, fun e => ⟨fun h => (nomatch h), fun ⟨_, _, h, _⟩ => absurd h (Nat.not_lt_zero _)⟩, fun e => ⟨fun h => (nomatch h), fun ⟨_, _, h, _⟩ => absurd h (Nat.not_lt_zero _)⟩, hO1.as _⟩
    case round =>
      clear hO1
      obtain ⟨j, hs1, hs2, A1, A2, rfl, hj, hA1, hA2, hl1, hl2, hm1, hm2, hO⟩ := hrel
      have HM1 := Lib.hid hm1
      have HM2 := Lib.hid hm2
      have HL := Lib.hid (And.intro hl1 (And.intro hl2 hj))
      obtain ⟨h0', h200', hk'⟩ := HB.out
      clear hm1 hm2
      by_cases hlt : j < n
      · have hj1 : (j : Int) < n := by omega
        have g2 : (0 : Int) ≤ (j : Int) := by omega
        have hjl : j < l.length := by rw [HN.out]; exact hlt
        obtain ⟨m, hm⟩ : ∃ m, (n - 1 - j + k) % n = m := ⟨_, rfl⟩
        have hmn : m < n := by rw [← hm]; exact Nat.mod_lt _ (by omega)
        have hml : m < l.length := by rw [HN.out]; exact hmn
        obtain ⟨ad, a1, c1, rfl, hX1, hXI⟩ := hI.get (hO.as (I ++ (A1 ++ (A2 ++ R)))) hjl
        obtain ⟨ad2, a2, c2, hs, hY1, hYI⟩ := hI.get (hO.as (I ++ (A1 ++ (A2 ++ R)))) hml
        cases hs
        obtain ⟨x, hx⟩ : ∃ x, l[j]'hjl = x := ⟨_, rfl⟩
        obtain ⟨y, hy⟩ : ∃ y, l[m]'hml = y := ⟨_, rfl⟩
        have hxw : x.d.wf := HWF.out x (hx ▸ List.getElem_mem hjl)
        have hyw : y.d.wf := HWF.out y (hy ▸ List.getElem_mem hml)
        rw [hx] at hX1 hXI
        rw [hy] at hY1 hYI
        have HX1 : Hid (∀ (Y : Fr) (w : World), Own E w (I ++ Y) → ∀ i u, ([.int .i64 x.d.k, .int .i64 x.d.n, .string x.d.s, .slice a1 x.d.l.length c1, .int .i64 x.t] : List Value)[i]? = some u → w.cell? ((ad.add (j * 5)).add i) = some u) := Lib.hid hX1
        have HY1 : Hid (∀ (Y : Fr) (w : World), Own E w (I ++ Y) → ∀ i u, ([.int .i64 y.d.k, .int .i64 y.d.n, .string y.d.s, .slice a2 y.d.l.length c2, .int .i64 y.t] : List Value)[i]? = some u → w.cell? ((ad.add (m * 5)).add i) = some u) := Lib.hid hY1
        have HXL := Lib.hid (show l[j]? = some x by rw [List.getElem?_eq_getElem hjl, hx])
        have HYL := Lib.hid (show l[(n - 1 - j + k) % n]? = some y by rw [hm, List.getElem?_eq_getElem hml, hy])
        have HXW := Lib.hid hxw
        have HYW := Lib.hid hyw
        have HLT := Lib.hid hlt
        have hw0 : IntKind.i64.wrap ((j : Int) + 1) = (j : Int) + 1 := wi_1 j (by omega)
        have hw1 : wrap64 ((j : Int) + 1) = (j : Int) + 1 := w64_1 j (by omega)
        obtain ⟨q1, q2⟩ := wrapN ((n : Int) - 1) (by omega) (by omega)
        obtain ⟨q3, q4⟩ := wrapN ((n : Int) - 1 - j) (by omega) (by omega)
        obtain ⟨q5, q6⟩ := wrapN ((n : Int) - 1 - j + k) (by omega) (by omega)
        have q7 : Int.tmod ((n : Int) - 1 - j + k) (n : Int) = (m : Int) := by
          rw [show (n : Int) - 1 - j + k = ((n - 1 - j + k : Nat) : Int) by omega, tmod_nn, hm]
        have g3 : (0 : Int) ≤ (m : Int) := by omega
        have g4 : (m : Int) < n := by omega
        have hb1 : hs1.length ≤ 2000000000000 := by omega
        have hb2 : hs2.length ≤ 2000000000000 := by omega
        clear hX1 hY1 hx hy hm hxw hyw hlt hj hl1 hl2 hjl hml hmn h0' h200' hk'
        go_wp2_with (first | (refine at_load (t := 32) ?_; go_must (refine own_loadC (ad := ad.add (j * 5)) (cs := [.int .i64 x.d.k, .int .i64 x.d.n, .string x.d.s, .slice a1 x.d.l.length c1, .int .i64 x.t]) ?_ (HX1.out _ _ (hO.as (I ++ (A1 ++ (A2 ++ R))))) ?_ ?_ ?_ ?_; (· rfl); (· ((conv => lhs; whnf); try exact rfl)); (· simp; done); (· simp; done); simp only [Act.put, List.setIfInBounds_toArray, List.set_cons_zero, List.set_cons_succ])))
        refine (pInsert E _ _ (A2 ++ R) A1 I p hs1 hb1 hA1 x a1 c1 HXW.out hXI hG (hO.as ((A1 ++ I) ++ (A2 ++ R)))).mono ?_
        clear hO hA1
        rintro e w4 ⟨err, hs1', A1', rfl, hA1, hc1, hO⟩
        replace hO : Own E w4 (A1' ++ (A2 ++ (I ++ R))) := hO.as _
        have HC1 := Lib.hid hc1
        clear hc1
        go_wp2_with (first | (refine at_load (t := 32) ?_; go_must (refine own_loadC (ad := ad.add (m * 5)) (cs := [.int .i64 y.d.k, .int .i64 y.d.n, .string y.d.s, .slice a2 y.d.l.length c2, .int .i64 y.t]) ?_ (HY1.out _ _ (hO.as (I ++ (A1' ++ (A2 ++ R))))) ?_ ?_ ?_ ?_; (· rfl); (· ((conv => lhs; whnf); try exact rfl)); (· simp; done); (· simp; done); simp only [Act.put, List.setIfInBounds_toArray, List.set_cons_zero, List.set_cons_succ])))
        refine (pInsert E _ _ (A1' ++ R) A2 I q hs2 hb2 hA2 y a2 c2 HYW.out hYI hG (hO.as ((A2 ++ I) ++ (A1' ++ R)))).mono ?_
        clear hO hA2
        rintro e w5 ⟨err2, hs2', A2', rfl, hA2, hc2, hO⟩
        replace hO : Own E w5 (A1' ++ (A2' ++ (I ++ R))) := hO.as _
        have HC2 := Lib.hid hc2
        clear hc2
        go_wp2_with fail
        obtain ⟨want, hwant⟩ : ∃ z, refused K3 x = z := ⟨_, rfl⟩
        have HW := Lib.hid hwant
        clear hwant
        (try (go_wp2_with fail))
        refine region_sch (fun w' => Own E w' (I)) (.look 1 (.look 2 (.look 3 (.look 4 (.act 0 (.act 5 (.look 6 .done))))))) (by kernel_rfl) (by kernel_rfl) (fun _ _ d _ _ h => by cases d <;> exact h) ?_ ?_
        · exact hO.drew.as _
        replace hO := hO.drew
        generalize World.drew _ = wdr at hO ⊢
        first | (refine sch_look (o := ?_) (v := ?_) ?_ ?_ ?_ ?_; rotate_left 2; (· ((conv => lhs; whnf); try exact rfl)); (· rfl); (· intro w' hO'; skip; go_simp; (try exact rfl)); simp only [Act.put, List.setIfInBounds_toArray, List.set_cons_zero, List.set_cons_succ]) | (refine sch_pass (o := ?_) ?_ ?_ ?_; rotate_left; (· ((conv => lhs; whnf); try exact rfl)); (· rfl); simp only [Act.put, List.setIfInBounds_toArray, List.set_cons_zero, List.set_cons_succ]) | (refine sch_look (o := ?_) (v := .agg ?_) ?_ ?_ ?_ ?_; rotate_left 2; (· ((conv => lhs; whnf); try exact rfl)); (· rfl); (· intro w' hO'; refine run_opLoadS (b := ?_) (cs := ?_) (e := ?_) (f := ?_) hO' ?_ ?_ ?_ ?_; rotate_left 4; (· exact rfl); (· exact inferInstance); (· simp; done); (· simp; done)); simp only [Act.put, List.setIfInBounds_toArray, List.set_cons_zero, List.set_cons_succ])
        first | (refine sch_look (o := ?_) (v := ?_) ?_ ?_ ?_ ?_; rotate_left 2; (· ((conv => lhs; whnf); try exact rfl)); (· rfl); (· intro w' hO'; skip; go_simp; (try exact rfl)); simp only [Act.put, List.setIfInBounds_toArray, List.set_cons_zero, List.set_cons_succ]) | (refine sch_pass (o := ?_) ?_ ?_ ?_; rotate_left; (· ((conv => lhs; whnf); try exact rfl)); (· rfl); simp only [Act.put, List.setIfInBounds_toArray, List.set_cons_zero, List.set_cons_succ]) | (refine sch_look (o := ?_) (v := .agg ?_) ?_ ?_ ?_ ?_; rotate_left 2; (· ((conv => lhs; whnf); try exact rfl)); (· rfl); (· intro w' hO'; refine run_opLoadS (b := ?_) (cs := ?_) (e := ?_) (f := ?_) hO' ?_ ?_ ?_ ?_; rotate_left 4; (· exact rfl); (· exact inferInstance); (· simp; done); (· simp; done)); simp only [Act.put, List.setIfInBounds_toArray, List.set_cons_zero, List.set_cons_succ])
        first | (refine sch_look (o := ?_) (v := ?_) ?_ ?_ ?_ ?_; rotate_left 2; (· ((conv => lhs; whnf); try exact rfl)); (· rfl); (· intro w' hO'; skip; go_simp; (try exact rfl)); simp only [Act.put, List.setIfInBounds_toArray, List.set_cons_zero, List.set_cons_succ]) | (refine sch_pass (o := ?_) ?_ ?_ ?_; rotate_left; (· ((conv => lhs; whnf); try exact rfl)); (· rfl); simp only [Act.put, List.setIfInBounds_toArray, List.set_cons_zero, List.set_cons_succ]) | (refine sch_look (o := ?_) (v := .agg ?_) ?_ ?_ ?_ ?_; rotate_left 2; (· ((conv => lhs; whnf); try exact rfl)); (· rfl); (· intro w' hO'; refine run_opLoadS (b := ?_) (cs := ?_) (e := ?_) (f := ?_) hO' ?_ ?_ ?_ ?_; rotate_left 4; (· exact rfl); (· exact inferInstance); (· simp; done); (· simp; done)); simp only [Act.put, List.setIfInBounds_toArray, List.set_cons_zero, List.set_cons_succ])
        (refine sch_look (o := ?_) (v := .agg ([.int .i64 x.d.k, .int .i64 x.d.n, .string x.d.s, .slice a1 x.d.l.length c1, .int .i64 x.t] : List Value).toArray) ?_ ?_ ?_ ?_; rotate_left; (· ((conv => lhs; whnf); try exact rfl)); (· rfl); (· intro w' hO'; exact run_opLoadC (ad := ad.add (j * 5)) (cs := [.int .i64 x.d.k, .int .i64 x.d.n, .string x.d.s, .slice a1 x.d.l.length c1, .int .i64 x.t]) (HX1.out _ _ (hO'.as (I ++ []))) rfl (by simp) (by simp)); simp only [Act.put, List.setIfInBounds_toArray, List.set_cons_zero, List.set_cons_succ])
        (refine sch_act (o := ?_) ?_ ?_; rotate_left; (· ((conv => lhs; whnf); try exact rfl)))
        go_wp2_with fail
        refine (all9 E _ _ hO).mono ?_
        clear hO
        rintro e w6 ⟨kb, rfl, hO⟩
        go_wp2_with fail
        refine ⟨hO.as _, ?_⟩
        (refine sch_act (o := ?_) ?_ ?_; rotate_left; (· ((conv => lhs; whnf); try exact rfl)))
        go_wp2_with fail
        refine (refRefused E _ _ (A1' ++ (A2' ++ R)) I (pt kb (.cells #[.int .i64 1, .int .i64 2, .int .i64 3] 3 (0, 0))) _ 3 K3 (sl_three kb (E := E)) x a1 c1 hXI (hO.as ((pt kb (.cells #[.int .i64 1, .int .i64 2, .int .i64 3] 3 (0, 0)) ++ I) ++ (A1' ++ (A2' ++ R))))).mono ?_
        clear hO
        rw [HW.out]
        rintro e w7 ⟨rfl, hO⟩
        go_wp2_with fail
        refine ⟨hO.as _, ?_⟩
        first | (refine sch_look (o := ?_) (v := ?_) ?_ ?_ ?_ ?_; rotate_left 2; (· ((conv => lhs; whnf); try exact rfl)); (· rfl); (· intro w' hO'; skip; go_simp; (try exact rfl)); simp only [Act.put, List.setIfInBounds_toArray, List.set_cons_zero, List.set_cons_succ]) | (refine sch_pass (o := ?_) ?_ ?_ ?_; rotate_left; (· ((conv => lhs; whnf); try exact rfl)); (· rfl); simp only [Act.put, List.setIfInBounds_toArray, List.set_cons_zero, List.set_cons_succ]) | (refine sch_look (o := ?_) (v := .agg ?_) ?_ ?_ ?_ ?_; rotate_left 2; (· ((conv => lhs; whnf); try exact rfl)); (· rfl); (· intro w' hO'; refine run_opLoadS (b := ?_) (cs := ?_) (e := ?_) (f := ?_) hO' ?_ ?_ ?_ ?_; rotate_left 4; (· exact rfl); (· exact inferInstance); (· simp; done); (· simp; done)); simp only [Act.put, List.setIfInBounds_toArray, List.set_cons_zero, List.set_cons_succ])
        refine sch_done ?_
        replace hO : Own E _ (A1' ++ (A2' ++ (I ++ R))) := hO.as _
        have hiw := ins_want HC1.out
        rw [HW.out] at hiw
        have hrel : ∀ wr, Own E wr (A1' ++ (A2' ++ (I ++ R))) → ∃ (hs1 hs2 : List Hl) (A1 A2 : Fr), PlainAt E p hs1 A1 ∧ PlainAt E q hs2 A2 ∧ hs1.length ≤ j + 1 ∧ hs2.length ≤ j + 1 ∧ (∀ e, e ∈ esOf hs1 ↔ okE e = true ∧ ∃ i, i < j + 1 ∧ l[i]? = some e) ∧ (∀ e, e ∈ esOf hs2 ↔ okE e = true ∧ ∃ i, i < j + 1 ∧ l[(n - 1 - i + k) % n]? = some e) ∧ Own E wr (A1 ++ (A2 ++ (I ++ R))) := fun wr h => by
          obtain ⟨i1, i2⟩ := ins_mem HC1.out HM1.out
          obtain ⟨i3, i4⟩ := ins_mem HC2.out HM2.out
          obtain ⟨b1, b2, b3⟩ := HL.out
          refine ⟨hs1', hs2', A1', A2', hA1, hA2, by omega, by omega, fun e => ?_, fun e => ?_, h⟩
          · rw [i1, step_mem (f := fun i => i) HXL.out]
          · rw [i3, step_mem (f := fun i => (n - 1 - i + k) % n) HYL.out]
        have HREL := Lib.hid hrel
        clear hrel hA1 hA2
        rcases hiw with ⟨rfl, rfl⟩ | ⟨rfl, rfl⟩ | ⟨rfl, rfl⟩
        all_goals (
          go_wp2_with fail
          have hlt := HLT.out
          obtain ⟨hs1n, hs2n, A1n, A2n, r1, r2, r3, r4, r5, r6, r7⟩ := HREL.out _ hO
          go_roundw
          case rel => exact ⟨j + 1, hs1n, hs2n, A1n, A2n, by go_num, hlt, r1, r2, r3, r4, r5, r6, r7⟩
          case measure => (clear hw0 hw1; simp [intOf]; omega))
      · obtain rfl : j = n := Nat.le_antisymm hj (Nat.le_of_not_lt hlt)
        have hjj : ¬ (j : Int) < j := by omega
        have hes : esOf hs1 = esOf hs2 := turns_eq HN.out hk' hA1.es hA2.es HM1.out HM2.out
        have hb1 : hs1.length ≤ 2000000000000 := by omega
        have hb2 : hs2.length ≤ 2000000000000 := by omega
        have hb3 : (esOf hs1).length ≤ 4000000000000 := by rw [esOf_len]; omega
        have hok1 : ∀ e ∈ esOf hs1, e.d.ok = true := fun e he => (hA1.es.ok e he).1
        have hok2 : ∀ e ∈ esOf hs2, e.d.ok = true := fun e he => (hA2.es.ok e he).1
        have HES := Lib.hid hes
        have HOK1 := Lib.hid hok1
        have HOK2 := Lib.hid hok2
        clear hj hlt hl1 hl2 hes hok1 hok2 h0' h200' hk'
        go_wp2_with fail
        refine (pEntries E _ _ (A2 ++ (I ++ R)) A1 p hs1 hb1 hA1 hO).mono ?_
        clear hO
        rintro e w4 ⟨so1, co1, os1, SO1, FO1, rfl, ho1, hS1, hF1, hO⟩
        go_wp2_with fail
        refine (pEntries E _ _ ((SO1 ++ FO1) ++ (A1 ++ (I ++ R))) A2 q hs2 hb2 hA2 (hO.as (A2 ++ ((SO1 ++ FO1) ++ (A1 ++ (I ++ R)))))).mono ?_
        clear hO
        rintro e w5 ⟨so2, co2, os2, SO2, FO2, rfl, ho2, hS2, hF2, hO⟩
        have hE1 : EntsAt E ((SO1 ++ FO1) ++ (SO2 ++ FO2)) so1 (esOf hs1) := by
          have := ents_own (by rw [← ho1, List.length_map] at hS1; exact hS1) hF1
          rw [ho1] at this
          exact this.of (.refl _)
        have hE2 : EntsAt E ((SO1 ++ FO1) ++ (SO2 ++ FO2)) so2 (esOf hs2) := by
          have := ents_own (by rw [← ho2, List.length_map] at hS2; exact hS2) hF2
          rw [ho2] at this
          exact this.of List.perm_append_comm
        go_wp2_with fail
        refine (refSameAll E _ _ (A1 ++ (A2 ++ (I ++ R))) ((SO1 ++ FO1) ++ (SO2 ++ FO2)) so1 so2 co1 co2 (esOf hs1) (esOf hs2) hb3 HOK1.out HOK2.out hE1 hE2 (hO.as (((SO1 ++ FO1) ++ (SO2 ++ FO2)) ++ (A1 ++ (A2 ++ (I ++ R)))))).mono ?_
        clear hO
        rw [decide_eq_true HES.out]
        rintro e w6 ⟨rfl, hO⟩
        go_wp2_with fail
        refine (awake9 E _ _ R I hG (hO.as (I ++ R))).mono ?_
        clear hO
        rintro e w7 ⟨rfl, hO⟩
        go_wp2_with fail
        go_ret
        exact ⟨rfl, hO⟩)
end Go.Proofs.YticclennllklpaaDoor

/- Layer 9: a method that nobody made. -/
namespace Go.Proofs.YticclennllklpaaDoor
open Go Go.RowKit Go.Own Go.Dt

/-- nil, or a Plain that nobody made. -/
def DeadA (v : Value) (A : Fr) : Prop := (v = .pointer none ∧ A = []) ∨ ∃ p, v = .pointer (some ⟨p, 0, none⟩) ∧ A = pt p (.cells #[.bool false, .slice none 0 0] 66 (0, 0))
set_option maxRecDepth 100000 in
set_option maxHeartbeats 16000000 in
theorem dGiven (E w : World) (X A R : Fr) (v : Value) (hD : DeadA v A) (hO : Own E w X) [hp : Pick X A R] :
    Calls Tryd.prog 33 #[v] w fun e w' => e = .returned (.bool false) ∧ w = w' := by
  have hO1 := hO.perm hp.perm
  rcases hD with ⟨rfl, rfl⟩ | ⟨p, rfl, rfl⟩
  · clear hO hO1
    go_enter Tryd.func33, Tryd.ntmps33
    go_wp2_with fail
    go_ret
    exact ⟨rfl, rfl⟩
  · have hc : w.cell? ⟨p, 0, none⟩ = some (.bool false) := by rw [hO1.cell (b := p)]; rfl
    clear hO hO1
    go_enter Tryd.func33, Tryd.ntmps33
    go_wp2_with fail
    go_ret
    exact ⟨rfl, rfl⟩
set_option maxRecDepth 100000 in
set_option maxHeartbeats 16000000 in
theorem dName (E w : World) (X A R : Fr) (v : Value) (hD : DeadA v A) (hO : Own E w X) [hp : Pick X A R] :
    Calls Tryd.prog 25 #[v] w fun e w' => e = .returned (.string ⟨#[]⟩) ∧ w = w' := by
  go_enter Tryd.func25, Tryd.ntmps25
  go_wp2_with (go_at_call 33; refine (dGiven E _ _ A _ v hD hO).mono ?_; rintro e w1 ⟨rfl, rfl⟩)
  go_ret
  exact ⟨rfl, rfl⟩
set_option maxRecDepth 100000 in
set_option maxHeartbeats 16000000 in
theorem dCheck (E w : World) (X A R : Fr) (v : Value) (hD : DeadA v A) (hO : Own E w X) [hp : Pick X A R] :
    Calls Tryd.prog 104 #[v] w fun e w' => e = .returned (.bool false) ∧ w = w' := by
  go_enter Tryd.func104, Tryd.ntmps104
  go_wp2_with (go_at_call 33; refine (dGiven E _ _ A _ v hD hO).mono ?_; rintro e w1 ⟨rfl, rfl⟩)
  go_ret
  exact ⟨rfl, rfl⟩
set_option maxRecDepth 100000 in
set_option maxHeartbeats 16000000 in
theorem dDrop (E w : World) (X A R : Fr) (v : Value) (hD : DeadA v A) (hO : Own E w X) [hp : Pick X A R] :
    Calls Tryd.prog 106 #[v] w fun e w' => e = .returned (.int .i64 1) ∧ w = w' := by
  go_enter Tryd.func106, Tryd.ntmps106
  go_wp2_with (go_at_call 33; refine (dGiven E _ _ A _ v hD hO).mono ?_; rintro e w1 ⟨rfl, rfl⟩)
  go_ret
  exact ⟨rfl, rfl⟩
set_option maxRecDepth 100000 in
set_option maxHeartbeats 16000000 in
theorem dEntries (E w : World) (X A R : Fr) (v : Value) (hD : DeadA v A) (hO : Own E w X) [hp : Pick X A R] :
    Calls Tryd.prog 15 #[v] w fun e w' => e = .returned (.slice none 0 0) ∧ w = w' := by
  go_enter Tryd.func15, Tryd.ntmps15
  go_wp2_with (go_at_call 33; refine (dGiven E _ _ A _ v hD hO).mono ?_; rintro e w1 ⟨rfl, rfl⟩)
  go_ret
  exact ⟨rfl, rfl⟩
set_option maxRecDepth 100000 in
set_option maxHeartbeats 16000000 in
theorem pPages (w : World) (v : Value) :
    Calls Tryd.prog 18 #[v] w fun e w' => e = .returned (.slice none 0 0) ∧ w = w' := by
  go_enter Tryd.func18, Tryd.ntmps18
  go_wp2_with fail
  go_ret
  exact ⟨rfl, rfl⟩
set_option maxRecDepth 100000 in
set_option maxHeartbeats 16000000 in
theorem dRange (E w : World) (X A R : Fr) (v : Value) (hD : DeadA v A) (hO : Own E w X) [hp : Pick X A R] :
    Calls Tryd.prog 19 #[v, .pointer none, .pointer none, .bool false] w fun e w' => e = .returned (.tuple #[.slice none 0 0, .int .i64 1]) ∧ w = w' := by
  go_enter Tryd.func19, Tryd.ntmps19
  go_wp2_with (go_at_call 33; refine (dGiven E _ _ A _ v hD hO).mono ?_; rintro e w1 ⟨rfl, rfl⟩)
  go_ret2
  exact ⟨rfl, rfl⟩
set_option maxRecDepth 100000 in
set_option maxHeartbeats 16000000 in
theorem dFind0 (E w : World) (X A R : Fr) (v : Value) (hD : DeadA v A) (k n t : Int) (s : ByteArray) (sa : Option Addr) (l c : Nat) (hO : Own E w X) [hp : Pick X A R] :
    Calls Tryd.prog 27 #[v, .agg #[.int .i64 k, .int .i64 n, .string s, .slice sa l c, .int .i64 t]] w fun e w' => e = .returned (.tuple #[.int .i64 0, .bool false, .int .i64 1]) ∧ Own E w' (A ++ R) := by
  replace hO := hO.perm hp.perm
  clear hp
  go_enter Tryd.func27, Tryd.ntmps27
  go_wp2_with (first | (refine at_box ?_; go_must (refine own_box (v := ?_) hO ?_ ?_ ?_; rotate_left; (· rfl); (· ((conv => lhs; whnf); try exact rfl)); clear hO; (try clear hF); intro ob _ hO; (try simp only [Value.cells] at hO); ((try simp only [List.nil_append, List.append_nil] at hO); have hF := Own.cells hO; simp only [cellsOf_append, cellsOf_pt] at hF); simp only [Act.put, List.setIfInBounds_toArray, List.set_cons_zero, List.set_cons_succ])) | (go_at_call 33; refine (dGiven E _ _ A _ v hD hO).mono ?_; rintro e w1 ⟨rfl, rfl⟩))
  go_ret3
  exact ⟨rfl, hO.as _⟩
set_option maxRecDepth 100000 in
set_option maxHeartbeats 16000000 in
theorem dFind (E w : World) (X A R : Fr) (v : Value) (hD : DeadA v A) (k n : Int) (s : ByteArray) (sa : Option Addr) (l c : Nat) (hO : Own E w X) [hp : Pick X A R] :
    Calls Tryd.prog 26 #[v, .agg #[.int .i64 k, .int .i64 n, .string s, .slice sa l c]] w fun e w' => e = .returned (.tuple #[.slice none 0 0, .int .i64 1]) ∧ Own E w' (A ++ R) := by
  replace hO := hO.perm hp.perm
  clear hp
  go_enter Tryd.func26, Tryd.ntmps26
  go_wp2_with (first | (refine at_box ?_; go_must (refine own_box (v := ?_) hO ?_ ?_ ?_; rotate_left; (· rfl); (· ((conv => lhs; whnf); try exact rfl)); clear hO; (try clear hF); intro ob _ hO; (try simp only [Value.cells] at hO); ((try simp only [List.nil_append, List.append_nil] at hO); have hF := Own.cells hO; simp only [cellsOf_append, cellsOf_pt] at hF); simp only [Act.put, List.setIfInBounds_toArray, List.set_cons_zero, List.set_cons_succ])) | (refine at_load ?_; refine own_loadS (b := ?_) (cs := ?_) (e := ?_) (f := ?_) hO ?_ ?_ ?_ ?_ ?_ ?_; rotate_left 4; (· rfl); (· rfl); (· exact inferInstance); (· simp; done); (· simp [Value.cells]; done); simp only [Act.put, List.setIfInBounds_toArray, List.set_cons_zero, List.set_cons_succ]) | (go_at_call 27; refine (dFind0 E _ _ A _ v hD k n 0 s sa l c hO).mono ?_; clear hO; (try clear hF); rintro e w1 ⟨rfl, hO⟩))
  go_ret2
  exact ⟨rfl, hO.as _⟩
set_option maxRecDepth 100000 in
set_option maxHeartbeats 16000000 in
theorem dInsert (E w : World) (X A R : Fr) (v : Value) (hD : DeadA v A) (k n t : Int) (s : ByteArray) (sa : Option Addr) (l c : Nat) (hO : Own E w X) [hp : Pick X A R] :
    Calls Tryd.prog 11 #[v, .agg #[.int .i64 k, .int .i64 n, .string s, .slice sa l c, .int .i64 t]] w fun e w' => e = .returned (.int .i64 1) ∧ Own E w' (A ++ R) := by
  replace hO := hO.perm hp.perm
  clear hp
  go_enter Tryd.func11, Tryd.ntmps11
  go_wp2_with (first | (refine at_box ?_; go_must (refine own_box (v := ?_) hO ?_ ?_ ?_; rotate_left; (· rfl); (· ((conv => lhs; whnf); try exact rfl)); clear hO; (try clear hF); intro ob _ hO; (try simp only [Value.cells] at hO); ((try simp only [List.nil_append, List.append_nil] at hO); have hF := Own.cells hO; simp only [cellsOf_append, cellsOf_pt] at hF); simp only [Act.put, List.setIfInBounds_toArray, List.set_cons_zero, List.set_cons_succ])) | (refine at_load ?_; refine own_loadS (b := ?_) (cs := ?_) (e := ?_) (f := ?_) hO ?_ ?_ ?_ ?_ ?_ ?_; rotate_left 4; (· rfl); (· rfl); (· exact inferInstance); (· simp; done); (· simp [Value.cells]; done); simp only [Act.put, List.setIfInBounds_toArray, List.set_cons_zero, List.set_cons_succ]) | (go_at_call 27; refine (dFind0 E _ _ A _ v hD k n t s sa l c hO).mono ?_; clear hO; (try clear hF); rintro e w1 ⟨rfl, hO⟩))
  go_ret
  exact ⟨rfl, hO.as _⟩
set_option maxRecDepth 100000 in
set_option maxHeartbeats 16000000 in
theorem dDelete (E w : World) (X A R : Fr) (v : Value) (hD : DeadA v A) (k n t : Int) (s : ByteArray) (sa : Option Addr) (l c : Nat) (hO : Own E w X) [hp : Pick X A R] :
    Calls Tryd.prog 105 #[v, .agg #[.int .i64 k, .int .i64 n, .string s, .slice sa l c, .int .i64 t]] w fun e w' => e = .returned (.int .i64 1) ∧ Own E w' (A ++ R) := by
  replace hO := hO.perm hp.perm
  clear hp
  go_enter Tryd.func105, Tryd.ntmps105
  go_wp2_with (first | (refine at_box ?_; go_must (refine own_box (v := ?_) hO ?_ ?_ ?_; rotate_left; (· rfl); (· ((conv => lhs; whnf); try exact rfl)); clear hO; (try clear hF); intro ob _ hO; (try simp only [Value.cells] at hO); ((try simp only [List.nil_append, List.append_nil] at hO); have hF := Own.cells hO; simp only [cellsOf_append, cellsOf_pt] at hF); simp only [Act.put, List.setIfInBounds_toArray, List.set_cons_zero, List.set_cons_succ])) | (refine at_load ?_; refine own_loadS (b := ?_) (cs := ?_) (e := ?_) (f := ?_) hO ?_ ?_ ?_ ?_ ?_ ?_; rotate_left 4; (· rfl); (· rfl); (· exact inferInstance); (· simp; done); (· simp [Value.cells]; done); simp only [Act.put, List.setIfInBounds_toArray, List.set_cons_zero, List.set_cons_succ]) | (go_at_call 27; refine (dFind0 E _ _ A _ v hD k n t s sa l c hO).mono ?_; clear hO; (try clear hF); rintro e w1 ⟨rfl, hO⟩))
  go_ret
  exact ⟨rfl, hO.as _⟩
end Go.Proofs.YticclennllklpaaDoor

/- Layer 9: Nobody. -/
namespace Go.Proofs.YticclennllklpaaDoor
open Go Go.RowKit Go.Own Go.Dt

theorem ivFind (v : Value) (w : World) : Sem.run Tryd.prog (method 271 24 v "Find") w = .ok (26, v) w := by kernel_rfl
theorem ivInsert (v : Value) (w : World) : Sem.run Tryd.prog (method 271 24 v "Insert") w = .ok (11, v) w := by kernel_rfl
theorem ivDelete (v : Value) (w : World) : Sem.run Tryd.prog (method 271 24 v "Delete") w = .ok (105, v) w := by kernel_rfl
theorem ivEntries (v : Value) (w : World) : Sem.run Tryd.prog (method 271 24 v "Entries") w = .ok (15, v) w := by kernel_rfl
theorem ivPages (v : Value) (w : World) : Sem.run Tryd.prog (method 271 24 v "Pages") w = .ok (18, v) w := by kernel_rfl
theorem ivCheck (v : Value) (w : World) : Sem.run Tryd.prog (method 271 24 v "Check") w = .ok (104, v) w := by kernel_rfl
theorem ivDrop (v : Value) (w : World) : Sem.run Tryd.prog (method 271 24 v "Drop") w = .ok (106, v) w := by kernel_rfl
set_option maxRecDepth 100000 in
set_option maxHeartbeats 16000000 in
theorem nobody9 (E w : World) (X A R : Fr) (v : Value) (hD : DeadA v A) (k n t : Int) (s : ByteArray) (sa : Option Addr) (l c : Nat) (hO : Own E w X) [hp : Pick X A R] :
    Calls Tryd.prog 24 #[.iface 24 v, .agg #[.int .i64 k, .int .i64 n, .string s, .slice sa l c, .int .i64 t]] w fun e w' => e = .returned (.bool true) ∧ Own E w' (A ++ R) := by
  replace hO := hO.perm hp.perm
  clear hp
  have i0 := ivFind v
  have i1 := ivInsert v
  have i2 := ivDelete v
  have i3 := ivEntries v
  have i4 := ivPages v
  have i5 := ivCheck v
  have i6 := ivDrop v
  go_enter Tryd.func24, Tryd.ntmps24
  go_wp2_with (first | (refine at_box ?_; go_must (refine own_box (v := ?_) hO ?_ ?_ ?_; rotate_left; (· rfl); (· ((conv => lhs; whnf); try exact rfl)); clear hO; (try clear hF); intro ob _ hO; (try simp only [Value.cells] at hO); ((try simp only [List.nil_append, List.append_nil] at hO); have hF := Own.cells hO; simp only [cellsOf_append, cellsOf_pt] at hF); simp only [Act.put, List.setIfInBounds_toArray, List.set_cons_zero, List.set_cons_succ])) | (refine at_load ?_; refine own_loadS (b := ?_) (cs := ?_) (e := ?_) (f := ?_) hO ?_ ?_ ?_ ?_ ?_ ?_; rotate_left 4; (· rfl); (· rfl); (· exact inferInstance); (· simp; done); (· simp [Value.cells]; done); simp only [Act.put, List.setIfInBounds_toArray, List.set_cons_zero, List.set_cons_succ]) | (go_at_call 26; refine (dFind E _ _ A _ v hD k n s sa l c hO).mono ?_; clear hO; (try clear hF); rintro e w1 ⟨rfl, hO⟩; replace hO := hO.as (pt ob (.cells #[.int .i64 k, .int .i64 n, .string s, .slice sa l c, .int .i64 t] 32 (0, 0)) ++ (A ++ R)); ((try simp only [List.nil_append, List.append_nil] at hO); have hF := Own.cells hO; simp only [cellsOf_append, cellsOf_pt] at hF)) | (go_at_call 11; refine (dInsert E _ _ A _ v hD k n t s sa l c hO).mono ?_; clear hO; (try clear hF); rintro e w1 ⟨rfl, hO⟩; replace hO := hO.as (pt ob (.cells #[.int .i64 k, .int .i64 n, .string s, .slice sa l c, .int .i64 t] 32 (0, 0)) ++ (A ++ R)); ((try simp only [List.nil_append, List.append_nil] at hO); have hF := Own.cells hO; simp only [cellsOf_append, cellsOf_pt] at hF)) | (go_at_call 105; refine (dDelete E _ _ A _ v hD k n t s sa l c hO).mono ?_; clear hO; (try clear hF); rintro e w1 ⟨rfl, hO⟩; replace hO := hO.as (pt ob (.cells #[.int .i64 k, .int .i64 n, .string s, .slice sa l c, .int .i64 t] 32 (0, 0)) ++ (A ++ R)); ((try simp only [List.nil_append, List.append_nil] at hO); have hF := Own.cells hO; simp only [cellsOf_append, cellsOf_pt] at hF)) | (go_at_call 15; refine (dEntries E _ _ A _ v hD hO).mono ?_; rintro e w1 ⟨rfl, rfl⟩) | (go_at_call 18; refine (pPages _ v).mono ?_; rintro e w1 ⟨rfl, rfl⟩) | (go_at_call 104; refine (dCheck E _ _ A _ v hD hO).mono ?_; rintro e w1 ⟨rfl, rfl⟩) | (go_at_call 106; refine (dDrop E _ _ A _ v hD hO).mono ?_; rintro e w1 ⟨rfl, rfl⟩))
  go_ret
  exact ⟨rfl, hO.as _⟩
end Go.Proofs.YticclennllklpaaDoor
