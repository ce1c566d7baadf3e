/- Layer 9: MethodTurns. -/
import Derived.Test.YticclennllklpaaDoorK5
import Derived.Test.YticclennllklpaaDoorRows
import Derived.Test.YticclennllklpaaDoorK4
import Derived.ProofKit
import Derived.OpenShut
import Derived.LaidMore
import Derived.Lay
import Derived.Stop.Joined
set_option linter.all false
/- Layer 9: MethodTurns. -/
namespace Go.Proofs.YticclennllklpaaDoor
open Go Go.RowKit Go.Own Go.Dt

set_option maxRecDepth 100000 in
set_option maxHeartbeats 16000000 in
theorem all9 (E w : World) (X : Fr) (hO : Own E w X) :
    Calls Tryd.prog 13 #[] w fun e w' => ∃ b, e = .returned (.slice (some ⟨b, 0, none⟩) 3 3) ∧ Own E w' (pt b (.cells #[.int .i64 1, .int .i64 2, .int .i64 3] 3 (0, 0)) ++ X) := by
  go_enter Tryd.func13, Tryd.ntmps13
  go_wp2_with (first | (refine at_bs ?_; go_must (refine own_buildN (cells := ?_) sltI9 hO ?_ ?_ ?_ ?_ ?_ ?_; rotate_left; (· rfl); (· decide); (· decide); (· rfl); (· simp [Instr.fill, Act.eval, Value.cells, Array.replicate_succ]; exact rfl); clear hO; (try clear hF); intro b _ hO; ((try simp only [List.nil_append, List.append_nil] at hO); have hF := Own.cells hO; simp only [cellsOf_append, cellsOf_pt] at hF); simp only [Act.put, List.setIfInBounds_toArray, List.set_cons_zero, List.set_cons_succ])))
  go_ret
  exact ⟨b, rfl, hO⟩
def K3 : List Int := [1, 2, 3]
theorem sl_three {E : World} (b : Nat) : Sl 3 1 (some ⟨b, 0, none⟩) K3.length 3 (K3.map (Value.int .i64)) (pt b (.cells #[.int .i64 1, .int .i64 2, .int .i64 3] 3 (0, 0))) := ⟨rfl, Nat.le_refl _, by simp [maxLen], .inr ⟨b, [], rfl, rfl, rfl⟩⟩
theorem okE_kind {e : En} (h : okE e = true) : K3.contains e.d.k = true := by
  have h1 : e.d.ok = true := by unfold okE at h; simp only [Bool.and_eq_true] at h; exact h.1.1
  have : e.d.k = 1 ∨ e.d.k = 2 ∨ e.d.k = 3 := by
    by_cases k3 : e.d.k = 3
    · exact .inr (.inr k3)
    · rcases (It.ok_or (Dt.ok_one k3 h1)).2 with h | h
      · exact .inl h.1
      · exact .inr (.inl h.1)
  rcases this with h | h | h <;> rw [h] <;> decide
theorem PlainAt.es {E : World} {p : Nat} {hs : List Hl} {A : Fr} (h : PlainAt E p hs A) : Es (esOf hs) := by
  obtain ⟨_, _, _, _, h, _⟩ := h
  exact h
theorem tmod_n (x : Int) (n : Nat) (h0 : 0 < n) (hn : n ≤ 8796093022208) : ∃ p : Nat, p < n ∧ ((¬ x.tmod (n : Int) < 0 ∧ x.tmod (n : Int) = p) ∨ (x.tmod (n : Int) < 0 ∧ wrap64 (-x.tmod (n : Int)) = p)) := by
  have h1 : x.tmod (n : Int) < n := Int.tmod_lt_of_pos x (by omega)
  have h2 : -(n : Int) < x.tmod (n : Int) := Int.lt_tmod_of_pos x (by omega)
  refine ⟨(x.tmod (n : Int)).natAbs, by omega, ?_⟩
  by_cases h : 0 ≤ x.tmod (n : Int)
  · exact .inl ⟨by omega, by omega⟩
  · refine .inr ⟨by omega, ?_⟩
    unfold wrap64
    omega
theorem tmod_nn (m n : Nat) : Int.tmod (m : Int) (n : Int) = ((m % n : Nat) : Int) := by rw [Int.tmod_eq_emod_of_nonneg (by omega)]; omega
theorem wrapN (m : Int) (h0 : 0 ≤ m) (h1 : m < 1000000000000000) : IntKind.i64.wrap m = m ∧ wrap64 m = m := ⟨by rw [IntKind.wrap_i64]; omega, by unfold wrap64; omega⟩
/-- What an insertion makes of what is held. -/
theorem ins_mem {err : Int} {hs hs' : List Hl} {y : En} {T : En → Prop} (h : (okE y = false ∧ err = 1 ∧ esOf hs' = esOf hs) ∨ (okE y = true ∧ y ∈ esOf hs ∧ err = 160 ∧ esOf hs' = esOf hs) ∨ (okE y = true ∧ y ∉ esOf hs ∧ err = 0 ∧ esOf hs' = wiE y (esOf hs)))
    (hT : ∀ e, e ∈ esOf hs ↔ okE e = true ∧ T e) : (∀ e, e ∈ esOf hs' ↔ okE e = true ∧ (T e ∨ e = y)) ∧ hs'.length ≤ hs.length + 1 := by
  rcases h with ⟨h1, _, h2⟩ | ⟨h1, h3, _, h2⟩ | ⟨h1, h3, _, h2⟩
  · refine ⟨fun e => ?_, by have := congrArg List.length h2; rw [esOf_len, esOf_len] at this; omega⟩
    rw [h2, hT]
    refine ⟨fun h => ⟨h.1, .inl h.2⟩, fun h => ⟨h.1, ?_⟩⟩
    rcases h.2 with h4 | rfl
    · exact h4
    · rw [h1] at h; cases h.1
  · refine ⟨fun e => ?_, by have := congrArg List.length h2; rw [esOf_len, esOf_len] at this; omega⟩
    rw [h2, hT]
    refine ⟨fun h => ⟨h.1, .inl h.2⟩, fun h => ⟨h.1, ?_⟩⟩
    rcases h.2 with h4 | rfl
    · exact h4
    · exact ((hT _).1 h3).2
  · refine ⟨fun e => ?_, by have := congrArg List.length h2; rw [esOf_len, (wiE_perm y (esOf hs)).length_eq, List.length_cons, esOf_len] at this; omega⟩
    rw [h2, wiE_mem, hT]
    constructor
    · rintro (rfl | h)
      · exact ⟨h1, .inr rfl⟩
      · exact ⟨h.1, .inl h.2⟩
    · rintro ⟨h, h4 | rfl⟩
      · exact .inr ⟨h, h4⟩
      · exact .inl rfl
theorem ins_want {err : Int} {hs hs' : List Hl} {y : En} (h : (okE y = false ∧ err = 1 ∧ esOf hs' = esOf hs) ∨ (okE y = true ∧ y ∈ esOf hs ∧ err = 160 ∧ esOf hs' = esOf hs) ∨ (okE y = true ∧ y ∉ esOf hs ∧ err = 0 ∧ esOf hs' = wiE y (esOf hs))) :
    (refused K3 y = 1 ∧ err = 1) ∨ (refused K3 y = 0 ∧ err = 160) ∨ (refused K3 y = 0 ∧ err = 0) := by
  unfold refused
  rcases h with ⟨h1, h2, _⟩ | ⟨h1, _, h2, _⟩ | ⟨h1, _, h2, _⟩
  · exact .inl ⟨by rw [h1]; rfl, h2⟩
  · exact .inr (.inl ⟨by rw [if_pos h1, if_pos (okE_kind h1)], h2⟩)
  · exact .inr (.inr ⟨by rw [if_pos h1, if_pos (okE_kind h1)], h2⟩)
theorem turns_eq {n k : Nat} {l a b : List En} (hn : l.length = n) (hk : k < n) (ha : Es a) (hb : Es b) (h1 : ∀ e, e ∈ a ↔ okE e = true ∧ ∃ i, i < n ∧ l[i]? = some e) (h2 : ∀ e, e ∈ b ↔ okE e = true ∧ ∃ i, i < n ∧ l[(n - 1 - i + k) % n]? = some e) : a = b := by
  refine up_ext ha.up hb.up fun e => ?_
  rw [h1, h2]
  constructor
  · rintro ⟨h, i, hi, he⟩
    obtain ⟨j, hj, hji⟩ := turned hk hi
    exact ⟨h, j, hj, by rw [hji]; exact he⟩
  · rintro ⟨h, i, _, he⟩
    exact ⟨h, _, Nat.mod_lt _ (by omega), he⟩
theorem step_mem {f : Nat → Nat} {l : List En} {j : Nat} {y e : En} (hy : l[f j]? = some y) : ((∃ i, i < j ∧ l[f i]? = some e) ∨ e = y) ↔ ∃ i, i < j + 1 ∧ l[f i]? = some e := by
  constructor
  · rintro (⟨i, hi, he⟩ | rfl)
    · exact ⟨i, by omega, he⟩
    · exact ⟨j, by omega, hy⟩
  · rintro ⟨i, hi, he⟩
    by_cases hij : i = j
    · subst hij
      rw [hy] at he
      exact .inr (Option.some.inj he).symm
    · exact .inl ⟨i, by omega, he⟩
set_option maxRecDepth 100000 in
set_option maxHeartbeats 16000000 in
theorem methodTurns (E w : World) (X R I : Fr) (sa : Option Addr) (ca : Nat) (l : List En) (by_ : Int) (hI : EntsAt E I sa l) (hwf : ∀ e ∈ l, e.d.wf) (hll : l.length ≤ 4000000000000) (hG : MaxL E I) (hO : Own E w X) [hp : Pick X I R] :
    Calls Tryd.prog 3 #[.slice sa l.length ca, .int .i64 by_] w fun e w' => e = .returned (.bool true) ∧ Own E w' (I ++ R) := by
  replace hO := hO.perm hp.perm
  clear hp
  obtain ⟨n, hn⟩ : ∃ n, l.length = n := ⟨_, rfl⟩
  rw [hn] at hll ⊢
  have HN := Lib.hid hn
  have HWF := Lib.hid hwf
  clear hn hwf
  by_cases h0 : n = 0 ∨ 200 < n
  · go_enter Tryd.func3, Tryd.ntmps3
    rcases h0 with h0 | h0
    · subst h0
      go_wp2_with fail
      refine (awake9 E _ _ R I hG hO).mono ?_
      rintro e w1 ⟨rfl, hO⟩
      go_wp2_with fail
      go_ret
      exact ⟨rfl, hO⟩
    · have h1 : ((n : Int) == 0) = false := beq_eq_false_iff_ne.2 (by omega)
      have h2 : (200 : Int) < n := by omega
      clear h0
      go_wp2_with fail
      refine (awake9 E _ _ R I hG hO).mono ?_
      rintro e w1 ⟨rfl, hO⟩
      go_wp2_with fail
      go_ret
      exact ⟨rfl, hO⟩
  obtain ⟨h0, h200⟩ := not_or.1 h0
  obtain ⟨k, hk, hx⟩ := tmod_n by_ n (by omega) (by omega)
  have HB := Lib.hid (And.intro h0 (And.intro h200 hk))
  have h1 : ((n : Int) == 0) = false := beq_eq_false_iff_ne.2 (by omega)
  have h2 : ¬ (200 : Int) < n := by omega
  clear h0 h200 hk hll
  go_enter Tryd.func3, Tryd.ntmps3
  rcases hx with ⟨hx0, hx⟩ | ⟨hx0, hx⟩
  all_goals (
    have HX := Lib.hid hx
    clear hx
    go_wp2_with fail
    rw [HX.out]
    refine (newPlain E _ _ hO).mono ?_
    clear hO
    rintro e w1 ⟨p, rfl, hO⟩
    go_wp2_with fail
    refine (newPlain E _ _ hO).mono ?_
    clear hO
    rintro e w2 ⟨q, rfl, hO⟩
    go_wp2_with fail
    clear hx0
    have hO1 := hO
    clear hO
    go_loopw [9] (fun i wr => ∃ (j : Nat) (hs1 hs2 : List Hl) (A1 A2 : Fr), i = .int .i64 (j : Int) ∧ j ≤ n ∧ PlainAt E p hs1 A1 ∧ PlainAt E q hs2 A2 ∧ hs1.length ≤ j ∧ hs2.length ≤ j ∧ (∀ e, e ∈ esOf hs1 ↔ okE e = true ∧ ∃ i, i < j ∧ l[i]? = some e) ∧ (∀ e, e ∈ esOf hs2 ↔ okE e = true ∧ ∃ i, i < j ∧ l[(n - 1 - i + k) % n]? = some e) ∧ Own E wr (A1 ++ (A2 ++ (I ++ R)))) (fun i _ => n - (intOf i).toNat)
    case atStart => exact ⟨0, [], [], _, _, rfl, Nat.zero_le _, PlainAt.new E p, PlainAt.new E q, Nat.le_refl _, Nat.le_refl _, fun e => ⟨fun h => (nomatch h), fun ⟨_, _, h, _⟩ => absurd h (Nat.not_lt_zero _)⟩, fun e => ⟨fun h => (nomatch h), fun ⟨_, _, h, _⟩ => absurd h (Nat.not_lt_zero _)⟩, hO1.as _⟩
    case round =>
      clear hO1
      obtain ⟨j, hs1, hs2, A1, A2, rfl, hj, hA1, hA2, hl1, hl2, hm1, hm2, hO⟩ := hrel
      have HM1 := Lib.hid hm1
      have HM2 := Lib.hid hm2
      have HL := Lib.hid (And.intro hl1 (And.intro hl2 hj))
      obtain ⟨h0', h200', hk'⟩ := HB.out
      clear hm1 hm2
      by_cases hlt : j < n
      · have hj1 : (j : Int) < n := by omega
        have g2 : (0 : Int) ≤ (j : Int) := by omega
        have hjl : j < l.length := by rw [HN.out]; exact hlt
        obtain ⟨m, hm⟩ : ∃ m, (n - 1 - j + k) % n = m := ⟨_, rfl⟩
        have hmn : m < n := by rw [← hm]; exact Nat.mod_lt _ (by omega)
        have hml : m < l.length := by rw [HN.out]; exact hmn
        obtain ⟨ad, a1, c1, rfl, hX1, hXI⟩ := hI.get (hO.as (I ++ (A1 ++ (A2 ++ R)))) hjl
        obtain ⟨ad2, a2, c2, hs, hY1, hYI⟩ := hI.get (hO.as (I ++ (A1 ++ (A2 ++ R)))) hml
        cases hs
        obtain ⟨x, hx⟩ : ∃ x, l[j]'hjl = x := ⟨_, rfl⟩
        obtain ⟨y, hy⟩ : ∃ y, l[m]'hml = y := ⟨_, rfl⟩
        have hxw : x.d.wf := HWF.out x (hx ▸ List.getElem_mem hjl)
        have hyw : y.d.wf := HWF.out y (hy ▸ List.getElem_mem hml)
        rw [hx] at hX1 hXI
        rw [hy] at hY1 hYI
        have HX1 : Hid (∀ (Y : Fr) (w : World), Own E w (I ++ Y) → ∀ i u, ([.int .i64 x.d.k, .int .i64 x.d.n, .string x.d.s, .slice a1 x.d.l.length c1, .int .i64 x.t] : List Value)[i]? = some u → w.cell? ((ad.add (j * 5)).add i) = some u) := Lib.hid hX1
        have HY1 : Hid (∀ (Y : Fr) (w : World), Own E w (I ++ Y) → ∀ i u, ([.int .i64 y.d.k, .int .i64 y.d.n, .string y.d.s, .slice a2 y.d.l.length c2, .int .i64 y.t] : List Value)[i]? = some u → w.cell? ((ad.add (m * 5)).add i) = some u) := Lib.hid hY1
        have HXL := Lib.hid (show l[j]? = some x by rw [List.getElem?_eq_getElem hjl, hx])
        have HYL := Lib.hid (show l[(n - 1 - j + k) % n]? = some y by rw [hm, List.getElem?_eq_getElem hml, hy])
        have HXW := Lib.hid hxw
        have HYW := Lib.hid hyw
        have HLT := Lib.hid hlt
        have hw0 : IntKind.i64.wrap ((j : Int) + 1) = (j : Int) + 1 := wi_1 j (by omega)
        have hw1 : wrap64 ((j : Int) + 1) = (j : Int) + 1 := w64_1 j (by omega)
        obtain ⟨q1, q2⟩ := wrapN ((n : Int) - 1) (by omega) (by omega)
        obtain ⟨q3, q4⟩ := wrapN ((n : Int) - 1 - j) (by omega) (by omega)
        obtain ⟨q5, q6⟩ := wrapN ((n : Int) - 1 - j + k) (by omega) (by omega)
        have q7 : Int.tmod ((n : Int) - 1 - j + k) (n : Int) = (m : Int) := by
          rw [show (n : Int) - 1 - j + k = ((n - 1 - j + k : Nat) : Int) by omega, tmod_nn, hm]
        have g3 : (0 : Int) ≤ (m : Int) := by omega
        have g4 : (m : Int) < n := by omega
        have hb1 : hs1.length ≤ 2000000000000 := by omega
        have hb2 : hs2.length ≤ 2000000000000 := by omega
        clear hX1 hY1 hx hy hm hxw hyw hlt hj hl1 hl2 hjl hml hmn h0' h200' hk'
        go_wp2_with (first | (refine at_load (t := 32) ?_; go_must (refine own_loadC (ad := ad.add (j * 5)) (cs := [.int .i64 x.d.k, .int .i64 x.d.n, .string x.d.s, .slice a1 x.d.l.length c1, .int .i64 x.t]) ?_ (HX1.out _ _ (hO.as (I ++ (A1 ++ (A2 ++ R))))) ?_ ?_ ?_ ?_; (· rfl); (· ((conv => lhs; whnf); try exact rfl)); (· simp; done); (· simp; done); simp only [Act.put, List.setIfInBounds_toArray, List.set_cons_zero, List.set_cons_succ])))
        refine (pInsert E _ _ (A2 ++ R) A1 I p hs1 hb1 hA1 x a1 c1 HXW.out hXI hG (hO.as ((A1 ++ I) ++ (A2 ++ R)))).mono ?_
        clear hO hA1
        rintro e w4 ⟨err, hs1', A1', rfl, hA1, hc1, hO⟩
        replace hO : Own E w4 (A1' ++ (A2 ++ (I ++ R))) := hO.as _
        have HC1 := Lib.hid hc1
        clear hc1
        go_wp2_with (first | (refine at_load (t := 32) ?_; go_must (refine own_loadC (ad := ad.add (m * 5)) (cs := [.int .i64 y.d.k, .int .i64 y.d.n, .string y.d.s, .slice a2 y.d.l.length c2, .int .i64 y.t]) ?_ (HY1.out _ _ (hO.as (I ++ (A1' ++ (A2 ++ R))))) ?_ ?_ ?_ ?_; (· rfl); (· ((conv => lhs; whnf); try exact rfl)); (· simp; done); (· simp; done); simp only [Act.put, List.setIfInBounds_toArray, List.set_cons_zero, List.set_cons_succ])))
        refine (pInsert E _ _ (A1' ++ R) A2 I q hs2 hb2 hA2 y a2 c2 HYW.out hYI hG (hO.as ((A2 ++ I) ++ (A1' ++ R)))).mono ?_
        clear hO hA2
        rintro e w5 ⟨err2, hs2', A2', rfl, hA2, hc2, hO⟩
        replace hO : Own E w5 (A1' ++ (A2' ++ (I ++ R))) := hO.as _
        have HC2 := Lib.hid hc2
        clear hc2
        go_wp2_with fail
        obtain ⟨want, hwant⟩ : ∃ z, refused K3 x = z := ⟨_, rfl⟩
        have HW := Lib.hid hwant
        clear hwant
        (try (go_wp2_with fail))
        refine region_sch (fun w' => Own E w' (I)) (.look 1 (.look 2 (.look 3 (.look 4 (.act 0 (.act 5 (.look 6 .done))))))) (by kernel_rfl) (by kernel_rfl) (fun _ _ d _ _ h => by cases d <;> exact h) ?_ ?_
        · exact hO.drew.as _
        replace hO := hO.drew
        generalize World.drew _ = wdr at hO ⊢
        first | (refine sch_look (o := ?_) (v := ?_) ?_ ?_ ?_ ?_; rotate_left 2; (· ((conv => lhs; whnf); try exact rfl)); (· rfl); (· intro w' hO'; skip; go_simp; (try exact rfl)); simp only [Act.put, List.setIfInBounds_toArray, List.set_cons_zero, List.set_cons_succ]) | (refine sch_pass (o := ?_) ?_ ?_ ?_; rotate_left; (· ((conv => lhs; whnf); try exact rfl)); (· rfl); simp only [Act.put, List.setIfInBounds_toArray, List.set_cons_zero, List.set_cons_succ]) | (refine sch_look (o := ?_) (v := .agg ?_) ?_ ?_ ?_ ?_; rotate_left 2; (· ((conv => lhs; whnf); try exact rfl)); (· rfl); (· intro w' hO'; refine run_opLoadS (b := ?_) (cs := ?_) (e := ?_) (f := ?_) hO' ?_ ?_ ?_ ?_; rotate_left 4; (· exact rfl); (· exact inferInstance); (· simp; done); (· simp; done)); simp only [Act.put, List.setIfInBounds_toArray, List.set_cons_zero, List.set_cons_succ])
        first | (refine sch_look (o := ?_) (v := ?_) ?_ ?_ ?_ ?_; rotate_left 2; (· ((conv => lhs; whnf); try exact rfl)); (· rfl); (· intro w' hO'; skip; go_simp; (try exact rfl)); simp only [Act.put, List.setIfInBounds_toArray, List.set_cons_zero, List.set_cons_succ]) | (refine sch_pass (o := ?_) ?_ ?_ ?_; rotate_left; (· ((conv => lhs; whnf); try exact rfl)); (· rfl); simp only [Act.put, List.setIfInBounds_toArray, List.set_cons_zero, List.set_cons_succ]) | (refine sch_look (o := ?_) (v := .agg ?_) ?_ ?_ ?_ ?_; rotate_left 2; (· ((conv => lhs; whnf); try exact rfl)); (· rfl); (· intro w' hO'; refine run_opLoadS (b := ?_) (cs := ?_) (e := ?_) (f := ?_) hO' ?_ ?_ ?_ ?_; rotate_left 4; (· exact rfl); (· exact inferInstance); (· simp; done); (· simp; done)); simp only [Act.put, List.setIfInBounds_toArray, List.set_cons_zero, List.set_cons_succ])
        first | (refine sch_look (o := ?_) (v := ?_) ?_ ?_ ?_ ?_; rotate_left 2; (· ((conv => lhs; whnf); try exact rfl)); (· rfl); (· intro w' hO'; skip; go_simp; (try exact rfl)); simp only [Act.put, List.setIfInBounds_toArray, List.set_cons_zero, List.set_cons_succ]) | (refine sch_pass (o := ?_) ?_ ?_ ?_; rotate_left; (· ((conv => lhs; whnf); try exact rfl)); (· rfl); simp only [Act.put, List.setIfInBounds_toArray, List.set_cons_zero, List.set_cons_succ]) | (refine sch_look (o := ?_) (v := .agg ?_) ?_ ?_ ?_ ?_; rotate_left 2; (· ((conv => lhs; whnf); try exact rfl)); (· rfl); (· intro w' hO'; refine run_opLoadS (b := ?_) (cs := ?_) (e := ?_) (f := ?_) hO' ?_ ?_ ?_ ?_; rotate_left 4; (· exact rfl); (· exact inferInstance); (· simp; done); (· simp; done)); simp only [Act.put, List.setIfInBounds_toArray, List.set_cons_zero, List.set_cons_succ])
        (refine sch_look (o := ?_) (v := .agg ([.int .i64 x.d.k, .int .i64 x.d.n, .string x.d.s, .slice a1 x.d.l.length c1, .int .i64 x.t] : List Value).toArray) ?_ ?_ ?_ ?_; rotate_left; (· ((conv => lhs; whnf); try exact rfl)); (· rfl); (· intro w' hO'; exact run_opLoadC (ad := ad.add (j * 5)) (cs := [.int .i64 x.d.k, .int .i64 x.d.n, .string x.d.s, .slice a1 x.d.l.length c1, .int .i64 x.t]) (HX1.out _ _ (hO'.as (I ++ []))) rfl (by simp) (by simp)); simp only [Act.put, List.setIfInBounds_toArray, List.set_cons_zero, List.set_cons_succ])
        (refine sch_act (o := ?_) ?_ ?_; rotate_left; (· ((conv => lhs; whnf); try exact rfl)))
        go_wp2_with fail
        refine (all9 E _ _ hO).mono ?_
        clear hO
        rintro e w6 ⟨kb, rfl, hO⟩
        go_wp2_with fail
        refine ⟨hO.as _, ?_⟩
        (refine sch_act (o := ?_) ?_ ?_; rotate_left; (· ((conv => lhs; whnf); try exact rfl)))
        go_wp2_with fail
        refine (refRefused E _ _ (A1' ++ (A2' ++ R)) I (pt kb (.cells #[.int .i64 1, .int .i64 2, .int .i64 3] 3 (0, 0))) _ 3 K3 (sl_three kb (E := E)) x a1 c1 hXI (hO.as ((pt kb (.cells #[.int .i64 1, .int .i64 2, .int .i64 3] 3 (0, 0)) ++ I) ++ (A1' ++ (A2' ++ R))))).mono ?_
        clear hO
        rw [HW.out]
        rintro e w7 ⟨rfl, hO⟩
        go_wp2_with fail
        refine ⟨hO.as _, ?_⟩
        first | (refine sch_look (o := ?_) (v := ?_) ?_ ?_ ?_ ?_; rotate_left 2; (· ((conv => lhs; whnf); try exact rfl)); (· rfl); (· intro w' hO'; skip; go_simp; (try exact rfl)); simp only [Act.put, List.setIfInBounds_toArray, List.set_cons_zero, List.set_cons_succ]) | (refine sch_pass (o := ?_) ?_ ?_ ?_; rotate_left; (· ((conv => lhs; whnf); try exact rfl)); (· rfl); simp only [Act.put, List.setIfInBounds_toArray, List.set_cons_zero, List.set_cons_succ]) | (refine sch_look (o := ?_) (v := .agg ?_) ?_ ?_ ?_ ?_; rotate_left 2; (· ((conv => lhs; whnf); try exact rfl)); (· rfl); (· intro w' hO'; refine run_opLoadS (b := ?_) (cs := ?_) (e := ?_) (f := ?_) hO' ?_ ?_ ?_ ?_; rotate_left 4; (· exact rfl); (· exact inferInstance); (· simp; done); (· simp; done)); simp only [Act.put, List.setIfInBounds_toArray, List.set_cons_zero, List.set_cons_succ])
        refine sch_done ?_
        replace hO : Own E _ (A1' ++ (A2' ++ (I ++ R))) := hO.as _
        have hiw := ins_want HC1.out
        rw [HW.out] at hiw
        have hrel : ∀ wr, Own E wr (A1' ++ (A2' ++ (I ++ R))) → ∃ (hs1 hs2 : List Hl) (A1 A2 : Fr), PlainAt E p hs1 A1 ∧ PlainAt E q hs2 A2 ∧ hs1.length ≤ j + 1 ∧ hs2.length ≤ j + 1 ∧ (∀ e, e ∈ esOf hs1 ↔ okE e = true ∧ ∃ i, i < j + 1 ∧ l[i]? = some e) ∧ (∀ e, e ∈ esOf hs2 ↔ okE e = true ∧ ∃ i, i < j + 1 ∧ l[(n - 1 - i + k) % n]? = some e) ∧ Own E wr (A1 ++ (A2 ++ (I ++ R))) := fun wr h => by
          obtain ⟨i1, i2⟩ := ins_mem HC1.out HM1.out
          obtain ⟨i3, i4⟩ := ins_mem HC2.out HM2.out
          obtain ⟨b1, b2, b3⟩ := HL.out
          refine ⟨hs1', hs2', A1', A2', hA1, hA2, by omega, by omega, fun e => ?_, fun e => ?_, h⟩
          · rw [i1, step_mem (f := fun i => i) HXL.out]
          · rw [i3, step_mem (f := fun i => (n - 1 - i + k) % n) HYL.out]
        have HREL := Lib.hid hrel
        clear hrel hA1 hA2
        rcases hiw with ⟨rfl, rfl⟩ | ⟨rfl, rfl⟩ | ⟨rfl, rfl⟩
        all_goals (
          go_wp2_with fail
          have hlt := HLT.out
          obtain ⟨hs1n, hs2n, A1n, A2n, r1, r2, r3, r4, r5, r6, r7⟩ := HREL.out _ hO
          go_roundw
          case rel => exact ⟨j + 1, hs1n, hs2n, A1n, A2n, by go_num, hlt, r1, r2, r3, r4, r5, r6, r7⟩
          case measure => (clear hw0 hw1; simp [intOf]; omega))
      · obtain rfl : j = n := Nat.le_antisymm hj (Nat.le_of_not_lt hlt)
        have hjj : ¬ (j : Int) < j := by omega
        have hes : esOf hs1 = esOf hs2 := turns_eq HN.out hk' hA1.es hA2.es HM1.out HM2.out
        have hb1 : hs1.length ≤ 2000000000000 := by omega
        have hb2 : hs2.length ≤ 2000000000000 := by omega
        have hb3 : (esOf hs1).length ≤ 4000000000000 := by rw [esOf_len]; omega
        have hok1 : ∀ e ∈ esOf hs1, e.d.ok = true := fun e he => (hA1.es.ok e he).1
        have hok2 : ∀ e ∈ esOf hs2, e.d.ok = true := fun e he => (hA2.es.ok e he).1
        have HES := Lib.hid hes
        have HOK1 := Lib.hid hok1
        have HOK2 := Lib.hid hok2
        clear hj hlt hl1 hl2 hes hok1 hok2 h0' h200' hk'
        go_wp2_with fail
        refine (pEntries E _ _ (A2 ++ (I ++ R)) A1 p hs1 hb1 hA1 hO).mono ?_
        clear hO
        rintro e w4 ⟨so1, co1, os1, SO1, FO1, rfl, ho1, hS1, hF1, hO⟩
        go_wp2_with fail
        refine (pEntries E _ _ ((SO1 ++ FO1) ++ (A1 ++ (I ++ R))) A2 q hs2 hb2 hA2 (hO.as (A2 ++ ((SO1 ++ FO1) ++ (A1 ++ (I ++ R)))))).mono ?_
        clear hO
        rintro e w5 ⟨so2, co2, os2, SO2, FO2, rfl, ho2, hS2, hF2, hO⟩
        have hE1 : EntsAt E ((SO1 ++ FO1) ++ (SO2 ++ FO2)) so1 (esOf hs1) := by
          have := ents_own (by rw [← ho1, List.length_map] at hS1; exact hS1) hF1
          rw [ho1] at this
          exact this.of (.refl _)
        have hE2 : EntsAt E ((SO1 ++ FO1) ++ (SO2 ++ FO2)) so2 (esOf hs2) := by
          have := ents_own (by rw [← ho2, List.length_map] at hS2; exact hS2) hF2
          rw [ho2] at this
          exact this.of List.perm_append_comm
        go_wp2_with fail
        refine (refSameAll E _ _ (A1 ++ (A2 ++ (I ++ R))) ((SO1 ++ FO1) ++ (SO2 ++ FO2)) so1 so2 co1 co2 (esOf hs1) (esOf hs2) hb3 HOK1.out HOK2.out hE1 hE2 (hO.as (((SO1 ++ FO1) ++ (SO2 ++ FO2)) ++ (A1 ++ (A2 ++ (I ++ R)))))).mono ?_
        clear hO
        rw [decide_eq_true HES.out]
        rintro e w6 ⟨rfl, hO⟩
        go_wp2_with fail
        refine (awake9 E _ _ R I hG (hO.as (I ++ R))).mono ?_
        clear hO
        rintro e w7 ⟨rfl, hO⟩
        go_wp2_with fail
        go_ret
        exact ⟨rfl, hO⟩)
end Go.Proofs.YticclennllklpaaDoor

/- Layer 9: what the tied cards share: the builder with the world's shape handed on; MaxLen's cell. -/
namespace Go.Proofs.YticclennllklpaaDoor.glue9
open Go Go.ChangeShapes Go.WideShapes Go.ChangeAt Go.RowKit

theorem own : ownKnob Tryd.prog.godebug = none := by kernel_rfl
theorem laidOut : laidOutB Tryd.prog = true := by kernel_rfl

/-- The builder, the world's shape handed on. -/
theorem handed_sh {H : Type} {enc : TypeId × Value → H} {a : Assume} {C : Checked} {os : Os} {f : FuncId} {fn : Func} {s : ChangeSpec} {conds : List PathCond} {apart fresh handsOn again : Bool} {X : World → Array Value → Prop}
    (own : ownKnob C.prog.godebug = none) (started : os.Started) (noInit : C.prog.inits.idxOf? f = none) (hfn : C.prog.funcs[f]? = some fn)
    (witness : ∃ (w : World) (tape : Tape) (i : Input), w.os = os ∧ (w.forCall tape i).Shaped C.prog ∧ i.vars = [] ∧ Input.okWide C.prog (w.forCall tape i) .any w.heap.size f i ∧
      ((s.pre enc C.prog fn conds apart (w.forCall tape i).memory i.args ∧ X (w.forCall tape i).memory i.args) ∧ sizedMet enc C.prog fn (OpenSpec.ofChange s) apart (w.forCall tape i).memory i.args) ∧ a.holds C.prog (lone (Frame.enter C.prog f i.args .normal) [] (w.forCall tape i)))
    (contract : ∀ (W : World) (base : Nat) (args : Array Value) (ds gs : List (DataW H)) (before : List MemPlace), W.ShapedOpen C.prog →
      (∀ (j : Nat) t v, fn.params[j]? = some t → args[j]? = some v → Value.okWide C.prog W .any base t v) →
      DataW.Whole enc C.prog fn.params.toList s.vars apart W args.toList ds gs before →
      conds.all (PathCond.test C.prog ⟨fn.params.toList, ds, s.plain.varTypes C.prog, gs⟩) = true →
      (DataW.weightsEach C.prog (fn.params.toList ++ s.plain.varTypes C.prog) (ds ++ gs)).all (· ≤ reachBytes) = true →
      Calls C.prog f args W fun e W' => ∃ v, e = .returned v ∧ s.post enc C.prog fn apart fresh handsOn again W args v W') :
    ReturnsInHanded a C os f .any (fun w args => (s.pre enc C.prog fn conds apart w args ∧ X w args) ∧ sizedMet enc C.prog fn (OpenSpec.ofChange s) apart w args) (s.post enc C.prog fn apart fresh handsOn again) := by
  refine returnsInHanded_of_calls own started noInit witness ?_
  intro w tape i _ hsh _ hok hpre _
  obtain ⟨_, _, _, fn', hfn', _, _, _, _, hval⟩ := hok
  have e : fn' = fn := Option.some.inj (hfn'.symm.trans hfn)
  subst e
  obtain ⟨⟨⟨ds, gs, before, hw, hc⟩, _⟩, hz⟩ := hpre
  have hw' := DataW.Whole.of_heap (w' := w.forCall tape i) (by rfl) hw
  refine (contract (w.forCall tape i) w.heap.size i.args ds gs before hsh hval hw' hc (hz.weights hw)).mono fun e W' ⟨v, he, hp⟩ => ?_
  subst he
  exact ChangeSpec.post_blind hp

set_option maxRecDepth 100000 in
theorem maxL_old {W : World} (h : W.ShapedOpen Tryd.prog) : MaxL W (Go.Own.oldFr W) := by
  obtain ⟨cs, hc, hn, hb⟩ := h.1 0 #[.int .i64 0] 3 (Nat.le_of_ble_eq_true (by kernel_rfl)) (by kernel_rfl)
  obtain ⟨ts, h1, h2, h3⟩ := hb (by kernel_rfl)
  have ht : ts = [3] := Option.some.inj (h1.symm.trans (by kernel_rfl))
  subst ht
  have hv : cs.size = 1 := hn
  obtain ⟨u, hu, hk⟩ := h3 0 cs[0] (by simp [hv])
  have hu' : 3 = u := by simpa using hu
  subst hu'
  clear hu
  have hk' : ∃ m, cs[0] = .int .i64 m := by
    unfold Cell.ok at hk
    rw [Tryd.underlying3] at hk
    revert hk
    cases cs[0] <;> simp
    intro h _
    exact h
  obtain ⟨m, hm⟩ := hk'
  refine ⟨m, fun Y w hO => ?_⟩
  have hmem : (0, Obj.cells cs 3) ∈ Go.Own.oldFr W := Go.Own.oldFr_mem hc
  have hg := hO.mem _ (List.mem_append_left _ hmem)
  simp [World.cell?, hg, hv, hm]
theorem laid_met (os : Os) (args : Array Value) : laidMetH Tryd.prog Rows.methodTurnsRow.laid ((World.laidAll Tryd.prog os Rows.methodTurnsRow.laid).forCall (fun _ _ => 0) ⟨#[], args, []⟩).memory := by
  rw [MakeChecks.laidMetH_plain _ _ _ (by kernel_rfl)]
  exact laidMet_laidAll _ (by kernel_rfl) (by kernel_rfl)
theorem shaped (os : Os) (args : Array Value) : ((World.laidAll Tryd.prog os Rows.methodTurnsRow.laid).forCall (fun _ _ => 0) ⟨#[], args, []⟩).Shaped Tryd.prog := World.shaped_of_ZipB (by kernel_rfl) (by kernel_rfl)
end Go.Proofs.YticclennllklpaaDoor.glue9
