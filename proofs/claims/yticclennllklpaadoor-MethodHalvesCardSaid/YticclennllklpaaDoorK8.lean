/- Layer 9: the bounds of a range; the reference's Bound and Range. (printed by wip/gen/genRM.py) -/
import Derived.Test.YticclennllklpaaDoorK7
set_option linter.all false
/- Layer 9: the bounds of a range; the reference's Bound and Range. (printed by wip/gen/genRM.py) -/
namespace Go.Proofs.YticclennllklpaaDoor
open Go Go.RowKit Go.Own Go.Dt

/-- A bound: nil, or where a datum lies. -/
def BdAt (E : World) (I : Fr) (v : Value) (od : Option Dt) : Prop :=
  (v = .pointer none ∧ od = none) ∨ ∃ ad d a c, v = .pointer (some ad) ∧ od = some d ∧ d.wf ∧ ItemsAt E I a d.l ∧ ∀ (Y : Fr) (w : World), Own E w (I ++ Y) → ∀ j u, (datV d a c)[j]? = some u → w.cell? (ad.add j) = some u
theorem BdAt.of {E : World} {I J K : Fr} {v : Value} {od : Option Dt} (h : BdAt E I v od) (hp : J.Perm (I ++ K)) : BdAt E J v od := by
  rcases h with h | ⟨ad, d, a, c, h1, h2, h3, h4, h5⟩
  · exact .inl h
  · refine .inr ⟨ad, d, a, c, h1, h2, h3, h4.of hp, fun Y w hO => h5 (K ++ Y) w ?_⟩
    rw [← List.append_assoc]
    exact hO.perm (List.Perm.append_right Y hp)
def bdR : Option Dt → Int
  | none => 0
  | some d => if d.ok = true then (if d.k = 3 then 10 else 0) else 1
def rgE (f t : Option Dt) : Int := if bdR f = 1 ∨ bdR t = 1 then 1 else if bdR f ≠ 0 ∨ bdR t ≠ 0 then 10 else 0
def inR (f t : Option Dt) (x : En) : Bool := decide (x.d.k ≠ 3) && (match f with | none => true | some d => !decide (x.d.enc < d.enc)) && (match t with | none => true | some d => !decide (d.enc < x.d.enc))
def rgO (f t : Option Dt) (b : Bool) (os : List Oe) : List Oe := if b then (os.filter fun o => inR f t o.e).reverse else os.filter fun o => inR f t o.e
def rgL (f t : Option Dt) (b : Bool) (es : List En) : List En := if b then (es.filter (inR f t)).reverse else es.filter (inR f t)
theorem rgO_es (f t : Option Dt) (b : Bool) (os : List Oe) : esO (rgO f t b os) = rgL f t b (esO os) := by
  unfold rgO rgL esO
  cases b
  · rw [if_neg (by decide), if_neg (by decide), List.filter_map]; rfl
  · rw [if_pos rfl, if_pos rfl, List.map_reverse, List.filter_map]; rfl
theorem rgO_skip {f t : Option Dt} {b : Bool} {l : List Oe} {x : Oe} (h : inR f t x.e = false) : rgO f t b (l ++ [x]) = rgO f t b l := by
  have e : (l ++ [x]).filter (fun o => inR f t o.e) = l.filter fun o => inR f t o.e := by rw [List.filter_append, List.filter_cons]; simp [h]
  unfold rgO
  rw [e]
theorem rgO_fwd {f t : Option Dt} {l : List Oe} {x : Oe} (h : inR f t x.e = true) : rgO f t false (l ++ [x]) = rgO f t false l ++ [x] := by
  unfold rgO
  rw [List.filter_append, List.filter_cons]
  simp [h]
theorem rgO_bwd {f t : Option Dt} {l : List Oe} {x : Oe} (h : inR f t x.e = true) : rgO f t true (l ++ [x]) = x :: rgO f t true l := by
  unfold rgO
  rw [List.filter_append, List.filter_cons]
  simp [h]
theorem rgO_le (f t : Option Dt) (b : Bool) (l : List Oe) : (rgO f t b l).length ≤ l.length := by
  unfold rgO
  split
  · rw [List.length_reverse]; exact List.length_filter_le _ _
  · exact List.length_filter_le _ _
theorem rgO_mem {f t : Option Dt} {b : Bool} {l : List Oe} {x : Oe} (h : x ∈ rgO f t b l) : x ∈ l := by
  unfold rgO at h
  split at h
  · exact (List.mem_filter.1 (List.mem_reverse.1 h)).1
  · exact (List.mem_filter.1 h).1
theorem gt_dec (a b : List UInt8) : decide (b < a) = !(decide (a < b) || decide (a = b)) := by
  rcases cmpB a b with ⟨_, h⟩ | ⟨_, h⟩ | ⟨_, h⟩
  · rw [decide_eq_true h, decide_eq_false (fun h2 => List.lt_asymm h h2)]; rfl
  · subst h
    rw [decide_eq_false (List.lt_irrefl a), decide_eq_true rfl]; rfl
  · have h3 : ¬ a = b := fun e => by subst e; exact List.lt_irrefl a h
    rw [decide_eq_true h, decide_eq_false (fun h2 => List.lt_asymm h h2), decide_eq_false h3]; rfl
theorem add0 (ad : Addr) : ad.add 0 = ad := by
  unfold Addr.add
  split <;> simp_all
theorem bd_ok {d : Dt} (h : bdR (some d) = 0) : d.ok = true ∧ d.k ≠ 3 := by
  have h : (if d.ok = true then (if d.k = 3 then (10 : Int) else 0) else 1) = 0 := h
  split at h
  · rename_i h1
    split at h
    · cases h
    · rename_i h2; exact ⟨h1, h2⟩
  · cases h
theorem rgE_ok {f t : Option Dt} (h : rgE f t = 0) : bdR f = 0 ∧ bdR t = 0 := by
  unfold rgE at h
  split at h
  · cases h
  · split at h
    · cases h
    · rename_i h2
      constructor
      · exact Decidable.byContradiction fun h3 => h2 (.inl h3)
      · exact Decidable.byContradiction fun h3 => h2 (.inr h3)
set_option maxRecDepth 100000 in
set_option maxHeartbeats 16000000 in
theorem refBound (E w : World) (X R I : Fr) (v : Value) (od : Option Dt) (h : BdAt E I v od) (hO : Own E w X) [hp : Pick X I R] :
    Calls Tryd.prog 21 #[v] w fun e w' => e = .returned (.int .i64 (bdR od)) ∧ Own E w' (I ++ R) := by
  replace hO := hO.perm hp.perm
  clear hp
  rcases h with ⟨rfl, rfl⟩ | ⟨ad, d, a, c, rfl, rfl, hw, hI, hc⟩
  · go_enter Tryd.func21, Tryd.ntmps21
    go_wp2_with fail
    go_ret
    exact ⟨rfl, hO⟩
  · have HC := Lib.hid (show ∀ (Y : Fr) (w : World), Own E w (I ++ Y) → ∀ j u, ([.int .i64 d.k, .int .i64 d.n, .string d.s, .slice a d.l.length c] : List Value)[j]? = some u → w.cell? (ad.add j) = some u from hc)
    clear hc
    have c0 : ∀ w', Own E w' (I ++ R) → w'.cell? ad = some (.int .i64 d.k) := fun w' h => by
      have := HC.out _ _ h 0 _ rfl
      rwa [add0] at this
    have C0 := Lib.hid c0
    clear c0
    obtain ⟨z, hz⟩ : ∃ z, bdR (some d) = z := ⟨_, rfl⟩
    rw [hz]
    unfold bdR at hz
    have HZ := Lib.hid hz
    clear hz
    go_enter Tryd.func21, Tryd.ntmps21
    go_wp2_with (first | (refine at_load (t := 30) ?_; go_must (refine own_loadC (ad := ad) (cs := [.int .i64 d.k, .int .i64 d.n, .string d.s, .slice a d.l.length c]) ?_ (HC.out _ _ hO) ?_ ?_ ?_ ?_; (· rfl); (· ((conv => lhs; whnf); try exact rfl)); (· simp; done); (· simp; done); simp only [Act.put, List.setIfInBounds_toArray, List.set_cons_zero, List.set_cons_succ])))
    refine (refMay E _ _ R I d a c hI hO).mono ?_
    clear hO
    rintro e w1 ⟨rfl, hO⟩
    have hz := HZ.out
    have c0 := C0.out _ hO
    cases hok : d.ok
    · rw [hok, if_neg (by decide)] at hz
      subst hz
      go_wp2_with fail
      go_ret
      exact ⟨rfl, hO⟩
    · rw [hok, if_pos rfl] at hz
      by_cases k3 : d.k = 3
      · rw [if_pos k3] at hz
        rw [k3] at c0
        subst hz
        clear k3
        go_wp2_with fail
        go_ret
        exact ⟨rfl, hO⟩
      · rw [if_neg k3] at hz
        subst hz
        have hb : (d.k == 3) = false := beq_eq_false_iff_ne.2 k3
        clear k3
        go_wp2_with fail
        go_ret
        exact ⟨rfl, hO⟩
set_option maxRecDepth 100000 in
set_option maxHeartbeats 16000000 in
theorem rng000 (E w : World) (X R S F : Fr) (so : Option Addr) (co : Nat) (os : List Oe) (hl : os.length ≤ 2000000000000) (hok : ∀ o ∈ os, o.e.d.ok = true) (hwf : ∀ o ∈ os, o.e.d.wf) (hL : LAt E F so co os S) (hz1 : rgE none none = 0) (hb1 : bdR none = 0) (hb2 : bdR none = 0) (hF1 : BdAt E F (.pointer none) none) (hF2 : BdAt E F (.pointer none) none) (hO : Own E w X) [hp : Pick X (S ++ F) R] :
    Calls Tryd.prog 20 #[.slice so os.length co, (.pointer none), (.pointer none), .bool false] w fun e w' => ∃ (so2 : Option Addr) (co2 : Nat) (S2 : Fr), e = .returned (.tuple #[.slice so2 (rgO none none false os).length co2, .int .i64 0]) ∧ LAt E F so2 co2 (rgO none none false os) S2 ∧ Own E w' (S2 ++ (S ++ (F ++ R))) := by
  replace hO : Own E w (S ++ (F ++ R)) := by have := hO.perm hp.perm; rwa [List.append_assoc] at this
  clear hp hz1
  generalize hpost : (fun (e : Ending) (w' : World) => ∃ (so2 : Option Addr) (co2 : Nat) (S2 : Fr), e = .returned (.tuple #[.slice so2 (rgO none none false os).length co2, .int .i64 0]) ∧ LAt E F so2 co2 (rgO none none false os) S2 ∧ Own E w' (S2 ++ (S ++ (F ++ R)))) = POST
  have HPOST := Lib.hid hpost
  clear hpost
  have HLN := Lib.hid hl
  have HOK := Lib.hid hok
  have HWF := Lib.hid hwf
  clear hok hwf hl
  go_enter Tryd.func20, Tryd.ntmps20
  go_wp2_with fail
  refine (refBound E _ _ (S ++ R) F (.pointer none) none hF1 (hO.as (F ++ (S ++ R)))).mono ?_
  rw [hb1]
  clear hO
  rintro e w1 ⟨rfl, hO⟩
  go_wp2_with fail
  refine (refBound E _ _ (S ++ R) F (.pointer none) none hF2 hO).mono ?_
  rw [hb2]
  clear hO hF1 hF2 hb1 hb2
  rintro e w2 ⟨rfl, hO⟩
  replace hO : Own E w2 (S ++ (F ++ R)) := hO.as _
  go_wp2_with fail
  have hO1 := hO
  clear hO
  go_loopw [12, 13] (fun o i wr => ∃ (j : Nat) (so2 : Option Addr) (co2 : Nat) (SO : Fr), i = .int .i64 (j : Int) ∧ j ≤ os.length ∧ o = .slice so2 (rgO none none false (os.take j)).length co2 ∧ Sl 32 5 so2 (rgO none none false (os.take j)).length co2 ((rgO none none false (os.take j)).flatMap Oe.v) SO ∧ Own E wr (SO ++ (S ++ (F ++ R)))) (fun _ i _ => os.length - (intOf i).toNat)
  case atStart => exact ⟨0, none, 0, [], rfl, Nat.zero_le _, rfl, Sl.nil _ _, hO1⟩
  case round =>
    clear hO1
    obtain ⟨j, so2, co2, SO, rfl, hj, rfl, hSO, hO⟩ := hrel
    have hl := HLN.out
    by_cases hlt : j < os.length
    · have hj1 : (j : Int) < os.length := by omega
      have g2 : (0 : Int) ≤ (j : Int) := by omega
      have hw0 : IntKind.i64.wrap ((j : Int) + 1) = (j : Int) + 1 := wi_1 j (by omega)
      have hw1 : wrap64 ((j : Int) + 1) = (j : Int) + 1 := w64_1 j (by omega)
      obtain ⟨sb, rfl⟩ := sl_some9 hL.row (by omega)
      obtain ⟨x, hx⟩ : ∃ x, os[j]'hlt = x := ⟨_, rfl⟩
      have hmem : x ∈ os := hx ▸ List.getElem_mem hlt
      have HSC := Lib.hid (show ∀ (Y : Fr) (w : World), Own E w (S ++ Y) → ∀ i v, ([.int .i64 x.e.d.k, .int .i64 x.e.d.n, .string x.e.d.s, .slice x.a x.e.d.l.length x.c, .int .i64 x.e.t] : List Value)[i]? = some v → w.cell? ((⟨sb, j * 5, none⟩ : Addr).add i) = some v from fun Y w h => hL.cells hlt hx h)
      have HXO := Lib.hid (HOK.out x hmem)
      have HXW := Lib.hid (HWF.out x hmem)
      have HXI := Lib.hid (hL.its x hmem)
      have HT := Lib.hid (show os.take (j + 1) = os.take j ++ [x] by rw [List.take_succ_eq_append_getElem hlt, hx])
      have HLT := Lib.hid hlt
      have hwl := rgO_le none none false (os.take j)
      have hwl2 : (os.take j).length ≤ j := by rw [List.length_take]; omega
      generalize hpl : rgO none none false (os.take j) = pl at hSO hwl ⊢
      have HPL := Lib.hid hpl
      have hj64 : pl.length * 64 ≤ 128000000000000 := by omega
      clear hwl hwl2 hpl hx hmem hlt hj hl
      go_wp2_with (first | (refine at_load (t := 30) ?_; go_must (refine own_loadC (ad := ⟨sb, j * 5, none⟩) (cs := [.int .i64 x.e.d.k, .int .i64 x.e.d.n, .string x.e.d.s, .slice x.a x.e.d.l.length x.c]) ?_ (fun i v hi => HSC.out _ _ (hO.as (S ++ [])) i v (pre4 hi)) ?_ ?_ ?_ ?_; (· rfl); (· ((conv => lhs; whnf); try exact rfl)); (· simp; done); (· simp; done); simp only [Act.put, List.setIfInBounds_toArray, List.set_cons_zero, List.set_cons_succ])))
      refine (refEncoded E _ _ (SO ++ (S ++ R)) F x.e.d x.a x.c HXO.out HXW.out HXI.out (hO.as (F ++ (SO ++ (S ++ R))))).mono ?_
      clear hO
      rintro e w4 ⟨rfl, hO⟩
      replace hO : Own E w4 (SO ++ (S ++ (F ++ R))) := hO.as _
      have c0 : w4.cell? ⟨sb, j * 5, none⟩ = some (.int .i64 x.e.d.k) := by have := HSC.out _ _ (hO.as (S ++ [])) 0 _ rfl; rwa [add_lit, Nat.add_zero] at this
      by_cases k3 : x.e.d.k = 3
      · have hin : inR none none x.e = false := by unfold inR; rw [decide_eq_false (fun h => h k3)]; rfl
        rw [k3] at c0
        have HIN := Lib.hid hin
        clear hin
        go_wp2_with (first | (refine at_load (t := 32) ?_; go_must (refine own_loadC (ad := ⟨sb, j * 5, none⟩) (cs := [.int .i64 x.e.d.k, .int .i64 x.e.d.n, .string x.e.d.s, .slice x.a x.e.d.l.length x.c, .int .i64 x.e.t]) ?_ (HSC.out _ _ (hO.as (S ++ []))) ?_ ?_ ?_ ?_; (· rfl); (· ((conv => lhs; whnf); try exact rfl)); (· simp; done); (· simp; done); simp only [Act.put, List.setIfInBounds_toArray, List.set_cons_zero, List.set_cons_succ])) | (refine at_bs ?_; go_must (refine own_build1 (v := ?_) sltE hO ?_ ?_ ?_ ?_ ?_ ?_; rotate_left; (· rfl); (· ((conv => lhs; whnf); try exact rfl)); (· rfl); (· decide); (· decide); clear hO; (try clear hF); intro bs _ hO; (try simp only [Value.cells] at hO); ((try simp only [List.nil_append, List.append_nil] at hO); have hF := Own.cells hO; simp only [cellsOf_append, cellsOf_pt] at hF); simp only [Act.put, List.setIfInBounds_toArray, List.set_cons_zero, List.set_cons_succ])) | (refine at_append ?_; go_must (refine own_append_elem (b1 := ?_) (cs := ?_) (e1 := ?_) (f1 := ?_) sltE hO ?_ ?_ ?_ hSO ?_ ?_ ?_ ?_ ?_ ?_ ?_; rotate_left 4; (· rfl); (· rfl); (· rfl); (· exact inferInstance); (· rfl); (· intro u hu; simp at hu; rcases hu with rfl | rfl | rfl | rfl | rfl <;> rfl); (· first | omega | (simp only [maxLen]; omega)); (· decide); (· first | omega | (simp only [maxLen]; omega)); clear hO; (try clear hF); intro so3 co3 SO3 w6 hSO3 hO; ((try simp only [List.nil_append, List.append_nil] at hO); have hF := Own.cells hO; simp only [cellsOf_append, cellsOf_pt] at hF); simp only [Act.put, List.setIfInBounds_toArray, List.set_cons_zero, List.set_cons_succ])))
        have hlt := HLT.out
        go_roundw
        case rel => exact ⟨j + 1, so2, co2, SO, by go_num, hlt, by rw [HT.out, rgO_skip HIN.out, HPL.out], by rw [HT.out, rgO_skip HIN.out, HPL.out]; exact hSO, hO⟩
        case measure => (clear hw0 hw1; simp [intOf]; omega)
      · have hk3 : (x.e.d.k == 3) = false := beq_eq_false_iff_ne.2 k3
        · have hin : inR none none x.e = true := by unfold inR; rw [decide_eq_true k3]; rfl
          have HIN := Lib.hid hin
          clear hin k3
          go_wp2_with (first | (refine at_load (t := 32) ?_; go_must (refine own_loadC (ad := ⟨sb, j * 5, none⟩) (cs := [.int .i64 x.e.d.k, .int .i64 x.e.d.n, .string x.e.d.s, .slice x.a x.e.d.l.length x.c, .int .i64 x.e.t]) ?_ (HSC.out _ _ (hO.as (S ++ []))) ?_ ?_ ?_ ?_; (· rfl); (· ((conv => lhs; whnf); try exact rfl)); (· simp; done); (· simp; done); simp only [Act.put, List.setIfInBounds_toArray, List.set_cons_zero, List.set_cons_succ])) | (refine at_bs ?_; go_must (refine own_build1 (v := ?_) sltE hO ?_ ?_ ?_ ?_ ?_ ?_; rotate_left; (· rfl); (· ((conv => lhs; whnf); try exact rfl)); (· rfl); (· decide); (· decide); clear hO; (try clear hF); intro bs _ hO; (try simp only [Value.cells] at hO); ((try simp only [List.nil_append, List.append_nil] at hO); have hF := Own.cells hO; simp only [cellsOf_append, cellsOf_pt] at hF); simp only [Act.put, List.setIfInBounds_toArray, List.set_cons_zero, List.set_cons_succ])) | (refine at_append ?_; go_must (refine own_append_elem (b1 := ?_) (cs := ?_) (e1 := ?_) (f1 := ?_) sltE hO ?_ ?_ ?_ hSO ?_ ?_ ?_ ?_ ?_ ?_ ?_; rotate_left 4; (· rfl); (· rfl); (· rfl); (· exact inferInstance); (· rfl); (· intro u hu; simp at hu; rcases hu with rfl | rfl | rfl | rfl | rfl <;> rfl); (· first | omega | (simp only [maxLen]; omega)); (· decide); (· first | omega | (simp only [maxLen]; omega)); clear hO; (try clear hF); intro so3 co3 SO3 w6 hSO3 hO; ((try simp only [List.nil_append, List.append_nil] at hO); have hF := Own.cells hO; simp only [cellsOf_append, cellsOf_pt] at hF); simp only [Act.put, List.setIfInBounds_toArray, List.set_cons_zero, List.set_cons_succ])))
          have hlt := HLT.out
          go_roundw
          case rel =>
            refine ⟨j + 1, so3, co3, SO3, by go_num, hlt, ?p1, ?p2, hO.as _⟩
            case p1 => rw [HT.out, rgO_fwd HIN.out, HPL.out, List.length_append]; rfl
            case p2 => rw [HT.out, rgO_fwd HIN.out, HPL.out, List.length_append, List.flatMap_append]; exact hSO3
          case measure => (clear hw0 hw1; simp [intOf]; omega)
    · obtain rfl : j = os.length := Nat.le_antisymm hj (Nat.le_of_not_lt hlt)
      have hjj : ¬ (os.length : Int) < os.length := by omega
      clear hj hlt hl
      rw [List.take_length] at hSO ⊢
      go_wp2_with fail
      rw [← HPOST.out]
      exact ⟨so2, co2, SO, rfl, ⟨hSO, fun o ho => hL.its o (rgO_mem ho)⟩, hO⟩
set_option maxRecDepth 100000 in
set_option maxHeartbeats 16000000 in
theorem rng001 (E w : World) (X R S F : Fr) (so : Option Addr) (co : Nat) (os : List Oe) (hl : os.length ≤ 2000000000000) (hok : ∀ o ∈ os, o.e.d.ok = true) (hwf : ∀ o ∈ os, o.e.d.wf) (hL : LAt E F so co os S) (hz1 : rgE none none = 0) (hb1 : bdR none = 0) (hb2 : bdR none = 0) (hF1 : BdAt E F (.pointer none) none) (hF2 : BdAt E F (.pointer none) none) (hO : Own E w X) [hp : Pick X (S ++ F) R] :
    Calls Tryd.prog 20 #[.slice so os.length co, (.pointer none), (.pointer none), .bool true] w fun e w' => ∃ (so2 : Option Addr) (co2 : Nat) (S2 : Fr), e = .returned (.tuple #[.slice so2 (rgO none none true os).length co2, .int .i64 0]) ∧ LAt E F so2 co2 (rgO none none true os) S2 ∧ Own E w' (S2 ++ (S ++ (F ++ R))) := by
  replace hO : Own E w (S ++ (F ++ R)) := by have := hO.perm hp.perm; rwa [List.append_assoc] at this
  clear hp hz1
  generalize hpost : (fun (e : Ending) (w' : World) => ∃ (so2 : Option Addr) (co2 : Nat) (S2 : Fr), e = .returned (.tuple #[.slice so2 (rgO none none true os).length co2, .int .i64 0]) ∧ LAt E F so2 co2 (rgO none none true os) S2 ∧ Own E w' (S2 ++ (S ++ (F ++ R)))) = POST
  have HPOST := Lib.hid hpost
  clear hpost
  have HLN := Lib.hid hl
  have HOK := Lib.hid hok
  have HWF := Lib.hid hwf
  clear hok hwf hl
  go_enter Tryd.func20, Tryd.ntmps20
  go_wp2_with fail
  refine (refBound E _ _ (S ++ R) F (.pointer none) none hF1 (hO.as (F ++ (S ++ R)))).mono ?_
  rw [hb1]
  clear hO
  rintro e w1 ⟨rfl, hO⟩
  go_wp2_with fail
  refine (refBound E _ _ (S ++ R) F (.pointer none) none hF2 hO).mono ?_
  rw [hb2]
  clear hO hF1 hF2 hb1 hb2
  rintro e w2 ⟨rfl, hO⟩
  replace hO : Own E w2 (S ++ (F ++ R)) := hO.as _
  go_wp2_with fail
  have hO1 := hO
  clear hO
  go_loopw [12, 13] (fun o i wr => ∃ (j : Nat) (so2 : Option Addr) (co2 : Nat) (SO : Fr), i = .int .i64 (j : Int) ∧ j ≤ os.length ∧ o = .slice so2 (rgO none none true (os.take j)).length co2 ∧ Sl 32 5 so2 (rgO none none true (os.take j)).length co2 ((rgO none none true (os.take j)).flatMap Oe.v) SO ∧ Own E wr (SO ++ (S ++ (F ++ R)))) (fun _ i _ => os.length - (intOf i).toNat)
  case atStart => exact ⟨0, none, 0, [], rfl, Nat.zero_le _, rfl, Sl.nil _ _, hO1⟩
  case round =>
    clear hO1
    obtain ⟨j, so2, co2, SO, rfl, hj, rfl, hSO, hO⟩ := hrel
    have hl := HLN.out
    by_cases hlt : j < os.length
    · have hj1 : (j : Int) < os.length := by omega
      have g2 : (0 : Int) ≤ (j : Int) := by omega
      have hw0 : IntKind.i64.wrap ((j : Int) + 1) = (j : Int) + 1 := wi_1 j (by omega)
      have hw1 : wrap64 ((j : Int) + 1) = (j : Int) + 1 := w64_1 j (by omega)
      obtain ⟨sb, rfl⟩ := sl_some9 hL.row (by omega)
      obtain ⟨x, hx⟩ : ∃ x, os[j]'hlt = x := ⟨_, rfl⟩
      have hmem : x ∈ os := hx ▸ List.getElem_mem hlt
      have HSC := Lib.hid (show ∀ (Y : Fr) (w : World), Own E w (S ++ Y) → ∀ i v, ([.int .i64 x.e.d.k, .int .i64 x.e.d.n, .string x.e.d.s, .slice x.a x.e.d.l.length x.c, .int .i64 x.e.t] : List Value)[i]? = some v → w.cell? ((⟨sb, j * 5, none⟩ : Addr).add i) = some v from fun Y w h => hL.cells hlt hx h)
      have HXO := Lib.hid (HOK.out x hmem)
      have HXW := Lib.hid (HWF.out x hmem)
      have HXI := Lib.hid (hL.its x hmem)
      have HT := Lib.hid (show os.take (j + 1) = os.take j ++ [x] by rw [List.take_succ_eq_append_getElem hlt, hx])
      have HLT := Lib.hid hlt
      have hwl := rgO_le none none true (os.take j)
      have hwl2 : (os.take j).length ≤ j := by rw [List.length_take]; omega
      generalize hpl : rgO none none true (os.take j) = pl at hSO hwl ⊢
      have HPL := Lib.hid hpl
      have hj64 : pl.length * 64 ≤ 128000000000000 := by omega
      clear hwl hwl2 hpl hx hmem hlt hj hl
      go_wp2_with (first | (refine at_load (t := 30) ?_; go_must (refine own_loadC (ad := ⟨sb, j * 5, none⟩) (cs := [.int .i64 x.e.d.k, .int .i64 x.e.d.n, .string x.e.d.s, .slice x.a x.e.d.l.length x.c]) ?_ (fun i v hi => HSC.out _ _ (hO.as (S ++ [])) i v (pre4 hi)) ?_ ?_ ?_ ?_; (· rfl); (· ((conv => lhs; whnf); try exact rfl)); (· simp; done); (· simp; done); simp only [Act.put, List.setIfInBounds_toArray, List.set_cons_zero, List.set_cons_succ])))
      refine (refEncoded E _ _ (SO ++ (S ++ R)) F x.e.d x.a x.c HXO.out HXW.out HXI.out (hO.as (F ++ (SO ++ (S ++ R))))).mono ?_
      clear hO
      rintro e w4 ⟨rfl, hO⟩
      replace hO : Own E w4 (SO ++ (S ++ (F ++ R))) := hO.as _
      have c0 : w4.cell? ⟨sb, j * 5, none⟩ = some (.int .i64 x.e.d.k) := by have := HSC.out _ _ (hO.as (S ++ [])) 0 _ rfl; rwa [add_lit, Nat.add_zero] at this
      by_cases k3 : x.e.d.k = 3
      · have hin : inR none none x.e = false := by unfold inR; rw [decide_eq_false (fun h => h k3)]; rfl
        rw [k3] at c0
        have HIN := Lib.hid hin
        clear hin
        go_wp2_with (first | (refine at_load (t := 32) ?_; go_must (refine own_loadC (ad := ⟨sb, j * 5, none⟩) (cs := [.int .i64 x.e.d.k, .int .i64 x.e.d.n, .string x.e.d.s, .slice x.a x.e.d.l.length x.c, .int .i64 x.e.t]) ?_ (HSC.out _ _ (hO.as (S ++ []))) ?_ ?_ ?_ ?_; (· rfl); (· ((conv => lhs; whnf); try exact rfl)); (· simp; done); (· simp; done); simp only [Act.put, List.setIfInBounds_toArray, List.set_cons_zero, List.set_cons_succ])) | (refine at_bs ?_; go_must (refine own_build1 (v := ?_) sltE hO ?_ ?_ ?_ ?_ ?_ ?_; rotate_left; (· rfl); (· ((conv => lhs; whnf); try exact rfl)); (· rfl); (· decide); (· decide); clear hO; (try clear hF); intro bs _ hO; (try simp only [Value.cells] at hO); ((try simp only [List.nil_append, List.append_nil] at hO); have hF := Own.cells hO; simp only [cellsOf_append, cellsOf_pt] at hF); simp only [Act.put, List.setIfInBounds_toArray, List.set_cons_zero, List.set_cons_succ])) | (refine at_append ?_; go_must (refine own_append_elem (b1 := ?_) (cs := ?_) (e1 := ?_) (f1 := ?_) sltE hO ?_ ?_ ?_ hSO ?_ ?_ ?_ ?_ ?_ ?_ ?_; rotate_left 4; (· rfl); (· rfl); (· rfl); (· exact inferInstance); (· rfl); (· intro u hu; simp at hu; rcases hu with rfl | rfl | rfl | rfl | rfl <;> rfl); (· first | omega | (simp only [maxLen]; omega)); (· decide); (· first | omega | (simp only [maxLen]; omega)); clear hO; (try clear hF); intro so3 co3 SO3 w6 hSO3 hO; ((try simp only [List.nil_append, List.append_nil] at hO); have hF := Own.cells hO; simp only [cellsOf_append, cellsOf_pt] at hF); simp only [Act.put, List.setIfInBounds_toArray, List.set_cons_zero, List.set_cons_succ])))
        have hlt := HLT.out
        go_roundw
        case rel => exact ⟨j + 1, so2, co2, SO, by go_num, hlt, by rw [HT.out, rgO_skip HIN.out, HPL.out], by rw [HT.out, rgO_skip HIN.out, HPL.out]; exact hSO, hO⟩
        case measure => (clear hw0 hw1; simp [intOf]; omega)
      · have hk3 : (x.e.d.k == 3) = false := beq_eq_false_iff_ne.2 k3
        · have hin : inR none none x.e = true := by unfold inR; rw [decide_eq_true k3]; rfl
          have HIN := Lib.hid hin
          clear hin k3
          go_wp2_with (first | (refine at_load (t := 32) ?_; go_must (refine own_loadC (ad := ⟨sb, j * 5, none⟩) (cs := [.int .i64 x.e.d.k, .int .i64 x.e.d.n, .string x.e.d.s, .slice x.a x.e.d.l.length x.c, .int .i64 x.e.t]) ?_ (HSC.out _ _ (hO.as (S ++ []))) ?_ ?_ ?_ ?_; (· rfl); (· ((conv => lhs; whnf); try exact rfl)); (· simp; done); (· simp; done); simp only [Act.put, List.setIfInBounds_toArray, List.set_cons_zero, List.set_cons_succ])) | (refine at_bs ?_; go_must (refine own_build1 (v := ?_) sltE hO ?_ ?_ ?_ ?_ ?_ ?_; rotate_left; (· rfl); (· ((conv => lhs; whnf); try exact rfl)); (· rfl); (· decide); (· decide); clear hO; (try clear hF); intro bs _ hO; (try simp only [Value.cells] at hO); ((try simp only [List.nil_append, List.append_nil] at hO); have hF := Own.cells hO; simp only [cellsOf_append, cellsOf_pt] at hF); simp only [Act.put, List.setIfInBounds_toArray, List.set_cons_zero, List.set_cons_succ])) | ((have hzz : so3 = so3 := rfl); clear hzz; refine at_append ?_; refine Stop.go ?_) | (refine at_append ?_; go_must (refine own_append_elem (A := []) (xs := []) (sa := none) (n := 0) (cap := 0) (b1 := ?_) (cs := ?_) (e1 := ?_) (f1 := ?_) sltE hO ?_ ?_ ?_ (Sl.nil _ _) ?_ ?_ ?_ ?_ ?_ ?_ ?_; rotate_left 4; (· rfl); (· rfl); (· rfl); (· exact inferInstance); (· rfl); (· intro u hu; simp at hu; rcases hu with rfl | rfl | rfl | rfl | rfl <;> rfl); (· first | omega | (simp only [maxLen]; omega)); (· decide); (· first | omega | (simp only [maxLen]; omega)); clear hO; (try clear hF); intro so3 co3 SO3 w6 hSO3 hO; simp only [Act.put, List.setIfInBounds_toArray, List.set_cons_zero, List.set_cons_succ])))
          refine ⟨?_⟩
          refine own_append (sz := 5) (bytes := 64) (z := .agg #[.int .i64 0, .int .i64 0, .string .empty, .slice none 0 0, .int .i64 0]) (e := 32) (xv := .slice so2 pl.length co2) (m := pl.length) (news := pl.flatMap Oe.v) sltE (.inl (by kernel_rfl)) hO ?_ ?_ ?_ hSO3 ?_ ?_ ?_ ?_ ?_ ?_ ?_
          · rfl
          · rfl
          · rfl
          · intro w; rfl
          · intro w' hO'; exact hSO.firstCells hO'
          · rw [rows_len Oe.v 5 Oe.len]
          · exact oes_one _
          · simp only [maxLen]; omega
          · left; omega
          clear hO
          intro so5 co5 SO5 w7 hSO5 hO
          simp only [Act.put, List.setIfInBounds_toArray, List.set_cons_zero, List.set_cons_succ]
          go_wp2_with fail
          have hlt := HLT.out
          go_roundw
          case rel =>
            refine ⟨j + 1, so5, co5, SO5, by go_num, hlt, ?p1, ?p2, hO.as _⟩
            case p1 => rw [HT.out, rgO_bwd HIN.out, HPL.out, List.length_cons, Nat.add_comm]
            case p2 => rw [HT.out, rgO_bwd HIN.out, HPL.out, List.length_cons, List.flatMap_cons, Nat.add_comm]; exact hSO5
          case measure => (clear hw0 hw1; simp [intOf]; omega)
    · obtain rfl : j = os.length := Nat.le_antisymm hj (Nat.le_of_not_lt hlt)
      have hjj : ¬ (os.length : Int) < os.length := by omega
      clear hj hlt hl
      rw [List.take_length] at hSO ⊢
      go_wp2_with fail
      rw [← HPOST.out]
      exact ⟨so2, co2, SO, rfl, ⟨hSO, fun o ho => hL.its o (rgO_mem ho)⟩, hO⟩
set_option maxRecDepth 100000 in
set_option maxHeartbeats 16000000 in
theorem rng010 (E w : World) (X R S F : Fr) (so : Option Addr) (co : Nat) (os : List Oe) (hl : os.length ≤ 2000000000000) (hok : ∀ o ∈ os, o.e.d.ok = true) (hwf : ∀ o ∈ os, o.e.d.wf) (hL : LAt E F so co os S) (adt : Addr) (dt : Dt) (at_ : Option Addr) (ct : Nat) (hto : dt.ok = true) (htw : dt.wf) (htI : ItemsAt E F at_ dt.l) (htc : ∀ (Y : Fr) (w : World), Own E w (F ++ Y) → ∀ j u, ([.int .i64 dt.k, .int .i64 dt.n, .string dt.s, .slice at_ dt.l.length ct] : List Value)[j]? = some u → w.cell? (adt.add j) = some u) (hz1 : rgE none (some dt) = 0) (hb1 : bdR none = 0) (hb2 : bdR (some dt) = 0) (hF1 : BdAt E F (.pointer none) none) (hF2 : BdAt E F (.pointer (some adt)) (some dt)) (hO : Own E w X) [hp : Pick X (S ++ F) R] :
    Calls Tryd.prog 20 #[.slice so os.length co, (.pointer none), (.pointer (some adt)), .bool false] w fun e w' => ∃ (so2 : Option Addr) (co2 : Nat) (S2 : Fr), e = .returned (.tuple #[.slice so2 (rgO none (some dt) false os).length co2, .int .i64 0]) ∧ LAt E F so2 co2 (rgO none (some dt) false os) S2 ∧ Own E w' (S2 ++ (S ++ (F ++ R))) := by
  replace hO : Own E w (S ++ (F ++ R)) := by have := hO.perm hp.perm; rwa [List.append_assoc] at this
  clear hp hz1
  generalize hpost : (fun (e : Ending) (w' : World) => ∃ (so2 : Option Addr) (co2 : Nat) (S2 : Fr), e = .returned (.tuple #[.slice so2 (rgO none (some dt) false os).length co2, .int .i64 0]) ∧ LAt E F so2 co2 (rgO none (some dt) false os) S2 ∧ Own E w' (S2 ++ (S ++ (F ++ R)))) = POST
  have HPOST := Lib.hid hpost
  clear hpost
  have HLN := Lib.hid hl
  have HOK := Lib.hid hok
  have HWF := Lib.hid hwf
  have HTC := Lib.hid htc
  have HTO := Lib.hid (And.intro hto htw)
  clear htc hto htw
  clear hok hwf hl
  go_enter Tryd.func20, Tryd.ntmps20
  go_wp2_with fail
  refine (refBound E _ _ (S ++ R) F (.pointer none) none hF1 (hO.as (F ++ (S ++ R)))).mono ?_
  rw [hb1]
  clear hO
  rintro e w1 ⟨rfl, hO⟩
  go_wp2_with fail
  refine (refBound E _ _ (S ++ R) F (.pointer (some adt)) (some dt) hF2 hO).mono ?_
  rw [hb2]
  clear hO hF1 hF2 hb1 hb2
  rintro e w2 ⟨rfl, hO⟩
  replace hO : Own E w2 (S ++ (F ++ R)) := hO.as _
  go_wp2_with fail
  have hO1 := hO
  clear hO
  go_loopw [12, 13] (fun o i wr => ∃ (j : Nat) (so2 : Option Addr) (co2 : Nat) (SO : Fr), i = .int .i64 (j : Int) ∧ j ≤ os.length ∧ o = .slice so2 (rgO none (some dt) false (os.take j)).length co2 ∧ Sl 32 5 so2 (rgO none (some dt) false (os.take j)).length co2 ((rgO none (some dt) false (os.take j)).flatMap Oe.v) SO ∧ Own E wr (SO ++ (S ++ (F ++ R)))) (fun _ i _ => os.length - (intOf i).toNat)
  case atStart => exact ⟨0, none, 0, [], rfl, Nat.zero_le _, rfl, Sl.nil _ _, hO1⟩
  case round =>
    clear hO1
    obtain ⟨j, so2, co2, SO, rfl, hj, rfl, hSO, hO⟩ := hrel
    have hl := HLN.out
    by_cases hlt : j < os.length
    · have hj1 : (j : Int) < os.length := by omega
      have g2 : (0 : Int) ≤ (j : Int) := by omega
      have hw0 : IntKind.i64.wrap ((j : Int) + 1) = (j : Int) + 1 := wi_1 j (by omega)
      have hw1 : wrap64 ((j : Int) + 1) = (j : Int) + 1 := w64_1 j (by omega)
      obtain ⟨sb, rfl⟩ := sl_some9 hL.row (by omega)
      obtain ⟨x, hx⟩ : ∃ x, os[j]'hlt = x := ⟨_, rfl⟩
      have hmem : x ∈ os := hx ▸ List.getElem_mem hlt
      have HSC := Lib.hid (show ∀ (Y : Fr) (w : World), Own E w (S ++ Y) → ∀ i v, ([.int .i64 x.e.d.k, .int .i64 x.e.d.n, .string x.e.d.s, .slice x.a x.e.d.l.length x.c, .int .i64 x.e.t] : List Value)[i]? = some v → w.cell? ((⟨sb, j * 5, none⟩ : Addr).add i) = some v from fun Y w h => hL.cells hlt hx h)
      have HXO := Lib.hid (HOK.out x hmem)
      have HXW := Lib.hid (HWF.out x hmem)
      have HXI := Lib.hid (hL.its x hmem)
      have HT := Lib.hid (show os.take (j + 1) = os.take j ++ [x] by rw [List.take_succ_eq_append_getElem hlt, hx])
      have HLT := Lib.hid hlt
      have hwl := rgO_le none (some dt) false (os.take j)
      have hwl2 : (os.take j).length ≤ j := by rw [List.length_take]; omega
      generalize hpl : rgO none (some dt) false (os.take j) = pl at hSO hwl ⊢
      have HPL := Lib.hid hpl
      have hj64 : pl.length * 64 ≤ 128000000000000 := by omega
      clear hwl hwl2 hpl hx hmem hlt hj hl
      go_wp2_with (first | (refine at_load (t := 30) ?_; go_must (refine own_loadC (ad := ⟨sb, j * 5, none⟩) (cs := [.int .i64 x.e.d.k, .int .i64 x.e.d.n, .string x.e.d.s, .slice x.a x.e.d.l.length x.c]) ?_ (fun i v hi => HSC.out _ _ (hO.as (S ++ [])) i v (pre4 hi)) ?_ ?_ ?_ ?_; (· rfl); (· ((conv => lhs; whnf); try exact rfl)); (· simp; done); (· simp; done); simp only [Act.put, List.setIfInBounds_toArray, List.set_cons_zero, List.set_cons_succ])))
      refine (refEncoded E _ _ (SO ++ (S ++ R)) F x.e.d x.a x.c HXO.out HXW.out HXI.out (hO.as (F ++ (SO ++ (S ++ R))))).mono ?_
      clear hO
      rintro e w4 ⟨rfl, hO⟩
      replace hO : Own E w4 (SO ++ (S ++ (F ++ R))) := hO.as _
      have c0 : w4.cell? ⟨sb, j * 5, none⟩ = some (.int .i64 x.e.d.k) := by have := HSC.out _ _ (hO.as (S ++ [])) 0 _ rfl; rwa [add_lit, Nat.add_zero] at this
      have hlt1 : Op.bytesLess (encB x.e.d).toList (encB dt).toList = decide (x.e.d.enc < dt.enc) := by rw [bytes_lt, Lib.toList_data, Lib.toList_data]; rfl
      have hlt2 := encB_beq x.e.d dt
      have hgt := gt_dec x.e.d.enc dt.enc
      by_cases k3 : x.e.d.k = 3
      · have hin : inR none (some dt) x.e = false := by unfold inR; rw [decide_eq_false (fun h => h k3)]; rfl
        rw [k3] at c0
        have HIN := Lib.hid hin
        clear hin
        go_wp2_with (first | (refine at_load (t := 30) ?_; go_must (refine own_loadC (ad := adt) (cs := [.int .i64 dt.k, .int .i64 dt.n, .string dt.s, .slice at_ dt.l.length ct]) ?_ (HTC.out _ _ (hO.as (F ++ (SO ++ (S ++ R))))) ?_ ?_ ?_ ?_; (· rfl); (· ((conv => lhs; whnf); try exact rfl)); (· simp; done); (· simp; done); simp only [Act.put, List.setIfInBounds_toArray, List.set_cons_zero, List.set_cons_succ])) | (go_at_call 37; go_must (refine (refEncoded E _ _ (SO ++ (S ++ R)) F dt at_ ct HTO.out.1 HTO.out.2 htI (hO.as (F ++ (SO ++ (S ++ R))))).mono ?_; clear hO; rintro e w5 ⟨rfl, hO⟩; replace hO : Own E w5 (SO ++ (S ++ (F ++ R))) := hO.as _)) | (refine at_load (t := 32) ?_; go_must (refine own_loadC (ad := ⟨sb, j * 5, none⟩) (cs := [.int .i64 x.e.d.k, .int .i64 x.e.d.n, .string x.e.d.s, .slice x.a x.e.d.l.length x.c, .int .i64 x.e.t]) ?_ (HSC.out _ _ (hO.as (S ++ []))) ?_ ?_ ?_ ?_; (· rfl); (· ((conv => lhs; whnf); try exact rfl)); (· simp; done); (· simp; done); simp only [Act.put, List.setIfInBounds_toArray, List.set_cons_zero, List.set_cons_succ])) | (refine at_bs ?_; go_must (refine own_build1 (v := ?_) sltE hO ?_ ?_ ?_ ?_ ?_ ?_; rotate_left; (· rfl); (· ((conv => lhs; whnf); try exact rfl)); (· rfl); (· decide); (· decide); clear hO; (try clear hF); intro bs _ hO; (try simp only [Value.cells] at hO); ((try simp only [List.nil_append, List.append_nil] at hO); have hF := Own.cells hO; simp only [cellsOf_append, cellsOf_pt] at hF); simp only [Act.put, List.setIfInBounds_toArray, List.set_cons_zero, List.set_cons_succ])) | (refine at_append ?_; go_must (refine own_append_elem (b1 := ?_) (cs := ?_) (e1 := ?_) (f1 := ?_) sltE hO ?_ ?_ ?_ hSO ?_ ?_ ?_ ?_ ?_ ?_ ?_; rotate_left 4; (· rfl); (· rfl); (· rfl); (· exact inferInstance); (· rfl); (· intro u hu; simp at hu; rcases hu with rfl | rfl | rfl | rfl | rfl <;> rfl); (· first | omega | (simp only [maxLen]; omega)); (· decide); (· first | omega | (simp only [maxLen]; omega)); clear hO; (try clear hF); intro so3 co3 SO3 w6 hSO3 hO; ((try simp only [List.nil_append, List.append_nil] at hO); have hF := Own.cells hO; simp only [cellsOf_append, cellsOf_pt] at hF); simp only [Act.put, List.setIfInBounds_toArray, List.set_cons_zero, List.set_cons_succ])))
        have hlt := HLT.out
        go_roundw
        case rel => exact ⟨j + 1, so2, co2, SO, by go_num, hlt, by rw [HT.out, rgO_skip HIN.out, HPL.out], by rw [HT.out, rgO_skip HIN.out, HPL.out]; exact hSO, hO⟩
        case measure => (clear hw0 hw1; simp [intOf]; omega)
      · have hk3 : (x.e.d.k == 3) = false := beq_eq_false_iff_ne.2 k3
        · skip
          cases hp1 : decide (x.e.d.enc < dt.enc)
          · rw [hp1] at hlt1 hgt
            cases hp2 : decide (x.e.d.enc = dt.enc)
            · rw [hp2] at hlt2 hgt
              · have hin : inR none (some dt) x.e = false := by unfold inR; simp only [hgt]; simp
                have HIN := Lib.hid hin
                clear hin hp1 hp2 hgt k3
                go_wp2_with (first | (refine at_load (t := 30) ?_; go_must (refine own_loadC (ad := adt) (cs := [.int .i64 dt.k, .int .i64 dt.n, .string dt.s, .slice at_ dt.l.length ct]) ?_ (HTC.out _ _ (hO.as (F ++ (SO ++ (S ++ R))))) ?_ ?_ ?_ ?_; (· rfl); (· ((conv => lhs; whnf); try exact rfl)); (· simp; done); (· simp; done); simp only [Act.put, List.setIfInBounds_toArray, List.set_cons_zero, List.set_cons_succ])) | (go_at_call 37; go_must (refine (refEncoded E _ _ (SO ++ (S ++ R)) F dt at_ ct HTO.out.1 HTO.out.2 htI (hO.as (F ++ (SO ++ (S ++ R))))).mono ?_; clear hO; rintro e w5 ⟨rfl, hO⟩; replace hO : Own E w5 (SO ++ (S ++ (F ++ R))) := hO.as _)) | (refine at_load (t := 32) ?_; go_must (refine own_loadC (ad := ⟨sb, j * 5, none⟩) (cs := [.int .i64 x.e.d.k, .int .i64 x.e.d.n, .string x.e.d.s, .slice x.a x.e.d.l.length x.c, .int .i64 x.e.t]) ?_ (HSC.out _ _ (hO.as (S ++ []))) ?_ ?_ ?_ ?_; (· rfl); (· ((conv => lhs; whnf); try exact rfl)); (· simp; done); (· simp; done); simp only [Act.put, List.setIfInBounds_toArray, List.set_cons_zero, List.set_cons_succ])) | (refine at_bs ?_; go_must (refine own_build1 (v := ?_) sltE hO ?_ ?_ ?_ ?_ ?_ ?_; rotate_left; (· rfl); (· ((conv => lhs; whnf); try exact rfl)); (· rfl); (· decide); (· decide); clear hO; (try clear hF); intro bs _ hO; (try simp only [Value.cells] at hO); ((try simp only [List.nil_append, List.append_nil] at hO); have hF := Own.cells hO; simp only [cellsOf_append, cellsOf_pt] at hF); simp only [Act.put, List.setIfInBounds_toArray, List.set_cons_zero, List.set_cons_succ])) | (refine at_append ?_; go_must (refine own_append_elem (b1 := ?_) (cs := ?_) (e1 := ?_) (f1 := ?_) sltE hO ?_ ?_ ?_ hSO ?_ ?_ ?_ ?_ ?_ ?_ ?_; rotate_left 4; (· rfl); (· rfl); (· rfl); (· exact inferInstance); (· rfl); (· intro u hu; simp at hu; rcases hu with rfl | rfl | rfl | rfl | rfl <;> rfl); (· first | omega | (simp only [maxLen]; omega)); (· decide); (· first | omega | (simp only [maxLen]; omega)); clear hO; (try clear hF); intro so3 co3 SO3 w6 hSO3 hO; ((try simp only [List.nil_append, List.append_nil] at hO); have hF := Own.cells hO; simp only [cellsOf_append, cellsOf_pt] at hF); simp only [Act.put, List.setIfInBounds_toArray, List.set_cons_zero, List.set_cons_succ])))
                have hlt := HLT.out
                go_roundw
                case rel => exact ⟨j + 1, so2, co2, SO, by go_num, hlt, by rw [HT.out, rgO_skip HIN.out, HPL.out], by rw [HT.out, rgO_skip HIN.out, HPL.out]; exact hSO, hO⟩
                case measure => (clear hw0 hw1; simp [intOf]; omega)
            · rw [hp2] at hlt2 hgt
              · have hin : inR none (some dt) x.e = true := by unfold inR; simp only [hgt]; rw [decide_eq_true k3]; rfl
                have HIN := Lib.hid hin
                clear hin hp1 hp2 hgt k3
                go_wp2_with (first | (refine at_load (t := 30) ?_; go_must (refine own_loadC (ad := adt) (cs := [.int .i64 dt.k, .int .i64 dt.n, .string dt.s, .slice at_ dt.l.length ct]) ?_ (HTC.out _ _ (hO.as (F ++ (SO ++ (S ++ R))))) ?_ ?_ ?_ ?_; (· rfl); (· ((conv => lhs; whnf); try exact rfl)); (· simp; done); (· simp; done); simp only [Act.put, List.setIfInBounds_toArray, List.set_cons_zero, List.set_cons_succ])) | (go_at_call 37; go_must (refine (refEncoded E _ _ (SO ++ (S ++ R)) F dt at_ ct HTO.out.1 HTO.out.2 htI (hO.as (F ++ (SO ++ (S ++ R))))).mono ?_; clear hO; rintro e w5 ⟨rfl, hO⟩; replace hO : Own E w5 (SO ++ (S ++ (F ++ R))) := hO.as _)) | (refine at_load (t := 32) ?_; go_must (refine own_loadC (ad := ⟨sb, j * 5, none⟩) (cs := [.int .i64 x.e.d.k, .int .i64 x.e.d.n, .string x.e.d.s, .slice x.a x.e.d.l.length x.c, .int .i64 x.e.t]) ?_ (HSC.out _ _ (hO.as (S ++ []))) ?_ ?_ ?_ ?_; (· rfl); (· ((conv => lhs; whnf); try exact rfl)); (· simp; done); (· simp; done); simp only [Act.put, List.setIfInBounds_toArray, List.set_cons_zero, List.set_cons_succ])) | (refine at_bs ?_; go_must (refine own_build1 (v := ?_) sltE hO ?_ ?_ ?_ ?_ ?_ ?_; rotate_left; (· rfl); (· ((conv => lhs; whnf); try exact rfl)); (· rfl); (· decide); (· decide); clear hO; (try clear hF); intro bs _ hO; (try simp only [Value.cells] at hO); ((try simp only [List.nil_append, List.append_nil] at hO); have hF := Own.cells hO; simp only [cellsOf_append, cellsOf_pt] at hF); simp only [Act.put, List.setIfInBounds_toArray, List.set_cons_zero, List.set_cons_succ])) | (refine at_append ?_; go_must (refine own_append_elem (b1 := ?_) (cs := ?_) (e1 := ?_) (f1 := ?_) sltE hO ?_ ?_ ?_ hSO ?_ ?_ ?_ ?_ ?_ ?_ ?_; rotate_left 4; (· rfl); (· rfl); (· rfl); (· exact inferInstance); (· rfl); (· intro u hu; simp at hu; rcases hu with rfl | rfl | rfl | rfl | rfl <;> rfl); (· first | omega | (simp only [maxLen]; omega)); (· decide); (· first | omega | (simp only [maxLen]; omega)); clear hO; (try clear hF); intro so3 co3 SO3 w6 hSO3 hO; ((try simp only [List.nil_append, List.append_nil] at hO); have hF := Own.cells hO; simp only [cellsOf_append, cellsOf_pt] at hF); simp only [Act.put, List.setIfInBounds_toArray, List.set_cons_zero, List.set_cons_succ])))
                have hlt := HLT.out
                go_roundw
                case rel =>
                  refine ⟨j + 1, so3, co3, SO3, by go_num, hlt, ?p1, ?p2, hO.as _⟩
                  case p1 => rw [HT.out, rgO_fwd HIN.out, HPL.out, List.length_append]; rfl
                  case p2 => rw [HT.out, rgO_fwd HIN.out, HPL.out, List.length_append, List.flatMap_append]; exact hSO3
                case measure => (clear hw0 hw1; simp [intOf]; omega)
          · rw [hp1] at hlt1 hgt
            · have hin : inR none (some dt) x.e = true := by unfold inR; simp only [hgt]; rw [decide_eq_true k3]; rfl
              have HIN := Lib.hid hin
              clear hin hp1 hgt k3
              go_wp2_with (first | (refine at_load (t := 30) ?_; go_must (refine own_loadC (ad := adt) (cs := [.int .i64 dt.k, .int .i64 dt.n, .string dt.s, .slice at_ dt.l.length ct]) ?_ (HTC.out _ _ (hO.as (F ++ (SO ++ (S ++ R))))) ?_ ?_ ?_ ?_; (· rfl); (· ((conv => lhs; whnf); try exact rfl)); (· simp; done); (· simp; done); simp only [Act.put, List.setIfInBounds_toArray, List.set_cons_zero, List.set_cons_succ])) | (go_at_call 37; go_must (refine (refEncoded E _ _ (SO ++ (S ++ R)) F dt at_ ct HTO.out.1 HTO.out.2 htI (hO.as (F ++ (SO ++ (S ++ R))))).mono ?_; clear hO; rintro e w5 ⟨rfl, hO⟩; replace hO : Own E w5 (SO ++ (S ++ (F ++ R))) := hO.as _)) | (refine at_load (t := 32) ?_; go_must (refine own_loadC (ad := ⟨sb, j * 5, none⟩) (cs := [.int .i64 x.e.d.k, .int .i64 x.e.d.n, .string x.e.d.s, .slice x.a x.e.d.l.length x.c, .int .i64 x.e.t]) ?_ (HSC.out _ _ (hO.as (S ++ []))) ?_ ?_ ?_ ?_; (· rfl); (· ((conv => lhs; whnf); try exact rfl)); (· simp; done); (· simp; done); simp only [Act.put, List.setIfInBounds_toArray, List.set_cons_zero, List.set_cons_succ])) | (refine at_bs ?_; go_must (refine own_build1 (v := ?_) sltE hO ?_ ?_ ?_ ?_ ?_ ?_; rotate_left; (· rfl); (· ((conv => lhs; whnf); try exact rfl)); (· rfl); (· decide); (· decide); clear hO; (try clear hF); intro bs _ hO; (try simp only [Value.cells] at hO); ((try simp only [List.nil_append, List.append_nil] at hO); have hF := Own.cells hO; simp only [cellsOf_append, cellsOf_pt] at hF); simp only [Act.put, List.setIfInBounds_toArray, List.set_cons_zero, List.set_cons_succ])) | (refine at_append ?_; go_must (refine own_append_elem (b1 := ?_) (cs := ?_) (e1 := ?_) (f1 := ?_) sltE hO ?_ ?_ ?_ hSO ?_ ?_ ?_ ?_ ?_ ?_ ?_; rotate_left 4; (· rfl); (· rfl); (· rfl); (· exact inferInstance); (· rfl); (· intro u hu; simp at hu; rcases hu with rfl | rfl | rfl | rfl | rfl <;> rfl); (· first | omega | (simp only [maxLen]; omega)); (· decide); (· first | omega | (simp only [maxLen]; omega)); clear hO; (try clear hF); intro so3 co3 SO3 w6 hSO3 hO; ((try simp only [List.nil_append, List.append_nil] at hO); have hF := Own.cells hO; simp only [cellsOf_append, cellsOf_pt] at hF); simp only [Act.put, List.setIfInBounds_toArray, List.set_cons_zero, List.set_cons_succ])))
              have hlt := HLT.out
              go_roundw
              case rel =>
                refine ⟨j + 1, so3, co3, SO3, by go_num, hlt, ?p1, ?p2, hO.as _⟩
                case p1 => rw [HT.out, rgO_fwd HIN.out, HPL.out, List.length_append]; rfl
                case p2 => rw [HT.out, rgO_fwd HIN.out, HPL.out, List.length_append, List.flatMap_append]; exact hSO3
              case measure => (clear hw0 hw1; simp [intOf]; omega)
    · obtain rfl : j = os.length := Nat.le_antisymm hj (Nat.le_of_not_lt hlt)
      have hjj : ¬ (os.length : Int) < os.length := by omega
      clear hj hlt hl
      rw [List.take_length] at hSO ⊢
      go_wp2_with fail
      rw [← HPOST.out]
      exact ⟨so2, co2, SO, rfl, ⟨hSO, fun o ho => hL.its o (rgO_mem ho)⟩, hO⟩
set_option maxRecDepth 100000 in
set_option maxHeartbeats 16000000 in
theorem rng011 (E w : World) (X R S F : Fr) (so : Option Addr) (co : Nat) (os : List Oe) (hl : os.length ≤ 2000000000000) (hok : ∀ o ∈ os, o.e.d.ok = true) (hwf : ∀ o ∈ os, o.e.d.wf) (hL : LAt E F so co os S) (adt : Addr) (dt : Dt) (at_ : Option Addr) (ct : Nat) (hto : dt.ok = true) (htw : dt.wf) (htI : ItemsAt E F at_ dt.l) (htc : ∀ (Y : Fr) (w : World), Own E w (F ++ Y) → ∀ j u, ([.int .i64 dt.k, .int .i64 dt.n, .string dt.s, .slice at_ dt.l.length ct] : List Value)[j]? = some u → w.cell? (adt.add j) = some u) (hz1 : rgE none (some dt) = 0) (hb1 : bdR none = 0) (hb2 : bdR (some dt) = 0) (hF1 : BdAt E F (.pointer none) none) (hF2 : BdAt E F (.pointer (some adt)) (some dt)) (hO : Own E w X) [hp : Pick X (S ++ F) R] :
    Calls Tryd.prog 20 #[.slice so os.length co, (.pointer none), (.pointer (some adt)), .bool true] w fun e w' => ∃ (so2 : Option Addr) (co2 : Nat) (S2 : Fr), e = .returned (.tuple #[.slice so2 (rgO none (some dt) true os).length co2, .int .i64 0]) ∧ LAt E F so2 co2 (rgO none (some dt) true os) S2 ∧ Own E w' (S2 ++ (S ++ (F ++ R))) := by
  replace hO : Own E w (S ++ (F ++ R)) := by have := hO.perm hp.perm; rwa [List.append_assoc] at this
  clear hp hz1
  generalize hpost : (fun (e : Ending) (w' : World) => ∃ (so2 : Option Addr) (co2 : Nat) (S2 : Fr), e = .returned (.tuple #[.slice so2 (rgO none (some dt) true os).length co2, .int .i64 0]) ∧ LAt E F so2 co2 (rgO none (some dt) true os) S2 ∧ Own E w' (S2 ++ (S ++ (F ++ R)))) = POST
  have HPOST := Lib.hid hpost
  clear hpost
  have HLN := Lib.hid hl
  have HOK := Lib.hid hok
  have HWF := Lib.hid hwf
  have HTC := Lib.hid htc
  have HTO := Lib.hid (And.intro hto htw)
  clear htc hto htw
  clear hok hwf hl
  go_enter Tryd.func20, Tryd.ntmps20
  go_wp2_with fail
  refine (refBound E _ _ (S ++ R) F (.pointer none) none hF1 (hO.as (F ++ (S ++ R)))).mono ?_
  rw [hb1]
  clear hO
  rintro e w1 ⟨rfl, hO⟩
  go_wp2_with fail
  refine (refBound E _ _ (S ++ R) F (.pointer (some adt)) (some dt) hF2 hO).mono ?_
  rw [hb2]
  clear hO hF1 hF2 hb1 hb2
  rintro e w2 ⟨rfl, hO⟩
  replace hO : Own E w2 (S ++ (F ++ R)) := hO.as _
  go_wp2_with fail
  have hO1 := hO
  clear hO
  go_loopw [12, 13] (fun o i wr => ∃ (j : Nat) (so2 : Option Addr) (co2 : Nat) (SO : Fr), i = .int .i64 (j : Int) ∧ j ≤ os.length ∧ o = .slice so2 (rgO none (some dt) true (os.take j)).length co2 ∧ Sl 32 5 so2 (rgO none (some dt) true (os.take j)).length co2 ((rgO none (some dt) true (os.take j)).flatMap Oe.v) SO ∧ Own E wr (SO ++ (S ++ (F ++ R)))) (fun _ i _ => os.length - (intOf i).toNat)
  case atStart => exact ⟨0, none, 0, [], rfl, Nat.zero_le _, rfl, Sl.nil _ _, hO1⟩
  case round =>
    clear hO1
    obtain ⟨j, so2, co2, SO, rfl, hj, rfl, hSO, hO⟩ := hrel
    have hl := HLN.out
    by_cases hlt : j < os.length
    · have hj1 : (j : Int) < os.length := by omega
      have g2 : (0 : Int) ≤ (j : Int) := by omega
      have hw0 : IntKind.i64.wrap ((j : Int) + 1) = (j : Int) + 1 := wi_1 j (by omega)
      have hw1 : wrap64 ((j : Int) + 1) = (j : Int) + 1 := w64_1 j (by omega)
      obtain ⟨sb, rfl⟩ := sl_some9 hL.row (by omega)
      obtain ⟨x, hx⟩ : ∃ x, os[j]'hlt = x := ⟨_, rfl⟩
      have hmem : x ∈ os := hx ▸ List.getElem_mem hlt
      have HSC := Lib.hid (show ∀ (Y : Fr) (w : World), Own E w (S ++ Y) → ∀ i v, ([.int .i64 x.e.d.k, .int .i64 x.e.d.n, .string x.e.d.s, .slice x.a x.e.d.l.length x.c, .int .i64 x.e.t] : List Value)[i]? = some v → w.cell? ((⟨sb, j * 5, none⟩ : Addr).add i) = some v from fun Y w h => hL.cells hlt hx h)
      have HXO := Lib.hid (HOK.out x hmem)
      have HXW := Lib.hid (HWF.out x hmem)
      have HXI := Lib.hid (hL.its x hmem)
      have HT := Lib.hid (show os.take (j + 1) = os.take j ++ [x] by rw [List.take_succ_eq_append_getElem hlt, hx])
      have HLT := Lib.hid hlt
      have hwl := rgO_le none (some dt) true (os.take j)
      have hwl2 : (os.take j).length ≤ j := by rw [List.length_take]; omega
      generalize hpl : rgO none (some dt) true (os.take j) = pl at hSO hwl ⊢
      have HPL := Lib.hid hpl
      have hj64 : pl.length * 64 ≤ 128000000000000 := by omega
      clear hwl hwl2 hpl hx hmem hlt hj hl
      go_wp2_with (first | (refine at_load (t := 30) ?_; go_must (refine own_loadC (ad := ⟨sb, j * 5, none⟩) (cs := [.int .i64 x.e.d.k, .int .i64 x.e.d.n, .string x.e.d.s, .slice x.a x.e.d.l.length x.c]) ?_ (fun i v hi => HSC.out _ _ (hO.as (S ++ [])) i v (pre4 hi)) ?_ ?_ ?_ ?_; (· rfl); (· ((conv => lhs; whnf); try exact rfl)); (· simp; done); (· simp; done); simp only [Act.put, List.setIfInBounds_toArray, List.set_cons_zero, List.set_cons_succ])))
      refine (refEncoded E _ _ (SO ++ (S ++ R)) F x.e.d x.a x.c HXO.out HXW.out HXI.out (hO.as (F ++ (SO ++ (S ++ R))))).mono ?_
      clear hO
      rintro e w4 ⟨rfl, hO⟩
      replace hO : Own E w4 (SO ++ (S ++ (F ++ R))) := hO.as _
      have c0 : w4.cell? ⟨sb, j * 5, none⟩ = some (.int .i64 x.e.d.k) := by have := HSC.out _ _ (hO.as (S ++ [])) 0 _ rfl; rwa [add_lit, Nat.add_zero] at this
      have hlt1 : Op.bytesLess (encB x.e.d).toList (encB dt).toList = decide (x.e.d.enc < dt.enc) := by rw [bytes_lt, Lib.toList_data, Lib.toList_data]; rfl
      have hlt2 := encB_beq x.e.d dt
      have hgt := gt_dec x.e.d.enc dt.enc
      by_cases k3 : x.e.d.k = 3
      · have hin : inR none (some dt) x.e = false := by unfold inR; rw [decide_eq_false (fun h => h k3)]; rfl
        rw [k3] at c0
        have HIN := Lib.hid hin
        clear hin
        go_wp2_with (first | (refine at_load (t := 30) ?_; go_must (refine own_loadC (ad := adt) (cs := [.int .i64 dt.k, .int .i64 dt.n, .string dt.s, .slice at_ dt.l.length ct]) ?_ (HTC.out _ _ (hO.as (F ++ (SO ++ (S ++ R))))) ?_ ?_ ?_ ?_; (· rfl); (· ((conv => lhs; whnf); try exact rfl)); (· simp; done); (· simp; done); simp only [Act.put, List.setIfInBounds_toArray, List.set_cons_zero, List.set_cons_succ])) | (go_at_call 37; go_must (refine (refEncoded E _ _ (SO ++ (S ++ R)) F dt at_ ct HTO.out.1 HTO.out.2 htI (hO.as (F ++ (SO ++ (S ++ R))))).mono ?_; clear hO; rintro e w5 ⟨rfl, hO⟩; replace hO : Own E w5 (SO ++ (S ++ (F ++ R))) := hO.as _)) | (refine at_load (t := 32) ?_; go_must (refine own_loadC (ad := ⟨sb, j * 5, none⟩) (cs := [.int .i64 x.e.d.k, .int .i64 x.e.d.n, .string x.e.d.s, .slice x.a x.e.d.l.length x.c, .int .i64 x.e.t]) ?_ (HSC.out _ _ (hO.as (S ++ []))) ?_ ?_ ?_ ?_; (· rfl); (· ((conv => lhs; whnf); try exact rfl)); (· simp; done); (· simp; done); simp only [Act.put, List.setIfInBounds_toArray, List.set_cons_zero, List.set_cons_succ])) | (refine at_bs ?_; go_must (refine own_build1 (v := ?_) sltE hO ?_ ?_ ?_ ?_ ?_ ?_; rotate_left; (· rfl); (· ((conv => lhs; whnf); try exact rfl)); (· rfl); (· decide); (· decide); clear hO; (try clear hF); intro bs _ hO; (try simp only [Value.cells] at hO); ((try simp only [List.nil_append, List.append_nil] at hO); have hF := Own.cells hO; simp only [cellsOf_append, cellsOf_pt] at hF); simp only [Act.put, List.setIfInBounds_toArray, List.set_cons_zero, List.set_cons_succ])) | (refine at_append ?_; go_must (refine own_append_elem (b1 := ?_) (cs := ?_) (e1 := ?_) (f1 := ?_) sltE hO ?_ ?_ ?_ hSO ?_ ?_ ?_ ?_ ?_ ?_ ?_; rotate_left 4; (· rfl); (· rfl); (· rfl); (· exact inferInstance); (· rfl); (· intro u hu; simp at hu; rcases hu with rfl | rfl | rfl | rfl | rfl <;> rfl); (· first | omega | (simp only [maxLen]; omega)); (· decide); (· first | omega | (simp only [maxLen]; omega)); clear hO; (try clear hF); intro so3 co3 SO3 w6 hSO3 hO; ((try simp only [List.nil_append, List.append_nil] at hO); have hF := Own.cells hO; simp only [cellsOf_append, cellsOf_pt] at hF); simp only [Act.put, List.setIfInBounds_toArray, List.set_cons_zero, List.set_cons_succ])))
        have hlt := HLT.out
        go_roundw
        case rel => exact ⟨j + 1, so2, co2, SO, by go_num, hlt, by rw [HT.out, rgO_skip HIN.out, HPL.out], by rw [HT.out, rgO_skip HIN.out, HPL.out]; exact hSO, hO⟩
        case measure => (clear hw0 hw1; simp [intOf]; omega)
      · have hk3 : (x.e.d.k == 3) = false := beq_eq_false_iff_ne.2 k3
        · skip
          cases hp1 : decide (x.e.d.enc < dt.enc)
          · rw [hp1] at hlt1 hgt
            cases hp2 : decide (x.e.d.enc = dt.enc)
            · rw [hp2] at hlt2 hgt
              · have hin : inR none (some dt) x.e = false := by unfold inR; simp only [hgt]; simp
                have HIN := Lib.hid hin
                clear hin hp1 hp2 hgt k3
                go_wp2_with (first | (refine at_load (t := 30) ?_; go_must (refine own_loadC (ad := adt) (cs := [.int .i64 dt.k, .int .i64 dt.n, .string dt.s, .slice at_ dt.l.length ct]) ?_ (HTC.out _ _ (hO.as (F ++ (SO ++ (S ++ R))))) ?_ ?_ ?_ ?_; (· rfl); (· ((conv => lhs; whnf); try exact rfl)); (· simp; done); (· simp; done); simp only [Act.put, List.setIfInBounds_toArray, List.set_cons_zero, List.set_cons_succ])) | (go_at_call 37; go_must (refine (refEncoded E _ _ (SO ++ (S ++ R)) F dt at_ ct HTO.out.1 HTO.out.2 htI (hO.as (F ++ (SO ++ (S ++ R))))).mono ?_; clear hO; rintro e w5 ⟨rfl, hO⟩; replace hO : Own E w5 (SO ++ (S ++ (F ++ R))) := hO.as _)) | (refine at_load (t := 32) ?_; go_must (refine own_loadC (ad := ⟨sb, j * 5, none⟩) (cs := [.int .i64 x.e.d.k, .int .i64 x.e.d.n, .string x.e.d.s, .slice x.a x.e.d.l.length x.c, .int .i64 x.e.t]) ?_ (HSC.out _ _ (hO.as (S ++ []))) ?_ ?_ ?_ ?_; (· rfl); (· ((conv => lhs; whnf); try exact rfl)); (· simp; done); (· simp; done); simp only [Act.put, List.setIfInBounds_toArray, List.set_cons_zero, List.set_cons_succ])) | (refine at_bs ?_; go_must (refine own_build1 (v := ?_) sltE hO ?_ ?_ ?_ ?_ ?_ ?_; rotate_left; (· rfl); (· ((conv => lhs; whnf); try exact rfl)); (· rfl); (· decide); (· decide); clear hO; (try clear hF); intro bs _ hO; (try simp only [Value.cells] at hO); ((try simp only [List.nil_append, List.append_nil] at hO); have hF := Own.cells hO; simp only [cellsOf_append, cellsOf_pt] at hF); simp only [Act.put, List.setIfInBounds_toArray, List.set_cons_zero, List.set_cons_succ])) | (refine at_append ?_; go_must (refine own_append_elem (b1 := ?_) (cs := ?_) (e1 := ?_) (f1 := ?_) sltE hO ?_ ?_ ?_ hSO ?_ ?_ ?_ ?_ ?_ ?_ ?_; rotate_left 4; (· rfl); (· rfl); (· rfl); (· exact inferInstance); (· rfl); (· intro u hu; simp at hu; rcases hu with rfl | rfl | rfl | rfl | rfl <;> rfl); (· first | omega | (simp only [maxLen]; omega)); (· decide); (· first | omega | (simp only [maxLen]; omega)); clear hO; (try clear hF); intro so3 co3 SO3 w6 hSO3 hO; ((try simp only [List.nil_append, List.append_nil] at hO); have hF := Own.cells hO; simp only [cellsOf_append, cellsOf_pt] at hF); simp only [Act.put, List.setIfInBounds_toArray, List.set_cons_zero, List.set_cons_succ])))
                have hlt := HLT.out
                go_roundw
                case rel => exact ⟨j + 1, so2, co2, SO, by go_num, hlt, by rw [HT.out, rgO_skip HIN.out, HPL.out], by rw [HT.out, rgO_skip HIN.out, HPL.out]; exact hSO, hO⟩
                case measure => (clear hw0 hw1; simp [intOf]; omega)
            · rw [hp2] at hlt2 hgt
              · have hin : inR none (some dt) x.e = true := by unfold inR; simp only [hgt]; rw [decide_eq_true k3]; rfl
                have HIN := Lib.hid hin
                clear hin hp1 hp2 hgt k3
                go_wp2_with (first | (refine at_load (t := 30) ?_; go_must (refine own_loadC (ad := adt) (cs := [.int .i64 dt.k, .int .i64 dt.n, .string dt.s, .slice at_ dt.l.length ct]) ?_ (HTC.out _ _ (hO.as (F ++ (SO ++ (S ++ R))))) ?_ ?_ ?_ ?_; (· rfl); (· ((conv => lhs; whnf); try exact rfl)); (· simp; done); (· simp; done); simp only [Act.put, List.setIfInBounds_toArray, List.set_cons_zero, List.set_cons_succ])) | (go_at_call 37; go_must (refine (refEncoded E _ _ (SO ++ (S ++ R)) F dt at_ ct HTO.out.1 HTO.out.2 htI (hO.as (F ++ (SO ++ (S ++ R))))).mono ?_; clear hO; rintro e w5 ⟨rfl, hO⟩; replace hO : Own E w5 (SO ++ (S ++ (F ++ R))) := hO.as _)) | (refine at_load (t := 32) ?_; go_must (refine own_loadC (ad := ⟨sb, j * 5, none⟩) (cs := [.int .i64 x.e.d.k, .int .i64 x.e.d.n, .string x.e.d.s, .slice x.a x.e.d.l.length x.c, .int .i64 x.e.t]) ?_ (HSC.out _ _ (hO.as (S ++ []))) ?_ ?_ ?_ ?_; (· rfl); (· ((conv => lhs; whnf); try exact rfl)); (· simp; done); (· simp; done); simp only [Act.put, List.setIfInBounds_toArray, List.set_cons_zero, List.set_cons_succ])) | (refine at_bs ?_; go_must (refine own_build1 (v := ?_) sltE hO ?_ ?_ ?_ ?_ ?_ ?_; rotate_left; (· rfl); (· ((conv => lhs; whnf); try exact rfl)); (· rfl); (· decide); (· decide); clear hO; (try clear hF); intro bs _ hO; (try simp only [Value.cells] at hO); ((try simp only [List.nil_append, List.append_nil] at hO); have hF := Own.cells hO; simp only [cellsOf_append, cellsOf_pt] at hF); simp only [Act.put, List.setIfInBounds_toArray, List.set_cons_zero, List.set_cons_succ])) | ((have hzz : so3 = so3 := rfl); clear hzz; refine at_append ?_; refine Stop.go ?_) | (refine at_append ?_; go_must (refine own_append_elem (A := []) (xs := []) (sa := none) (n := 0) (cap := 0) (b1 := ?_) (cs := ?_) (e1 := ?_) (f1 := ?_) sltE hO ?_ ?_ ?_ (Sl.nil _ _) ?_ ?_ ?_ ?_ ?_ ?_ ?_; rotate_left 4; (· rfl); (· rfl); (· rfl); (· exact inferInstance); (· rfl); (· intro u hu; simp at hu; rcases hu with rfl | rfl | rfl | rfl | rfl <;> rfl); (· first | omega | (simp only [maxLen]; omega)); (· decide); (· first | omega | (simp only [maxLen]; omega)); clear hO; (try clear hF); intro so3 co3 SO3 w6 hSO3 hO; simp only [Act.put, List.setIfInBounds_toArray, List.set_cons_zero, List.set_cons_succ])))
                refine ⟨?_⟩
                refine own_append (sz := 5) (bytes := 64) (z := .agg #[.int .i64 0, .int .i64 0, .string .empty, .slice none 0 0, .int .i64 0]) (e := 32) (xv := .slice so2 pl.length co2) (m := pl.length) (news := pl.flatMap Oe.v) sltE (.inl (by kernel_rfl)) hO ?_ ?_ ?_ hSO3 ?_ ?_ ?_ ?_ ?_ ?_ ?_
                · rfl
                · rfl
                · rfl
                · intro w; rfl
                · intro w' hO'; exact hSO.firstCells hO'
                · rw [rows_len Oe.v 5 Oe.len]
                · exact oes_one _
                · simp only [maxLen]; omega
                · left; omega
                clear hO
                intro so5 co5 SO5 w7 hSO5 hO
                simp only [Act.put, List.setIfInBounds_toArray, List.set_cons_zero, List.set_cons_succ]
                go_wp2_with fail
                have hlt := HLT.out
                go_roundw
                case rel =>
                  refine ⟨j + 1, so5, co5, SO5, by go_num, hlt, ?p1, ?p2, hO.as _⟩
                  case p1 => rw [HT.out, rgO_bwd HIN.out, HPL.out, List.length_cons, Nat.add_comm]
                  case p2 => rw [HT.out, rgO_bwd HIN.out, HPL.out, List.length_cons, List.flatMap_cons, Nat.add_comm]; exact hSO5
                case measure => (clear hw0 hw1; simp [intOf]; omega)
          · rw [hp1] at hlt1 hgt
            · have hin : inR none (some dt) x.e = true := by unfold inR; simp only [hgt]; rw [decide_eq_true k3]; rfl
              have HIN := Lib.hid hin
              clear hin hp1 hgt k3
              go_wp2_with (first | (refine at_load (t := 30) ?_; go_must (refine own_loadC (ad := adt) (cs := [.int .i64 dt.k, .int .i64 dt.n, .string dt.s, .slice at_ dt.l.length ct]) ?_ (HTC.out _ _ (hO.as (F ++ (SO ++ (S ++ R))))) ?_ ?_ ?_ ?_; (· rfl); (· ((conv => lhs; whnf); try exact rfl)); (· simp; done); (· simp; done); simp only [Act.put, List.setIfInBounds_toArray, List.set_cons_zero, List.set_cons_succ])) | (go_at_call 37; go_must (refine (refEncoded E _ _ (SO ++ (S ++ R)) F dt at_ ct HTO.out.1 HTO.out.2 htI (hO.as (F ++ (SO ++ (S ++ R))))).mono ?_; clear hO; rintro e w5 ⟨rfl, hO⟩; replace hO : Own E w5 (SO ++ (S ++ (F ++ R))) := hO.as _)) | (refine at_load (t := 32) ?_; go_must (refine own_loadC (ad := ⟨sb, j * 5, none⟩) (cs := [.int .i64 x.e.d.k, .int .i64 x.e.d.n, .string x.e.d.s, .slice x.a x.e.d.l.length x.c, .int .i64 x.e.t]) ?_ (HSC.out _ _ (hO.as (S ++ []))) ?_ ?_ ?_ ?_; (· rfl); (· ((conv => lhs; whnf); try exact rfl)); (· simp; done); (· simp; done); simp only [Act.put, List.setIfInBounds_toArray, List.set_cons_zero, List.set_cons_succ])) | (refine at_bs ?_; go_must (refine own_build1 (v := ?_) sltE hO ?_ ?_ ?_ ?_ ?_ ?_; rotate_left; (· rfl); (· ((conv => lhs; whnf); try exact rfl)); (· rfl); (· decide); (· decide); clear hO; (try clear hF); intro bs _ hO; (try simp only [Value.cells] at hO); ((try simp only [List.nil_append, List.append_nil] at hO); have hF := Own.cells hO; simp only [cellsOf_append, cellsOf_pt] at hF); simp only [Act.put, List.setIfInBounds_toArray, List.set_cons_zero, List.set_cons_succ])) | ((have hzz : so3 = so3 := rfl); clear hzz; refine at_append ?_; refine Stop.go ?_) | (refine at_append ?_; go_must (refine own_append_elem (A := []) (xs := []) (sa := none) (n := 0) (cap := 0) (b1 := ?_) (cs := ?_) (e1 := ?_) (f1 := ?_) sltE hO ?_ ?_ ?_ (Sl.nil _ _) ?_ ?_ ?_ ?_ ?_ ?_ ?_; rotate_left 4; (· rfl); (· rfl); (· rfl); (· exact inferInstance); (· rfl); (· intro u hu; simp at hu; rcases hu with rfl | rfl | rfl | rfl | rfl <;> rfl); (· first | omega | (simp only [maxLen]; omega)); (· decide); (· first | omega | (simp only [maxLen]; omega)); clear hO; (try clear hF); intro so3 co3 SO3 w6 hSO3 hO; simp only [Act.put, List.setIfInBounds_toArray, List.set_cons_zero, List.set_cons_succ])))
              refine ⟨?_⟩
              refine own_append (sz := 5) (bytes := 64) (z := .agg #[.int .i64 0, .int .i64 0, .string .empty, .slice none 0 0, .int .i64 0]) (e := 32) (xv := .slice so2 pl.length co2) (m := pl.length) (news := pl.flatMap Oe.v) sltE (.inl (by kernel_rfl)) hO ?_ ?_ ?_ hSO3 ?_ ?_ ?_ ?_ ?_ ?_ ?_
              · rfl
              · rfl
              · rfl
              · intro w; rfl
              · intro w' hO'; exact hSO.firstCells hO'
              · rw [rows_len Oe.v 5 Oe.len]
              · exact oes_one _
              · simp only [maxLen]; omega
              · left; omega
              clear hO
              intro so5 co5 SO5 w7 hSO5 hO
              simp only [Act.put, List.setIfInBounds_toArray, List.set_cons_zero, List.set_cons_succ]
              go_wp2_with fail
              have hlt := HLT.out
              go_roundw
              case rel =>
                refine ⟨j + 1, so5, co5, SO5, by go_num, hlt, ?p1, ?p2, hO.as _⟩
                case p1 => rw [HT.out, rgO_bwd HIN.out, HPL.out, List.length_cons, Nat.add_comm]
                case p2 => rw [HT.out, rgO_bwd HIN.out, HPL.out, List.length_cons, List.flatMap_cons, Nat.add_comm]; exact hSO5
              case measure => (clear hw0 hw1; simp [intOf]; omega)
    · obtain rfl : j = os.length := Nat.le_antisymm hj (Nat.le_of_not_lt hlt)
      have hjj : ¬ (os.length : Int) < os.length := by omega
      clear hj hlt hl
      rw [List.take_length] at hSO ⊢
      go_wp2_with fail
      rw [← HPOST.out]
      exact ⟨so2, co2, SO, rfl, ⟨hSO, fun o ho => hL.its o (rgO_mem ho)⟩, hO⟩
set_option maxRecDepth 100000 in
set_option maxHeartbeats 16000000 in
theorem rng100 (E w : World) (X R S F : Fr) (so : Option Addr) (co : Nat) (os : List Oe) (hl : os.length ≤ 2000000000000) (hok : ∀ o ∈ os, o.e.d.ok = true) (hwf : ∀ o ∈ os, o.e.d.wf) (hL : LAt E F so co os S) (adf : Addr) (df : Dt) (af : Option Addr) (cf : Nat) (hfo : df.ok = true) (hfw : df.wf) (hfI : ItemsAt E F af df.l) (hfc : ∀ (Y : Fr) (w : World), Own E w (F ++ Y) → ∀ j u, ([.int .i64 df.k, .int .i64 df.n, .string df.s, .slice af df.l.length cf] : List Value)[j]? = some u → w.cell? (adf.add j) = some u) (hz1 : rgE (some df) none = 0) (hb1 : bdR (some df) = 0) (hb2 : bdR none = 0) (hF1 : BdAt E F (.pointer (some adf)) (some df)) (hF2 : BdAt E F (.pointer none) none) (hO : Own E w X) [hp : Pick X (S ++ F) R] :
    Calls Tryd.prog 20 #[.slice so os.length co, (.pointer (some adf)), (.pointer none), .bool false] w fun e w' => ∃ (so2 : Option Addr) (co2 : Nat) (S2 : Fr), e = .returned (.tuple #[.slice so2 (rgO (some df) none false os).length co2, .int .i64 0]) ∧ LAt E F so2 co2 (rgO (some df) none false os) S2 ∧ Own E w' (S2 ++ (S ++ (F ++ R))) := by
  replace hO : Own E w (S ++ (F ++ R)) := by have := hO.perm hp.perm; rwa [List.append_assoc] at this
  clear hp hz1
  generalize hpost : (fun (e : Ending) (w' : World) => ∃ (so2 : Option Addr) (co2 : Nat) (S2 : Fr), e = .returned (.tuple #[.slice so2 (rgO (some df) none false os).length co2, .int .i64 0]) ∧ LAt E F so2 co2 (rgO (some df) none false os) S2 ∧ Own E w' (S2 ++ (S ++ (F ++ R)))) = POST
  have HPOST := Lib.hid hpost
  clear hpost
  have HLN := Lib.hid hl
  have HOK := Lib.hid hok
  have HWF := Lib.hid hwf
  have HFC := Lib.hid hfc
  have HFO := Lib.hid (And.intro hfo hfw)
  clear hfc hfo hfw
  clear hok hwf hl
  go_enter Tryd.func20, Tryd.ntmps20
  go_wp2_with fail
  refine (refBound E _ _ (S ++ R) F (.pointer (some adf)) (some df) hF1 (hO.as (F ++ (S ++ R)))).mono ?_
  rw [hb1]
  clear hO
  rintro e w1 ⟨rfl, hO⟩
  go_wp2_with fail
  refine (refBound E _ _ (S ++ R) F (.pointer none) none hF2 hO).mono ?_
  rw [hb2]
  clear hO hF1 hF2 hb1 hb2
  rintro e w2 ⟨rfl, hO⟩
  replace hO : Own E w2 (S ++ (F ++ R)) := hO.as _
  go_wp2_with fail
  have hO1 := hO
  clear hO
  go_loopw [12, 13] (fun o i wr => ∃ (j : Nat) (so2 : Option Addr) (co2 : Nat) (SO : Fr), i = .int .i64 (j : Int) ∧ j ≤ os.length ∧ o = .slice so2 (rgO (some df) none false (os.take j)).length co2 ∧ Sl 32 5 so2 (rgO (some df) none false (os.take j)).length co2 ((rgO (some df) none false (os.take j)).flatMap Oe.v) SO ∧ Own E wr (SO ++ (S ++ (F ++ R)))) (fun _ i _ => os.length - (intOf i).toNat)
  case atStart => exact ⟨0, none, 0, [], rfl, Nat.zero_le _, rfl, Sl.nil _ _, hO1⟩
  case round =>
    clear hO1
    obtain ⟨j, so2, co2, SO, rfl, hj, rfl, hSO, hO⟩ := hrel
    have hl := HLN.out
    by_cases hlt : j < os.length
    · have hj1 : (j : Int) < os.length := by omega
      have g2 : (0 : Int) ≤ (j : Int) := by omega
      have hw0 : IntKind.i64.wrap ((j : Int) + 1) = (j : Int) + 1 := wi_1 j (by omega)
      have hw1 : wrap64 ((j : Int) + 1) = (j : Int) + 1 := w64_1 j (by omega)
      obtain ⟨sb, rfl⟩ := sl_some9 hL.row (by omega)
      obtain ⟨x, hx⟩ : ∃ x, os[j]'hlt = x := ⟨_, rfl⟩
      have hmem : x ∈ os := hx ▸ List.getElem_mem hlt
      have HSC := Lib.hid (show ∀ (Y : Fr) (w : World), Own E w (S ++ Y) → ∀ i v, ([.int .i64 x.e.d.k, .int .i64 x.e.d.n, .string x.e.d.s, .slice x.a x.e.d.l.length x.c, .int .i64 x.e.t] : List Value)[i]? = some v → w.cell? ((⟨sb, j * 5, none⟩ : Addr).add i) = some v from fun Y w h => hL.cells hlt hx h)
      have HXO := Lib.hid (HOK.out x hmem)
      have HXW := Lib.hid (HWF.out x hmem)
      have HXI := Lib.hid (hL.its x hmem)
      have HT := Lib.hid (show os.take (j + 1) = os.take j ++ [x] by rw [List.take_succ_eq_append_getElem hlt, hx])
      have HLT := Lib.hid hlt
      have hwl := rgO_le (some df) none false (os.take j)
      have hwl2 : (os.take j).length ≤ j := by rw [List.length_take]; omega
      generalize hpl : rgO (some df) none false (os.take j) = pl at hSO hwl ⊢
      have HPL := Lib.hid hpl
      have hj64 : pl.length * 64 ≤ 128000000000000 := by omega
      clear hwl hwl2 hpl hx hmem hlt hj hl
      go_wp2_with (first | (refine at_load (t := 30) ?_; go_must (refine own_loadC (ad := ⟨sb, j * 5, none⟩) (cs := [.int .i64 x.e.d.k, .int .i64 x.e.d.n, .string x.e.d.s, .slice x.a x.e.d.l.length x.c]) ?_ (fun i v hi => HSC.out _ _ (hO.as (S ++ [])) i v (pre4 hi)) ?_ ?_ ?_ ?_; (· rfl); (· ((conv => lhs; whnf); try exact rfl)); (· simp; done); (· simp; done); simp only [Act.put, List.setIfInBounds_toArray, List.set_cons_zero, List.set_cons_succ])))
      refine (refEncoded E _ _ (SO ++ (S ++ R)) F x.e.d x.a x.c HXO.out HXW.out HXI.out (hO.as (F ++ (SO ++ (S ++ R))))).mono ?_
      clear hO
      rintro e w4 ⟨rfl, hO⟩
      replace hO : Own E w4 (SO ++ (S ++ (F ++ R))) := hO.as _
      have c0 : w4.cell? ⟨sb, j * 5, none⟩ = some (.int .i64 x.e.d.k) := by have := HSC.out _ _ (hO.as (S ++ [])) 0 _ rfl; rwa [add_lit, Nat.add_zero] at this
      have hlf : Op.bytesLess (encB x.e.d).toList (encB df).toList = decide (x.e.d.enc < df.enc) := by rw [bytes_lt, Lib.toList_data, Lib.toList_data]; rfl
      by_cases k3 : x.e.d.k = 3
      · have hin : inR (some df) none x.e = false := by unfold inR; rw [decide_eq_false (fun h => h k3)]; rfl
        rw [k3] at c0
        have HIN := Lib.hid hin
        clear hin
        go_wp2_with (first | (refine at_load (t := 30) ?_; go_must (refine own_loadC (ad := adf) (cs := [.int .i64 df.k, .int .i64 df.n, .string df.s, .slice af df.l.length cf]) ?_ (HFC.out _ _ (hO.as (F ++ (SO ++ (S ++ R))))) ?_ ?_ ?_ ?_; (· rfl); (· ((conv => lhs; whnf); try exact rfl)); (· simp; done); (· simp; done); simp only [Act.put, List.setIfInBounds_toArray, List.set_cons_zero, List.set_cons_succ])) | (go_at_call 37; go_must (refine (refEncoded E _ _ (SO ++ (S ++ R)) F df af cf HFO.out.1 HFO.out.2 hfI (hO.as (F ++ (SO ++ (S ++ R))))).mono ?_; clear hO; rintro e w5 ⟨rfl, hO⟩; replace hO : Own E w5 (SO ++ (S ++ (F ++ R))) := hO.as _)) | (refine at_load (t := 32) ?_; go_must (refine own_loadC (ad := ⟨sb, j * 5, none⟩) (cs := [.int .i64 x.e.d.k, .int .i64 x.e.d.n, .string x.e.d.s, .slice x.a x.e.d.l.length x.c, .int .i64 x.e.t]) ?_ (HSC.out _ _ (hO.as (S ++ []))) ?_ ?_ ?_ ?_; (· rfl); (· ((conv => lhs; whnf); try exact rfl)); (· simp; done); (· simp; done); simp only [Act.put, List.setIfInBounds_toArray, List.set_cons_zero, List.set_cons_succ])) | (refine at_bs ?_; go_must (refine own_build1 (v := ?_) sltE hO ?_ ?_ ?_ ?_ ?_ ?_; rotate_left; (· rfl); (· ((conv => lhs; whnf); try exact rfl)); (· rfl); (· decide); (· decide); clear hO; (try clear hF); intro bs _ hO; (try simp only [Value.cells] at hO); ((try simp only [List.nil_append, List.append_nil] at hO); have hF := Own.cells hO; simp only [cellsOf_append, cellsOf_pt] at hF); simp only [Act.put, List.setIfInBounds_toArray, List.set_cons_zero, List.set_cons_succ])) | (refine at_append ?_; go_must (refine own_append_elem (b1 := ?_) (cs := ?_) (e1 := ?_) (f1 := ?_) sltE hO ?_ ?_ ?_ hSO ?_ ?_ ?_ ?_ ?_ ?_ ?_; rotate_left 4; (· rfl); (· rfl); (· rfl); (· exact inferInstance); (· rfl); (· intro u hu; simp at hu; rcases hu with rfl | rfl | rfl | rfl | rfl <;> rfl); (· first | omega | (simp only [maxLen]; omega)); (· decide); (· first | omega | (simp only [maxLen]; omega)); clear hO; (try clear hF); intro so3 co3 SO3 w6 hSO3 hO; ((try simp only [List.nil_append, List.append_nil] at hO); have hF := Own.cells hO; simp only [cellsOf_append, cellsOf_pt] at hF); simp only [Act.put, List.setIfInBounds_toArray, List.set_cons_zero, List.set_cons_succ])))
        have hlt := HLT.out
        go_roundw
        case rel => exact ⟨j + 1, so2, co2, SO, by go_num, hlt, by rw [HT.out, rgO_skip HIN.out, HPL.out], by rw [HT.out, rgO_skip HIN.out, HPL.out]; exact hSO, hO⟩
        case measure => (clear hw0 hw1; simp [intOf]; omega)
      · have hk3 : (x.e.d.k == 3) = false := beq_eq_false_iff_ne.2 k3
        cases hf1 : decide (x.e.d.enc < df.enc)
        · rw [hf1] at hlf
          · have hin : inR (some df) none x.e = true := by unfold inR; rw [decide_eq_true k3]; simp only [hf1]; rfl
            have HIN := Lib.hid hin
            clear hin k3
            go_wp2_with (first | (refine at_load (t := 30) ?_; go_must (refine own_loadC (ad := adf) (cs := [.int .i64 df.k, .int .i64 df.n, .string df.s, .slice af df.l.length cf]) ?_ (HFC.out _ _ (hO.as (F ++ (SO ++ (S ++ R))))) ?_ ?_ ?_ ?_; (· rfl); (· ((conv => lhs; whnf); try exact rfl)); (· simp; done); (· simp; done); simp only [Act.put, List.setIfInBounds_toArray, List.set_cons_zero, List.set_cons_succ])) | (go_at_call 37; go_must (refine (refEncoded E _ _ (SO ++ (S ++ R)) F df af cf HFO.out.1 HFO.out.2 hfI (hO.as (F ++ (SO ++ (S ++ R))))).mono ?_; clear hO; rintro e w5 ⟨rfl, hO⟩; replace hO : Own E w5 (SO ++ (S ++ (F ++ R))) := hO.as _)) | (refine at_load (t := 32) ?_; go_must (refine own_loadC (ad := ⟨sb, j * 5, none⟩) (cs := [.int .i64 x.e.d.k, .int .i64 x.e.d.n, .string x.e.d.s, .slice x.a x.e.d.l.length x.c, .int .i64 x.e.t]) ?_ (HSC.out _ _ (hO.as (S ++ []))) ?_ ?_ ?_ ?_; (· rfl); (· ((conv => lhs; whnf); try exact rfl)); (· simp; done); (· simp; done); simp only [Act.put, List.setIfInBounds_toArray, List.set_cons_zero, List.set_cons_succ])) | (refine at_bs ?_; go_must (refine own_build1 (v := ?_) sltE hO ?_ ?_ ?_ ?_ ?_ ?_; rotate_left; (· rfl); (· ((conv => lhs; whnf); try exact rfl)); (· rfl); (· decide); (· decide); clear hO; (try clear hF); intro bs _ hO; (try simp only [Value.cells] at hO); ((try simp only [List.nil_append, List.append_nil] at hO); have hF := Own.cells hO; simp only [cellsOf_append, cellsOf_pt] at hF); simp only [Act.put, List.setIfInBounds_toArray, List.set_cons_zero, List.set_cons_succ])) | (refine at_append ?_; go_must (refine own_append_elem (b1 := ?_) (cs := ?_) (e1 := ?_) (f1 := ?_) sltE hO ?_ ?_ ?_ hSO ?_ ?_ ?_ ?_ ?_ ?_ ?_; rotate_left 4; (· rfl); (· rfl); (· rfl); (· exact inferInstance); (· rfl); (· intro u hu; simp at hu; rcases hu with rfl | rfl | rfl | rfl | rfl <;> rfl); (· first | omega | (simp only [maxLen]; omega)); (· decide); (· first | omega | (simp only [maxLen]; omega)); clear hO; (try clear hF); intro so3 co3 SO3 w6 hSO3 hO; ((try simp only [List.nil_append, List.append_nil] at hO); have hF := Own.cells hO; simp only [cellsOf_append, cellsOf_pt] at hF); simp only [Act.put, List.setIfInBounds_toArray, List.set_cons_zero, List.set_cons_succ])))
            have hlt := HLT.out
            go_roundw
            case rel =>
              refine ⟨j + 1, so3, co3, SO3, by go_num, hlt, ?p1, ?p2, hO.as _⟩
              case p1 => rw [HT.out, rgO_fwd HIN.out, HPL.out, List.length_append]; rfl
              case p2 => rw [HT.out, rgO_fwd HIN.out, HPL.out, List.length_append, List.flatMap_append]; exact hSO3
            case measure => (clear hw0 hw1; simp [intOf]; omega)
        · rw [hf1] at hlf
          · have hin : inR (some df) none x.e = false := by unfold inR; simp only [hf1]; simp
            have HIN := Lib.hid hin
            clear hin k3
            go_wp2_with (first | (refine at_load (t := 30) ?_; go_must (refine own_loadC (ad := adf) (cs := [.int .i64 df.k, .int .i64 df.n, .string df.s, .slice af df.l.length cf]) ?_ (HFC.out _ _ (hO.as (F ++ (SO ++ (S ++ R))))) ?_ ?_ ?_ ?_; (· rfl); (· ((conv => lhs; whnf); try exact rfl)); (· simp; done); (· simp; done); simp only [Act.put, List.setIfInBounds_toArray, List.set_cons_zero, List.set_cons_succ])) | (go_at_call 37; go_must (refine (refEncoded E _ _ (SO ++ (S ++ R)) F df af cf HFO.out.1 HFO.out.2 hfI (hO.as (F ++ (SO ++ (S ++ R))))).mono ?_; clear hO; rintro e w5 ⟨rfl, hO⟩; replace hO : Own E w5 (SO ++ (S ++ (F ++ R))) := hO.as _)) | (refine at_load (t := 32) ?_; go_must (refine own_loadC (ad := ⟨sb, j * 5, none⟩) (cs := [.int .i64 x.e.d.k, .int .i64 x.e.d.n, .string x.e.d.s, .slice x.a x.e.d.l.length x.c, .int .i64 x.e.t]) ?_ (HSC.out _ _ (hO.as (S ++ []))) ?_ ?_ ?_ ?_; (· rfl); (· ((conv => lhs; whnf); try exact rfl)); (· simp; done); (· simp; done); simp only [Act.put, List.setIfInBounds_toArray, List.set_cons_zero, List.set_cons_succ])) | (refine at_bs ?_; go_must (refine own_build1 (v := ?_) sltE hO ?_ ?_ ?_ ?_ ?_ ?_; rotate_left; (· rfl); (· ((conv => lhs; whnf); try exact rfl)); (· rfl); (· decide); (· decide); clear hO; (try clear hF); intro bs _ hO; (try simp only [Value.cells] at hO); ((try simp only [List.nil_append, List.append_nil] at hO); have hF := Own.cells hO; simp only [cellsOf_append, cellsOf_pt] at hF); simp only [Act.put, List.setIfInBounds_toArray, List.set_cons_zero, List.set_cons_succ])) | (refine at_append ?_; go_must (refine own_append_elem (b1 := ?_) (cs := ?_) (e1 := ?_) (f1 := ?_) sltE hO ?_ ?_ ?_ hSO ?_ ?_ ?_ ?_ ?_ ?_ ?_; rotate_left 4; (· rfl); (· rfl); (· rfl); (· exact inferInstance); (· rfl); (· intro u hu; simp at hu; rcases hu with rfl | rfl | rfl | rfl | rfl <;> rfl); (· first | omega | (simp only [maxLen]; omega)); (· decide); (· first | omega | (simp only [maxLen]; omega)); clear hO; (try clear hF); intro so3 co3 SO3 w6 hSO3 hO; ((try simp only [List.nil_append, List.append_nil] at hO); have hF := Own.cells hO; simp only [cellsOf_append, cellsOf_pt] at hF); simp only [Act.put, List.setIfInBounds_toArray, List.set_cons_zero, List.set_cons_succ])))
            have hlt := HLT.out
            go_roundw
            case rel => exact ⟨j + 1, so2, co2, SO, by go_num, hlt, by rw [HT.out, rgO_skip HIN.out, HPL.out], by rw [HT.out, rgO_skip HIN.out, HPL.out]; exact hSO, hO⟩
            case measure => (clear hw0 hw1; simp [intOf]; omega)
    · obtain rfl : j = os.length := Nat.le_antisymm hj (Nat.le_of_not_lt hlt)
      have hjj : ¬ (os.length : Int) < os.length := by omega
      clear hj hlt hl
      rw [List.take_length] at hSO ⊢
      go_wp2_with fail
      rw [← HPOST.out]
      exact ⟨so2, co2, SO, rfl, ⟨hSO, fun o ho => hL.its o (rgO_mem ho)⟩, hO⟩
set_option maxRecDepth 100000 in
set_option maxHeartbeats 16000000 in
theorem rng101 (E w : World) (X R S F : Fr) (so : Option Addr) (co : Nat) (os : List Oe) (hl : os.length ≤ 2000000000000) (hok : ∀ o ∈ os, o.e.d.ok = true) (hwf : ∀ o ∈ os, o.e.d.wf) (hL : LAt E F so co os S) (adf : Addr) (df : Dt) (af : Option Addr) (cf : Nat) (hfo : df.ok = true) (hfw : df.wf) (hfI : ItemsAt E F af df.l) (hfc : ∀ (Y : Fr) (w : World), Own E w (F ++ Y) → ∀ j u, ([.int .i64 df.k, .int .i64 df.n, .string df.s, .slice af df.l.length cf] : List Value)[j]? = some u → w.cell? (adf.add j) = some u) (hz1 : rgE (some df) none = 0) (hb1 : bdR (some df) = 0) (hb2 : bdR none = 0) (hF1 : BdAt E F (.pointer (some adf)) (some df)) (hF2 : BdAt E F (.pointer none) none) (hO : Own E w X) [hp : Pick X (S ++ F) R] :
    Calls Tryd.prog 20 #[.slice so os.length co, (.pointer (some adf)), (.pointer none), .bool true] w fun e w' => ∃ (so2 : Option Addr) (co2 : Nat) (S2 : Fr), e = .returned (.tuple #[.slice so2 (rgO (some df) none true os).length co2, .int .i64 0]) ∧ LAt E F so2 co2 (rgO (some df) none true os) S2 ∧ Own E w' (S2 ++ (S ++ (F ++ R))) := by
  replace hO : Own E w (S ++ (F ++ R)) := by have := hO.perm hp.perm; rwa [List.append_assoc] at this
  clear hp hz1
  generalize hpost : (fun (e : Ending) (w' : World) => ∃ (so2 : Option Addr) (co2 : Nat) (S2 : Fr), e = .returned (.tuple #[.slice so2 (rgO (some df) none true os).length co2, .int .i64 0]) ∧ LAt E F so2 co2 (rgO (some df) none true os) S2 ∧ Own E w' (S2 ++ (S ++ (F ++ R)))) = POST
  have HPOST := Lib.hid hpost
  clear hpost
  have HLN := Lib.hid hl
  have HOK := Lib.hid hok
  have HWF := Lib.hid hwf
  have HFC := Lib.hid hfc
  have HFO := Lib.hid (And.intro hfo hfw)
  clear hfc hfo hfw
  clear hok hwf hl
  go_enter Tryd.func20, Tryd.ntmps20
  go_wp2_with fail
  refine (refBound E _ _ (S ++ R) F (.pointer (some adf)) (some df) hF1 (hO.as (F ++ (S ++ R)))).mono ?_
  rw [hb1]
  clear hO
  rintro e w1 ⟨rfl, hO⟩
  go_wp2_with fail
  refine (refBound E _ _ (S ++ R) F (.pointer none) none hF2 hO).mono ?_
  rw [hb2]
  clear hO hF1 hF2 hb1 hb2
  rintro e w2 ⟨rfl, hO⟩
  replace hO : Own E w2 (S ++ (F ++ R)) := hO.as _
  go_wp2_with fail
  have hO1 := hO
  clear hO
  go_loopw [12, 13] (fun o i wr => ∃ (j : Nat) (so2 : Option Addr) (co2 : Nat) (SO : Fr), i = .int .i64 (j : Int) ∧ j ≤ os.length ∧ o = .slice so2 (rgO (some df) none true (os.take j)).length co2 ∧ Sl 32 5 so2 (rgO (some df) none true (os.take j)).length co2 ((rgO (some df) none true (os.take j)).flatMap Oe.v) SO ∧ Own E wr (SO ++ (S ++ (F ++ R)))) (fun _ i _ => os.length - (intOf i).toNat)
  case atStart => exact ⟨0, none, 0, [], rfl, Nat.zero_le _, rfl, Sl.nil _ _, hO1⟩
  case round =>
    clear hO1
    obtain ⟨j, so2, co2, SO, rfl, hj, rfl, hSO, hO⟩ := hrel
    have hl := HLN.out
    by_cases hlt : j < os.length
    · have hj1 : (j : Int) < os.length := by omega
      have g2 : (0 : Int) ≤ (j : Int) := by omega
      have hw0 : IntKind.i64.wrap ((j : Int) + 1) = (j : Int) + 1 := wi_1 j (by omega)
      have hw1 : wrap64 ((j : Int) + 1) = (j : Int) + 1 := w64_1 j (by omega)
      obtain ⟨sb, rfl⟩ := sl_some9 hL.row (by omega)
      obtain ⟨x, hx⟩ : ∃ x, os[j]'hlt = x := ⟨_, rfl⟩
      have hmem : x ∈ os := hx ▸ List.getElem_mem hlt
      have HSC := Lib.hid (show ∀ (Y : Fr) (w : World), Own E w (S ++ Y) → ∀ i v, ([.int .i64 x.e.d.k, .int .i64 x.e.d.n, .string x.e.d.s, .slice x.a x.e.d.l.length x.c, .int .i64 x.e.t] : List Value)[i]? = some v → w.cell? ((⟨sb, j * 5, none⟩ : Addr).add i) = some v from fun Y w h => hL.cells hlt hx h)
      have HXO := Lib.hid (HOK.out x hmem)
      have HXW := Lib.hid (HWF.out x hmem)
      have HXI := Lib.hid (hL.its x hmem)
      have HT := Lib.hid (show os.take (j + 1) = os.take j ++ [x] by rw [List.take_succ_eq_append_getElem hlt, hx])
      have HLT := Lib.hid hlt
      have hwl := rgO_le (some df) none true (os.take j)
      have hwl2 : (os.take j).length ≤ j := by rw [List.length_take]; omega
      generalize hpl : rgO (some df) none true (os.take j) = pl at hSO hwl ⊢
      have HPL := Lib.hid hpl
      have hj64 : pl.length * 64 ≤ 128000000000000 := by omega
      clear hwl hwl2 hpl hx hmem hlt hj hl
      go_wp2_with (first | (refine at_load (t := 30) ?_; go_must (refine own_loadC (ad := ⟨sb, j * 5, none⟩) (cs := [.int .i64 x.e.d.k, .int .i64 x.e.d.n, .string x.e.d.s, .slice x.a x.e.d.l.length x.c]) ?_ (fun i v hi => HSC.out _ _ (hO.as (S ++ [])) i v (pre4 hi)) ?_ ?_ ?_ ?_; (· rfl); (· ((conv => lhs; whnf); try exact rfl)); (· simp; done); (· simp; done); simp only [Act.put, List.setIfInBounds_toArray, List.set_cons_zero, List.set_cons_succ])))
      refine (refEncoded E _ _ (SO ++ (S ++ R)) F x.e.d x.a x.c HXO.out HXW.out HXI.out (hO.as (F ++ (SO ++ (S ++ R))))).mono ?_
      clear hO
      rintro e w4 ⟨rfl, hO⟩
      replace hO : Own E w4 (SO ++ (S ++ (F ++ R))) := hO.as _
      have c0 : w4.cell? ⟨sb, j * 5, none⟩ = some (.int .i64 x.e.d.k) := by have := HSC.out _ _ (hO.as (S ++ [])) 0 _ rfl; rwa [add_lit, Nat.add_zero] at this
      have hlf : Op.bytesLess (encB x.e.d).toList (encB df).toList = decide (x.e.d.enc < df.enc) := by rw [bytes_lt, Lib.toList_data, Lib.toList_data]; rfl
      by_cases k3 : x.e.d.k = 3
      · have hin : inR (some df) none x.e = false := by unfold inR; rw [decide_eq_false (fun h => h k3)]; rfl
        rw [k3] at c0
        have HIN := Lib.hid hin
        clear hin
        go_wp2_with (first | (refine at_load (t := 30) ?_; go_must (refine own_loadC (ad := adf) (cs := [.int .i64 df.k, .int .i64 df.n, .string df.s, .slice af df.l.length cf]) ?_ (HFC.out _ _ (hO.as (F ++ (SO ++ (S ++ R))))) ?_ ?_ ?_ ?_; (· rfl); (· ((conv => lhs; whnf); try exact rfl)); (· simp; done); (· simp; done); simp only [Act.put, List.setIfInBounds_toArray, List.set_cons_zero, List.set_cons_succ])) | (go_at_call 37; go_must (refine (refEncoded E _ _ (SO ++ (S ++ R)) F df af cf HFO.out.1 HFO.out.2 hfI (hO.as (F ++ (SO ++ (S ++ R))))).mono ?_; clear hO; rintro e w5 ⟨rfl, hO⟩; replace hO : Own E w5 (SO ++ (S ++ (F ++ R))) := hO.as _)) | (refine at_load (t := 32) ?_; go_must (refine own_loadC (ad := ⟨sb, j * 5, none⟩) (cs := [.int .i64 x.e.d.k, .int .i64 x.e.d.n, .string x.e.d.s, .slice x.a x.e.d.l.length x.c, .int .i64 x.e.t]) ?_ (HSC.out _ _ (hO.as (S ++ []))) ?_ ?_ ?_ ?_; (· rfl); (· ((conv => lhs; whnf); try exact rfl)); (· simp; done); (· simp; done); simp only [Act.put, List.setIfInBounds_toArray, List.set_cons_zero, List.set_cons_succ])) | (refine at_bs ?_; go_must (refine own_build1 (v := ?_) sltE hO ?_ ?_ ?_ ?_ ?_ ?_; rotate_left; (· rfl); (· ((conv => lhs; whnf); try exact rfl)); (· rfl); (· decide); (· decide); clear hO; (try clear hF); intro bs _ hO; (try simp only [Value.cells] at hO); ((try simp only [List.nil_append, List.append_nil] at hO); have hF := Own.cells hO; simp only [cellsOf_append, cellsOf_pt] at hF); simp only [Act.put, List.setIfInBounds_toArray, List.set_cons_zero, List.set_cons_succ])) | (refine at_append ?_; go_must (refine own_append_elem (b1 := ?_) (cs := ?_) (e1 := ?_) (f1 := ?_) sltE hO ?_ ?_ ?_ hSO ?_ ?_ ?_ ?_ ?_ ?_ ?_; rotate_left 4; (· rfl); (· rfl); (· rfl); (· exact inferInstance); (· rfl); (· intro u hu; simp at hu; rcases hu with rfl | rfl | rfl | rfl | rfl <;> rfl); (· first | omega | (simp only [maxLen]; omega)); (· decide); (· first | omega | (simp only [maxLen]; omega)); clear hO; (try clear hF); intro so3 co3 SO3 w6 hSO3 hO; ((try simp only [List.nil_append, List.append_nil] at hO); have hF := Own.cells hO; simp only [cellsOf_append, cellsOf_pt] at hF); simp only [Act.put, List.setIfInBounds_toArray, List.set_cons_zero, List.set_cons_succ])))
        have hlt := HLT.out
        go_roundw
        case rel => exact ⟨j + 1, so2, co2, SO, by go_num, hlt, by rw [HT.out, rgO_skip HIN.out, HPL.out], by rw [HT.out, rgO_skip HIN.out, HPL.out]; exact hSO, hO⟩
        case measure => (clear hw0 hw1; simp [intOf]; omega)
      · have hk3 : (x.e.d.k == 3) = false := beq_eq_false_iff_ne.2 k3
        cases hf1 : decide (x.e.d.enc < df.enc)
        · rw [hf1] at hlf
          · have hin : inR (some df) none x.e = true := by unfold inR; rw [decide_eq_true k3]; simp only [hf1]; rfl
            have HIN := Lib.hid hin
            clear hin k3
            go_wp2_with (first | (refine at_load (t := 30) ?_; go_must (refine own_loadC (ad := adf) (cs := [.int .i64 df.k, .int .i64 df.n, .string df.s, .slice af df.l.length cf]) ?_ (HFC.out _ _ (hO.as (F ++ (SO ++ (S ++ R))))) ?_ ?_ ?_ ?_; (· rfl); (· ((conv => lhs; whnf); try exact rfl)); (· simp; done); (· simp; done); simp only [Act.put, List.setIfInBounds_toArray, List.set_cons_zero, List.set_cons_succ])) | (go_at_call 37; go_must (refine (refEncoded E _ _ (SO ++ (S ++ R)) F df af cf HFO.out.1 HFO.out.2 hfI (hO.as (F ++ (SO ++ (S ++ R))))).mono ?_; clear hO; rintro e w5 ⟨rfl, hO⟩; replace hO : Own E w5 (SO ++ (S ++ (F ++ R))) := hO.as _)) | (refine at_load (t := 32) ?_; go_must (refine own_loadC (ad := ⟨sb, j * 5, none⟩) (cs := [.int .i64 x.e.d.k, .int .i64 x.e.d.n, .string x.e.d.s, .slice x.a x.e.d.l.length x.c, .int .i64 x.e.t]) ?_ (HSC.out _ _ (hO.as (S ++ []))) ?_ ?_ ?_ ?_; (· rfl); (· ((conv => lhs; whnf); try exact rfl)); (· simp; done); (· simp; done); simp only [Act.put, List.setIfInBounds_toArray, List.set_cons_zero, List.set_cons_succ])) | (refine at_bs ?_; go_must (refine own_build1 (v := ?_) sltE hO ?_ ?_ ?_ ?_ ?_ ?_; rotate_left; (· rfl); (· ((conv => lhs; whnf); try exact rfl)); (· rfl); (· decide); (· decide); clear hO; (try clear hF); intro bs _ hO; (try simp only [Value.cells] at hO); ((try simp only [List.nil_append, List.append_nil] at hO); have hF := Own.cells hO; simp only [cellsOf_append, cellsOf_pt] at hF); simp only [Act.put, List.setIfInBounds_toArray, List.set_cons_zero, List.set_cons_succ])) | ((have hzz : so3 = so3 := rfl); clear hzz; refine at_append ?_; refine Stop.go ?_) | (refine at_append ?_; go_must (refine own_append_elem (A := []) (xs := []) (sa := none) (n := 0) (cap := 0) (b1 := ?_) (cs := ?_) (e1 := ?_) (f1 := ?_) sltE hO ?_ ?_ ?_ (Sl.nil _ _) ?_ ?_ ?_ ?_ ?_ ?_ ?_; rotate_left 4; (· rfl); (· rfl); (· rfl); (· exact inferInstance); (· rfl); (· intro u hu; simp at hu; rcases hu with rfl | rfl | rfl | rfl | rfl <;> rfl); (· first | omega | (simp only [maxLen]; omega)); (· decide); (· first | omega | (simp only [maxLen]; omega)); clear hO; (try clear hF); intro so3 co3 SO3 w6 hSO3 hO; simp only [Act.put, List.setIfInBounds_toArray, List.set_cons_zero, List.set_cons_succ])))
            refine ⟨?_⟩
            refine own_append (sz := 5) (bytes := 64) (z := .agg #[.int .i64 0, .int .i64 0, .string .empty, .slice none 0 0, .int .i64 0]) (e := 32) (xv := .slice so2 pl.length co2) (m := pl.length) (news := pl.flatMap Oe.v) sltE (.inl (by kernel_rfl)) hO ?_ ?_ ?_ hSO3 ?_ ?_ ?_ ?_ ?_ ?_ ?_
            · rfl
            · rfl
            · rfl
            · intro w; rfl
            · intro w' hO'; exact hSO.firstCells hO'
            · rw [rows_len Oe.v 5 Oe.len]
            · exact oes_one _
            · simp only [maxLen]; omega
            · left; omega
            clear hO
            intro so5 co5 SO5 w7 hSO5 hO
            simp only [Act.put, List.setIfInBounds_toArray, List.set_cons_zero, List.set_cons_succ]
            go_wp2_with fail
            have hlt := HLT.out
            go_roundw
            case rel =>
              refine ⟨j + 1, so5, co5, SO5, by go_num, hlt, ?p1, ?p2, hO.as _⟩
              case p1 => rw [HT.out, rgO_bwd HIN.out, HPL.out, List.length_cons, Nat.add_comm]
              case p2 => rw [HT.out, rgO_bwd HIN.out, HPL.out, List.length_cons, List.flatMap_cons, Nat.add_comm]; exact hSO5
            case measure => (clear hw0 hw1; simp [intOf]; omega)
        · rw [hf1] at hlf
          · have hin : inR (some df) none x.e = false := by unfold inR; simp only [hf1]; simp
            have HIN := Lib.hid hin
            clear hin k3
            go_wp2_with (first | (refine at_load (t := 30) ?_; go_must (refine own_loadC (ad := adf) (cs := [.int .i64 df.k, .int .i64 df.n, .string df.s, .slice af df.l.length cf]) ?_ (HFC.out _ _ (hO.as (F ++ (SO ++ (S ++ R))))) ?_ ?_ ?_ ?_; (· rfl); (· ((conv => lhs; whnf); try exact rfl)); (· simp; done); (· simp; done); simp only [Act.put, List.setIfInBounds_toArray, List.set_cons_zero, List.set_cons_succ])) | (go_at_call 37; go_must (refine (refEncoded E _ _ (SO ++ (S ++ R)) F df af cf HFO.out.1 HFO.out.2 hfI (hO.as (F ++ (SO ++ (S ++ R))))).mono ?_; clear hO; rintro e w5 ⟨rfl, hO⟩; replace hO : Own E w5 (SO ++ (S ++ (F ++ R))) := hO.as _)) | (refine at_load (t := 32) ?_; go_must (refine own_loadC (ad := ⟨sb, j * 5, none⟩) (cs := [.int .i64 x.e.d.k, .int .i64 x.e.d.n, .string x.e.d.s, .slice x.a x.e.d.l.length x.c, .int .i64 x.e.t]) ?_ (HSC.out _ _ (hO.as (S ++ []))) ?_ ?_ ?_ ?_; (· rfl); (· ((conv => lhs; whnf); try exact rfl)); (· simp; done); (· simp; done); simp only [Act.put, List.setIfInBounds_toArray, List.set_cons_zero, List.set_cons_succ])) | (refine at_bs ?_; go_must (refine own_build1 (v := ?_) sltE hO ?_ ?_ ?_ ?_ ?_ ?_; rotate_left; (· rfl); (· ((conv => lhs; whnf); try exact rfl)); (· rfl); (· decide); (· decide); clear hO; (try clear hF); intro bs _ hO; (try simp only [Value.cells] at hO); ((try simp only [List.nil_append, List.append_nil] at hO); have hF := Own.cells hO; simp only [cellsOf_append, cellsOf_pt] at hF); simp only [Act.put, List.setIfInBounds_toArray, List.set_cons_zero, List.set_cons_succ])) | (refine at_append ?_; go_must (refine own_append_elem (b1 := ?_) (cs := ?_) (e1 := ?_) (f1 := ?_) sltE hO ?_ ?_ ?_ hSO ?_ ?_ ?_ ?_ ?_ ?_ ?_; rotate_left 4; (· rfl); (· rfl); (· rfl); (· exact inferInstance); (· rfl); (· intro u hu; simp at hu; rcases hu with rfl | rfl | rfl | rfl | rfl <;> rfl); (· first | omega | (simp only [maxLen]; omega)); (· decide); (· first | omega | (simp only [maxLen]; omega)); clear hO; (try clear hF); intro so3 co3 SO3 w6 hSO3 hO; ((try simp only [List.nil_append, List.append_nil] at hO); have hF := Own.cells hO; simp only [cellsOf_append, cellsOf_pt] at hF); simp only [Act.put, List.setIfInBounds_toArray, List.set_cons_zero, List.set_cons_succ])))
            have hlt := HLT.out
            go_roundw
            case rel => exact ⟨j + 1, so2, co2, SO, by go_num, hlt, by rw [HT.out, rgO_skip HIN.out, HPL.out], by rw [HT.out, rgO_skip HIN.out, HPL.out]; exact hSO, hO⟩
            case measure => (clear hw0 hw1; simp [intOf]; omega)
    · obtain rfl : j = os.length := Nat.le_antisymm hj (Nat.le_of_not_lt hlt)
      have hjj : ¬ (os.length : Int) < os.length := by omega
      clear hj hlt hl
      rw [List.take_length] at hSO ⊢
      go_wp2_with fail
      rw [← HPOST.out]
      exact ⟨so2, co2, SO, rfl, ⟨hSO, fun o ho => hL.its o (rgO_mem ho)⟩, hO⟩
set_option maxRecDepth 100000 in
set_option maxHeartbeats 16000000 in
theorem rng110 (E w : World) (X R S F : Fr) (so : Option Addr) (co : Nat) (os : List Oe) (hl : os.length ≤ 2000000000000) (hok : ∀ o ∈ os, o.e.d.ok = true) (hwf : ∀ o ∈ os, o.e.d.wf) (hL : LAt E F so co os S) (adf : Addr) (df : Dt) (af : Option Addr) (cf : Nat) (hfo : df.ok = true) (hfw : df.wf) (hfI : ItemsAt E F af df.l) (hfc : ∀ (Y : Fr) (w : World), Own E w (F ++ Y) → ∀ j u, ([.int .i64 df.k, .int .i64 df.n, .string df.s, .slice af df.l.length cf] : List Value)[j]? = some u → w.cell? (adf.add j) = some u) (adt : Addr) (dt : Dt) (at_ : Option Addr) (ct : Nat) (hto : dt.ok = true) (htw : dt.wf) (htI : ItemsAt E F at_ dt.l) (htc : ∀ (Y : Fr) (w : World), Own E w (F ++ Y) → ∀ j u, ([.int .i64 dt.k, .int .i64 dt.n, .string dt.s, .slice at_ dt.l.length ct] : List Value)[j]? = some u → w.cell? (adt.add j) = some u) (hz1 : rgE (some df) (some dt) = 0) (hb1 : bdR (some df) = 0) (hb2 : bdR (some dt) = 0) (hF1 : BdAt E F (.pointer (some adf)) (some df)) (hF2 : BdAt E F (.pointer (some adt)) (some dt)) (hO : Own E w X) [hp : Pick X (S ++ F) R] :
    Calls Tryd.prog 20 #[.slice so os.length co, (.pointer (some adf)), (.pointer (some adt)), .bool false] w fun e w' => ∃ (so2 : Option Addr) (co2 : Nat) (S2 : Fr), e = .returned (.tuple #[.slice so2 (rgO (some df) (some dt) false os).length co2, .int .i64 0]) ∧ LAt E F so2 co2 (rgO (some df) (some dt) false os) S2 ∧ Own E w' (S2 ++ (S ++ (F ++ R))) := by
  replace hO : Own E w (S ++ (F ++ R)) := by have := hO.perm hp.perm; rwa [List.append_assoc] at this
  clear hp hz1
  generalize hpost : (fun (e : Ending) (w' : World) => ∃ (so2 : Option Addr) (co2 : Nat) (S2 : Fr), e = .returned (.tuple #[.slice so2 (rgO (some df) (some dt) false os).length co2, .int .i64 0]) ∧ LAt E F so2 co2 (rgO (some df) (some dt) false os) S2 ∧ Own E w' (S2 ++ (S ++ (F ++ R)))) = POST
  have HPOST := Lib.hid hpost
  clear hpost
  have HLN := Lib.hid hl
  have HOK := Lib.hid hok
  have HWF := Lib.hid hwf
  have HFC := Lib.hid hfc
  have HFO := Lib.hid (And.intro hfo hfw)
  clear hfc hfo hfw
  have HTC := Lib.hid htc
  have HTO := Lib.hid (And.intro hto htw)
  clear htc hto htw
  clear hok hwf hl
  go_enter Tryd.func20, Tryd.ntmps20
  go_wp2_with fail
  refine (refBound E _ _ (S ++ R) F (.pointer (some adf)) (some df) hF1 (hO.as (F ++ (S ++ R)))).mono ?_
  rw [hb1]
  clear hO
  rintro e w1 ⟨rfl, hO⟩
  go_wp2_with fail
  refine (refBound E _ _ (S ++ R) F (.pointer (some adt)) (some dt) hF2 hO).mono ?_
  rw [hb2]
  clear hO hF1 hF2 hb1 hb2
  rintro e w2 ⟨rfl, hO⟩
  replace hO : Own E w2 (S ++ (F ++ R)) := hO.as _
  go_wp2_with fail
  have hO1 := hO
  clear hO
  go_loopw [12, 13] (fun o i wr => ∃ (j : Nat) (so2 : Option Addr) (co2 : Nat) (SO : Fr), i = .int .i64 (j : Int) ∧ j ≤ os.length ∧ o = .slice so2 (rgO (some df) (some dt) false (os.take j)).length co2 ∧ Sl 32 5 so2 (rgO (some df) (some dt) false (os.take j)).length co2 ((rgO (some df) (some dt) false (os.take j)).flatMap Oe.v) SO ∧ Own E wr (SO ++ (S ++ (F ++ R)))) (fun _ i _ => os.length - (intOf i).toNat)
  case atStart => exact ⟨0, none, 0, [], rfl, Nat.zero_le _, rfl, Sl.nil _ _, hO1⟩
  case round =>
    clear hO1
    obtain ⟨j, so2, co2, SO, rfl, hj, rfl, hSO, hO⟩ := hrel
    have hl := HLN.out
    by_cases hlt : j < os.length
    · have hj1 : (j : Int) < os.length := by omega
      have g2 : (0 : Int) ≤ (j : Int) := by omega
      have hw0 : IntKind.i64.wrap ((j : Int) + 1) = (j : Int) + 1 := wi_1 j (by omega)
      have hw1 : wrap64 ((j : Int) + 1) = (j : Int) + 1 := w64_1 j (by omega)
      obtain ⟨sb, rfl⟩ := sl_some9 hL.row (by omega)
      obtain ⟨x, hx⟩ : ∃ x, os[j]'hlt = x := ⟨_, rfl⟩
      have hmem : x ∈ os := hx ▸ List.getElem_mem hlt
      have HSC := Lib.hid (show ∀ (Y : Fr) (w : World), Own E w (S ++ Y) → ∀ i v, ([.int .i64 x.e.d.k, .int .i64 x.e.d.n, .string x.e.d.s, .slice x.a x.e.d.l.length x.c, .int .i64 x.e.t] : List Value)[i]? = some v → w.cell? ((⟨sb, j * 5, none⟩ : Addr).add i) = some v from fun Y w h => hL.cells hlt hx h)
      have HXO := Lib.hid (HOK.out x hmem)
      have HXW := Lib.hid (HWF.out x hmem)
      have HXI := Lib.hid (hL.its x hmem)
      have HT := Lib.hid (show os.take (j + 1) = os.take j ++ [x] by rw [List.take_succ_eq_append_getElem hlt, hx])
      have HLT := Lib.hid hlt
      have hwl := rgO_le (some df) (some dt) false (os.take j)
      have hwl2 : (os.take j).length ≤ j := by rw [List.length_take]; omega
      generalize hpl : rgO (some df) (some dt) false (os.take j) = pl at hSO hwl ⊢
      have HPL := Lib.hid hpl
      have hj64 : pl.length * 64 ≤ 128000000000000 := by omega
      clear hwl hwl2 hpl hx hmem hlt hj hl
      go_wp2_with (first | (refine at_load (t := 30) ?_; go_must (refine own_loadC (ad := ⟨sb, j * 5, none⟩) (cs := [.int .i64 x.e.d.k, .int .i64 x.e.d.n, .string x.e.d.s, .slice x.a x.e.d.l.length x.c]) ?_ (fun i v hi => HSC.out _ _ (hO.as (S ++ [])) i v (pre4 hi)) ?_ ?_ ?_ ?_; (· rfl); (· ((conv => lhs; whnf); try exact rfl)); (· simp; done); (· simp; done); simp only [Act.put, List.setIfInBounds_toArray, List.set_cons_zero, List.set_cons_succ])))
      refine (refEncoded E _ _ (SO ++ (S ++ R)) F x.e.d x.a x.c HXO.out HXW.out HXI.out (hO.as (F ++ (SO ++ (S ++ R))))).mono ?_
      clear hO
      rintro e w4 ⟨rfl, hO⟩
      replace hO : Own E w4 (SO ++ (S ++ (F ++ R))) := hO.as _
      have c0 : w4.cell? ⟨sb, j * 5, none⟩ = some (.int .i64 x.e.d.k) := by have := HSC.out _ _ (hO.as (S ++ [])) 0 _ rfl; rwa [add_lit, Nat.add_zero] at this
      have hlf : Op.bytesLess (encB x.e.d).toList (encB df).toList = decide (x.e.d.enc < df.enc) := by rw [bytes_lt, Lib.toList_data, Lib.toList_data]; rfl
      have hlt1 : Op.bytesLess (encB x.e.d).toList (encB dt).toList = decide (x.e.d.enc < dt.enc) := by rw [bytes_lt, Lib.toList_data, Lib.toList_data]; rfl
      have hlt2 := encB_beq x.e.d dt
      have hgt := gt_dec x.e.d.enc dt.enc
      by_cases k3 : x.e.d.k = 3
      · have hin : inR (some df) (some dt) x.e = false := by unfold inR; rw [decide_eq_false (fun h => h k3)]; rfl
        rw [k3] at c0
        have HIN := Lib.hid hin
        clear hin
        go_wp2_with (first | ((have hzz : True := m1); clear hzz; refine at_load (t := 30) ?_; go_must (refine own_loadC (ad := adt) (cs := [.int .i64 dt.k, .int .i64 dt.n, .string dt.s, .slice at_ dt.l.length ct]) ?_ (HTC.out _ _ (hO.as (F ++ (SO ++ (S ++ R))))) ?_ ?_ ?_ ?_; (· rfl); (· ((conv => lhs; whnf); try exact rfl)); (· simp; done); (· simp; done); simp only [Act.put, List.setIfInBounds_toArray, List.set_cons_zero, List.set_cons_succ])) | (refine at_load (t := 30) ?_; go_must (refine own_loadC (ad := adf) (cs := [.int .i64 df.k, .int .i64 df.n, .string df.s, .slice af df.l.length cf]) ?_ (HFC.out _ _ (hO.as (F ++ (SO ++ (S ++ R))))) ?_ ?_ ?_ ?_; (· rfl); (· ((conv => lhs; whnf); try exact rfl)); (· simp; done); (· simp; done); simp only [Act.put, List.setIfInBounds_toArray, List.set_cons_zero, List.set_cons_succ])) | ((have hzz : True := m1); clear hzz; go_at_call 37; go_must (refine (refEncoded E _ _ (SO ++ (S ++ R)) F dt at_ ct HTO.out.1 HTO.out.2 htI (hO.as (F ++ (SO ++ (S ++ R))))).mono ?_; clear hO; rintro e w5 ⟨rfl, hO⟩; replace hO : Own E w5 (SO ++ (S ++ (F ++ R))) := hO.as _)) | (go_at_call 37; go_must (refine (refEncoded E _ _ (SO ++ (S ++ R)) F df af cf HFO.out.1 HFO.out.2 hfI (hO.as (F ++ (SO ++ (S ++ R))))).mono ?_; clear hO; rintro e w5 ⟨rfl, hO⟩; replace hO : Own E w5 (SO ++ (S ++ (F ++ R))) := hO.as _; have m1 : True := trivial)) | (refine at_load (t := 32) ?_; go_must (refine own_loadC (ad := ⟨sb, j * 5, none⟩) (cs := [.int .i64 x.e.d.k, .int .i64 x.e.d.n, .string x.e.d.s, .slice x.a x.e.d.l.length x.c, .int .i64 x.e.t]) ?_ (HSC.out _ _ (hO.as (S ++ []))) ?_ ?_ ?_ ?_; (· rfl); (· ((conv => lhs; whnf); try exact rfl)); (· simp; done); (· simp; done); simp only [Act.put, List.setIfInBounds_toArray, List.set_cons_zero, List.set_cons_succ])) | (refine at_bs ?_; go_must (refine own_build1 (v := ?_) sltE hO ?_ ?_ ?_ ?_ ?_ ?_; rotate_left; (· rfl); (· ((conv => lhs; whnf); try exact rfl)); (· rfl); (· decide); (· decide); clear hO; (try clear hF); intro bs _ hO; (try simp only [Value.cells] at hO); ((try simp only [List.nil_append, List.append_nil] at hO); have hF := Own.cells hO; simp only [cellsOf_append, cellsOf_pt] at hF); simp only [Act.put, List.setIfInBounds_toArray, List.set_cons_zero, List.set_cons_succ])) | (refine at_append ?_; go_must (refine own_append_elem (b1 := ?_) (cs := ?_) (e1 := ?_) (f1 := ?_) sltE hO ?_ ?_ ?_ hSO ?_ ?_ ?_ ?_ ?_ ?_ ?_; rotate_left 4; (· rfl); (· rfl); (· rfl); (· exact inferInstance); (· rfl); (· intro u hu; simp at hu; rcases hu with rfl | rfl | rfl | rfl | rfl <;> rfl); (· first | omega | (simp only [maxLen]; omega)); (· decide); (· first | omega | (simp only [maxLen]; omega)); clear hO; (try clear hF); intro so3 co3 SO3 w6 hSO3 hO; ((try simp only [List.nil_append, List.append_nil] at hO); have hF := Own.cells hO; simp only [cellsOf_append, cellsOf_pt] at hF); simp only [Act.put, List.setIfInBounds_toArray, List.set_cons_zero, List.set_cons_succ])))
        have hlt := HLT.out
        go_roundw
        case rel => exact ⟨j + 1, so2, co2, SO, by go_num, hlt, by rw [HT.out, rgO_skip HIN.out, HPL.out], by rw [HT.out, rgO_skip HIN.out, HPL.out]; exact hSO, hO⟩
        case measure => (clear hw0 hw1; simp [intOf]; omega)
      · have hk3 : (x.e.d.k == 3) = false := beq_eq_false_iff_ne.2 k3
        cases hf1 : decide (x.e.d.enc < df.enc)
        · rw [hf1] at hlf
          · skip
            cases hp1 : decide (x.e.d.enc < dt.enc)
            · rw [hp1] at hlt1 hgt
              cases hp2 : decide (x.e.d.enc = dt.enc)
              · rw [hp2] at hlt2 hgt
                · have hin : inR (some df) (some dt) x.e = false := by unfold inR; simp only [hgt]; simp
                  have HIN := Lib.hid hin
                  clear hin hp1 hp2 hgt k3
                  go_wp2_with (first | ((have hzz : True := m1); clear hzz; refine at_load (t := 30) ?_; go_must (refine own_loadC (ad := adt) (cs := [.int .i64 dt.k, .int .i64 dt.n, .string dt.s, .slice at_ dt.l.length ct]) ?_ (HTC.out _ _ (hO.as (F ++ (SO ++ (S ++ R))))) ?_ ?_ ?_ ?_; (· rfl); (· ((conv => lhs; whnf); try exact rfl)); (· simp; done); (· simp; done); simp only [Act.put, List.setIfInBounds_toArray, List.set_cons_zero, List.set_cons_succ])) | (refine at_load (t := 30) ?_; go_must (refine own_loadC (ad := adf) (cs := [.int .i64 df.k, .int .i64 df.n, .string df.s, .slice af df.l.length cf]) ?_ (HFC.out _ _ (hO.as (F ++ (SO ++ (S ++ R))))) ?_ ?_ ?_ ?_; (· rfl); (· ((conv => lhs; whnf); try exact rfl)); (· simp; done); (· simp; done); simp only [Act.put, List.setIfInBounds_toArray, List.set_cons_zero, List.set_cons_succ])) | ((have hzz : True := m1); clear hzz; go_at_call 37; go_must (refine (refEncoded E _ _ (SO ++ (S ++ R)) F dt at_ ct HTO.out.1 HTO.out.2 htI (hO.as (F ++ (SO ++ (S ++ R))))).mono ?_; clear hO; rintro e w5 ⟨rfl, hO⟩; replace hO : Own E w5 (SO ++ (S ++ (F ++ R))) := hO.as _)) | (go_at_call 37; go_must (refine (refEncoded E _ _ (SO ++ (S ++ R)) F df af cf HFO.out.1 HFO.out.2 hfI (hO.as (F ++ (SO ++ (S ++ R))))).mono ?_; clear hO; rintro e w5 ⟨rfl, hO⟩; replace hO : Own E w5 (SO ++ (S ++ (F ++ R))) := hO.as _; have m1 : True := trivial)) | (refine at_load (t := 32) ?_; go_must (refine own_loadC (ad := ⟨sb, j * 5, none⟩) (cs := [.int .i64 x.e.d.k, .int .i64 x.e.d.n, .string x.e.d.s, .slice x.a x.e.d.l.length x.c, .int .i64 x.e.t]) ?_ (HSC.out _ _ (hO.as (S ++ []))) ?_ ?_ ?_ ?_; (· rfl); (· ((conv => lhs; whnf); try exact rfl)); (· simp; done); (· simp; done); simp only [Act.put, List.setIfInBounds_toArray, List.set_cons_zero, List.set_cons_succ])) | (refine at_bs ?_; go_must (refine own_build1 (v := ?_) sltE hO ?_ ?_ ?_ ?_ ?_ ?_; rotate_left; (· rfl); (· ((conv => lhs; whnf); try exact rfl)); (· rfl); (· decide); (· decide); clear hO; (try clear hF); intro bs _ hO; (try simp only [Value.cells] at hO); ((try simp only [List.nil_append, List.append_nil] at hO); have hF := Own.cells hO; simp only [cellsOf_append, cellsOf_pt] at hF); simp only [Act.put, List.setIfInBounds_toArray, List.set_cons_zero, List.set_cons_succ])) | (refine at_append ?_; go_must (refine own_append_elem (b1 := ?_) (cs := ?_) (e1 := ?_) (f1 := ?_) sltE hO ?_ ?_ ?_ hSO ?_ ?_ ?_ ?_ ?_ ?_ ?_; rotate_left 4; (· rfl); (· rfl); (· rfl); (· exact inferInstance); (· rfl); (· intro u hu; simp at hu; rcases hu with rfl | rfl | rfl | rfl | rfl <;> rfl); (· first | omega | (simp only [maxLen]; omega)); (· decide); (· first | omega | (simp only [maxLen]; omega)); clear hO; (try clear hF); intro so3 co3 SO3 w6 hSO3 hO; ((try simp only [List.nil_append, List.append_nil] at hO); have hF := Own.cells hO; simp only [cellsOf_append, cellsOf_pt] at hF); simp only [Act.put, List.setIfInBounds_toArray, List.set_cons_zero, List.set_cons_succ])))
                  have hlt := HLT.out
                  go_roundw
                  case rel => exact ⟨j + 1, so2, co2, SO, by go_num, hlt, by rw [HT.out, rgO_skip HIN.out, HPL.out], by rw [HT.out, rgO_skip HIN.out, HPL.out]; exact hSO, hO⟩
                  case measure => (clear hw0 hw1; simp [intOf]; omega)
              · rw [hp2] at hlt2 hgt
                · have hin : inR (some df) (some dt) x.e = true := by unfold inR; simp only [hgt]; rw [decide_eq_true k3]; simp only [hf1]; rfl
                  have HIN := Lib.hid hin
                  clear hin hp1 hp2 hgt k3
                  go_wp2_with (first | ((have hzz : True := m1); clear hzz; refine at_load (t := 30) ?_; go_must (refine own_loadC (ad := adt) (cs := [.int .i64 dt.k, .int .i64 dt.n, .string dt.s, .slice at_ dt.l.length ct]) ?_ (HTC.out _ _ (hO.as (F ++ (SO ++ (S ++ R))))) ?_ ?_ ?_ ?_; (· rfl); (· ((conv => lhs; whnf); try exact rfl)); (· simp; done); (· simp; done); simp only [Act.put, List.setIfInBounds_toArray, List.set_cons_zero, List.set_cons_succ])) | (refine at_load (t := 30) ?_; go_must (refine own_loadC (ad := adf) (cs := [.int .i64 df.k, .int .i64 df.n, .string df.s, .slice af df.l.length cf]) ?_ (HFC.out _ _ (hO.as (F ++ (SO ++ (S ++ R))))) ?_ ?_ ?_ ?_; (· rfl); (· ((conv => lhs; whnf); try exact rfl)); (· simp; done); (· simp; done); simp only [Act.put, List.setIfInBounds_toArray, List.set_cons_zero, List.set_cons_succ])) | ((have hzz : True := m1); clear hzz; go_at_call 37; go_must (refine (refEncoded E _ _ (SO ++ (S ++ R)) F dt at_ ct HTO.out.1 HTO.out.2 htI (hO.as (F ++ (SO ++ (S ++ R))))).mono ?_; clear hO; rintro e w5 ⟨rfl, hO⟩; replace hO : Own E w5 (SO ++ (S ++ (F ++ R))) := hO.as _)) | (go_at_call 37; go_must (refine (refEncoded E _ _ (SO ++ (S ++ R)) F df af cf HFO.out.1 HFO.out.2 hfI (hO.as (F ++ (SO ++ (S ++ R))))).mono ?_; clear hO; rintro e w5 ⟨rfl, hO⟩; replace hO : Own E w5 (SO ++ (S ++ (F ++ R))) := hO.as _; have m1 : True := trivial)) | (refine at_load (t := 32) ?_; go_must (refine own_loadC (ad := ⟨sb, j * 5, none⟩) (cs := [.int .i64 x.e.d.k, .int .i64 x.e.d.n, .string x.e.d.s, .slice x.a x.e.d.l.length x.c, .int .i64 x.e.t]) ?_ (HSC.out _ _ (hO.as (S ++ []))) ?_ ?_ ?_ ?_; (· rfl); (· ((conv => lhs; whnf); try exact rfl)); (· simp; done); (· simp; done); simp only [Act.put, List.setIfInBounds_toArray, List.set_cons_zero, List.set_cons_succ])) | (refine at_bs ?_; go_must (refine own_build1 (v := ?_) sltE hO ?_ ?_ ?_ ?_ ?_ ?_; rotate_left; (· rfl); (· ((conv => lhs; whnf); try exact rfl)); (· rfl); (· decide); (· decide); clear hO; (try clear hF); intro bs _ hO; (try simp only [Value.cells] at hO); ((try simp only [List.nil_append, List.append_nil] at hO); have hF := Own.cells hO; simp only [cellsOf_append, cellsOf_pt] at hF); simp only [Act.put, List.setIfInBounds_toArray, List.set_cons_zero, List.set_cons_succ])) | (refine at_append ?_; go_must (refine own_append_elem (b1 := ?_) (cs := ?_) (e1 := ?_) (f1 := ?_) sltE hO ?_ ?_ ?_ hSO ?_ ?_ ?_ ?_ ?_ ?_ ?_; rotate_left 4; (· rfl); (· rfl); (· rfl); (· exact inferInstance); (· rfl); (· intro u hu; simp at hu; rcases hu with rfl | rfl | rfl | rfl | rfl <;> rfl); (· first | omega | (simp only [maxLen]; omega)); (· decide); (· first | omega | (simp only [maxLen]; omega)); clear hO; (try clear hF); intro so3 co3 SO3 w6 hSO3 hO; ((try simp only [List.nil_append, List.append_nil] at hO); have hF := Own.cells hO; simp only [cellsOf_append, cellsOf_pt] at hF); simp only [Act.put, List.setIfInBounds_toArray, List.set_cons_zero, List.set_cons_succ])))
                  have hlt := HLT.out
                  go_roundw
                  case rel =>
                    refine ⟨j + 1, so3, co3, SO3, by go_num, hlt, ?p1, ?p2, hO.as _⟩
                    case p1 => rw [HT.out, rgO_fwd HIN.out, HPL.out, List.length_append]; rfl
                    case p2 => rw [HT.out, rgO_fwd HIN.out, HPL.out, List.length_append, List.flatMap_append]; exact hSO3
                  case measure => (clear hw0 hw1; simp [intOf]; omega)
            · rw [hp1] at hlt1 hgt
              · have hin : inR (some df) (some dt) x.e = true := by unfold inR; simp only [hgt]; rw [decide_eq_true k3]; simp only [hf1]; rfl
                have HIN := Lib.hid hin
                clear hin hp1 hgt k3
                go_wp2_with (first | ((have hzz : True := m1); clear hzz; refine at_load (t := 30) ?_; go_must (refine own_loadC (ad := adt) (cs := [.int .i64 dt.k, .int .i64 dt.n, .string dt.s, .slice at_ dt.l.length ct]) ?_ (HTC.out _ _ (hO.as (F ++ (SO ++ (S ++ R))))) ?_ ?_ ?_ ?_; (· rfl); (· ((conv => lhs; whnf); try exact rfl)); (· simp; done); (· simp; done); simp only [Act.put, List.setIfInBounds_toArray, List.set_cons_zero, List.set_cons_succ])) | (refine at_load (t := 30) ?_; go_must (refine own_loadC (ad := adf) (cs := [.int .i64 df.k, .int .i64 df.n, .string df.s, .slice af df.l.length cf]) ?_ (HFC.out _ _ (hO.as (F ++ (SO ++ (S ++ R))))) ?_ ?_ ?_ ?_; (· rfl); (· ((conv => lhs; whnf); try exact rfl)); (· simp; done); (· simp; done); simp only [Act.put, List.setIfInBounds_toArray, List.set_cons_zero, List.set_cons_succ])) | ((have hzz : True := m1); clear hzz; go_at_call 37; go_must (refine (refEncoded E _ _ (SO ++ (S ++ R)) F dt at_ ct HTO.out.1 HTO.out.2 htI (hO.as (F ++ (SO ++ (S ++ R))))).mono ?_; clear hO; rintro e w5 ⟨rfl, hO⟩; replace hO : Own E w5 (SO ++ (S ++ (F ++ R))) := hO.as _)) | (go_at_call 37; go_must (refine (refEncoded E _ _ (SO ++ (S ++ R)) F df af cf HFO.out.1 HFO.out.2 hfI (hO.as (F ++ (SO ++ (S ++ R))))).mono ?_; clear hO; rintro e w5 ⟨rfl, hO⟩; replace hO : Own E w5 (SO ++ (S ++ (F ++ R))) := hO.as _; have m1 : True := trivial)) | (refine at_load (t := 32) ?_; go_must (refine own_loadC (ad := ⟨sb, j * 5, none⟩) (cs := [.int .i64 x.e.d.k, .int .i64 x.e.d.n, .string x.e.d.s, .slice x.a x.e.d.l.length x.c, .int .i64 x.e.t]) ?_ (HSC.out _ _ (hO.as (S ++ []))) ?_ ?_ ?_ ?_; (· rfl); (· ((conv => lhs; whnf); try exact rfl)); (· simp; done); (· simp; done); simp only [Act.put, List.setIfInBounds_toArray, List.set_cons_zero, List.set_cons_succ])) | (refine at_bs ?_; go_must (refine own_build1 (v := ?_) sltE hO ?_ ?_ ?_ ?_ ?_ ?_; rotate_left; (· rfl); (· ((conv => lhs; whnf); try exact rfl)); (· rfl); (· decide); (· decide); clear hO; (try clear hF); intro bs _ hO; (try simp only [Value.cells] at hO); ((try simp only [List.nil_append, List.append_nil] at hO); have hF := Own.cells hO; simp only [cellsOf_append, cellsOf_pt] at hF); simp only [Act.put, List.setIfInBounds_toArray, List.set_cons_zero, List.set_cons_succ])) | (refine at_append ?_; go_must (refine own_append_elem (b1 := ?_) (cs := ?_) (e1 := ?_) (f1 := ?_) sltE hO ?_ ?_ ?_ hSO ?_ ?_ ?_ ?_ ?_ ?_ ?_; rotate_left 4; (· rfl); (· rfl); (· rfl); (· exact inferInstance); (· rfl); (· intro u hu; simp at hu; rcases hu with rfl | rfl | rfl | rfl | rfl <;> rfl); (· first | omega | (simp only [maxLen]; omega)); (· decide); (· first | omega | (simp only [maxLen]; omega)); clear hO; (try clear hF); intro so3 co3 SO3 w6 hSO3 hO; ((try simp only [List.nil_append, List.append_nil] at hO); have hF := Own.cells hO; simp only [cellsOf_append, cellsOf_pt] at hF); simp only [Act.put, List.setIfInBounds_toArray, List.set_cons_zero, List.set_cons_succ])))
                have hlt := HLT.out
                go_roundw
                case rel =>
                  refine ⟨j + 1, so3, co3, SO3, by go_num, hlt, ?p1, ?p2, hO.as _⟩
                  case p1 => rw [HT.out, rgO_fwd HIN.out, HPL.out, List.length_append]; rfl
                  case p2 => rw [HT.out, rgO_fwd HIN.out, HPL.out, List.length_append, List.flatMap_append]; exact hSO3
                case measure => (clear hw0 hw1; simp [intOf]; omega)
        · rw [hf1] at hlf
          · have hin : inR (some df) (some dt) x.e = false := by unfold inR; simp only [hf1]; simp
            have HIN := Lib.hid hin
            clear hin k3 hlt1 hlt2 hgt
            go_wp2_with (first | ((have hzz : True := m1); clear hzz; refine at_load (t := 30) ?_; go_must (refine own_loadC (ad := adt) (cs := [.int .i64 dt.k, .int .i64 dt.n, .string dt.s, .slice at_ dt.l.length ct]) ?_ (HTC.out _ _ (hO.as (F ++ (SO ++ (S ++ R))))) ?_ ?_ ?_ ?_; (· rfl); (· ((conv => lhs; whnf); try exact rfl)); (· simp; done); (· simp; done); simp only [Act.put, List.setIfInBounds_toArray, List.set_cons_zero, List.set_cons_succ])) | (refine at_load (t := 30) ?_; go_must (refine own_loadC (ad := adf) (cs := [.int .i64 df.k, .int .i64 df.n, .string df.s, .slice af df.l.length cf]) ?_ (HFC.out _ _ (hO.as (F ++ (SO ++ (S ++ R))))) ?_ ?_ ?_ ?_; (· rfl); (· ((conv => lhs; whnf); try exact rfl)); (· simp; done); (· simp; done); simp only [Act.put, List.setIfInBounds_toArray, List.set_cons_zero, List.set_cons_succ])) | ((have hzz : True := m1); clear hzz; go_at_call 37; go_must (refine (refEncoded E _ _ (SO ++ (S ++ R)) F dt at_ ct HTO.out.1 HTO.out.2 htI (hO.as (F ++ (SO ++ (S ++ R))))).mono ?_; clear hO; rintro e w5 ⟨rfl, hO⟩; replace hO : Own E w5 (SO ++ (S ++ (F ++ R))) := hO.as _)) | (go_at_call 37; go_must (refine (refEncoded E _ _ (SO ++ (S ++ R)) F df af cf HFO.out.1 HFO.out.2 hfI (hO.as (F ++ (SO ++ (S ++ R))))).mono ?_; clear hO; rintro e w5 ⟨rfl, hO⟩; replace hO : Own E w5 (SO ++ (S ++ (F ++ R))) := hO.as _; have m1 : True := trivial)) | (refine at_load (t := 32) ?_; go_must (refine own_loadC (ad := ⟨sb, j * 5, none⟩) (cs := [.int .i64 x.e.d.k, .int .i64 x.e.d.n, .string x.e.d.s, .slice x.a x.e.d.l.length x.c, .int .i64 x.e.t]) ?_ (HSC.out _ _ (hO.as (S ++ []))) ?_ ?_ ?_ ?_; (· rfl); (· ((conv => lhs; whnf); try exact rfl)); (· simp; done); (· simp; done); simp only [Act.put, List.setIfInBounds_toArray, List.set_cons_zero, List.set_cons_succ])) | (refine at_bs ?_; go_must (refine own_build1 (v := ?_) sltE hO ?_ ?_ ?_ ?_ ?_ ?_; rotate_left; (· rfl); (· ((conv => lhs; whnf); try exact rfl)); (· rfl); (· decide); (· decide); clear hO; (try clear hF); intro bs _ hO; (try simp only [Value.cells] at hO); ((try simp only [List.nil_append, List.append_nil] at hO); have hF := Own.cells hO; simp only [cellsOf_append, cellsOf_pt] at hF); simp only [Act.put, List.setIfInBounds_toArray, List.set_cons_zero, List.set_cons_succ])) | (refine at_append ?_; go_must (refine own_append_elem (b1 := ?_) (cs := ?_) (e1 := ?_) (f1 := ?_) sltE hO ?_ ?_ ?_ hSO ?_ ?_ ?_ ?_ ?_ ?_ ?_; rotate_left 4; (· rfl); (· rfl); (· rfl); (· exact inferInstance); (· rfl); (· intro u hu; simp at hu; rcases hu with rfl | rfl | rfl | rfl | rfl <;> rfl); (· first | omega | (simp only [maxLen]; omega)); (· decide); (· first | omega | (simp only [maxLen]; omega)); clear hO; (try clear hF); intro so3 co3 SO3 w6 hSO3 hO; ((try simp only [List.nil_append, List.append_nil] at hO); have hF := Own.cells hO; simp only [cellsOf_append, cellsOf_pt] at hF); simp only [Act.put, List.setIfInBounds_toArray, List.set_cons_zero, List.set_cons_succ])))
            have hlt := HLT.out
            go_roundw
            case rel => exact ⟨j + 1, so2, co2, SO, by go_num, hlt, by rw [HT.out, rgO_skip HIN.out, HPL.out], by rw [HT.out, rgO_skip HIN.out, HPL.out]; exact hSO, hO⟩
            case measure => (clear hw0 hw1; simp [intOf]; omega)
    · obtain rfl : j = os.length := Nat.le_antisymm hj (Nat.le_of_not_lt hlt)
      have hjj : ¬ (os.length : Int) < os.length := by omega
      clear hj hlt hl
      rw [List.take_length] at hSO ⊢
      go_wp2_with fail
      rw [← HPOST.out]
      exact ⟨so2, co2, SO, rfl, ⟨hSO, fun o ho => hL.its o (rgO_mem ho)⟩, hO⟩
set_option maxRecDepth 100000 in
set_option maxHeartbeats 16000000 in
theorem rng111 (E w : World) (X R S F : Fr) (so : Option Addr) (co : Nat) (os : List Oe) (hl : os.length ≤ 2000000000000) (hok : ∀ o ∈ os, o.e.d.ok = true) (hwf : ∀ o ∈ os, o.e.d.wf) (hL : LAt E F so co os S) (adf : Addr) (df : Dt) (af : Option Addr) (cf : Nat) (hfo : df.ok = true) (hfw : df.wf) (hfI : ItemsAt E F af df.l) (hfc : ∀ (Y : Fr) (w : World), Own E w (F ++ Y) → ∀ j u, ([.int .i64 df.k, .int .i64 df.n, .string df.s, .slice af df.l.length cf] : List Value)[j]? = some u → w.cell? (adf.add j) = some u) (adt : Addr) (dt : Dt) (at_ : Option Addr) (ct : Nat) (hto : dt.ok = true) (htw : dt.wf) (htI : ItemsAt E F at_ dt.l) (htc : ∀ (Y : Fr) (w : World), Own E w (F ++ Y) → ∀ j u, ([.int .i64 dt.k, .int .i64 dt.n, .string dt.s, .slice at_ dt.l.length ct] : List Value)[j]? = some u → w.cell? (adt.add j) = some u) (hz1 : rgE (some df) (some dt) = 0) (hb1 : bdR (some df) = 0) (hb2 : bdR (some dt) = 0) (hF1 : BdAt E F (.pointer (some adf)) (some df)) (hF2 : BdAt E F (.pointer (some adt)) (some dt)) (hO : Own E w X) [hp : Pick X (S ++ F) R] :
    Calls Tryd.prog 20 #[.slice so os.length co, (.pointer (some adf)), (.pointer (some adt)), .bool true] w fun e w' => ∃ (so2 : Option Addr) (co2 : Nat) (S2 : Fr), e = .returned (.tuple #[.slice so2 (rgO (some df) (some dt) true os).length co2, .int .i64 0]) ∧ LAt E F so2 co2 (rgO (some df) (some dt) true os) S2 ∧ Own E w' (S2 ++ (S ++ (F ++ R))) := by
  replace hO : Own E w (S ++ (F ++ R)) := by have := hO.perm hp.perm; rwa [List.append_assoc] at this
  clear hp hz1
  generalize hpost : (fun (e : Ending) (w' : World) => ∃ (so2 : Option Addr) (co2 : Nat) (S2 : Fr), e = .returned (.tuple #[.slice so2 (rgO (some df) (some dt) true os).length co2, .int .i64 0]) ∧ LAt E F so2 co2 (rgO (some df) (some dt) true os) S2 ∧ Own E w' (S2 ++ (S ++ (F ++ R)))) = POST
  have HPOST := Lib.hid hpost
  clear hpost
  have HLN := Lib.hid hl
  have HOK := Lib.hid hok
  have HWF := Lib.hid hwf
  have HFC := Lib.hid hfc
  have HFO := Lib.hid (And.intro hfo hfw)
  clear hfc hfo hfw
  have HTC := Lib.hid htc
  have HTO := Lib.hid (And.intro hto htw)
  clear htc hto htw
  clear hok hwf hl
  go_enter Tryd.func20, Tryd.ntmps20
  go_wp2_with fail
  refine (refBound E _ _ (S ++ R) F (.pointer (some adf)) (some df) hF1 (hO.as (F ++ (S ++ R)))).mono ?_
  rw [hb1]
  clear hO
  rintro e w1 ⟨rfl, hO⟩
  go_wp2_with fail
  refine (refBound E _ _ (S ++ R) F (.pointer (some adt)) (some dt) hF2 hO).mono ?_
  rw [hb2]
  clear hO hF1 hF2 hb1 hb2
  rintro e w2 ⟨rfl, hO⟩
  replace hO : Own E w2 (S ++ (F ++ R)) := hO.as _
  go_wp2_with fail
  have hO1 := hO
  clear hO
  go_loopw [12, 13] (fun o i wr => ∃ (j : Nat) (so2 : Option Addr) (co2 : Nat) (SO : Fr), i = .int .i64 (j : Int) ∧ j ≤ os.length ∧ o = .slice so2 (rgO (some df) (some dt) true (os.take j)).length co2 ∧ Sl 32 5 so2 (rgO (some df) (some dt) true (os.take j)).length co2 ((rgO (some df) (some dt) true (os.take j)).flatMap Oe.v) SO ∧ Own E wr (SO ++ (S ++ (F ++ R)))) (fun _ i _ => os.length - (intOf i).toNat)
  case atStart => exact ⟨0, none, 0, [], rfl, Nat.zero_le _, rfl, Sl.nil _ _, hO1⟩
  case round =>
    clear hO1
    obtain ⟨j, so2, co2, SO, rfl, hj, rfl, hSO, hO⟩ := hrel
    have hl := HLN.out
    by_cases hlt : j < os.length
    · have hj1 : (j : Int) < os.length := by omega
      have g2 : (0 : Int) ≤ (j : Int) := by omega
      have hw0 : IntKind.i64.wrap ((j : Int) + 1) = (j : Int) + 1 := wi_1 j (by omega)
      have hw1 : wrap64 ((j : Int) + 1) = (j : Int) + 1 := w64_1 j (by omega)
      obtain ⟨sb, rfl⟩ := sl_some9 hL.row (by omega)
      obtain ⟨x, hx⟩ : ∃ x, os[j]'hlt = x := ⟨_, rfl⟩
      have hmem : x ∈ os := hx ▸ List.getElem_mem hlt
      have HSC := Lib.hid (show ∀ (Y : Fr) (w : World), Own E w (S ++ Y) → ∀ i v, ([.int .i64 x.e.d.k, .int .i64 x.e.d.n, .string x.e.d.s, .slice x.a x.e.d.l.length x.c, .int .i64 x.e.t] : List Value)[i]? = some v → w.cell? ((⟨sb, j * 5, none⟩ : Addr).add i) = some v from fun Y w h => hL.cells hlt hx h)
      have HXO := Lib.hid (HOK.out x hmem)
      have HXW := Lib.hid (HWF.out x hmem)
      have HXI := Lib.hid (hL.its x hmem)
      have HT := Lib.hid (show os.take (j + 1) = os.take j ++ [x] by rw [List.take_succ_eq_append_getElem hlt, hx])
      have HLT := Lib.hid hlt
      have hwl := rgO_le (some df) (some dt) true (os.take j)
      have hwl2 : (os.take j).length ≤ j := by rw [List.length_take]; omega
      generalize hpl : rgO (some df) (some dt) true (os.take j) = pl at hSO hwl ⊢
      have HPL := Lib.hid hpl
      have hj64 : pl.length * 64 ≤ 128000000000000 := by omega
      clear hwl hwl2 hpl hx hmem hlt hj hl
      go_wp2_with (first | (refine at_load (t := 30) ?_; go_must (refine own_loadC (ad := ⟨sb, j * 5, none⟩) (cs := [.int .i64 x.e.d.k, .int .i64 x.e.d.n, .string x.e.d.s, .slice x.a x.e.d.l.length x.c]) ?_ (fun i v hi => HSC.out _ _ (hO.as (S ++ [])) i v (pre4 hi)) ?_ ?_ ?_ ?_; (· rfl); (· ((conv => lhs; whnf); try exact rfl)); (· simp; done); (· simp; done); simp only [Act.put, List.setIfInBounds_toArray, List.set_cons_zero, List.set_cons_succ])))
      refine (refEncoded E _ _ (SO ++ (S ++ R)) F x.e.d x.a x.c HXO.out HXW.out HXI.out (hO.as (F ++ (SO ++ (S ++ R))))).mono ?_
      clear hO
      rintro e w4 ⟨rfl, hO⟩
      replace hO : Own E w4 (SO ++ (S ++ (F ++ R))) := hO.as _
      have c0 : w4.cell? ⟨sb, j * 5, none⟩ = some (.int .i64 x.e.d.k) := by have := HSC.out _ _ (hO.as (S ++ [])) 0 _ rfl; rwa [add_lit, Nat.add_zero] at this
      have hlf : Op.bytesLess (encB x.e.d).toList (encB df).toList = decide (x.e.d.enc < df.enc) := by rw [bytes_lt, Lib.toList_data, Lib.toList_data]; rfl
      have hlt1 : Op.bytesLess (encB x.e.d).toList (encB dt).toList = decide (x.e.d.enc < dt.enc) := by rw [bytes_lt, Lib.toList_data, Lib.toList_data]; rfl
      have hlt2 := encB_beq x.e.d dt
      have hgt := gt_dec x.e.d.enc dt.enc
      by_cases k3 : x.e.d.k = 3
      · have hin : inR (some df) (some dt) x.e = false := by unfold inR; rw [decide_eq_false (fun h => h k3)]; rfl
        rw [k3] at c0
        have HIN := Lib.hid hin
        clear hin
        go_wp2_with (first | ((have hzz : True := m1); clear hzz; refine at_load (t := 30) ?_; go_must (refine own_loadC (ad := adt) (cs := [.int .i64 dt.k, .int .i64 dt.n, .string dt.s, .slice at_ dt.l.length ct]) ?_ (HTC.out _ _ (hO.as (F ++ (SO ++ (S ++ R))))) ?_ ?_ ?_ ?_; (· rfl); (· ((conv => lhs; whnf); try exact rfl)); (· simp; done); (· simp; done); simp only [Act.put, List.setIfInBounds_toArray, List.set_cons_zero, List.set_cons_succ])) | (refine at_load (t := 30) ?_; go_must (refine own_loadC (ad := adf) (cs := [.int .i64 df.k, .int .i64 df.n, .string df.s, .slice af df.l.length cf]) ?_ (HFC.out _ _ (hO.as (F ++ (SO ++ (S ++ R))))) ?_ ?_ ?_ ?_; (· rfl); (· ((conv => lhs; whnf); try exact rfl)); (· simp; done); (· simp; done); simp only [Act.put, List.setIfInBounds_toArray, List.set_cons_zero, List.set_cons_succ])) | ((have hzz : True := m1); clear hzz; go_at_call 37; go_must (refine (refEncoded E _ _ (SO ++ (S ++ R)) F dt at_ ct HTO.out.1 HTO.out.2 htI (hO.as (F ++ (SO ++ (S ++ R))))).mono ?_; clear hO; rintro e w5 ⟨rfl, hO⟩; replace hO : Own E w5 (SO ++ (S ++ (F ++ R))) := hO.as _)) | (go_at_call 37; go_must (refine (refEncoded E _ _ (SO ++ (S ++ R)) F df af cf HFO.out.1 HFO.out.2 hfI (hO.as (F ++ (SO ++ (S ++ R))))).mono ?_; clear hO; rintro e w5 ⟨rfl, hO⟩; replace hO : Own E w5 (SO ++ (S ++ (F ++ R))) := hO.as _; have m1 : True := trivial)) | (refine at_load (t := 32) ?_; go_must (refine own_loadC (ad := ⟨sb, j * 5, none⟩) (cs := [.int .i64 x.e.d.k, .int .i64 x.e.d.n, .string x.e.d.s, .slice x.a x.e.d.l.length x.c, .int .i64 x.e.t]) ?_ (HSC.out _ _ (hO.as (S ++ []))) ?_ ?_ ?_ ?_; (· rfl); (· ((conv => lhs; whnf); try exact rfl)); (· simp; done); (· simp; done); simp only [Act.put, List.setIfInBounds_toArray, List.set_cons_zero, List.set_cons_succ])) | (refine at_bs ?_; go_must (refine own_build1 (v := ?_) sltE hO ?_ ?_ ?_ ?_ ?_ ?_; rotate_left; (· rfl); (· ((conv => lhs; whnf); try exact rfl)); (· rfl); (· decide); (· decide); clear hO; (try clear hF); intro bs _ hO; (try simp only [Value.cells] at hO); ((try simp only [List.nil_append, List.append_nil] at hO); have hF := Own.cells hO; simp only [cellsOf_append, cellsOf_pt] at hF); simp only [Act.put, List.setIfInBounds_toArray, List.set_cons_zero, List.set_cons_succ])) | (refine at_append ?_; go_must (refine own_append_elem (b1 := ?_) (cs := ?_) (e1 := ?_) (f1 := ?_) sltE hO ?_ ?_ ?_ hSO ?_ ?_ ?_ ?_ ?_ ?_ ?_; rotate_left 4; (· rfl); (· rfl); (· rfl); (· exact inferInstance); (· rfl); (· intro u hu; simp at hu; rcases hu with rfl | rfl | rfl | rfl | rfl <;> rfl); (· first | omega | (simp only [maxLen]; omega)); (· decide); (· first | omega | (simp only [maxLen]; omega)); clear hO; (try clear hF); intro so3 co3 SO3 w6 hSO3 hO; ((try simp only [List.nil_append, List.append_nil] at hO); have hF := Own.cells hO; simp only [cellsOf_append, cellsOf_pt] at hF); simp only [Act.put, List.setIfInBounds_toArray, List.set_cons_zero, List.set_cons_succ])))
        have hlt := HLT.out
        go_roundw
        case rel => exact ⟨j + 1, so2, co2, SO, by go_num, hlt, by rw [HT.out, rgO_skip HIN.out, HPL.out], by rw [HT.out, rgO_skip HIN.out, HPL.out]; exact hSO, hO⟩
        case measure => (clear hw0 hw1; simp [intOf]; omega)
      · have hk3 : (x.e.d.k == 3) = false := beq_eq_false_iff_ne.2 k3
        cases hf1 : decide (x.e.d.enc < df.enc)
        · rw [hf1] at hlf
          · skip
            cases hp1 : decide (x.e.d.enc < dt.enc)
            · rw [hp1] at hlt1 hgt
              cases hp2 : decide (x.e.d.enc = dt.enc)
              · rw [hp2] at hlt2 hgt
                · have hin : inR (some df) (some dt) x.e = false := by unfold inR; simp only [hgt]; simp
                  have HIN := Lib.hid hin
                  clear hin hp1 hp2 hgt k3
                  go_wp2_with (first | ((have hzz : True := m1); clear hzz; refine at_load (t := 30) ?_; go_must (refine own_loadC (ad := adt) (cs := [.int .i64 dt.k, .int .i64 dt.n, .string dt.s, .slice at_ dt.l.length ct]) ?_ (HTC.out _ _ (hO.as (F ++ (SO ++ (S ++ R))))) ?_ ?_ ?_ ?_; (· rfl); (· ((conv => lhs; whnf); try exact rfl)); (· simp; done); (· simp; done); simp only [Act.put, List.setIfInBounds_toArray, List.set_cons_zero, List.set_cons_succ])) | (refine at_load (t := 30) ?_; go_must (refine own_loadC (ad := adf) (cs := [.int .i64 df.k, .int .i64 df.n, .string df.s, .slice af df.l.length cf]) ?_ (HFC.out _ _ (hO.as (F ++ (SO ++ (S ++ R))))) ?_ ?_ ?_ ?_; (· rfl); (· ((conv => lhs; whnf); try exact rfl)); (· simp; done); (· simp; done); simp only [Act.put, List.setIfInBounds_toArray, List.set_cons_zero, List.set_cons_succ])) | ((have hzz : True := m1); clear hzz; go_at_call 37; go_must (refine (refEncoded E _ _ (SO ++ (S ++ R)) F dt at_ ct HTO.out.1 HTO.out.2 htI (hO.as (F ++ (SO ++ (S ++ R))))).mono ?_; clear hO; rintro e w5 ⟨rfl, hO⟩; replace hO : Own E w5 (SO ++ (S ++ (F ++ R))) := hO.as _)) | (go_at_call 37; go_must (refine (refEncoded E _ _ (SO ++ (S ++ R)) F df af cf HFO.out.1 HFO.out.2 hfI (hO.as (F ++ (SO ++ (S ++ R))))).mono ?_; clear hO; rintro e w5 ⟨rfl, hO⟩; replace hO : Own E w5 (SO ++ (S ++ (F ++ R))) := hO.as _; have m1 : True := trivial)) | (refine at_load (t := 32) ?_; go_must (refine own_loadC (ad := ⟨sb, j * 5, none⟩) (cs := [.int .i64 x.e.d.k, .int .i64 x.e.d.n, .string x.e.d.s, .slice x.a x.e.d.l.length x.c, .int .i64 x.e.t]) ?_ (HSC.out _ _ (hO.as (S ++ []))) ?_ ?_ ?_ ?_; (· rfl); (· ((conv => lhs; whnf); try exact rfl)); (· simp; done); (· simp; done); simp only [Act.put, List.setIfInBounds_toArray, List.set_cons_zero, List.set_cons_succ])) | (refine at_bs ?_; go_must (refine own_build1 (v := ?_) sltE hO ?_ ?_ ?_ ?_ ?_ ?_; rotate_left; (· rfl); (· ((conv => lhs; whnf); try exact rfl)); (· rfl); (· decide); (· decide); clear hO; (try clear hF); intro bs _ hO; (try simp only [Value.cells] at hO); ((try simp only [List.nil_append, List.append_nil] at hO); have hF := Own.cells hO; simp only [cellsOf_append, cellsOf_pt] at hF); simp only [Act.put, List.setIfInBounds_toArray, List.set_cons_zero, List.set_cons_succ])) | (refine at_append ?_; go_must (refine own_append_elem (b1 := ?_) (cs := ?_) (e1 := ?_) (f1 := ?_) sltE hO ?_ ?_ ?_ hSO ?_ ?_ ?_ ?_ ?_ ?_ ?_; rotate_left 4; (· rfl); (· rfl); (· rfl); (· exact inferInstance); (· rfl); (· intro u hu; simp at hu; rcases hu with rfl | rfl | rfl | rfl | rfl <;> rfl); (· first | omega | (simp only [maxLen]; omega)); (· decide); (· first | omega | (simp only [maxLen]; omega)); clear hO; (try clear hF); intro so3 co3 SO3 w6 hSO3 hO; ((try simp only [List.nil_append, List.append_nil] at hO); have hF := Own.cells hO; simp only [cellsOf_append, cellsOf_pt] at hF); simp only [Act.put, List.setIfInBounds_toArray, List.set_cons_zero, List.set_cons_succ])))
                  have hlt := HLT.out
                  go_roundw
                  case rel => exact ⟨j + 1, so2, co2, SO, by go_num, hlt, by rw [HT.out, rgO_skip HIN.out, HPL.out], by rw [HT.out, rgO_skip HIN.out, HPL.out]; exact hSO, hO⟩
                  case measure => (clear hw0 hw1; simp [intOf]; omega)
              · rw [hp2] at hlt2 hgt
                · have hin : inR (some df) (some dt) x.e = true := by unfold inR; simp only [hgt]; rw [decide_eq_true k3]; simp only [hf1]; rfl
                  have HIN := Lib.hid hin
                  clear hin hp1 hp2 hgt k3
                  go_wp2_with (first | ((have hzz : True := m1); clear hzz; refine at_load (t := 30) ?_; go_must (refine own_loadC (ad := adt) (cs := [.int .i64 dt.k, .int .i64 dt.n, .string dt.s, .slice at_ dt.l.length ct]) ?_ (HTC.out _ _ (hO.as (F ++ (SO ++ (S ++ R))))) ?_ ?_ ?_ ?_; (· rfl); (· ((conv => lhs; whnf); try exact rfl)); (· simp; done); (· simp; done); simp only [Act.put, List.setIfInBounds_toArray, List.set_cons_zero, List.set_cons_succ])) | (refine at_load (t := 30) ?_; go_must (refine own_loadC (ad := adf) (cs := [.int .i64 df.k, .int .i64 df.n, .string df.s, .slice af df.l.length cf]) ?_ (HFC.out _ _ (hO.as (F ++ (SO ++ (S ++ R))))) ?_ ?_ ?_ ?_; (· rfl); (· ((conv => lhs; whnf); try exact rfl)); (· simp; done); (· simp; done); simp only [Act.put, List.setIfInBounds_toArray, List.set_cons_zero, List.set_cons_succ])) | ((have hzz : True := m1); clear hzz; go_at_call 37; go_must (refine (refEncoded E _ _ (SO ++ (S ++ R)) F dt at_ ct HTO.out.1 HTO.out.2 htI (hO.as (F ++ (SO ++ (S ++ R))))).mono ?_; clear hO; rintro e w5 ⟨rfl, hO⟩; replace hO : Own E w5 (SO ++ (S ++ (F ++ R))) := hO.as _)) | (go_at_call 37; go_must (refine (refEncoded E _ _ (SO ++ (S ++ R)) F df af cf HFO.out.1 HFO.out.2 hfI (hO.as (F ++ (SO ++ (S ++ R))))).mono ?_; clear hO; rintro e w5 ⟨rfl, hO⟩; replace hO : Own E w5 (SO ++ (S ++ (F ++ R))) := hO.as _; have m1 : True := trivial)) | (refine at_load (t := 32) ?_; go_must (refine own_loadC (ad := ⟨sb, j * 5, none⟩) (cs := [.int .i64 x.e.d.k, .int .i64 x.e.d.n, .string x.e.d.s, .slice x.a x.e.d.l.length x.c, .int .i64 x.e.t]) ?_ (HSC.out _ _ (hO.as (S ++ []))) ?_ ?_ ?_ ?_; (· rfl); (· ((conv => lhs; whnf); try exact rfl)); (· simp; done); (· simp; done); simp only [Act.put, List.setIfInBounds_toArray, List.set_cons_zero, List.set_cons_succ])) | (refine at_bs ?_; go_must (refine own_build1 (v := ?_) sltE hO ?_ ?_ ?_ ?_ ?_ ?_; rotate_left; (· rfl); (· ((conv => lhs; whnf); try exact rfl)); (· rfl); (· decide); (· decide); clear hO; (try clear hF); intro bs _ hO; (try simp only [Value.cells] at hO); ((try simp only [List.nil_append, List.append_nil] at hO); have hF := Own.cells hO; simp only [cellsOf_append, cellsOf_pt] at hF); simp only [Act.put, List.setIfInBounds_toArray, List.set_cons_zero, List.set_cons_succ])) | ((have hzz : so3 = so3 := rfl); clear hzz; refine at_append ?_; refine Stop.go ?_) | (refine at_append ?_; go_must (refine own_append_elem (A := []) (xs := []) (sa := none) (n := 0) (cap := 0) (b1 := ?_) (cs := ?_) (e1 := ?_) (f1 := ?_) sltE hO ?_ ?_ ?_ (Sl.nil _ _) ?_ ?_ ?_ ?_ ?_ ?_ ?_; rotate_left 4; (· rfl); (· rfl); (· rfl); (· exact inferInstance); (· rfl); (· intro u hu; simp at hu; rcases hu with rfl | rfl | rfl | rfl | rfl <;> rfl); (· first | omega | (simp only [maxLen]; omega)); (· decide); (· first | omega | (simp only [maxLen]; omega)); clear hO; (try clear hF); intro so3 co3 SO3 w6 hSO3 hO; simp only [Act.put, List.setIfInBounds_toArray, List.set_cons_zero, List.set_cons_succ])))
                  refine ⟨?_⟩
                  refine own_append (sz := 5) (bytes := 64) (z := .agg #[.int .i64 0, .int .i64 0, .string .empty, .slice none 0 0, .int .i64 0]) (e := 32) (xv := .slice so2 pl.length co2) (m := pl.length) (news := pl.flatMap Oe.v) sltE (.inl (by kernel_rfl)) hO ?_ ?_ ?_ hSO3 ?_ ?_ ?_ ?_ ?_ ?_ ?_
                  · rfl
                  · rfl
                  · rfl
                  · intro w; rfl
                  · intro w' hO'; exact hSO.firstCells hO'
                  · rw [rows_len Oe.v 5 Oe.len]
                  · exact oes_one _
                  · simp only [maxLen]; omega
                  · left; omega
                  clear hO
                  intro so5 co5 SO5 w7 hSO5 hO
                  simp only [Act.put, List.setIfInBounds_toArray, List.set_cons_zero, List.set_cons_succ]
                  go_wp2_with fail
                  have hlt := HLT.out
                  go_roundw
                  case rel =>
                    refine ⟨j + 1, so5, co5, SO5, by go_num, hlt, ?p1, ?p2, hO.as _⟩
                    case p1 => rw [HT.out, rgO_bwd HIN.out, HPL.out, List.length_cons, Nat.add_comm]
                    case p2 => rw [HT.out, rgO_bwd HIN.out, HPL.out, List.length_cons, List.flatMap_cons, Nat.add_comm]; exact hSO5
                  case measure => (clear hw0 hw1; simp [intOf]; omega)
            · rw [hp1] at hlt1 hgt
              · have hin : inR (some df) (some dt) x.e = true := by unfold inR; simp only [hgt]; rw [decide_eq_true k3]; simp only [hf1]; rfl
                have HIN := Lib.hid hin
                clear hin hp1 hgt k3
                go_wp2_with (first | ((have hzz : True := m1); clear hzz; refine at_load (t := 30) ?_; go_must (refine own_loadC (ad := adt) (cs := [.int .i64 dt.k, .int .i64 dt.n, .string dt.s, .slice at_ dt.l.length ct]) ?_ (HTC.out _ _ (hO.as (F ++ (SO ++ (S ++ R))))) ?_ ?_ ?_ ?_; (· rfl); (· ((conv => lhs; whnf); try exact rfl)); (· simp; done); (· simp; done); simp only [Act.put, List.setIfInBounds_toArray, List.set_cons_zero, List.set_cons_succ])) | (refine at_load (t := 30) ?_; go_must (refine own_loadC (ad := adf) (cs := [.int .i64 df.k, .int .i64 df.n, .string df.s, .slice af df.l.length cf]) ?_ (HFC.out _ _ (hO.as (F ++ (SO ++ (S ++ R))))) ?_ ?_ ?_ ?_; (· rfl); (· ((conv => lhs; whnf); try exact rfl)); (· simp; done); (· simp; done); simp only [Act.put, List.setIfInBounds_toArray, List.set_cons_zero, List.set_cons_succ])) | ((have hzz : True := m1); clear hzz; go_at_call 37; go_must (refine (refEncoded E _ _ (SO ++ (S ++ R)) F dt at_ ct HTO.out.1 HTO.out.2 htI (hO.as (F ++ (SO ++ (S ++ R))))).mono ?_; clear hO; rintro e w5 ⟨rfl, hO⟩; replace hO : Own E w5 (SO ++ (S ++ (F ++ R))) := hO.as _)) | (go_at_call 37; go_must (refine (refEncoded E _ _ (SO ++ (S ++ R)) F df af cf HFO.out.1 HFO.out.2 hfI (hO.as (F ++ (SO ++ (S ++ R))))).mono ?_; clear hO; rintro e w5 ⟨rfl, hO⟩; replace hO : Own E w5 (SO ++ (S ++ (F ++ R))) := hO.as _; have m1 : True := trivial)) | (refine at_load (t := 32) ?_; go_must (refine own_loadC (ad := ⟨sb, j * 5, none⟩) (cs := [.int .i64 x.e.d.k, .int .i64 x.e.d.n, .string x.e.d.s, .slice x.a x.e.d.l.length x.c, .int .i64 x.e.t]) ?_ (HSC.out _ _ (hO.as (S ++ []))) ?_ ?_ ?_ ?_; (· rfl); (· ((conv => lhs; whnf); try exact rfl)); (· simp; done); (· simp; done); simp only [Act.put, List.setIfInBounds_toArray, List.set_cons_zero, List.set_cons_succ])) | (refine at_bs ?_; go_must (refine own_build1 (v := ?_) sltE hO ?_ ?_ ?_ ?_ ?_ ?_; rotate_left; (· rfl); (· ((conv => lhs; whnf); try exact rfl)); (· rfl); (· decide); (· decide); clear hO; (try clear hF); intro bs _ hO; (try simp only [Value.cells] at hO); ((try simp only [List.nil_append, List.append_nil] at hO); have hF := Own.cells hO; simp only [cellsOf_append, cellsOf_pt] at hF); simp only [Act.put, List.setIfInBounds_toArray, List.set_cons_zero, List.set_cons_succ])) | ((have hzz : so3 = so3 := rfl); clear hzz; refine at_append ?_; refine Stop.go ?_) | (refine at_append ?_; go_must (refine own_append_elem (A := []) (xs := []) (sa := none) (n := 0) (cap := 0) (b1 := ?_) (cs := ?_) (e1 := ?_) (f1 := ?_) sltE hO ?_ ?_ ?_ (Sl.nil _ _) ?_ ?_ ?_ ?_ ?_ ?_ ?_; rotate_left 4; (· rfl); (· rfl); (· rfl); (· exact inferInstance); (· rfl); (· intro u hu; simp at hu; rcases hu with rfl | rfl | rfl | rfl | rfl <;> rfl); (· first | omega | (simp only [maxLen]; omega)); (· decide); (· first | omega | (simp only [maxLen]; omega)); clear hO; (try clear hF); intro so3 co3 SO3 w6 hSO3 hO; simp only [Act.put, List.setIfInBounds_toArray, List.set_cons_zero, List.set_cons_succ])))
                refine ⟨?_⟩
                refine own_append (sz := 5) (bytes := 64) (z := .agg #[.int .i64 0, .int .i64 0, .string .empty, .slice none 0 0, .int .i64 0]) (e := 32) (xv := .slice so2 pl.length co2) (m := pl.length) (news := pl.flatMap Oe.v) sltE (.inl (by kernel_rfl)) hO ?_ ?_ ?_ hSO3 ?_ ?_ ?_ ?_ ?_ ?_ ?_
                · rfl
                · rfl
                · rfl
                · intro w; rfl
                · intro w' hO'; exact hSO.firstCells hO'
                · rw [rows_len Oe.v 5 Oe.len]
                · exact oes_one _
                · simp only [maxLen]; omega
                · left; omega
                clear hO
                intro so5 co5 SO5 w7 hSO5 hO
                simp only [Act.put, List.setIfInBounds_toArray, List.set_cons_zero, List.set_cons_succ]
                go_wp2_with fail
                have hlt := HLT.out
                go_roundw
                case rel =>
                  refine ⟨j + 1, so5, co5, SO5, by go_num, hlt, ?p1, ?p2, hO.as _⟩
                  case p1 => rw [HT.out, rgO_bwd HIN.out, HPL.out, List.length_cons, Nat.add_comm]
                  case p2 => rw [HT.out, rgO_bwd HIN.out, HPL.out, List.length_cons, List.flatMap_cons, Nat.add_comm]; exact hSO5
                case measure => (clear hw0 hw1; simp [intOf]; omega)
        · rw [hf1] at hlf
          · have hin : inR (some df) (some dt) x.e = false := by unfold inR; simp only [hf1]; simp
            have HIN := Lib.hid hin
            clear hin k3 hlt1 hlt2 hgt
            go_wp2_with (first | ((have hzz : True := m1); clear hzz; refine at_load (t := 30) ?_; go_must (refine own_loadC (ad := adt) (cs := [.int .i64 dt.k, .int .i64 dt.n, .string dt.s, .slice at_ dt.l.length ct]) ?_ (HTC.out _ _ (hO.as (F ++ (SO ++ (S ++ R))))) ?_ ?_ ?_ ?_; (· rfl); (· ((conv => lhs; whnf); try exact rfl)); (· simp; done); (· simp; done); simp only [Act.put, List.setIfInBounds_toArray, List.set_cons_zero, List.set_cons_succ])) | (refine at_load (t := 30) ?_; go_must (refine own_loadC (ad := adf) (cs := [.int .i64 df.k, .int .i64 df.n, .string df.s, .slice af df.l.length cf]) ?_ (HFC.out _ _ (hO.as (F ++ (SO ++ (S ++ R))))) ?_ ?_ ?_ ?_; (· rfl); (· ((conv => lhs; whnf); try exact rfl)); (· simp; done); (· simp; done); simp only [Act.put, List.setIfInBounds_toArray, List.set_cons_zero, List.set_cons_succ])) | ((have hzz : True := m1); clear hzz; go_at_call 37; go_must (refine (refEncoded E _ _ (SO ++ (S ++ R)) F dt at_ ct HTO.out.1 HTO.out.2 htI (hO.as (F ++ (SO ++ (S ++ R))))).mono ?_; clear hO; rintro e w5 ⟨rfl, hO⟩; replace hO : Own E w5 (SO ++ (S ++ (F ++ R))) := hO.as _)) | (go_at_call 37; go_must (refine (refEncoded E _ _ (SO ++ (S ++ R)) F df af cf HFO.out.1 HFO.out.2 hfI (hO.as (F ++ (SO ++ (S ++ R))))).mono ?_; clear hO; rintro e w5 ⟨rfl, hO⟩; replace hO : Own E w5 (SO ++ (S ++ (F ++ R))) := hO.as _; have m1 : True := trivial)) | (refine at_load (t := 32) ?_; go_must (refine own_loadC (ad := ⟨sb, j * 5, none⟩) (cs := [.int .i64 x.e.d.k, .int .i64 x.e.d.n, .string x.e.d.s, .slice x.a x.e.d.l.length x.c, .int .i64 x.e.t]) ?_ (HSC.out _ _ (hO.as (S ++ []))) ?_ ?_ ?_ ?_; (· rfl); (· ((conv => lhs; whnf); try exact rfl)); (· simp; done); (· simp; done); simp only [Act.put, List.setIfInBounds_toArray, List.set_cons_zero, List.set_cons_succ])) | (refine at_bs ?_; go_must (refine own_build1 (v := ?_) sltE hO ?_ ?_ ?_ ?_ ?_ ?_; rotate_left; (· rfl); (· ((conv => lhs; whnf); try exact rfl)); (· rfl); (· decide); (· decide); clear hO; (try clear hF); intro bs _ hO; (try simp only [Value.cells] at hO); ((try simp only [List.nil_append, List.append_nil] at hO); have hF := Own.cells hO; simp only [cellsOf_append, cellsOf_pt] at hF); simp only [Act.put, List.setIfInBounds_toArray, List.set_cons_zero, List.set_cons_succ])) | (refine at_append ?_; go_must (refine own_append_elem (b1 := ?_) (cs := ?_) (e1 := ?_) (f1 := ?_) sltE hO ?_ ?_ ?_ hSO ?_ ?_ ?_ ?_ ?_ ?_ ?_; rotate_left 4; (· rfl); (· rfl); (· rfl); (· exact inferInstance); (· rfl); (· intro u hu; simp at hu; rcases hu with rfl | rfl | rfl | rfl | rfl <;> rfl); (· first | omega | (simp only [maxLen]; omega)); (· decide); (· first | omega | (simp only [maxLen]; omega)); clear hO; (try clear hF); intro so3 co3 SO3 w6 hSO3 hO; ((try simp only [List.nil_append, List.append_nil] at hO); have hF := Own.cells hO; simp only [cellsOf_append, cellsOf_pt] at hF); simp only [Act.put, List.setIfInBounds_toArray, List.set_cons_zero, List.set_cons_succ])))
            have hlt := HLT.out
            go_roundw
            case rel => exact ⟨j + 1, so2, co2, SO, by go_num, hlt, by rw [HT.out, rgO_skip HIN.out, HPL.out], by rw [HT.out, rgO_skip HIN.out, HPL.out]; exact hSO, hO⟩
            case measure => (clear hw0 hw1; simp [intOf]; omega)
    · obtain rfl : j = os.length := Nat.le_antisymm hj (Nat.le_of_not_lt hlt)
      have hjj : ¬ (os.length : Int) < os.length := by omega
      clear hj hlt hl
      rw [List.take_length] at hSO ⊢
      go_wp2_with fail
      rw [← HPOST.out]
      exact ⟨so2, co2, SO, rfl, ⟨hSO, fun o ho => hL.its o (rgO_mem ho)⟩, hO⟩
end Go.Proofs.YticclennllklpaaDoor
