/- Layer 7: told. -/
import Derived.Test.YtkfkcloefgfkaaaGreatK12
import Derived.Test.YtkfkcloefgfkaaaGreatK2
import Derived.Deep.Slices
import Derived.Deep.Fields
import Derived.ChangeSame
import Derived.SizedLaws
import Derived.Test.YtkfkcloefgfkaaaGreatK11
set_option linter.all false
/- Layer 7: told. -/
namespace Go.Proofs.YtkfkcloefgfkaaaGreat
open Go Go.RowKit Go.Own Go.Dk

theorem Ag.page {st : SSt} {root : Nat} {hs : Hs} {l : List Rw} (hI : HInv st root hs) (h : Ag hs l) {y : Rw} (hy : y ∈ l) : ((y.tid.toNat / 64 : Nat) : Int) ∈ srt (hs.map fun x => (x.1 : Int)) := by
  have h0 := h.nn y hy
  have hx : (y.tid.toNat, (⟨if y.lives then 1 else 2, y.row⟩ : Slot)) ∈ W hs := h.mem.2 ⟨y, hy, by omega, rfl⟩
  obtain ⟨j, k, hj, hk, h1, _⟩ := mem_W.1 hx
  have h64 := hI.at64 hj
  rw [(srt_perm _).mem_iff]
  refine List.mem_map.2 ⟨hs[j]'hj, List.getElem_mem hj, ?_⟩
  have h2 := congrArg Prod.fst h1
  have h3 : y.tid.toNat = (hs[j]'hj).1 * 64 + k := h2
  congr 1
  omega
def Told7P (E : World) (s d a N h root : Nat) (st0 st : SSt) (S R : Fr) (e : Ending) (w' : World) : Prop :=
  e = .returned (.bool true) ∧ ∃ A', Going s d a N st0 st A' ∧ Own E w' (heapF h a root ++ (A' ++ (S ++ R)))
set_option maxRecDepth 100000 in
set_option maxHeartbeats 16000000 in
theorem told7 (E w : World) (X R A S : Fr) (s d a N h : Nat) (st0 st : SSt) (root : Nat) (hr : root < 16) (hs : Hs) (hI : HInv st root hs) (hT : st.T ≤ 4095) (l : List Rw) (hl : l.length ≤ 90000) (hAg : Ag hs l) (sa : Option Addr) (cap : Nat) (hS : Sl 90 3 sa l.length cap (rwsV l) S) (hA : Going s d a N st0 st A) (hN : N ≤ 8796000000000) (hO : Own E w X) [hp : Pick X (heapF h a root ++ (A ++ S)) R] :
    Calls Tryz.prog 17 #[.pointer (some ⟨h, 0, none⟩), .slice sa l.length cap] w (Told7P E s d a N h root st0 st S R) := by
  replace hO : Own E w (heapF h a root ++ (A ++ (S ++ R))) := by have := hO.perm hp.perm; rwa [List.append_assoc, List.append_assoc] at this
  clear hp
  generalize hpost : Told7P E s d a N h root st0 st S R = POST
  have HPOST := Lib.hid hpost
  clear hpost
  obtain ⟨q1, q2⟩ := hAg.tids
  have hlen := hI.len
  have hl1 := tidR_le l false
  have hl2 := tidR_le l true
  have Q1 := Lib.hid q1
  have Q2 := Lib.hid q2
  clear q1 q2
  go_enter Tryz.func17, Tryz.ntmps17
  go_wp2_with fail
  refine (hTids E _ _ _ A s d a _ h st0 st root hr hs hI hA hN hO).mono ?_
  clear hO hA
  rintro e w1 ⟨so, co, SO, A, rfl, hSO, hA, hO⟩
  rw [Q1.out] at hSO ⊢
  go_wp2_with fail
  refine (tids7 E _ _ _ S sa cap l false (by omega) hS hO).mono ?_
  clear hO
  rintro e w2 ⟨so2, co2, SO2, rfl, hSO2, hO⟩
  go_wp2_with fail
  refine (ints7 E _ _ _ SO SO2 so so2 co co2 _ (by omega) hSO hSO2 hO).mono ?_
  clear hO
  rintro e w3 ⟨rfl, hO⟩
  replace hO := hO.as (heapF h a root ++ (A ++ (S ++ R)))
  clear hSO hSO2
  go_wp2_with fail
  refine (hDead E _ _ _ A s d a _ h st0 st root hr hs hI hA hN hO).mono ?_
  clear hO hA
  rintro e w1 ⟨so, co, SO, A, rfl, hSO, hA, hO⟩
  rw [Q2.out] at hSO ⊢
  go_wp2_with fail
  refine (tids7 E _ _ _ S sa cap l true (by omega) hS hO).mono ?_
  clear hO
  rintro e w2 ⟨so2, co2, SO2, rfl, hSO2, hO⟩
  go_wp2_with fail
  refine (ints7 E _ _ _ SO SO2 so so2 co co2 _ (by omega) hSO hSO2 hO).mono ?_
  clear hO
  rintro e w3 ⟨rfl, hO⟩
  replace hO := hO.as (heapF h a root ++ (A ++ (S ++ R)))
  clear hSO hSO2
  go_wp2_with fail
  refine (hPages E _ _ _ A s d a _ h st0 st root hr hs hI hA hN hO).mono ?_
  clear hO hA
  rintro e w1 ⟨so, co, SO, A, rfl, hSO, hA, hO⟩
  have hnd : (hs.map fun x => (x.1 : Int)).Nodup := by
    have h1 : ((hs.map (·.1)).map (fun n : Nat => (n : Int))).Nodup := List.Pairwise.map _ (fun a b hab e => hab (Int.ofNat.inj e)) hI.nd
    rwa [List.map_map] at h1
  have hrise := srt_rise hnd
  have hpl : (srt (hs.map fun x => (x.1 : Int))).length ≤ 4096 := by rw [srt_length, List.length_map]; omega
  have hpag := fun y hy => Ag.page hI hAg (y := y) hy
  generalize srt (hs.map fun x => (x.1 : Int)) = ps at hSO hrise hpl hpag ⊢
  have HR := Lib.hid hrise
  have HPG := Lib.hid hpag
  clear hrise hpag hnd hlen hl1 hl2 Q1 Q2
  go_wp2_with fail
  have hO1 := hO
  clear hO
  go_loopw [6] (fun i wr => ∃ k : Nat, i = .int .i64 k ∧ 1 ≤ k ∧ (k ≤ ps.length ∨ k = 1) ∧ Own E wr (SO ++ (heapF h a root ++ (A ++ (S ++ R))))) (fun i _ => ps.length - (intOf i).toNat)
  case atStart => exact ⟨1, rfl, Nat.le_refl _, .inr rfl, hO1⟩
  case round =>
    clear hO1
    obtain ⟨k, rfl, hk1, hk, hO⟩ := hrel
    by_cases hlt : k < ps.length
    · have h1 : (k : Int) < ps.length := by omega
      have h2 : (0 : Int) ≤ k := by omega
      have h3 : IntKind.i64.wrap ((k : Int) - 1) = ((k - 1 : Nat) : Int) := by rw [IntKind.wrap_i64]; omega
      have h4 : (0 : Int) ≤ ((k - 1 : Nat) : Int) := by omega
      have h5 : ((k - 1 : Nat) : Int) < ps.length := by omega
      obtain ⟨pb, rfl⟩ := sl_some4 hSO (by omega)
      obtain ⟨v, hv⟩ : ∃ v, ps[k]'hlt = v := ⟨_, rfl⟩
      obtain ⟨u, hu⟩ : ∃ u, ps[k - 1]'(by omega) = u := ⟨_, rfl⟩
      have huv : ¬ u ≥ v := by
        have := List.pairwise_iff_getElem.1 HR.out (k - 1) k (by omega) hlt (by omega)
        rw [hv, hu] at this
        omega
      have huv2 : decide (v ≤ u) = false := decide_eq_false huv
      have hc1 : ∀ w', Own E w' SO → w'.cell? ⟨pb, k, none⟩ = some (.int .i64 v) := fun w' h => hv ▸ int_cell hSO h hlt
      have hc2 : ∀ w', Own E w' SO → w'.cell? ⟨pb, k - 1, none⟩ = some (.int .i64 u) := fun w' h => hu ▸ int_cell hSO h (by omega)
      have C1 := Lib.hid hc1
      have C2 := Lib.hid hc2
      have HL := Lib.hid hlt
      clear hv hu hc1 hc2 hk hk1
      go_wp2_with fail
      (try (go_wp2_with fail))
      refine region_sch (fun w' => Own E w' (SO)) (.look 0 (.look 1 (.look 2 (.look 3 (.look 4 (.look 5 (.look 6 (.look 7 (.look 8 (.look 9 .done)))))))))) (by kernel_rfl) (by kernel_rfl) (fun _ _ d _ _ h => by cases d <;> exact h) ?_ ?_
      · exact hO.drew.as _
      replace hO := hO.drew
      generalize World.drew _ = wdr at hO ⊢
      first | (refine sch_look (o := ?_) (v := ?_) ?_ ?_ ?_ ?_; rotate_left 2; (· ((conv => lhs; whnf); try exact rfl)); (· rfl); (· intro w' hO'; have c1 := C1.out w' hO'; have c2 := C2.out w' hO'; go_simp; (try exact rfl)); simp only [Act.put, List.setIfInBounds_toArray, List.set_cons_zero, List.set_cons_succ]) | (refine sch_pass (o := ?_) ?_ ?_ ?_; rotate_left; (· ((conv => lhs; whnf); try exact rfl)); (· rfl); simp only [Act.put, List.setIfInBounds_toArray, List.set_cons_zero, List.set_cons_succ]) | (refine sch_look (o := ?_) (v := .agg ?_) ?_ ?_ ?_ ?_; rotate_left 2; (· ((conv => lhs; whnf); try exact rfl)); (· rfl); (· intro w' hO'; refine run_opLoadS (b := ?_) (cs := ?_) (e := ?_) (f := ?_) hO' ?_ ?_ ?_ ?_; rotate_left 4; (· exact rfl); (· exact inferInstance); (· simp; done); (· simp; done)); simp only [Act.put, List.setIfInBounds_toArray, List.set_cons_zero, List.set_cons_succ])
      first | (refine sch_look (o := ?_) (v := ?_) ?_ ?_ ?_ ?_; rotate_left 2; (· ((conv => lhs; whnf); try exact rfl)); (· rfl); (· intro w' hO'; have c1 := C1.out w' hO'; have c2 := C2.out w' hO'; go_simp; (try exact rfl)); simp only [Act.put, List.setIfInBounds_toArray, List.set_cons_zero, List.set_cons_succ]) | (refine sch_pass (o := ?_) ?_ ?_ ?_; rotate_left; (· ((conv => lhs; whnf); try exact rfl)); (· rfl); simp only [Act.put, List.setIfInBounds_toArray, List.set_cons_zero, List.set_cons_succ]) | (refine sch_look (o := ?_) (v := .agg ?_) ?_ ?_ ?_ ?_; rotate_left 2; (· ((conv => lhs; whnf); try exact rfl)); (· rfl); (· intro w' hO'; refine run_opLoadS (b := ?_) (cs := ?_) (e := ?_) (f := ?_) hO' ?_ ?_ ?_ ?_; rotate_left 4; (· exact rfl); (· exact inferInstance); (· simp; done); (· simp; done)); simp only [Act.put, List.setIfInBounds_toArray, List.set_cons_zero, List.set_cons_succ])
      first | (refine sch_look (o := ?_) (v := ?_) ?_ ?_ ?_ ?_; rotate_left 2; (· ((conv => lhs; whnf); try exact rfl)); (· rfl); (· intro w' hO'; have c1 := C1.out w' hO'; have c2 := C2.out w' hO'; go_simp; (try exact rfl)); simp only [Act.put, List.setIfInBounds_toArray, List.set_cons_zero, List.set_cons_succ]) | (refine sch_pass (o := ?_) ?_ ?_ ?_; rotate_left; (· ((conv => lhs; whnf); try exact rfl)); (· rfl); simp only [Act.put, List.setIfInBounds_toArray, List.set_cons_zero, List.set_cons_succ]) | (refine sch_look (o := ?_) (v := .agg ?_) ?_ ?_ ?_ ?_; rotate_left 2; (· ((conv => lhs; whnf); try exact rfl)); (· rfl); (· intro w' hO'; refine run_opLoadS (b := ?_) (cs := ?_) (e := ?_) (f := ?_) hO' ?_ ?_ ?_ ?_; rotate_left 4; (· exact rfl); (· exact inferInstance); (· simp; done); (· simp; done)); simp only [Act.put, List.setIfInBounds_toArray, List.set_cons_zero, List.set_cons_succ])
      first | (refine sch_look (o := ?_) (v := ?_) ?_ ?_ ?_ ?_; rotate_left 2; (· ((conv => lhs; whnf); try exact rfl)); (· rfl); (· intro w' hO'; have c1 := C1.out w' hO'; have c2 := C2.out w' hO'; go_simp; (try exact rfl)); simp only [Act.put, List.setIfInBounds_toArray, List.set_cons_zero, List.set_cons_succ]) | (refine sch_pass (o := ?_) ?_ ?_ ?_; rotate_left; (· ((conv => lhs; whnf); try exact rfl)); (· rfl); simp only [Act.put, List.setIfInBounds_toArray, List.set_cons_zero, List.set_cons_succ]) | (refine sch_look (o := ?_) (v := .agg ?_) ?_ ?_ ?_ ?_; rotate_left 2; (· ((conv => lhs; whnf); try exact rfl)); (· rfl); (· intro w' hO'; refine run_opLoadS (b := ?_) (cs := ?_) (e := ?_) (f := ?_) hO' ?_ ?_ ?_ ?_; rotate_left 4; (· exact rfl); (· exact inferInstance); (· simp; done); (· simp; done)); simp only [Act.put, List.setIfInBounds_toArray, List.set_cons_zero, List.set_cons_succ])
      first | (refine sch_look (o := ?_) (v := ?_) ?_ ?_ ?_ ?_; rotate_left 2; (· ((conv => lhs; whnf); try exact rfl)); (· rfl); (· intro w' hO'; have c1 := C1.out w' hO'; have c2 := C2.out w' hO'; go_simp; (try exact rfl)); simp only [Act.put, List.setIfInBounds_toArray, List.set_cons_zero, List.set_cons_succ]) | (refine sch_pass (o := ?_) ?_ ?_ ?_; rotate_left; (· ((conv => lhs; whnf); try exact rfl)); (· rfl); simp only [Act.put, List.setIfInBounds_toArray, List.set_cons_zero, List.set_cons_succ]) | (refine sch_look (o := ?_) (v := .agg ?_) ?_ ?_ ?_ ?_; rotate_left 2; (· ((conv => lhs; whnf); try exact rfl)); (· rfl); (· intro w' hO'; refine run_opLoadS (b := ?_) (cs := ?_) (e := ?_) (f := ?_) hO' ?_ ?_ ?_ ?_; rotate_left 4; (· exact rfl); (· exact inferInstance); (· simp; done); (· simp; done)); simp only [Act.put, List.setIfInBounds_toArray, List.set_cons_zero, List.set_cons_succ])
      first | (refine sch_look (o := ?_) (v := ?_) ?_ ?_ ?_ ?_; rotate_left 2; (· ((conv => lhs; whnf); try exact rfl)); (· rfl); (· intro w' hO'; have c1 := C1.out w' hO'; have c2 := C2.out w' hO'; go_simp; (try exact rfl)); simp only [Act.put, List.setIfInBounds_toArray, List.set_cons_zero, List.set_cons_succ]) | (refine sch_pass (o := ?_) ?_ ?_ ?_; rotate_left; (· ((conv => lhs; whnf); try exact rfl)); (· rfl); simp only [Act.put, List.setIfInBounds_toArray, List.set_cons_zero, List.set_cons_succ]) | (refine sch_look (o := ?_) (v := .agg ?_) ?_ ?_ ?_ ?_; rotate_left 2; (· ((conv => lhs; whnf); try exact rfl)); (· rfl); (· intro w' hO'; refine run_opLoadS (b := ?_) (cs := ?_) (e := ?_) (f := ?_) hO' ?_ ?_ ?_ ?_; rotate_left 4; (· exact rfl); (· exact inferInstance); (· simp; done); (· simp; done)); simp only [Act.put, List.setIfInBounds_toArray, List.set_cons_zero, List.set_cons_succ])
      first | (refine sch_look (o := ?_) (v := ?_) ?_ ?_ ?_ ?_; rotate_left 2; (· ((conv => lhs; whnf); try exact rfl)); (· rfl); (· intro w' hO'; have c1 := C1.out w' hO'; have c2 := C2.out w' hO'; go_simp; (try exact rfl)); simp only [Act.put, List.setIfInBounds_toArray, List.set_cons_zero, List.set_cons_succ]) | (refine sch_pass (o := ?_) ?_ ?_ ?_; rotate_left; (· ((conv => lhs; whnf); try exact rfl)); (· rfl); simp only [Act.put, List.setIfInBounds_toArray, List.set_cons_zero, List.set_cons_succ]) | (refine sch_look (o := ?_) (v := .agg ?_) ?_ ?_ ?_ ?_; rotate_left 2; (· ((conv => lhs; whnf); try exact rfl)); (· rfl); (· intro w' hO'; refine run_opLoadS (b := ?_) (cs := ?_) (e := ?_) (f := ?_) hO' ?_ ?_ ?_ ?_; rotate_left 4; (· exact rfl); (· exact inferInstance); (· simp; done); (· simp; done)); simp only [Act.put, List.setIfInBounds_toArray, List.set_cons_zero, List.set_cons_succ])
      first | (refine sch_look (o := ?_) (v := ?_) ?_ ?_ ?_ ?_; rotate_left 2; (· ((conv => lhs; whnf); try exact rfl)); (· rfl); (· intro w' hO'; have c1 := C1.out w' hO'; have c2 := C2.out w' hO'; go_simp; (try exact rfl)); simp only [Act.put, List.setIfInBounds_toArray, List.set_cons_zero, List.set_cons_succ]) | (refine sch_pass (o := ?_) ?_ ?_ ?_; rotate_left; (· ((conv => lhs; whnf); try exact rfl)); (· rfl); simp only [Act.put, List.setIfInBounds_toArray, List.set_cons_zero, List.set_cons_succ]) | (refine sch_look (o := ?_) (v := .agg ?_) ?_ ?_ ?_ ?_; rotate_left 2; (· ((conv => lhs; whnf); try exact rfl)); (· rfl); (· intro w' hO'; refine run_opLoadS (b := ?_) (cs := ?_) (e := ?_) (f := ?_) hO' ?_ ?_ ?_ ?_; rotate_left 4; (· exact rfl); (· exact inferInstance); (· simp; done); (· simp; done)); simp only [Act.put, List.setIfInBounds_toArray, List.set_cons_zero, List.set_cons_succ])
      first | (refine sch_look (o := ?_) (v := ?_) ?_ ?_ ?_ ?_; rotate_left 2; (· ((conv => lhs; whnf); try exact rfl)); (· rfl); (· intro w' hO'; have c1 := C1.out w' hO'; have c2 := C2.out w' hO'; go_simp; (try exact rfl)); simp only [Act.put, List.setIfInBounds_toArray, List.set_cons_zero, List.set_cons_succ]) | (refine sch_pass (o := ?_) ?_ ?_ ?_; rotate_left; (· ((conv => lhs; whnf); try exact rfl)); (· rfl); simp only [Act.put, List.setIfInBounds_toArray, List.set_cons_zero, List.set_cons_succ]) | (refine sch_look (o := ?_) (v := .agg ?_) ?_ ?_ ?_ ?_; rotate_left 2; (· ((conv => lhs; whnf); try exact rfl)); (· rfl); (· intro w' hO'; refine run_opLoadS (b := ?_) (cs := ?_) (e := ?_) (f := ?_) hO' ?_ ?_ ?_ ?_; rotate_left 4; (· exact rfl); (· exact inferInstance); (· simp; done); (· simp; done)); simp only [Act.put, List.setIfInBounds_toArray, List.set_cons_zero, List.set_cons_succ])
      first | (refine sch_look (o := ?_) (v := ?_) ?_ ?_ ?_ ?_; rotate_left 2; (· ((conv => lhs; whnf); try exact rfl)); (· rfl); (· intro w' hO'; have c1 := C1.out w' hO'; have c2 := C2.out w' hO'; go_simp; (try exact rfl)); simp only [Act.put, List.setIfInBounds_toArray, List.set_cons_zero, List.set_cons_succ]) | (refine sch_pass (o := ?_) ?_ ?_ ?_; rotate_left; (· ((conv => lhs; whnf); try exact rfl)); (· rfl); simp only [Act.put, List.setIfInBounds_toArray, List.set_cons_zero, List.set_cons_succ]) | (refine sch_look (o := ?_) (v := .agg ?_) ?_ ?_ ?_ ?_; rotate_left 2; (· ((conv => lhs; whnf); try exact rfl)); (· rfl); (· intro w' hO'; refine run_opLoadS (b := ?_) (cs := ?_) (e := ?_) (f := ?_) hO' ?_ ?_ ?_ ?_; rotate_left 4; (· exact rfl); (· exact inferInstance); (· simp; done); (· simp; done)); simp only [Act.put, List.setIfInBounds_toArray, List.set_cons_zero, List.set_cons_succ])
      refine sch_done ?_
      go_wp2_with fail
      go_roundw
      case rel => exact ⟨k + 1, by go_num, by omega, by have := HL.out; omega, hO.as _⟩
      case measure => have := HL.out; simp [intOf]; omega
    · have h1 : ¬ (k : Int) < ps.length := by omega
      clear hk hk1 hlt
      go_wp2_with fail
      have hO1 := hO
      have hA1 := hA
      clear hO hA
      go_loopw [7] (fun i wr => ∃ (j : Nat) (A : Fr), i = .int .i64 j ∧ j ≤ l.length ∧ Going s d a N st0 st A ∧ Own E wr (SO ++ (heapF h a root ++ (A ++ (S ++ R))))) (fun i _ => l.length - (intOf i).toNat)
      case atStart => exact ⟨0, A, rfl, Nat.zero_le _, hA1, hO1⟩
      case round =>
        clear hO1 hA1
        obtain ⟨j, A, rfl, hj, hA, hO⟩ := hrel
        by_cases hlj : j < l.length
        · have g1 : (j : Int) < l.length := by omega
          have g2 : (0 : Int) ≤ j := by omega
          obtain ⟨sb, rfl⟩ := sl_some4 hS (by omega)
          obtain ⟨y, hy⟩ : ∃ y, l[j]'hlj = y := ⟨_, rfl⟩
          have hym : y ∈ l := hy ▸ List.getElem_mem hlj
          have h0 := hAg.nn y hym
          obtain ⟨t, ht⟩ : ∃ t : Nat, y.tid = t := ⟨y.tid.toNat, by omega⟩
          have hx : (t, (⟨if y.lives then 1 else 2, y.row⟩ : Slot)) ∈ W hs := hAg.mem.2 ⟨y, hym, ht, rfl⟩
          have htb := (W_bd hI hx).2.1
          have hpg := HPG.out y hym
          rw [ht, Int.toNat_natCast] at hpg
          have hrc : ∀ w', Own E w' S → w'.cell? ⟨sb, j * 3, none⟩ = some (.int .i64 t) ∧ w'.cell? ⟨sb, j * 3 + 1, none⟩ = some (.string y.row) ∧ w'.cell? ⟨sb, j * 3 + 2, none⟩ = some (.bool y.lives) := fun w' h => by
            obtain ⟨e1, e2, e3⟩ := rw_cells hS h hlj
            rw [hy] at e1 e2 e3
            rw [ht] at e1
            exact ⟨e1, e2, e3⟩
          have HRC := Lib.hid hrc
          have HX := Lib.hid hx
          have HPQ := Lib.hid hpg
          have HLJ := Lib.hid hlj
          clear hrc hx hpg hy hym h0 ht hj hlj
          have hc1 := (HRC.out _ (hO.as S)).1
          go_wp2_with fail
          refine (hGet E _ _ _ A s d a _ h st0 st root hr hs hI t (by omega) hA hN hO).mono ?_
          clear hO hA hc1
          intro e w4 he
          obtain ⟨he2, A, hA, hO⟩ := he.ok hI HX.out
          have hlv : ((((if y.lives then 1 else 2 : Nat)) : Int) == 1) = y.lives := by cases y.lives <;> rfl
          rw [show (⟨if y.lives then 1 else 2, y.row⟩ : Slot).st = if y.lives then 1 else 2 from rfl, hlv] at he2
          subst he2
          clear he hlv
          go_wp2_with fail
          have hO1 := hO
          clear hO
          generalize hq : ((t / 64 : Nat) : Int) = q
          have HQ := Lib.hid hq
          have HPQ2 := Lib.hid (hq ▸ HPQ.out)
          clear hq
          go_loopw [11, 12] (fun th i wr => ∃ k : Nat, i = .int .i64 k ∧ k ≤ ps.length ∧ th = .bool ((ps.take k).any fun v => v == q) ∧ Own E wr (SO ++ (heapF h a root ++ (A ++ (S ++ R))))) (fun _ i _ => ps.length - (intOf i).toNat)
          case atStart => exact ⟨0, rfl, Nat.zero_le _, rfl, hO1.as _⟩
          case round =>
            clear hO1
            obtain ⟨k, rfl, hk, rfl, hO⟩ := hrel
            by_cases hlt : k < ps.length
            · have f1 : (k : Int) < ps.length := by omega
              have f2 : (0 : Int) ≤ k := by omega
              obtain ⟨pb, rfl⟩ := sl_some4 hSO (by omega)
              obtain ⟨v, hv⟩ : ∃ v, ps[k]'hlt = v := ⟨_, rfl⟩
              have hc1 : ∀ w', Own E w' SO → w'.cell? ⟨pb, k, none⟩ = some (.int .i64 v) := fun w' h => hv ▸ int_cell hSO h hlt
              have C1 := Lib.hid hc1
              have hnx : (ps.take (k + 1)).any (fun v => v == q) = ((ps.take k).any (fun v => v == q) || (v == q)) := by
                rw [List.take_succ_eq_append_getElem hlt, List.any_append, hv]
                simp
              generalize hb : (ps.take k).any (fun v => v == q) = b at hnx
              have HNX := Lib.hid hnx
              have HL := Lib.hid hlt
              clear hv hc1 hk hb hnx hlt
              cases b
              · go_wp2_with fail
                (try (go_wp2_with fail))
                refine region_sch (fun w' => Own E w' (SO ++ S)) (.look 0 (.look 1 (.look 2 (.look 3 (.look 4 (.look 5 (.look 6 (.look 7 (.look 8 (.look 9 (.look 10 (.act 11 (.look 12 (.look 13 (.look 14 .done))))))))))))))) (by kernel_rfl) (by kernel_rfl) (fun _ _ d _ _ h => by cases d <;> exact h) ?_ ?_
                · exact hO.drew.as _
                replace hO := hO.drew
                generalize World.drew _ = wdr at hO ⊢
                first | (refine sch_look (o := ?_) (v := ?_) ?_ ?_ ?_ ?_; rotate_left 2; (· ((conv => lhs; whnf); try exact rfl)); (· rfl); (· intro w' hO'; have c1 := C1.out w' (hO'.as SO); have c2 := (HRC.out w' (hO'.as S)).1; go_simp; (try exact rfl)); simp only [Act.put, List.setIfInBounds_toArray, List.set_cons_zero, List.set_cons_succ]) | (refine sch_pass (o := ?_) ?_ ?_ ?_; rotate_left; (· ((conv => lhs; whnf); try exact rfl)); (· rfl); simp only [Act.put, List.setIfInBounds_toArray, List.set_cons_zero, List.set_cons_succ]) | (refine sch_look (o := ?_) (v := .agg ?_) ?_ ?_ ?_ ?_; rotate_left 2; (· ((conv => lhs; whnf); try exact rfl)); (· rfl); (· intro w' hO'; refine run_opLoadS (b := ?_) (cs := ?_) (e := ?_) (f := ?_) hO' ?_ ?_ ?_ ?_; rotate_left 4; (· exact rfl); (· exact inferInstance); (· simp; done); (· simp; done)); simp only [Act.put, List.setIfInBounds_toArray, List.set_cons_zero, List.set_cons_succ])
                first | (refine sch_look (o := ?_) (v := ?_) ?_ ?_ ?_ ?_; rotate_left 2; (· ((conv => lhs; whnf); try exact rfl)); (· rfl); (· intro w' hO'; have c1 := C1.out w' (hO'.as SO); have c2 := (HRC.out w' (hO'.as S)).1; go_simp; (try exact rfl)); simp only [Act.put, List.setIfInBounds_toArray, List.set_cons_zero, List.set_cons_succ]) | (refine sch_pass (o := ?_) ?_ ?_ ?_; rotate_left; (· ((conv => lhs; whnf); try exact rfl)); (· rfl); simp only [Act.put, List.setIfInBounds_toArray, List.set_cons_zero, List.set_cons_succ]) | (refine sch_look (o := ?_) (v := .agg ?_) ?_ ?_ ?_ ?_; rotate_left 2; (· ((conv => lhs; whnf); try exact rfl)); (· rfl); (· intro w' hO'; refine run_opLoadS (b := ?_) (cs := ?_) (e := ?_) (f := ?_) hO' ?_ ?_ ?_ ?_; rotate_left 4; (· exact rfl); (· exact inferInstance); (· simp; done); (· simp; done)); simp only [Act.put, List.setIfInBounds_toArray, List.set_cons_zero, List.set_cons_succ])
                first | (refine sch_look (o := ?_) (v := ?_) ?_ ?_ ?_ ?_; rotate_left 2; (· ((conv => lhs; whnf); try exact rfl)); (· rfl); (· intro w' hO'; have c1 := C1.out w' (hO'.as SO); have c2 := (HRC.out w' (hO'.as S)).1; go_simp; (try exact rfl)); simp only [Act.put, List.setIfInBounds_toArray, List.set_cons_zero, List.set_cons_succ]) | (refine sch_pass (o := ?_) ?_ ?_ ?_; rotate_left; (· ((conv => lhs; whnf); try exact rfl)); (· rfl); simp only [Act.put, List.setIfInBounds_toArray, List.set_cons_zero, List.set_cons_succ]) | (refine sch_look (o := ?_) (v := .agg ?_) ?_ ?_ ?_ ?_; rotate_left 2; (· ((conv => lhs; whnf); try exact rfl)); (· rfl); (· intro w' hO'; refine run_opLoadS (b := ?_) (cs := ?_) (e := ?_) (f := ?_) hO' ?_ ?_ ?_ ?_; rotate_left 4; (· exact rfl); (· exact inferInstance); (· simp; done); (· simp; done)); simp only [Act.put, List.setIfInBounds_toArray, List.set_cons_zero, List.set_cons_succ])
                first | (refine sch_look (o := ?_) (v := ?_) ?_ ?_ ?_ ?_; rotate_left 2; (· ((conv => lhs; whnf); try exact rfl)); (· rfl); (· intro w' hO'; have c1 := C1.out w' (hO'.as SO); have c2 := (HRC.out w' (hO'.as S)).1; go_simp; (try exact rfl)); simp only [Act.put, List.setIfInBounds_toArray, List.set_cons_zero, List.set_cons_succ]) | (refine sch_pass (o := ?_) ?_ ?_ ?_; rotate_left; (· ((conv => lhs; whnf); try exact rfl)); (· rfl); simp only [Act.put, List.setIfInBounds_toArray, List.set_cons_zero, List.set_cons_succ]) | (refine sch_look (o := ?_) (v := .agg ?_) ?_ ?_ ?_ ?_; rotate_left 2; (· ((conv => lhs; whnf); try exact rfl)); (· rfl); (· intro w' hO'; refine run_opLoadS (b := ?_) (cs := ?_) (e := ?_) (f := ?_) hO' ?_ ?_ ?_ ?_; rotate_left 4; (· exact rfl); (· exact inferInstance); (· simp; done); (· simp; done)); simp only [Act.put, List.setIfInBounds_toArray, List.set_cons_zero, List.set_cons_succ])
                first | (refine sch_look (o := ?_) (v := ?_) ?_ ?_ ?_ ?_; rotate_left 2; (· ((conv => lhs; whnf); try exact rfl)); (· rfl); (· intro w' hO'; have c1 := C1.out w' (hO'.as SO); have c2 := (HRC.out w' (hO'.as S)).1; go_simp; (try exact rfl)); simp only [Act.put, List.setIfInBounds_toArray, List.set_cons_zero, List.set_cons_succ]) | (refine sch_pass (o := ?_) ?_ ?_ ?_; rotate_left; (· ((conv => lhs; whnf); try exact rfl)); (· rfl); simp only [Act.put, List.setIfInBounds_toArray, List.set_cons_zero, List.set_cons_succ]) | (refine sch_look (o := ?_) (v := .agg ?_) ?_ ?_ ?_ ?_; rotate_left 2; (· ((conv => lhs; whnf); try exact rfl)); (· rfl); (· intro w' hO'; refine run_opLoadS (b := ?_) (cs := ?_) (e := ?_) (f := ?_) hO' ?_ ?_ ?_ ?_; rotate_left 4; (· exact rfl); (· exact inferInstance); (· simp; done); (· simp; done)); simp only [Act.put, List.setIfInBounds_toArray, List.set_cons_zero, List.set_cons_succ])
                first | (refine sch_look (o := ?_) (v := ?_) ?_ ?_ ?_ ?_; rotate_left 2; (· ((conv => lhs; whnf); try exact rfl)); (· rfl); (· intro w' hO'; have c1 := C1.out w' (hO'.as SO); have c2 := (HRC.out w' (hO'.as S)).1; go_simp; (try exact rfl)); simp only [Act.put, List.setIfInBounds_toArray, List.set_cons_zero, List.set_cons_succ]) | (refine sch_pass (o := ?_) ?_ ?_ ?_; rotate_left; (· ((conv => lhs; whnf); try exact rfl)); (· rfl); simp only [Act.put, List.setIfInBounds_toArray, List.set_cons_zero, List.set_cons_succ]) | (refine sch_look (o := ?_) (v := .agg ?_) ?_ ?_ ?_ ?_; rotate_left 2; (· ((conv => lhs; whnf); try exact rfl)); (· rfl); (· intro w' hO'; refine run_opLoadS (b := ?_) (cs := ?_) (e := ?_) (f := ?_) hO' ?_ ?_ ?_ ?_; rotate_left 4; (· exact rfl); (· exact inferInstance); (· simp; done); (· simp; done)); simp only [Act.put, List.setIfInBounds_toArray, List.set_cons_zero, List.set_cons_succ])
                first | (refine sch_look (o := ?_) (v := ?_) ?_ ?_ ?_ ?_; rotate_left 2; (· ((conv => lhs; whnf); try exact rfl)); (· rfl); (· intro w' hO'; have c1 := C1.out w' (hO'.as SO); have c2 := (HRC.out w' (hO'.as S)).1; go_simp; (try exact rfl)); simp only [Act.put, List.setIfInBounds_toArray, List.set_cons_zero, List.set_cons_succ]) | (refine sch_pass (o := ?_) ?_ ?_ ?_; rotate_left; (· ((conv => lhs; whnf); try exact rfl)); (· rfl); simp only [Act.put, List.setIfInBounds_toArray, List.set_cons_zero, List.set_cons_succ]) | (refine sch_look (o := ?_) (v := .agg ?_) ?_ ?_ ?_ ?_; rotate_left 2; (· ((conv => lhs; whnf); try exact rfl)); (· rfl); (· intro w' hO'; refine run_opLoadS (b := ?_) (cs := ?_) (e := ?_) (f := ?_) hO' ?_ ?_ ?_ ?_; rotate_left 4; (· exact rfl); (· exact inferInstance); (· simp; done); (· simp; done)); simp only [Act.put, List.setIfInBounds_toArray, List.set_cons_zero, List.set_cons_succ])
                first | (refine sch_look (o := ?_) (v := ?_) ?_ ?_ ?_ ?_; rotate_left 2; (· ((conv => lhs; whnf); try exact rfl)); (· rfl); (· intro w' hO'; have c1 := C1.out w' (hO'.as SO); have c2 := (HRC.out w' (hO'.as S)).1; go_simp; (try exact rfl)); simp only [Act.put, List.setIfInBounds_toArray, List.set_cons_zero, List.set_cons_succ]) | (refine sch_pass (o := ?_) ?_ ?_ ?_; rotate_left; (· ((conv => lhs; whnf); try exact rfl)); (· rfl); simp only [Act.put, List.setIfInBounds_toArray, List.set_cons_zero, List.set_cons_succ]) | (refine sch_look (o := ?_) (v := .agg ?_) ?_ ?_ ?_ ?_; rotate_left 2; (· ((conv => lhs; whnf); try exact rfl)); (· rfl); (· intro w' hO'; refine run_opLoadS (b := ?_) (cs := ?_) (e := ?_) (f := ?_) hO' ?_ ?_ ?_ ?_; rotate_left 4; (· exact rfl); (· exact inferInstance); (· simp; done); (· simp; done)); simp only [Act.put, List.setIfInBounds_toArray, List.set_cons_zero, List.set_cons_succ])
                first | (refine sch_look (o := ?_) (v := ?_) ?_ ?_ ?_ ?_; rotate_left 2; (· ((conv => lhs; whnf); try exact rfl)); (· rfl); (· intro w' hO'; have c1 := C1.out w' (hO'.as SO); have c2 := (HRC.out w' (hO'.as S)).1; go_simp; (try exact rfl)); simp only [Act.put, List.setIfInBounds_toArray, List.set_cons_zero, List.set_cons_succ]) | (refine sch_pass (o := ?_) ?_ ?_ ?_; rotate_left; (· ((conv => lhs; whnf); try exact rfl)); (· rfl); simp only [Act.put, List.setIfInBounds_toArray, List.set_cons_zero, List.set_cons_succ]) | (refine sch_look (o := ?_) (v := .agg ?_) ?_ ?_ ?_ ?_; rotate_left 2; (· ((conv => lhs; whnf); try exact rfl)); (· rfl); (· intro w' hO'; refine run_opLoadS (b := ?_) (cs := ?_) (e := ?_) (f := ?_) hO' ?_ ?_ ?_ ?_; rotate_left 4; (· exact rfl); (· exact inferInstance); (· simp; done); (· simp; done)); simp only [Act.put, List.setIfInBounds_toArray, List.set_cons_zero, List.set_cons_succ])
                first | (refine sch_look (o := ?_) (v := ?_) ?_ ?_ ?_ ?_; rotate_left 2; (· ((conv => lhs; whnf); try exact rfl)); (· rfl); (· intro w' hO'; have c1 := C1.out w' (hO'.as SO); have c2 := (HRC.out w' (hO'.as S)).1; go_simp; (try exact rfl)); simp only [Act.put, List.setIfInBounds_toArray, List.set_cons_zero, List.set_cons_succ]) | (refine sch_pass (o := ?_) ?_ ?_ ?_; rotate_left; (· ((conv => lhs; whnf); try exact rfl)); (· rfl); simp only [Act.put, List.setIfInBounds_toArray, List.set_cons_zero, List.set_cons_succ]) | (refine sch_look (o := ?_) (v := .agg ?_) ?_ ?_ ?_ ?_; rotate_left 2; (· ((conv => lhs; whnf); try exact rfl)); (· rfl); (· intro w' hO'; refine run_opLoadS (b := ?_) (cs := ?_) (e := ?_) (f := ?_) hO' ?_ ?_ ?_ ?_; rotate_left 4; (· exact rfl); (· exact inferInstance); (· simp; done); (· simp; done)); simp only [Act.put, List.setIfInBounds_toArray, List.set_cons_zero, List.set_cons_succ])
                first | (refine sch_look (o := ?_) (v := ?_) ?_ ?_ ?_ ?_; rotate_left 2; (· ((conv => lhs; whnf); try exact rfl)); (· rfl); (· intro w' hO'; have c1 := C1.out w' (hO'.as SO); have c2 := (HRC.out w' (hO'.as S)).1; go_simp; (try exact rfl)); simp only [Act.put, List.setIfInBounds_toArray, List.set_cons_zero, List.set_cons_succ]) | (refine sch_pass (o := ?_) ?_ ?_ ?_; rotate_left; (· ((conv => lhs; whnf); try exact rfl)); (· rfl); simp only [Act.put, List.setIfInBounds_toArray, List.set_cons_zero, List.set_cons_succ]) | (refine sch_look (o := ?_) (v := .agg ?_) ?_ ?_ ?_ ?_; rotate_left 2; (· ((conv => lhs; whnf); try exact rfl)); (· rfl); (· intro w' hO'; refine run_opLoadS (b := ?_) (cs := ?_) (e := ?_) (f := ?_) hO' ?_ ?_ ?_ ?_; rotate_left 4; (· exact rfl); (· exact inferInstance); (· simp; done); (· simp; done)); simp only [Act.put, List.setIfInBounds_toArray, List.set_cons_zero, List.set_cons_succ])
                (refine sch_act (o := ?_) ?_ ?_; rotate_left; (· ((conv => lhs; whnf); try exact rfl)))
                go_wp2_with fail
                refine (hPageN t (by omega) _).mono ?_
                rintro e w5 ⟨rfl, rfl⟩
                rw [HQ.out]
                go_wp2_with fail
                refine ⟨hO.as _, ?_⟩
                first | (refine sch_look (o := ?_) (v := ?_) ?_ ?_ ?_ ?_; rotate_left 2; (· ((conv => lhs; whnf); try exact rfl)); (· rfl); (· intro w' hO'; have c1 := C1.out w' (hO'.as SO); have c2 := (HRC.out w' (hO'.as S)).1; go_simp; (try exact rfl)); simp only [Act.put, List.setIfInBounds_toArray, List.set_cons_zero, List.set_cons_succ]) | (refine sch_pass (o := ?_) ?_ ?_ ?_; rotate_left; (· ((conv => lhs; whnf); try exact rfl)); (· rfl); simp only [Act.put, List.setIfInBounds_toArray, List.set_cons_zero, List.set_cons_succ]) | (refine sch_look (o := ?_) (v := .agg ?_) ?_ ?_ ?_ ?_; rotate_left 2; (· ((conv => lhs; whnf); try exact rfl)); (· rfl); (· intro w' hO'; refine run_opLoadS (b := ?_) (cs := ?_) (e := ?_) (f := ?_) hO' ?_ ?_ ?_ ?_; rotate_left 4; (· exact rfl); (· exact inferInstance); (· simp; done); (· simp; done)); simp only [Act.put, List.setIfInBounds_toArray, List.set_cons_zero, List.set_cons_succ])
                first | (refine sch_look (o := ?_) (v := ?_) ?_ ?_ ?_ ?_; rotate_left 2; (· ((conv => lhs; whnf); try exact rfl)); (· rfl); (· intro w' hO'; have c1 := C1.out w' (hO'.as SO); have c2 := (HRC.out w' (hO'.as S)).1; go_simp; (try exact rfl)); simp only [Act.put, List.setIfInBounds_toArray, List.set_cons_zero, List.set_cons_succ]) | (refine sch_pass (o := ?_) ?_ ?_ ?_; rotate_left; (· ((conv => lhs; whnf); try exact rfl)); (· rfl); simp only [Act.put, List.setIfInBounds_toArray, List.set_cons_zero, List.set_cons_succ]) | (refine sch_look (o := ?_) (v := .agg ?_) ?_ ?_ ?_ ?_; rotate_left 2; (· ((conv => lhs; whnf); try exact rfl)); (· rfl); (· intro w' hO'; refine run_opLoadS (b := ?_) (cs := ?_) (e := ?_) (f := ?_) hO' ?_ ?_ ?_ ?_; rotate_left 4; (· exact rfl); (· exact inferInstance); (· simp; done); (· simp; done)); simp only [Act.put, List.setIfInBounds_toArray, List.set_cons_zero, List.set_cons_succ])
                first | (refine sch_look (o := ?_) (v := ?_) ?_ ?_ ?_ ?_; rotate_left 2; (· ((conv => lhs; whnf); try exact rfl)); (· rfl); (· intro w' hO'; have c1 := C1.out w' (hO'.as SO); have c2 := (HRC.out w' (hO'.as S)).1; go_simp; (try exact rfl)); simp only [Act.put, List.setIfInBounds_toArray, List.set_cons_zero, List.set_cons_succ]) | (refine sch_pass (o := ?_) ?_ ?_ ?_; rotate_left; (· ((conv => lhs; whnf); try exact rfl)); (· rfl); simp only [Act.put, List.setIfInBounds_toArray, List.set_cons_zero, List.set_cons_succ]) | (refine sch_look (o := ?_) (v := .agg ?_) ?_ ?_ ?_ ?_; rotate_left 2; (· ((conv => lhs; whnf); try exact rfl)); (· rfl); (· intro w' hO'; refine run_opLoadS (b := ?_) (cs := ?_) (e := ?_) (f := ?_) hO' ?_ ?_ ?_ ?_; rotate_left 4; (· exact rfl); (· exact inferInstance); (· simp; done); (· simp; done)); simp only [Act.put, List.setIfInBounds_toArray, List.set_cons_zero, List.set_cons_succ])
                refine sch_done ?_
                go_wp2_with fail
                go_roundw
                case rel => exact ⟨k + 1, by go_num, by have := HL.out; omega, by rw [HNX.out]; rfl, hO.as _⟩
                case measure => have := HL.out; simp [intOf]; omega
              · go_wp2_with fail
                (try (go_wp2_with fail))
                refine region_sch (fun w' => Own E w' (SO ++ S)) (.look 0 (.look 1 (.look 2 (.look 3 (.look 4 (.look 5 (.look 6 (.look 7 (.look 8 (.look 9 (.look 10 (.look 11 (.look 12 (.look 13 (.look 14 .done))))))))))))))) (by kernel_rfl) (by kernel_rfl) (fun _ _ d _ _ h => by cases d <;> exact h) ?_ ?_
                · exact hO.drew.as _
                replace hO := hO.drew
                generalize World.drew _ = wdr at hO ⊢
                first | (refine sch_look (o := ?_) (v := ?_) ?_ ?_ ?_ ?_; rotate_left 2; (· ((conv => lhs; whnf); try exact rfl)); (· rfl); (· intro w' hO'; have c1 := C1.out w' (hO'.as SO); have c2 := (HRC.out w' (hO'.as S)).1; go_simp; (try exact rfl)); simp only [Act.put, List.setIfInBounds_toArray, List.set_cons_zero, List.set_cons_succ]) | (refine sch_pass (o := ?_) ?_ ?_ ?_; rotate_left; (· ((conv => lhs; whnf); try exact rfl)); (· rfl); simp only [Act.put, List.setIfInBounds_toArray, List.set_cons_zero, List.set_cons_succ]) | (refine sch_look (o := ?_) (v := .agg ?_) ?_ ?_ ?_ ?_; rotate_left 2; (· ((conv => lhs; whnf); try exact rfl)); (· rfl); (· intro w' hO'; refine run_opLoadS (b := ?_) (cs := ?_) (e := ?_) (f := ?_) hO' ?_ ?_ ?_ ?_; rotate_left 4; (· exact rfl); (· exact inferInstance); (· simp; done); (· simp; done)); simp only [Act.put, List.setIfInBounds_toArray, List.set_cons_zero, List.set_cons_succ])
                first | (refine sch_look (o := ?_) (v := ?_) ?_ ?_ ?_ ?_; rotate_left 2; (· ((conv => lhs; whnf); try exact rfl)); (· rfl); (· intro w' hO'; have c1 := C1.out w' (hO'.as SO); have c2 := (HRC.out w' (hO'.as S)).1; go_simp; (try exact rfl)); simp only [Act.put, List.setIfInBounds_toArray, List.set_cons_zero, List.set_cons_succ]) | (refine sch_pass (o := ?_) ?_ ?_ ?_; rotate_left; (· ((conv => lhs; whnf); try exact rfl)); (· rfl); simp only [Act.put, List.setIfInBounds_toArray, List.set_cons_zero, List.set_cons_succ]) | (refine sch_look (o := ?_) (v := .agg ?_) ?_ ?_ ?_ ?_; rotate_left 2; (· ((conv => lhs; whnf); try exact rfl)); (· rfl); (· intro w' hO'; refine run_opLoadS (b := ?_) (cs := ?_) (e := ?_) (f := ?_) hO' ?_ ?_ ?_ ?_; rotate_left 4; (· exact rfl); (· exact inferInstance); (· simp; done); (· simp; done)); simp only [Act.put, List.setIfInBounds_toArray, List.set_cons_zero, List.set_cons_succ])
                first | (refine sch_look (o := ?_) (v := ?_) ?_ ?_ ?_ ?_; rotate_left 2; (· ((conv => lhs; whnf); try exact rfl)); (· rfl); (· intro w' hO'; have c1 := C1.out w' (hO'.as SO); have c2 := (HRC.out w' (hO'.as S)).1; go_simp; (try exact rfl)); simp only [Act.put, List.setIfInBounds_toArray, List.set_cons_zero, List.set_cons_succ]) | (refine sch_pass (o := ?_) ?_ ?_ ?_; rotate_left; (· ((conv => lhs; whnf); try exact rfl)); (· rfl); simp only [Act.put, List.setIfInBounds_toArray, List.set_cons_zero, List.set_cons_succ]) | (refine sch_look (o := ?_) (v := .agg ?_) ?_ ?_ ?_ ?_; rotate_left 2; (· ((conv => lhs; whnf); try exact rfl)); (· rfl); (· intro w' hO'; refine run_opLoadS (b := ?_) (cs := ?_) (e := ?_) (f := ?_) hO' ?_ ?_ ?_ ?_; rotate_left 4; (· exact rfl); (· exact inferInstance); (· simp; done); (· simp; done)); simp only [Act.put, List.setIfInBounds_toArray, List.set_cons_zero, List.set_cons_succ])
                first | (refine sch_look (o := ?_) (v := ?_) ?_ ?_ ?_ ?_; rotate_left 2; (· ((conv => lhs; whnf); try exact rfl)); (· rfl); (· intro w' hO'; have c1 := C1.out w' (hO'.as SO); have c2 := (HRC.out w' (hO'.as S)).1; go_simp; (try exact rfl)); simp only [Act.put, List.setIfInBounds_toArray, List.set_cons_zero, List.set_cons_succ]) | (refine sch_pass (o := ?_) ?_ ?_ ?_; rotate_left; (· ((conv => lhs; whnf); try exact rfl)); (· rfl); simp only [Act.put, List.setIfInBounds_toArray, List.set_cons_zero, List.set_cons_succ]) | (refine sch_look (o := ?_) (v := .agg ?_) ?_ ?_ ?_ ?_; rotate_left 2; (· ((conv => lhs; whnf); try exact rfl)); (· rfl); (· intro w' hO'; refine run_opLoadS (b := ?_) (cs := ?_) (e := ?_) (f := ?_) hO' ?_ ?_ ?_ ?_; rotate_left 4; (· exact rfl); (· exact inferInstance); (· simp; done); (· simp; done)); simp only [Act.put, List.setIfInBounds_toArray, List.set_cons_zero, List.set_cons_succ])
                first | (refine sch_look (o := ?_) (v := ?_) ?_ ?_ ?_ ?_; rotate_left 2; (· ((conv => lhs; whnf); try exact rfl)); (· rfl); (· intro w' hO'; have c1 := C1.out w' (hO'.as SO); have c2 := (HRC.out w' (hO'.as S)).1; go_simp; (try exact rfl)); simp only [Act.put, List.setIfInBounds_toArray, List.set_cons_zero, List.set_cons_succ]) | (refine sch_pass (o := ?_) ?_ ?_ ?_; rotate_left; (· ((conv => lhs; whnf); try exact rfl)); (· rfl); simp only [Act.put, List.setIfInBounds_toArray, List.set_cons_zero, List.set_cons_succ]) | (refine sch_look (o := ?_) (v := .agg ?_) ?_ ?_ ?_ ?_; rotate_left 2; (· ((conv => lhs; whnf); try exact rfl)); (· rfl); (· intro w' hO'; refine run_opLoadS (b := ?_) (cs := ?_) (e := ?_) (f := ?_) hO' ?_ ?_ ?_ ?_; rotate_left 4; (· exact rfl); (· exact inferInstance); (· simp; done); (· simp; done)); simp only [Act.put, List.setIfInBounds_toArray, List.set_cons_zero, List.set_cons_succ])
                first | (refine sch_look (o := ?_) (v := ?_) ?_ ?_ ?_ ?_; rotate_left 2; (· ((conv => lhs; whnf); try exact rfl)); (· rfl); (· intro w' hO'; have c1 := C1.out w' (hO'.as SO); have c2 := (HRC.out w' (hO'.as S)).1; go_simp; (try exact rfl)); simp only [Act.put, List.setIfInBounds_toArray, List.set_cons_zero, List.set_cons_succ]) | (refine sch_pass (o := ?_) ?_ ?_ ?_; rotate_left; (· ((conv => lhs; whnf); try exact rfl)); (· rfl); simp only [Act.put, List.setIfInBounds_toArray, List.set_cons_zero, List.set_cons_succ]) | (refine sch_look (o := ?_) (v := .agg ?_) ?_ ?_ ?_ ?_; rotate_left 2; (· ((conv => lhs; whnf); try exact rfl)); (· rfl); (· intro w' hO'; refine run_opLoadS (b := ?_) (cs := ?_) (e := ?_) (f := ?_) hO' ?_ ?_ ?_ ?_; rotate_left 4; (· exact rfl); (· exact inferInstance); (· simp; done); (· simp; done)); simp only [Act.put, List.setIfInBounds_toArray, List.set_cons_zero, List.set_cons_succ])
                first | (refine sch_look (o := ?_) (v := ?_) ?_ ?_ ?_ ?_; rotate_left 2; (· ((conv => lhs; whnf); try exact rfl)); (· rfl); (· intro w' hO'; have c1 := C1.out w' (hO'.as SO); have c2 := (HRC.out w' (hO'.as S)).1; go_simp; (try exact rfl)); simp only [Act.put, List.setIfInBounds_toArray, List.set_cons_zero, List.set_cons_succ]) | (refine sch_pass (o := ?_) ?_ ?_ ?_; rotate_left; (· ((conv => lhs; whnf); try exact rfl)); (· rfl); simp only [Act.put, List.setIfInBounds_toArray, List.set_cons_zero, List.set_cons_succ]) | (refine sch_look (o := ?_) (v := .agg ?_) ?_ ?_ ?_ ?_; rotate_left 2; (· ((conv => lhs; whnf); try exact rfl)); (· rfl); (· intro w' hO'; refine run_opLoadS (b := ?_) (cs := ?_) (e := ?_) (f := ?_) hO' ?_ ?_ ?_ ?_; rotate_left 4; (· exact rfl); (· exact inferInstance); (· simp; done); (· simp; done)); simp only [Act.put, List.setIfInBounds_toArray, List.set_cons_zero, List.set_cons_succ])
                first | (refine sch_look (o := ?_) (v := ?_) ?_ ?_ ?_ ?_; rotate_left 2; (· ((conv => lhs; whnf); try exact rfl)); (· rfl); (· intro w' hO'; have c1 := C1.out w' (hO'.as SO); have c2 := (HRC.out w' (hO'.as S)).1; go_simp; (try exact rfl)); simp only [Act.put, List.setIfInBounds_toArray, List.set_cons_zero, List.set_cons_succ]) | (refine sch_pass (o := ?_) ?_ ?_ ?_; rotate_left; (· ((conv => lhs; whnf); try exact rfl)); (· rfl); simp only [Act.put, List.setIfInBounds_toArray, List.set_cons_zero, List.set_cons_succ]) | (refine sch_look (o := ?_) (v := .agg ?_) ?_ ?_ ?_ ?_; rotate_left 2; (· ((conv => lhs; whnf); try exact rfl)); (· rfl); (· intro w' hO'; refine run_opLoadS (b := ?_) (cs := ?_) (e := ?_) (f := ?_) hO' ?_ ?_ ?_ ?_; rotate_left 4; (· exact rfl); (· exact inferInstance); (· simp; done); (· simp; done)); simp only [Act.put, List.setIfInBounds_toArray, List.set_cons_zero, List.set_cons_succ])
                first | (refine sch_look (o := ?_) (v := ?_) ?_ ?_ ?_ ?_; rotate_left 2; (· ((conv => lhs; whnf); try exact rfl)); (· rfl); (· intro w' hO'; have c1 := C1.out w' (hO'.as SO); have c2 := (HRC.out w' (hO'.as S)).1; go_simp; (try exact rfl)); simp only [Act.put, List.setIfInBounds_toArray, List.set_cons_zero, List.set_cons_succ]) | (refine sch_pass (o := ?_) ?_ ?_ ?_; rotate_left; (· ((conv => lhs; whnf); try exact rfl)); (· rfl); simp only [Act.put, List.setIfInBounds_toArray, List.set_cons_zero, List.set_cons_succ]) | (refine sch_look (o := ?_) (v := .agg ?_) ?_ ?_ ?_ ?_; rotate_left 2; (· ((conv => lhs; whnf); try exact rfl)); (· rfl); (· intro w' hO'; refine run_opLoadS (b := ?_) (cs := ?_) (e := ?_) (f := ?_) hO' ?_ ?_ ?_ ?_; rotate_left 4; (· exact rfl); (· exact inferInstance); (· simp; done); (· simp; done)); simp only [Act.put, List.setIfInBounds_toArray, List.set_cons_zero, List.set_cons_succ])
                first | (refine sch_look (o := ?_) (v := ?_) ?_ ?_ ?_ ?_; rotate_left 2; (· ((conv => lhs; whnf); try exact rfl)); (· rfl); (· intro w' hO'; have c1 := C1.out w' (hO'.as SO); have c2 := (HRC.out w' (hO'.as S)).1; go_simp; (try exact rfl)); simp only [Act.put, List.setIfInBounds_toArray, List.set_cons_zero, List.set_cons_succ]) | (refine sch_pass (o := ?_) ?_ ?_ ?_; rotate_left; (· ((conv => lhs; whnf); try exact rfl)); (· rfl); simp only [Act.put, List.setIfInBounds_toArray, List.set_cons_zero, List.set_cons_succ]) | (refine sch_look (o := ?_) (v := .agg ?_) ?_ ?_ ?_ ?_; rotate_left 2; (· ((conv => lhs; whnf); try exact rfl)); (· rfl); (· intro w' hO'; refine run_opLoadS (b := ?_) (cs := ?_) (e := ?_) (f := ?_) hO' ?_ ?_ ?_ ?_; rotate_left 4; (· exact rfl); (· exact inferInstance); (· simp; done); (· simp; done)); simp only [Act.put, List.setIfInBounds_toArray, List.set_cons_zero, List.set_cons_succ])
                first | (refine sch_look (o := ?_) (v := ?_) ?_ ?_ ?_ ?_; rotate_left 2; (· ((conv => lhs; whnf); try exact rfl)); (· rfl); (· intro w' hO'; have c1 := C1.out w' (hO'.as SO); have c2 := (HRC.out w' (hO'.as S)).1; go_simp; (try exact rfl)); simp only [Act.put, List.setIfInBounds_toArray, List.set_cons_zero, List.set_cons_succ]) | (refine sch_pass (o := ?_) ?_ ?_ ?_; rotate_left; (· ((conv => lhs; whnf); try exact rfl)); (· rfl); simp only [Act.put, List.setIfInBounds_toArray, List.set_cons_zero, List.set_cons_succ]) | (refine sch_look (o := ?_) (v := .agg ?_) ?_ ?_ ?_ ?_; rotate_left 2; (· ((conv => lhs; whnf); try exact rfl)); (· rfl); (· intro w' hO'; refine run_opLoadS (b := ?_) (cs := ?_) (e := ?_) (f := ?_) hO' ?_ ?_ ?_ ?_; rotate_left 4; (· exact rfl); (· exact inferInstance); (· simp; done); (· simp; done)); simp only [Act.put, List.setIfInBounds_toArray, List.set_cons_zero, List.set_cons_succ])
                (refine sch_pass (o := ?_) ?_ ?_ ?_; rotate_left; (· ((conv => lhs; whnf); try exact rfl)); (· rfl); simp only [Act.put, List.setIfInBounds_toArray, List.set_cons_zero, List.set_cons_succ])
                first | (refine sch_look (o := ?_) (v := ?_) ?_ ?_ ?_ ?_; rotate_left 2; (· ((conv => lhs; whnf); try exact rfl)); (· rfl); (· intro w' hO'; have c1 := C1.out w' (hO'.as SO); have c2 := (HRC.out w' (hO'.as S)).1; go_simp; (try exact rfl)); simp only [Act.put, List.setIfInBounds_toArray, List.set_cons_zero, List.set_cons_succ]) | (refine sch_pass (o := ?_) ?_ ?_ ?_; rotate_left; (· ((conv => lhs; whnf); try exact rfl)); (· rfl); simp only [Act.put, List.setIfInBounds_toArray, List.set_cons_zero, List.set_cons_succ]) | (refine sch_look (o := ?_) (v := .agg ?_) ?_ ?_ ?_ ?_; rotate_left 2; (· ((conv => lhs; whnf); try exact rfl)); (· rfl); (· intro w' hO'; refine run_opLoadS (b := ?_) (cs := ?_) (e := ?_) (f := ?_) hO' ?_ ?_ ?_ ?_; rotate_left 4; (· exact rfl); (· exact inferInstance); (· simp; done); (· simp; done)); simp only [Act.put, List.setIfInBounds_toArray, List.set_cons_zero, List.set_cons_succ])
                first | (refine sch_look (o := ?_) (v := ?_) ?_ ?_ ?_ ?_; rotate_left 2; (· ((conv => lhs; whnf); try exact rfl)); (· rfl); (· intro w' hO'; have c1 := C1.out w' (hO'.as SO); have c2 := (HRC.out w' (hO'.as S)).1; go_simp; (try exact rfl)); simp only [Act.put, List.setIfInBounds_toArray, List.set_cons_zero, List.set_cons_succ]) | (refine sch_pass (o := ?_) ?_ ?_ ?_; rotate_left; (· ((conv => lhs; whnf); try exact rfl)); (· rfl); simp only [Act.put, List.setIfInBounds_toArray, List.set_cons_zero, List.set_cons_succ]) | (refine sch_look (o := ?_) (v := .agg ?_) ?_ ?_ ?_ ?_; rotate_left 2; (· ((conv => lhs; whnf); try exact rfl)); (· rfl); (· intro w' hO'; refine run_opLoadS (b := ?_) (cs := ?_) (e := ?_) (f := ?_) hO' ?_ ?_ ?_ ?_; rotate_left 4; (· exact rfl); (· exact inferInstance); (· simp; done); (· simp; done)); simp only [Act.put, List.setIfInBounds_toArray, List.set_cons_zero, List.set_cons_succ])
                first | (refine sch_look (o := ?_) (v := ?_) ?_ ?_ ?_ ?_; rotate_left 2; (· ((conv => lhs; whnf); try exact rfl)); (· rfl); (· intro w' hO'; have c1 := C1.out w' (hO'.as SO); have c2 := (HRC.out w' (hO'.as S)).1; go_simp; (try exact rfl)); simp only [Act.put, List.setIfInBounds_toArray, List.set_cons_zero, List.set_cons_succ]) | (refine sch_pass (o := ?_) ?_ ?_ ?_; rotate_left; (· ((conv => lhs; whnf); try exact rfl)); (· rfl); simp only [Act.put, List.setIfInBounds_toArray, List.set_cons_zero, List.set_cons_succ]) | (refine sch_look (o := ?_) (v := .agg ?_) ?_ ?_ ?_ ?_; rotate_left 2; (· ((conv => lhs; whnf); try exact rfl)); (· rfl); (· intro w' hO'; refine run_opLoadS (b := ?_) (cs := ?_) (e := ?_) (f := ?_) hO' ?_ ?_ ?_ ?_; rotate_left 4; (· exact rfl); (· exact inferInstance); (· simp; done); (· simp; done)); simp only [Act.put, List.setIfInBounds_toArray, List.set_cons_zero, List.set_cons_succ])
                refine sch_done ?_
                go_wp2_with fail
                go_roundw
                case rel => exact ⟨k + 1, by go_num, by have := HL.out; omega, by rw [HNX.out]; rfl, hO.as _⟩
                case measure => have := HL.out; simp [intOf]; omega
            · obtain rfl : k = ps.length := by omega
              have f1 : ¬ (ps.length : Int) < ps.length := by omega
              have hany : (ps.take ps.length).any (fun v => v == q) = true := by
                rw [List.take_length]
                exact List.any_eq_true.2 ⟨q, HPQ2.out, beq_self_eq_true _⟩
              rw [hany]
              obtain ⟨-, c2, c3⟩ := HRC.out _ (hO.as S)
              generalize y.lives = b at c3 ⊢
              generalize y.row = row at c2 ⊢
              clear hlt hk hany
              cases b
              all_goals (
                go_wp2_with fail
                go_roundw
                case rel => exact ⟨j + 1, A, by go_num, HLJ.out, hA, hO⟩
                case measure => have := HLJ.out; simp [intOf]; omega)
        · obtain rfl : j = l.length := by omega
          have g1 : ¬ (l.length : Int) < l.length := by omega
          go_wp2_with fail
          rw [← HPOST.out]
          exact ⟨rfl, A, hA, hO.as _⟩
end Go.Proofs.YtkfkcloefgfkaaaGreat

/- Arguments opened: a slice of structs as rows of cells; a list of what each row says. -/
namespace Go.Own
open Go.RowKit Go.ChangeShapes Go.WideShapes Go.Deep

theorem exists_list {α : Type} [Inhabited α] {P : Nat → α → Prop} : ∀ {n : Nat}, (∀ i, i < n → ∃ o, P i o) → ∃ L : List α, L.length = n ∧ ∀ i (h : i < L.length), P i L[i]
  | n, hp => by
    refine ⟨(List.range n).map fun i => if h : i < n then Classical.choose (hp i h) else default, by simp, ?_⟩
    intro i h
    have hi : i < n := by simpa using h
    simp only [List.getElem_map, List.getElem_range, hi, dite_true]
    exact Classical.choose_spec (hp i hi)

section
variable {H : Type} {enc : TypeId × Value → H} {P : Program} {w : World} {base : Nat} {spare : Nat → Bool} {held : Bool}
/-- A slice of structs of one-cell fields: each element a row of cells of the world, each field's cell read as data. -/
theorem open_rows {t e : TypeId} {fs : Array Field} {fuel : Nat} {v : Value} {x : DataW H × List MemPlace} (ht : P.underlying t = some (.slice e)) (he : P.underlying e = some (.struct fs))
    (hone : oneCellFields P fs = true) (hC : P.cellsOf e = fs.size) (h : DataW.trod enc P w base spare held fuel t [v] = some x) :
    ∃ (sa : Option Addr) (len cap : Nat), v = .slice sa len cap ∧ len ≤ cap ∧ cap ≤ maxLen ∧ (sa = none → len = 0 ∧ cap = 0) ∧ (len = 0 ∨ ∃ es sp, x.1 = .slice es sp ∧ es.length = len) ∧
      ∀ i, i < len → ∃ ad vs, sa = some ad ∧ vs.length = fs.size ∧ RowAt w (ad.add (i * fs.size)) vs ∧ ∃ n, ∀ (j : Nat) (f : Field), fs[j]? = some f → ∃ u y, vs[j]? = some u ∧ DataW.trod enc P w base spare held n f.type [u] = some y := by
  rcases open_slice ht h with ⟨h0, hx⟩ | ⟨a, len, cap, m, n, D, Pl, hcs, hb, hl, hm, hmm, hx, hi⟩
  · refine ⟨none, 0, 0, by simpa using h0, by omega, by simp [maxLen], fun _ => ⟨rfl, rfl⟩, .inl rfl, fun i hi => absurd hi (by omega)⟩
  · refine ⟨some a, len, cap, by simpa using hcs, hl, hm, by simp, .inr ⟨_, _, by rw [hx], by simp⟩, fun i him => ?_⟩
    have hlm : len ≤ m := by rw [hmm]; split <;> omega
    obtain ⟨cs', hc, ht'⟩ := hi i (by omega)
    rw [hC] at hc
    obtain ⟨ys, n', _, _, _, hyl, hf⟩ := DataW.trod_struct he ht'
    obtain ⟨_, hcl, hat⟩ := World.cells?_some hc
    refine ⟨a, cs', rfl, hcl, ?_, n', ?_⟩
    · intro j u hj
      have hjl : j < cs'.length := (List.getElem?_eq_some_iff.1 hj).1
      rw [hat j (by omega), hj]
    · intro j f hj
      obtain ⟨ho, hk⟩ := hone_of hone j f hj
      have hjl : j < fs.size := (Array.getElem?_eq_some_iff.1 hj).1
      have h1 := hf j f hj
      rw [ho, hk] at h1
      have h2 : (cs'.drop j).take 1 = [cs'[j]'(by omega)] := by
        rw [List.drop_eq_getElem_cons (by omega)]
        rfl
      rw [h2, List.getElem?_eq_getElem (by omega)] at h1
      exact ⟨_, _, List.getElem?_eq_getElem (by omega), h1⟩
end
end Go.Own

/- Arguments of vestibulelaw07: the calls. -/
namespace Go.Proofs.YtkfkcloefgfkaaaGreat
open Go.ChangeShapes Go.WideShapes Go.RowKit Go.Own Go.Deep

structure Op7 where
  k : Int
  p : Int
  t : ByteArray
def Op7.cells (o : Op7) : List Value := [.int .i64 o.k, .int .i64 o.p, .string o.t]
instance : Inhabited Op7 := ⟨⟨0, 0, .empty⟩⟩
/-- The calls as they came in. -/
def OpsAt7 (E : World) (sa : Option Addr) (L : List Op7) : Prop :=
  ∀ i (h : i < L.length), ∃ ad, sa = some ad ∧ RowAt E (ad.add (i * 3)) (L[i]).cells ∧ (L[i]).p < 9223372036854775808

theorem wf7 {n : Int} (h : (Lit.int .i64 n).wf = true) : -9223372036854775808 ≤ n ∧ n ≤ 9223372036854775807 := by
  have h1 : IntKind.i64.min ≤ n ∧ n ≤ 9223372036854775807 := by simpa [Lit.wf] using h
  have h2 : IntKind.i64.min = -9223372036854775808 := by decide
  rw [h2] at h1
  exact h1
theorem ops7At {H : Type} {enc : TypeId × Value → H} {W : World} {spare : Nat → Bool} {v : Value} {fuel : Nat} {x : DataW H × List MemPlace} (h : DataW.trod enc Tryz.prog W 0 spare true fuel 22 [v] = some x) :
    ∃ sa sc L, v = .slice sa (List.length L) sc ∧ OpsAt7 W sa L ∧ (List.length L = 0 ∨ ∃ es sp, x.1 = .slice es sp ∧ es.length = List.length L) := by
  obtain ⟨sa, len, cap, rfl, _, _, _, hx, hr⟩ := open_rows (P := Tryz.prog) Tryz.underlying22 Tryz.underlying37 (by kernel_rfl) (by kernel_rfl) h
  have : ∀ i, i < len → ∃ o : Op7, ∃ ad, sa = some ad ∧ RowAt W (ad.add (i * 3)) o.cells ∧ o.p < 9223372036854775808 := by
    intro i hi
    obtain ⟨ad, vs, rfl, hvl, hrow, n, hf⟩ := hr i hi
    obtain ⟨u0, y0, e0, t0⟩ := hf 0 _ rfl
    obtain ⟨u1, y1, e1, t1⟩ := hf 1 _ rfl
    obtain ⟨u2, y2, e2, t2⟩ := hf 2 _ rfl
    obtain ⟨k0, c0, _, _⟩ := DataW.trod_int Tryz.underlying3 t0
    obtain ⟨k1, c1, _, wf1⟩ := DataW.trod_int Tryz.underlying3 t1
    have w1 := wf7 wf1
    obtain ⟨s2, c2, _, _⟩ := DataW.trod_string Tryz.underlying9 t2
    match vs, hvl with
    | [_, _, _], _ =>
      simp at e0 e1 e2 c0 c1 c2
      subst e0 e1 e2 c0 c1 c2
      exact ⟨⟨k0, k1, s2⟩, ad, rfl, hrow, by have := w1.2; show k1 < _; omega⟩
  obtain ⟨L, hL, hp⟩ := exists_list this
  subst hL
  exact ⟨sa, cap, L, rfl, hp, hx⟩
end Go.Proofs.YtkfkcloefgfkaaaGreat

/- Heap: a heap that nobody made, or whose action is over. -/
namespace Go.Proofs.YtkfkcloefgfkaaaGreat
open Go Go.RowKit Go.Own Go.Dk

def DeadX (E : World) (X : Fr) (v : Value) (n : Int) : Prop :=
  (v = .pointer none ∨ ∃ h : Nat, v = .pointer (some ⟨h, 0, none⟩)) ∧ (n = 1 ∨ n = 5) ∧ ∀ w Y, Own E w (Y ++ X) → Calls Tryz.prog 93 #[v] w fun e w' => e = .returned (.tuple #[.int .i64 0, .int .i64 n]) ∧ Own E w' (Y ++ X)
theorem DeadX.add {E : World} {X : Fr} {v : Value} {n : Int} (h : DeadX E X v n) (Y : Fr) : DeadX E (Y ++ X) v n := by
  refine ⟨h.1, h.2.1, fun w Z hO => ?_⟩
  have := h.2.2 w (Z ++ Y) (by rw [List.append_assoc]; exact hO)
  rw [List.append_assoc] at this
  exact this
theorem DeadX.nil (E : World) (X : Fr) : DeadX E X (.pointer none) 1 := by
  refine ⟨.inl rfl, .inl rfl, fun w Y hO => ?_⟩
  go_enter Tryz.func93, Tryz.ntmps93
  go_wp2_with fail
  go_ret2
  exact ⟨rfl, hO⟩
set_option maxRecDepth 100000 in
set_option maxHeartbeats 16000000 in
theorem dead1 (E w : World) (R : Fr) (h : Nat) (va : Value) (root n : Int) (hda : ∀ w Y, Own E w (Y ++ (pt h (.cells #[va, .int .i64 root] 86 (0, 0)) ++ R)) → DeadA w va n) (hO : Own E w (pt h (.cells #[va, .int .i64 root] 86 (0, 0)) ++ R)) :
    Calls Tryz.prog 93 #[.pointer (some ⟨h, 0, none⟩)] w fun e w' => e = .returned (.tuple #[.int .i64 0, .int .i64 n]) ∧ Own E w' (pt h (.cells #[va, .int .i64 root] 86 (0, 0)) ++ R) := by
  have HD := Lib.hid hda
  clear hda
  go_enter Tryz.func93, Tryz.ntmps93
  ((try simp only [List.nil_append, List.append_nil] at hO); have hF := Own.cells hO; simp only [cellsOf_append, cellsOf_pt] at hF)
  go_wp2_with fail
  (try (go_wp2_with fail))
  refine region_sch (fun w' => Own E w' (pt h (.cells #[va, .int .i64 root] 86 (0, 0)))) (.look 0 (.look 1 (.look 2 (.look 3 (.look 4 (.look 5 (.look 6 (.look 7 (.act 8 (.look 9 (.look 10 (.look 11 (.look 12 .done))))))))))))) (by kernel_rfl) (by kernel_rfl) (fun _ _ d _ _ h => by cases d <;> exact h) ?_ ?_
  · exact hO.drew.as _
  replace hO := hO.drew
  generalize World.drew _ = wdr at hO ⊢
  first | (refine sch_look (o := ?_) (v := ?_) ?_ ?_ ?_ ?_; rotate_left 2; (· ((conv => lhs; whnf); try exact rfl)); (· rfl); (· intro w' hO'; (have hF' := Own.cells hO'; simp only [cellsOf_append, cellsOf_pt] at hF'); go_simp; (try exact rfl)); simp only [Act.put, List.setIfInBounds_toArray, List.set_cons_zero, List.set_cons_succ]) | (refine sch_pass (o := ?_) ?_ ?_ ?_; rotate_left; (· ((conv => lhs; whnf); try exact rfl)); (· rfl); simp only [Act.put, List.setIfInBounds_toArray, List.set_cons_zero, List.set_cons_succ]) | (refine sch_look (o := ?_) (v := .agg ?_) ?_ ?_ ?_ ?_; rotate_left 2; (· ((conv => lhs; whnf); try exact rfl)); (· rfl); (· intro w' hO'; refine run_opLoadS (b := ?_) (cs := ?_) (e := ?_) (f := ?_) hO' ?_ ?_ ?_ ?_; rotate_left 4; (· exact rfl); (· exact inferInstance); (· simp; done); (· simp; done)); simp only [Act.put, List.setIfInBounds_toArray, List.set_cons_zero, List.set_cons_succ])
  first | (refine sch_look (o := ?_) (v := ?_) ?_ ?_ ?_ ?_; rotate_left 2; (· ((conv => lhs; whnf); try exact rfl)); (· rfl); (· intro w' hO'; (have hF' := Own.cells hO'; simp only [cellsOf_append, cellsOf_pt] at hF'); go_simp; (try exact rfl)); simp only [Act.put, List.setIfInBounds_toArray, List.set_cons_zero, List.set_cons_succ]) | (refine sch_pass (o := ?_) ?_ ?_ ?_; rotate_left; (· ((conv => lhs; whnf); try exact rfl)); (· rfl); simp only [Act.put, List.setIfInBounds_toArray, List.set_cons_zero, List.set_cons_succ]) | (refine sch_look (o := ?_) (v := .agg ?_) ?_ ?_ ?_ ?_; rotate_left 2; (· ((conv => lhs; whnf); try exact rfl)); (· rfl); (· intro w' hO'; refine run_opLoadS (b := ?_) (cs := ?_) (e := ?_) (f := ?_) hO' ?_ ?_ ?_ ?_; rotate_left 4; (· exact rfl); (· exact inferInstance); (· simp; done); (· simp; done)); simp only [Act.put, List.setIfInBounds_toArray, List.set_cons_zero, List.set_cons_succ])
  first | (refine sch_look (o := ?_) (v := ?_) ?_ ?_ ?_ ?_; rotate_left 2; (· ((conv => lhs; whnf); try exact rfl)); (· rfl); (· intro w' hO'; (have hF' := Own.cells hO'; simp only [cellsOf_append, cellsOf_pt] at hF'); go_simp; (try exact rfl)); simp only [Act.put, List.setIfInBounds_toArray, List.set_cons_zero, List.set_cons_succ]) | (refine sch_pass (o := ?_) ?_ ?_ ?_; rotate_left; (· ((conv => lhs; whnf); try exact rfl)); (· rfl); simp only [Act.put, List.setIfInBounds_toArray, List.set_cons_zero, List.set_cons_succ]) | (refine sch_look (o := ?_) (v := .agg ?_) ?_ ?_ ?_ ?_; rotate_left 2; (· ((conv => lhs; whnf); try exact rfl)); (· rfl); (· intro w' hO'; refine run_opLoadS (b := ?_) (cs := ?_) (e := ?_) (f := ?_) hO' ?_ ?_ ?_ ?_; rotate_left 4; (· exact rfl); (· exact inferInstance); (· simp; done); (· simp; done)); simp only [Act.put, List.setIfInBounds_toArray, List.set_cons_zero, List.set_cons_succ])
  first | (refine sch_look (o := ?_) (v := ?_) ?_ ?_ ?_ ?_; rotate_left 2; (· ((conv => lhs; whnf); try exact rfl)); (· rfl); (· intro w' hO'; (have hF' := Own.cells hO'; simp only [cellsOf_append, cellsOf_pt] at hF'); go_simp; (try exact rfl)); simp only [Act.put, List.setIfInBounds_toArray, List.set_cons_zero, List.set_cons_succ]) | (refine sch_pass (o := ?_) ?_ ?_ ?_; rotate_left; (· ((conv => lhs; whnf); try exact rfl)); (· rfl); simp only [Act.put, List.setIfInBounds_toArray, List.set_cons_zero, List.set_cons_succ]) | (refine sch_look (o := ?_) (v := .agg ?_) ?_ ?_ ?_ ?_; rotate_left 2; (· ((conv => lhs; whnf); try exact rfl)); (· rfl); (· intro w' hO'; refine run_opLoadS (b := ?_) (cs := ?_) (e := ?_) (f := ?_) hO' ?_ ?_ ?_ ?_; rotate_left 4; (· exact rfl); (· exact inferInstance); (· simp; done); (· simp; done)); simp only [Act.put, List.setIfInBounds_toArray, List.set_cons_zero, List.set_cons_succ])
  first | (refine sch_look (o := ?_) (v := ?_) ?_ ?_ ?_ ?_; rotate_left 2; (· ((conv => lhs; whnf); try exact rfl)); (· rfl); (· intro w' hO'; (have hF' := Own.cells hO'; simp only [cellsOf_append, cellsOf_pt] at hF'); go_simp; (try exact rfl)); simp only [Act.put, List.setIfInBounds_toArray, List.set_cons_zero, List.set_cons_succ]) | (refine sch_pass (o := ?_) ?_ ?_ ?_; rotate_left; (· ((conv => lhs; whnf); try exact rfl)); (· rfl); simp only [Act.put, List.setIfInBounds_toArray, List.set_cons_zero, List.set_cons_succ]) | (refine sch_look (o := ?_) (v := .agg ?_) ?_ ?_ ?_ ?_; rotate_left 2; (· ((conv => lhs; whnf); try exact rfl)); (· rfl); (· intro w' hO'; refine run_opLoadS (b := ?_) (cs := ?_) (e := ?_) (f := ?_) hO' ?_ ?_ ?_ ?_; rotate_left 4; (· exact rfl); (· exact inferInstance); (· simp; done); (· simp; done)); simp only [Act.put, List.setIfInBounds_toArray, List.set_cons_zero, List.set_cons_succ])
  first | (refine sch_look (o := ?_) (v := ?_) ?_ ?_ ?_ ?_; rotate_left 2; (· ((conv => lhs; whnf); try exact rfl)); (· rfl); (· intro w' hO'; (have hF' := Own.cells hO'; simp only [cellsOf_append, cellsOf_pt] at hF'); go_simp; (try exact rfl)); simp only [Act.put, List.setIfInBounds_toArray, List.set_cons_zero, List.set_cons_succ]) | (refine sch_pass (o := ?_) ?_ ?_ ?_; rotate_left; (· ((conv => lhs; whnf); try exact rfl)); (· rfl); simp only [Act.put, List.setIfInBounds_toArray, List.set_cons_zero, List.set_cons_succ]) | (refine sch_look (o := ?_) (v := .agg ?_) ?_ ?_ ?_ ?_; rotate_left 2; (· ((conv => lhs; whnf); try exact rfl)); (· rfl); (· intro w' hO'; refine run_opLoadS (b := ?_) (cs := ?_) (e := ?_) (f := ?_) hO' ?_ ?_ ?_ ?_; rotate_left 4; (· exact rfl); (· exact inferInstance); (· simp; done); (· simp; done)); simp only [Act.put, List.setIfInBounds_toArray, List.set_cons_zero, List.set_cons_succ])
  first | (refine sch_look (o := ?_) (v := ?_) ?_ ?_ ?_ ?_; rotate_left 2; (· ((conv => lhs; whnf); try exact rfl)); (· rfl); (· intro w' hO'; (have hF' := Own.cells hO'; simp only [cellsOf_append, cellsOf_pt] at hF'); go_simp; (try exact rfl)); simp only [Act.put, List.setIfInBounds_toArray, List.set_cons_zero, List.set_cons_succ]) | (refine sch_pass (o := ?_) ?_ ?_ ?_; rotate_left; (· ((conv => lhs; whnf); try exact rfl)); (· rfl); simp only [Act.put, List.setIfInBounds_toArray, List.set_cons_zero, List.set_cons_succ]) | (refine sch_look (o := ?_) (v := .agg ?_) ?_ ?_ ?_ ?_; rotate_left 2; (· ((conv => lhs; whnf); try exact rfl)); (· rfl); (· intro w' hO'; refine run_opLoadS (b := ?_) (cs := ?_) (e := ?_) (f := ?_) hO' ?_ ?_ ?_ ?_; rotate_left 4; (· exact rfl); (· exact inferInstance); (· simp; done); (· simp; done)); simp only [Act.put, List.setIfInBounds_toArray, List.set_cons_zero, List.set_cons_succ])
  first | (refine sch_look (o := ?_) (v := ?_) ?_ ?_ ?_ ?_; rotate_left 2; (· ((conv => lhs; whnf); try exact rfl)); (· rfl); (· intro w' hO'; (have hF' := Own.cells hO'; simp only [cellsOf_append, cellsOf_pt] at hF'); go_simp; (try exact rfl)); simp only [Act.put, List.setIfInBounds_toArray, List.set_cons_zero, List.set_cons_succ]) | (refine sch_pass (o := ?_) ?_ ?_ ?_; rotate_left; (· ((conv => lhs; whnf); try exact rfl)); (· rfl); simp only [Act.put, List.setIfInBounds_toArray, List.set_cons_zero, List.set_cons_succ]) | (refine sch_look (o := ?_) (v := .agg ?_) ?_ ?_ ?_ ?_; rotate_left 2; (· ((conv => lhs; whnf); try exact rfl)); (· rfl); (· intro w' hO'; refine run_opLoadS (b := ?_) (cs := ?_) (e := ?_) (f := ?_) hO' ?_ ?_ ?_ ?_; rotate_left 4; (· exact rfl); (· exact inferInstance); (· simp; done); (· simp; done)); simp only [Act.put, List.setIfInBounds_toArray, List.set_cons_zero, List.set_cons_succ])
  (refine sch_act (o := ?_) ?_ ?_; rotate_left; (· ((conv => lhs; whnf); try exact rfl)))
  go_wp2_with fail
  refine (xRoot va n root _ (HD.out _ [] hO)).mono ?_
  (try clear hF)
  rintro e w4 ⟨rfl, rfl⟩
  go_wp2_with fail
  refine ⟨hO.as _, ?_⟩
  first | (refine sch_look (o := ?_) (v := ?_) ?_ ?_ ?_ ?_; rotate_left 2; (· ((conv => lhs; whnf); try exact rfl)); (· rfl); (· intro w' hO'; (have hF' := Own.cells hO'; simp only [cellsOf_append, cellsOf_pt] at hF'); go_simp; (try exact rfl)); simp only [Act.put, List.setIfInBounds_toArray, List.set_cons_zero, List.set_cons_succ]) | (refine sch_pass (o := ?_) ?_ ?_ ?_; rotate_left; (· ((conv => lhs; whnf); try exact rfl)); (· rfl); simp only [Act.put, List.setIfInBounds_toArray, List.set_cons_zero, List.set_cons_succ]) | (refine sch_look (o := ?_) (v := .agg ?_) ?_ ?_ ?_ ?_; rotate_left 2; (· ((conv => lhs; whnf); try exact rfl)); (· rfl); (· intro w' hO'; refine run_opLoadS (b := ?_) (cs := ?_) (e := ?_) (f := ?_) hO' ?_ ?_ ?_ ?_; rotate_left 4; (· exact rfl); (· exact inferInstance); (· simp; done); (· simp; done)); simp only [Act.put, List.setIfInBounds_toArray, List.set_cons_zero, List.set_cons_succ])
  first | (refine sch_look (o := ?_) (v := ?_) ?_ ?_ ?_ ?_; rotate_left 2; (· ((conv => lhs; whnf); try exact rfl)); (· rfl); (· intro w' hO'; (have hF' := Own.cells hO'; simp only [cellsOf_append, cellsOf_pt] at hF'); go_simp; (try exact rfl)); simp only [Act.put, List.setIfInBounds_toArray, List.set_cons_zero, List.set_cons_succ]) | (refine sch_pass (o := ?_) ?_ ?_ ?_; rotate_left; (· ((conv => lhs; whnf); try exact rfl)); (· rfl); simp only [Act.put, List.setIfInBounds_toArray, List.set_cons_zero, List.set_cons_succ]) | (refine sch_look (o := ?_) (v := .agg ?_) ?_ ?_ ?_ ?_; rotate_left 2; (· ((conv => lhs; whnf); try exact rfl)); (· rfl); (· intro w' hO'; refine run_opLoadS (b := ?_) (cs := ?_) (e := ?_) (f := ?_) hO' ?_ ?_ ?_ ?_; rotate_left 4; (· exact rfl); (· exact inferInstance); (· simp; done); (· simp; done)); simp only [Act.put, List.setIfInBounds_toArray, List.set_cons_zero, List.set_cons_succ])
  first | (refine sch_look (o := ?_) (v := ?_) ?_ ?_ ?_ ?_; rotate_left 2; (· ((conv => lhs; whnf); try exact rfl)); (· rfl); (· intro w' hO'; (have hF' := Own.cells hO'; simp only [cellsOf_append, cellsOf_pt] at hF'); go_simp; (try exact rfl)); simp only [Act.put, List.setIfInBounds_toArray, List.set_cons_zero, List.set_cons_succ]) | (refine sch_pass (o := ?_) ?_ ?_ ?_; rotate_left; (· ((conv => lhs; whnf); try exact rfl)); (· rfl); simp only [Act.put, List.setIfInBounds_toArray, List.set_cons_zero, List.set_cons_succ]) | (refine sch_look (o := ?_) (v := .agg ?_) ?_ ?_ ?_ ?_; rotate_left 2; (· ((conv => lhs; whnf); try exact rfl)); (· rfl); (· intro w' hO'; refine run_opLoadS (b := ?_) (cs := ?_) (e := ?_) (f := ?_) hO' ?_ ?_ ?_ ?_; rotate_left 4; (· exact rfl); (· exact inferInstance); (· simp; done); (· simp; done)); simp only [Act.put, List.setIfInBounds_toArray, List.set_cons_zero, List.set_cons_succ])
  first | (refine sch_look (o := ?_) (v := ?_) ?_ ?_ ?_ ?_; rotate_left 2; (· ((conv => lhs; whnf); try exact rfl)); (· rfl); (· intro w' hO'; (have hF' := Own.cells hO'; simp only [cellsOf_append, cellsOf_pt] at hF'); go_simp; (try exact rfl)); simp only [Act.put, List.setIfInBounds_toArray, List.set_cons_zero, List.set_cons_succ]) | (refine sch_pass (o := ?_) ?_ ?_ ?_; rotate_left; (· ((conv => lhs; whnf); try exact rfl)); (· rfl); simp only [Act.put, List.setIfInBounds_toArray, List.set_cons_zero, List.set_cons_succ]) | (refine sch_look (o := ?_) (v := .agg ?_) ?_ ?_ ?_ ?_; rotate_left 2; (· ((conv => lhs; whnf); try exact rfl)); (· rfl); (· intro w' hO'; refine run_opLoadS (b := ?_) (cs := ?_) (e := ?_) (f := ?_) hO' ?_ ?_ ?_ ?_; rotate_left 4; (· exact rfl); (· exact inferInstance); (· simp; done); (· simp; done)); simp only [Act.put, List.setIfInBounds_toArray, List.set_cons_zero, List.set_cons_succ])
  refine sch_done ?_
  go_wp2_with fail
  go_ret2
  exact ⟨rfl, hO.as _⟩
theorem DeadX.mk {E : World} {X R : Fr} {h : Nat} {va : Value} {root n : Int} (hp : X.Perm (pt h (.cells #[va, .int .i64 root] 86 (0, 0)) ++ R)) (hn : n = 1 ∨ n = 5) (hda : ∀ w Y, Own E w (Y ++ X) → DeadA w va n) : DeadX E X (.pointer (some ⟨h, 0, none⟩)) n := by
  refine ⟨.inr ⟨h, rfl⟩, hn, fun w Y hO => ?_⟩
  have h1 : (Y ++ X).Perm (pt h (.cells #[va, .int .i64 root] 86 (0, 0)) ++ (Y ++ R)) := by
    refine (List.Perm.append_left Y hp).trans ?_
    rw [← List.append_assoc, ← List.append_assoc]
    exact List.Perm.append_right _ List.perm_append_comm
  refine (dead1 E w (Y ++ R) h va root n (fun w' Z hO' => hda w' (Z ++ Y) ?_) (hO.perm h1)).mono fun e w' he => ⟨he.1, he.2.perm h1.symm⟩
  rw [List.append_assoc]
  exact hO'.perm (List.Perm.append_left Z h1.symm)
set_option maxRecDepth 100000 in
set_option maxHeartbeats 16000000 in
theorem xhInsert (E w : World) (X : Fr) (v : Value) (n : Int) (row : ByteArray) (hO : Own E w X) (hd : DeadX E X v n) :
    Calls Tryz.prog 40 #[v, .string row] w fun e w' => e = .returned (.tuple #[.int .i64 0, .int .i64 n]) ∧ Own E w' X := by
  obtain ⟨hv, hn, hf⟩ := hd
  have HF := Lib.hid hf
  clear hf
  rcases hv with rfl | ⟨h, rfl⟩ <;> rcases hn with rfl | rfl
  all_goals (
    go_enter Tryz.func40, Tryz.ntmps40
    go_wp2_with (first | (refine at_box (t := 29) ?_; go_must (refine own_box (v := ?_) hO ?_ ?_ ?_; rotate_left; (· rfl); (· ((conv => lhs; whnf); try exact rfl)); clear hO; (try clear hF); intro hb _ hO; (try simp only [Value.cells] at hO); ((try simp only [List.nil_append, List.append_nil] at hO); have hF := Own.cells hO; simp only [cellsOf_append, cellsOf_pt] at hF); simp only [Act.put, List.setIfInBounds_toArray, List.set_cons_zero, List.set_cons_succ])) | (refine at_box (t := 9) ?_; go_must (refine own_box (v := ?_) hO ?_ ?_ ?_; rotate_left; (· rfl); (· ((conv => lhs; whnf); try exact rfl)); clear hO; (try clear hF); intro rb _ hO; (try simp only [Value.cells] at hO); ((try simp only [List.nil_append, List.append_nil] at hO); have hF := Own.cells hO; simp only [cellsOf_append, cellsOf_pt] at hF); simp only [Act.put, List.setIfInBounds_toArray, List.set_cons_zero, List.set_cons_succ])))
    refine (HF.out _ (_ ++ _) (by rw [List.append_assoc]; exact hO)).mono ?_
    clear hO; (try clear hF)
    rintro e w1 ⟨rfl, hO⟩
    go_wp2_with fail
    go_ret2
    exact ⟨rfl, hO.as _⟩)
set_option maxRecDepth 100000 in
set_option maxHeartbeats 16000000 in
theorem xhAt (E w : World) (X : Fr) (v : Value) (n tid : Int) (hO : Own E w X) (hd : DeadX E X v n) :
    Calls Tryz.prog 62 #[v, .int .i64 tid] w fun e w' => e = .returned (.tuple #[.int .i64 0, .int .i64 0, .slice none 0 0, .int .i64 n]) ∧ Own E w' X := by
  have HF := Lib.hid hd
  obtain ⟨hv, hn, hf⟩ := hd
  clear hf
  rcases hv with rfl | ⟨h, rfl⟩ <;> rcases hn with rfl | rfl
  all_goals (
    go_enter Tryz.func62, Tryz.ntmps62
    go_wp2_with (first | (refine at_box ?_; go_must (refine own_box (v := ?_) hO ?_ ?_ ?_; rotate_left; (· rfl); (· ((conv => lhs; whnf); try exact rfl)); clear hO; (try clear hF); intro tb _ hO; (try simp only [Value.cells] at hO); ((try simp only [List.nil_append, List.append_nil] at hO); have hF := Own.cells hO; simp only [cellsOf_append, cellsOf_pt] at hF); simp only [Act.put, List.setIfInBounds_toArray, List.set_cons_zero, List.set_cons_succ])) | (refine at_alloc ?_; refine Stop.go ?_))
    refine ⟨?_⟩
    refine own_alloc (z := .int .i64 0) hO rfl (by kernel_rfl) ?_
    clear hO; (try clear hF)
    intro pb _ hO
    simp only [Act.put, List.setIfInBounds_toArray, List.set_cons_zero, List.set_cons_succ]
    go_wp2_with (first | (refine at_alloc ?_; refine Stop.go ?_))
    refine ⟨?_⟩
    refine own_alloc (z := .int .i64 0) hO rfl (by kernel_rfl) ?_
    clear hO
    intro nb _ hO
    simp only [Act.put, List.setIfInBounds_toArray, List.set_cons_zero, List.set_cons_succ]
    go_wp2_with (first | (refine at_alloc ?_; refine Stop.go ?_))
    refine ⟨?_⟩
    refine own_alloc (z := .slice none 0 0) hO rfl (by kernel_rfl) ?_
    clear hO
    intro lb _ hO
    simp only [Act.put, List.setIfInBounds_toArray, List.set_cons_zero, List.set_cons_succ]
    go_wp2_with (first | (refine at_alloc ?_; refine Stop.go ?_))
    refine ⟨?_⟩
    refine own_alloc (z := .int .i64 0) hO rfl (by kernel_rfl) ?_
    clear hO
    intro eb _ hO
    (try simp only [Value.cells] at hO)
    simp only [Act.put, List.setIfInBounds_toArray, List.set_cons_zero, List.set_cons_succ]
    go_wp2_with fail
    refine ((HF.out.add (pt eb (.cells #[.int .i64 0] 30 (0, 0)) ++ (pt lb (.cells #[.slice none 0 0] 111 (0, 0)) ++ (pt nb (.cells #[.int .i64 0] 3 (0, 0)) ++ pt pb (.cells #[.int .i64 0] 3 (0, 0)))))).2.2 _ [] (hO.as ((pt eb (.cells #[.int .i64 0] 30 (0, 0)) ++ (pt lb (.cells #[.slice none 0 0] 111 (0, 0)) ++ (pt nb (.cells #[.int .i64 0] 3 (0, 0)) ++ pt pb (.cells #[.int .i64 0] 3 (0, 0))))) ++ X))).mono ?_
    clear hO
    rintro e w1 ⟨rfl, hO⟩
    replace hO := hO.as (pt eb (.cells #[.int .i64 0] 30 (0, 0)) ++ (pt lb (.cells #[.slice none 0 0] 111 (0, 0)) ++ (pt nb (.cells #[.int .i64 0] 3 (0, 0)) ++ (pt pb (.cells #[.int .i64 0] 3 (0, 0)) ++ X))))
    go_wp2_with (first | (refine own_store (v := ?_) (off := 0) (b := pb) hO ?_ ?_ ?_ ?_ ?_ ?_ ?_; rotate_left; (· rfl); (· ((conv => lhs; whnf); try exact rfl)); (· ((conv => lhs; whnf); try exact rfl)); (· simp [Value.cells]); (· simp [Value.cells, Value.oneCell']); (· simp [Value.cells]); clear hO; (try clear hF); intro _ hO; (try simp only [splice, Value.cells] at hO); ((try simp only [List.nil_append, List.append_nil] at hO); have hF := Own.cells hO; simp only [cellsOf_append, cellsOf_pt] at hF); simp only [Act.put, List.setIfInBounds_toArray, List.set_cons_zero, List.set_cons_succ]) | (refine own_store (v := ?_) (off := 0) (b := nb) hO ?_ ?_ ?_ ?_ ?_ ?_ ?_; rotate_left; (· rfl); (· ((conv => lhs; whnf); try exact rfl)); (· ((conv => lhs; whnf); try exact rfl)); (· simp [Value.cells]); (· simp [Value.cells, Value.oneCell']); (· simp [Value.cells]); clear hO; (try clear hF); intro _ hO; (try simp only [splice, Value.cells] at hO); ((try simp only [List.nil_append, List.append_nil] at hO); have hF := Own.cells hO; simp only [cellsOf_append, cellsOf_pt] at hF); simp only [Act.put, List.setIfInBounds_toArray, List.set_cons_zero, List.set_cons_succ]) | (refine own_store (v := ?_) (off := 0) (b := lb) hO ?_ ?_ ?_ ?_ ?_ ?_ ?_; rotate_left; (· rfl); (· ((conv => lhs; whnf); try exact rfl)); (· ((conv => lhs; whnf); try exact rfl)); (· simp [Value.cells]); (· simp [Value.cells, Value.oneCell']); (· simp [Value.cells]); clear hO; (try clear hF); intro _ hO; (try simp only [splice, Value.cells] at hO); ((try simp only [List.nil_append, List.append_nil] at hO); have hF := Own.cells hO; simp only [cellsOf_append, cellsOf_pt] at hF); simp only [Act.put, List.setIfInBounds_toArray, List.set_cons_zero, List.set_cons_succ]) | (refine own_store (v := ?_) (off := 0) (b := eb) hO ?_ ?_ ?_ ?_ ?_ ?_ ?_; rotate_left; (· rfl); (· ((conv => lhs; whnf); try exact rfl)); (· ((conv => lhs; whnf); try exact rfl)); (· simp [Value.cells]); (· simp [Value.cells, Value.oneCell']); (· simp [Value.cells]); clear hO; (try clear hF); intro _ hO; (try simp only [splice, Value.cells] at hO); ((try simp only [List.nil_append, List.append_nil] at hO); have hF := Own.cells hO; simp only [cellsOf_append, cellsOf_pt] at hF); simp only [Act.put, List.setIfInBounds_toArray, List.set_cons_zero, List.set_cons_succ]))
    refine bodyPost_ret (results_c4 (b1 := pb) (b2 := nb) (b3 := lb) (b4 := eb) rfl (by exact rfl) (by exact rfl) (by exact rfl) (by exact rfl) (run_loadVar1 (by kernel_rfl) (by rw [hO.cell (b := pb)]; rfl)) (run_loadVar1 (by kernel_rfl) (by rw [hO.cell (b := nb)]; rfl)) (run_loadVar1 (by kernel_rfl) (by rw [hO.cell (b := lb)]; rfl)) (run_loadVar1 (by kernel_rfl) (by rw [hO.cell (b := eb)]; rfl))) rfl ?_
    exact ⟨rfl, hO.as _⟩)
set_option maxRecDepth 100000 in
set_option maxHeartbeats 16000000 in
theorem xhGet (E w : World) (X : Fr) (v : Value) (n tid : Int) (hO : Own E w X) (hd : DeadX E X v n) :
    Calls Tryz.prog 16 #[v, .int .i64 tid] w fun e w' => e = .returned (.tuple #[.string .empty, .bool false, .int .i64 n]) ∧ Own E w' X := by
  have hn := hd.2.1
  rcases hn with rfl | rfl
  all_goals (
    go_enter Tryz.func16, Tryz.ntmps16
    go_wp2_with fail
    refine (xhAt E _ _ v _ tid hO hd).mono ?_
    clear hO
    rintro e w1 ⟨rfl, hO⟩
    go_wp2_with fail
    go_ret3
    exact ⟨rfl, hO⟩)
set_option maxRecDepth 100000 in
set_option maxHeartbeats 16000000 in
theorem xhBecomes (E w : World) (X : Fr) (v : Value) (n tid fr to : Int) (hO : Own E w X) (hd : DeadX E X v n) :
    Calls Tryz.prog 97 #[v, .int .i64 tid, .int .i64 fr, .int .i64 to] w fun e w' => e = .returned (.int .i64 n) ∧ Own E w' X := by
  have hn := hd.2.1
  rcases hn with rfl | rfl
  all_goals (
    go_enter Tryz.func97, Tryz.ntmps97
    go_wp2_with fail
    refine (xhAt E _ _ v _ tid hO hd).mono ?_
    clear hO
    rintro e w1 ⟨rfl, hO⟩
    go_wp2_with fail
    go_ret
    exact ⟨rfl, hO⟩)
set_option maxRecDepth 100000 in
set_option maxHeartbeats 16000000 in
theorem xhKill (E w : World) (X : Fr) (v : Value) (n tid : Int) (hO : Own E w X) (hd : DeadX E X v n) :
    Calls Tryz.prog 41 #[v, .int .i64 tid] w fun e w' => e = .returned (.int .i64 n) ∧ Own E w' X := by
  go_enter Tryz.func41, Tryz.ntmps41
  go_wp2_with fail
  refine (xhBecomes E _ _ v _ tid 1 2 hO hd).mono ?_
  clear hO
  rintro e w1 ⟨rfl, hO⟩
  go_wp2_with fail
  go_ret
  exact ⟨rfl, hO⟩
set_option maxRecDepth 100000 in
set_option maxHeartbeats 16000000 in
theorem xhFree (E w : World) (X : Fr) (v : Value) (n tid : Int) (hO : Own E w X) (hd : DeadX E X v n) :
    Calls Tryz.prog 49 #[v, .int .i64 tid] w fun e w' => e = .returned (.int .i64 n) ∧ Own E w' X := by
  go_enter Tryz.func49, Tryz.ntmps49
  go_wp2_with fail
  refine (xhBecomes E _ _ v _ tid 2 0 hO hd).mono ?_
  clear hO
  rintro e w1 ⟨rfl, hO⟩
  go_wp2_with fail
  go_ret
  exact ⟨rfl, hO⟩
set_option maxRecDepth 100000 in
set_option maxHeartbeats 16000000 in
theorem xhEach (E w : World) (X : Fr) (v f : Value) (n : Int) (hO : Own E w X) (hd : DeadX E X v n) :
    Calls Tryz.prog 66 #[v, f] w fun e w' => e = .returned (.tuple #[]) ∧ Own E w' X := by
  obtain ⟨hv, hn, hf⟩ := hd
  have HF := Lib.hid hf
  clear hf
  go_enter Tryz.func66, Tryz.ntmps66
  go_wp2_with fail
  refine (HF.out _ [] hO).mono ?_
  clear hO
  rintro e w1 ⟨rfl, hO⟩
  have hO1 := hO
  clear hO
  go_wp2_with fail
  go_loopg [4] 0 (fun gg s4 wr => s4 = .int .i64 0 ∧ Own E wr X)
  case atStart => exact ⟨rfl, hO1⟩
  case round =>
    clear hO1
    obtain ⟨rfl, hO⟩ := hrel
    go_wp2_with fail
    go_end0
    exact ⟨rfl, hO⟩
set_option maxRecDepth 100000 in
set_option maxHeartbeats 16000000 in
theorem xhThose (E w : World) (X : Fr) (v : Value) (g : FuncId) (n : Int) (hO : Own E w X) (hd : DeadX E X v n) :
    Calls Tryz.prog 98 #[v, .func (.func g) #[] #[]] w fun e w' => e = .returned (.slice none 0 0) ∧ Own E w' X := by
  have HD := Lib.hid hd
  clear hd
  go_enter Tryz.func98, Tryz.ntmps98
  go_wp2_with (first | (refine at_box ?_; go_must (refine own_box (v := ?_) hO ?_ ?_ ?_; rotate_left; (· rfl); (· ((conv => lhs; whnf); try exact rfl)); clear hO; (try clear hF); intro ib _ hO; (try simp only [Value.cells] at hO); ((try simp only [List.nil_append, List.append_nil] at hO); have hF := Own.cells hO; simp only [cellsOf_append, cellsOf_pt] at hF); simp only [Act.put, List.setIfInBounds_toArray, List.set_cons_zero, List.set_cons_succ])) | (refine at_alloc ?_; go_must (refine own_alloc (z := .slice none 0 0) hO ?_ ?_ ?_; (· rfl); (· kernel_rfl); clear hO; (try clear hF); intro ob _ hO; (try simp only [Value.cells] at hO); ((try simp only [List.nil_append, List.append_nil] at hO); have hF := Own.cells hO; simp only [cellsOf_append, cellsOf_pt] at hF); simp only [Act.put, List.setIfInBounds_toArray, List.set_cons_zero, List.set_cons_succ])))
  refine (xhEach E _ _ v _ n hO ((HD.out.add _).add _)).mono ?_
  clear hO hF
  rintro e w1 ⟨rfl, hO⟩
  ((try simp only [List.nil_append, List.append_nil] at hO); have hF := Own.cells hO; simp only [cellsOf_append, cellsOf_pt] at hF)
  go_wp2_with fail
  refine (sortI E _ _ _ [] none 0 [] (Sl.nil _ _) (by decide) hO).mono ?_
  clear hO hF
  rintro e w4 ⟨rfl, SO, hSO, hO⟩
  ((try simp only [List.nil_append, List.append_nil] at hO); have hF := Own.cells hO; simp only [cellsOf_append, cellsOf_pt] at hF)
  go_wp2_with fail
  go_ret
  exact ⟨rfl, hO.as _⟩
set_option maxRecDepth 100000 in
set_option maxHeartbeats 16000000 in
theorem xhTids (E w : World) (X : Fr) (v : Value) (n : Int) (hO : Own E w X) (hd : DeadX E X v n) :
    Calls Tryz.prog 42 #[v] w fun e w' => e = .returned (.slice none 0 0) ∧ Own E w' X := by
  go_enter Tryz.func42, Tryz.ntmps42
  go_wp2_with fail
  refine (xhThose E _ _ v _ n hO hd).mono ?_
  clear hO
  rintro e w1 ⟨rfl, hO⟩
  go_wp2_with fail
  go_ret
  exact ⟨rfl, hO⟩
set_option maxRecDepth 100000 in
set_option maxHeartbeats 16000000 in
theorem xhDead (E w : World) (X : Fr) (v : Value) (n : Int) (hO : Own E w X) (hd : DeadX E X v n) :
    Calls Tryz.prog 43 #[v] w fun e w' => e = .returned (.slice none 0 0) ∧ Own E w' X := by
  go_enter Tryz.func43, Tryz.ntmps43
  go_wp2_with fail
  refine (xhThose E _ _ v _ n hO hd).mono ?_
  clear hO
  rintro e w1 ⟨rfl, hO⟩
  go_wp2_with fail
  go_ret
  exact ⟨rfl, hO⟩
set_option maxRecDepth 100000 in
set_option maxHeartbeats 16000000 in
theorem xhPages (E w : World) (X : Fr) (v : Value) (n : Int) (hO : Own E w X) (hd : DeadX E X v n) :
    Calls Tryz.prog 18 #[v] w fun e w' => e = .returned (.slice none 0 0) ∧ Own E w' X := by
  have HD := Lib.hid hd
  clear hd
  go_enter Tryz.func18, Tryz.ntmps18
  go_wp2_with (first | (refine at_alloc ?_; go_must (refine own_alloc (z := .slice none 0 0) hO ?_ ?_ ?_; (· rfl); (· kernel_rfl); clear hO; (try clear hF); intro ob _ hO; (try simp only [Value.cells] at hO); ((try simp only [List.nil_append, List.append_nil] at hO); have hF := Own.cells hO; simp only [cellsOf_append, cellsOf_pt] at hF); simp only [Act.put, List.setIfInBounds_toArray, List.set_cons_zero, List.set_cons_succ])))
  refine (xhEach E _ _ v _ n hO (HD.out.add _)).mono ?_
  clear hO hF
  rintro e w1 ⟨rfl, hO⟩
  ((try simp only [List.nil_append, List.append_nil] at hO); have hF := Own.cells hO; simp only [cellsOf_append, cellsOf_pt] at hF)
  go_wp2_with fail
  refine (sortI E _ _ _ [] none 0 [] (Sl.nil _ _) (by decide) hO).mono ?_
  clear hO hF
  rintro e w4 ⟨rfl, SO, hSO, hO⟩
  ((try simp only [List.nil_append, List.append_nil] at hO); have hF := Own.cells hO; simp only [cellsOf_append, cellsOf_pt] at hF)
  go_wp2_with fail
  go_ret
  exact ⟨rfl, hO.as _⟩
end Go.Proofs.YtkfkcloefgfkaaaGreat

/- Layer 7: HeapKept. -/
namespace Go.Proofs.YtkfkcloefgfkaaaGreat
open Go Go.RowKit Go.Own Go.Dk

theorem tmod_bd7 (x : Int) (n : Nat) : ∃ p : Nat, p ≤ n ∧ (x.tmod ((n : Int) + 1) = p ∨ (x.tmod ((n : Int) + 1) = -p ∧ -(p : Int) < 0)) := by
  have h1 : x.tmod ((n : Int) + 1) < n + 1 := Int.tmod_lt_of_pos x (by omega)
  have h2 : -((n : Int) + 1) < x.tmod ((n : Int) + 1) := Int.lt_tmod_of_pos x (by omega)
  refine ⟨(x.tmod ((n : Int) + 1)).natAbs, by omega, ?_⟩
  by_cases h : 0 ≤ x.tmod ((n : Int) + 1)
  · exact .inl (by omega)
  · exact .inr ⟨by omega, by omega⟩
theorem tmod_sgn7 (x : Int) (n : Nat) (hn : n ≤ 8796093022208) : ∃ p : Nat, p ≤ n ∧ ((¬ x.tmod ((n : Int) + 1) < 0 ∧ x.tmod ((n : Int) + 1) = p) ∨ (x.tmod ((n : Int) + 1) < 0 ∧ wrap64 (-x.tmod ((n : Int) + 1)) = p)) := by
  obtain ⟨p, hp, hx⟩ := tmod_bd7 x n
  refine ⟨p, hp, ?_⟩
  rcases hx with hx | ⟨hx, h0⟩
  · exact .inl ⟨by omega, hx⟩
  · refine .inr ⟨by omega, ?_⟩
    rw [hx]
    unfold wrap64
    omega
theorem perm_front (a b c z : Fr) : (a ++ (b ++ (c ++ z))).Perm (b ++ (c ++ (a ++ z))) := by
  rw [← List.append_assoc b c z, ← List.append_assoc b c (a ++ z), ← List.append_assoc a, ← List.append_assoc (b ++ c) a]
  exact List.Perm.append_right z List.perm_append_comm
/-- The disk is opened anew beside an action that goes on. -/
theorem gOpenG (E w : World) (X R A : Fr) (s d a most N : Nat) (st0 st : SSt) (hA : Going s d a N st0 st A) (hm : 4 ≤ most) (hm2 : most ≤ 1024) (hN : N ≤ 8796000000000) (hO : Own E w X) [hp : Pick X A R] :
    Calls Tryz.prog 15 #[.pointer (some ⟨d, 0, none⟩), .int .i64 most] w fun e w' => ∃ s A, e = .returned (.tuple #[.pointer (some ⟨s, 0, none⟩), .int .i64 0]) ∧ Idle s d (N + 4194305) st0 A ∧ Own E w' (A ++ R) := by
  replace hO := hO.perm hp.perm
  obtain ⟨l, p, mf, mp, mg, most0, J, recs, fr, ovs, gone, AA, MF, _, _, hA, _, _, hMF, hI, hV, rfl⟩ := hA
  obtain ⟨PA, MP, MG, hS, _, _, _, _, rfl⟩ := hA
  have hcl := hS.clen
  obtain ⟨P, D, rfl, hD⟩ := hS.disk hI
  refine (sOpen E _ _ R D recs J d most N st0.v fr st0.T st0.c st0.rt hD hcl hV hm hm2 (by omega) (hO.as (D ++ R))).mono ?_
  rintro e w' ⟨s, l, p, mf, PA, MF, rfl, hS, hMF, hO⟩
  exact ⟨s, _, rfl, ⟨l, p, mf, most, J, recs, st0.c, PA, MF, hm, hm2, hS, hMF, hI, ⟨hV.ex, hV.nd, hV.wt, .refl _, by simp⟩, rfl⟩, hO.as _⟩
theorem Gone.deadX {E : World} {s a h root : Nat} {A : Fr} (hg : Gone s a A) : DeadX E (heapF h a root ++ A) (.pointer (some ⟨h, 0, none⟩)) 5 :=
  DeadX.mk (.refl _) (.inr rfl) fun w Y hO => by
    have hO' : Own E w ((Y ++ heapF h a root) ++ A) := by rw [List.append_assoc]; exact hO
    exact Gone.dead hg hO' (R := Y ++ heapF h a root) (hp := ⟨List.perm_append_comm⟩)
set_option maxRecDepth 100000 in
set_option maxHeartbeats 16000000 in
theorem heapKept (E w : World) (hO : Own E w (oldFr E)) (sa : Option Addr) (sc : Nat) (L : List Op7) (kept : Int) (hL : OpsAt7 E sa L) (hn : L.length ≤ 4398046511104) :
    Calls Tryz.prog 3 #[.slice sa L.length sc, .int .i64 kept] w fun e w' => e = .returned (.bool true) ∧ Own E w' (oldFr E) := by
  have HL := Lib.hid hL
  clear hL
  obtain ⟨p, hp, hx⟩ := tmod_sgn7 kept L.length (by omega)
  go_enter Tryz.func3, Tryz.ntmps3
  go_wp2_with fail
  refine (beg7 E _ _ hO).mono ?_
  clear hO
  rintro e w1 ⟨s, d, a, A, rfl, hA, hO⟩
  by_cases hbig : 800 < L.length
  · have h1 : (800 : Int) < L.length := by omega
    clear hbig hx
    go_wp2_with fail
    refine (awake7 E _ _ hO).mono ?_
    clear hO
    rintro e w8 ⟨rfl, hO⟩
    go_wp2_with fail
    go_ret
    exact ⟨rfl, hO.as _⟩
  have h1 : ¬ (800 : Int) < L.length := by omega
  have HX := Lib.hid hx
  clear hx
  go_wp2_with fail
  refine (hNew E _ _ _ A s d a _ st00 st00 3 (by decide) hA (by decide) hO).mono ?_
  clear hO hA
  rintro e w2 ⟨h, A, rfl, hA, hO⟩
  clear h1
  have HBG := Lib.hid hbig
  have hw : wrap64 ((L.length : Int) + 1) = (L.length : Int) + 1 := by unfold wrap64; omega
  have hnz : ((L.length : Int) + 1 == 0) = false := by rw [beq_eq_false_iff_ne]; omega
  clear hbig
  rcases HX.out with ⟨hx0, hx⟩ | ⟨hx0, hx⟩
  all_goals (
    have HX2 := Lib.hid hx
    clear hx
    go_wp2_with fail
    rw [HX2.out]
    clear hx0
    have hO1 := hO
    have hA1 := hA
    clear hO hA hw hnz
    have hpL : p ≤ 800 := by have := HBG.out; omega
    go_loopw [12, 13] (fun lv i wr => ∃ (k : Nat) (st : SSt) (hs : Hs) (l : List Rw) (so : Option Addr) (co : Nat) (SO A : Fr), i = .int .i64 k ∧ k ≤ p ∧ lv = .slice so l.length co ∧ Ag hs l ∧ HInv st 3 hs ∧ st.T ≤ k ∧ l.length ≤ k ∧ Sl 90 3 so l.length co (rwsV l) SO ∧ Going s d a 4194305 st00 st A ∧ Own E wr (heapF h a 3 ++ (A ++ (SO ++ oldFr E)))) (fun _ i _ => p - (intOf i).toNat)
    case atStart => exact ⟨0, st00, [], [], none, 0, [], A, rfl, Nat.zero_le _, rfl, ⟨List.Pairwise.nil, (fun _ h => (nomatch h)), List.Perm.refl _⟩, HInv.new rfl, Nat.le_refl _, Nat.le_refl _, Sl.nil _ _, hA1, hO1.as _⟩
    case round =>
      clear hO1 hA1
      obtain ⟨k, st, hs, l, so, co, SO, A, rfl, hk, rfl, hAg, hI, hT, hl, hSO, hA, hO⟩ := hrel
      by_cases hlt : k < p
      · have g1 : (k : Int) < p := by omega
        have g2 : (0 : Int) ≤ k := by omega
        have g3 : (k : Int) < L.length := by omega
        obtain ⟨ad, rfl, hrow, hts⟩ := HL.out k (by omega)
        have HRow := Lib.hid hrow
        clear hrow
        ((try simp only [List.nil_append, List.append_nil] at hO); have hF := Own.cells hO; simp only [cellsOf_append, cellsOf_pt] at hF)
        go_wp2_with (refine at_load ?_; go_must (refine own_loadC (ad := ad.add (k * 3)) (cs := (L[k]'(by omega)).cells) ?_ (HRow.out.at hO) ?_ ?_ ?_ ?_; (· rfl); (· ((conv => lhs; whnf); try exact rfl)); (· simp; done); (· simp [Op7.cells]; done); simp only [Act.put, List.setIfInBounds_toArray, List.set_cons_zero, List.set_cons_succ]))
        refine (does7 E _ _ _ A SO s d a _ h st00 st 3 (by decide) hs hI (by omega) l (by omega) hAg so co hSO (L[k]'(by omega)).k (L[k]'(by omega)).p (L[k]'(by omega)).t hts hA (by decide) hO).mono ?_
        clear hO hA hSO hF
        rintro e w3 ⟨st2, hs2, l2, so2, co2, SO2, A, rfl, hAg2, hI2, hT2, hl2, -, hSO2, hA, hO⟩
        have hO : Own E w3 (heapF h a 3 ++ (A ++ (SO2 ++ oldFr E))) := by
          rcases hO with ⟨_, _, _, rfl, hO⟩ | hO
          · exact hO.as _
          · exact hO.as _
        go_wp2_with fail
        go_roundw
        case rel => exact ⟨k + 1, st2, hs2, l2, so2, co2, SO2, A, by go_num, by omega, rfl, hAg2, hI2, by omega, by omega, hSO2, hA, hO⟩
        case measure => simp [intOf]; omega
      · obtain rfl : k = p := by omega
        have g1 : ¬ (k : Int) < k := by omega
        clear hlt hk
        go_wp2_with fail
        refine (gCommit E _ _ _ A s d a _ st00 st (by omega) hA (by decide) hO).mono ?_
        clear hO hA g1
        rintro e w4 ⟨rfl, A, B, hA, hg, hO⟩
        go_wp2_with fail
        refine (gBegin E _ _ _ A s d _ st hA hO).mono ?_
        clear hO hA
        rintro e w5 ⟨b, A, rfl, hA, hO⟩
        go_wp2_with fail
        refine (hNew E _ _ _ A s d b _ st st 3 (by decide) hA (by decide) hO).mono ?_
        clear hO hA
        rintro e w6 ⟨h2, A, rfl, hA, hO⟩
        go_wp2_with fail
        have hO1 := hO
        have hA1 := hA
        clear hO hA
        go_loopw [18, 19] (fun lv i wr => ∃ (j : Nat) (st2 : SSt) (hs2 : Hs) (m : List Rw) (so2 : Option Addr) (co2 : Nat) (SO2 A Q Z : Fr), i = .int .i64 j ∧ k ≤ j ∧ j ≤ L.length ∧ lv = .slice so2 m.length co2 ∧ Ag hs2 m ∧ HInv st2 3 hs2 ∧ st2.T ≤ j ∧ m.length ≤ j ∧ Sl 90 3 so2 m.length co2 (rwsV m) SO2 ∧ Going s d b 4199305 st st2 A ∧ (SO2 ++ Q).Perm (SO ++ ((heapF h a 3 ++ (B ++ oldFr E)) ++ Z)) ∧ Own E wr (heapF h2 b 3 ++ (A ++ (SO2 ++ Q)))) (fun _ i _ => L.length - (intOf i).toNat)
        case atStart => exact ⟨k, st, hs, l, so, co, SO, A, heapF h a 3 ++ (B ++ oldFr E), [], rfl, Nat.le_refl _, by omega, rfl, hAg, hI, hT, hl, hSO, hA1, by rw [List.append_nil], hO1.as _⟩
        case round =>
          clear hO1 hA1
          obtain ⟨j, st2, hs2, m, so2, co2, SO2, A, Q, Z, rfl, hj0, hj, rfl, hAg2, hI2, hT2, hl2, hSO2, hA, hq, hO⟩ := hrel
          have HQ := Lib.hid hq
          clear hq
          have hbg := HBG.out
          by_cases hlt : j < L.length
          · have g1 : (j : Int) < L.length := by omega
            have g2 : (0 : Int) ≤ j := by omega
            obtain ⟨ad, rfl, hrow, hts⟩ := HL.out j hlt
            have HRow := Lib.hid hrow
            clear hrow
            ((try simp only [List.nil_append, List.append_nil] at hO); have hF := Own.cells hO; simp only [cellsOf_append, cellsOf_pt] at hF)
            go_wp2_with (refine at_load ?_; go_must (refine own_loadC (ad := ad.add (j * 3)) (cs := (L[j]'hlt).cells) ?_ (HRow.out.at (hO.perm (List.Perm.append_left (heapF h2 b 3) (List.Perm.append_left A HQ.out)))) ?_ ?_ ?_ ?_; (· rfl); (· ((conv => lhs; whnf); try exact rfl)); (· simp; done); (· simp [Op7.cells]; done); simp only [Act.put, List.setIfInBounds_toArray, List.set_cons_zero, List.set_cons_succ]))
            refine (does7 E _ _ _ A SO2 s d b _ h2 st st2 3 (by decide) hs2 hI2 (by omega) m (by omega) hAg2 so2 co2 hSO2 (L[j]'hlt).k (L[j]'hlt).p (L[j]'hlt).t hts hA (by decide) hO).mono ?_
            clear hO hA hSO2 hF
            rintro e w3 ⟨st3, hs3, l3, so3, co3, SO3, A, rfl, hAg3, hI3, hT3, hl3, -, hSO3, hA, hO⟩
            have hO : ∃ Q' Z', (SO3 ++ Q').Perm (SO ++ ((heapF h a 3 ++ (B ++ oldFr E)) ++ Z')) ∧ Own E w3 (heapF h2 b 3 ++ (A ++ (SO3 ++ Q'))) := by
              rcases hO with ⟨_, _, _, rfl, hO⟩ | hO
              · exact ⟨Q, Z, HQ.out, hO.as _⟩
              · refine ⟨SO2 ++ Q, SO3 ++ Z, ?_, hO.as _⟩
                refine (List.Perm.append_left SO3 HQ.out).trans ?_
                exact perm_front SO3 SO _ Z
            obtain ⟨Q', Z', hq', hO⟩ := hO
            have HQ' := Lib.hid hq'
            clear hq'
            go_wp2_with fail
            go_roundw
            case rel => exact ⟨j + 1, st3, hs3, l3, so3, co3, SO3, A, Q', Z', by go_num, by omega, by omega, rfl, hAg3, hI3, by omega, by omega, hSO3, hA, HQ'.out, hO⟩
            case measure => simp [intOf]; omega
          · have g1 : ¬ (j : Int) < L.length := by omega
            clear hlt
            replace hO : Own E _ (heapF h2 b 3 ++ (A ++ (SO ++ ((heapF h a 3 ++ (B ++ oldFr E)) ++ Z)))) := hO.perm (List.Perm.append_left _ (List.Perm.append_left _ HQ.out))
            go_wp2_with fail
            refine (gOpenG E _ _ _ A s d b 4 _ st st2 hA (by decide) (by decide) (by decide) hO).mono ?_
            clear hO hA g1
            rintro e w7 ⟨s3, A, rfl, hA, hO⟩
            go_wp2_with fail
            refine (gBegin E _ _ _ A s3 d _ st hA hO).mono ?_
            clear hO hA
            rintro e w8 ⟨a3, A, rfl, hA, hO⟩
            go_wp2_with fail
            refine (hNew E _ _ _ A s3 d a3 _ st st 3 (by decide) hA (by decide) hO).mono ?_
            clear hO hA
            rintro e w9 ⟨h3, A, rfl, hA, hO⟩
            go_wp2_with fail
            refine (xhGet E _ _ _ 5 64 (hO.as ((heapF h3 a3 3 ++ (A ++ (SO ++ oldFr E))) ++ (heapF h a 3 ++ B))) ((Gone.deadX hg).add _)).mono ?_
            clear hO
            rintro e w10 ⟨rfl, hO⟩
            go_wp2_with fail
            refine (told7 E _ _ _ A SO s3 d a3 _ h3 st st 3 (by decide) hs hI (by omega) l (by omega) hAg so co hSO hA (by decide) (hO.as (heapF h3 a3 3 ++ (A ++ (SO ++ oldFr E))))).mono ?_
            clear hO hA
            rintro e w11 ⟨rfl, A, hA, hO⟩
            go_wp2_with fail
            refine (awake7 E _ _ hO).mono ?_
            clear hO
            rintro e w12 ⟨rfl, hO⟩
            go_wp2_with fail
            go_ret
            exact ⟨rfl, hO.as _⟩)
end Go.Proofs.YtkfkcloefgfkaaaGreat
