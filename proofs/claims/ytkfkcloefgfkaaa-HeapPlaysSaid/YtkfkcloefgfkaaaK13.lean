/- Layer 7: told. -/
import Derived.Test.YtkfkcloefgfkaaaK12
import Derived.Test.YtkfkcloefgfkaaaK2
import Derived.Deep.Slices
import Derived.Deep.Fields
import Derived.ChangeSame
import Derived.SizedLaws
set_option linter.all false
/- Layer 7: told. -/
namespace Go.Proofs.Ytkfkcloefgfkaaa
open Go Go.RowKit Go.Own Go.Dk

theorem Ag.page {st : SSt} {root : Nat} {hs : Hs} {l : List Rw} (hI : HInv st root hs) (h : Ag hs l) {y : Rw} (hy : y ∈ l) : ((y.tid.toNat / 64 : Nat) : Int) ∈ srt (hs.map fun x => (x.1 : Int)) := by
  have h0 := h.nn y hy
  have hx : (y.tid.toNat, (⟨if y.lives then 1 else 2, y.row⟩ : Slot)) ∈ W hs := h.mem.2 ⟨y, hy, by omega, rfl⟩
  obtain ⟨j, k, hj, hk, h1, _⟩ := mem_W.1 hx
  have h64 := hI.at64 hj
  rw [(srt_perm _).mem_iff]
  refine List.mem_map.2 ⟨hs[j]'hj, List.getElem_mem hj, ?_⟩
  have h2 := congrArg Prod.fst h1
  have h3 : y.tid.toNat = (hs[j]'hj).1 * 64 + k := h2
  congr 1
  omega
def Told7P (E : World) (s d a N h root : Nat) (st0 st : SSt) (S R : Fr) (e : Ending) (w' : World) : Prop :=
  e = .returned (.bool true) ∧ ∃ A', Going s d a N st0 st A' ∧ Own E w' (heapF h a root ++ (A' ++ (S ++ R)))
set_option maxRecDepth 100000 in
set_option maxHeartbeats 16000000 in
theorem told7 (E w : World) (X R A S : Fr) (s d a N h : Nat) (st0 st : SSt) (root : Nat) (hr : root < 16) (hs : Hs) (hI : HInv st root hs) (hT : st.T ≤ 4095) (l : List Rw) (hl : l.length ≤ 90000) (hAg : Ag hs l) (sa : Option Addr) (cap : Nat) (hS : Sl 143 3 sa l.length cap (rwsV l) S) (hA : Going s d a N st0 st A) (hN : N ≤ 8796000000000) (hO : Own E w X) [hp : Pick X (heapF h a root ++ (A ++ S)) R] :
    Calls Try.prog 43 #[.pointer (some ⟨h, 0, none⟩), .slice sa l.length cap] w (Told7P E s d a N h root st0 st S R) := by
  replace hO : Own E w (heapF h a root ++ (A ++ (S ++ R))) := by have := hO.perm hp.perm; rwa [List.append_assoc, List.append_assoc] at this
  clear hp
  generalize hpost : Told7P E s d a N h root st0 st S R = POST
  have HPOST := Lib.hid hpost
  clear hpost
  obtain ⟨q1, q2⟩ := hAg.tids
  have hlen := hI.len
  have hl1 := tidR_le l false
  have hl2 := tidR_le l true
  have Q1 := Lib.hid q1
  have Q2 := Lib.hid q2
  clear q1 q2
  go_enter Try.func43, Try.ntmps43
  go_wp2_with fail
  refine (hTids E _ _ _ A s d a _ h st0 st root hr hs hI hA hN hO).mono ?_
  clear hO hA
  rintro e w1 ⟨so, co, SO, A, rfl, hSO, hA, hO⟩
  rw [Q1.out] at hSO ⊢
  go_wp2_with fail
  refine (tids7 E _ _ _ S sa cap l false (by omega) hS hO).mono ?_
  clear hO
  rintro e w2 ⟨so2, co2, SO2, rfl, hSO2, hO⟩
  go_wp2_with fail
  refine (ints7 E _ _ _ SO SO2 so so2 co co2 _ (by omega) hSO hSO2 hO).mono ?_
  clear hO
  rintro e w3 ⟨rfl, hO⟩
  replace hO := hO.as (heapF h a root ++ (A ++ (S ++ R)))
  clear hSO hSO2
  go_wp2_with fail
  refine (hDead E _ _ _ A s d a _ h st0 st root hr hs hI hA hN hO).mono ?_
  clear hO hA
  rintro e w1 ⟨so, co, SO, A, rfl, hSO, hA, hO⟩
  rw [Q2.out] at hSO ⊢
  go_wp2_with fail
  refine (tids7 E _ _ _ S sa cap l true (by omega) hS hO).mono ?_
  clear hO
  rintro e w2 ⟨so2, co2, SO2, rfl, hSO2, hO⟩
  go_wp2_with fail
  refine (ints7 E _ _ _ SO SO2 so so2 co co2 _ (by omega) hSO hSO2 hO).mono ?_
  clear hO
  rintro e w3 ⟨rfl, hO⟩
  replace hO := hO.as (heapF h a root ++ (A ++ (S ++ R)))
  clear hSO hSO2
  go_wp2_with fail
  refine (hPages E _ _ _ A s d a _ h st0 st root hr hs hI hA hN hO).mono ?_
  clear hO hA
  rintro e w1 ⟨so, co, SO, A, rfl, hSO, hA, hO⟩
  have hnd : (hs.map fun x => (x.1 : Int)).Nodup := by
    have h1 : ((hs.map (·.1)).map (fun n : Nat => (n : Int))).Nodup := List.Pairwise.map _ (fun a b hab e => hab (Int.ofNat.inj e)) hI.nd
    rwa [List.map_map] at h1
  have hrise := srt_rise hnd
  have hpl : (srt (hs.map fun x => (x.1 : Int))).length ≤ 4096 := by rw [srt_length, List.length_map]; omega
  have hpag := fun y hy => Ag.page hI hAg (y := y) hy
  generalize srt (hs.map fun x => (x.1 : Int)) = ps at hSO hrise hpl hpag ⊢
  have HR := Lib.hid hrise
  have HPG := Lib.hid hpag
  clear hrise hpag hnd hlen hl1 hl2 Q1 Q2
  go_wp2_with fail
  have hO1 := hO
  clear hO
  go_loopw [6] (fun i wr => ∃ k : Nat, i = .int .i64 k ∧ 1 ≤ k ∧ (k ≤ ps.length ∨ k = 1) ∧ Own E wr (SO ++ (heapF h a root ++ (A ++ (S ++ R))))) (fun i _ => ps.length - (intOf i).toNat)
  case atStart => exact ⟨1, rfl, Nat.le_refl _, .inr rfl, hO1⟩
  case round =>
    clear hO1
    obtain ⟨k, rfl, hk1, hk, hO⟩ := hrel
    by_cases hlt : k < ps.length
    · have h1 : (k : Int) < ps.length := by omega
      have h2 : (0 : Int) ≤ k := by omega
      have h3 : IntKind.i64.wrap ((k : Int) - 1) = ((k - 1 : Nat) : Int) := by rw [IntKind.wrap_i64]; omega
      have h4 : (0 : Int) ≤ ((k - 1 : Nat) : Int) := by omega
      have h5 : ((k - 1 : Nat) : Int) < ps.length := by omega
      obtain ⟨pb, rfl⟩ := sl_some4 hSO (by omega)
      obtain ⟨v, hv⟩ : ∃ v, ps[k]'hlt = v := ⟨_, rfl⟩
      obtain ⟨u, hu⟩ : ∃ u, ps[k - 1]'(by omega) = u := ⟨_, rfl⟩
      have huv : ¬ u ≥ v := by
        have := List.pairwise_iff_getElem.1 HR.out (k - 1) k (by omega) hlt (by omega)
        rw [hv, hu] at this
        omega
      have huv2 : decide (v ≤ u) = false := decide_eq_false huv
      have hc1 : ∀ w', Own E w' SO → w'.cell? ⟨pb, k, none⟩ = some (.int .i64 v) := fun w' h => hv ▸ int_cell hSO h hlt
      have hc2 : ∀ w', Own E w' SO → w'.cell? ⟨pb, k - 1, none⟩ = some (.int .i64 u) := fun w' h => hu ▸ int_cell hSO h (by omega)
      have C1 := Lib.hid hc1
      have C2 := Lib.hid hc2
      have HL := Lib.hid hlt
      clear hv hu hc1 hc2 hk hk1
      go_wp2_with fail
      (try (go_wp2_with fail))
      refine region_sch (fun w' => Own E w' (SO)) (.look 0 (.look 1 (.look 2 (.look 3 (.look 4 (.look 5 (.look 6 (.look 7 (.look 8 (.look 9 .done)))))))))) (by kernel_rfl) (by kernel_rfl) (fun _ _ d _ _ h => by cases d <;> exact h) ?_ ?_
      · exact hO.drew.as _
      replace hO := hO.drew
      generalize World.drew _ = wdr at hO ⊢
      first | (refine sch_look (o := ?_) (v := ?_) ?_ ?_ ?_ ?_; rotate_left 2; (· ((conv => lhs; whnf); try exact rfl)); (· rfl); (· intro w' hO'; have c1 := C1.out w' hO'; have c2 := C2.out w' hO'; go_simp; (try exact rfl)); simp only [Act.put, List.setIfInBounds_toArray, List.set_cons_zero, List.set_cons_succ]) | (refine sch_pass (o := ?_) ?_ ?_ ?_; rotate_left; (· ((conv => lhs; whnf); try exact rfl)); (· rfl); simp only [Act.put, List.setIfInBounds_toArray, List.set_cons_zero, List.set_cons_succ]) | (refine sch_look (o := ?_) (v := .agg ?_) ?_ ?_ ?_ ?_; rotate_left 2; (· ((conv => lhs; whnf); try exact rfl)); (· rfl); (· intro w' hO'; refine run_opLoadS (b := ?_) (cs := ?_) (e := ?_) (f := ?_) hO' ?_ ?_ ?_ ?_; rotate_left 4; (· exact rfl); (· exact inferInstance); (· simp; done); (· simp; done)); simp only [Act.put, List.setIfInBounds_toArray, List.set_cons_zero, List.set_cons_succ])
      first | (refine sch_look (o := ?_) (v := ?_) ?_ ?_ ?_ ?_; rotate_left 2; (· ((conv => lhs; whnf); try exact rfl)); (· rfl); (· intro w' hO'; have c1 := C1.out w' hO'; have c2 := C2.out w' hO'; go_simp; (try exact rfl)); simp only [Act.put, List.setIfInBounds_toArray, List.set_cons_zero, List.set_cons_succ]) | (refine sch_pass (o := ?_) ?_ ?_ ?_; rotate_left; (· ((conv => lhs; whnf); try exact rfl)); (· rfl); simp only [Act.put, List.setIfInBounds_toArray, List.set_cons_zero, List.set_cons_succ]) | (refine sch_look (o := ?_) (v := .agg ?_) ?_ ?_ ?_ ?_; rotate_left 2; (· ((conv => lhs; whnf); try exact rfl)); (· rfl); (· intro w' hO'; refine run_opLoadS (b := ?_) (cs := ?_) (e := ?_) (f := ?_) hO' ?_ ?_ ?_ ?_; rotate_left 4; (· exact rfl); (· exact inferInstance); (· simp; done); (· simp; done)); simp only [Act.put, List.setIfInBounds_toArray, List.set_cons_zero, List.set_cons_succ])
      first | (refine sch_look (o := ?_) (v := ?_) ?_ ?_ ?_ ?_; rotate_left 2; (· ((conv => lhs; whnf); try exact rfl)); (· rfl); (· intro w' hO'; have c1 := C1.out w' hO'; have c2 := C2.out w' hO'; go_simp; (try exact rfl)); simp only [Act.put, List.setIfInBounds_toArray, List.set_cons_zero, List.set_cons_succ]) | (refine sch_pass (o := ?_) ?_ ?_ ?_; rotate_left; (· ((conv => lhs; whnf); try exact rfl)); (· rfl); simp only [Act.put, List.setIfInBounds_toArray, List.set_cons_zero, List.set_cons_succ]) | (refine sch_look (o := ?_) (v := .agg ?_) ?_ ?_ ?_ ?_; rotate_left 2; (· ((conv => lhs; whnf); try exact rfl)); (· rfl); (· intro w' hO'; refine run_opLoadS (b := ?_) (cs := ?_) (e := ?_) (f := ?_) hO' ?_ ?_ ?_ ?_; rotate_left 4; (· exact rfl); (· exact inferInstance); (· simp; done); (· simp; done)); simp only [Act.put, List.setIfInBounds_toArray, List.set_cons_zero, List.set_cons_succ])
      first | (refine sch_look (o := ?_) (v := ?_) ?_ ?_ ?_ ?_; rotate_left 2; (· ((conv => lhs; whnf); try exact rfl)); (· rfl); (· intro w' hO'; have c1 := C1.out w' hO'; have c2 := C2.out w' hO'; go_simp; (try exact rfl)); simp only [Act.put, List.setIfInBounds_toArray, List.set_cons_zero, List.set_cons_succ]) | (refine sch_pass (o := ?_) ?_ ?_ ?_; rotate_left; (· ((conv => lhs; whnf); try exact rfl)); (· rfl); simp only [Act.put, List.setIfInBounds_toArray, List.set_cons_zero, List.set_cons_succ]) | (refine sch_look (o := ?_) (v := .agg ?_) ?_ ?_ ?_ ?_; rotate_left 2; (· ((conv => lhs; whnf); try exact rfl)); (· rfl); (· intro w' hO'; refine run_opLoadS (b := ?_) (cs := ?_) (e := ?_) (f := ?_) hO' ?_ ?_ ?_ ?_; rotate_left 4; (· exact rfl); (· exact inferInstance); (· simp; done); (· simp; done)); simp only [Act.put, List.setIfInBounds_toArray, List.set_cons_zero, List.set_cons_succ])
      first | (refine sch_look (o := ?_) (v := ?_) ?_ ?_ ?_ ?_; rotate_left 2; (· ((conv => lhs; whnf); try exact rfl)); (· rfl); (· intro w' hO'; have c1 := C1.out w' hO'; have c2 := C2.out w' hO'; go_simp; (try exact rfl)); simp only [Act.put, List.setIfInBounds_toArray, List.set_cons_zero, List.set_cons_succ]) | (refine sch_pass (o := ?_) ?_ ?_ ?_; rotate_left; (· ((conv => lhs; whnf); try exact rfl)); (· rfl); simp only [Act.put, List.setIfInBounds_toArray, List.set_cons_zero, List.set_cons_succ]) | (refine sch_look (o := ?_) (v := .agg ?_) ?_ ?_ ?_ ?_; rotate_left 2; (· ((conv => lhs; whnf); try exact rfl)); (· rfl); (· intro w' hO'; refine run_opLoadS (b := ?_) (cs := ?_) (e := ?_) (f := ?_) hO' ?_ ?_ ?_ ?_; rotate_left 4; (· exact rfl); (· exact inferInstance); (· simp; done); (· simp; done)); simp only [Act.put, List.setIfInBounds_toArray, List.set_cons_zero, List.set_cons_succ])
      first | (refine sch_look (o := ?_) (v := ?_) ?_ ?_ ?_ ?_; rotate_left 2; (· ((conv => lhs; whnf); try exact rfl)); (· rfl); (· intro w' hO'; have c1 := C1.out w' hO'; have c2 := C2.out w' hO'; go_simp; (try exact rfl)); simp only [Act.put, List.setIfInBounds_toArray, List.set_cons_zero, List.set_cons_succ]) | (refine sch_pass (o := ?_) ?_ ?_ ?_; rotate_left; (· ((conv => lhs; whnf); try exact rfl)); (· rfl); simp only [Act.put, List.setIfInBounds_toArray, List.set_cons_zero, List.set_cons_succ]) | (refine sch_look (o := ?_) (v := .agg ?_) ?_ ?_ ?_ ?_; rotate_left 2; (· ((conv => lhs; whnf); try exact rfl)); (· rfl); (· intro w' hO'; refine run_opLoadS (b := ?_) (cs := ?_) (e := ?_) (f := ?_) hO' ?_ ?_ ?_ ?_; rotate_left 4; (· exact rfl); (· exact inferInstance); (· simp; done); (· simp; done)); simp only [Act.put, List.setIfInBounds_toArray, List.set_cons_zero, List.set_cons_succ])
      first | (refine sch_look (o := ?_) (v := ?_) ?_ ?_ ?_ ?_; rotate_left 2; (· ((conv => lhs; whnf); try exact rfl)); (· rfl); (· intro w' hO'; have c1 := C1.out w' hO'; have c2 := C2.out w' hO'; go_simp; (try exact rfl)); simp only [Act.put, List.setIfInBounds_toArray, List.set_cons_zero, List.set_cons_succ]) | (refine sch_pass (o := ?_) ?_ ?_ ?_; rotate_left; (· ((conv => lhs; whnf); try exact rfl)); (· rfl); simp only [Act.put, List.setIfInBounds_toArray, List.set_cons_zero, List.set_cons_succ]) | (refine sch_look (o := ?_) (v := .agg ?_) ?_ ?_ ?_ ?_; rotate_left 2; (· ((conv => lhs; whnf); try exact rfl)); (· rfl); (· intro w' hO'; refine run_opLoadS (b := ?_) (cs := ?_) (e := ?_) (f := ?_) hO' ?_ ?_ ?_ ?_; rotate_left 4; (· exact rfl); (· exact inferInstance); (· simp; done); (· simp; done)); simp only [Act.put, List.setIfInBounds_toArray, List.set_cons_zero, List.set_cons_succ])
      first | (refine sch_look (o := ?_) (v := ?_) ?_ ?_ ?_ ?_; rotate_left 2; (· ((conv => lhs; whnf); try exact rfl)); (· rfl); (· intro w' hO'; have c1 := C1.out w' hO'; have c2 := C2.out w' hO'; go_simp; (try exact rfl)); simp only [Act.put, List.setIfInBounds_toArray, List.set_cons_zero, List.set_cons_succ]) | (refine sch_pass (o := ?_) ?_ ?_ ?_; rotate_left; (· ((conv => lhs; whnf); try exact rfl)); (· rfl); simp only [Act.put, List.setIfInBounds_toArray, List.set_cons_zero, List.set_cons_succ]) | (refine sch_look (o := ?_) (v := .agg ?_) ?_ ?_ ?_ ?_; rotate_left 2; (· ((conv => lhs; whnf); try exact rfl)); (· rfl); (· intro w' hO'; refine run_opLoadS (b := ?_) (cs := ?_) (e := ?_) (f := ?_) hO' ?_ ?_ ?_ ?_; rotate_left 4; (· exact rfl); (· exact inferInstance); (· simp; done); (· simp; done)); simp only [Act.put, List.setIfInBounds_toArray, List.set_cons_zero, List.set_cons_succ])
      first | (refine sch_look (o := ?_) (v := ?_) ?_ ?_ ?_ ?_; rotate_left 2; (· ((conv => lhs; whnf); try exact rfl)); (· rfl); (· intro w' hO'; have c1 := C1.out w' hO'; have c2 := C2.out w' hO'; go_simp; (try exact rfl)); simp only [Act.put, List.setIfInBounds_toArray, List.set_cons_zero, List.set_cons_succ]) | (refine sch_pass (o := ?_) ?_ ?_ ?_; rotate_left; (· ((conv => lhs; whnf); try exact rfl)); (· rfl); simp only [Act.put, List.setIfInBounds_toArray, List.set_cons_zero, List.set_cons_succ]) | (refine sch_look (o := ?_) (v := .agg ?_) ?_ ?_ ?_ ?_; rotate_left 2; (· ((conv => lhs; whnf); try exact rfl)); (· rfl); (· intro w' hO'; refine run_opLoadS (b := ?_) (cs := ?_) (e := ?_) (f := ?_) hO' ?_ ?_ ?_ ?_; rotate_left 4; (· exact rfl); (· exact inferInstance); (· simp; done); (· simp; done)); simp only [Act.put, List.setIfInBounds_toArray, List.set_cons_zero, List.set_cons_succ])
      first | (refine sch_look (o := ?_) (v := ?_) ?_ ?_ ?_ ?_; rotate_left 2; (· ((conv => lhs; whnf); try exact rfl)); (· rfl); (· intro w' hO'; have c1 := C1.out w' hO'; have c2 := C2.out w' hO'; go_simp; (try exact rfl)); simp only [Act.put, List.setIfInBounds_toArray, List.set_cons_zero, List.set_cons_succ]) | (refine sch_pass (o := ?_) ?_ ?_ ?_; rotate_left; (· ((conv => lhs; whnf); try exact rfl)); (· rfl); simp only [Act.put, List.setIfInBounds_toArray, List.set_cons_zero, List.set_cons_succ]) | (refine sch_look (o := ?_) (v := .agg ?_) ?_ ?_ ?_ ?_; rotate_left 2; (· ((conv => lhs; whnf); try exact rfl)); (· rfl); (· intro w' hO'; refine run_opLoadS (b := ?_) (cs := ?_) (e := ?_) (f := ?_) hO' ?_ ?_ ?_ ?_; rotate_left 4; (· exact rfl); (· exact inferInstance); (· simp; done); (· simp; done)); simp only [Act.put, List.setIfInBounds_toArray, List.set_cons_zero, List.set_cons_succ])
      refine sch_done ?_
      go_wp2_with fail
      go_roundw
      case rel => exact ⟨k + 1, by go_num, by omega, by have := HL.out; omega, hO.as _⟩
      case measure => have := HL.out; simp [intOf]; omega
    · have h1 : ¬ (k : Int) < ps.length := by omega
      clear hk hk1 hlt
      go_wp2_with fail
      have hO1 := hO
      have hA1 := hA
      clear hO hA
      go_loopw [7] (fun i wr => ∃ (j : Nat) (A : Fr), i = .int .i64 j ∧ j ≤ l.length ∧ Going s d a N st0 st A ∧ Own E wr (SO ++ (heapF h a root ++ (A ++ (S ++ R))))) (fun i _ => l.length - (intOf i).toNat)
      case atStart => exact ⟨0, A, rfl, Nat.zero_le _, hA1, hO1⟩
      case round =>
        clear hO1 hA1
        obtain ⟨j, A, rfl, hj, hA, hO⟩ := hrel
        by_cases hlj : j < l.length
        · have g1 : (j : Int) < l.length := by omega
          have g2 : (0 : Int) ≤ j := by omega
          obtain ⟨sb, rfl⟩ := sl_some4 hS (by omega)
          obtain ⟨y, hy⟩ : ∃ y, l[j]'hlj = y := ⟨_, rfl⟩
          have hym : y ∈ l := hy ▸ List.getElem_mem hlj
          have h0 := hAg.nn y hym
          obtain ⟨t, ht⟩ : ∃ t : Nat, y.tid = t := ⟨y.tid.toNat, by omega⟩
          have hx : (t, (⟨if y.lives then 1 else 2, y.row⟩ : Slot)) ∈ W hs := hAg.mem.2 ⟨y, hym, ht, rfl⟩
          have htb := (W_bd hI hx).2.1
          have hpg := HPG.out y hym
          rw [ht, Int.toNat_natCast] at hpg
          have hrc : ∀ w', Own E w' S → w'.cell? ⟨sb, j * 3, none⟩ = some (.int .i64 t) ∧ w'.cell? ⟨sb, j * 3 + 1, none⟩ = some (.string y.row) ∧ w'.cell? ⟨sb, j * 3 + 2, none⟩ = some (.bool y.lives) := fun w' h => by
            obtain ⟨e1, e2, e3⟩ := rw_cells hS h hlj
            rw [hy] at e1 e2 e3
            rw [ht] at e1
            exact ⟨e1, e2, e3⟩
          have HRC := Lib.hid hrc
          have HX := Lib.hid hx
          have HPQ := Lib.hid hpg
          have HLJ := Lib.hid hlj
          clear hrc hx hpg hy hym h0 ht hj hlj
          have hc1 := (HRC.out _ (hO.as S)).1
          go_wp2_with fail
          refine (hGet E _ _ _ A s d a _ h st0 st root hr hs hI t (by omega) hA hN hO).mono ?_
          clear hO hA hc1
          intro e w4 he
          obtain ⟨he2, A, hA, hO⟩ := he.ok hI HX.out
          have hlv : ((((if y.lives then 1 else 2 : Nat)) : Int) == 1) = y.lives := by cases y.lives <;> rfl
          rw [show (⟨if y.lives then 1 else 2, y.row⟩ : Slot).st = if y.lives then 1 else 2 from rfl, hlv] at he2
          subst he2
          clear he hlv
          go_wp2_with fail
          have hO1 := hO
          clear hO
          generalize hq : ((t / 64 : Nat) : Int) = q
          have HQ := Lib.hid hq
          have HPQ2 := Lib.hid (hq ▸ HPQ.out)
          clear hq
          go_loopw [11, 12] (fun th i wr => ∃ k : Nat, i = .int .i64 k ∧ k ≤ ps.length ∧ th = .bool ((ps.take k).any fun v => v == q) ∧ Own E wr (SO ++ (heapF h a root ++ (A ++ (S ++ R))))) (fun _ i _ => ps.length - (intOf i).toNat)
          case atStart => exact ⟨0, rfl, Nat.zero_le _, rfl, hO1.as _⟩
          case round =>
            clear hO1
            obtain ⟨k, rfl, hk, rfl, hO⟩ := hrel
            by_cases hlt : k < ps.length
            · have f1 : (k : Int) < ps.length := by omega
              have f2 : (0 : Int) ≤ k := by omega
              obtain ⟨pb, rfl⟩ := sl_some4 hSO (by omega)
              obtain ⟨v, hv⟩ : ∃ v, ps[k]'hlt = v := ⟨_, rfl⟩
              have hc1 : ∀ w', Own E w' SO → w'.cell? ⟨pb, k, none⟩ = some (.int .i64 v) := fun w' h => hv ▸ int_cell hSO h hlt
              have C1 := Lib.hid hc1
              have hnx : (ps.take (k + 1)).any (fun v => v == q) = ((ps.take k).any (fun v => v == q) || (v == q)) := by
                rw [List.take_succ_eq_append_getElem hlt, List.any_append, hv]
                simp
              generalize hb : (ps.take k).any (fun v => v == q) = b at hnx
              have HNX := Lib.hid hnx
              have HL := Lib.hid hlt
              clear hv hc1 hk hb hnx hlt
              cases b
              · go_wp2_with fail
                (try (go_wp2_with fail))
                refine region_sch (fun w' => Own E w' (SO ++ S)) (.look 0 (.look 1 (.look 2 (.look 3 (.look 4 (.look 5 (.look 6 (.look 7 (.look 8 (.look 9 (.look 10 (.act 11 (.look 12 (.look 13 (.look 14 .done))))))))))))))) (by kernel_rfl) (by kernel_rfl) (fun _ _ d _ _ h => by cases d <;> exact h) ?_ ?_
                · exact hO.drew.as _
                replace hO := hO.drew
                generalize World.drew _ = wdr at hO ⊢
                first | (refine sch_look (o := ?_) (v := ?_) ?_ ?_ ?_ ?_; rotate_left 2; (· ((conv => lhs; whnf); try exact rfl)); (· rfl); (· intro w' hO'; have c1 := C1.out w' (hO'.as SO); have c2 := (HRC.out w' (hO'.as S)).1; go_simp; (try exact rfl)); simp only [Act.put, List.setIfInBounds_toArray, List.set_cons_zero, List.set_cons_succ]) | (refine sch_pass (o := ?_) ?_ ?_ ?_; rotate_left; (· ((conv => lhs; whnf); try exact rfl)); (· rfl); simp only [Act.put, List.setIfInBounds_toArray, List.set_cons_zero, List.set_cons_succ]) | (refine sch_look (o := ?_) (v := .agg ?_) ?_ ?_ ?_ ?_; rotate_left 2; (· ((conv => lhs; whnf); try exact rfl)); (· rfl); (· intro w' hO'; refine run_opLoadS (b := ?_) (cs := ?_) (e := ?_) (f := ?_) hO' ?_ ?_ ?_ ?_; rotate_left 4; (· exact rfl); (· exact inferInstance); (· simp; done); (· simp; done)); simp only [Act.put, List.setIfInBounds_toArray, List.set_cons_zero, List.set_cons_succ])
                first | (refine sch_look (o := ?_) (v := ?_) ?_ ?_ ?_ ?_; rotate_left 2; (· ((conv => lhs; whnf); try exact rfl)); (· rfl); (· intro w' hO'; have c1 := C1.out w' (hO'.as SO); have c2 := (HRC.out w' (hO'.as S)).1; go_simp; (try exact rfl)); simp only [Act.put, List.setIfInBounds_toArray, List.set_cons_zero, List.set_cons_succ]) | (refine sch_pass (o := ?_) ?_ ?_ ?_; rotate_left; (· ((conv => lhs; whnf); try exact rfl)); (· rfl); simp only [Act.put, List.setIfInBounds_toArray, List.set_cons_zero, List.set_cons_succ]) | (refine sch_look (o := ?_) (v := .agg ?_) ?_ ?_ ?_ ?_; rotate_left 2; (· ((conv => lhs; whnf); try exact rfl)); (· rfl); (· intro w' hO'; refine run_opLoadS (b := ?_) (cs := ?_) (e := ?_) (f := ?_) hO' ?_ ?_ ?_ ?_; rotate_left 4; (· exact rfl); (· exact inferInstance); (· simp; done); (· simp; done)); simp only [Act.put, List.setIfInBounds_toArray, List.set_cons_zero, List.set_cons_succ])
                first | (refine sch_look (o := ?_) (v := ?_) ?_ ?_ ?_ ?_; rotate_left 2; (· ((conv => lhs; whnf); try exact rfl)); (· rfl); (· intro w' hO'; have c1 := C1.out w' (hO'.as SO); have c2 := (HRC.out w' (hO'.as S)).1; go_simp; (try exact rfl)); simp only [Act.put, List.setIfInBounds_toArray, List.set_cons_zero, List.set_cons_succ]) | (refine sch_pass (o := ?_) ?_ ?_ ?_; rotate_left; (· ((conv => lhs; whnf); try exact rfl)); (· rfl); simp only [Act.put, List.setIfInBounds_toArray, List.set_cons_zero, List.set_cons_succ]) | (refine sch_look (o := ?_) (v := .agg ?_) ?_ ?_ ?_ ?_; rotate_left 2; (· ((conv => lhs; whnf); try exact rfl)); (· rfl); (· intro w' hO'; refine run_opLoadS (b := ?_) (cs := ?_) (e := ?_) (f := ?_) hO' ?_ ?_ ?_ ?_; rotate_left 4; (· exact rfl); (· exact inferInstance); (· simp; done); (· simp; done)); simp only [Act.put, List.setIfInBounds_toArray, List.set_cons_zero, List.set_cons_succ])
                first | (refine sch_look (o := ?_) (v := ?_) ?_ ?_ ?_ ?_; rotate_left 2; (· ((conv => lhs; whnf); try exact rfl)); (· rfl); (· intro w' hO'; have c1 := C1.out w' (hO'.as SO); have c2 := (HRC.out w' (hO'.as S)).1; go_simp; (try exact rfl)); simp only [Act.put, List.setIfInBounds_toArray, List.set_cons_zero, List.set_cons_succ]) | (refine sch_pass (o := ?_) ?_ ?_ ?_; rotate_left; (· ((conv => lhs; whnf); try exact rfl)); (· rfl); simp only [Act.put, List.setIfInBounds_toArray, List.set_cons_zero, List.set_cons_succ]) | (refine sch_look (o := ?_) (v := .agg ?_) ?_ ?_ ?_ ?_; rotate_left 2; (· ((conv => lhs; whnf); try exact rfl)); (· rfl); (· intro w' hO'; refine run_opLoadS (b := ?_) (cs := ?_) (e := ?_) (f := ?_) hO' ?_ ?_ ?_ ?_; rotate_left 4; (· exact rfl); (· exact inferInstance); (· simp; done); (· simp; done)); simp only [Act.put, List.setIfInBounds_toArray, List.set_cons_zero, List.set_cons_succ])
                first | (refine sch_look (o := ?_) (v := ?_) ?_ ?_ ?_ ?_; rotate_left 2; (· ((conv => lhs; whnf); try exact rfl)); (· rfl); (· intro w' hO'; have c1 := C1.out w' (hO'.as SO); have c2 := (HRC.out w' (hO'.as S)).1; go_simp; (try exact rfl)); simp only [Act.put, List.setIfInBounds_toArray, List.set_cons_zero, List.set_cons_succ]) | (refine sch_pass (o := ?_) ?_ ?_ ?_; rotate_left; (· ((conv => lhs; whnf); try exact rfl)); (· rfl); simp only [Act.put, List.setIfInBounds_toArray, List.set_cons_zero, List.set_cons_succ]) | (refine sch_look (o := ?_) (v := .agg ?_) ?_ ?_ ?_ ?_; rotate_left 2; (· ((conv => lhs; whnf); try exact rfl)); (· rfl); (· intro w' hO'; refine run_opLoadS (b := ?_) (cs := ?_) (e := ?_) (f := ?_) hO' ?_ ?_ ?_ ?_; rotate_left 4; (· exact rfl); (· exact inferInstance); (· simp; done); (· simp; done)); simp only [Act.put, List.setIfInBounds_toArray, List.set_cons_zero, List.set_cons_succ])
                first | (refine sch_look (o := ?_) (v := ?_) ?_ ?_ ?_ ?_; rotate_left 2; (· ((conv => lhs; whnf); try exact rfl)); (· rfl); (· intro w' hO'; have c1 := C1.out w' (hO'.as SO); have c2 := (HRC.out w' (hO'.as S)).1; go_simp; (try exact rfl)); simp only [Act.put, List.setIfInBounds_toArray, List.set_cons_zero, List.set_cons_succ]) | (refine sch_pass (o := ?_) ?_ ?_ ?_; rotate_left; (· ((conv => lhs; whnf); try exact rfl)); (· rfl); simp only [Act.put, List.setIfInBounds_toArray, List.set_cons_zero, List.set_cons_succ]) | (refine sch_look (o := ?_) (v := .agg ?_) ?_ ?_ ?_ ?_; rotate_left 2; (· ((conv => lhs; whnf); try exact rfl)); (· rfl); (· intro w' hO'; refine run_opLoadS (b := ?_) (cs := ?_) (e := ?_) (f := ?_) hO' ?_ ?_ ?_ ?_; rotate_left 4; (· exact rfl); (· exact inferInstance); (· simp; done); (· simp; done)); simp only [Act.put, List.setIfInBounds_toArray, List.set_cons_zero, List.set_cons_succ])
                first | (refine sch_look (o := ?_) (v := ?_) ?_ ?_ ?_ ?_; rotate_left 2; (· ((conv => lhs; whnf); try exact rfl)); (· rfl); (· intro w' hO'; have c1 := C1.out w' (hO'.as SO); have c2 := (HRC.out w' (hO'.as S)).1; go_simp; (try exact rfl)); simp only [Act.put, List.setIfInBounds_toArray, List.set_cons_zero, List.set_cons_succ]) | (refine sch_pass (o := ?_) ?_ ?_ ?_; rotate_left; (· ((conv => lhs; whnf); try exact rfl)); (· rfl); simp only [Act.put, List.setIfInBounds_toArray, List.set_cons_zero, List.set_cons_succ]) | (refine sch_look (o := ?_) (v := .agg ?_) ?_ ?_ ?_ ?_; rotate_left 2; (· ((conv => lhs; whnf); try exact rfl)); (· rfl); (· intro w' hO'; refine run_opLoadS (b := ?_) (cs := ?_) (e := ?_) (f := ?_) hO' ?_ ?_ ?_ ?_; rotate_left 4; (· exact rfl); (· exact inferInstance); (· simp; done); (· simp; done)); simp only [Act.put, List.setIfInBounds_toArray, List.set_cons_zero, List.set_cons_succ])
                first | (refine sch_look (o := ?_) (v := ?_) ?_ ?_ ?_ ?_; rotate_left 2; (· ((conv => lhs; whnf); try exact rfl)); (· rfl); (· intro w' hO'; have c1 := C1.out w' (hO'.as SO); have c2 := (HRC.out w' (hO'.as S)).1; go_simp; (try exact rfl)); simp only [Act.put, List.setIfInBounds_toArray, List.set_cons_zero, List.set_cons_succ]) | (refine sch_pass (o := ?_) ?_ ?_ ?_; rotate_left; (· ((conv => lhs; whnf); try exact rfl)); (· rfl); simp only [Act.put, List.setIfInBounds_toArray, List.set_cons_zero, List.set_cons_succ]) | (refine sch_look (o := ?_) (v := .agg ?_) ?_ ?_ ?_ ?_; rotate_left 2; (· ((conv => lhs; whnf); try exact rfl)); (· rfl); (· intro w' hO'; refine run_opLoadS (b := ?_) (cs := ?_) (e := ?_) (f := ?_) hO' ?_ ?_ ?_ ?_; rotate_left 4; (· exact rfl); (· exact inferInstance); (· simp; done); (· simp; done)); simp only [Act.put, List.setIfInBounds_toArray, List.set_cons_zero, List.set_cons_succ])
                first | (refine sch_look (o := ?_) (v := ?_) ?_ ?_ ?_ ?_; rotate_left 2; (· ((conv => lhs; whnf); try exact rfl)); (· rfl); (· intro w' hO'; have c1 := C1.out w' (hO'.as SO); have c2 := (HRC.out w' (hO'.as S)).1; go_simp; (try exact rfl)); simp only [Act.put, List.setIfInBounds_toArray, List.set_cons_zero, List.set_cons_succ]) | (refine sch_pass (o := ?_) ?_ ?_ ?_; rotate_left; (· ((conv => lhs; whnf); try exact rfl)); (· rfl); simp only [Act.put, List.setIfInBounds_toArray, List.set_cons_zero, List.set_cons_succ]) | (refine sch_look (o := ?_) (v := .agg ?_) ?_ ?_ ?_ ?_; rotate_left 2; (· ((conv => lhs; whnf); try exact rfl)); (· rfl); (· intro w' hO'; refine run_opLoadS (b := ?_) (cs := ?_) (e := ?_) (f := ?_) hO' ?_ ?_ ?_ ?_; rotate_left 4; (· exact rfl); (· exact inferInstance); (· simp; done); (· simp; done)); simp only [Act.put, List.setIfInBounds_toArray, List.set_cons_zero, List.set_cons_succ])
                first | (refine sch_look (o := ?_) (v := ?_) ?_ ?_ ?_ ?_; rotate_left 2; (· ((conv => lhs; whnf); try exact rfl)); (· rfl); (· intro w' hO'; have c1 := C1.out w' (hO'.as SO); have c2 := (HRC.out w' (hO'.as S)).1; go_simp; (try exact rfl)); simp only [Act.put, List.setIfInBounds_toArray, List.set_cons_zero, List.set_cons_succ]) | (refine sch_pass (o := ?_) ?_ ?_ ?_; rotate_left; (· ((conv => lhs; whnf); try exact rfl)); (· rfl); simp only [Act.put, List.setIfInBounds_toArray, List.set_cons_zero, List.set_cons_succ]) | (refine sch_look (o := ?_) (v := .agg ?_) ?_ ?_ ?_ ?_; rotate_left 2; (· ((conv => lhs; whnf); try exact rfl)); (· rfl); (· intro w' hO'; refine run_opLoadS (b := ?_) (cs := ?_) (e := ?_) (f := ?_) hO' ?_ ?_ ?_ ?_; rotate_left 4; (· exact rfl); (· exact inferInstance); (· simp; done); (· simp; done)); simp only [Act.put, List.setIfInBounds_toArray, List.set_cons_zero, List.set_cons_succ])
                first | (refine sch_look (o := ?_) (v := ?_) ?_ ?_ ?_ ?_; rotate_left 2; (· ((conv => lhs; whnf); try exact rfl)); (· rfl); (· intro w' hO'; have c1 := C1.out w' (hO'.as SO); have c2 := (HRC.out w' (hO'.as S)).1; go_simp; (try exact rfl)); simp only [Act.put, List.setIfInBounds_toArray, List.set_cons_zero, List.set_cons_succ]) | (refine sch_pass (o := ?_) ?_ ?_ ?_; rotate_left; (· ((conv => lhs; whnf); try exact rfl)); (· rfl); simp only [Act.put, List.setIfInBounds_toArray, List.set_cons_zero, List.set_cons_succ]) | (refine sch_look (o := ?_) (v := .agg ?_) ?_ ?_ ?_ ?_; rotate_left 2; (· ((conv => lhs; whnf); try exact rfl)); (· rfl); (· intro w' hO'; refine run_opLoadS (b := ?_) (cs := ?_) (e := ?_) (f := ?_) hO' ?_ ?_ ?_ ?_; rotate_left 4; (· exact rfl); (· exact inferInstance); (· simp; done); (· simp; done)); simp only [Act.put, List.setIfInBounds_toArray, List.set_cons_zero, List.set_cons_succ])
                (refine sch_act (o := ?_) ?_ ?_; rotate_left; (· ((conv => lhs; whnf); try exact rfl)))
                go_wp2_with fail
                refine (hPageN t (by omega) _).mono ?_
                rintro e w5 ⟨rfl, rfl⟩
                rw [HQ.out]
                go_wp2_with fail
                refine ⟨hO.as _, ?_⟩
                first | (refine sch_look (o := ?_) (v := ?_) ?_ ?_ ?_ ?_; rotate_left 2; (· ((conv => lhs; whnf); try exact rfl)); (· rfl); (· intro w' hO'; have c1 := C1.out w' (hO'.as SO); have c2 := (HRC.out w' (hO'.as S)).1; go_simp; (try exact rfl)); simp only [Act.put, List.setIfInBounds_toArray, List.set_cons_zero, List.set_cons_succ]) | (refine sch_pass (o := ?_) ?_ ?_ ?_; rotate_left; (· ((conv => lhs; whnf); try exact rfl)); (· rfl); simp only [Act.put, List.setIfInBounds_toArray, List.set_cons_zero, List.set_cons_succ]) | (refine sch_look (o := ?_) (v := .agg ?_) ?_ ?_ ?_ ?_; rotate_left 2; (· ((conv => lhs; whnf); try exact rfl)); (· rfl); (· intro w' hO'; refine run_opLoadS (b := ?_) (cs := ?_) (e := ?_) (f := ?_) hO' ?_ ?_ ?_ ?_; rotate_left 4; (· exact rfl); (· exact inferInstance); (· simp; done); (· simp; done)); simp only [Act.put, List.setIfInBounds_toArray, List.set_cons_zero, List.set_cons_succ])
                first | (refine sch_look (o := ?_) (v := ?_) ?_ ?_ ?_ ?_; rotate_left 2; (· ((conv => lhs; whnf); try exact rfl)); (· rfl); (· intro w' hO'; have c1 := C1.out w' (hO'.as SO); have c2 := (HRC.out w' (hO'.as S)).1; go_simp; (try exact rfl)); simp only [Act.put, List.setIfInBounds_toArray, List.set_cons_zero, List.set_cons_succ]) | (refine sch_pass (o := ?_) ?_ ?_ ?_; rotate_left; (· ((conv => lhs; whnf); try exact rfl)); (· rfl); simp only [Act.put, List.setIfInBounds_toArray, List.set_cons_zero, List.set_cons_succ]) | (refine sch_look (o := ?_) (v := .agg ?_) ?_ ?_ ?_ ?_; rotate_left 2; (· ((conv => lhs; whnf); try exact rfl)); (· rfl); (· intro w' hO'; refine run_opLoadS (b := ?_) (cs := ?_) (e := ?_) (f := ?_) hO' ?_ ?_ ?_ ?_; rotate_left 4; (· exact rfl); (· exact inferInstance); (· simp; done); (· simp; done)); simp only [Act.put, List.setIfInBounds_toArray, List.set_cons_zero, List.set_cons_succ])
                first | (refine sch_look (o := ?_) (v := ?_) ?_ ?_ ?_ ?_; rotate_left 2; (· ((conv => lhs; whnf); try exact rfl)); (· rfl); (· intro w' hO'; have c1 := C1.out w' (hO'.as SO); have c2 := (HRC.out w' (hO'.as S)).1; go_simp; (try exact rfl)); simp only [Act.put, List.setIfInBounds_toArray, List.set_cons_zero, List.set_cons_succ]) | (refine sch_pass (o := ?_) ?_ ?_ ?_; rotate_left; (· ((conv => lhs; whnf); try exact rfl)); (· rfl); simp only [Act.put, List.setIfInBounds_toArray, List.set_cons_zero, List.set_cons_succ]) | (refine sch_look (o := ?_) (v := .agg ?_) ?_ ?_ ?_ ?_; rotate_left 2; (· ((conv => lhs; whnf); try exact rfl)); (· rfl); (· intro w' hO'; refine run_opLoadS (b := ?_) (cs := ?_) (e := ?_) (f := ?_) hO' ?_ ?_ ?_ ?_; rotate_left 4; (· exact rfl); (· exact inferInstance); (· simp; done); (· simp; done)); simp only [Act.put, List.setIfInBounds_toArray, List.set_cons_zero, List.set_cons_succ])
                refine sch_done ?_
                go_wp2_with fail
                go_roundw
                case rel => exact ⟨k + 1, by go_num, by have := HL.out; omega, by rw [HNX.out]; rfl, hO.as _⟩
                case measure => have := HL.out; simp [intOf]; omega
              · go_wp2_with fail
                (try (go_wp2_with fail))
                refine region_sch (fun w' => Own E w' (SO ++ S)) (.look 0 (.look 1 (.look 2 (.look 3 (.look 4 (.look 5 (.look 6 (.look 7 (.look 8 (.look 9 (.look 10 (.look 11 (.look 12 (.look 13 (.look 14 .done))))))))))))))) (by kernel_rfl) (by kernel_rfl) (fun _ _ d _ _ h => by cases d <;> exact h) ?_ ?_
                · exact hO.drew.as _
                replace hO := hO.drew
                generalize World.drew _ = wdr at hO ⊢
                first | (refine sch_look (o := ?_) (v := ?_) ?_ ?_ ?_ ?_; rotate_left 2; (· ((conv => lhs; whnf); try exact rfl)); (· rfl); (· intro w' hO'; have c1 := C1.out w' (hO'.as SO); have c2 := (HRC.out w' (hO'.as S)).1; go_simp; (try exact rfl)); simp only [Act.put, List.setIfInBounds_toArray, List.set_cons_zero, List.set_cons_succ]) | (refine sch_pass (o := ?_) ?_ ?_ ?_; rotate_left; (· ((conv => lhs; whnf); try exact rfl)); (· rfl); simp only [Act.put, List.setIfInBounds_toArray, List.set_cons_zero, List.set_cons_succ]) | (refine sch_look (o := ?_) (v := .agg ?_) ?_ ?_ ?_ ?_; rotate_left 2; (· ((conv => lhs; whnf); try exact rfl)); (· rfl); (· intro w' hO'; refine run_opLoadS (b := ?_) (cs := ?_) (e := ?_) (f := ?_) hO' ?_ ?_ ?_ ?_; rotate_left 4; (· exact rfl); (· exact inferInstance); (· simp; done); (· simp; done)); simp only [Act.put, List.setIfInBounds_toArray, List.set_cons_zero, List.set_cons_succ])
                first | (refine sch_look (o := ?_) (v := ?_) ?_ ?_ ?_ ?_; rotate_left 2; (· ((conv => lhs; whnf); try exact rfl)); (· rfl); (· intro w' hO'; have c1 := C1.out w' (hO'.as SO); have c2 := (HRC.out w' (hO'.as S)).1; go_simp; (try exact rfl)); simp only [Act.put, List.setIfInBounds_toArray, List.set_cons_zero, List.set_cons_succ]) | (refine sch_pass (o := ?_) ?_ ?_ ?_; rotate_left; (· ((conv => lhs; whnf); try exact rfl)); (· rfl); simp only [Act.put, List.setIfInBounds_toArray, List.set_cons_zero, List.set_cons_succ]) | (refine sch_look (o := ?_) (v := .agg ?_) ?_ ?_ ?_ ?_; rotate_left 2; (· ((conv => lhs; whnf); try exact rfl)); (· rfl); (· intro w' hO'; refine run_opLoadS (b := ?_) (cs := ?_) (e := ?_) (f := ?_) hO' ?_ ?_ ?_ ?_; rotate_left 4; (· exact rfl); (· exact inferInstance); (· simp; done); (· simp; done)); simp only [Act.put, List.setIfInBounds_toArray, List.set_cons_zero, List.set_cons_succ])
                first | (refine sch_look (o := ?_) (v := ?_) ?_ ?_ ?_ ?_; rotate_left 2; (· ((conv => lhs; whnf); try exact rfl)); (· rfl); (· intro w' hO'; have c1 := C1.out w' (hO'.as SO); have c2 := (HRC.out w' (hO'.as S)).1; go_simp; (try exact rfl)); simp only [Act.put, List.setIfInBounds_toArray, List.set_cons_zero, List.set_cons_succ]) | (refine sch_pass (o := ?_) ?_ ?_ ?_; rotate_left; (· ((conv => lhs; whnf); try exact rfl)); (· rfl); simp only [Act.put, List.setIfInBounds_toArray, List.set_cons_zero, List.set_cons_succ]) | (refine sch_look (o := ?_) (v := .agg ?_) ?_ ?_ ?_ ?_; rotate_left 2; (· ((conv => lhs; whnf); try exact rfl)); (· rfl); (· intro w' hO'; refine run_opLoadS (b := ?_) (cs := ?_) (e := ?_) (f := ?_) hO' ?_ ?_ ?_ ?_; rotate_left 4; (· exact rfl); (· exact inferInstance); (· simp; done); (· simp; done)); simp only [Act.put, List.setIfInBounds_toArray, List.set_cons_zero, List.set_cons_succ])
                first | (refine sch_look (o := ?_) (v := ?_) ?_ ?_ ?_ ?_; rotate_left 2; (· ((conv => lhs; whnf); try exact rfl)); (· rfl); (· intro w' hO'; have c1 := C1.out w' (hO'.as SO); have c2 := (HRC.out w' (hO'.as S)).1; go_simp; (try exact rfl)); simp only [Act.put, List.setIfInBounds_toArray, List.set_cons_zero, List.set_cons_succ]) | (refine sch_pass (o := ?_) ?_ ?_ ?_; rotate_left; (· ((conv => lhs; whnf); try exact rfl)); (· rfl); simp only [Act.put, List.setIfInBounds_toArray, List.set_cons_zero, List.set_cons_succ]) | (refine sch_look (o := ?_) (v := .agg ?_) ?_ ?_ ?_ ?_; rotate_left 2; (· ((conv => lhs; whnf); try exact rfl)); (· rfl); (· intro w' hO'; refine run_opLoadS (b := ?_) (cs := ?_) (e := ?_) (f := ?_) hO' ?_ ?_ ?_ ?_; rotate_left 4; (· exact rfl); (· exact inferInstance); (· simp; done); (· simp; done)); simp only [Act.put, List.setIfInBounds_toArray, List.set_cons_zero, List.set_cons_succ])
                first | (refine sch_look (o := ?_) (v := ?_) ?_ ?_ ?_ ?_; rotate_left 2; (· ((conv => lhs; whnf); try exact rfl)); (· rfl); (· intro w' hO'; have c1 := C1.out w' (hO'.as SO); have c2 := (HRC.out w' (hO'.as S)).1; go_simp; (try exact rfl)); simp only [Act.put, List.setIfInBounds_toArray, List.set_cons_zero, List.set_cons_succ]) | (refine sch_pass (o := ?_) ?_ ?_ ?_; rotate_left; (· ((conv => lhs; whnf); try exact rfl)); (· rfl); simp only [Act.put, List.setIfInBounds_toArray, List.set_cons_zero, List.set_cons_succ]) | (refine sch_look (o := ?_) (v := .agg ?_) ?_ ?_ ?_ ?_; rotate_left 2; (· ((conv => lhs; whnf); try exact rfl)); (· rfl); (· intro w' hO'; refine run_opLoadS (b := ?_) (cs := ?_) (e := ?_) (f := ?_) hO' ?_ ?_ ?_ ?_; rotate_left 4; (· exact rfl); (· exact inferInstance); (· simp; done); (· simp; done)); simp only [Act.put, List.setIfInBounds_toArray, List.set_cons_zero, List.set_cons_succ])
                first | (refine sch_look (o := ?_) (v := ?_) ?_ ?_ ?_ ?_; rotate_left 2; (· ((conv => lhs; whnf); try exact rfl)); (· rfl); (· intro w' hO'; have c1 := C1.out w' (hO'.as SO); have c2 := (HRC.out w' (hO'.as S)).1; go_simp; (try exact rfl)); simp only [Act.put, List.setIfInBounds_toArray, List.set_cons_zero, List.set_cons_succ]) | (refine sch_pass (o := ?_) ?_ ?_ ?_; rotate_left; (· ((conv => lhs; whnf); try exact rfl)); (· rfl); simp only [Act.put, List.setIfInBounds_toArray, List.set_cons_zero, List.set_cons_succ]) | (refine sch_look (o := ?_) (v := .agg ?_) ?_ ?_ ?_ ?_; rotate_left 2; (· ((conv => lhs; whnf); try exact rfl)); (· rfl); (· intro w' hO'; refine run_opLoadS (b := ?_) (cs := ?_) (e := ?_) (f := ?_) hO' ?_ ?_ ?_ ?_; rotate_left 4; (· exact rfl); (· exact inferInstance); (· simp; done); (· simp; done)); simp only [Act.put, List.setIfInBounds_toArray, List.set_cons_zero, List.set_cons_succ])
                first | (refine sch_look (o := ?_) (v := ?_) ?_ ?_ ?_ ?_; rotate_left 2; (· ((conv => lhs; whnf); try exact rfl)); (· rfl); (· intro w' hO'; have c1 := C1.out w' (hO'.as SO); have c2 := (HRC.out w' (hO'.as S)).1; go_simp; (try exact rfl)); simp only [Act.put, List.setIfInBounds_toArray, List.set_cons_zero, List.set_cons_succ]) | (refine sch_pass (o := ?_) ?_ ?_ ?_; rotate_left; (· ((conv => lhs; whnf); try exact rfl)); (· rfl); simp only [Act.put, List.setIfInBounds_toArray, List.set_cons_zero, List.set_cons_succ]) | (refine sch_look (o := ?_) (v := .agg ?_) ?_ ?_ ?_ ?_; rotate_left 2; (· ((conv => lhs; whnf); try exact rfl)); (· rfl); (· intro w' hO'; refine run_opLoadS (b := ?_) (cs := ?_) (e := ?_) (f := ?_) hO' ?_ ?_ ?_ ?_; rotate_left 4; (· exact rfl); (· exact inferInstance); (· simp; done); (· simp; done)); simp only [Act.put, List.setIfInBounds_toArray, List.set_cons_zero, List.set_cons_succ])
                first | (refine sch_look (o := ?_) (v := ?_) ?_ ?_ ?_ ?_; rotate_left 2; (· ((conv => lhs; whnf); try exact rfl)); (· rfl); (· intro w' hO'; have c1 := C1.out w' (hO'.as SO); have c2 := (HRC.out w' (hO'.as S)).1; go_simp; (try exact rfl)); simp only [Act.put, List.setIfInBounds_toArray, List.set_cons_zero, List.set_cons_succ]) | (refine sch_pass (o := ?_) ?_ ?_ ?_; rotate_left; (· ((conv => lhs; whnf); try exact rfl)); (· rfl); simp only [Act.put, List.setIfInBounds_toArray, List.set_cons_zero, List.set_cons_succ]) | (refine sch_look (o := ?_) (v := .agg ?_) ?_ ?_ ?_ ?_; rotate_left 2; (· ((conv => lhs; whnf); try exact rfl)); (· rfl); (· intro w' hO'; refine run_opLoadS (b := ?_) (cs := ?_) (e := ?_) (f := ?_) hO' ?_ ?_ ?_ ?_; rotate_left 4; (· exact rfl); (· exact inferInstance); (· simp; done); (· simp; done)); simp only [Act.put, List.setIfInBounds_toArray, List.set_cons_zero, List.set_cons_succ])
                first | (refine sch_look (o := ?_) (v := ?_) ?_ ?_ ?_ ?_; rotate_left 2; (· ((conv => lhs; whnf); try exact rfl)); (· rfl); (· intro w' hO'; have c1 := C1.out w' (hO'.as SO); have c2 := (HRC.out w' (hO'.as S)).1; go_simp; (try exact rfl)); simp only [Act.put, List.setIfInBounds_toArray, List.set_cons_zero, List.set_cons_succ]) | (refine sch_pass (o := ?_) ?_ ?_ ?_; rotate_left; (· ((conv => lhs; whnf); try exact rfl)); (· rfl); simp only [Act.put, List.setIfInBounds_toArray, List.set_cons_zero, List.set_cons_succ]) | (refine sch_look (o := ?_) (v := .agg ?_) ?_ ?_ ?_ ?_; rotate_left 2; (· ((conv => lhs; whnf); try exact rfl)); (· rfl); (· intro w' hO'; refine run_opLoadS (b := ?_) (cs := ?_) (e := ?_) (f := ?_) hO' ?_ ?_ ?_ ?_; rotate_left 4; (· exact rfl); (· exact inferInstance); (· simp; done); (· simp; done)); simp only [Act.put, List.setIfInBounds_toArray, List.set_cons_zero, List.set_cons_succ])
                first | (refine sch_look (o := ?_) (v := ?_) ?_ ?_ ?_ ?_; rotate_left 2; (· ((conv => lhs; whnf); try exact rfl)); (· rfl); (· intro w' hO'; have c1 := C1.out w' (hO'.as SO); have c2 := (HRC.out w' (hO'.as S)).1; go_simp; (try exact rfl)); simp only [Act.put, List.setIfInBounds_toArray, List.set_cons_zero, List.set_cons_succ]) | (refine sch_pass (o := ?_) ?_ ?_ ?_; rotate_left; (· ((conv => lhs; whnf); try exact rfl)); (· rfl); simp only [Act.put, List.setIfInBounds_toArray, List.set_cons_zero, List.set_cons_succ]) | (refine sch_look (o := ?_) (v := .agg ?_) ?_ ?_ ?_ ?_; rotate_left 2; (· ((conv => lhs; whnf); try exact rfl)); (· rfl); (· intro w' hO'; refine run_opLoadS (b := ?_) (cs := ?_) (e := ?_) (f := ?_) hO' ?_ ?_ ?_ ?_; rotate_left 4; (· exact rfl); (· exact inferInstance); (· simp; done); (· simp; done)); simp only [Act.put, List.setIfInBounds_toArray, List.set_cons_zero, List.set_cons_succ])
                first | (refine sch_look (o := ?_) (v := ?_) ?_ ?_ ?_ ?_; rotate_left 2; (· ((conv => lhs; whnf); try exact rfl)); (· rfl); (· intro w' hO'; have c1 := C1.out w' (hO'.as SO); have c2 := (HRC.out w' (hO'.as S)).1; go_simp; (try exact rfl)); simp only [Act.put, List.setIfInBounds_toArray, List.set_cons_zero, List.set_cons_succ]) | (refine sch_pass (o := ?_) ?_ ?_ ?_; rotate_left; (· ((conv => lhs; whnf); try exact rfl)); (· rfl); simp only [Act.put, List.setIfInBounds_toArray, List.set_cons_zero, List.set_cons_succ]) | (refine sch_look (o := ?_) (v := .agg ?_) ?_ ?_ ?_ ?_; rotate_left 2; (· ((conv => lhs; whnf); try exact rfl)); (· rfl); (· intro w' hO'; refine run_opLoadS (b := ?_) (cs := ?_) (e := ?_) (f := ?_) hO' ?_ ?_ ?_ ?_; rotate_left 4; (· exact rfl); (· exact inferInstance); (· simp; done); (· simp; done)); simp only [Act.put, List.setIfInBounds_toArray, List.set_cons_zero, List.set_cons_succ])
                (refine sch_pass (o := ?_) ?_ ?_ ?_; rotate_left; (· ((conv => lhs; whnf); try exact rfl)); (· rfl); simp only [Act.put, List.setIfInBounds_toArray, List.set_cons_zero, List.set_cons_succ])
                first | (refine sch_look (o := ?_) (v := ?_) ?_ ?_ ?_ ?_; rotate_left 2; (· ((conv => lhs; whnf); try exact rfl)); (· rfl); (· intro w' hO'; have c1 := C1.out w' (hO'.as SO); have c2 := (HRC.out w' (hO'.as S)).1; go_simp; (try exact rfl)); simp only [Act.put, List.setIfInBounds_toArray, List.set_cons_zero, List.set_cons_succ]) | (refine sch_pass (o := ?_) ?_ ?_ ?_; rotate_left; (· ((conv => lhs; whnf); try exact rfl)); (· rfl); simp only [Act.put, List.setIfInBounds_toArray, List.set_cons_zero, List.set_cons_succ]) | (refine sch_look (o := ?_) (v := .agg ?_) ?_ ?_ ?_ ?_; rotate_left 2; (· ((conv => lhs; whnf); try exact rfl)); (· rfl); (· intro w' hO'; refine run_opLoadS (b := ?_) (cs := ?_) (e := ?_) (f := ?_) hO' ?_ ?_ ?_ ?_; rotate_left 4; (· exact rfl); (· exact inferInstance); (· simp; done); (· simp; done)); simp only [Act.put, List.setIfInBounds_toArray, List.set_cons_zero, List.set_cons_succ])
                first | (refine sch_look (o := ?_) (v := ?_) ?_ ?_ ?_ ?_; rotate_left 2; (· ((conv => lhs; whnf); try exact rfl)); (· rfl); (· intro w' hO'; have c1 := C1.out w' (hO'.as SO); have c2 := (HRC.out w' (hO'.as S)).1; go_simp; (try exact rfl)); simp only [Act.put, List.setIfInBounds_toArray, List.set_cons_zero, List.set_cons_succ]) | (refine sch_pass (o := ?_) ?_ ?_ ?_; rotate_left; (· ((conv => lhs; whnf); try exact rfl)); (· rfl); simp only [Act.put, List.setIfInBounds_toArray, List.set_cons_zero, List.set_cons_succ]) | (refine sch_look (o := ?_) (v := .agg ?_) ?_ ?_ ?_ ?_; rotate_left 2; (· ((conv => lhs; whnf); try exact rfl)); (· rfl); (· intro w' hO'; refine run_opLoadS (b := ?_) (cs := ?_) (e := ?_) (f := ?_) hO' ?_ ?_ ?_ ?_; rotate_left 4; (· exact rfl); (· exact inferInstance); (· simp; done); (· simp; done)); simp only [Act.put, List.setIfInBounds_toArray, List.set_cons_zero, List.set_cons_succ])
                first | (refine sch_look (o := ?_) (v := ?_) ?_ ?_ ?_ ?_; rotate_left 2; (· ((conv => lhs; whnf); try exact rfl)); (· rfl); (· intro w' hO'; have c1 := C1.out w' (hO'.as SO); have c2 := (HRC.out w' (hO'.as S)).1; go_simp; (try exact rfl)); simp only [Act.put, List.setIfInBounds_toArray, List.set_cons_zero, List.set_cons_succ]) | (refine sch_pass (o := ?_) ?_ ?_ ?_; rotate_left; (· ((conv => lhs; whnf); try exact rfl)); (· rfl); simp only [Act.put, List.setIfInBounds_toArray, List.set_cons_zero, List.set_cons_succ]) | (refine sch_look (o := ?_) (v := .agg ?_) ?_ ?_ ?_ ?_; rotate_left 2; (· ((conv => lhs; whnf); try exact rfl)); (· rfl); (· intro w' hO'; refine run_opLoadS (b := ?_) (cs := ?_) (e := ?_) (f := ?_) hO' ?_ ?_ ?_ ?_; rotate_left 4; (· exact rfl); (· exact inferInstance); (· simp; done); (· simp; done)); simp only [Act.put, List.setIfInBounds_toArray, List.set_cons_zero, List.set_cons_succ])
                refine sch_done ?_
                go_wp2_with fail
                go_roundw
                case rel => exact ⟨k + 1, by go_num, by have := HL.out; omega, by rw [HNX.out]; rfl, hO.as _⟩
                case measure => have := HL.out; simp [intOf]; omega
            · obtain rfl : k = ps.length := by omega
              have f1 : ¬ (ps.length : Int) < ps.length := by omega
              have hany : (ps.take ps.length).any (fun v => v == q) = true := by
                rw [List.take_length]
                exact List.any_eq_true.2 ⟨q, HPQ2.out, beq_self_eq_true _⟩
              rw [hany]
              obtain ⟨-, c2, c3⟩ := HRC.out _ (hO.as S)
              generalize y.lives = b at c3 ⊢
              generalize y.row = row at c2 ⊢
              clear hlt hk hany
              cases b
              all_goals (
                go_wp2_with fail
                go_roundw
                case rel => exact ⟨j + 1, A, by go_num, HLJ.out, hA, hO⟩
                case measure => have := HLJ.out; simp [intOf]; omega)
        · obtain rfl : j = l.length := by omega
          have g1 : ¬ (l.length : Int) < l.length := by omega
          go_wp2_with fail
          rw [← HPOST.out]
          exact ⟨rfl, A, hA, hO.as _⟩
end Go.Proofs.Ytkfkcloefgfkaaa

/- Arguments opened: a slice of structs as rows of cells; a list of what each row says. -/
namespace Go.Own
open Go.RowKit Go.ChangeShapes Go.WideShapes Go.Deep

theorem exists_list {α : Type} [Inhabited α] {P : Nat → α → Prop} : ∀ {n : Nat}, (∀ i, i < n → ∃ o, P i o) → ∃ L : List α, L.length = n ∧ ∀ i (h : i < L.length), P i L[i]
  | n, hp => by
    refine ⟨(List.range n).map fun i => if h : i < n then Classical.choose (hp i h) else default, by simp, ?_⟩
    intro i h
    have hi : i < n := by simpa using h
    simp only [List.getElem_map, List.getElem_range, hi, dite_true]
    exact Classical.choose_spec (hp i hi)

section
variable {H : Type} {enc : TypeId × Value → H} {P : Program} {w : World} {base : Nat} {spare : Nat → Bool} {held : Bool}
/-- A slice of structs of one-cell fields: each element a row of cells of the world, each field's cell read as data. -/
theorem open_rows {t e : TypeId} {fs : Array Field} {fuel : Nat} {v : Value} {x : DataW H × List MemPlace} (ht : P.underlying t = some (.slice e)) (he : P.underlying e = some (.struct fs))
    (hone : oneCellFields P fs = true) (hC : P.cellsOf e = fs.size) (h : DataW.trod enc P w base spare held fuel t [v] = some x) :
    ∃ (sa : Option Addr) (len cap : Nat), v = .slice sa len cap ∧ len ≤ cap ∧ cap ≤ maxLen ∧ (sa = none → len = 0 ∧ cap = 0) ∧ (len = 0 ∨ ∃ es sp, x.1 = .slice es sp ∧ es.length = len) ∧
      ∀ i, i < len → ∃ ad vs, sa = some ad ∧ vs.length = fs.size ∧ RowAt w (ad.add (i * fs.size)) vs ∧ ∃ n, ∀ (j : Nat) (f : Field), fs[j]? = some f → ∃ u y, vs[j]? = some u ∧ DataW.trod enc P w base spare held n f.type [u] = some y := by
  rcases open_slice ht h with ⟨h0, hx⟩ | ⟨a, len, cap, m, n, D, Pl, hcs, hb, hl, hm, hmm, hx, hi⟩
  · refine ⟨none, 0, 0, by simpa using h0, by omega, by simp [maxLen], fun _ => ⟨rfl, rfl⟩, .inl rfl, fun i hi => absurd hi (by omega)⟩
  · refine ⟨some a, len, cap, by simpa using hcs, hl, hm, by simp, .inr ⟨_, _, by rw [hx], by simp⟩, fun i him => ?_⟩
    have hlm : len ≤ m := by rw [hmm]; split <;> omega
    obtain ⟨cs', hc, ht'⟩ := hi i (by omega)
    rw [hC] at hc
    obtain ⟨ys, n', _, _, _, hyl, hf⟩ := DataW.trod_struct he ht'
    obtain ⟨_, hcl, hat⟩ := World.cells?_some hc
    refine ⟨a, cs', rfl, hcl, ?_, n', ?_⟩
    · intro j u hj
      have hjl : j < cs'.length := (List.getElem?_eq_some_iff.1 hj).1
      rw [hat j (by omega), hj]
    · intro j f hj
      obtain ⟨ho, hk⟩ := hone_of hone j f hj
      have hjl : j < fs.size := (Array.getElem?_eq_some_iff.1 hj).1
      have h1 := hf j f hj
      rw [ho, hk] at h1
      have h2 : (cs'.drop j).take 1 = [cs'[j]'(by omega)] := by
        rw [List.drop_eq_getElem_cons (by omega)]
        rfl
      rw [h2, List.getElem?_eq_getElem (by omega)] at h1
      exact ⟨_, _, List.getElem?_eq_getElem (by omega), h1⟩
end
end Go.Own

/- Arguments of vestibulelaw07: the calls. -/
namespace Go.Proofs.Ytkfkcloefgfkaaa
open Go.ChangeShapes Go.WideShapes Go.RowKit Go.Own Go.Deep

structure Op7 where
  k : Int
  p : Int
  t : ByteArray
def Op7.cells (o : Op7) : List Value := [.int .i64 o.k, .int .i64 o.p, .string o.t]
instance : Inhabited Op7 := ⟨⟨0, 0, .empty⟩⟩
/-- The calls as they came in. -/
def OpsAt7 (E : World) (sa : Option Addr) (L : List Op7) : Prop :=
  ∀ i (h : i < L.length), ∃ ad, sa = some ad ∧ RowAt E (ad.add (i * 3)) (L[i]).cells ∧ (L[i]).p < 9223372036854775808

theorem wf7 {n : Int} (h : (Lit.int .i64 n).wf = true) : -9223372036854775808 ≤ n ∧ n ≤ 9223372036854775807 := by
  have h1 : IntKind.i64.min ≤ n ∧ n ≤ 9223372036854775807 := by simpa [Lit.wf] using h
  have h2 : IntKind.i64.min = -9223372036854775808 := by decide
  rw [h2] at h1
  exact h1
theorem ops7At {H : Type} {enc : TypeId × Value → H} {W : World} {spare : Nat → Bool} {v : Value} {fuel : Nat} {x : DataW H × List MemPlace} (h : DataW.trod enc Try.prog W 0 spare true fuel 86 [v] = some x) :
    ∃ sa sc L, v = .slice sa (List.length L) sc ∧ OpsAt7 W sa L ∧ (List.length L = 0 ∨ ∃ es sp, x.1 = .slice es sp ∧ es.length = List.length L) := by
  obtain ⟨sa, len, cap, rfl, _, _, _, hx, hr⟩ := open_rows (P := Try.prog) Try.underlying86 Try.underlying91 (by kernel_rfl) (by kernel_rfl) h
  have : ∀ i, i < len → ∃ o : Op7, ∃ ad, sa = some ad ∧ RowAt W (ad.add (i * 3)) o.cells ∧ o.p < 9223372036854775808 := by
    intro i hi
    obtain ⟨ad, vs, rfl, hvl, hrow, n, hf⟩ := hr i hi
    obtain ⟨u0, y0, e0, t0⟩ := hf 0 _ rfl
    obtain ⟨u1, y1, e1, t1⟩ := hf 1 _ rfl
    obtain ⟨u2, y2, e2, t2⟩ := hf 2 _ rfl
    obtain ⟨k0, c0, _, _⟩ := DataW.trod_int Try.underlying3 t0
    obtain ⟨k1, c1, _, wf1⟩ := DataW.trod_int Try.underlying3 t1
    have w1 := wf7 wf1
    obtain ⟨s2, c2, _, _⟩ := DataW.trod_string Try.underlying9 t2
    match vs, hvl with
    | [_, _, _], _ =>
      simp at e0 e1 e2 c0 c1 c2
      subst e0 e1 e2 c0 c1 c2
      exact ⟨⟨k0, k1, s2⟩, ad, rfl, hrow, by have := w1.2; show k1 < _; omega⟩
  obtain ⟨L, hL, hp⟩ := exists_list this
  subst hL
  exact ⟨sa, cap, L, rfl, hp, hx⟩
end Go.Proofs.Ytkfkcloefgfkaaa

/- Layer 7: HeapPlays. -/
namespace Go.Proofs.Ytkfkcloefgfkaaa
open Go Go.RowKit Go.Own Go.Dk

set_option maxRecDepth 100000 in
set_option maxHeartbeats 16000000 in
theorem heapPlays (E w : World) (hO : Own E w (oldFr E)) (sa : Option Addr) (sc : Nat) (L : List Op7) (hL : OpsAt7 E sa L) (hn : L.length ≤ 4398046511104) :
    Calls Try.prog 7 #[.slice sa L.length sc] w fun e w' => e = .returned (.bool true) ∧ Own E w' (oldFr E) := by
  have HL := Lib.hid hL
  clear hL
  go_enter Try.func7, Try.ntmps7
  go_wp2_with fail
  refine (beg7 E _ _ hO).mono ?_
  clear hO
  rintro e w1 ⟨s, d, a, A, rfl, hA, hO⟩
  by_cases hbig : 1000 < L.length
  · have h1 : (1000 : Int) < L.length := by omega
    clear hbig
    go_wp2_with fail
    refine (awake7 E _ _ hO).mono ?_
    clear hO
    rintro e w8 ⟨rfl, hO⟩
    go_wp2_with fail
    go_ret
    exact ⟨rfl, hO.as _⟩
  have h1 : ¬ (1000 : Int) < L.length := by omega
  go_wp2_with fail
  refine (hNew E _ _ _ A s d a _ st00 st00 3 (by decide) hA (by decide) hO).mono ?_
  clear hO hA
  rintro e w2 ⟨h, A, rfl, hA, hO⟩
  clear h1
  have HBG := Lib.hid hbig
  clear hbig
  go_wp2_with fail
  have hO1 := hO
  have hA1 := hA
  clear hO hA
  go_loopw [9, 10] (fun lv i wr => ∃ (k : Nat) (st : SSt) (hs : Hs) (l : List Rw) (so : Option Addr) (co : Nat) (SO A : Fr), i = .int .i64 k ∧ k ≤ L.length ∧ lv = .slice so l.length co ∧ Ag hs l ∧ HInv st 3 hs ∧ st.T ≤ k ∧ l.length ≤ k ∧ Sl 143 3 so l.length co (rwsV l) SO ∧ Going s d a 4194305 st00 st A ∧ Own E wr (heapF h a 3 ++ (A ++ (SO ++ oldFr E)))) (fun _ i _ => L.length - (intOf i).toNat)
  case atStart => exact ⟨0, st00, [], [], none, 0, [], A, rfl, Nat.zero_le _, rfl, ⟨List.Pairwise.nil, (fun _ h => (nomatch h)), List.Perm.refl _⟩, HInv.new rfl, Nat.le_refl _, Nat.le_refl _, Sl.nil _ _, hA1, hO1.as _⟩
  case round =>
    clear hO1 hA1
    obtain ⟨k, st, hs, l, so, co, SO, A, rfl, hk, rfl, hAg, hI, hT, hl, hSO, hA, hO⟩ := hrel
    have hbg := HBG.out
    by_cases hlt : k < L.length
    · have g1 : (k : Int) < L.length := by omega
      have g2 : (0 : Int) ≤ k := by omega
      obtain ⟨ad, rfl, hrow, hts⟩ := HL.out k hlt
      have HRow := Lib.hid hrow
      clear hrow
      ((try simp only [List.nil_append, List.append_nil] at hO); have hF := Own.cells hO; simp only [cellsOf_append, cellsOf_pt] at hF)
      go_wp2_with (refine at_load ?_; go_must (refine own_loadC (ad := ad.add (k * 3)) (cs := (L[k]).cells) ?_ (HRow.out.at hO) ?_ ?_ ?_ ?_; (· rfl); (· ((conv => lhs; whnf); try exact rfl)); (· simp; done); (· simp [Op7.cells]; done); simp only [Act.put, List.setIfInBounds_toArray, List.set_cons_zero, List.set_cons_succ]))
      refine (does7 E _ _ _ A SO s d a _ h st00 st 3 (by decide) hs hI (by omega) l (by omega) hAg so co hSO (L[k]).k (L[k]).p (L[k]).t hts hA (by decide) hO).mono ?_
      clear hO hA hSO hF
      rintro e w3 ⟨st2, hs2, l2, so2, co2, SO2, A, rfl, hAg2, hI2, hT2, hl2, -, hSO2, hA, hO⟩
      have hO : Own E w3 (heapF h a 3 ++ (A ++ (SO2 ++ oldFr E))) := by
        rcases hO with ⟨_, _, _, rfl, hO⟩ | hO
        · exact hO.as _
        · exact hO.as _
      go_wp2_with fail
      go_roundw
      case rel => exact ⟨k + 1, st2, hs2, l2, so2, co2, SO2, A, by go_num, by omega, rfl, hAg2, hI2, by omega, by omega, hSO2, hA, hO⟩
      case measure => simp [intOf]; omega
    · have g1 : ¬ (k : Int) < L.length := by omega
      clear hlt
      go_wp2_with fail
      refine (told7 E _ _ _ A SO s d a _ h st00 st 3 (by decide) hs hI (by omega) l (by omega) hAg so co hSO hA (by decide) hO).mono ?_
      clear hO hA
      rintro e w3 ⟨rfl, A, hA, hO⟩
      go_wp2_with fail
      refine (awake7 E _ _ hO).mono ?_
      clear hO
      rintro e w8 ⟨rfl, hO⟩
      go_wp2_with fail
      go_ret
      exact ⟨rfl, hO.as _⟩
end Go.Proofs.Ytkfkcloefgfkaaa
