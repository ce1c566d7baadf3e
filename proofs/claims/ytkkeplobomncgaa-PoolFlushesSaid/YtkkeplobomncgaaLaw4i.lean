/- vestibulelaw04: does, whatever the call; told. -/
import Derived.Test.YtkkeplobomncgaaLaw4e
import Derived.Test.YtkkeplobomncgaaLaw4f
import Derived.Test.YtkkeplobomncgaaLaw4h
set_option linter.all false
namespace Go.Proofs.Ytkkeplobomncgaa
open Go Go.RowKit Go.Own Go.Dk

theorem does4 (E w : World) (X R A G : Fr) (p d g most N B : Nat) (es : List Ent) (cont : Nat → List UInt8) (pins : Nat → Nat) (kind page at_ : Int) (t : ByteArray) (hS : PoolS p d most N cont pins A) (hG : PgAt g most es G) (hR : Rel es cont pins) (hB : ∀ k, pins k ≤ B) (hBB : B < 281474976710655)
    (hm : 0 < most) (hm2 : most ≤ 1024) (hNN : N ≤ 8796093022208) (ht : t.size ≤ maxLen) (hO : Own E w X) [hp : Pick X (A ++ G) R] :
    Calls Try.prog 41 #[.pointer (some ⟨g, 0, none⟩), .pointer (some ⟨p, 0, none⟩), opV kind page at_ t] w (DoesPost E p d g most N B R) := by
  by_cases h1 : kind = 1
  · subst h1
    by_cases hb : page < 0 ∨ 4096 ≤ page
    · exact does_pin_bad E w X R A G p d g most N B es cont pins page at_ t hS hG hR hB hm hb hO
    · rcases ent_cases es page with ⟨pre, e, post, rfl, rfl⟩ | hk
      · exact does_pin_old E w X R A G p d g most N B pre post e cont pins at_ t hS hG hR hB hBB hm hm2 hNN hO
      · obtain ⟨k, rfl⟩ := Int.eq_ofNat_of_zero_le (show 0 ≤ page by omega)
        exact does_pin_new E w X R A G p d g most N B es cont pins k at_ t hS hG hR hB hBB hm hm2 hNN (by omega) hk hO
  by_cases h2 : kind = 2
  · subst h2
    exact does_unpin E w X R A G p d g most N B es cont pins page at_ t hS hG hR hB hBB hm hm2 hNN ht hO
  by_cases h3 : kind = 3
  · subst h3
    exact does_write E w X R A G p d g most N B es cont pins page at_ t hS hG hR hB hBB hm hm2 hNN ht hO
  by_cases h4 : kind = 4
  · subst h4
    exact does_flush E w X R A G p d g most N B es cont pins page at_ t hS hG hR hB hBB hm hm2 hNN ht hO
  exact does_other E w X R A G p d g most N B es cont pins kind page at_ t hS hG hR hB h1 h2 h3 h4 hO

theorem row_at {α : Type} (f : α → Value) (pre post : List α) (e : α) (rest : List Value) : ((pre ++ e :: post).map f ++ rest).toArray[pre.length]? = some (f e) := row_mid f pre post e rest
def ToldPost (E : World) (p d most N : Nat) (cont : Nat → List UInt8) (pins : Nat → Nat) (G R : Fr) (e : Ending) (w' : World) : Prop :=
  e = .returned (.bool true) ∧ ∃ A', PoolS p d most N cont pins A' ∧ Own E w' (A' ++ (G ++ R))

set_option maxRecDepth 100000 in
set_option maxHeartbeats 4000000 in
theorem told4 (E w : World) (X R A G : Fr) (p d g most N : Nat) (es : List Ent) (cont : Nat → List UInt8) (pins : Nat → Nat) (hS : PoolS p d most N cont pins A) (hG : PgAt g most es G) (hR : Rel es cont pins)
    (hm : 0 < most) (hm2 : most ≤ 1024) (hO : Own E w X) [hp : Pick X (A ++ G) R] :
    Calls Try.prog 43 #[.pointer (some ⟨g, 0, none⟩), .pointer (some ⟨p, 0, none⟩)] w (ToldPost E p d most N cont pins G R) := by
  replace hO := hO.perm hp.perm
  clear hp
  have hlen := hR.len
  obtain ⟨hand, fs, l, rs, P, D, hP, hI, hD, hh, hN, rfl⟩ := hS
  have hll : l.length = fs.length := by rw [hI.perm.length_eq, List.length_map]
  have hfl := hI.len
  go_enter Try.func43, Try.ntmps43
  go_wp2_with fail
  refine (pHeld E _ _ _ P p d most hand fs l hP (by omega) hm hO).mono ?_; rintro e w1 ⟨sa, cap, hs, H, P1, rfl, hperm, hrise, hH, hP1, hO⟩
  have hsl : hs.length = fs.length := by rw [hperm.length_eq, List.length_map, hll]
  have hin : ∀ k : Nat, 0 < pins k → (k : Int) ∈ hs := by
    intro k hk
    obtain ⟨pre, f, post, rfl, e1, _⟩ := hI.mid hk
    refine hperm.mem_iff.2 (List.mem_map.2 ⟨pairV f, hI.perm.mem_iff.2 (List.mem_map.2 ⟨f, by simp, rfl⟩), ?_⟩)
    show ((f.page : Nat) : Int) = k
    rw [e1]
  have hS1 : PoolS p d most N cont pins (P1 ++ D) := ⟨hand, fs, l, rs, P1, D, hP1, hI, hD, hh, hN, rfl⟩
  have hsm : (hs.length : Int) ≤ most := by omega
  have hsi : (hs.length : Int) ≤ 1024 := by omega
  replace hO := hO.as ((P1 ++ D) ++ (G ++ (H ++ R)))
  generalize P1 ++ D = A1 at hS1 hO
  have HIN := Lib.hid hin
  have HR := Lib.hid hrise
  clear hin hP hP1 hI hD hh hN hll hfl hsl hperm hrise
  have hG0 := hG
  obtain ⟨a1, c1, a2, c2, a3, c3, S1, S2, S3, h1, h2, h3, rfl⟩ := hG
  have hO0 := hO
  have hsm2 : ¬ most < hs.length := by omega
  ((try simp only [List.nil_append, List.append_nil] at hO); have hF := Own.cells hO; simp only [cellsOf_append, cellsOf_pt] at hF)
  go_wp2_with fail
  clear hF hO
  go_loopw [6] (fun i wr => ∃ j : Nat, i = .int .i64 ((j : Int) + 1) ∧ j ≤ 4096 ∧ Own E wr (A1 ++ ((pt g (.cells #[.int .i64 most, .slice a1 es.length c1, .slice a2 es.length c2, .slice a3 es.length c3] 81 (0, 0)) ++ (S1 ++ (S2 ++ (S3 ++ entsF es)))) ++ (H ++ R)))) (fun i _ => hs.length - (intOf i).toNat)
  case atStart => exact ⟨0, rfl, by omega, hO0⟩
  case round =>
    clear hO0
    obtain ⟨i, rfl, hj, hO⟩ := hrel
    by_cases hlt : i + 1 < hs.length
    · have hj1 : (i : Int) + 1 < hs.length := by omega
      have hj0 : (0 : Int) ≤ i := by omega
      have hj2 : (0 : Int) ≤ (i : Int) + 1 := by omega
      have hj3 : (i : Int) < hs.length := by omega
      have hwi : IntKind.i64.wrap (i : Int) = i := by
        simp only [IntKind.wrap, show IntKind.bits .i64 = 64 from rfl, show IntKind.signed .i64 = true from rfl]
        rw [Int.emod_eq_of_lt (by omega) (by omega), if_neg (by simp; omega)]
      obtain ⟨hb, rfl⟩ := sl_some4 hH (by omega)
      have hlt' : hs[i]'(by omega) < hs[i + 1] := List.pairwise_iff_getElem.1 HR.out i (i + 1) (by omega) hlt (by omega)
      have hgi : (hs.map (Value.int .i64))[i]? = some (.int .i64 (hs[i]'(by omega))) := by rw [List.getElem?_map, List.getElem?_eq_getElem (by omega)]; rfl
      have hgj : (hs.map (Value.int .i64))[i + 1]? = some (.int .i64 hs[i + 1]) := by rw [List.getElem?_map, List.getElem?_eq_getElem hlt]; rfl
      generalize hs[i]'(by omega) = x at hlt' hgi
      generalize hs[i + 1] = y at hlt' hgj
      have hnle : ¬ y ≤ x := by omega
      have HGI := Lib.hid hgi
      have HGJ := Lib.hid hgj
      clear hgi hgj hlt
      go_wp2_with fail
      refine own_still (by kernel_rfl) (by kernel_rfl) hO ?_
      clear hO
      intro w3 hO
      have hca := sl_get hH hO i _ HGI.out
      have hcb := sl_get hH hO (i + 1) _ HGJ.out
      (repeat still_step)
      refine wpStill_nil ?_
      clear hca hcb
      go_wp2_with fail
      go_roundw
      case rel => exact ⟨i + 1, by go_num, by omega, hO⟩
      case measure => simp [intOf]; omega
    · have hj1 : ¬ (i : Int) + 1 < hs.length := by omega
      have hO1 := hO
      ((try simp only [List.nil_append, List.append_nil] at hO); have hF := Own.cells hO; simp only [cellsOf_append, cellsOf_pt] at hF)
      go_wp2_with fail
      clear hF hO
      go_loopw [7] (fun i wr => ∃ j : Nat, i = .int .i64 j ∧ j ≤ es.length ∧ Own E wr (A1 ++ ((pt g (.cells #[.int .i64 most, .slice a1 es.length c1, .slice a2 es.length c2, .slice a3 es.length c3] 81 (0, 0)) ++ (S1 ++ (S2 ++ (S3 ++ entsF es)))) ++ (H ++ R)))) (fun i _ => es.length - (intOf i).toNat)
      case atStart => exact ⟨0, rfl, by omega, hO1⟩
      case round =>
        clear hO1 hj1 hsm2
        obtain ⟨j, rfl, hj, hO⟩ := hrel
        by_cases hlt : j < es.length
        · (
          obtain ⟨pre, e, post, rfl, hpre⟩ := esplit es j hlt
          obtain ⟨s1, rfl⟩ := sl_some4 h1 (by omega)
          obtain ⟨s2, rfl⟩ := sl_some4 h2 (by omega)
          obtain ⟨s3, rfl⟩ := sl_some4 h3 (by omega)
          obtain ⟨r1, rfl⟩ := sl_open h1
          obtain ⟨r2, rfl⟩ := sl_open h2
          obtain ⟨r3, rfl⟩ := sl_open h3
          have hrow1 : ((pre ++ e :: post).map ePage ++ r1).toArray[j]? = some (.int .i64 e.page) := by rw [← hpre]; exact row_at ePage pre post e r1
          have hrow2 : ((pre ++ e :: post).map entB ++ r2).toArray[j]? = some (.slice (some ⟨e.bb, 0, none⟩) 512 512) := by rw [← hpre]; exact row_at entB pre post e r2
          have hrow3 : ((pre ++ e :: post).map ePins ++ r3).toArray[j]? = some (.int .i64 e.pins) := by rw [← hpre]; exact row_at ePins pre post e r3
          have hep := (hR.ent e (by simp)).2.2
          have heb := (hR.ent e (by simp)).2.1
          have hbl : e.bytes.length = 512 := by rw [heb]; exact hR.clen _
          have hO1 := hO
          rw [entsF_app, entsF_cons] at hO1
          unfold entF at hO1
          clear hO
          generalize hg1 : ((pre ++ e :: post).map ePage ++ r1).toArray = row1 at hrow1 hO1
          generalize hg2 : ((pre ++ e :: post).map entB ++ r2).toArray = row2 at hrow2 hO1
          generalize hg3 : ((pre ++ e :: post).map ePins ++ r3).toArray = row3 at hrow3 hO1
          have hj1 : (j : Int) < (pre ++ e :: post).length := by omega
          have hj0 : (0 : Int) ≤ j := by omega
          replace hO1 := hO1.as (A1 ++ (pt g (.cells #[.int .i64 most, .slice (some ⟨s1, 0, none⟩) (pre ++ e :: post).length c1, .slice (some ⟨s2, 0, none⟩) (pre ++ e :: post).length c2, .slice (some ⟨s3, 0, none⟩) (pre ++ e :: post).length c3] 81 (0, 0)) ++ (pt s1 (.cells row1 3 (0, 0)) ++ (pt s2 (.cells row2 25 (0, 0)) ++ (pt s3 (.cells row3 3 (0, 0)) ++ (entsF pre ++ (pt e.bb (.cells (bytesV e.bytes).toArray 5 (0, 0)) ++ (entsF post ++ (H ++ R)))))))))
          generalize hln : (pre ++ e :: post).length = ln at hO1 hj1
          have HLT := Lib.hid hlt
          have HEP := Lib.hid hep
          have HEB := Lib.hid heb
          clear hlt heb
          have hO := hO1
          clear hO1
          by_cases hz : e.pins = 0
          · have hpz : pins e.page = 0 := by omega
            have hze : ((e.pins : Int) == 0) = true := by simp [hz]
            clear hep hz
            ((try simp only [List.nil_append, List.append_nil] at hO); have hF := Own.cells hO; simp only [cellsOf_append, cellsOf_pt] at hF)
            go_wp2_with fail
            refine (pRead_no E _ _ _ A1 p d most N cont pins e.page hS1 hm (fun k hkk => (congrArg pins (Int.ofNat.inj hkk)).trans hpz) hO).mono ?_; rintro x w2 ⟨rfl, rfl⟩
            go_wp2_with fail
            clear hF
            (
            refine region_sch (fun w' => Own E w' (pt g (.cells #[.int .i64 most, .slice (some ⟨s1, 0, none⟩) ln c1, .slice (some ⟨s2, 0, none⟩) ln c2, .slice (some ⟨s3, 0, none⟩) ln c3] 81 (0, 0)) ++ (pt s1 (.cells row1 3 (0, 0)) ++ pt s3 (.cells row3 3 (0, 0))))) (.look 0 (.look 1 (.look 2 (.look 3 (.look 4 (.look 5 (.look 6 (.look 7 (.look 9 (.look 10 (.look 11 (.look 12 (.look 13 (.look 14 (.look 15 (.act 8 (.look 16 .done))))))))))))))))) (by kernel_rfl) (by kernel_rfl) (fun _ _ d _ _ h => by cases d <;> exact h) ?_ ?_
            · exact hO.drew.as _
            replace hO := hO.drew
            generalize World.drew _ = w3 at hO ⊢
            (refine sch_look (o := ?_) (v := ?_) ?_ ?_ ?_ ?_; rotate_left 2; (· ((conv => lhs; whnf); try exact rfl)); (· rfl); (· intro w' hO'; (have hF' := Own.cells hO'; simp only [cellsOf_append, cellsOf_pt] at hF'); go_simp; (try exact rfl)); simp only [Act.put, List.setIfInBounds_toArray, List.set_cons_zero, List.set_cons_succ])
            (refine sch_look (o := ?_) (v := ?_) ?_ ?_ ?_ ?_; rotate_left 2; (· ((conv => lhs; whnf); try exact rfl)); (· rfl); (· intro w' hO'; (have hF' := Own.cells hO'; simp only [cellsOf_append, cellsOf_pt] at hF'); go_simp; (try exact rfl)); simp only [Act.put, List.setIfInBounds_toArray, List.set_cons_zero, List.set_cons_succ])
            (refine sch_look (o := ?_) (v := ?_) ?_ ?_ ?_ ?_; rotate_left 2; (· ((conv => lhs; whnf); try exact rfl)); (· rfl); (· intro w' hO'; (have hF' := Own.cells hO'; simp only [cellsOf_append, cellsOf_pt] at hF'); go_simp; (try exact rfl)); simp only [Act.put, List.setIfInBounds_toArray, List.set_cons_zero, List.set_cons_succ])
            (refine sch_look (o := ?_) (v := ?_) ?_ ?_ ?_ ?_; rotate_left 2; (· ((conv => lhs; whnf); try exact rfl)); (· rfl); (· intro w' hO'; (have hF' := Own.cells hO'; simp only [cellsOf_append, cellsOf_pt] at hF'); go_simp; (try exact rfl)); simp only [Act.put, List.setIfInBounds_toArray, List.set_cons_zero, List.set_cons_succ])
            (refine sch_look (o := ?_) (v := ?_) ?_ ?_ ?_ ?_; rotate_left 2; (· ((conv => lhs; whnf); try exact rfl)); (· rfl); (· intro w' hO'; (have hF' := Own.cells hO'; simp only [cellsOf_append, cellsOf_pt] at hF'); go_simp; (try exact rfl)); simp only [Act.put, List.setIfInBounds_toArray, List.set_cons_zero, List.set_cons_succ])
            (refine sch_look (o := ?_) (v := ?_) ?_ ?_ ?_ ?_; rotate_left 2; (· ((conv => lhs; whnf); try exact rfl)); (· rfl); (· intro w' hO'; (have hF' := Own.cells hO'; simp only [cellsOf_append, cellsOf_pt] at hF'); go_simp; (try exact rfl)); simp only [Act.put, List.setIfInBounds_toArray, List.set_cons_zero, List.set_cons_succ])
            (refine sch_look (o := ?_) (v := ?_) ?_ ?_ ?_ ?_; rotate_left 2; (· ((conv => lhs; whnf); try exact rfl)); (· rfl); (· intro w' hO'; (have hF' := Own.cells hO'; simp only [cellsOf_append, cellsOf_pt] at hF'); go_simp; (try exact rfl)); simp only [Act.put, List.setIfInBounds_toArray, List.set_cons_zero, List.set_cons_succ])
            (refine sch_look (o := ?_) (v := ?_) ?_ ?_ ?_ ?_; rotate_left 2; (· ((conv => lhs; whnf); try exact rfl)); (· rfl); (· intro w' hO'; (have hF' := Own.cells hO'; simp only [cellsOf_append, cellsOf_pt] at hF'); go_simp; (try exact rfl)); simp only [Act.put, List.setIfInBounds_toArray, List.set_cons_zero, List.set_cons_succ])
            (refine sch_look (o := ?_) (v := ?_) ?_ ?_ ?_ ?_; rotate_left 2; (· ((conv => lhs; whnf); try exact rfl)); (· rfl); (· intro w' hO'; (have hF' := Own.cells hO'; simp only [cellsOf_append, cellsOf_pt] at hF'); go_simp; (try exact rfl)); simp only [Act.put, List.setIfInBounds_toArray, List.set_cons_zero, List.set_cons_succ])
            (refine sch_look (o := ?_) (v := ?_) ?_ ?_ ?_ ?_; rotate_left 2; (· ((conv => lhs; whnf); try exact rfl)); (· rfl); (· intro w' hO'; (have hF' := Own.cells hO'; simp only [cellsOf_append, cellsOf_pt] at hF'); go_simp; (try exact rfl)); simp only [Act.put, List.setIfInBounds_toArray, List.set_cons_zero, List.set_cons_succ])
            (refine sch_look (o := ?_) (v := ?_) ?_ ?_ ?_ ?_; rotate_left 2; (· ((conv => lhs; whnf); try exact rfl)); (· rfl); (· intro w' hO'; (have hF' := Own.cells hO'; simp only [cellsOf_append, cellsOf_pt] at hF'); go_simp; (try exact rfl)); simp only [Act.put, List.setIfInBounds_toArray, List.set_cons_zero, List.set_cons_succ])
            (refine sch_look (o := ?_) (v := ?_) ?_ ?_ ?_ ?_; rotate_left 2; (· ((conv => lhs; whnf); try exact rfl)); (· rfl); (· intro w' hO'; (have hF' := Own.cells hO'; simp only [cellsOf_append, cellsOf_pt] at hF'); go_simp; (try exact rfl)); simp only [Act.put, List.setIfInBounds_toArray, List.set_cons_zero, List.set_cons_succ])
            (refine sch_look (o := ?_) (v := ?_) ?_ ?_ ?_ ?_; rotate_left 2; (· ((conv => lhs; whnf); try exact rfl)); (· rfl); (· intro w' hO'; (have hF' := Own.cells hO'; simp only [cellsOf_append, cellsOf_pt] at hF'); go_simp; (try exact rfl)); simp only [Act.put, List.setIfInBounds_toArray, List.set_cons_zero, List.set_cons_succ])
            (refine sch_look (o := ?_) (v := ?_) ?_ ?_ ?_ ?_; rotate_left 2; (· ((conv => lhs; whnf); try exact rfl)); (· rfl); (· intro w' hO'; (have hF' := Own.cells hO'; simp only [cellsOf_append, cellsOf_pt] at hF'); go_simp; (try exact rfl)); simp only [Act.put, List.setIfInBounds_toArray, List.set_cons_zero, List.set_cons_succ])
            (refine sch_look (o := ?_) (v := ?_) ?_ ?_ ?_ ?_; rotate_left 2; (· ((conv => lhs; whnf); try exact rfl)); (· rfl); (· intro w' hO'; (have hF' := Own.cells hO'; simp only [cellsOf_append, cellsOf_pt] at hF'); go_simp; (try exact rfl)); simp only [Act.put, List.setIfInBounds_toArray, List.set_cons_zero, List.set_cons_succ])
            (refine sch_act (o := ?_) ?_ ?_; rotate_left; (· ((conv => lhs; whnf); try exact rfl)))
            go_wp2_with fail
            refine (pPins E _ _ _ A1 p d most N cont pins e.page hS1 hm hO).mono ?_; rw [← HEP.out]; rintro x w4 ⟨rfl, rfl⟩
            go_wp2_with fail
            refine ⟨hO.as _, ?_⟩
            (refine sch_look (o := ?_) (v := ?_) ?_ ?_ ?_ ?_; rotate_left 2; (· ((conv => lhs; whnf); try exact rfl)); (· rfl); (· intro w' hO'; (have hF' := Own.cells hO'; simp only [cellsOf_append, cellsOf_pt] at hF'); go_simp; (try exact rfl)); simp only [Act.put, List.setIfInBounds_toArray, List.set_cons_zero, List.set_cons_succ])
            refine sch_done ?_
            ((try simp only [List.nil_append, List.append_nil] at hO); have hF := Own.cells hO; simp only [cellsOf_append, cellsOf_pt] at hF))
            go_wp2_with fail
            go_roundw
            case rel =>
              refine ⟨j + 1, by go_num, by have := HLT.out; omega, ?_⟩
              rw [entsF_app, entsF_cons]
              unfold entF
              exact hO.as _
            case measure => simp [intOf]; have := HLT.out; omega
          · have hpp : 0 < pins e.page := by omega
            have hze : ((e.pins : Int) == 0) = false := by simp; omega
            have hpin := HIN.out e.page hpp
            clear hep
            ((try simp only [List.nil_append, List.append_nil] at hO); have hF := Own.cells hO; simp only [cellsOf_append, cellsOf_pt] at hF)
            go_wp2_with fail
            refine (pRead_yes E _ _ _ A1 p d most N cont pins e.page hS1 hm hpp hO).mono ?_; rw [← HEB.out]; rintro x w2 ⟨rfl, rfl⟩
            go_wp2_with fail
            clear hF hpp
            (
            refine region_sch (fun w' => Own E w' (pt g (.cells #[.int .i64 most, .slice (some ⟨s1, 0, none⟩) ln c1, .slice (some ⟨s2, 0, none⟩) ln c2, .slice (some ⟨s3, 0, none⟩) ln c3] 81 (0, 0)) ++ (pt s1 (.cells row1 3 (0, 0)) ++ pt s3 (.cells row3 3 (0, 0))))) (.look 0 (.look 1 (.look 2 (.look 3 (.look 4 (.look 5 (.look 6 (.look 7 (.look 9 (.look 10 (.look 11 (.look 12 (.look 13 (.look 14 (.look 15 (.act 8 (.look 16 .done))))))))))))))))) (by kernel_rfl) (by kernel_rfl) (fun _ _ d _ _ h => by cases d <;> exact h) ?_ ?_
            · exact hO.drew.as _
            replace hO := hO.drew
            generalize World.drew _ = w3 at hO ⊢
            (refine sch_look (o := ?_) (v := ?_) ?_ ?_ ?_ ?_; rotate_left 2; (· ((conv => lhs; whnf); try exact rfl)); (· rfl); (· intro w' hO'; (have hF' := Own.cells hO'; simp only [cellsOf_append, cellsOf_pt] at hF'); go_simp; (try exact rfl)); simp only [Act.put, List.setIfInBounds_toArray, List.set_cons_zero, List.set_cons_succ])
            (refine sch_look (o := ?_) (v := ?_) ?_ ?_ ?_ ?_; rotate_left 2; (· ((conv => lhs; whnf); try exact rfl)); (· rfl); (· intro w' hO'; (have hF' := Own.cells hO'; simp only [cellsOf_append, cellsOf_pt] at hF'); go_simp; (try exact rfl)); simp only [Act.put, List.setIfInBounds_toArray, List.set_cons_zero, List.set_cons_succ])
            (refine sch_look (o := ?_) (v := ?_) ?_ ?_ ?_ ?_; rotate_left 2; (· ((conv => lhs; whnf); try exact rfl)); (· rfl); (· intro w' hO'; (have hF' := Own.cells hO'; simp only [cellsOf_append, cellsOf_pt] at hF'); go_simp; (try exact rfl)); simp only [Act.put, List.setIfInBounds_toArray, List.set_cons_zero, List.set_cons_succ])
            (refine sch_look (o := ?_) (v := ?_) ?_ ?_ ?_ ?_; rotate_left 2; (· ((conv => lhs; whnf); try exact rfl)); (· rfl); (· intro w' hO'; (have hF' := Own.cells hO'; simp only [cellsOf_append, cellsOf_pt] at hF'); go_simp; (try exact rfl)); simp only [Act.put, List.setIfInBounds_toArray, List.set_cons_zero, List.set_cons_succ])
            (refine sch_look (o := ?_) (v := ?_) ?_ ?_ ?_ ?_; rotate_left 2; (· ((conv => lhs; whnf); try exact rfl)); (· rfl); (· intro w' hO'; (have hF' := Own.cells hO'; simp only [cellsOf_append, cellsOf_pt] at hF'); go_simp; (try exact rfl)); simp only [Act.put, List.setIfInBounds_toArray, List.set_cons_zero, List.set_cons_succ])
            (refine sch_look (o := ?_) (v := ?_) ?_ ?_ ?_ ?_; rotate_left 2; (· ((conv => lhs; whnf); try exact rfl)); (· rfl); (· intro w' hO'; (have hF' := Own.cells hO'; simp only [cellsOf_append, cellsOf_pt] at hF'); go_simp; (try exact rfl)); simp only [Act.put, List.setIfInBounds_toArray, List.set_cons_zero, List.set_cons_succ])
            (refine sch_look (o := ?_) (v := ?_) ?_ ?_ ?_ ?_; rotate_left 2; (· ((conv => lhs; whnf); try exact rfl)); (· rfl); (· intro w' hO'; (have hF' := Own.cells hO'; simp only [cellsOf_append, cellsOf_pt] at hF'); go_simp; (try exact rfl)); simp only [Act.put, List.setIfInBounds_toArray, List.set_cons_zero, List.set_cons_succ])
            (refine sch_look (o := ?_) (v := ?_) ?_ ?_ ?_ ?_; rotate_left 2; (· ((conv => lhs; whnf); try exact rfl)); (· rfl); (· intro w' hO'; (have hF' := Own.cells hO'; simp only [cellsOf_append, cellsOf_pt] at hF'); go_simp; (try exact rfl)); simp only [Act.put, List.setIfInBounds_toArray, List.set_cons_zero, List.set_cons_succ])
            (refine sch_look (o := ?_) (v := ?_) ?_ ?_ ?_ ?_; rotate_left 2; (· ((conv => lhs; whnf); try exact rfl)); (· rfl); (· intro w' hO'; (have hF' := Own.cells hO'; simp only [cellsOf_append, cellsOf_pt] at hF'); go_simp; (try exact rfl)); simp only [Act.put, List.setIfInBounds_toArray, List.set_cons_zero, List.set_cons_succ])
            (refine sch_look (o := ?_) (v := ?_) ?_ ?_ ?_ ?_; rotate_left 2; (· ((conv => lhs; whnf); try exact rfl)); (· rfl); (· intro w' hO'; (have hF' := Own.cells hO'; simp only [cellsOf_append, cellsOf_pt] at hF'); go_simp; (try exact rfl)); simp only [Act.put, List.setIfInBounds_toArray, List.set_cons_zero, List.set_cons_succ])
            (refine sch_look (o := ?_) (v := ?_) ?_ ?_ ?_ ?_; rotate_left 2; (· ((conv => lhs; whnf); try exact rfl)); (· rfl); (· intro w' hO'; (have hF' := Own.cells hO'; simp only [cellsOf_append, cellsOf_pt] at hF'); go_simp; (try exact rfl)); simp only [Act.put, List.setIfInBounds_toArray, List.set_cons_zero, List.set_cons_succ])
            (refine sch_look (o := ?_) (v := ?_) ?_ ?_ ?_ ?_; rotate_left 2; (· ((conv => lhs; whnf); try exact rfl)); (· rfl); (· intro w' hO'; (have hF' := Own.cells hO'; simp only [cellsOf_append, cellsOf_pt] at hF'); go_simp; (try exact rfl)); simp only [Act.put, List.setIfInBounds_toArray, List.set_cons_zero, List.set_cons_succ])
            (refine sch_look (o := ?_) (v := ?_) ?_ ?_ ?_ ?_; rotate_left 2; (· ((conv => lhs; whnf); try exact rfl)); (· rfl); (· intro w' hO'; (have hF' := Own.cells hO'; simp only [cellsOf_append, cellsOf_pt] at hF'); go_simp; (try exact rfl)); simp only [Act.put, List.setIfInBounds_toArray, List.set_cons_zero, List.set_cons_succ])
            (refine sch_look (o := ?_) (v := ?_) ?_ ?_ ?_ ?_; rotate_left 2; (· ((conv => lhs; whnf); try exact rfl)); (· rfl); (· intro w' hO'; (have hF' := Own.cells hO'; simp only [cellsOf_append, cellsOf_pt] at hF'); go_simp; (try exact rfl)); simp only [Act.put, List.setIfInBounds_toArray, List.set_cons_zero, List.set_cons_succ])
            (refine sch_look (o := ?_) (v := ?_) ?_ ?_ ?_ ?_; rotate_left 2; (· ((conv => lhs; whnf); try exact rfl)); (· rfl); (· intro w' hO'; (have hF' := Own.cells hO'; simp only [cellsOf_append, cellsOf_pt] at hF'); go_simp; (try exact rfl)); simp only [Act.put, List.setIfInBounds_toArray, List.set_cons_zero, List.set_cons_succ])
            (refine sch_act (o := ?_) ?_ ?_; rotate_left; (· ((conv => lhs; whnf); try exact rfl)))
            go_wp2_with fail
            refine (pPins E _ _ _ A1 p d most N cont pins e.page hS1 hm hO).mono ?_; rw [← HEP.out]; rintro x w4 ⟨rfl, rfl⟩
            go_wp2_with fail
            refine ⟨hO.as _, ?_⟩
            (refine sch_look (o := ?_) (v := ?_) ?_ ?_ ?_ ?_; rotate_left 2; (· ((conv => lhs; whnf); try exact rfl)); (· rfl); (· intro w' hO'; (have hF' := Own.cells hO'; simp only [cellsOf_append, cellsOf_pt] at hF'); go_simp; (try exact rfl)); simp only [Act.put, List.setIfInBounds_toArray, List.set_cons_zero, List.set_cons_succ])
            refine sch_done ?_
            ((try simp only [List.nil_append, List.append_nil] at hO); have hF := Own.cells hO; simp only [cellsOf_append, cellsOf_pt] at hF))
            go_wp2_with fail
            have HPIN := Lib.hid hpin
            have hO5 := hO
            clear hF hO hpin
            go_loopw [10, 11] (fun b i wr => ∃ k : Nat, i = .int .i64 k ∧ b = .bool ((hs.take k).contains (e.page : Int)) ∧ k ≤ hs.length ∧ Own E wr (A1 ++ (pt g (.cells #[.int .i64 most, .slice (some ⟨s1, 0, none⟩) ln c1, .slice (some ⟨s2, 0, none⟩) ln c2, .slice (some ⟨s3, 0, none⟩) ln c3] 81 (0, 0)) ++ (pt s1 (.cells row1 3 (0, 0)) ++ (pt s2 (.cells row2 25 (0, 0)) ++ (pt s3 (.cells row3 3 (0, 0)) ++ (entsF pre ++ (pt e.bb (.cells (bytesV e.bytes).toArray 5 (0, 0)) ++ (entsF post ++ (H ++ R)))))))))) (fun _ i _ => hs.length - (intOf i).toNat)
            case atStart => exact ⟨0, rfl, by simp, by omega, hO5.as _⟩
            case round =>
              clear hO5
              obtain ⟨k, rfl, rfl, hk, hO⟩ := hrel
              by_cases hkl : k < hs.length
              · have hk1 : (k : Int) < hs.length := by omega
                have hk0 : (0 : Int) ≤ k := by omega
                obtain ⟨hb, rfl⟩ := sl_some4 hH (by omega)
                have hsn : (hs.take (k + 1)).contains (e.page : Int) = ((hs.take k).contains (e.page : Int) || hs[k] == (e.page : Int)) := by
                  rw [List.take_succ_eq_append_getElem hkl, List.contains_eq_any_beq, List.contains_eq_any_beq, List.any_append, List.any_cons, List.any_nil, Bool.or_false]
                  congr 1
                  exact Bool.beq_comm
                obtain ⟨rh, rfl⟩ := sl_open hH
                have hgk : (hs.map (Value.int .i64) ++ rh).toArray[k]? = some (.int .i64 hs[k]) := by
                  rw [List.getElem?_toArray, List.getElem?_append_left (by rw [List.length_map]; exact hkl), List.getElem?_map, List.getElem?_eq_getElem hkl]; rfl
                generalize hgr : (hs.map (Value.int .i64) ++ rh).toArray = rowh at hgk hO
                generalize (hs.take k).contains (e.page : Int) = bb at hsn ⊢
                generalize hs[k] = y at hsn hgk
                have HSN := Lib.hid hsn
                clear hsn
                cases bb
                case true =>
                  go_wp2_with fail
                  refine region_sch (fun w' => Own E w' (pt g (.cells #[.int .i64 most, .slice (some ⟨s1, 0, none⟩) ln c1, .slice (some ⟨s2, 0, none⟩) ln c2, .slice (some ⟨s3, 0, none⟩) ln c3] 81 (0, 0)) ++ (pt s1 (.cells row1 3 (0, 0)) ++ pt hb (.cells rowh 3 (0, 0))))) (.look 0 (.look 1 (.look 2 (.look 3 (.look 4 (.look 5 (.look 6 (.look 7 (.look 8 (.look 9 (.look 10 (.look 11 (.look 12 (.look 13 (.look 14 (.look 15 .done)))))))))))))))) (by kernel_rfl) (by kernel_rfl) (fun _ _ d _ _ h => by cases d <;> exact h) ?_ ?_
                  · exact hO.drew.as _
                  replace hO := hO.drew
                  generalize World.drew _ = w5 at hO ⊢
                  (refine sch_look (o := ?_) (v := ?_) ?_ ?_ ?_ ?_; rotate_left 2; (· ((conv => lhs; whnf); try exact rfl)); (· rfl); (· intro w' hO'; (have hF' := Own.cells hO'; simp only [cellsOf_append, cellsOf_pt] at hF'); go_simp; (try exact rfl)); simp only [Act.put, List.setIfInBounds_toArray, List.set_cons_zero, List.set_cons_succ])
                  (refine sch_look (o := ?_) (v := ?_) ?_ ?_ ?_ ?_; rotate_left 2; (· ((conv => lhs; whnf); try exact rfl)); (· rfl); (· intro w' hO'; (have hF' := Own.cells hO'; simp only [cellsOf_append, cellsOf_pt] at hF'); go_simp; (try exact rfl)); simp only [Act.put, List.setIfInBounds_toArray, List.set_cons_zero, List.set_cons_succ])
                  (refine sch_pass (o := ?_) ?_ ?_ ?_; rotate_left; (· ((conv => lhs; whnf); try exact rfl)); (· rfl); simp only [Act.put, List.setIfInBounds_toArray, List.set_cons_zero, List.set_cons_succ])
                  (refine sch_pass (o := ?_) ?_ ?_ ?_; rotate_left; (· ((conv => lhs; whnf); try exact rfl)); (· rfl); simp only [Act.put, List.setIfInBounds_toArray, List.set_cons_zero, List.set_cons_succ])
                  (refine sch_pass (o := ?_) ?_ ?_ ?_; rotate_left; (· ((conv => lhs; whnf); try exact rfl)); (· rfl); simp only [Act.put, List.setIfInBounds_toArray, List.set_cons_zero, List.set_cons_succ])
                  (refine sch_pass (o := ?_) ?_ ?_ ?_; rotate_left; (· ((conv => lhs; whnf); try exact rfl)); (· rfl); simp only [Act.put, List.setIfInBounds_toArray, List.set_cons_zero, List.set_cons_succ])
                  (refine sch_pass (o := ?_) ?_ ?_ ?_; rotate_left; (· ((conv => lhs; whnf); try exact rfl)); (· rfl); simp only [Act.put, List.setIfInBounds_toArray, List.set_cons_zero, List.set_cons_succ])
                  (refine sch_pass (o := ?_) ?_ ?_ ?_; rotate_left; (· ((conv => lhs; whnf); try exact rfl)); (· rfl); simp only [Act.put, List.setIfInBounds_toArray, List.set_cons_zero, List.set_cons_succ])
                  (refine sch_pass (o := ?_) ?_ ?_ ?_; rotate_left; (· ((conv => lhs; whnf); try exact rfl)); (· rfl); simp only [Act.put, List.setIfInBounds_toArray, List.set_cons_zero, List.set_cons_succ])
                  (refine sch_pass (o := ?_) ?_ ?_ ?_; rotate_left; (· ((conv => lhs; whnf); try exact rfl)); (· rfl); simp only [Act.put, List.setIfInBounds_toArray, List.set_cons_zero, List.set_cons_succ])
                  (refine sch_pass (o := ?_) ?_ ?_ ?_; rotate_left; (· ((conv => lhs; whnf); try exact rfl)); (· rfl); simp only [Act.put, List.setIfInBounds_toArray, List.set_cons_zero, List.set_cons_succ])
                  (refine sch_pass (o := ?_) ?_ ?_ ?_; rotate_left; (· ((conv => lhs; whnf); try exact rfl)); (· rfl); simp only [Act.put, List.setIfInBounds_toArray, List.set_cons_zero, List.set_cons_succ])
                  (refine sch_pass (o := ?_) ?_ ?_ ?_; rotate_left; (· ((conv => lhs; whnf); try exact rfl)); (· rfl); simp only [Act.put, List.setIfInBounds_toArray, List.set_cons_zero, List.set_cons_succ])
                  (refine sch_pass (o := ?_) ?_ ?_ ?_; rotate_left; (· ((conv => lhs; whnf); try exact rfl)); (· rfl); simp only [Act.put, List.setIfInBounds_toArray, List.set_cons_zero, List.set_cons_succ])
                  (refine sch_look (o := ?_) (v := ?_) ?_ ?_ ?_ ?_; rotate_left 2; (· ((conv => lhs; whnf); try exact rfl)); (· rfl); (· intro w' hO'; (have hF' := Own.cells hO'; simp only [cellsOf_append, cellsOf_pt] at hF'); go_simp; (try exact rfl)); simp only [Act.put, List.setIfInBounds_toArray, List.set_cons_zero, List.set_cons_succ])
                  (refine sch_look (o := ?_) (v := ?_) ?_ ?_ ?_ ?_; rotate_left 2; (· ((conv => lhs; whnf); try exact rfl)); (· rfl); (· intro w' hO'; (have hF' := Own.cells hO'; simp only [cellsOf_append, cellsOf_pt] at hF'); go_simp; (try exact rfl)); simp only [Act.put, List.setIfInBounds_toArray, List.set_cons_zero, List.set_cons_succ])
                  refine sch_done ?_
                  go_wp2_with fail
                  go_roundw
                  case rel =>
                    refine ⟨k + 1, by go_num, ?_, by omega, ?_⟩
                    · rw [HSN.out]
                      simp
                    · exact hO
                  case measure => simp [intOf]; omega
                case false =>
                  go_wp2_with fail
                  refine region_sch (fun w' => Own E w' (pt g (.cells #[.int .i64 most, .slice (some ⟨s1, 0, none⟩) ln c1, .slice (some ⟨s2, 0, none⟩) ln c2, .slice (some ⟨s3, 0, none⟩) ln c3] 81 (0, 0)) ++ (pt s1 (.cells row1 3 (0, 0)) ++ pt hb (.cells rowh 3 (0, 0))))) (.look 0 (.look 1 (.look 2 (.look 3 (.look 4 (.look 5 (.look 6 (.look 7 (.look 8 (.look 9 (.look 10 (.look 11 (.look 12 (.look 13 (.look 14 (.look 15 .done)))))))))))))))) (by kernel_rfl) (by kernel_rfl) (fun _ _ d _ _ h => by cases d <;> exact h) ?_ ?_
                  · exact hO.drew.as _
                  replace hO := hO.drew
                  generalize World.drew _ = w5 at hO ⊢
                  (refine sch_look (o := ?_) (v := ?_) ?_ ?_ ?_ ?_; rotate_left 2; (· ((conv => lhs; whnf); try exact rfl)); (· rfl); (· intro w' hO'; (have hF' := Own.cells hO'; simp only [cellsOf_append, cellsOf_pt] at hF'); go_simp; (try exact rfl)); simp only [Act.put, List.setIfInBounds_toArray, List.set_cons_zero, List.set_cons_succ])
                  (refine sch_look (o := ?_) (v := ?_) ?_ ?_ ?_ ?_; rotate_left 2; (· ((conv => lhs; whnf); try exact rfl)); (· rfl); (· intro w' hO'; (have hF' := Own.cells hO'; simp only [cellsOf_append, cellsOf_pt] at hF'); go_simp; (try exact rfl)); simp only [Act.put, List.setIfInBounds_toArray, List.set_cons_zero, List.set_cons_succ])
                  (refine sch_look (o := ?_) (v := ?_) ?_ ?_ ?_ ?_; rotate_left 2; (· ((conv => lhs; whnf); try exact rfl)); (· rfl); (· intro w' hO'; (have hF' := Own.cells hO'; simp only [cellsOf_append, cellsOf_pt] at hF'); go_simp; (try exact rfl)); simp only [Act.put, List.setIfInBounds_toArray, List.set_cons_zero, List.set_cons_succ])
                  (refine sch_look (o := ?_) (v := ?_) ?_ ?_ ?_ ?_; rotate_left 2; (· ((conv => lhs; whnf); try exact rfl)); (· rfl); (· intro w' hO'; (have hF' := Own.cells hO'; simp only [cellsOf_append, cellsOf_pt] at hF'); go_simp; (try exact rfl)); simp only [Act.put, List.setIfInBounds_toArray, List.set_cons_zero, List.set_cons_succ])
                  (refine sch_look (o := ?_) (v := ?_) ?_ ?_ ?_ ?_; rotate_left 2; (· ((conv => lhs; whnf); try exact rfl)); (· rfl); (· intro w' hO'; (have hF' := Own.cells hO'; simp only [cellsOf_append, cellsOf_pt] at hF'); go_simp; (try exact rfl)); simp only [Act.put, List.setIfInBounds_toArray, List.set_cons_zero, List.set_cons_succ])
                  (refine sch_look (o := ?_) (v := ?_) ?_ ?_ ?_ ?_; rotate_left 2; (· ((conv => lhs; whnf); try exact rfl)); (· rfl); (· intro w' hO'; (have hF' := Own.cells hO'; simp only [cellsOf_append, cellsOf_pt] at hF'); go_simp; (try exact rfl)); simp only [Act.put, List.setIfInBounds_toArray, List.set_cons_zero, List.set_cons_succ])
                  (refine sch_look (o := ?_) (v := ?_) ?_ ?_ ?_ ?_; rotate_left 2; (· ((conv => lhs; whnf); try exact rfl)); (· rfl); (· intro w' hO'; (have hF' := Own.cells hO'; simp only [cellsOf_append, cellsOf_pt] at hF'); go_simp; (try exact rfl)); simp only [Act.put, List.setIfInBounds_toArray, List.set_cons_zero, List.set_cons_succ])
                  (refine sch_look (o := ?_) (v := ?_) ?_ ?_ ?_ ?_; rotate_left 2; (· ((conv => lhs; whnf); try exact rfl)); (· rfl); (· intro w' hO'; (have hF' := Own.cells hO'; simp only [cellsOf_append, cellsOf_pt] at hF'); go_simp; (try exact rfl)); simp only [Act.put, List.setIfInBounds_toArray, List.set_cons_zero, List.set_cons_succ])
                  (refine sch_look (o := ?_) (v := ?_) ?_ ?_ ?_ ?_; rotate_left 2; (· ((conv => lhs; whnf); try exact rfl)); (· rfl); (· intro w' hO'; (have hF' := Own.cells hO'; simp only [cellsOf_append, cellsOf_pt] at hF'); go_simp; (try exact rfl)); simp only [Act.put, List.setIfInBounds_toArray, List.set_cons_zero, List.set_cons_succ])
                  (refine sch_look (o := ?_) (v := ?_) ?_ ?_ ?_ ?_; rotate_left 2; (· ((conv => lhs; whnf); try exact rfl)); (· rfl); (· intro w' hO'; (have hF' := Own.cells hO'; simp only [cellsOf_append, cellsOf_pt] at hF'); go_simp; (try exact rfl)); simp only [Act.put, List.setIfInBounds_toArray, List.set_cons_zero, List.set_cons_succ])
                  (refine sch_look (o := ?_) (v := ?_) ?_ ?_ ?_ ?_; rotate_left 2; (· ((conv => lhs; whnf); try exact rfl)); (· rfl); (· intro w' hO'; (have hF' := Own.cells hO'; simp only [cellsOf_append, cellsOf_pt] at hF'); go_simp; (try exact rfl)); simp only [Act.put, List.setIfInBounds_toArray, List.set_cons_zero, List.set_cons_succ])
                  (refine sch_look (o := ?_) (v := ?_) ?_ ?_ ?_ ?_; rotate_left 2; (· ((conv => lhs; whnf); try exact rfl)); (· rfl); (· intro w' hO'; (have hF' := Own.cells hO'; simp only [cellsOf_append, cellsOf_pt] at hF'); go_simp; (try exact rfl)); simp only [Act.put, List.setIfInBounds_toArray, List.set_cons_zero, List.set_cons_succ])
                  (refine sch_look (o := ?_) (v := ?_) ?_ ?_ ?_ ?_; rotate_left 2; (· ((conv => lhs; whnf); try exact rfl)); (· rfl); (· intro w' hO'; (have hF' := Own.cells hO'; simp only [cellsOf_append, cellsOf_pt] at hF'); go_simp; (try exact rfl)); simp only [Act.put, List.setIfInBounds_toArray, List.set_cons_zero, List.set_cons_succ])
                  (refine sch_look (o := ?_) (v := ?_) ?_ ?_ ?_ ?_; rotate_left 2; (· ((conv => lhs; whnf); try exact rfl)); (· rfl); (· intro w' hO'; (have hF' := Own.cells hO'; simp only [cellsOf_append, cellsOf_pt] at hF'); go_simp; (try exact rfl)); simp only [Act.put, List.setIfInBounds_toArray, List.set_cons_zero, List.set_cons_succ])
                  (refine sch_look (o := ?_) (v := ?_) ?_ ?_ ?_ ?_; rotate_left 2; (· ((conv => lhs; whnf); try exact rfl)); (· rfl); (· intro w' hO'; (have hF' := Own.cells hO'; simp only [cellsOf_append, cellsOf_pt] at hF'); go_simp; (try exact rfl)); simp only [Act.put, List.setIfInBounds_toArray, List.set_cons_zero, List.set_cons_succ])
                  (refine sch_look (o := ?_) (v := ?_) ?_ ?_ ?_ ?_; rotate_left 2; (· ((conv => lhs; whnf); try exact rfl)); (· rfl); (· intro w' hO'; (have hF' := Own.cells hO'; simp only [cellsOf_append, cellsOf_pt] at hF'); go_simp; (try exact rfl)); simp only [Act.put, List.setIfInBounds_toArray, List.set_cons_zero, List.set_cons_succ])
                  refine sch_done ?_
                  go_wp2_with fail
                  go_roundw
                  case rel =>
                    refine ⟨k + 1, by go_num, ?_, by omega, ?_⟩
                    · rw [HSN.out]
                      simp
                    · exact hO
                  case measure => simp [intOf]; omega
              · have hk1 : ¬ (k : Int) < hs.length := by omega
                have hct : (hs.take k).contains (e.page : Int) = true := by rw [List.take_of_length_le (by omega)]; simpa using HPIN.out
                rw [hct]
                clear hct
                ((try simp only [List.nil_append, List.append_nil] at hO); have hF := Own.cells hO; simp only [cellsOf_append, cellsOf_pt] at hF)
                go_wp2_with (first | (refine at_conv ?_; go_must (refine own_bytes_str (e := 5) (ad := some ⟨e.bb, 0, none⟩) (n := 512) (cap := 512) (l := e.bytes) (by kernel_rfl) (by kernel_rfl) (by kernel_rfl) ?_ ?_ ?_ ?_ ?_ ?_; (· rfl); (· rfl); (· exact hbl); (· intro b hb j v hj; cases hb; rw [add_lit, hO.cell (b := e.bb)]; simpa using hj); (· intro h; cases h); simp only [Act.put, List.setIfInBounds_toArray, List.set_cons_zero, List.set_cons_succ])))
                go_roundw
                case rel =>
                  refine ⟨j + 1, by go_num, by have := HLT.out; omega, ?_⟩
                  rw [entsF_app, entsF_cons]
                  unfold entF
                  exact hO.as _
                case measure => simp [intOf]; have := HLT.out; omega)
        · have hj1 : ¬ (j : Int) < es.length := by omega
          ((try simp only [List.nil_append, List.append_nil] at hO); have hF := Own.cells hO; simp only [cellsOf_append, cellsOf_pt] at hF)
          go_wp2_with fail
          go_ret
          exact ⟨rfl, A1, hS1, hO.as _⟩
end Go.Proofs.Ytkkeplobomncgaa
