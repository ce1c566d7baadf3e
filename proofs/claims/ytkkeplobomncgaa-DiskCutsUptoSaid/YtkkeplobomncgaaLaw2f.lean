/- vestibulelaw02: DiskCuts. -/
import Derived.Test.YtkkeplobomncgaaLaw2d
import Derived.Deep.Slices
set_option linter.all false
namespace Go.Proofs.Ytkkeplobomncgaa
open Go Go.RowKit Go.Own Go.Dk

theorem _root_.Go.Own.Sl.row {E w : World} {X R A : Fr} {e : TypeId} {sz : Nat} {a : Option Addr} {n cap : Nat} {xs : List Value} (h : Sl e sz a n cap xs A) (hO : Own E w X) [hp : Pick X A R] (i : Nat) (hi : i < n) :
    ∃ ad, a = some ad ∧ ∀ j v, ((xs.drop (i * sz)).take sz)[j]? = some v → w.cell? ((ad.add (i * sz)).add j) = some v := by
  have h1 := hO.perm hp.perm
  rcases h.2.2.2 with ⟨_, hc, _⟩ | ⟨b, rest, hb, _, _⟩
  · have := h.le; omega
  · refine ⟨_, hb, fun j v hj => ?_⟩
    rw [Go.Deep.add_add]
    have hjs : j < sz := by
      by_cases hh : j < sz
      · exact hh
      · rw [List.getElem?_eq_none (by simp; omega)] at hj; cases hj
    rw [List.getElem?_take_of_lt hjs, List.getElem?_drop] at hj
    obtain ⟨hlt, hv⟩ := List.getElem?_eq_some_iff.1 hj
    rw [h.cell h1 _ hb (i * sz + j) hlt, hv]

theorem _root_.Go.Own.Sl.rowAt {E w : World} {X R A : Fr} {e : TypeId} {sz : Nat} {ad : Addr} {n cap : Nat} {xs l : List Value} (h : Sl e sz (some ad) n cap xs A) (hO : Own E w X) [hp : Pick X A R] (i : Nat) (hi : i < n) (hl : (xs.drop (i * sz)).take sz = l) :
    ∀ j v, l[j]? = some v → w.cell? ((ad.add (i * sz)).add j) = some v := by
  obtain ⟨ad', h1, h2⟩ := h.row hO i hi
  cases h1
  subst hl
  exact h2
theorem _root_.Go.Own.own_loadA {P : Program} {ops : Array Oper} {Q : Exit → Act → World → Prop} {rest : List Oper} {a : Act} {w : World} {d : Option Tmp} {ty : TypeId} {pos : String} {aft : Array Edge} {g : Option (Nat × Bool)} {t : TypeId} {x : Operand} {ad : Addr} {cs : Array Value}
    (hw : Region.wanted ⟨d, .load t x, ty, pos, aft, g⟩ (yielded ops a.tmps) = true) (hc : ∀ j v, cs.toList[j]? = some v → w.cell? (ad.add j) = some v)
    (hx : a.eval x = .pointer (some ad)) (ht : (isAgg t).run P w = .ok true w) (hs : (sizeOf t).run P w = .ok cs.size w)
    (next : wpList P ops Q rest (a.put d (.agg cs)) w) : wpList P ops Q (⟨d, .load t x, ty, pos, aft, g⟩ :: rest) a w :=
  own_loadC (cs := cs.toList) hw hc hx ht (by simpa using hs) (by simpa using next)

/-- What the disk held after each of its raw writes. -/
def AllAt (rs : List Raw) (xs : List Value) (I : Fr) : Prop :=
  ∀ i, i ≤ rs.length → ∃ cs : Array Value, cs.size = 5 ∧ (xs.drop (i * 5)).take 5 = cs.toList ∧ RefAt (.agg cs) (rs.take i) I

theorem AllAt.nil (I : Fr) : AllAt [] (rcells (fun _ => .slice none 0 0) (.int .i64 0)).toList I := by
  intro i hi
  have : i = 0 := by simpa using hi
  subst this
  exact ⟨rcells (fun _ => .slice none 0 0) (.int .i64 0), rfl, rfl, RefAt.nil I⟩

theorem AllAt.mono {rs : List Raw} {xs : List Value} {I J : Fr} (h : AllAt rs xs I) (hs : ∀ x ∈ I, x ∈ J) : AllAt rs xs J := by
  intro i hi
  obtain ⟨cs, h1, h2, h3⟩ := h i hi
  exact ⟨cs, h1, h2, h3.mono hs⟩

theorem AllAt.snoc {rs : List Raw} {r : Raw} {xs : List Value} {I : Fr} {cs : Array Value} (h : AllAt rs xs I) (hl : xs.length = (rs.length + 1) * 5) (hc : cs.size = 5) (hq : RefAt (.agg cs) (rs ++ [r]) I) : AllAt (rs ++ [r]) (xs ++ cs.toList) I := by
  intro i hi
  by_cases hh : i ≤ rs.length
  · obtain ⟨ds, h1, h2, h3⟩ := h i hh
    refine ⟨ds, h1, ?_, ?_⟩
    · rw [List.drop_append_of_le_length (by omega), List.take_append_of_le_length (by rw [List.length_drop]; omega), h2]
    · rw [List.take_append_of_le_length hh]; exact h3
  · have : i = rs.length + 1 := by simp at hi; omega
    subst this
    refine ⟨cs, hc, ?_, ?_⟩
    · rw [← hl, List.drop_append, List.drop_length, List.nil_append, Nat.sub_self, List.drop_zero, List.take_of_length_le (by simp [hc])]
    · rw [List.take_of_length_le (by simp)]; exact hq

theorem st_cases (rs : List Raw) (k f a : Int) (t : ByteArray) : (st rs k f a t).1 = rs ∨ ∃ r, (st rs k f a t).1 = rs ++ [r] := by
  unfold st tr wr
  repeat' split
  all_goals simp

theorem wr_len (rs : List Raw) (f a : Int) (t : ByteArray) : (wr rs f a t).1.length ≤ rs.length + 1 := by
  unfold wr
  split <;> simp
theorem RP_get {E w' : World} {rs : List Raw} {n : Int} {I R : Fr} {e : Ending} (h : RP E rs n I R e w') :
    ∃ fa fc I', e = .returned (.tuple #[.agg (rcells (fileVs fa (play rs) fc) (.int .i64 rs.length)), .int .i64 n]) ∧ (∀ j, j < 4 → Rd (fa j) (play rs j) (fc j) (I' ++ I)) ∧ Own E w' (I' ++ (I ++ R)) := by
  obtain ⟨q', I', rfl, ⟨fa, fc, rfl, hr⟩, hO⟩ := h
  exact ⟨fa, fc, I', rfl, hr, hO⟩

theorem sltRefs : SlT Try.prog 41 28 5 104 (.agg (rcells (fun _ => .slice none 0 0) (.int .i64 0))) := ⟨by kernel_rfl, by kernel_rfl, rfl⟩

set_option maxRecDepth 100000 in
set_option maxHeartbeats 4000000 in
theorem diskCuts (E w : World) (hO : Own E w (oldFr E)) (sa : Option Addr) (sc : Nat) (L : List OpT) (hL : OpsAt E sa L) (hn : L.length ≤ 1048576) (cut : Int) :
    Calls Try.prog 4 #[.slice sa L.length sc, .int .i64 cut] w fun e w' => e = .returned (.bool true) ∧ Own E w' (oldFr E) := by
  have hz := zeroRef
  have hn1 : (L.length : Int) ≤ 3518437208883 := by omega
  have HL := Lib.hid hL
  clear hL
  go_enter Try.func4, Try.ntmps4
  go_wp2_with (first | (refine at_bs ?_; go_must (refine own_build1 (v := ?_) sltRefs hO ?_ ?_ ?_ ?_ ?_ ?_; rotate_left; (· rfl); (· ((conv => lhs; whnf); try exact rfl)); (· rfl); (· decide); (· decide); clear hO; (try clear hF); intro b6 _ hO; (try simp only [Value.cells] at hO); ((try simp only [List.nil_append, List.append_nil] at hO); have hF := Own.cells hO; simp only [cellsOf_append, cellsOf_pt] at hF); simp only [Act.put, List.setIfInBounds_toArray, List.set_cons_zero, List.set_cons_succ])) | (refine at_alloc ?_; go_must (refine own_alloc (z := ?_) hO ?_ ?_ ?_; rotate_left; (· rfl); (· exact hz _); clear hO; (try clear hF); intro b7 _ hO; (try simp only [Value.cells] at hO); ((try simp only [List.nil_append, List.append_nil] at hO); have hF := Own.cells hO; simp only [cellsOf_append, cellsOf_pt] at hF); simp only [Act.put, List.setIfInBounds_toArray, List.set_cons_zero, List.set_cons_succ])) | (go_at_call 15; refine (dNew E _ _ hO).mono ?_; rintro e w1 ⟨d, A, rfl, hA, hO⟩) | (refine at_store ?_; refine own_storeS (b := ?_) (cs := ?_) (cs' := ?_) (e := ?_) (R := ?_) hO ?_ ?_ ?_ ?_ ?_ ?_ ?_ ?_; rotate_left 5; (· rfl); (· rfl); (· ((conv => lhs; whnf); try exact rfl)); (· exact inferInstance); (· simp [rcells]; done); (· refine rcells_one _ _ ?_ rfl; intro i; rfl); (· simp [rcells]; done); clear hO; (try clear hF); intro _ hO; ((try simp only [List.nil_append, List.append_nil] at hO); have hF := Own.cells hO; simp only [cellsOf_append, cellsOf_pt] at hF); simp only [Act.put, List.setIfInBounds_toArray, List.set_cons_zero, List.set_cons_succ]))
  have hO0 := hO
  clear hO hF
  go_loopw [6, 8] (fun s i wr => ∃ (j : Nat) (rs : List Raw) (fa : Nat → Option Addr) (fc : Nat → Nat) (A I : Fr) (xs : List Value) (sa' : Option Addr) (cp : Nat) (S : Fr), i = .int .i64 j ∧ s = .slice sa' (rs.length + 1) cp ∧ j ≤ L.length ∧ rs.length ≤ j ∧ DiskAt d rs A ∧ (∀ k, k < 4 → Rd (fa k) (play rs k) (fc k) I) ∧
      Sl 28 5 sa' (rs.length + 1) cp xs S ∧ Hid (AllAt rs xs I) ∧
      Own E wr (pt b7 (.cells (rcells (fileVs fa (play rs) fc) (.int .i64 rs.length)) 28) ++ (S ++ (A ++ (I ++ oldFr E))))) (fun _ i _ => L.length - (intOf i).toNat)
  case atStart =>
    refine ⟨0, [], fun _ => none, fun _ => 0, A, [], (rcells (fun _ => .slice none 0 0) (.int .i64 0)).toList, _, _, pt b6 (.cells (rcells (fun _ => .slice none 0 0) (.int .i64 0)) 28), rfl, rfl, by omega, by simp, hA, fun k _ => Rd.nil _, ?_, Lib.hid (AllAt.nil _), hO0⟩
    have := Sl.mk (e := 28) (sz := 5) (b := b6) (n := 1) (cap := 1) (xs := (rcells (fun _ => .slice none 0 0) (.int .i64 0)).toList) (rest := []) rfl (by omega) (by simp [maxLen]) rfl
    simpa using this
  case round =>
    clear hO0 hA
    obtain ⟨j, rs, fa, fc, A, I, xs, sa', cp, S, rfl, rfl, hj, hrs, hA, hr, hS, HAll, hO⟩ := hrel
    have HR := Lib.hid hr
    clear hr
    have hxl := hS.len
    by_cases hlt : j < L.length
    · have hj1 : (j : Int) < L.length := by omega
      have hj2 : (0 : Int) ≤ j := by omega
      obtain ⟨ad, rfl, hrow, hts⟩ := HL.out j hlt
      have HRow := Lib.hid hrow
      clear hrow
      by_cases hs : smallB (L[j]).a (L[j]).t = true
      · ((try simp only [List.nil_append, List.append_nil] at hO); have hF := Own.cells hO; simp only [cellsOf_append, cellsOf_pt] at hF)
        go_wp2_with (first | (refine at_load ?_; go_must (refine own_loadC (ad := ad.add (j * 4)) (cs := (L[j]).cells) ?_ (HRow.out.at hO) ?_ ?_ ?_ ?_; (· rfl); (· ((conv => lhs; whnf); try exact rfl)); (· simp; done); (· simp [OpT.cells]; done); simp only [Act.put, List.setIfInBounds_toArray, List.set_cons_zero, List.set_cons_succ])) | (go_at_call 16; go_must (refine (small2 E _ _ (L[j]).k (L[j]).f (L[j]).a (L[j]).t hO).mono ?_; rintro e w1 ⟨rfl, hO⟩; rw [hs]; ((try simp only [List.nil_append, List.append_nil] at hO); have hF := Own.cells hO; simp only [cellsOf_append, cellsOf_pt] at hF))))
        have hOl : Own E _ (pt b7 (.cells (rcells (fileVs fa (play rs) fc) (.int .i64 rs.length)) 28) ++ (oldFr E ++ (S ++ (A ++ I)))) := hO.as _
        clear hO hF
        have hO := hOl
        clear hOl
        refine region_sch (fun w' => Own E w' (pt b7 (.cells (rcells (fileVs fa (play rs) fc) (.int .i64 rs.length)) 28) ++ oldFr E)) (.look 0 (.look 1 (.look 2 (.look 3 (.look 4 (.look 5 (.two 6 (.look 7 (.look 8 (.look 9 (.act 10 (.act 11 (.look 12 .done)))))) 10 (.act 6 (.look 7 (.look 8 (.look 9 (.act 11 (.look 12 .done))))))))))))) (by kernel_rfl) (by kernel_rfl) (fun _ _ d _ _ h => by cases d <;> exact h) ?_ ?_
        · exact hO.drew.as _
        replace hO := hO.drew
        generalize World.drew _ = w2 at hO ⊢
        (refine sch_look (o := ?_) (v := ?_) ?_ ?_ ?_ ?_; rotate_left 2; (· ((conv => lhs; whnf); try exact rfl)); (· rfl); (· intro w' hO'; (have hF' := Own.cells hO'; simp only [cellsOf_append, cellsOf_pt] at hF'); go_simp; (try exact rfl)); simp only [Act.put, List.setIfInBounds_toArray, List.set_cons_zero, List.set_cons_succ])
        (refine sch_look (o := ?_) (v := .agg (rcells (fileVs fa (play rs) fc) (.int .i64 rs.length))) ?_ ?_ ?_ ?_; rotate_left; (· ((conv => lhs; whnf); try exact rfl)); (· rfl); (· intro w' hO'; exact run_opLoadS (b := b7) (cs := rcells (fileVs fa (play rs) fc) (.int .i64 rs.length)) (e := 28) (f := _) hO' rfl inferInstance (by simp) (by simp [rcells])); simp only [Act.put, List.setIfInBounds_toArray, List.set_cons_zero, List.set_cons_succ])
        (refine sch_look (o := ?_) (v := ?_) ?_ ?_ ?_ ?_; rotate_left 2; (· ((conv => lhs; whnf); try exact rfl)); (· rfl); (· intro w' hO'; (have hF' := Own.cells hO'; simp only [cellsOf_append, cellsOf_pt] at hF'); go_simp; (try exact rfl)); simp only [Act.put, List.setIfInBounds_toArray, List.set_cons_zero, List.set_cons_succ])
        (refine sch_look (o := ?_) (v := ?_) ?_ ?_ ?_ ?_; rotate_left 2; (· ((conv => lhs; whnf); try exact rfl)); (· rfl); (· intro w' hO'; (have hF' := Own.cells hO'; simp only [cellsOf_append, cellsOf_pt] at hF'); go_simp; (try exact rfl)); simp only [Act.put, List.setIfInBounds_toArray, List.set_cons_zero, List.set_cons_succ])
        (refine sch_look (o := ?_) (v := ?_) ?_ ?_ ?_ ?_; rotate_left 2; (· ((conv => lhs; whnf); try exact rfl)); (· rfl); (· intro w' hO'; (have hF' := Own.cells hO'; simp only [cellsOf_append, cellsOf_pt] at hF'); go_simp; (try exact rfl)); simp only [Act.put, List.setIfInBounds_toArray, List.set_cons_zero, List.set_cons_succ])
        (refine sch_look (o := ?_) (v := .agg (L[j]).cells.toArray) ?_ ?_ ?_ ?_; rotate_left; (· ((conv => lhs; whnf); try exact rfl)); (· rfl); (· intro w' hO'; exact run_opLoadC (ad := ad.add (j * 4)) (cs := (L[j]).cells) (HRow.out.at hO') rfl (by simp) (by simp [OpT.cells])); simp only [Act.put, List.setIfInBounds_toArray, List.set_cons_zero, List.set_cons_succ])
        refine sch_two (o := ?_) (o' := ?_) ?_ ?_ ?_ ?_
        rotate_left 2
        · ((conv => lhs; whnf); try exact rfl)
        · ((conv => lhs; whnf); try exact rfl)
        · go_wp2_with (go_at_call 18; go_must (refine (does2 E _ _ _ I A d rs rs _ (L[j]).k (L[j]).f (L[j]).a (L[j]).t hts hA ⟨fa, fc, rfl, HR.out⟩ (by omega) (by omega) hA.1 hO).mono ?_; intro e w1 hD; obtain ⟨fa1, fc1, I1, A1, rfl, hr1, hA1, hO⟩ := DP_same hD; clear hD; ((try simp only [List.nil_append, List.append_nil] at hO); have hF := Own.cells hO; simp only [cellsOf_append, cellsOf_pt] at hF); have HR1 := Lib.hid hr1; clear hr1))
          refine ⟨hO.as _, ?_⟩
          (refine sch_look (o := ?_) (v := ?_) ?_ ?_ ?_ ?_; rotate_left 2; (· ((conv => lhs; whnf); try exact rfl)); (· rfl); (· intro w' hO'; (have hF' := Own.cells hO'; simp only [cellsOf_append, cellsOf_pt] at hF'); go_simp; (try exact rfl)); simp only [Act.put, List.setIfInBounds_toArray, List.set_cons_zero, List.set_cons_succ])
          (refine sch_look (o := ?_) (v := ?_) ?_ ?_ ?_ ?_; rotate_left 2; (· ((conv => lhs; whnf); try exact rfl)); (· rfl); (· intro w' hO'; (have hF' := Own.cells hO'; simp only [cellsOf_append, cellsOf_pt] at hF'); go_simp; (try exact rfl)); simp only [Act.put, List.setIfInBounds_toArray, List.set_cons_zero, List.set_cons_succ])
          (refine sch_look (o := ?_) (v := ?_) ?_ ?_ ?_ ?_; rotate_left 2; (· ((conv => lhs; whnf); try exact rfl)); (· rfl); (· intro w' hO'; (have hF' := Own.cells hO'; simp only [cellsOf_append, cellsOf_pt] at hF'); go_simp; (try exact rfl)); simp only [Act.put, List.setIfInBounds_toArray, List.set_cons_zero, List.set_cons_succ])
          (refine sch_act (o := ?_) ?_ ?_; rotate_left; (· ((conv => lhs; whnf); try exact rfl)))
          go_wp2_with (refine at_alloc ?_; go_must (refine own_alloc (z := ?_) hO ?_ ?_ ?_; rotate_left; (· rfl); (· exact hz _); clear hO; (try clear hF); intro b9 _ hO; (try simp only [Value.cells] at hO); ((try simp only [List.nil_append, List.append_nil] at hO); have hF := Own.cells hO; simp only [cellsOf_append, cellsOf_pt] at hF); simp only [Act.put, List.setIfInBounds_toArray, List.set_cons_zero, List.set_cons_succ]))
          refine ⟨hO.as _, ?_⟩
          (refine sch_act (o := ?_) ?_ ?_; rotate_left; (· ((conv => lhs; whnf); try exact rfl)))
          go_wp2_with (refine at_store ?_; refine own_storeS (b := ?_) (cs := ?_) (cs' := ?_) (e := ?_) (R := ?_) hO ?_ ?_ ?_ ?_ ?_ ?_ ?_ ?_; rotate_left 5; (· rfl); (· rfl); (· ((conv => lhs; whnf); try exact rfl)); (· exact inferInstance); (· simp [rcells]; done); (· refine rcells_one _ _ ?_ rfl; intro i; rfl); (· simp [rcells]; done); clear hO; (try clear hF); intro _ hO; ((try simp only [List.nil_append, List.append_nil] at hO); have hF := Own.cells hO; simp only [cellsOf_append, cellsOf_pt] at hF); simp only [Act.put, List.setIfInBounds_toArray, List.set_cons_zero, List.set_cons_succ])
          refine ⟨hO.as _, ?_⟩
          (refine sch_look (o := ?_) (v := ?_) ?_ ?_ ?_ ?_; rotate_left 2; (· ((conv => lhs; whnf); try exact rfl)); (· rfl); (· intro w' hO'; (have hF' := Own.cells hO'; simp only [cellsOf_append, cellsOf_pt] at hF'); go_simp; (try exact rfl)); simp only [Act.put, List.setIfInBounds_toArray, List.set_cons_zero, List.set_cons_succ])
          refine sch_done ?_
          rcases st_cases rs (L[j]).k (L[j]).f (L[j]).a (L[j]).t with hst | ⟨r, hst⟩
          · rw [hst] at hA1 HR1 hO ⊢
            clear hst hF
            have hl1 : ¬ (rs.length : Int) < rs.length := by omega
            ((try simp only [List.nil_append, List.append_nil] at hO); have hF := Own.cells hO; simp only [cellsOf_append, cellsOf_pt] at hF)
            go_wp2_with (first | (refine at_load ?_; refine own_loadS (b := ?_) (cs := ?_) (e := ?_) (f := ?_) hO ?_ ?_ ?_ ?_ ?_ ?_; rotate_left 4; (· rfl); (· rfl); (· exact inferInstance); (· simp; done); (· simp [rcells]; done); simp only [Act.put, List.setIfInBounds_toArray, List.set_cons_zero, List.set_cons_succ]) | (refine at_store ?_; refine own_storeS (b := ?_) (cs := ?_) (cs' := ?_) (e := ?_) (R := ?_) hO ?_ ?_ ?_ ?_ ?_ ?_ ?_ ?_; rotate_left 5; (· rfl); (· rfl); (· ((conv => lhs; whnf); try exact rfl)); (· exact inferInstance); (· simp [rcells]; done); (· refine rcells_one _ _ ?_ rfl; intro i; rfl); (· simp [rcells]; done); clear hO; (try clear hF); intro _ hO; ((try simp only [List.nil_append, List.append_nil] at hO); have hF := Own.cells hO; simp only [cellsOf_append, cellsOf_pt] at hF); simp only [Act.put, List.setIfInBounds_toArray, List.set_cons_zero, List.set_cons_succ]))
            go_roundw
            case rel => exact ⟨j + 1, rs, fa1, fc1, A1, I1 ++ I, xs, sa', cp, S, by go_num, rfl, by omega, by omega, hA1, HR1.out, hS, Lib.hid (HAll.out.mono (fun x hx => List.mem_append.2 (.inr hx))), hO.as _⟩
            case measure => simp [intOf]; omega
          · rw [hst] at hA1 HR1 hO ⊢
            clear hst hF
            have hl1 : (rs.length : Int) < (rs ++ [r]).length := by simp; omega
            ((try simp only [List.nil_append, List.append_nil] at hO); have hF := Own.cells hO; simp only [cellsOf_append, cellsOf_pt] at hF)
            go_wp2_with (first | (refine at_load ?_; refine own_loadS (b := ?_) (cs := ?_) (e := ?_) (f := ?_) hO ?_ ?_ ?_ ?_ ?_ ?_; rotate_left 4; (· rfl); (· rfl); (· exact inferInstance); (· simp; done); (· simp [rcells]; done); simp only [Act.put, List.setIfInBounds_toArray, List.set_cons_zero, List.set_cons_succ]) | (refine at_store ?_; refine own_storeS (b := ?_) (cs := ?_) (cs' := ?_) (e := ?_) (R := ?_) hO ?_ ?_ ?_ ?_ ?_ ?_ ?_ ?_; rotate_left 5; (· rfl); (· rfl); (· ((conv => lhs; whnf); try exact rfl)); (· exact inferInstance); (· simp [rcells]; done); (· refine rcells_one _ _ ?_ rfl; intro i; rfl); (· simp [rcells]; done); clear hO; (try clear hF); intro _ hO; ((try simp only [List.nil_append, List.append_nil] at hO); have hF := Own.cells hO; simp only [cellsOf_append, cellsOf_pt] at hF); simp only [Act.put, List.setIfInBounds_toArray, List.set_cons_zero, List.set_cons_succ]) | (refine at_bs ?_; go_must (refine own_build1 (v := ?_) sltRefs hO ?_ ?_ ?_ ?_ ?_ ?_; rotate_left; (· rfl); (· ((conv => lhs; whnf); try exact rfl)); (· rfl); (· decide); (· decide); clear hO; (try clear hF); intro _ _ hO; (try simp only [Value.cells] at hO); ((try simp only [List.nil_append, List.append_nil] at hO); have hF := Own.cells hO; simp only [cellsOf_append, cellsOf_pt] at hF); simp only [Act.put, List.setIfInBounds_toArray, List.set_cons_zero, List.set_cons_succ])) | (refine at_append ?_; go_must (refine own_append_elem (b1 := ?_) (cs := ?_) (e1 := ?_) (f1 := ?_) sltRefs hO ?_ ?_ ?_ hS ?_ ?_ ?_ ?_ ?_ ?_ ?_; rotate_left 4; (· rfl); (· rfl); (· rfl); (· exact inferInstance); (· rfl); (· refine rcells_one _ _ ?_ rfl; intro i; rfl); (· first | omega | (simp only [maxLen]; omega)); (· decide); (· first | omega | (simp only [maxLen]; omega)); clear hO; (try clear hF); intro _ _ _ _ hS hO; ((try simp only [List.nil_append, List.append_nil] at hO); have hF := Own.cells hO; simp only [cellsOf_append, cellsOf_pt] at hF); simp only [Act.put, List.setIfInBounds_toArray, List.set_cons_zero, List.set_cons_succ])))
            have e2 : rs.length + 1 + 1 = (rs ++ [r]).length + 1 := by simp
            rw [e2] at hS
            go_roundw
            case rel => exact ⟨j + 1, rs ++ [r], fa1, fc1, A1, I1 ++ I, _, _, _, _, by go_num, by rw [e2], by omega, by simp; omega, hA1, HR1.out, hS, Lib.hid ((HAll.out.mono (fun x hx => List.mem_append.2 (.inr hx))).snoc hxl rfl ⟨fa1, fc1, rfl, HR1.out⟩), hO.as _⟩
            case measure => simp [intOf]; omega
        · go_wp2_with (refine at_alloc ?_; go_must (refine own_alloc (z := ?_) hO ?_ ?_ ?_; rotate_left; (· rfl); (· exact hz _); clear hO; (try clear hF); intro b9 _ hO; (try simp only [Value.cells] at hO); ((try simp only [List.nil_append, List.append_nil] at hO); have hF := Own.cells hO; simp only [cellsOf_append, cellsOf_pt] at hF); simp only [Act.put, List.setIfInBounds_toArray, List.set_cons_zero, List.set_cons_succ]))
          refine ⟨hO.as _, ?_⟩
          (refine sch_act (o := ?_) ?_ ?_; rotate_left; (· ((conv => lhs; whnf); try exact rfl)))
          go_wp2_with (go_at_call 18; go_must (refine (does2 E _ _ _ I A d rs rs _ (L[j]).k (L[j]).f (L[j]).a (L[j]).t hts hA ⟨fa, fc, rfl, HR.out⟩ (by omega) (by omega) hA.1 hO).mono ?_; intro e w1 hD; obtain ⟨fa1, fc1, I1, A1, rfl, hr1, hA1, hO⟩ := DP_same hD; clear hD; ((try simp only [List.nil_append, List.append_nil] at hO); have hF := Own.cells hO; simp only [cellsOf_append, cellsOf_pt] at hF); have HR1 := Lib.hid hr1; clear hr1))
          refine ⟨hO.as _, ?_⟩
          (refine sch_look (o := ?_) (v := ?_) ?_ ?_ ?_ ?_; rotate_left 2; (· ((conv => lhs; whnf); try exact rfl)); (· rfl); (· intro w' hO'; (have hF' := Own.cells hO'; simp only [cellsOf_append, cellsOf_pt] at hF'); go_simp; (try exact rfl)); simp only [Act.put, List.setIfInBounds_toArray, List.set_cons_zero, List.set_cons_succ])
          (refine sch_look (o := ?_) (v := ?_) ?_ ?_ ?_ ?_; rotate_left 2; (· ((conv => lhs; whnf); try exact rfl)); (· rfl); (· intro w' hO'; (have hF' := Own.cells hO'; simp only [cellsOf_append, cellsOf_pt] at hF'); go_simp; (try exact rfl)); simp only [Act.put, List.setIfInBounds_toArray, List.set_cons_zero, List.set_cons_succ])
          (refine sch_look (o := ?_) (v := ?_) ?_ ?_ ?_ ?_; rotate_left 2; (· ((conv => lhs; whnf); try exact rfl)); (· rfl); (· intro w' hO'; (have hF' := Own.cells hO'; simp only [cellsOf_append, cellsOf_pt] at hF'); go_simp; (try exact rfl)); simp only [Act.put, List.setIfInBounds_toArray, List.set_cons_zero, List.set_cons_succ])
          (refine sch_act (o := ?_) ?_ ?_; rotate_left; (· ((conv => lhs; whnf); try exact rfl)))
          go_wp2_with (refine at_store ?_; refine own_storeS (b := ?_) (cs := ?_) (cs' := ?_) (e := ?_) (R := ?_) hO ?_ ?_ ?_ ?_ ?_ ?_ ?_ ?_; rotate_left 5; (· rfl); (· rfl); (· ((conv => lhs; whnf); try exact rfl)); (· exact inferInstance); (· simp [rcells]; done); (· refine rcells_one _ _ ?_ rfl; intro i; rfl); (· simp [rcells]; done); clear hO; (try clear hF); intro _ hO; ((try simp only [List.nil_append, List.append_nil] at hO); have hF := Own.cells hO; simp only [cellsOf_append, cellsOf_pt] at hF); simp only [Act.put, List.setIfInBounds_toArray, List.set_cons_zero, List.set_cons_succ])
          refine ⟨hO.as _, ?_⟩
          (refine sch_look (o := ?_) (v := ?_) ?_ ?_ ?_ ?_; rotate_left 2; (· ((conv => lhs; whnf); try exact rfl)); (· rfl); (· intro w' hO'; (have hF' := Own.cells hO'; simp only [cellsOf_append, cellsOf_pt] at hF'); go_simp; (try exact rfl)); simp only [Act.put, List.setIfInBounds_toArray, List.set_cons_zero, List.set_cons_succ])
          refine sch_done ?_
          rcases st_cases rs (L[j]).k (L[j]).f (L[j]).a (L[j]).t with hst | ⟨r, hst⟩
          · rw [hst] at hA1 HR1 hO ⊢
            clear hst hF
            have hl1 : ¬ (rs.length : Int) < rs.length := by omega
            ((try simp only [List.nil_append, List.append_nil] at hO); have hF := Own.cells hO; simp only [cellsOf_append, cellsOf_pt] at hF)
            go_wp2_with (first | (refine at_load ?_; refine own_loadS (b := ?_) (cs := ?_) (e := ?_) (f := ?_) hO ?_ ?_ ?_ ?_ ?_ ?_; rotate_left 4; (· rfl); (· rfl); (· exact inferInstance); (· simp; done); (· simp [rcells]; done); simp only [Act.put, List.setIfInBounds_toArray, List.set_cons_zero, List.set_cons_succ]) | (refine at_store ?_; refine own_storeS (b := ?_) (cs := ?_) (cs' := ?_) (e := ?_) (R := ?_) hO ?_ ?_ ?_ ?_ ?_ ?_ ?_ ?_; rotate_left 5; (· rfl); (· rfl); (· ((conv => lhs; whnf); try exact rfl)); (· exact inferInstance); (· simp [rcells]; done); (· refine rcells_one _ _ ?_ rfl; intro i; rfl); (· simp [rcells]; done); clear hO; (try clear hF); intro _ hO; ((try simp only [List.nil_append, List.append_nil] at hO); have hF := Own.cells hO; simp only [cellsOf_append, cellsOf_pt] at hF); simp only [Act.put, List.setIfInBounds_toArray, List.set_cons_zero, List.set_cons_succ]))
            go_roundw
            case rel => exact ⟨j + 1, rs, fa1, fc1, A1, I1 ++ I, xs, sa', cp, S, by go_num, rfl, by omega, by omega, hA1, HR1.out, hS, Lib.hid (HAll.out.mono (fun x hx => List.mem_append.2 (.inr hx))), hO.as _⟩
            case measure => simp [intOf]; omega
          · rw [hst] at hA1 HR1 hO ⊢
            clear hst hF
            have hl1 : (rs.length : Int) < (rs ++ [r]).length := by simp; omega
            ((try simp only [List.nil_append, List.append_nil] at hO); have hF := Own.cells hO; simp only [cellsOf_append, cellsOf_pt] at hF)
            go_wp2_with (first | (refine at_load ?_; refine own_loadS (b := ?_) (cs := ?_) (e := ?_) (f := ?_) hO ?_ ?_ ?_ ?_ ?_ ?_; rotate_left 4; (· rfl); (· rfl); (· exact inferInstance); (· simp; done); (· simp [rcells]; done); simp only [Act.put, List.setIfInBounds_toArray, List.set_cons_zero, List.set_cons_succ]) | (refine at_store ?_; refine own_storeS (b := ?_) (cs := ?_) (cs' := ?_) (e := ?_) (R := ?_) hO ?_ ?_ ?_ ?_ ?_ ?_ ?_ ?_; rotate_left 5; (· rfl); (· rfl); (· ((conv => lhs; whnf); try exact rfl)); (· exact inferInstance); (· simp [rcells]; done); (· refine rcells_one _ _ ?_ rfl; intro i; rfl); (· simp [rcells]; done); clear hO; (try clear hF); intro _ hO; ((try simp only [List.nil_append, List.append_nil] at hO); have hF := Own.cells hO; simp only [cellsOf_append, cellsOf_pt] at hF); simp only [Act.put, List.setIfInBounds_toArray, List.set_cons_zero, List.set_cons_succ]) | (refine at_bs ?_; go_must (refine own_build1 (v := ?_) sltRefs hO ?_ ?_ ?_ ?_ ?_ ?_; rotate_left; (· rfl); (· ((conv => lhs; whnf); try exact rfl)); (· rfl); (· decide); (· decide); clear hO; (try clear hF); intro _ _ hO; (try simp only [Value.cells] at hO); ((try simp only [List.nil_append, List.append_nil] at hO); have hF := Own.cells hO; simp only [cellsOf_append, cellsOf_pt] at hF); simp only [Act.put, List.setIfInBounds_toArray, List.set_cons_zero, List.set_cons_succ])) | (refine at_append ?_; go_must (refine own_append_elem (b1 := ?_) (cs := ?_) (e1 := ?_) (f1 := ?_) sltRefs hO ?_ ?_ ?_ hS ?_ ?_ ?_ ?_ ?_ ?_ ?_; rotate_left 4; (· rfl); (· rfl); (· rfl); (· exact inferInstance); (· rfl); (· refine rcells_one _ _ ?_ rfl; intro i; rfl); (· first | omega | (simp only [maxLen]; omega)); (· decide); (· first | omega | (simp only [maxLen]; omega)); clear hO; (try clear hF); intro _ _ _ _ hS hO; ((try simp only [List.nil_append, List.append_nil] at hO); have hF := Own.cells hO; simp only [cellsOf_append, cellsOf_pt] at hF); simp only [Act.put, List.setIfInBounds_toArray, List.set_cons_zero, List.set_cons_succ])))
            have e2 : rs.length + 1 + 1 = (rs ++ [r]).length + 1 := by simp
            rw [e2] at hS
            go_roundw
            case rel => exact ⟨j + 1, rs ++ [r], fa1, fc1, A1, I1 ++ I, _, _, _, _, by go_num, by rw [e2], by omega, by simp; omega, hA1, HR1.out, hS, Lib.hid ((HAll.out.mono (fun x hx => List.mem_append.2 (.inr hx))).snoc hxl rfl ⟨fa1, fc1, rfl, HR1.out⟩), hO.as _⟩
            case measure => simp [intOf]; omega
      · have hs' : smallB (L[j]).a (L[j]).t = false := by simpa using hs
        ((try simp only [List.nil_append, List.append_nil] at hO); have hF := Own.cells hO; simp only [cellsOf_append, cellsOf_pt] at hF)
        go_wp2_with (first | (refine at_load ?_; go_must (refine own_loadC (ad := ad.add (j * 4)) (cs := (L[j]).cells) ?_ (HRow.out.at hO) ?_ ?_ ?_ ?_; (· rfl); (· ((conv => lhs; whnf); try exact rfl)); (· simp; done); (· simp [OpT.cells]; done); simp only [Act.put, List.setIfInBounds_toArray, List.set_cons_zero, List.set_cons_succ])) | (go_at_call 16; go_must (refine (small2 E _ _ (L[j]).k (L[j]).f (L[j]).a (L[j]).t hO).mono ?_; rintro e w1 ⟨rfl, hO⟩; rw [hs']; ((try simp only [List.nil_append, List.append_nil] at hO); have hF := Own.cells hO; simp only [cellsOf_append, cellsOf_pt] at hF))) | (go_at_call 17; go_must (refine (awake2 E _ _ hO).mono ?_; rintro e w1 ⟨rfl, hO⟩; ((try simp only [List.nil_append, List.append_nil] at hO); have hF := Own.cells hO; simp only [cellsOf_append, cellsOf_pt] at hF))))
        go_ret
        exact ⟨rfl, hO.as _⟩
    · have hlt' : ¬ (j : Int) < L.length := by omega
      by_cases hc0 : cut < 0
      · ((try simp only [List.nil_append, List.append_nil] at hO); have hF := Own.cells hO; simp only [cellsOf_append, cellsOf_pt] at hF)
        go_wp2_with (first | (go_at_call 22; go_must (refine (dCut_bad E _ _ _ d rs A cut (.inl hc0) hA hO).mono ?_; rintro e w1 ⟨rfl, rfl⟩)) | (go_at_call 17; go_must (refine (awake2 E _ _ hO).mono ?_; rintro e w1 ⟨rfl, hO⟩; ((try simp only [List.nil_append, List.append_nil] at hO); have hF := Own.cells hO; simp only [cellsOf_append, cellsOf_pt] at hF))))
        go_ret
        exact ⟨rfl, hO.as _⟩
      by_cases hc1 : (rs.length : Int) < cut
      · ((try simp only [List.nil_append, List.append_nil] at hO); have hF := Own.cells hO; simp only [cellsOf_append, cellsOf_pt] at hF)
        go_wp2_with (first | (go_at_call 22; go_must (refine (dCut_bad E _ _ _ d rs A cut (.inr hc1) hA hO).mono ?_; rintro e w1 ⟨rfl, rfl⟩)) | (go_at_call 17; go_must (refine (awake2 E _ _ hO).mono ?_; rintro e w1 ⟨rfl, hO⟩; ((try simp only [List.nil_append, List.append_nil] at hO); have hF := Own.cells hO; simp only [cellsOf_append, cellsOf_pt] at hF))))
        go_ret
        exact ⟨rfl, hO.as _⟩
      obtain ⟨m, rfl⟩ : ∃ m : Nat, cut = m := ⟨cut.toNat, by omega⟩
      obtain ⟨cs, hcs, hrow, hq⟩ := HAll.out m (by omega)
      have HQ := Lib.hid hq
      clear hq
      have HW := Lib.hid hrow
      clear hrow
      obtain ⟨ra, rfl, _⟩ := hS.row hO m (by omega)
      have hm0 : (0 : Int) ≤ m := by omega
      have hm1 : (m : Int) < (rs.length : Int) + 1 := by omega
      ((try simp only [List.nil_append, List.append_nil] at hO); have hF := Own.cells hO; simp only [cellsOf_append, cellsOf_pt] at hF)
      go_wp2_with (first | (refine at_load ?_; refine own_loadS (b := ?_) (cs := ?_) (e := ?_) (f := ?_) hO ?_ ?_ ?_ ?_ ?_ ?_; rotate_left 4; (· rfl); (· rfl); (· exact inferInstance); (· simp; done); (· simp [rcells]; done); simp only [Act.put, List.setIfInBounds_toArray, List.set_cons_zero, List.set_cons_succ]) | (refine at_load ?_; refine own_loadA (ad := ra.add (m * 5)) (cs := cs) ?_ (hS.rowAt hO m (by omega) HW.out) ?_ ?_ ?_ ?_; (· rfl); (· rfl); (· simp; done); (· simp [hcs]; done); simp only [Act.put, List.setIfInBounds_toArray, List.set_cons_zero, List.set_cons_succ]) | (go_at_call 22; go_must (refine (dCut_ok E _ _ _ d rs A m (by omega) (by omega) hA hO).mono ?_; rintro e w1 ⟨c, C, rfl, hC, hO⟩; ((try simp only [List.nil_append, List.append_nil] at hO); have hF := Own.cells hO; simp only [cellsOf_append, cellsOf_pt] at hF))) | (go_at_call 21; refine (same2 E _ _ _ I C c (rs.take m) _ hC HQ.out (by simp; omega) hO).mono ?_; rintro e w1 ⟨rfl, hO⟩; ((try simp only [List.nil_append, List.append_nil] at hO); have hF := Own.cells hO; simp only [cellsOf_append, cellsOf_pt] at hF)) | (go_at_call 23; refine (dWrite E _ _ _ c _ C 0 0 _ (by simp [maxLen, ByteArray.size]) hC (by simp; omega) hO).mono ?_; clear hC; rintro e w1 ⟨rfl, C1, hC1, hO⟩; ((try simp only [List.nil_append, List.append_nil] at hO); have hF := Own.cells hO; simp only [cellsOf_append, cellsOf_pt] at hF)) | (go_at_call 23; refine (dWrite E _ _ _ d _ A 1 0 _ (by simp [maxLen, ByteArray.size]) hA (by omega) hO).mono ?_; rintro e w1 ⟨rfl, A1, hA1, hO⟩; ((try simp only [List.nil_append, List.append_nil] at hO); have hF := Own.cells hO; simp only [cellsOf_append, cellsOf_pt] at hF)) | (go_at_call 24; refine (rWrite E _ _ _ I (rs.take m) _ 0 0 _ (by simp [maxLen, ByteArray.size]) HQ.out (by simp; omega) (okL_take hA.1 m) hO).mono ?_; intro e w1 hD; obtain ⟨fb, fd, I1, rfl, hr1, hO⟩ := RP_get hD; clear hD; ((try simp only [List.nil_append, List.append_nil] at hO); have hF := Own.cells hO; simp only [cellsOf_append, cellsOf_pt] at hF); have HR1 := Lib.hid hr1; clear hr1) | (refine at_alloc ?_; go_must (refine own_alloc (z := ?_) hO ?_ ?_ ?_; rotate_left; (· rfl); (· exact hz _); clear hO; (try clear hF); intro _ _ hO; (try simp only [Value.cells] at hO); ((try simp only [List.nil_append, List.append_nil] at hO); have hF := Own.cells hO; simp only [cellsOf_append, cellsOf_pt] at hF); simp only [Act.put, List.setIfInBounds_toArray, List.set_cons_zero, List.set_cons_succ])) | (refine at_store ?_; refine own_storeS (b := ?_) (cs := ?_) (cs' := ?_) (e := ?_) (R := ?_) hO ?_ ?_ ?_ ?_ ?_ ?_ ?_ ?_; rotate_left 5; (· rfl); (· rfl); (· ((conv => lhs; whnf); try exact rfl)); (· exact inferInstance); (· simp [rcells]; done); (· refine rcells_one _ _ ?_ rfl; intro i; rfl); (· simp [rcells]; done); clear hO; (try clear hF); intro _ hO; ((try simp only [List.nil_append, List.append_nil] at hO); have hF := Own.cells hO; simp only [cellsOf_append, cellsOf_pt] at hF); simp only [Act.put, List.setIfInBounds_toArray, List.set_cons_zero, List.set_cons_succ]) | (go_at_call 21; refine (same2 E _ _ _ (I1 ++ I) C1 c _ _ hC1 ⟨fb, fd, rfl, HR1.out⟩ (by have := wr_len (rs.take m) 0 0 ⟨#[111, 116, 104, 101, 114]⟩; simp at this ⊢; omega) hO).mono ?_; rintro e w1 ⟨rfl, hO⟩; ((try simp only [List.nil_append, List.append_nil] at hO); have hF := Own.cells hO; simp only [cellsOf_append, cellsOf_pt] at hF)) | (go_at_call 17; go_must (refine (awake2 E _ _ hO).mono ?_; rintro e w1 ⟨rfl, hO⟩; ((try simp only [List.nil_append, List.append_nil] at hO); have hF := Own.cells hO; simp only [cellsOf_append, cellsOf_pt] at hF))))
      go_ret
      exact ⟨rfl, hO.as _⟩
end Go.Proofs.Ytkkeplobomncgaa
