/- The sorter's merged: rising runs, put together. -/
import Derived.Test.YtnfclieaendgeaaHeapL
import Derived.Test.YtnfclieaendgeaaArm2
set_option linter.all false
namespace Go.Proofs.Ytnfclieaendgeaa
open Go Go.RowKit Go.Own Go.Hp

/-- A run as it is given. -/
structure RO where
  ad : Option Addr
  cap : Nat
  l : List ByteArray
def roV (r : RO) : Value := .slice r.ad r.l.length r.cap
def roR (r : RO) : Run := ⟨r.ad.getD ⟨0, 0, none⟩, r.cap, r.l⟩
def RoOk (E : World) (I : Fr) (r : RO) : Prop :=
  r.l.length ≤ r.cap ∧ r.cap ≤ maxLen ∧ (r.l ≠ [] → ∃ a, r.ad = some a ∧ ∀ w, Own E w I → ∀ i (h : i < r.l.length), w.cell? (a.add i) = some (.string r.l[i]))
def live (rs : List RO) : List Run := (rs.filter fun r => !r.l.isEmpty).map roR
theorem live_snoc (rs : List RO) (r : RO) : live (rs ++ [r]) = live rs ++ (if r.l.isEmpty then [] else [roR r]) := by
  unfold live
  rw [List.filter_append, List.map_append]
  cases h : r.l.isEmpty <;> simp [h]
theorem live_le (rs : List RO) : (live rs).length ≤ rs.length := by
  unfold live
  rw [List.length_map]
  exact List.length_filter_le _ _
theorem roV_live {r : RO} {E : World} {I : Fr} (h : RoOk E I r) (h0 : r.l ≠ []) : roV r = runV (roR r) := by
  obtain ⟨a, ha, _⟩ := h.2.2 h0
  unfold roV runV roR
  rw [ha]
  rfl
theorem sltHeads : SlT Try.prog 85 23 1 24 (.slice none 0 0) := ⟨by kernel_rfl, by kernel_rfl, rfl⟩
theorem sltStrs8 : SlT Try.prog 23 9 1 16 (.string .empty) := ⟨by kernel_rfl, by kernel_rfl, rfl⟩
def fOf (L : List Run) : Nat → Run := fun k => L.getD k ⟨⟨0, 0, none⟩, 0, []⟩
theorem rows_fOf (L : List Run) : rows (fOf L) L.length = L.map runV := by
  apply List.ext_getElem?
  intro k
  by_cases hk : k < L.length
  · rw [rows_get _ _ _ hk, List.getElem?_map, List.getElem?_eq_getElem hk]
    simp [fOf, hk]
  · rw [List.getElem?_eq_none (by rw [rows_length]; omega), List.getElem?_eq_none (by simp; omega)]

theorem fOf_lt (L : List Run) (k : Nat) (h : k < L.length) : fOf L k = L[k] := by simp [fOf, h]
theorem mem_live {rs : List RO} {r : Run} (h : r ∈ live rs) : ∃ o ∈ rs, o.l ≠ [] ∧ r = roR o := by
  unfold live at h
  obtain ⟨o, ho, rfl⟩ := List.mem_map.1 h
  obtain ⟨h1, h2⟩ := List.mem_filter.1 ho
  exact ⟨o, h1, by simpa using h2, rfl⟩
theorem live_all {P : Run → Prop} {rs : List RO} (h : ∀ o ∈ rs, o.l ≠ [] → P (roR o)) : ∀ k, k < (live rs).length → P (fOf (live rs) k) := by
  intro k hk
  rw [fOf_lt _ _ hk]
  obtain ⟨o, h1, h2, h3⟩ := mem_live (List.getElem_mem hk)
  rw [h3]
  exact h o h1 h2
theorem live_ne (rs : List RO) : ∀ k, k < (live rs).length → (fOf (live rs) k).l ≠ [] := live_all (P := fun r => r.l ≠ []) fun _ _ h => h
theorem live_in {E : World} {I : Fr} {rs : List RO} (h : ∀ r ∈ rs, RoOk E I r) : RunsIn E I (fOf (live rs)) (live rs).length := by
  refine live_all (P := fun r => ∀ w, Own E w I → ∀ i (h : i < r.l.length), w.cell? (r.ad.add i) = some (.string r.l[i])) fun o ho h0 w hO i hi => ?_
  obtain ⟨a, ha, hc⟩ := (h o ho).2.2 h0
  simp only [roR, ha, Option.getD_some]
  exact hc w hO i hi
theorem tot_range (g : Nat → Nat) : ∀ n, tot g n = ((List.range n).map g).sum
  | 0 => rfl
  | n + 1 => by rw [tot, tot_range g n, List.range_succ, List.map_append, List.sum_append]; simp
theorem tot_fOf (m : Run → Nat) (L : List Run) : tot (fun k => m (fOf L k)) L.length = (L.map m).sum := by
  rw [tot_range]
  congr 1
  apply List.ext_getElem
  · simp
  · intro i h1 h2
    have hi : i < L.length := by simpa using h2
    simp [fOf, hi]
theorem live_sum (m : List ByteArray → Nat) (h0 : m [] = 0) : ∀ rs : List RO, ((live rs).map fun r => m r.l).sum = (rs.map fun r => m r.l).sum
  | [] => rfl
  | r :: rs => by
    have ih := live_sum m h0 rs
    unfold live at ih ⊢
    rw [List.filter_cons, List.map_cons, List.sum_cons]
    by_cases h : r.l = []
    · rw [if_neg (by simp [h]), ih, h, h0, Nat.zero_add]
    · rw [if_pos (by simpa using h), List.map_cons, List.map_cons, List.sum_cons, ih]
      rfl
theorem MInv.start {E : World} {I : Fr} {rs : List RO} (hOk : ∀ r ∈ rs, RoOk E I r) (hRi : ∀ r ∈ rs, Rise r.l) (f' : Nat → Run) (hp : Hp leR f' 0 (live rs).length) (hS : Sm (fOf (live rs)) f' (live rs).length) :
    MInv (fun x => List.count x (rs.map RO.l).flatten) (rs.map RO.l).flatten.length [] f' (live rs).length := by
  refine ⟨hp, hS.all (fun r => r.l ≠ []) (live_ne rs), hS.all (fun r => Rise r.l) (live_all (P := fun r => Rise r.l) fun o ho _ => hRi o ho), hS.all CapOk (live_all (P := CapOk) fun o ho _ => ⟨(hOk o ho).1, (hOk o ho).2.1⟩), List.Pairwise.nil, fun x hx => absurd hx (by simp), fun x => ?_, ?_⟩
  · rw [hS.sum (fun r => r.l.count x), tot_fOf (fun r => r.l.count x), live_sum (fun l => l.count x) rfl, List.count_flatten, List.map_map]
    simp [Function.comp_def]
  · rw [hS.sum (fun r => r.l.length), tot_fOf (fun r => r.l.length), live_sum List.length rfl, List.length_flatten, List.map_map]
    simp [Function.comp_def]
theorem rows_put0 (f : Nat → Run) (N : Nat) (r : Run) : (rows f N).set 0 (runV r) = rows (put0 f r) N := by
  apply List.ext_getElem?
  intro k
  rw [List.getElem?_set]
  by_cases hk : k < N
  · rw [rows_get _ _ _ hk, rows_get _ _ _ hk, rows_length]
    unfold put0
    by_cases h0 : 0 = k
    · subst h0
      rw [if_pos rfl, if_pos hk, if_pos rfl]
    · rw [if_neg h0, if_neg (Ne.symm h0)]
  · rw [List.getElem?_eq_none (by rw [rows_length]; omega), List.getElem?_eq_none (by rw [rows_length]; omega), rows_length]
    split
    · rw [if_neg (by omega)]
    · rfl
theorem tot_le (g : Nat → Nat) (k : Nat) : ∀ n, k < n → g k ≤ tot g n
  | 0, h => by omega
  | n + 1, h => by
    rw [tot]
    by_cases hk : k = n
    · subst hk; omega
    · have := tot_le g k n (by omega)
      omega
def lenS : Value → Nat
  | .slice _ n _ => n
  | _ => 0

set_option maxRecDepth 100000 in
set_option maxHeartbeats 16000000 in
theorem merged8 (E w : World) (X R A I : Fr) (a0 : Option Addr) (cap0 : Nat) (rs : List RO) (hR : Sl 23 1 a0 rs.length cap0 (rs.map roV) A) (hOk : ∀ r ∈ rs, RoOk E I r) (hRi : ∀ r ∈ rs, Rise r.l) (hn : rs.length ≤ 5864062014805) (ht : ((rs.map RO.l).flatten).length ≤ 5864062014805) (hO : Own E w X) [hp : Pick X (A ++ I) R] :
    Calls Try.prog 38 #[.slice a0 rs.length cap0] w fun e w' =>
      ∃ oa ocap out O, e = .returned (.slice oa (List.length out) ocap) ∧ Sl 9 1 oa (List.length out) ocap (out.map .string) O ∧ Rise out ∧ (∀ x, out.count x = ((rs.map RO.l).flatten).count x) ∧ Own E w' (O ++ (A ++ (I ++ R))) := by
  have hO0 : Own E w (A ++ (I ++ R)) := (hO.perm hp.perm).as _
  clear hp hO
  have hO := hO0
  clear hO0
  have hn1 : (rs.length : Int) ≤ 5864062014805 := by omega
  have hz : Sl 23 1 none (live (rs.take 0)).length 0 ((live (rs.take 0)).map runV) [] := Sl.nil _ _
  go_enter Try.func38, Try.ntmps38
  go_wp2_with (first | (refine at_alloc ?_; go_must (refine own_alloc (z := ?_) hO ?_ ?_ ?_; rotate_left; (· rfl); (· exact rfl); clear hO; (try clear hF); intro hb _ hO; (try simp only [Value.cells] at hO); ((try simp only [List.nil_append, List.append_nil] at hO); have hF := Own.cells hO; simp only [cellsOf_append, cellsOf_pt] at hF); simp only [Act.put, List.setIfInBounds_toArray, List.set_cons_zero, List.set_cons_succ])))
  have hO1 := hO
  clear hO hF
  go_loopw [9] (fun s9 wr => ∃ k : Nat, s9 = .int .i64 k ∧ k ≤ rs.length ∧ ∃ a cap S, Sl 23 1 a (live (rs.take k)).length cap ((live (rs.take k)).map runV) S ∧ Own E wr (pt hb (.cells #[.slice a (live (rs.take k)).length cap] 85 (0, 0)) ++ (S ++ (A ++ (I ++ R))))) (fun s9 _ => rs.length - (intOf s9).toNat)
  case atStart => exact ⟨0, rfl, Nat.zero_le _, none, 0, [], hz, hO1.as (pt hb (.cells #[.slice none 0 0] 85 (0, 0)) ++ ([] ++ (A ++ (I ++ R))))⟩
  case round =>
    clear hO1 hz
    obtain ⟨k, rfl, hk, a, cap, S, hSl, hO⟩ := hrel
    have hll := live_le (rs.take k)
    rw [List.length_take] at hll
    by_cases hkl : k < rs.length
    · have hk1 : (k : Int) < rs.length := by omega
      have hk0 : (0 : Int) ≤ k := by omega
      obtain ⟨b, rfl⟩ := sl_some8 hR (by omega)
      have hca := sl_get8 hR hO k (roV rs[k]) (by rw [List.getElem?_map, List.getElem?_eq_getElem hkl]; rfl)
      have hok := hOk rs[k] (List.getElem_mem _)
      have hsn : live (rs.take (k + 1)) = live (rs.take k) ++ (if rs[k].l.isEmpty then [] else [roR rs[k]]) := by
        rw [List.take_succ_eq_append_getElem hkl, live_snoc]
      generalize rs[k] = r at hca hok hsn
      have HSN := Lib.hid hsn
      clear hsn
      generalize live (rs.take k) = L at hSl hO HSN hll
      generalize hln : rs.length = n at *
      by_cases h0 : r.l = []
      · have hv : roV r = .slice r.ad 0 r.cap := by unfold roV; rw [h0]; rfl
        rw [hv] at hca
        clear hv
        ((try simp only [List.nil_append, List.append_nil] at hO); have hF := Own.cells hO; simp only [cellsOf_append, cellsOf_pt] at hF)
        go_wp2_with fail
        go_roundw
        case rel =>
          refine ⟨k + 1, by go_num, by omega, a, cap, S, ?_⟩
          rw [HSN.out, h0]
          simp only [List.isEmpty_nil, if_true, List.append_nil]
          exact ⟨hSl, hO⟩
        case measure => simp [intOf]; omega
      · have hv := roV_live hok h0
        have hpos : 0 < r.l.length := List.length_pos_iff.2 h0
        have hp0 : (0 : Int) < r.l.length := by omega
        unfold roV at hca
        unfold runV roR roV at hv
        have HV := Lib.hid hv
        clear hv
        ((try simp only [List.nil_append, List.append_nil] at hO); have hF := Own.cells hO; simp only [cellsOf_append, cellsOf_pt] at hF)
        go_wp2_with (first | (refine at_bs ?_; go_must (refine own_build1 (v := ?_) sltHeads hO ?_ ?_ ?_ ?_ ?_ ?_; rotate_left; (· rfl); (· ((conv => lhs; whnf); try exact rfl)); (· rfl); (· decide); (· decide); clear hO; (try clear hF); intro bs _ hO; (try simp only [Value.cells] at hO); ((try simp only [List.nil_append, List.append_nil] at hO); have hF := Own.cells hO; simp only [cellsOf_append, cellsOf_pt] at hF); simp only [Act.put, List.setIfInBounds_toArray, List.set_cons_zero, List.set_cons_succ])) | (refine at_append ?_; go_must ((refine own_append_elem (b1 := ?_) (cs := ?_) (e1 := ?_) (f1 := ?_) sltHeads hO ?_ ?_ ?_ hSl ?_ ?_ ?_ ?_ ?_ ?_ ?_; rotate_left 4; (· rfl); (· rfl); (· rfl); (· exact inferInstance); (· rfl); (· intro u hu; simp at hu; subst hu; rfl); (· first | omega | (simp only [maxLen]; omega)); (· decide); (· first | omega | (simp only [maxLen]; omega)); clear hO; (try clear hF); intro a2 c2 A2 w2 hS2 hO; ((try simp only [List.nil_append, List.append_nil] at hO); have hF := Own.cells hO; simp only [cellsOf_append, cellsOf_pt] at hF); simp only [Act.put, List.setIfInBounds_toArray, List.set_cons_zero, List.set_cons_succ]))) | (refine own_store (v := ?_) (off := 0) (b := hb) hO ?_ ?_ ?_ ?_ ?_ ?_ ?_; rotate_left; (· rfl); (· ((conv => lhs; whnf); try exact rfl)); (· ((conv => lhs; whnf); try exact rfl)); (· simp [Value.cells]); (· simp [Value.cells, Value.oneCell']); (· simp [Value.cells]); clear hO; (try clear hF); intro _ hO; (try simp only [splice, Value.cells] at hO); ((try simp only [List.nil_append, List.append_nil] at hO); have hF := Own.cells hO; simp only [cellsOf_append, cellsOf_pt] at hF); simp only [Act.put, List.setIfInBounds_toArray, List.set_cons_zero, List.set_cons_succ]))
        (try simp only [splice, Value.cells, List.setIfInBounds_toArray, List.set_cons_zero, List.set_cons_succ] at hO)
        go_roundw
        case rel =>
          refine ⟨k + 1, by go_num, by omega, a2, c2, A2, ?_⟩
          have h1 : L.map runV ++ (Array.toList #[Value.slice r.ad r.l.length r.cap]) = (L ++ [roR r]).map runV := by
            rw [List.map_append]
            simp only [List.map_cons, List.map_nil, runV, roR]
            exact congrArg (fun v => L.map runV ++ [v]) HV.out
          have h2 : (L ++ [roR r]).length = L.length + 1 := by simp
          rw [HSN.out, if_neg (by simpa using h0), h2, ← h1]
          exact ⟨hS2, hO.as _⟩
        case measure => simp [intOf]; omega
    · obtain rfl : k = rs.length := by omega
      rw [List.take_length] at hSl hO hll
      clear hn1
      have hLb : (live rs).length ≤ 5864062014805 := by omega
      have hA : HeapAt hb (live rs).length (fOf (live rs)) (pt hb (.cells #[.slice a (live rs).length cap] 85 (0, 0)) ++ S) := ⟨a, cap, S, by rw [rows_fOf]; exact hSl, rfl⟩
      replace hO := hO.as ((pt hb (.cells #[.slice a (live rs).length cap] 85 (0, 0)) ++ S) ++ (I ++ (A ++ R)))
      have hI := live_in hOk
      have hM := MInv.start hOk hRi
      generalize (pt hb (.cells #[.slice a (live rs).length cap] 85 (0, 0)) ++ S) = A1 at hA hO
      have hne := live_ne rs
      generalize fOf (live rs) = f at hA hI hM hne
      generalize (live rs).length = N at hA hI hM hne hLb
      clear hSl hll
      go_wp2_with fail
      refine (hInit E _ _ _ A1 I hb N f hA hI hLb hne hO).mono ?_
      rintro e w1 ⟨f1, A1, rfl, hA1, hH1, hS1, hO⟩
      have hI1 := RunsIn.sm hI (Nat.le_refl _) hS1
      have hM1 := hM f1 hH1 hS1
      clear hA hM hS1 hH1 hI hne
      have hO2 := hO
      clear hO
      have HT : ∃ T : ByteArray → Nat, (fun x => List.count x (rs.map RO.l).flatten) = T := ⟨_, rfl⟩
      obtain ⟨T, HT⟩ := HT
      rw [HT] at hM1
      replace HT : Hid (∀ x, T x = List.count x (rs.map RO.l).flatten) := Lib.hid fun x => by rw [← HT]
      generalize (rs.map RO.l).flatten.length = nt at hM1 ht
      go_wp2_with fail
      go_loopw [6] (fun s6 wr => ∃ (oa : Option Addr) (ocap : Nat) (out : List ByteArray) (O : Fr) (f : Nat → Run) (N : Nat) (A' : Fr), s6 = .slice oa out.length ocap ∧ Sl 9 1 oa out.length ocap (out.map .string) O ∧ MInv T nt out f N ∧ RunsIn E I f N ∧ N ≤ 5864062014805 ∧ HeapAt hb N f A' ∧ Own E wr (O ++ (A' ++ (A ++ (I ++ R))))) (fun s6 _ => nt - lenS s6)
      case atStart => exact ⟨none, 0, [], [], f1, N, A1, rfl, Sl.nil _ _, hM1, hI1, hLb, hA1, hO2.as _⟩
      case round =>
        clear hO2 hM1 hI1 hLb hA1
        obtain ⟨oa, ocap, out, O, f, N, A1, rfl, hOut, hM, hI, hN, hA, hO⟩ := hrel
        cases N with
        | zero =>
          obtain ⟨a, cap, S, hSl, rfl⟩ := hA
          ((try simp only [List.nil_append, List.append_nil] at hO); have hF := Own.cells hO; simp only [cellsOf_append, cellsOf_pt] at hF)
          go_wp2_with fail
          go_ret
          obtain ⟨d1, d2, _⟩ := hM.done
          exact ⟨oa, ocap, out, O, rfl, hOut, d1, fun x => by rw [d2, HT.out x], hO.as _⟩
        | succ N =>
          have hn1 : (0 : Int) < (N + 1 : Nat) := by omega
          have hl := hM.ln
          obtain ⟨M, hM0⟩ : ∃ M, M = N + 1 := ⟨_, rfl⟩
          rw [← hM0] at hA hI hM hN hn1 hl
          have h0M : 0 < M := by omega
          obtain ⟨a, cap, S, hSl, rfl⟩ := hA
          obtain ⟨b, rfl⟩ := sl_some8 hSl (by omega)
          obtain ⟨rest, rfl⟩ := sl_open8 hSl
          obtain ⟨hS1, he1⟩ := sl_set8 hSl 0 (by rw [rows_length]; omega) (runV (tl (f 0)))
          rw [rows_put0] at hS1 he1
          have hr0 : (rows f M ++ rest).toArray[0]? = some (runV (f 0)) := by rw [List.getElem?_toArray, List.getElem?_append_left (by rw [rows_length]; omega), rows_get _ _ _ h0M]
          have hsz : Hid (0 < (rows f M ++ rest).toArray.size) := Lib.hid (by rw [List.size_toArray, List.length_append, rows_length]; omega)
          have hne := hM.ne 0 h0M
          have hcp := hM.cp 0 h0M
          have hcell := hI 0 h0M wr (hO.as I) 0 (List.length_pos_iff.2 hne)
          obtain ⟨s, t, hst⟩ : ∃ s t, (f 0).l = s :: t := by cases h : (f 0).l with | nil => exact absurd h hne | cons s t => exact ⟨s, t, rfl⟩
          unfold CapOk at hcp
          generalize hrw : (rows f M ++ rest).toArray = row at hO hr0 hsz he1
          generalize hrw2 : (rows (put0 f (tl (f 0))) M ++ rest).toArray = row2 at he1 hS1
          simp only [runV, tl, hst, List.length_cons, List.getElem_cons_zero, Addr.add_zero', List.tail_cons] at hr0 he1 hcell hcp
          have HE := Lib.hid he1
          have HST := Lib.hid hst
          have hst0 := hst
          have HOUT := Lib.hid hOut
          clear he1 hSl hst hne
          generalize (f 0).ad = ad at hr0 hcell HE
          generalize (f 0).cap = rc at hr0 hcp HE
          have hc1 : (1 : Int) ≤ t.length + 1 := by omega
          have hc2 : (t.length : Int) + 1 ≤ rc := by omega
          have hto := tot_le (fun k => (f k).l.length) 0 M h0M
          simp only [hst0, List.length_cons] at hto
          have hc3 : (t.length : Int) ≤ 140737488355328 := by omega
          have hlo : out.length < nt := by omega
          have hlt : out.length ≤ 5864062014805 := by omega
          have HM0 := Lib.hid hM0
          have HLO := Lib.hid hlo
          clear hl hM0 hcp hto hst0 hlo
          ((try simp only [List.nil_append, List.append_nil] at hO); have hF := Own.cells hO; simp only [cellsOf_append, cellsOf_pt] at hF)
          go_wp2_with (first | (refine at_bs ?_; go_must (refine own_build1 (v := ?_) sltStrs8 hO ?_ ?_ ?_ ?_ ?_ ?_; rotate_left; (· rfl); (· ((conv => lhs; whnf); try exact rfl)); (· rfl); (· decide); (· decide); clear hO; (try clear hF); intro bs _ hO; (try simp only [Value.cells] at hO); ((try simp only [List.nil_append, List.append_nil] at hO); have hF := Own.cells hO; simp only [cellsOf_append, cellsOf_pt] at hF); simp only [Act.put, List.setIfInBounds_toArray, List.set_cons_zero, List.set_cons_succ])) | (refine at_append ?_; go_must ((refine own_append_elem (b1 := ?_) (cs := ?_) (e1 := ?_) (f1 := ?_) sltStrs8 hO ?_ ?_ ?_ HOUT.out ?_ ?_ ?_ ?_ ?_ ?_ ?_; rotate_left 4; (· rfl); (· rfl); (· rfl); (· exact inferInstance); (· rfl); (· intro u hu; simp at hu; subst hu; rfl); (· first | omega | (simp only [maxLen]; omega)); (· decide); (· first | omega | (simp only [maxLen]; omega)); clear hO; (try clear hF); intro a2 c2 A2 w2 hS2 hO; ((try simp only [List.nil_append, List.append_nil] at hO); have hF := Own.cells hO; simp only [cellsOf_append, cellsOf_pt] at hF); simp only [Act.put, List.setIfInBounds_toArray, List.set_cons_zero, List.set_cons_succ]))))
          clear hF
          refine region_k (fun w' => Own E w' (pt hb (.cells #[.slice (some ⟨b, 0, none⟩) M cap] 85 (0, 0)) ++ pt b (.cells row 23 (0, 0)))) 6 (.look 0 (.look 1 (.look 2 (.look 3 (.look 4 (.act 5 (.act 6 .done))))))) (by kernel_rfl) (by kernel_rfl) (fun _ _ d _ _ h => by cases d <;> exact h) ?_ ?_
          · exact hO.drew.as _
          replace hO := hO.drew
          generalize World.drew _ = w3 at hO ⊢
          (refine k_look (o := ?_) (v := ?_) ?_ ?_ ?_ ?_; rotate_left 2; (· ((conv => lhs; whnf); try exact rfl)); (· rfl); (· intro w' hO'; (have hF' := Own.cells hO'; simp only [cellsOf_append, cellsOf_pt] at hF'); go_simp; (try exact rfl)); simp only [Act.put, List.setIfInBounds_toArray, List.set_cons_zero, List.set_cons_succ])
          (refine k_look (o := ?_) (v := ?_) ?_ ?_ ?_ ?_; rotate_left 2; (· ((conv => lhs; whnf); try exact rfl)); (· rfl); (· intro w' hO'; (have hF' := Own.cells hO'; simp only [cellsOf_append, cellsOf_pt] at hF'); go_simp; (try exact rfl)); simp only [Act.put, List.setIfInBounds_toArray, List.set_cons_zero, List.set_cons_succ])
          (refine k_look (o := ?_) (v := ?_) ?_ ?_ ?_ ?_; rotate_left 2; (· ((conv => lhs; whnf); try exact rfl)); (· rfl); (· intro w' hO'; (have hF' := Own.cells hO'; simp only [cellsOf_append, cellsOf_pt] at hF'); go_simp; (try exact rfl)); simp only [Act.put, List.setIfInBounds_toArray, List.set_cons_zero, List.set_cons_succ])
          (refine k_look (o := ?_) (v := ?_) ?_ ?_ ?_ ?_; rotate_left 2; (· ((conv => lhs; whnf); try exact rfl)); (· rfl); (· intro w' hO'; (have hF' := Own.cells hO'; simp only [cellsOf_append, cellsOf_pt] at hF'); go_simp; (try exact rfl)); simp only [Act.put, List.setIfInBounds_toArray, List.set_cons_zero, List.set_cons_succ])
          (refine k_look (o := ?_) (v := ?_) ?_ ?_ ?_ ?_; rotate_left 2; (· ((conv => lhs; whnf); try exact rfl)); (· rfl); (· intro w' hO'; (have hF' := Own.cells hO'; simp only [cellsOf_append, cellsOf_pt] at hF'); go_simp; (try exact rfl)); simp only [Act.put, List.setIfInBounds_toArray, List.set_cons_zero, List.set_cons_succ])
          have hda : (if rc = 1 then some ad else some { block := ad.block, off := ad.off + 1 }) = some (if rc = 1 then ad else ad.add 1) := by split <;> simp [Addr.add]
          rw [hda]
          clear hda
          generalize (if rc = 1 then ad else ad.add 1) = ad2 at HE ⊢
          (refine k_act (o := ?_) ?_ ?_; rotate_left; (· ((conv => lhs; whnf); try exact rfl)))
          go_wp2_with fail
          refine ⟨hO.as _, ?_⟩
          (refine k_act (o := ?_) ?_ ?_; rotate_left; (· ((conv => lhs; whnf); try exact rfl)))
          go_wp2_with (first | (refine own_store (v := ?_) (off := 0) (b := b) hO ?_ ?_ ?_ ?_ ?_ ?_ ?_; rotate_left; (· rfl); (· ((conv => lhs; whnf); try exact rfl)); (· ((conv => lhs; whnf); try exact rfl)); (· simp [Value.cells]); (· simp [Value.cells, Value.oneCell']); (· have hrs := hsz.out; simp [Value.cells]; omega); clear hO; (try clear hF); intro _ hO; (try simp only [splice, Value.cells] at hO); ((try simp only [List.nil_append, List.append_nil] at hO); have hF := Own.cells hO; simp only [cellsOf_append, cellsOf_pt] at hF); simp only [Act.put, List.setIfInBounds_toArray, List.set_cons_zero, List.set_cons_succ]))
          (try simp only [splice, Value.cells, List.setIfInBounds_toArray, List.set_cons_zero, List.set_cons_succ] at hO)
          refine k_done ?_
          have hst := HST.out
          have hhd : hdR (f 0) = s := by unfold hdR; rw [hst]; rfl
          have hrt : runV (tl (f 0)) = .slice (some (tl (f 0)).ad) t.length (tl (f 0)).cap := by
            unfold runV
            rw [show (tl (f 0)).l = t by simp [tl, hst]]
          have htl : (f 0).l.tail = t := by rw [hst]; rfl
          rw [HE.out] at hO
          have hA2 : HeapAt hb M (put0 f (tl (f 0))) (pt hb (.cells #[.slice (some ⟨b, 0, none⟩) M cap] 85 (0, 0)) ++ pt b (.cells row2 23 (0, 0))) := ⟨_, cap, _, hS1, rfl⟩
          replace hO := hO.as ((pt hb (.cells #[.slice (some ⟨b, 0, none⟩) M cap] 85 (0, 0)) ++ pt b (.cells row2 23 (0, 0))) ++ (I ++ (A2 ++ (A ++ R))))
          have hI2 := RunsIn.put hI hM.cp
          have hput := hM.put.2.2.2
          have hca := sl_get8 hS1 hO 0 (runV (tl (f 0))) (rows_get _ _ _ h0M)
          rw [hrt] at hca
          generalize (tl (f 0)).ad = ad3 at hca
          generalize (tl (f 0)).cap = rc3 at hca
          have hr2 := (hO.cell (b := b) 0).symm.trans hca
          clear hca
          have hlen : (out ++ [s]).length = out.length + 1 := by simp
          rw [show out.map Value.string ++ [Value.string s] = (out ++ [s]).map Value.string by rw [List.map_append]; rfl] at hS2
          clear hF hc1 hc2 hc3 hcell hr0
          ((try simp only [List.nil_append, List.append_nil] at hO); have hF := Own.cells hO; simp only [cellsOf_append, cellsOf_pt] at hF)
          cases t with
          | nil =>
            go_wp2_with fail
            obtain rfl := HM0.out
            refine (hPop E _ _ _ _ I hb N _ hA2 hI2 hN ?_ hput hO).mono ?_
            · intro k hk0 hk1
              rw [show put0 f (tl (f 0)) k = f k from if_neg (by omega)]
              exact hM.ne k hk1
            rintro e w5 ⟨v, f5, A5, rfl, hA5, hH5, hS5, hO⟩
            go_wp2_with fail
            go_roundw
            case rel =>
              have hM5 := hM.pop htl hH5 hS5
              have hI4 := RunsIn.sm hI2 (Nat.le_refl _) ((Sm.refl _ (N + 1)).swp (i := 0) (j := N) (by omega) (by omega))
              have hI5 : RunsIn E I f5 N := fun k hk => RunsIn.sm hI4 (Nat.le_succ N) hS5 k (by omega)
              rw [hhd] at hM5
              rw [← hlen] at hS2 ⊢
              exact ⟨a2, c2, out ++ [s], A2, f5, N, A5, rfl, hS2, hM5, hI5, by omega, hA5, hO.as _⟩
            case measure =>
              have := HLO.out
              simp [lenS]
              omega
          | cons s2 t2 =>
            go_wp2_with fail
            refine (hFix0 E _ _ _ _ I hb M _ hA2 hI2 hN ?_ hput hO).mono ?_
            · intro k hk1
              unfold put0
              split
              · simp [tl, hst]
              · exact hM.ne k hk1
            rintro e w5 ⟨f5, A5, rfl, hA5, hH5, hS5, hO⟩
            go_wp2_with fail
            go_roundw
            case rel =>
              have hM5 := hM.fix h0M (by rw [htl]; simp) hH5 hS5
              rw [hhd] at hM5
              rw [← hlen] at hS2 ⊢
              exact ⟨a2, c2, out ++ [s], A2, f5, M, A5, rfl, hS2, hM5, RunsIn.sm hI2 (Nat.le_refl _) hS5, hN, hA5, hO.as _⟩
            case measure =>
              have := HLO.out
              simp [lenS]
              omega
end Go.Proofs.Ytnfclieaendgeaa
