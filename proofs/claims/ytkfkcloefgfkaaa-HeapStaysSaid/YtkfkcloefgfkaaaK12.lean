/- Layer 7: HeapStays. -/
import Derived.Test.YtkfkcloefgfkaaaK11
set_option linter.all false
/- Layer 7: HeapStays. -/
namespace Go.Proofs.Ytkfkcloefgfkaaa
open Go Go.RowKit Go.Own Go.Dk

def TxtIn7 (E : World) (I : Fr) (sa : Option Addr) (l : List ByteArray) : Prop := ∀ (Y : Fr) (w : World), Own E w (I ++ Y) → ∀ i (hi : i < l.length), ∃ ad, sa = some ad ∧ w.cell? (ad.add i) = some (.string (l[i]'hi))
theorem txt_new7 {E : World} {sa : Option Addr} {L : List ByteArray} (h : StrsAt E sa L) : TxtIn7 E (oldFr E) sa L := by
  intro Y w hO i hi
  obtain ⟨ad, h1, _⟩ := h i hi
  subst h1
  exact ⟨ad, rfl, h.cell hO i hi⟩
def nm7 (i : Nat) : ByteArray := ⟨#[115, 116, 97, 121, 115, 32, 65 + UInt8.ofNat i]⟩
theorem nm7_eq (i : Nat) : (⟨#[115, 116, 97, 121, 115, 32]⟩ ++ ⟨#[65 + UInt8.ofNat i]⟩ : ByteArray) = nm7 i := by
  apply ByteArray.ext
  rw [ByteArray.data_append]
  rfl
def stayL : Nat → List Nat → List Cell
  | _, [] => []
  | i, t :: r => (t, ⟨1, nm7 i⟩) :: stayL (i + 1) r
theorem stayL_snoc (t : Nat) : ∀ (i : Nat) (l : List Nat), stayL i (l ++ [t]) = stayL i l ++ [(t, ⟨1, nm7 (i + l.length)⟩)]
  | _, [] => rfl
  | i, x :: r => by
    show _ :: stayL (i + 1) (r ++ [t]) = _ :: _
    rw [stayL_snoc t (i + 1) r, show i + 1 + r.length = i + (x :: r).length by simp; omega]
    rfl
theorem stayL_mem : ∀ {i : Nat} {l : List Nat} {k : Nat} (hk : k < l.length), (l[k]'hk, (⟨1, nm7 (i + k)⟩ : Slot)) ∈ stayL i l
  | i, x :: r, 0, _ => List.mem_cons_self ..
  | i, x :: r, k + 1, hk => by
    rw [show i + (k + 1) = i + 1 + k by omega]
    exact List.mem_cons_of_mem _ (stayL_mem (Nat.lt_of_succ_lt_succ hk))
theorem stayL_len : ∀ (i : Nat) (l : List Nat), (stayL i l).length = l.length
  | _, [] => rfl
  | i, _ :: r => congrArg (· + 1) (stayL_len (i + 1) r)
theorem i64_and31 (n : Int) : bits .and .i64 n 31 = n % 32 := by
  have h63 : (BitVec.ofInt 64 31).toNat = 2 ^ 5 - 1 := by decide
  have key : (BitVec.ofInt 64 n &&& BitVec.ofInt 64 31).toNat = (n % ((2 ^ 64 : Nat) : Int)).toNat % 2 ^ 5 := by
    rw [BitVec.toNat_and, BitVec.toNat_ofInt, h63, Nat.and_two_pow_sub_one_eq_mod]
  show IntKind.i64.wrap ((BitVec.ofInt 64 n &&& BitVec.ofInt 64 31).toNat : Nat) = n % 32
  rw [key, IntKind.wrap_i64]
  omega
theorem one_byte (b : UInt8) (j : Nat) : (#[Value.int .u8 b.toNat] : Array Value)[j]? = (bytesV [b])[j]? := by
  rw [← List.getElem?_toArray]
  rfl
def intV (l : List Nat) : List Value := l.map fun t : Nat => Value.int .i64 t
theorem intV_get (l : List Nat) (i : Nat) (h : i < (intV l).length) (h2 : i < l.length) : (intV l)[i]'h = .int .i64 (l[i]'h2) := List.getElem_map _
theorem slO_some {e : TypeId} {sz : Nat} {a : Option Addr} {n cap : Nat} {xs : List Value} {A : Fr} (h : SlO e sz a n cap xs A) (hn : 0 < n) : ∃ b p, a = some ⟨b, p, none⟩ := by
  rcases h.2.2.2 with ⟨_, hc, _⟩ | ⟨b, pre, rest, hb, _, _⟩
  · have := h.2.1; omega
  · exact ⟨b, _, hb⟩
theorem kf7 {W1 W2 W3 S os Z Z' : List Cell} {c0 c' : Cell} (h1 : W1.Perm (S ++ c0 :: os)) (h2 : W1.Perm (c0 :: Z)) (h3 : W2.Perm (c' :: Z)) (h4 : W2.Perm (c' :: Z')) (h5 : W3.Perm Z') : W3.Perm (S ++ os) := by
  have a1 : (c0 :: Z).Perm (c0 :: (S ++ os)) := h2.symm.trans (h1.trans List.perm_middle)
  have a2 : Z.Perm (S ++ os) := a1.cons_inv
  have a3 : Z'.Perm Z := (h4.symm.trans h3).cons_inv
  exact h5.trans (a3.trans a2)
set_option maxRecDepth 100000 in
set_option maxHeartbeats 16000000 in
theorem heapStays (E w : World) (X R RS : Fr) (n : Int) (sr : Option Addr) (nr cr : Nat) (rows : List ByteArray) (hR : TxtIn7 E RS sr rows) (hnr : rows.length = nr) (hn : nr ≤ 8796093022208) (hO : Own E w X) [hp : Pick X RS R] :
    Calls Try.prog 6 #[.int .i64 n, .slice sr nr cr] w fun e w' => e = .returned (.bool true) ∧ Own E w' X := by
  have hX : (RS ++ R).Perm X := hp.perm.symm
  have HR := Lib.hid hR
  have HNR := Lib.hid hnr
  clear hR hnr
  replace hO := hO.perm hp.perm
  clear hp
  have hand := i64_and31 n
  obtain ⟨m, hm, hmb⟩ : ∃ m : Nat, n % 32 = m ∧ m ≤ 31 := ⟨(n % 32).toNat, by omega, by omega⟩
  rw [hm] at hand
  clear hm
  go_enter Try.func6, Try.ntmps6
  go_wp2_with fail
  refine (beg7 E _ _ hO).mono ?_
  clear hO
  rintro e w1 ⟨s, d, a, A, rfl, hA, hO⟩
  go_wp2_with fail
  refine (hNew E _ _ _ A s d a _ st00 st00 4 (by decide) hA (by decide) hO).mono ?_
  clear hO hA
  rintro e w2 ⟨h, A, rfl, hA, hO⟩
  go_wp2_with fail
  have hO1 := hO
  have hA1 := hA
  clear hO hA hand
  go_loopw [12, 13] (fun at_ i wr => ∃ (k : Nat) (ats : List Nat) (so : Option Addr) (co : Nat) (SO A : Fr) (st : SSt) (hs : Hs), i = .int .i64 k ∧ k ≤ m ∧ at_ = .slice so k co ∧ ats.length = k ∧ Sl 3 1 so k co (intV ats) SO ∧ st.T ≤ k ∧ HInv st 4 hs ∧ (W hs).Perm (stayL 0 ats) ∧ Going s d a 4194305 st00 st A ∧ Own E wr (heapF h a 4 ++ (A ++ (SO ++ (RS ++ R))))) (fun _ i _ => m - (intOf i).toNat)
  case atStart => exact ⟨0, [], none, 0, [], A, st00, [], rfl, Nat.zero_le _, rfl, rfl, Sl.nil _ _, Nat.le_refl _, HInv.new rfl, List.Perm.refl _, hA1, hO1.as _⟩
  case round =>
    clear hO1 hA1
    obtain ⟨k, ats, so, co, SO, A, st, hs, rfl, hk, rfl, hl, hSO, hT, hI, hP, hA, hO⟩ := hrel
    by_cases hlt : k < m
    · have h1 : (k : Int) < m := by omega
      have h2 : wrap64 (65 + (k : Int)) = ((65 + k : Nat) : Int) := by unfold wrap64; omega
      have hb : ((65 : Int) + (k : Int)) = ((UInt8.ofNat (65 + k)).toNat : Int) := by
        rw [UInt8.toNat_ofNat']; omega
      have HB := Lib.hid hb
      clear hb
      go_wp2_with (first | (refine at_bs ?_; go_must (refine own_build1 (v := ?_) sltBytes hO ?_ ?_ ?_ ?_ ?_ ?_; rotate_left; (· rfl); (· ((conv => lhs; whnf); try exact rfl)); (· rfl); (· decide); (· decide); clear hO; (try clear hF); intro bs _ hO; (try simp only [Value.cells] at hO); ((try simp only [List.nil_append, List.append_nil] at hO); have hF := Own.cells hO; simp only [cellsOf_append, cellsOf_pt] at hF); simp only [Act.put, List.setIfInBounds_toArray, List.set_cons_zero, List.set_cons_succ])) | (refine at_conv (s := 81) ?_; go_must (rw [HB.out] at hO; refine own_bytes_str (e := 5) (ad := ?_) (n := ?_) (cap := ?_) (l := [UInt8.ofNat (65 + k)]) (by kernel_rfl) (by kernel_rfl) (by kernel_rfl) ?_ ?_ ?_ ?_ ?_ ?_; rotate_left 3; (· rfl); (· ((conv => lhs; whnf); try exact rfl)); (· rfl); (· intro b hb j v hj; cases hb; rw [add_lit, hO.cell (b := bs), Nat.zero_add]; exact (one_byte _ j).trans hj); (· intro h; cases h); simp only [Act.put, List.setIfInBounds_toArray, List.set_cons_zero, List.set_cons_succ])))
      rw [nm7_eq]
      refine (hInsert E _ _ _ A s d a _ h st00 st 4 (by decide) hs hI (nm7 k) hA (by decide) hO).mono ?_
      clear hO hA hF
      intro e w3 he
      obtain ⟨t, st2, hs2, A, rfl, hRi, hI2, hT2, hA, hO⟩ := he.ok (by show 0 < 7; decide) (by show 7 ≤ 400; decide) (by omega)
      obtain ⟨hP2, -, -, htb⟩ := hRi.wp hI hI2
      have hl2 : (ats ++ [t]).length = k + 1 := by rw [List.length_append, hl]; rfl
      have hP3 : (W hs2).Perm (stayL 0 (ats ++ [t])) := by
        rw [stayL_snoc, Nat.zero_add, hl]
        exact hP2.trans ((List.Perm.cons _ hP).trans (by simpa using (List.perm_append_comm (l₁ := [(t, (⟨1, nm7 k⟩ : Slot))]) (l₂ := stayL 0 ats))))
      have HP := Lib.hid hP3
      clear he hRi hP2 hP hP3
      go_wp2_with (first | (refine at_bs ?_; go_must (refine own_build1 (v := ?_) sltInts hO ?_ ?_ ?_ ?_ ?_ ?_; rotate_left; (· rfl); (· ((conv => lhs; whnf); try exact rfl)); (· rfl); (· decide); (· decide); clear hO; (try clear hF); intro bt _ hO; (try simp only [Value.cells] at hO); ((try simp only [List.nil_append, List.append_nil] at hO); have hF := Own.cells hO; simp only [cellsOf_append, cellsOf_pt] at hF); simp only [Act.put, List.setIfInBounds_toArray, List.set_cons_zero, List.set_cons_succ])) | (refine at_append ?_; go_must (refine own_append_elem (b1 := ?_) (cs := ?_) (e1 := ?_) (f1 := ?_) sltInts hO ?_ ?_ ?_ hSO ?_ ?_ ?_ ?_ ?_ ?_ ?_; rotate_left 4; (· rfl); (· rfl); (· rfl); (· exact inferInstance); (· rfl); (· intro u hu; simp at hu; subst hu; rfl); (· first | omega | (simp only [maxLen]; omega)); (· decide); (· first | omega | (simp only [maxLen]; omega)); clear hO; (try clear hF); intro so2 co2 SO2 w4 hSO2 hO; ((try simp only [List.nil_append, List.append_nil] at hO); have hF := Own.cells hO; simp only [cellsOf_append, cellsOf_pt] at hF); simp only [Act.put, List.setIfInBounds_toArray, List.set_cons_zero, List.set_cons_succ])))
      go_roundw
      case rel => exact ⟨k + 1, ats ++ [t], so2, co2, SO2, A, st2, hs2, by go_num, by omega, rfl, hl2, by rw [show intV (ats ++ [t]) = intV ats ++ [Value.int .i64 t] by simp [intV]]; exact hSO2, by omega, hI2, HP.out, hA, hO.as _⟩
      case measure => simp [intOf]; omega
    · obtain rfl : k = m := by omega
      have h1 : ¬ (k : Int) < k := by omega
      have HP := Lib.hid hP
      have HL := Lib.hid hl
      clear hlt hk hP hl
      go_wp2_with fail
      have hO1 := hO
      have hA1 := hA
      have hI1 := hI
      have hT1 := hT
      clear hO hA hI hT h1
      go_loopw [16, 17] (fun oth i wr => ∃ (j : Nat) (os : List Cell) (so2 : Option Addr) (co2 : Nat) (SO2 A : Fr) (st : SSt) (hs : Hs), i = .int .i64 j ∧ j ≤ nr ∧ j ≤ 200 ∧ oth = .slice so2 os.length co2 ∧ os.length ≤ 2 ∧ (∀ c ∈ os, c.2.st = 1) ∧ SlO 3 1 so2 os.length co2 (intV (os.map (·.1))) SO2 ∧ st.T ≤ 31 + j ∧ HInv st 4 hs ∧ (W hs).Perm (stayL 0 ats ++ os) ∧ Going s d a 4194305 st00 st A ∧ Own E wr (heapF h a 4 ++ (A ++ (SO2 ++ (SO ++ (RS ++ R)))))) (fun _ i _ => nr - (intOf i).toNat)
      case atStart => exact ⟨0, [], none, 0, [], A, st, hs, rfl, Nat.zero_le _, Nat.zero_le _, rfl, Nat.zero_le _, (fun _ h => (nomatch h)), (Sl.nil _ _).o, by omega, hI1, by rw [List.append_nil]; exact HP.out, hA1, hO1.as _⟩
      case round =>
        clear hO1 hA1 hI1 hT1 HP
        obtain ⟨j, os, so2, co2, SO2, A, st, hs, rfl, hj, hj2, rfl, hol, hos, hSO2, hT, hI, hP, hA, hO⟩ := hrel
        by_cases hlt : j < nr ∧ j < 200
        · obtain ⟨g1, g2⟩ := hlt
          have g3 : (j : Int) < nr := by omega
          have g4 : (j : Int) < 200 := by omega
          have g5 : (0 : Int) ≤ j := by omega
          have hnr := HNR.out
          obtain ⟨sb, rfl, -⟩ := HR.out (heapF h a 4 ++ (A ++ (SO2 ++ (SO ++ R)))) _ (hO.as _) j (by omega)
          obtain ⟨row, hrow⟩ : ∃ row, rows[j]? = some row := ⟨_, List.getElem?_eq_getElem (by omega)⟩
          have HROW : ∀ w, Own E w (heapF h a 4 ++ (A ++ (SO2 ++ (SO ++ (RS ++ R))))) → True := fun _ _ => trivial
          have hcell : ∀ (Y : Fr) (w : World), Own E w (RS ++ Y) → w.cell? (sb.add j) = some (.string row) := by
            intro Y w hO
            obtain ⟨ad, h1, h2⟩ := HR.out Y w hO j (by omega)
            cases h1
            rw [h2]
            congr 2
            obtain ⟨hh, e⟩ := List.getElem?_eq_some_iff.1 hrow
            exact e
          have HC := Lib.hid hcell
          clear hcell HROW
          have hc1 : wr.cell? (sb.add j) = some (.string row) := HC.out (heapF h a 4 ++ (A ++ (SO2 ++ (SO ++ R)))) _ (hO.as _)
          have HOS := Lib.hid hos
          have HP := Lib.hid hP
          have HB := Lib.hid (And.intro g1 g2)
          clear hos hP hj hj2 g1 g2 hrow hnr
          go_wp2_with fail
          refine (hInsert E _ _ _ A s d a _ h st00 st 4 (by decide) hs hI row hA (by decide) hO).mono ?_
          clear hO hA hc1
          intro e w3 he
          by_cases hrs : 0 < row.size ∧ row.size ≤ 400
          · obtain ⟨t, st2, hs2, A, rfl, hRi, hI2, hT2, hA, hO⟩ := he.ok hrs.1 hrs.2 (by have := HB.out; omega)
            obtain ⟨hP2, -, -, htb⟩ := hRi.wp hI hI2
            have hc2 : w3.cell? (sb.add j) = some (.string row) := HC.out (heapF h a 4 ++ (A ++ (SO2 ++ (SO ++ R)))) _ (hO.as _)
            have hp3 : (W hs2).Perm (stayL 0 ats ++ (os ++ [(t, ⟨1, row⟩)])) := by
              rw [← List.append_assoc]
              exact hP2.trans ((List.Perm.cons _ HP.out).trans (by simpa using (List.perm_append_comm (l₁ := [(t, (⟨1, row⟩ : Slot))]) (l₂ := stayL 0 ats ++ os))))
            have hos2 : ∀ c ∈ os ++ [(t, (⟨1, row⟩ : Slot))], c.2.st = 1 := by
              intro c hc
              rcases List.mem_append.1 hc with hc | hc
              · exact HOS.out c hc
              · rw [List.mem_singleton.1 hc]
            have HP2 := Lib.hid hp3
            have HOS2 := Lib.hid hos2
            have q1 : (1 : Int) ≤ row.size := by omega
            have q2 : (row.size : Int) ≤ 400 := by omega
            clear he hRi hP2 HP HOS hp3 hos2 hrs
            by_cases h2 : os.length = 2
            · obtain ⟨c0, c1, rfl⟩ : ∃ c0 c1, os = [c0, c1] := by
                match os, h2 with
                | [c0, c1], _ => exact ⟨c0, c1, rfl⟩
              clear h2 hol
              have hx0 : (c0.1, c0.2) ∈ W hs2 := HP2.out.mem_iff.2 (List.mem_append_right _ (List.mem_cons_self ..))
              have hx1 : c0.2.st = 1 := HOS2.out c0 (List.mem_cons_self ..)
              have hx2 := (W_bd hI2 hx0).2.1
              go_wp2_with (first | (refine at_bs ?_; go_must (refine own_build1 (v := ?_) sltInts hO ?_ ?_ ?_ ?_ ?_ ?_; rotate_left; (· rfl); (· ((conv => lhs; whnf); try exact rfl)); (· rfl); (· decide); (· decide); clear hO; (try clear hF); intro bt _ hO; (try simp only [Value.cells] at hO); ((try simp only [List.nil_append, List.append_nil] at hO); have hF := Own.cells hO; simp only [cellsOf_append, cellsOf_pt] at hF); simp only [Act.put, List.setIfInBounds_toArray, List.set_cons_zero, List.set_cons_succ])) | (refine at_append ?_; refine Stop.go ?_))
              refine ⟨?_⟩
              refine own_append_elemO (b1 := ?_) (cs := ?_) (e1 := ?_) (f1 := ?_) sltInts hO ?_ ?_ ?_ hSO2 ?_ ?_ ?_ ?_ ?_ ?_ ?_
              rotate_left 4
              · rfl
              · rfl
              · rfl
              · exact inferInstance
              · rfl
              · intro u hu; simp at hu; subst hu; rfl
              · first | omega | (show 2 * 8 ≤ 140737488355328; decide)
              · decide
              · simp only [maxLen]; first | omega | (show 2 < 2 ^ 63 - 1; decide)
              clear hO hF
              intro so3 co3 SO3 w4 hSO3 hO
              (try clear hc2)
              obtain ⟨ob, op, rfl⟩ := slO_some hSO3 (Nat.succ_pos _)
              have hc3 : w4.cell? ⟨ob, op, none⟩ = some (.int .i64 c0.1) := by
                have := hSO3.cell hO ⟨ob, op, none⟩ rfl 0 (by rw [hSO3.1]; exact Nat.succ_pos _)
                rw [add_lit] at this
                exact this
              simp only [Act.put, List.setIfInBounds_toArray, List.set_cons_zero, List.set_cons_succ]
              go_wp2_with fail
              refine (hKill E _ _ _ A s d a _ h st00 st2 4 (by decide) hs2 hI2 c0.1 (by omega) hA (by decide) hO).mono ?_
              clear hO hA hc3
              intro e w5 he
              obtain ⟨st3, hs3, A, rfl, hI3, hT3, -, -, -, ⟨Z, z1, z2⟩, hA, hO⟩ := he.ok hI2 hx0 hx1 (by decide)
              have hx3 : (c0.1, becS c0.2 2) ∈ W hs3 := z2.mem_iff.2 (List.mem_cons_self ..)
              have hc3 : w5.cell? ⟨ob, op, none⟩ = some (.int .i64 c0.1) := by
                have := hSO3.cell hO ⟨ob, op, none⟩ rfl 0 (by rw [hSO3.1]; exact Nat.succ_pos _)
                rw [add_lit] at this
                exact this
              clear he
              go_wp2_with fail
              refine (hFree E _ _ _ A s d a _ h st00 st3 4 (by decide) hs3 hI3 c0.1 (by omega) hA (by decide) hO).mono ?_
              clear hO hA hc3
              intro e w6 he
              obtain ⟨st4, hs4, A, rfl, hI4, hT4, -, -, -, ⟨Z', z3, z4⟩, hA, hO⟩ := he.ok hI3 hx3 rfl (by decide)
              have hp4 : (W hs4).Perm (stayL 0 ats ++ [c1, (t, ⟨1, row⟩)]) := kf7 HP2.out z1 z2 z3 z4
              have HP4 := Lib.hid hp4
              have hos4 : ∀ c ∈ [c1, (t, (⟨1, row⟩ : Slot))], c.2.st = 1 := fun c hc => HOS2.out c (List.mem_cons_of_mem _ hc)
              have HOS4 := Lib.hid hos4
              have hSO4 : SlO 3 1 (some (Addr.add ⟨ob, op, none⟩ 1)) 2 (co3 - 1) (intV ([c1, (t, (⟨1, row⟩ : Slot))].map (·.1))) SO3 := hSO3.tail
              have hcap := hSO3.2.1
              clear he z1 z2 z3 z4 hp4 hos4
              go_wp2_with fail
              go_roundw
              case rel =>
                rw [if_neg (show ¬ co3 = 1 by have : 2 + 1 ≤ co3 := hcap; omega)]
                exact ⟨j + 1, [c1, (t, ⟨1, row⟩)], _, _, SO3, A, st4, hs4, by go_num, by have := HB.out; omega, by have := HB.out; omega, rfl, Nat.le_refl _, HOS4.out, hSO4, by omega, hI4, HP4.out, hA, hO.as _⟩
              case measure => have := HB.out; simp [intOf]; omega
            · have hol1 : os.length ≤ 1 := by omega
              have g7 : ¬ (2 : Int) < (os.length : Int) + 1 := by omega
              clear h2 hol
              go_wp2_with (first | (refine at_bs ?_; go_must (refine own_build1 (v := ?_) sltInts hO ?_ ?_ ?_ ?_ ?_ ?_; rotate_left; (· rfl); (· ((conv => lhs; whnf); try exact rfl)); (· rfl); (· decide); (· decide); clear hO; (try clear hF); intro bt _ hO; (try simp only [Value.cells] at hO); ((try simp only [List.nil_append, List.append_nil] at hO); have hF := Own.cells hO; simp only [cellsOf_append, cellsOf_pt] at hF); simp only [Act.put, List.setIfInBounds_toArray, List.set_cons_zero, List.set_cons_succ])) | (refine at_append ?_; refine Stop.go ?_))
              refine ⟨?_⟩
              refine own_append_elemO (b1 := ?_) (cs := ?_) (e1 := ?_) (f1 := ?_) sltInts hO ?_ ?_ ?_ hSO2 ?_ ?_ ?_ ?_ ?_ ?_ ?_
              rotate_left 4
              · rfl
              · rfl
              · rfl
              · exact inferInstance
              · rfl
              · intro u hu; simp at hu; subst hu; rfl
              · first | omega | (show 2 * 8 ≤ 140737488355328; decide)
              · decide
              · simp only [maxLen]; first | omega | (show 2 < 2 ^ 63 - 1; decide)
              clear hO hF
              intro so3 co3 SO3 w4 hSO3 hO
              (try clear hc2)
              simp only [Act.put, List.setIfInBounds_toArray, List.set_cons_zero, List.set_cons_succ]
              go_wp2_with fail
              go_roundw
              case rel =>
                refine ⟨j + 1, os ++ [(t, ⟨1, row⟩)], so3, co3, SO3, A, st2, hs2, by go_num, by have := HB.out; omega, by have := HB.out; omega, by rw [List.length_append]; rfl, by rw [List.length_append]; show os.length + 1 ≤ 2; omega, HOS2.out, ?_, by omega, hI2, HP2.out, hA, hO.as _⟩
                rw [List.length_append, List.map_append, show intV (os.map (·.1) ++ [(t, (⟨1, row⟩ : Slot))].map (·.1)) = intV (os.map (·.1)) ++ [Value.int .i64 t] by simp [intV]]
                exact hSO3
              case measure => have := HB.out; simp [intOf]; omega
          · obtain ⟨rfl, A, hA, hO⟩ := he.no (by omega)
            have hc2 : w3.cell? (sb.add j) = some (.string row) := HC.out (heapF h a 4 ++ (A ++ (SO2 ++ (SO ++ R)))) _ (hO.as _)
            have g7 : ¬ (2 : Int) < (os.length : Int) := by omega
            clear he
            have hq : (1 : Int) ≤ row.size ∧ ¬ (row.size : Int) ≤ 400 ∨ ¬ (1 : Int) ≤ row.size := by omega
            clear hrs
            rcases hq with ⟨q1, q2⟩ | q1
            all_goals (
              go_wp2_with fail
              go_roundw
              case rel => exact ⟨j + 1, os, so2, co2, SO2, A, st, hs, by go_num, by have := HB.out; omega, by have := HB.out; omega, rfl, hol, HOS.out, hSO2, by omega, hI, HP.out, hA, hO.as _⟩
              case measure => have := HB.out; simp [intOf]; omega)
        · have hcase : (¬ (j : Int) < nr) ∨ ((j : Int) < nr ∧ ¬ (j : Int) < 200) := by omega
          have hmem : ∀ i (hi : i < ats.length), (ats[i]'hi, (⟨1, nm7 i⟩ : Slot)) ∈ W hs := fun i hi => hP.mem_iff.2 (List.mem_append_left _ (by have := stayL_mem (i := 0) hi; rwa [Nat.zero_add] at this))
          have hbd : ∀ i (hi : i < ats.length), (ats[i]'hi) < 64 * (st.T + 1) := fun i hi => (W_bd hI (hmem i hi)).2.1
          have hall : ∀ c ∈ stayL 0 ats ++ os, (c.2.st != 0) = true := fun c hc => bne_iff_ne.2 (W_bd hI (hP.mem_iff.2 hc)).2.2.1
          have hcnt : (allT (· != 0) hs).length = k + os.length := by
            rw [allT_W _ rfl, List.length_map, (hP.filter _).length_eq, List.filter_eq_self.2 hall, List.length_append, stayL_len, HL.out]
          have HM := Lib.hid hmem
          have HBD := Lib.hid hbd
          have hTb : st.T ≤ 300 := by omega
          clear hlt hmem hbd hall hP hj hj2 hos hT hSO2
          rcases hcase with g3 | ⟨g3, g4⟩
          all_goals (
            go_wp2_with fail
            have hO1 := hO
            have hA1 := hA
            clear hO hA
            go_loopw [20] (fun i wr => ∃ (i' : Nat) (A : Fr), i = .int .i64 i' ∧ i' ≤ k ∧ Going s d a 4194305 st00 st A ∧ Own E wr (heapF h a 4 ++ (A ++ (SO2 ++ (SO ++ (RS ++ R)))))) (fun i _ => k - (intOf i).toNat)
            case atStart => exact ⟨0, A, rfl, Nat.zero_le _, hA1, hO1⟩
            case round =>
              clear hO1 hA1
              obtain ⟨i, A, rfl, hi, hA, hO⟩ := hrel
              by_cases hlt : i < k
              · have f1 : (i : Int) < k := by omega
                have f2 : (0 : Int) ≤ i := by omega
                have hia : i < ats.length := by rw [HL.out]; exact hlt
                obtain ⟨t, ht⟩ : ∃ t, ats[i]'hia = t := ⟨_, rfl⟩
                have hx := HM.out i hia
                have htb := HBD.out i hia
                rw [ht] at hx htb
                obtain ⟨ab, rfl⟩ := sl_some4 hSO (by omega)
                have hc1 : wr.cell? ⟨ab, i, none⟩ = some (.int .i64 t) := by
                  have hlj : i < (intV ats).length := by unfold intV; rw [List.length_map]; exact hia
                  have := hSO.cell hO ⟨ab, 0, none⟩ rfl i hlj
                  rw [add_lit, Nat.zero_add] at this
                  rw [this]
                  rw [intV_get ats i hlj hia, ht]
                clear ht
                go_wp2_with fail
                refine (hGet E _ _ _ A s d a _ h st00 st 4 (by decide) hs hI t (by omega) hA (by decide) hO).mono ?_
                clear hO hA hc1
                intro e w3 he
                obtain ⟨rfl, A, hA, hO⟩ := he.ok hI hx
                have h2 : wrap64 (65 + (i : Int)) = ((65 + i : Nat) : Int) := by unfold wrap64; omega
                have hb : ((65 : Int) + (i : Int)) = ((UInt8.ofNat (65 + i)).toNat : Int) := by
                  rw [UInt8.toNat_ofNat']; omega
                have HB2 := Lib.hid hb
                have hs7 : (!(nm7 i).toList == (⟨#[115, 116, 97, 121, 115, 32]⟩ ++ ⟨#[65 + UInt8.ofNat i]⟩ : ByteArray).toList) = false := by
                  rw [nm7_eq, beq_self_eq_true]; rfl
                have HI := Lib.hid hlt
                clear he hb hx hlt
                go_wp2_with (first | (refine at_bs ?_; go_must (refine own_build1 (v := ?_) sltBytes hO ?_ ?_ ?_ ?_ ?_ ?_; rotate_left; (· rfl); (· ((conv => lhs; whnf); try exact rfl)); (· rfl); (· decide); (· decide); clear hO; (try clear hF); intro bs _ hO; (try simp only [Value.cells] at hO); ((try simp only [List.nil_append, List.append_nil] at hO); have hF := Own.cells hO; simp only [cellsOf_append, cellsOf_pt] at hF); simp only [Act.put, List.setIfInBounds_toArray, List.set_cons_zero, List.set_cons_succ])) | (refine at_conv (s := 81) ?_; go_must (rw [HB2.out] at hO; refine own_bytes_str (e := 5) (ad := ?_) (n := ?_) (cap := ?_) (l := [UInt8.ofNat (65 + i)]) (by kernel_rfl) (by kernel_rfl) (by kernel_rfl) ?_ ?_ ?_ ?_ ?_ ?_; rotate_left 3; (· rfl); (· ((conv => lhs; whnf); try exact rfl)); (· rfl); (· intro b hb j v hj; cases hb; rw [add_lit, hO.cell (b := bs), Nat.zero_add]; exact (one_byte _ j).trans hj); (· intro h; cases h); simp only [Act.put, List.setIfInBounds_toArray, List.set_cons_zero, List.set_cons_succ])))
                have hlt := HI.out
                go_roundw
                case rel => exact ⟨i + 1, A, by go_num, by omega, hA, hO.as _⟩
                case measure => simp [intOf]; omega
              · have f1 : ¬ (i : Int) < k := by omega
                have hb1 : ((allT (· != 0) hs).length : Int) = (k : Int) + os.length := by rw [hcnt]; omega
                have hw : wrap64 ((k : Int) + os.length) = (k : Int) + os.length := by unfold wrap64; omega
                clear hcnt
                go_wp2_with fail
                refine (hTids E _ _ _ A s d a _ h st00 st 4 (by decide) hs hI hA (by decide) hO).mono ?_
                clear hO hA
                rintro e w7 ⟨so7, co7, SO7, A, rfl, -, hA, hO⟩
                rw [srt_length]
                go_wp2_with fail
                refine (awake7 E _ _ hO).mono ?_
                clear hO
                rintro e w8 ⟨rfl, hO⟩
                go_wp2_with fail
                go_ret
                exact ⟨rfl, (hO.as (RS ++ R)).perm hX⟩)
end Go.Proofs.Ytkfkcloefgfkaaa
