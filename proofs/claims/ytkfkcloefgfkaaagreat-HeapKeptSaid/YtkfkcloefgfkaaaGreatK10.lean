/- Heap: room. -/
import Derived.Test.YtkfkcloefgfkaaaGreatK9
import Derived.Test.YtkfkcloefgfkaaaGreatK8
set_option linter.all false
/- Heap: room. -/
namespace Go.Own
open Go Go.RowKit
section
variable {P : Program} {ops : Array Oper} {Q : Exit → Act → World → Prop} {rest : List Oper} {a : Act} {E w : World} {X A R : Fr} {d : Option Tmp} {ty : TypeId} {pos : String} {aft : Array Edge} {g : Option (Nat × Bool)}
/-- A store into an element of a slice that owns its row. -/
theorem own_storeSl {t e : TypeId} {x y : Operand} {v : Value} {b i n cap sz : Nat} {xs : List Value} (hO : Own E w X) (hw : Region.wanted ⟨d, .store t x y, ty, pos, aft, g⟩ (yielded ops a.tmps) = true)
    (hx : a.eval x = .pointer (some ⟨b, i * sz, none⟩)) (hy : a.eval y = v) (hv : Sl e sz (some ⟨b, 0, none⟩) n cap xs A) [hp : Pick X A R] (hi : i < n) (hsz : v.cells.toList.length = sz)
    (hs : (sizeOf t).run P w = .ok v.cells.size w) (h1 : ∀ u ∈ v.cells.toList, u.oneCell' = true)
    (next : ∀ w1 A', Sl e sz (some ⟨b, 0, none⟩) n cap (xs.take (i * sz) ++ v.cells.toList ++ xs.drop (i * sz + sz)) A' → Own E w1 (A' ++ R) → wpList P ops Q rest (a.put d undef) w1) :
    wpList P ops Q (⟨d, .store t x y, ty, pos, aft, g⟩ :: rest) a w := by
  obtain ⟨hl, hc, hm, h4⟩ := hv
  rcases h4 with ⟨h, _, _⟩ | ⟨b', tl, hb, hlen, rfl⟩
  · cases h
  · cases hb
    have hO1 := hO.perm hp.perm
    have hbd : (i + 1) * sz ≤ n * sz := Nat.mul_le_mul_right _ hi
    have hbe : (i + 1) * sz = i * sz + sz := Nat.succ_mul i sz
    have hvs : v.cells.size = sz := by rw [← hsz, Array.length_toList]
    refine own_store (v := v) (b := b) (off := i * sz) (cs := (xs ++ tl).toArray) (e := e) hO1 hw hx hy hs h1 (by rw [hvs]; show i * sz + sz ≤ (xs ++ tl).toArray.size; rw [List.size_toArray, hlen]; have := Nat.mul_le_mul_right sz hc; omega) fun w1 hO2 => ?_
    have hpre : (xs.take (i * sz)).length = i * sz := by rw [List.length_take]; omega
    have hsp : splice (xs ++ tl).toArray (i * sz) v.cells.toList = (xs.take (i * sz) ++ v.cells.toList ++ xs.drop (i * sz + sz) ++ tl).toArray := by
      have := splice_append v.cells.toList (xs.take (i * sz)) (xs.drop (i * sz) ++ tl) (by rw [List.length_append, List.length_drop]; omega)
      rw [← List.append_assoc, List.take_append_drop, hpre] at this
      rw [this, hsz, List.drop_append_of_le_length (by rw [List.length_drop]; omega), List.drop_drop]
      simp only [List.append_assoc]
    rw [hsp] at hO2
    refine next w1 _ ⟨?_, hc, hm, .inr ⟨b, tl, rfl, ?_, rfl⟩⟩ hO2
    · simp only [List.length_append, List.length_take, List.length_drop]; omega
    · rw [← hlen]
      simp only [List.length_append, List.length_take, List.length_drop]; omega
end
end Go.Own
namespace Go.Dk
open Go.Own Go.RowKit
theorem slV_set {l : List Slot} {i : Nat} (h : i < l.length) (x : Slot) : (slV l).take (i * 2) ++ slotV x ++ (slV l).drop (i * 2 + 2) = slV (l.set i x) := by
  have e : l = l.take i ++ (l[i] :: l.drop (i + 1)) := by rw [← List.drop_eq_getElem_cons h, List.take_append_drop]
  have h2 : (slV (l.take i)).length = i * 2 := by rw [slV_length, List.length_take, Nat.min_eq_left (by omega)]
  have e1 : slV l = slV (l.take i) ++ (slotV l[i] ++ slV (l.drop (i + 1))) := by
    conv => lhs; rw [e]
    rw [slV_app]
    rfl
  have e2 : slV (l.set i x) = slV (l.take i) ++ (slotV x ++ slV (l.drop (i + 1))) := by
    rw [List.set_eq_take_append_cons_drop, if_pos h, slV_app]
    rfl
  have e3 : (slV l).take (i * 2) = slV (l.take i) := by rw [e1, ← h2, List.take_left]
  have e4 : (slV l).drop (i * 2 + 2) = slV (l.drop (i + 1)) := by
    rw [← List.drop_drop, e1, ← h2, List.drop_left]
    rfl
  rw [e2, e3, e4, List.append_assoc]
/-- The first free slot, or the one behind all. -/
def freeAt (l : List Slot) : Nat := l.findIdx fun x => x.st == 0
theorem freeAt_le (l : List Slot) : freeAt l ≤ l.length := List.findIdx_le_length
/-- The slots with a row in one of them. -/
def roomL (l : List Slot) (row : ByteArray) : List Slot := if freeAt l < l.length then l.set (freeAt l) ⟨1, row⟩ else l ++ [⟨1, row⟩]
/-- Is there room? -/
def fits (next : Nat) (l : List Slot) (row : ByteArray) : Prop := freeAt l < 64 ∧ (pagP next (roomL l row)).length ≤ 512
instance (next : Nat) (l : List Slot) (row : ByteArray) : Decidable (fits next l row) := inferInstanceAs (Decidable (_ ∧ _))
theorem roomL_ok {l : List Slot} {row : ByteArray} (h : ∀ x ∈ l, SlotOk x) (hr : row.size ≤ 400) : ∀ x ∈ roomL l row, SlotOk x := by
  intro x hx
  unfold roomL at hx
  split at hx
  · rcases List.mem_or_eq_of_mem_set hx with hx | rfl
    · exact h x hx
    · exact ⟨(by decide : 1 ≤ 2), hr⟩
  · rcases List.mem_append.1 hx with hx | hx
    · exact h x hx
    · rw [List.mem_singleton] at hx
      subst hx
      exact ⟨(by decide : 1 ≤ 2), hr⟩
theorem roomL_len (l : List Slot) (row : ByteArray) : (roomL l row).length = if freeAt l < l.length then l.length else l.length + 1 := by
  unfold roomL
  split <;> simp
end Go.Dk
namespace Go.Proofs.YtkfkcloefgfkaaaGreat
open Go Go.RowKit Go.Own Go.Dk

set_option maxRecDepth 100000 in
set_option maxHeartbeats 16000000 in
theorem hRoom1 (E w : World) (X : Fr) (st : Nat) (row : ByteArray) (hO : Own E w X) :
    Calls Tryz.prog 135 #[.agg #[.int .i64 st, .string row]] w fun e w' => e = .returned (.bool ((st : Int) == 0)) ∧ Own E w' X := by
  go_enter Tryz.func135, Tryz.ntmps135
  go_wp2_with (first | (refine at_box ?_; go_must (refine own_box (v := ?_) hO ?_ ?_ ?_; rotate_left; (· rfl); (· ((conv => lhs; whnf); try exact rfl)); clear hO; (try clear hF); intro q _ hO; (try simp only [Value.cells] at hO); ((try simp only [List.nil_append, List.append_nil] at hO); have hF := Own.cells hO; simp only [cellsOf_append, cellsOf_pt] at hF); simp only [Act.put, List.setIfInBounds_toArray, List.set_cons_zero, List.set_cons_succ])))
  go_ret
  exact ⟨rfl, hO.as _⟩
theorem freeAt_hit {l : List Slot} {j : Nat} (h : j < l.length) (h0 : (l[j].st == 0) = true) (hb : ∀ i (hi : i < j), (l[i].st == 0) = false) : freeAt l = j := by
  unfold freeAt
  rw [List.findIdx_eq h]
  exact ⟨h0, fun i hi => by simpa using hb i hi⟩
theorem freeAt_miss {l : List Slot} (hb : ∀ i (hi : i < l.length), (l[i].st == 0) = false) : freeAt l = l.length := by
  unfold freeAt
  rw [List.findIdx_eq_length]
  intro x hx
  obtain ⟨i, hi, rfl⟩ := List.mem_iff_getElem.1 hx
  exact hb i hi
set_option maxRecDepth 100000 in
set_option maxHeartbeats 16000000 in
theorem hIndex (E w : World) (X R S : Fr) (sa : Option Addr) (cap : Nat) (l : List Slot) (hl : l.length ≤ 64) (hS : Sl 115 2 sa l.length cap (slV l) S) (hO : Own E w X) [hp : Pick X S R] :
    Calls Tryz.prog 134 #[.slice sa l.length cap, .func (.func 135) #[] #[]] w fun e w' => e = .returned (.int .i64 (if freeAt l < l.length then (freeAt l : Int) else -1)) ∧ Own E w' (S ++ R) := by
  replace hO := hO.perm hp.perm
  clear hp
  generalize hz : (if freeAt l < l.length then (freeAt l : Int) else -1) = z
  have HZ := Lib.hid hz
  clear hz
  have eg : ∀ args w, (callFunc 135 args).run Tryz.prog w = .ok (.enter 135 args) w := enters_of Tryz.func135 (by kernel_rfl) rfl
  go_enter Tryz.func134, Tryz.ntmps134
  go_wp2_with fail
  have hO1 := hO
  clear hO
  go_loopw [8] (fun s8 wr => ∃ j : Nat, s8 = .int .i64 j ∧ j ≤ l.length ∧ (∀ i (hi : i < l.length), i < j → (l[i].st == 0) = false) ∧ Own E wr (S ++ R)) (fun s8 _ => l.length - (intOf s8).toNat)
  case atStart => exact ⟨0, rfl, Nat.zero_le _, fun i hi h => absurd h (Nat.not_lt_zero i), hO1⟩
  case round =>
    clear hO1
    obtain ⟨j, rfl, hj, hbef, hO⟩ := hrel
    have HB := Lib.hid hbef
    clear hbef
    by_cases hlt : j < l.length
    · have hj1 : (j : Int) < l.length := by omega
      have hj2 : (0 : Int) ≤ j := by omega
      obtain ⟨sb, rfl⟩ := sl_some4 hS (Nat.lt_of_le_of_lt (Nat.zero_le _) hlt)
      have hsc := slot_at hS hO hlt
      have HSC := Lib.hid hsc
      have hx : ∃ x, l[j] = x ∧ ∀ h : j < l.length, l[j] = x := ⟨_, rfl, fun _ => rfl⟩
      obtain ⟨x, hx, hx2⟩ := hx
      rw [hx] at HSC
      have HX := Lib.hid hx2
      have HLT := Lib.hid hlt
      have hj6 : j < 1000000 := by omega
      have hwj := w64_add j 1 (by decide) (by decide) hj6
      have hwk := wi_add j 1 (by decide) (by decide) hj6
      clear hx hx2 hlt hsc
      have hcs : (((x.st : Int) == 0) = true ∧ (x.st == 0) = true) ∨ (((x.st : Int) == 0) = false ∧ (x.st == 0) = false) := by
        by_cases h : x.st = 0
        · exact .inl ⟨by simpa using h, by simpa using h⟩
        · exact .inr ⟨by simp; omega, by simpa using h⟩
      rcases hcs with ⟨hb1, hb2⟩ | ⟨hb1, hb2⟩
      · have HB2 := Lib.hid hb2
        clear hb2
        go_wp2_with (first | (refine at_load (t := 115) ?_; go_must (refine own_loadC (ad := ⟨sb, j * 2, none⟩) (cs := [.int .i64 x.st, .string x.row]) ?_ HSC.out ?_ ?_ ?_ ?_; (· rfl); (· ((conv => lhs; whnf); try exact rfl)); (· simp; done); (· simp; done); simp only [Act.put, List.setIfInBounds_toArray, List.set_cons_zero, List.set_cons_succ])) | (go_at_fn 135; refine (hRoom1 E _ _ x.st x.row hO).mono ?_; clear hO; rintro e w3 ⟨rfl, hO⟩))
        go_ret
        refine ⟨?_, hO⟩
        have hlt := HLT.out
        have h1 : freeAt l = j := freeAt_hit hlt (by rw [HX.out hlt]; exact HB2.out) fun i hi => HB.out i (Nat.lt_trans hi hlt) hi
        rw [← HZ.out, h1, if_pos hlt]
        rfl
      · have HB2 := Lib.hid hb2
        clear hb2
        go_wp2_with (first | (refine at_load (t := 115) ?_; go_must (refine own_loadC (ad := ⟨sb, j * 2, none⟩) (cs := [.int .i64 x.st, .string x.row]) ?_ HSC.out ?_ ?_ ?_ ?_; (· rfl); (· ((conv => lhs; whnf); try exact rfl)); (· simp; done); (· simp; done); simp only [Act.put, List.setIfInBounds_toArray, List.set_cons_zero, List.set_cons_succ])) | (go_at_fn 135; refine (hRoom1 E _ _ x.st x.row hO).mono ?_; clear hO; rintro e w3 ⟨rfl, hO⟩))
        go_roundw
        case rel =>
          refine ⟨j + 1, by go_num, HLT.out, fun i hi h => ?_, hO⟩
          by_cases hij : i = j
          · subst hij
            rw [HX.out hi]
            exact HB2.out
          · exact HB.out i hi (by omega)
        case measure => have := HLT.out; simp [intOf]; omega
    · obtain rfl : j = l.length := Nat.le_antisymm hj (Nat.le_of_not_lt hlt)
      have hjj : ¬ (l.length : Int) < l.length := by omega
      clear hj hlt
      go_wp2_with fail
      go_ret
      refine ⟨?_, hO⟩
      have h1 : freeAt l = l.length := freeAt_miss fun i hi => HB.out i hi hi
      rw [← HZ.out, h1, if_neg (Nat.lt_irrefl _)]
      rfl
end Go.Proofs.YtkfkcloefgfkaaaGreat

/- Heap: room. -/
namespace Go.Proofs.YtkfkcloefgfkaaaGreat
open Go Go.RowKit Go.Own Go.Dk

def HRoomP (E : World) (next : Nat) (l : List Slot) (row : ByteArray) (R : Fr) (e : Ending) (w' : World) : Prop :=
  (¬ fits next l row ∧ e = .returned (.tuple #[.slice none 0 0, .int .i64 (-1)]) ∧ Own E w' R) ∨
  (fits next l row ∧ ∃ (sa : Option Addr) (cap : Nat) (S : Fr), e = .returned (.tuple #[.slice sa (roomL l row).length cap, .int .i64 (freeAt l : Nat)]) ∧ Sl 115 2 sa (roomL l row).length cap (slV (roomL l row)) S ∧ Own E w' (S ++ R))
set_option maxRecDepth 100000 in
set_option maxHeartbeats 16000000 in
theorem hRoom (E w : World) (X R S : Fr) (next : Nat) (l : List Slot) (row : ByteArray) (sa : Option Addr) (cap : Nat) (hn : next < 4096) (hl : l.length ≤ 64) (hok : ∀ x ∈ l, SlotOk x) (hrow : row.size ≤ 400) (hS : Sl 115 2 sa l.length cap (slV l) S) (hO : Own E w X) [hp : Pick X S R] :
    Calls Tryz.prog 95 #[.int .i64 next, .slice sa l.length cap, .string row] w (HRoomP E next l row R) := by
  replace hO := hO.perm hp.perm
  clear hp
  generalize hpost : HRoomP E next l row R = POST
  have HPOST := Lib.hid hpost
  clear hpost
  have hok2 := roomL_ok hok hrow
  have hrl := roomL_len l row
  have hfl := freeAt_le l
  go_enter Tryz.func95, Tryz.ntmps95
  go_wp2_with fail
  refine (hIndex E _ _ _ S sa cap l hl hS hO).mono ?_
  clear hO
  by_cases hf : freeAt l < l.length
  · rw [if_pos hf] at hrl ⊢
    rintro e w1 ⟨rfl, hO⟩
    obtain ⟨sb, rfl⟩ := sl_some4 hS (Nat.lt_of_le_of_lt (Nat.zero_le _) hf)
    have hset : (slV l).take (freeAt l * 2) ++ [Value.int .i64 1, .string row] ++ (slV l).drop (freeAt l * 2 + 2) = slV (roomL l row) := by
      unfold roomL
      rw [if_pos hf]
      exact slV_set hf ⟨1, row⟩
    have HSET := Lib.hid hset
    have HOK2 := Lib.hid hok2
    have hfit : fits next l row ↔ (pagP next (roomL l row)).length ≤ 512 := ⟨fun h => h.2, fun h => ⟨Nat.lt_of_lt_of_le hf hl, h⟩⟩
    have HFIT := Lib.hid hfit
    have HRL := Lib.hid hrl
    generalize hfi : freeAt l = i at hf hfl HSET
    have HFI := Lib.hid hfi
    clear hfi
    have hi0 : ¬ (i : Int) < 0 := by omega
    have hi1 : (0 : Int) ≤ i := by omega
    have hi2 : (i : Int) < l.length := by omega
    have hi3 : ¬ (64 : Int) ≤ i := by omega
    have HF := Lib.hid hf
    clear hset hok hok2 hfl hfit hrl hf
    go_wp2_with (first | (refine at_store ?_; go_must (refine own_storeSl (e := 115) (sz := 2) (i := i) (v := .agg #[.int .i64 1, .string row]) hO ?_ ?_ ?_ hS HF.out ?_ ?_ ?_ ?_; (· rfl); (· ((conv => lhs; whnf); try exact rfl)); (· rfl); (· rfl); (· kernel_rfl); (· intro u hu; simp [Value.cells] at hu; rcases hu with rfl | rfl <;> rfl); clear hO; intro _ S2 hS2 hO; simp only [Act.put, List.setIfInBounds_toArray, List.set_cons_zero, List.set_cons_succ])))
    have hS3 : Sl 115 2 (some ⟨sb, 0, none⟩) (roomL l row).length cap (slV (roomL l row)) S2 := by
      rw [HRL.out, ← HSET.out]
      exact hS2
    rw [← HRL.out]
    have hrl65 : (roomL l row).length ≤ 65 := by rw [HRL.out]; omega
    refine (hBytes E _ _ _ S2 (some ⟨sb, 0, none⟩) cap next (roomL l row) (Nat.lt_of_lt_of_le hn (by decide)) hrl65 HOK2.out hS3 hO).mono ?_
    clear hO
    rintro e w2 ⟨ra, rc, RS, rfl, hRS, hO⟩
    obtain ⟨m, hm⟩ : ∃ m, (pagP next (roomL l row)).length = m := ⟨_, rfl⟩
    have hmb : m ≤ 26198 := by
      rw [← hm, pagP_len]
      have := slotsB_le HOK2.out
      omega
    rw [hm]
    by_cases hle : m ≤ 512
    · have hm1 : ¬ (512 : Int) < m := by omega
      have HM := Lib.hid hm
      have HLE := Lib.hid hle
      clear hm hle
      go_wp2_with fail
      rw [← HPOST.out]
      refine .inr ⟨HFIT.out.2 (by rw [HM.out]; exact HLE.out), (some ⟨sb, 0, none⟩), cap, S2, by rw [HFI.out]; rfl, hS3, hO.as _⟩
    · have hm1 : (512 : Int) < m := by omega
      have HM := Lib.hid hm
      have HLE := Lib.hid hle
      clear hm hle
      go_wp2_with fail
      rw [← HPOST.out]
      exact .inl ⟨fun h => HLE.out (by rw [← HM.out]; exact HFIT.out.1 h), rfl, hO.as _⟩
  · rw [if_neg hf] at hrl ⊢
    have hfa : freeAt l = l.length := Nat.le_antisymm hfl (Nat.le_of_not_lt hf)
    rintro e w1 ⟨rfl, hO⟩
    have hset : slV l ++ [Value.int .i64 1, .string row] = slV (roomL l row) := by
      unfold roomL
      rw [if_neg hf, slV_app]
      rfl
    have HSET := Lib.hid hset
    have HOK2 := Lib.hid hok2
    have HRL := Lib.hid hrl
    have HFA := Lib.hid hfa
    have hj64 : l.length * 24 ≤ 140737488355328 := by omega
    have hj65 : l.length < maxLen := by unfold maxLen; omega
    have hli : (l.length : Int) ≤ 64 := by omega
    clear hset hok hok2 hfl hrl hf hfa
    go_wp2_with (first | (refine at_bs ?_; go_must (refine own_build1 (v := ?_) sltSlots hO ?_ ?_ ?_ ?_ ?_ ?_; rotate_left; (· rfl); (· ((conv => lhs; whnf); try exact rfl)); (· rfl); (· decide); (· decide); clear hO; (try clear hF); intro bs _ hO; (try simp only [Value.cells] at hO); ((try simp only [List.nil_append, List.append_nil] at hO); have hF := Own.cells hO; simp only [cellsOf_append, cellsOf_pt] at hF); simp only [Act.put, List.setIfInBounds_toArray, List.set_cons_zero, List.set_cons_succ])) | (refine at_append ?_; go_must (refine own_append_elem (b1 := ?_) (cs := ?_) (e1 := ?_) (f1 := ?_) sltSlots hO ?_ ?_ ?_ hS ?_ ?_ ?_ ?_ ?_ ?_ ?_; rotate_left 4; (· rfl); (· rfl); (· rfl); (· exact inferInstance); (· rfl); (· intro u hu; simp at hu; rcases hu with rfl | rfl <;> rfl); (· exact hj64); (· decide); (· exact hj65); clear hO; (try clear hF); intro sa2 cap2 S2 _ hS2 hO; (obtain ⟨sb, rfl⟩ := sl_some4 hS2 (Nat.succ_pos _)); simp only [Act.put, List.setIfInBounds_toArray, List.set_cons_zero, List.set_cons_succ])) | (refine at_store ?_; refine Stop.go ?_))
    refine ⟨?_⟩
    refine own_storeSl (e := 115) (sz := 2) (i := l.length) (v := .agg #[.int .i64 1, .string row]) hO ?_ ?_ ?_ hS2 (Nat.lt_succ_self _) ?_ ?_ ?_ ?_
    · rfl
    · ((conv => lhs; whnf); try exact rfl)
    · rfl
    · rfl
    · kernel_rfl
    · intro u hu; simp [Value.cells] at hu; rcases hu with rfl | rfl <;> rfl
    clear hO
    intro w4 S3 hS3 hO
    simp only [Act.put, List.setIfInBounds_toArray, List.set_cons_zero, List.set_cons_succ]
    have hS4 : Sl 115 2 (some ⟨sb, 0, none⟩) (roomL l row).length cap2 (slV (roomL l row)) S3 := by
      have h1 : (slV l).length = l.length * 2 := slV_length l
      rw [← h1, List.take_left, List.drop_of_length_le (by rw [List.length_append, h1]; exact Nat.le_refl _), List.append_nil] at hS3
      rw [HRL.out, ← HSET.out]
      exact hS3
    clear hS3
    have hS3 := hS4
    rw [← HRL.out]
    by_cases h64 : l.length = 64
    · have hc64 : (64 : Int) ≤ l.length := by omega
      have H64 := Lib.hid h64
      clear h64
      go_wp2_with fail
      rw [← HPOST.out]
      exact .inl ⟨fun h => by have h1 := h.1; rw [HFA.out, H64.out] at h1; exact absurd h1 (by decide), rfl, hO.as _⟩
    have hc64 : ¬ (64 : Int) ≤ l.length := by omega
    have hfit : fits next l row ↔ (pagP next (roomL l row)).length ≤ 512 := ⟨fun h => h.2, fun h => ⟨by rw [HFA.out]; omega, h⟩⟩
    have HFIT := Lib.hid hfit
    clear hfit h64
    go_wp2_with fail
    have hrl65 : (roomL l row).length ≤ 65 := by rw [HRL.out]; omega
    refine (hBytes E _ _ _ S3 (some ⟨sb, 0, none⟩) cap2 next (roomL l row) (Nat.lt_of_lt_of_le hn (by decide)) hrl65 HOK2.out hS3 hO).mono ?_
    clear hO
    rintro e w2 ⟨ra, rc, RS, rfl, hRS, hO⟩
    obtain ⟨m, hm⟩ : ∃ m, (pagP next (roomL l row)).length = m := ⟨_, rfl⟩
    have hmb : m ≤ 26198 := by
      rw [← hm, pagP_len]
      have := slotsB_le HOK2.out
      omega
    rw [hm]
    by_cases hle : m ≤ 512
    · have hm1 : ¬ (512 : Int) < m := by omega
      have HM := Lib.hid hm
      have HLE := Lib.hid hle
      clear hm hle
      go_wp2_with fail
      rw [← HPOST.out]
      refine .inr ⟨HFIT.out.2 (by rw [HM.out]; exact HLE.out), (some ⟨sb, 0, none⟩), cap2, S3, by rw [HFA.out]; rfl, hS3, hO.as _⟩
    · have hm1 : (512 : Int) < m := by omega
      have HM := Lib.hid hm
      have HLE := Lib.hid hle
      clear hm hle
      go_wp2_with fail
      rw [← HPOST.out]
      exact .inl ⟨fun h => HLE.out (by rw [← HM.out]; exact HFIT.out.1 h), rfl, hO.as _⟩
end Go.Proofs.YtkfkcloefgfkaaaGreat

/- Heap: Insert's closure. -/
namespace Go.Proofs.YtkfkcloefgfkaaaGreat
open Go Go.RowKit Go.Own Go.Dk

theorem roomL_pg {next : Nat} {l : List Slot} {row : ByteArray} (h : PgOk next l) (hf : fits next l row) (hr : row.size ≤ 400) : PgOk next (roomL l row) := by
  refine ⟨h.nx, ?_, hf.2, roomL_ok h.ok hr⟩
  have h1 := roomL_len l row
  have h2 := hf.1
  have h3 := h.len
  have h4 := freeAt_le l
  split at h1 <;> omega
def insZ (rb hb tb h : Nat) (row : ByteArray) (tid : Int) : Fr := pt rb (.cells #[.string row] 9 (0, 0)) ++ (pt hb (.cells #[.pointer (some ⟨h, 0, none⟩)] 29 (0, 0)) ++ pt tb (.cells #[.int .i64 tid] 3 (0, 0)))
def Ins1P (E : World) (s d a N h root rb hb tb : Nat) (st0 st : SSt) (k next : Nat) (l : List Slot) (row : ByteArray) (R : Fr) (e : Ending) (w' : World) : Prop :=
      (¬ fits next l row ∧ e = .returned (.bool true) ∧ ∃ A', Going s d a N st0 st A' ∧ Own E w' (heapF h a root ++ (A' ++ (insZ rb hb tb h row (-1) ++ R)))) ∨
      (fits next l row ∧ e = .returned (.bool false) ∧ ∃ A', Going s d a N st0 (st.lay k (pageB next (roomL l row))) A' ∧ Own E w' (heapF h a root ++ (A' ++ (insZ rb hb tb h row ((k * 64 + freeAt l : Nat) : Int) ++ R))))
set_option maxRecDepth 100000 in
set_option maxHeartbeats 16000000 in
theorem hIns1 (E w : World) (R A S : Fr) (s d a N h : Nat) (st0 st : SSt) (root k next : Nat) (l : List Slot) (sa : Option Addr) (cap rb hb tb : Nat) (row : ByteArray) (hrow : row.size ≤ 400) (hk : st.has k) (hkb : k < 4096) (hpk : PgOk next l) (hS : Sl 115 2 sa l.length cap (slV l) S) (hA : Going s d a N st0 st A) (hN : N ≤ 8796000000000) (hO : Own E w (heapF h a root ++ (A ++ (insZ rb hb tb h row (-1) ++ (S ++ R))))) :
    Calls Tryz.prog 94 #[.int .i64 k, .int .i64 next, .slice sa l.length cap, .pointer (some ⟨rb, 0, none⟩), .pointer (some ⟨hb, 0, none⟩), .pointer (some ⟨tb, 0, none⟩)] w (Ins1P E s d a N h root rb hb tb st0 st k next l row R) := by
  generalize hpost : Ins1P E s d a N h root rb hb tb st0 st k next l row R = POST
  have HPOST := Lib.hid hpost
  clear hpost
  unfold insZ at hO
  have hF := Own.cells hO; simp only [cellsOf_append, cellsOf_pt] at hF
  go_enter Tryz.func94, Tryz.ntmps94
  go_wp2_with fail
  refine (hRoom E _ _ _ S next l row sa cap hpk.nx hpk.len hpk.ok hrow hS hO).mono ?_
  clear hO hF
  rintro e w1 (⟨hnf, rfl, hO⟩ | ⟨hf, sa2, cap2, S2, rfl, hS2, hO⟩)
  · have HNF := Lib.hid hnf
    clear hnf
    ((try simp only [List.nil_append, List.append_nil] at hO); have hF := Own.cells hO; simp only [cellsOf_append, cellsOf_pt] at hF)
    go_wp2_with fail
    rw [← HPOST.out]
    exact .inl ⟨HNF.out, rfl, A, hA, by unfold insZ; exact hO.as _⟩
  · have hpk2 := roomL_pg hpk hf hrow
    have HF := Lib.hid hf
    have hfb : freeAt l < 64 := hf.1
    clear hf
    generalize hfi : freeAt l = i at hfb ⊢
    have HFI := Lib.hid hfi
    clear hfi
    have hi0 : (0 : Int) ≤ i := by omega
    have hi1 : (i : Int) < 64 := by omega
    ((try simp only [List.nil_append, List.append_nil] at hO); have hF := Own.cells hO; simp only [cellsOf_append, cellsOf_pt] at hF)
    go_wp2_with fail
    refine (hWrite E _ _ _ A S2 s d a N h st0 st root k next (roomL l row) sa2 cap2 hk hpk2 hS2 hA hN hO).mono ?_
    clear hO hA hF
    rintro e w2 ⟨A, rfl, hA, hO⟩
    have hw1 : wrap64 ((k : Int) * 64) = (k : Int) * 64 := by unfold wrap64; omega
    have hw4 : wrap64 ((k : Int) * 64 + i) = (k : Int) * 64 + i := by unfold wrap64; omega
    have hti : ¬ ((k : Int) * 64 + i) < 0 := by omega
    have hcast : ((k * 64 + i : Nat) : Int) = (k : Int) * 64 + i := by omega
    have HC := Lib.hid hcast
    clear hcast
    ((try simp only [List.nil_append, List.append_nil] at hO); have hF := Own.cells hO; simp only [cellsOf_append, cellsOf_pt] at hF)
    go_wp2_with (first | (refine own_store (v := ?_) (off := 0) (b := tb) hO ?_ ?_ ?_ ?_ ?_ ?_ ?_; rotate_left; (· rfl); (· ((conv => lhs; whnf); try exact rfl)); (· ((conv => lhs; whnf); try exact rfl)); (· simp [Value.cells]); (· simp [Value.cells, Value.oneCell']); (· simp [Value.cells]); clear hO; (try clear hF); intro _ hO; (try simp only [splice, Value.cells] at hO); ((try simp only [List.nil_append, List.append_nil] at hO); have hF := Own.cells hO; simp only [cellsOf_append, cellsOf_pt] at hF); simp only [Act.put, List.setIfInBounds_toArray, List.set_cons_zero, List.set_cons_succ]))
    (try simp only [splice, Value.cells, List.setIfInBounds_toArray, List.set_cons_zero, List.set_cons_succ] at hO)
    rw [← HPOST.out]
    refine .inr ⟨HF.out, rfl, A, hA, ?_⟩
    rw [HFI.out, HC.out]
    unfold insZ
    exact hO.as _
end Go.Proofs.YtkfkcloefgfkaaaGreat

/- Heap: the pages of a heap, as plain lists. -/
namespace Go.Proofs.YtkfkcloefgfkaaaGreat
open Go Go.RowKit Go.Own Go.Dk

abbrev Hs := List (Nat × List Slot)
/-- The heap of a root. -/
structure HInv (st : SSt) (root : Nat) (hs : Hs) : Prop where
  ch : HCh st (st.rt root) hs
  nd : (hs.map (·.1)).Nodup
theorem nxt_set (hs : Hs) (j : Nat) (x : Nat × List Slot) (h : ∀ hj : j < hs.length, x.1 = hs[j].1) (i : Nat) : nxt (hs.set j x) i = nxt hs i := by
  unfold nxt
  by_cases hij : j = i
  · subst hij
    by_cases hj : j < hs.length
    · rw [List.getElem?_set_self hj, List.getElem?_eq_getElem hj]
      simp [h hj]
    · rw [List.getElem?_eq_none (by rw [List.length_set]; omega), List.getElem?_eq_none (by omega)]
  · rw [List.getElem?_set_ne hij]
theorem pages_set (hs : Hs) (j : Nat) (x : Nat × List Slot) (h : ∀ hj : j < hs.length, x.1 = hs[j].1) : (hs.set j x).map (·.1) = hs.map (·.1) := by
  apply List.ext_getElem?
  intro i
  rw [List.getElem?_map, List.getElem?_map]
  by_cases hij : j = i
  · subst hij
    by_cases hj : j < hs.length
    · rw [List.getElem?_set_self hj, List.getElem?_eq_getElem hj]
      simp [h hj]
    · rw [List.getElem?_eq_none (by rw [List.length_set]; omega), List.getElem?_eq_none (by omega)]
  · rw [List.getElem?_set_ne hij]
theorem HInv.ne {st : SSt} {root : Nat} {hs : Hs} (h : HInv st root hs) {i j : Nat} (hi : i < hs.length) (hj : j < hs.length) (hij : i ≠ j) : hs[i].1 ≠ hs[j].1 := by
  intro e
  have h1 := (List.nodup_iff_pairwise_ne.1 h.nd)
  rw [List.pairwise_iff_getElem] at h1
  rcases Nat.lt_or_gt_of_ne hij with hlt | hlt
  · exact h1 i j (by simpa using hi) (by simpa using hj) hlt (by simpa using e)
  · exact h1 j i (by simpa using hj) (by simpa using hi) hlt (by simpa using e.symm)
/-- A page is laid anew. -/
theorem HInv.lay {st : SSt} {root : Nat} {hs : Hs} (h : HInv st root hs) {j : Nat} (hj : j < hs.length) {l : List Slot} (hl : PgOk (nxt hs (j + 1)) l) : HInv (st.lay hs[j].1 (pageB (nxt hs (j + 1)) l)) root (hs.set j (hs[j].1, l)) := by
  obtain ⟨h0, hat⟩ := hch_at h.ch
  have hp : ∀ hj' : j < hs.length, ((hs[j].1, l) : Nat × List Slot).1 = hs[j].1 := fun _ => rfl
  refine ⟨?_, by rw [pages_set hs j _ hp]; exact h.nd⟩
  have e : (st.lay hs[j].1 (pageB (nxt hs (j + 1)) l)).rt root = nxt (hs.set j (hs[j].1, l)) 0 := by
    rw [nxt_set hs j _ hp]
    exact h0
  rw [e]
  refine hch_of fun i hi => ?_
  rw [List.length_set] at hi
  obtain ⟨a1, a2, a3, a4⟩ := hat i hi
  rw [nxt_set hs j _ hp]
  by_cases hij : j = i
  · subst hij
    rw [List.getElem_set_self]
    exact ⟨a1, a2, by show upd st.v hs[j].1 _ hs[j].1 = _; rw [upd_same], hl⟩
  · rw [List.getElem_set_ne hij]
    refine ⟨a1, a2, ?_, a4⟩
    show upd st.v hs[j].1 _ hs[i].1 = _
    rw [upd_ne _ _ _ _ (h.ne hi hj (fun e => hij e.symm))]
    exact a3
/-- The pages stay where a state changes elsewhere. -/
theorem HCh.congr {st st' : SSt} : ∀ {F : Nat} {hs : Hs}, HCh st F hs → (∀ x ∈ hs, st'.has x.1 ∧ st'.v x.1 = st.v x.1) → HCh st' F hs
  | _, [], h, _ => h
  | _, x :: r, ⟨h1, h2, h3, q, h4, h5, h6⟩, hv => ⟨h1, h2, (hv x (by simp)).1, q, by rw [(hv x (by simp)).2]; exact h4, h5, h6.congr fun y hy => hv y (List.mem_cons_of_mem _ hy)⟩
/-- A page ahead. -/
theorem HInv.cons {st st' : SSt} {root : Nat} {hs : Hs} (h : HInv st root hs) {k : Nat} {l : List Slot} (hk : k ≠ 0) (hn : k ∉ hs.map (·.1)) (hh : st'.has k) (hr : st'.rt root = k) (hv : st'.v k = pageB (st.rt root) l) (hl : PgOk (st.rt root) l) (hs' : ∀ x ∈ hs, st'.has x.1 ∧ st'.v x.1 = st.v x.1) : HInv st' root ((k, l) :: hs) :=
  ⟨by rw [hr]; exact ⟨rfl, hk, hh, _, hv, hl, h.ch.congr hs'⟩, List.nodup_cons.2 ⟨hn, h.nd⟩⟩
theorem HInv.has {st : SSt} {root : Nat} {hs : Hs} (h : HInv st root hs) {x : Nat × List Slot} (hx : x ∈ hs) : st.has x.1 ∧ x.1 ≠ 0 := by
  obtain ⟨i, hi, rfl⟩ := List.mem_iff_getElem.1 hx
  have := (hch_at h.ch).2 i hi
  exact ⟨this.2.1, this.1⟩
theorem HInv.len {st : SSt} {root : Nat} {hs : Hs} (h : HInv st root hs) : hs.length ≤ st.T := by
  have h1 : ((hs.map (·.1)).map (fun n : Nat => (n : Int))).Nodup := List.Pairwise.map _ (fun a b hab e => hab (Int.ofNat.inj e)) h.nd
  have := len_of_sub (b := (List.range st.T).map (fun k : Nat => ((k + 1 : Nat) : Int))) h1 fun k hk' => by
    obtain ⟨n, hn, rfl⟩ := List.mem_map.1 hk'
    obtain ⟨x, hx, rfl⟩ := List.mem_map.1 hn
    obtain ⟨h2, h3⟩ := h.has hx
    have h4 : ((x.1 : Nat) : Int) ≤ st.T := h2.2.1
    exact List.mem_map.2 ⟨x.1 - 1, List.mem_range.2 (by omega), by congr 1; omega⟩
  simpa using this
/-- A heap that has no page. -/
theorem HInv.new {st : SSt} {root : Nat} (h : st.rt root = 0) : HInv st root [] := ⟨h, List.nodup_nil⟩
/-- What an insertion makes of a heap. -/
def InsR (st : SSt) (root : Nat) (hs : Hs) (row : ByteArray) (tid : Nat) (st' : SSt) (hs' : Hs) : Prop :=
  (∃ (j : Nat) (hj : j < hs.length), fits (nxt hs (j + 1)) hs[j].2 row ∧ hs' = hs.set j (hs[j].1, roomL hs[j].2 row) ∧ tid = hs[j].1 * 64 + freeAt hs[j].2 ∧ st'.T = st.T ∧ st'.c = st.c ∧ st'.rt = st.rt) ∨
  (∃ (k : Nat) (st1 : SSt), hs' = (k, [⟨1, row⟩]) :: hs ∧ tid = k * 64 ∧ st.Alloc k st1 ∧ st'.T = st1.T ∧ st'.c = st1.c ∧ st'.rt = upd st.rt root k)
end Go.Proofs.YtkfkcloefgfkaaaGreat

/- Space: which pages there are behind Alloc and Free. -/
namespace Go.Proofs.YtkfkcloefgfkaaaGreat
open Go Go.RowKit Go.Own Go.Dk

theorem Going.view {s d a N : Nat} {st0 st : SSt} {A : Fr} (h : Going s d a N st0 st A) : st.c.Nodup ∧ (∀ p ∈ st.c, 1 ≤ p ∧ p ≤ st.T) ∧ st.T < 4096 := by
  obtain ⟨l, p, mf, mp, mg, most, J, recs, fr, ovs, gone, AA, MF, h4, hm2, hA, hV, _⟩ := h
  exact ⟨hV.nd, hV.wt, hV.tb⟩
theorem has_nat (st : SSt) (j : Nat) : st.has j ↔ 1 ≤ j ∧ j ≤ st.T ∧ j ∉ st.c := by
  unfold SSt.has there
  rw [show ((j : Nat) : Int).toNat = j by simp]
  exact ⟨fun ⟨a, b, c⟩ => ⟨by omega, by omega, c⟩, fun ⟨a, b, c⟩ => ⟨by omega, by omega, c⟩⟩
theorem SSt.Alloc.not {st st' : SSt} {k : Nat} (h : st.Alloc k st') (hnd : st.c.Nodup) (hwt : ∀ p ∈ st.c, 1 ≤ p ∧ p ≤ st.T) : ¬ st.has k ∧ ∀ j : Nat, st'.has j ↔ st.has j ∨ j = k := by
  obtain ⟨h1, h2, h3, -, -⟩ := h
  rcases h1 with ⟨hc, hT⟩ | ⟨hc, hc', hk, hT⟩
  · have hn := hc ▸ hnd
    have hk := hwt k (by rw [hc]; simp)
    rw [List.nodup_cons] at hn
    refine ⟨fun h => ?_, fun j => ?_⟩
    · rw [has_nat] at h
      exact h.2.2 (by rw [hc]; simp)
    · rw [has_nat, has_nat, hc, hT, List.mem_cons]
      constructor
      · rintro ⟨a, b, c⟩
        by_cases hj : j = k
        · exact .inr hj
        · exact .inl ⟨a, b, fun h => h.elim hj c⟩
      · rintro (⟨a, b, c⟩ | rfl)
        · exact ⟨a, b, fun h => c (.inr h)⟩
        · exact ⟨hk.1, hk.2, hn.1⟩
  · refine ⟨fun h => ?_, fun j => ?_⟩
    · rw [has_nat] at h
      omega
    · rw [has_nat, has_nat, hc, hc', hT]
      simp only [List.not_mem_nil, not_false_eq_true, and_true]
      omega
theorem SSt.Free.not {st st' : SSt} {k : Nat} (h : st.Free k st') : ∀ j : Nat, st'.has j ↔ st.has j ∧ j ≠ k := by
  obtain ⟨h1, h2, -⟩ := h
  intro j
  rw [has_nat, has_nat, h1, h2, List.mem_cons]
  constructor
  · rintro ⟨a, b, c⟩
    exact ⟨⟨a, b, fun h => c (.inr h)⟩, fun h => c (.inl h)⟩
  · rintro ⟨⟨a, b, c⟩, d⟩
    exact ⟨a, b, fun h => h.elim d c⟩
end Go.Proofs.YtkfkcloefgfkaaaGreat

/- Heap: Insert. -/
namespace Go.Proofs.YtkfkcloefgfkaaaGreat
open Go Go.RowKit Go.Own Go.Dk

theorem HInv.first {st : SSt} {root : Nat} {hs : Hs} (h : HInv st root hs) (hT : st.T < 4096) : st.rt root < 4096 := by
  have h1 := h.ch
  cases hs with
  | nil => have : st.rt root = 0 := h1; omega
  | cons x r =>
    obtain ⟨h2, -⟩ := h1
    obtain ⟨h3, -⟩ := h.has (x := x) (by simp)
    have h4 : ((x.1 : Nat) : Int) ≤ st.T := h3.2.1
    omega
theorem one_pg {next : Nat} {row : ByteArray} (hn : next < 4096) (hr : row.size ≤ 400) : PgOk next [⟨1, row⟩] := by
  refine ⟨hn, by simp, ?_, fun x hx => ?_⟩
  · rw [pagP_len, slotsB_cons, List.length_append, slotB_len]
    show 3 + (3 + row.size + 0) ≤ 512
    omega
  · rw [List.mem_singleton] at hx
    subst hx
    exact ⟨(by decide : 1 ≤ 2), hr⟩
theorem SSt.Alloc.has {st st' : SSt} {k : Nat} (h : st.Alloc k st') {p : Nat} (hp : st.has p) (hnd : st.c.Nodup) (hwt : ∀ p ∈ st.c, 1 ≤ p ∧ p ≤ st.T) : st'.has p ∧ p ≠ k ∧ (p ≠ 0 → st'.v p = st.v p) := by
  obtain ⟨h1, h2⟩ := h.not hnd hwt
  have h3 : p ≠ k := fun e => h1 (e ▸ hp)
  exact ⟨(h2 p).2 (.inl hp), h3, fun h0 => by rw [h.2.2.2.2 p h0, if_neg h3]⟩
def HInsP (E : World) (s d a N h root : Nat) (st0 st : SSt) (hs : Hs) (row : ByteArray) (R : Fr) (e : Ending) (w' : World) : Prop :=
  ((row.size = 0 ∨ 400 < row.size) ∧ e = .returned (.tuple #[.int .i64 0, .int .i64 70]) ∧ ∃ A', Going s d a N st0 st A' ∧ Own E w' (heapF h a root ++ (A' ++ R))) ∨
  ((0 < row.size ∧ row.size ≤ 400) ∧ ∃ (tid : Nat) (st' : SSt) (hs' : Hs) (A' : Fr), InsR st root hs row tid st' hs' ∧ HInv st' root hs' ∧ e = .returned (.tuple #[.int .i64 tid, .int .i64 0]) ∧ Going s d a N st0 st' A' ∧ Own E w' (heapF h a root ++ (A' ++ R))) ∨
  ((0 < row.size ∧ row.size ≤ 400) ∧ st.c = [] ∧ st.T = 4095 ∧ e = .returned (.tuple #[.int .i64 0, .int .i64 2]) ∧ ∃ A', Going s d a N st0 st A' ∧ Own E w' (heapF h a root ++ (A' ++ R)))
set_option maxRecDepth 100000 in
set_option maxHeartbeats 16000000 in
theorem hInsert (E w : World) (X R A : Fr) (s d a N h : Nat) (st0 st : SSt) (root : Nat) (hr : root < 16) (hs : Hs) (hI : HInv st root hs) (row : ByteArray) (hA : Going s d a N st0 st A) (hN : N ≤ 8796000000000) (hO : Own E w X) [hp : Pick X (heapF h a root ++ A) R] :
    Calls Tryz.prog 40 #[.pointer (some ⟨h, 0, none⟩), .string row] w (HInsP E s d a N h root st0 st hs row R) := by
  replace hO : Own E w (heapF h a root ++ (A ++ R)) := by have := hO.perm hp.perm; rwa [List.append_assoc] at this
  clear hp
  generalize hpost : HInsP E s d a N h root st0 st hs row R = POST
  have HPOST := Lib.hid hpost
  clear hpost
  obtain ⟨v1, v2, v3⟩ := hA.view
  have hlen := hI.len
  have hfst := hI.first v3
  go_enter Tryz.func40, Tryz.ntmps40
  go_wp2_with (first | (refine at_box (t := 29) ?_; go_must (refine own_box (v := ?_) hO ?_ ?_ ?_; rotate_left; (· rfl); (· ((conv => lhs; whnf); try exact rfl)); clear hO; (try clear hF); intro hb _ hO; (try simp only [Value.cells] at hO); ((try simp only [List.nil_append, List.append_nil] at hO); have hF := Own.cells hO; simp only [cellsOf_append, cellsOf_pt] at hF); simp only [Act.put, List.setIfInBounds_toArray, List.set_cons_zero, List.set_cons_succ])) | (refine at_box (t := 9) ?_; go_must (refine own_box (v := ?_) hO ?_ ?_ ?_; rotate_left; (· rfl); (· ((conv => lhs; whnf); try exact rfl)); clear hO; (try clear hF); intro rb _ hO; (try simp only [Value.cells] at hO); ((try simp only [List.nil_append, List.append_nil] at hO); have hF := Own.cells hO; simp only [cellsOf_append, cellsOf_pt] at hF); simp only [Act.put, List.setIfInBounds_toArray, List.set_cons_zero, List.set_cons_succ])))
  clear hF
  refine (hFirst E _ _ _ A s d a N h st0 st root hr hA hN hO).mono ?_
  clear hO hA
  rintro e w1 ⟨rfl, A, hA, hO⟩
  have hF := Own.cells hO; simp only [cellsOf_append, cellsOf_pt] at hF
  by_cases h0 : 0 < row.size
  rotate_left
  · have ht0 : row = .empty := by
      obtain ⟨⟨x⟩⟩ := row
      have : x.length = 0 := by simpa [ByteArray.size] using h0
      obtain rfl := List.length_eq_zero_iff.1 this
      rfl
    subst ht0
    go_wp2_with fail
    rw [← HPOST.out]
    exact .inl ⟨.inl rfl, rfl, A, hA, hO.as _⟩
  have hne : (row.toList == []) = false := by
    obtain ⟨⟨x⟩⟩ := row
    cases x with
    | nil => simp [ByteArray.size] at h0
    | cons a x => rw [ByteArray.toList_eq]; rfl
  by_cases h4 : 400 < row.size
  · have h4i : (400 : Int) < row.size := by omega
    have H4 := Lib.hid h4
    clear h4
    go_wp2_with fail
    rw [← HPOST.out]
    exact .inl ⟨.inr H4.out, rfl, A, hA, hO.as _⟩
  have h4i : ¬ (400 : Int) < row.size := by omega
  have H0 := Lib.hid h0
  have H4 := Lib.hid (Nat.le_of_not_lt h4)
  clear h0 h4
  go_wp2_with (first | (refine at_alloc ?_; go_must (refine own_alloc (z := .int .i64 0) hO ?_ ?_ ?_; (· rfl); (· kernel_rfl); clear hO; (try clear hF); intro tb _ hO; (try simp only [Value.cells] at hO); ((try simp only [List.nil_append, List.append_nil] at hO); have hF := Own.cells hO; simp only [cellsOf_append, cellsOf_pt] at hF); simp only [Act.put, List.setIfInBounds_toArray, List.set_cons_zero, List.set_cons_succ])) | (refine own_store (v := ?_) (off := 0) (b := tb) hO ?_ ?_ ?_ ?_ ?_ ?_ ?_; rotate_left; (· rfl); (· ((conv => lhs; whnf); try exact rfl)); (· ((conv => lhs; whnf); try exact rfl)); (· simp [Value.cells]); (· simp [Value.cells, Value.oneCell']); (· simp [Value.cells]); clear hO; (try clear hF); intro _ hO; (try simp only [splice, Value.cells] at hO); ((try simp only [List.nil_append, List.append_nil] at hO); have hF := Own.cells hO; simp only [cellsOf_append, cellsOf_pt] at hF); simp only [Act.put, List.setIfInBounds_toArray, List.set_cons_zero, List.set_cons_succ]))
  (try simp only [splice, Value.cells, List.setIfInBounds_toArray, List.set_cons_zero, List.set_cons_succ] at hO)
  have eg : ∀ args w, (callFunc 94 args).run Tryz.prog w = .ok (.enter 94 args) w := enters_of Tryz.func94 (by kernel_rfl) rfl
  obtain ⟨hF0, hat⟩ := hch_at hI.ch
  have step : ∀ (j : Nat) (hj : j < hs.length) (w : World) (A Z S : Fr) (sa : Option Addr) (cap : Nat), (Z = insZ rb hb tb h row (-1) ∧ ∀ i (hi : i < hs.length), i < j → ¬ fits (nxt hs (i + 1)) hs[i].2 row) → Going s d a N st0 st A → Sl 115 2 sa hs[j].2.length cap (slV hs[j].2) S → Own E w (heapF h a root ++ (A ++ (Z ++ (S ++ R)))) →
      Calls Tryz.prog 94 (#[.int .i64 hs[j].1, .int .i64 (nxt hs (j + 1)), .slice sa hs[j].2.length cap] ++ #[.pointer (some ⟨rb, 0, none⟩), .pointer (some ⟨hb, 0, none⟩), .pointer (some ⟨tb, 0, none⟩)]) w fun e w' => (e = .returned (.bool true) ∧ ∃ A' Z', (Z' = insZ rb hb tb h row (-1) ∧ ∀ i (hi : i < hs.length), i < j + 1 → ¬ fits (nxt hs (i + 1)) hs[i].2 row) ∧ Going s d a N st0 st A' ∧ Own E w' (heapF h a root ++ (A' ++ (Z' ++ R)))) ∨
        (e = .returned (.bool false) ∧ ∃ Q, (∃ (hj : j < hs.length) (A' : Fr), fits (nxt hs (j + 1)) hs[j].2 row ∧ Going s d a N st0 (st.lay hs[j].1 (pageB (nxt hs (j + 1)) (roomL hs[j].2 row))) A' ∧ Q = A' ++ insZ rb hb tb h row ((hs[j].1 * 64 + freeAt hs[j].2 : Nat) : Int)) ∧ Own E w' (heapF h a root ++ (Q ++ R))) := by
    rintro j hj w A Z S sa cap ⟨rfl, hbef⟩ hA hS hO
    obtain ⟨a1, a2, a3, a4⟩ := hat j hj
    have hkb : hs[j].1 < 4096 := by have h5 : ((hs[j].1 : Nat) : Int) ≤ st.T := a2.2.1; omega
    refine (hIns1 E w R A S s d a N h st0 st root hs[j].1 (nxt hs (j + 1)) hs[j].2 sa cap rb hb tb row H4.out a2 hkb a4 hS hA hN hO).mono ?_
    rintro e w' (⟨hnf, rfl, A, hA, hO⟩ | ⟨hf, rfl, A, hA, hO⟩)
    · refine .inl ⟨rfl, A, _, ⟨rfl, fun i hi hij => ?_⟩, hA, hO⟩
      by_cases e : i = j
      · subst e; exact hnf
      · exact hbef i hi (by omega)
    · exact .inr ⟨rfl, _, ⟨hj, A, hf, hA, rfl⟩, by rw [List.append_assoc]; exact hO⟩
  have hO9 : Own E _ (heapF h a root ++ (A ++ (insZ rb hb tb h row (-1) ++ R))) := hO.as (heapF h a root ++ (A ++ ((pt rb (.cells #[.string row] 9 (0, 0)) ++ (pt hb (.cells #[.pointer (some ⟨h, 0, none⟩)] 29 (0, 0)) ++ pt tb (.cells #[.int .i64 (-1)] 3 (0, 0)))) ++ R)))
  refine (hEach E _ _ R A (insZ rb hb tb h row (-1)) s d a N h st0 st root hr hs hI.ch (by omega) 94 _ eg _ _ ⟨rfl, fun i hi hij => absurd hij (Nat.not_lt_zero i)⟩ step hA hN hO9).mono ?_
  clear hO hO9 hA step hF0
  rintro e w3 ⟨rfl, ⟨A, Z, ⟨rfl, hno⟩, hA, hO⟩ | ⟨j, Q, hjl, ⟨hj, A, hf, hA, rfl⟩, hO⟩⟩
  rotate_left
  · have hinv := hI.lay hj (roomL_pg (hat j hj).2.2.2 hf H4.out)
    have hir : InsR st root hs row (hs[j].1 * 64 + freeAt hs[j].2) (st.lay hs[j].1 (pageB (nxt hs (j + 1)) (roomL hs[j].2 row))) (hs.set j (hs[j].1, roomL hs[j].2 row)) := .inl ⟨j, hj, hf, rfl, rfl, rfl, rfl, rfl⟩
    generalize hs[j].1 * 64 + freeAt hs[j].2 = t at hO hir
    have hti : (0 : Int) ≤ t := by omega
    have HINV := Lib.hid hinv
    have HIR := Lib.hid hir
    clear hinv hir hf hat
    unfold insZ at hO
    ((try simp only [List.nil_append, List.append_nil] at hO); have hF := Own.cells hO; simp only [cellsOf_append, cellsOf_pt] at hF)
    go_wp2_with fail
    rw [← HPOST.out]
    exact .inr (.inl ⟨⟨H0.out, H4.out⟩, t, _, _, A, HIR.out, HINV.out, rfl, hA, hO.as _⟩)
  · clear hat hno
    have HI := Lib.hid hI
    clear hI
    unfold insZ at hO
    ((try simp only [List.nil_append, List.append_nil] at hO); have hF := Own.cells hO; simp only [cellsOf_append, cellsOf_pt] at hF)
    unfold heapF at hO
    ((try simp only [List.nil_append, List.append_nil] at hO); have hF := Own.cells hO; simp only [cellsOf_append, cellsOf_pt] at hF)
    go_wp2_with fail
    refine (gAlloc E _ _ _ A s d a N st0 st hA hN hO).mono ?_
    clear hO hA hF
    rintro e w4 (⟨hc, hT, rfl, A, hA, hO⟩ | ⟨k, st1, A, hal, rfl, hA, hO⟩)
    · have HC := Lib.hid hc
      have HT := Lib.hid hT
      clear hc hT
      ((try simp only [List.nil_append, List.append_nil] at hO); have hF := Own.cells hO; simp only [cellsOf_append, cellsOf_pt] at hF)
      go_wp2_with fail
      rw [← HPOST.out]
      exact .inr (.inr ⟨⟨H0.out, H4.out⟩, HC.out, HT.out, rfl, A, hA, by unfold heapF; exact hO.as _⟩)
    · obtain ⟨q1, q2⟩ := hal.not v1 v2
      have hk1 := hal.2.1
      have hk2 := hal.2.2.1
      have hhk : st1.has k := (q2 k).2 (.inr rfl)
      have hpg := one_pg (row := row) hfst H4.out
      have HAL := Lib.hid hal
      have Q1 := Lib.hid q1
      clear hal q1 q2
      ((try simp only [List.nil_append, List.append_nil] at hO); have hF := Own.cells hO; simp only [cellsOf_append, cellsOf_pt] at hF)
      go_wp2_with (first | (refine at_bs ?_; go_must (refine own_build1 (v := ?_) sltSlots hO ?_ ?_ ?_ ?_ ?_ ?_; rotate_left; (· rfl); (· ((conv => lhs; whnf); try exact rfl)); (· rfl); (· decide); (· decide); clear hO; (try clear hF); intro bs _ hO; (try simp only [Value.cells] at hO); ((try simp only [List.nil_append, List.append_nil] at hO); have hF := Own.cells hO; simp only [cellsOf_append, cellsOf_pt] at hF); simp only [Act.put, List.setIfInBounds_toArray, List.set_cons_zero, List.set_cons_succ])))
      have hSl : Sl 115 2 (some ⟨bs, 0, none⟩) 1 1 (slV [⟨1, row⟩]) (pt bs (.cells (slV [⟨1, row⟩] ++ []).toArray 115 (0, 0))) := Sl.mk rfl (by decide) (by decide) rfl
      have hO9 : Own E _ (heapF h a root ++ (A ++ (pt bs (.cells (slV [⟨1, row⟩] ++ []).toArray 115 (0, 0)) ++ (pt rb (.cells #[.string row] 9 (0, 0)) ++ (pt hb (.cells #[.pointer (some ⟨h, 0, none⟩)] 29 (0, 0)) ++ R))))) := hO.as (pt h (.cells #[.pointer (some ⟨a, 0, none⟩), .int .i64 root] 86 (0, 0)) ++ (A ++ (pt bs (.cells #[.int .i64 1, .string row] 115 (0, 0)) ++ (pt rb (.cells #[.string row] 9 (0, 0)) ++ (pt hb (.cells #[.pointer (some ⟨h, 0, none⟩)] 29 (0, 0)) ++ R)))))
      refine (hWrite E _ _ _ A _ s d a N h st0 st1 root k (st.rt root) [⟨1, row⟩] (some ⟨bs, 0, none⟩) 1 hhk hpg hSl hA hN hO9).mono ?_
      clear hO hO9 hA hF hSl
      rintro e w5 ⟨A, rfl, hA, hO⟩
      unfold heapF at hO
      ((try simp only [List.nil_append, List.append_nil] at hO); have hF := Own.cells hO; simp only [cellsOf_append, cellsOf_pt] at hF)
      have hw1 : wrap64 ((k : Int) * 64) = (k : Int) * 64 := by unfold wrap64; omega
      go_wp2_with fail
      (try (go_wp2_with fail))
      refine region_sch (fun w' => Own E w' (pt hb (.cells #[.pointer (some ⟨h, 0, none⟩)] 29 (0, 0)) ++ pt h (.cells #[.pointer (some ⟨a, 0, none⟩), .int .i64 root] 86 (0, 0)))) (.look 0 (.look 1 (.look 2 (.look 3 (.look 4 (.look 5 (.look 6 (.look 7 (.look 8 (.act 9 .done)))))))))) (by kernel_rfl) (by kernel_rfl) (fun _ _ d _ _ h => by cases d <;> exact h) ?_ ?_
      · exact hO.drew.as _
      replace hO := hO.drew
      generalize World.drew _ = wdr at hO ⊢
      first | (refine sch_look (o := ?_) (v := ?_) ?_ ?_ ?_ ?_; rotate_left 2; (· ((conv => lhs; whnf); try exact rfl)); (· rfl); (· intro w' hO'; (have hF' := Own.cells hO'; simp only [cellsOf_append, cellsOf_pt] at hF'); go_simp; (try exact rfl)); simp only [Act.put, List.setIfInBounds_toArray, List.set_cons_zero, List.set_cons_succ]) | (refine sch_pass (o := ?_) ?_ ?_ ?_; rotate_left; (· ((conv => lhs; whnf); try exact rfl)); (· rfl); simp only [Act.put, List.setIfInBounds_toArray, List.set_cons_zero, List.set_cons_succ]) | (refine sch_look (o := ?_) (v := .agg ?_) ?_ ?_ ?_ ?_; rotate_left 2; (· ((conv => lhs; whnf); try exact rfl)); (· rfl); (· intro w' hO'; refine run_opLoadS (b := ?_) (cs := ?_) (e := ?_) (f := ?_) hO' ?_ ?_ ?_ ?_; rotate_left 4; (· exact rfl); (· exact inferInstance); (· simp; done); (· simp; done)); simp only [Act.put, List.setIfInBounds_toArray, List.set_cons_zero, List.set_cons_succ])
      first | (refine sch_look (o := ?_) (v := ?_) ?_ ?_ ?_ ?_; rotate_left 2; (· ((conv => lhs; whnf); try exact rfl)); (· rfl); (· intro w' hO'; (have hF' := Own.cells hO'; simp only [cellsOf_append, cellsOf_pt] at hF'); go_simp; (try exact rfl)); simp only [Act.put, List.setIfInBounds_toArray, List.set_cons_zero, List.set_cons_succ]) | (refine sch_pass (o := ?_) ?_ ?_ ?_; rotate_left; (· ((conv => lhs; whnf); try exact rfl)); (· rfl); simp only [Act.put, List.setIfInBounds_toArray, List.set_cons_zero, List.set_cons_succ]) | (refine sch_look (o := ?_) (v := .agg ?_) ?_ ?_ ?_ ?_; rotate_left 2; (· ((conv => lhs; whnf); try exact rfl)); (· rfl); (· intro w' hO'; refine run_opLoadS (b := ?_) (cs := ?_) (e := ?_) (f := ?_) hO' ?_ ?_ ?_ ?_; rotate_left 4; (· exact rfl); (· exact inferInstance); (· simp; done); (· simp; done)); simp only [Act.put, List.setIfInBounds_toArray, List.set_cons_zero, List.set_cons_succ])
      first | (refine sch_look (o := ?_) (v := ?_) ?_ ?_ ?_ ?_; rotate_left 2; (· ((conv => lhs; whnf); try exact rfl)); (· rfl); (· intro w' hO'; (have hF' := Own.cells hO'; simp only [cellsOf_append, cellsOf_pt] at hF'); go_simp; (try exact rfl)); simp only [Act.put, List.setIfInBounds_toArray, List.set_cons_zero, List.set_cons_succ]) | (refine sch_pass (o := ?_) ?_ ?_ ?_; rotate_left; (· ((conv => lhs; whnf); try exact rfl)); (· rfl); simp only [Act.put, List.setIfInBounds_toArray, List.set_cons_zero, List.set_cons_succ]) | (refine sch_look (o := ?_) (v := .agg ?_) ?_ ?_ ?_ ?_; rotate_left 2; (· ((conv => lhs; whnf); try exact rfl)); (· rfl); (· intro w' hO'; refine run_opLoadS (b := ?_) (cs := ?_) (e := ?_) (f := ?_) hO' ?_ ?_ ?_ ?_; rotate_left 4; (· exact rfl); (· exact inferInstance); (· simp; done); (· simp; done)); simp only [Act.put, List.setIfInBounds_toArray, List.set_cons_zero, List.set_cons_succ])
      first | (refine sch_look (o := ?_) (v := ?_) ?_ ?_ ?_ ?_; rotate_left 2; (· ((conv => lhs; whnf); try exact rfl)); (· rfl); (· intro w' hO'; (have hF' := Own.cells hO'; simp only [cellsOf_append, cellsOf_pt] at hF'); go_simp; (try exact rfl)); simp only [Act.put, List.setIfInBounds_toArray, List.set_cons_zero, List.set_cons_succ]) | (refine sch_pass (o := ?_) ?_ ?_ ?_; rotate_left; (· ((conv => lhs; whnf); try exact rfl)); (· rfl); simp only [Act.put, List.setIfInBounds_toArray, List.set_cons_zero, List.set_cons_succ]) | (refine sch_look (o := ?_) (v := .agg ?_) ?_ ?_ ?_ ?_; rotate_left 2; (· ((conv => lhs; whnf); try exact rfl)); (· rfl); (· intro w' hO'; refine run_opLoadS (b := ?_) (cs := ?_) (e := ?_) (f := ?_) hO' ?_ ?_ ?_ ?_; rotate_left 4; (· exact rfl); (· exact inferInstance); (· simp; done); (· simp; done)); simp only [Act.put, List.setIfInBounds_toArray, List.set_cons_zero, List.set_cons_succ])
      first | (refine sch_look (o := ?_) (v := ?_) ?_ ?_ ?_ ?_; rotate_left 2; (· ((conv => lhs; whnf); try exact rfl)); (· rfl); (· intro w' hO'; (have hF' := Own.cells hO'; simp only [cellsOf_append, cellsOf_pt] at hF'); go_simp; (try exact rfl)); simp only [Act.put, List.setIfInBounds_toArray, List.set_cons_zero, List.set_cons_succ]) | (refine sch_pass (o := ?_) ?_ ?_ ?_; rotate_left; (· ((conv => lhs; whnf); try exact rfl)); (· rfl); simp only [Act.put, List.setIfInBounds_toArray, List.set_cons_zero, List.set_cons_succ]) | (refine sch_look (o := ?_) (v := .agg ?_) ?_ ?_ ?_ ?_; rotate_left 2; (· ((conv => lhs; whnf); try exact rfl)); (· rfl); (· intro w' hO'; refine run_opLoadS (b := ?_) (cs := ?_) (e := ?_) (f := ?_) hO' ?_ ?_ ?_ ?_; rotate_left 4; (· exact rfl); (· exact inferInstance); (· simp; done); (· simp; done)); simp only [Act.put, List.setIfInBounds_toArray, List.set_cons_zero, List.set_cons_succ])
      first | (refine sch_look (o := ?_) (v := ?_) ?_ ?_ ?_ ?_; rotate_left 2; (· ((conv => lhs; whnf); try exact rfl)); (· rfl); (· intro w' hO'; (have hF' := Own.cells hO'; simp only [cellsOf_append, cellsOf_pt] at hF'); go_simp; (try exact rfl)); simp only [Act.put, List.setIfInBounds_toArray, List.set_cons_zero, List.set_cons_succ]) | (refine sch_pass (o := ?_) ?_ ?_ ?_; rotate_left; (· ((conv => lhs; whnf); try exact rfl)); (· rfl); simp only [Act.put, List.setIfInBounds_toArray, List.set_cons_zero, List.set_cons_succ]) | (refine sch_look (o := ?_) (v := .agg ?_) ?_ ?_ ?_ ?_; rotate_left 2; (· ((conv => lhs; whnf); try exact rfl)); (· rfl); (· intro w' hO'; refine run_opLoadS (b := ?_) (cs := ?_) (e := ?_) (f := ?_) hO' ?_ ?_ ?_ ?_; rotate_left 4; (· exact rfl); (· exact inferInstance); (· simp; done); (· simp; done)); simp only [Act.put, List.setIfInBounds_toArray, List.set_cons_zero, List.set_cons_succ])
      first | (refine sch_look (o := ?_) (v := ?_) ?_ ?_ ?_ ?_; rotate_left 2; (· ((conv => lhs; whnf); try exact rfl)); (· rfl); (· intro w' hO'; (have hF' := Own.cells hO'; simp only [cellsOf_append, cellsOf_pt] at hF'); go_simp; (try exact rfl)); simp only [Act.put, List.setIfInBounds_toArray, List.set_cons_zero, List.set_cons_succ]) | (refine sch_pass (o := ?_) ?_ ?_ ?_; rotate_left; (· ((conv => lhs; whnf); try exact rfl)); (· rfl); simp only [Act.put, List.setIfInBounds_toArray, List.set_cons_zero, List.set_cons_succ]) | (refine sch_look (o := ?_) (v := .agg ?_) ?_ ?_ ?_ ?_; rotate_left 2; (· ((conv => lhs; whnf); try exact rfl)); (· rfl); (· intro w' hO'; refine run_opLoadS (b := ?_) (cs := ?_) (e := ?_) (f := ?_) hO' ?_ ?_ ?_ ?_; rotate_left 4; (· exact rfl); (· exact inferInstance); (· simp; done); (· simp; done)); simp only [Act.put, List.setIfInBounds_toArray, List.set_cons_zero, List.set_cons_succ])
      first | (refine sch_look (o := ?_) (v := ?_) ?_ ?_ ?_ ?_; rotate_left 2; (· ((conv => lhs; whnf); try exact rfl)); (· rfl); (· intro w' hO'; (have hF' := Own.cells hO'; simp only [cellsOf_append, cellsOf_pt] at hF'); go_simp; (try exact rfl)); simp only [Act.put, List.setIfInBounds_toArray, List.set_cons_zero, List.set_cons_succ]) | (refine sch_pass (o := ?_) ?_ ?_ ?_; rotate_left; (· ((conv => lhs; whnf); try exact rfl)); (· rfl); simp only [Act.put, List.setIfInBounds_toArray, List.set_cons_zero, List.set_cons_succ]) | (refine sch_look (o := ?_) (v := .agg ?_) ?_ ?_ ?_ ?_; rotate_left 2; (· ((conv => lhs; whnf); try exact rfl)); (· rfl); (· intro w' hO'; refine run_opLoadS (b := ?_) (cs := ?_) (e := ?_) (f := ?_) hO' ?_ ?_ ?_ ?_; rotate_left 4; (· exact rfl); (· exact inferInstance); (· simp; done); (· simp; done)); simp only [Act.put, List.setIfInBounds_toArray, List.set_cons_zero, List.set_cons_succ])
      first | (refine sch_look (o := ?_) (v := ?_) ?_ ?_ ?_ ?_; rotate_left 2; (· ((conv => lhs; whnf); try exact rfl)); (· rfl); (· intro w' hO'; (have hF' := Own.cells hO'; simp only [cellsOf_append, cellsOf_pt] at hF'); go_simp; (try exact rfl)); simp only [Act.put, List.setIfInBounds_toArray, List.set_cons_zero, List.set_cons_succ]) | (refine sch_pass (o := ?_) ?_ ?_ ?_; rotate_left; (· ((conv => lhs; whnf); try exact rfl)); (· rfl); simp only [Act.put, List.setIfInBounds_toArray, List.set_cons_zero, List.set_cons_succ]) | (refine sch_look (o := ?_) (v := .agg ?_) ?_ ?_ ?_ ?_; rotate_left 2; (· ((conv => lhs; whnf); try exact rfl)); (· rfl); (· intro w' hO'; refine run_opLoadS (b := ?_) (cs := ?_) (e := ?_) (f := ?_) hO' ?_ ?_ ?_ ?_; rotate_left 4; (· exact rfl); (· exact inferInstance); (· simp; done); (· simp; done)); simp only [Act.put, List.setIfInBounds_toArray, List.set_cons_zero, List.set_cons_succ])
      (refine sch_act (o := ?_) ?_ ?_; rotate_left; (· ((conv => lhs; whnf); try exact rfl)))
      go_wp2_with fail
      refine (gSetRoot_ok E _ _ _ A s d a N st0 _ root k hr (by omega) hA hN hO).mono ?_
      clear hO hA
      (try clear hF)
      rintro e w7 ⟨rfl, v', A, hv', hA, hO⟩
      go_wp2_with fail
      refine ⟨hO.as _, ?_⟩
      refine sch_done ?_
      go_wp2_with fail
      rw [← HPOST.out]
      refine .inr (.inl ⟨⟨H0.out, H4.out⟩, k * 64, ⟨st1.T, st1.c, upd st1.rt root k, v'⟩, (k, [⟨1, row⟩]) :: hs, A, .inr ⟨k, st1, rfl, rfl, HAL.out, rfl, rfl, ?_⟩, ?_, by rw [show ((k * 64 : Nat) : Int) = (k : Int) * 64 by omega]; rfl, hA, by unfold heapF; exact hO.as _⟩)
      · show upd st1.rt root k = _
        rw [HAL.out.2.2.2.1]
      · refine HI.out.cons (by omega) (fun hm => ?_) hhk ?_ ?_ hpg fun x hx => ?_
        · obtain ⟨x, hx, rfl⟩ := List.mem_map.1 hm
          exact Q1.out (HI.out.has hx).1
        · show upd st1.rt root k root = k
          rw [upd_same]
        · show v' k = _
          rw [hv' k (by omega)]
          show upd st1.v k (pageB (st.rt root) [⟨1, row⟩]) k = _
          rw [upd_same]
        · obtain ⟨b1, b2⟩ := HI.out.has hx
          obtain ⟨b3, b4, b5⟩ := HAL.out.has b1 v1 v2
          refine ⟨b3, ?_⟩
          show v' x.1 = _
          rw [hv' x.1 b2]
          show upd st1.v k (pageB (st.rt root) [⟨1, row⟩]) x.1 = _
          rw [upd_ne _ _ _ _ b4]
          exact b5 b2
end Go.Proofs.YtkfkcloefgfkaaaGreat

/- Heap: Page, at's closure. -/
namespace Go.Proofs.YtkfkcloefgfkaaaGreat
open Go Go.RowKit Go.Own Go.Dk

set_option maxRecDepth 100000 in
set_option maxHeartbeats 16000000 in
theorem hPageN (n : Nat) (hn : n < 9223372036854775808) (w : World) : Calls Tryz.prog 65 #[.int .i64 n] w fun e w' => e = .returned (.int .i64 ((n / 64 : Nat) : Int)) ∧ w = w' := by
  have h1 : max (n : Int) 0 = (n : Int) := by omega
  have h2 : Int.tdiv (n : Int) 64 = ((n / 64 : Nat) : Int) := by rw [Int.tdiv_eq_ediv_of_nonneg (by omega)]; omega
  go_enter Tryz.func65, Tryz.ntmps65
  go_wp2
  go_ret
  exact ⟨congrArg (fun z => Ending.returned (Value.int .i64 z)) (by omega), rfl⟩
def atZ (tb pb nb lb eb : Nat) (tid : Int) (page next : Int) (l : Value) (e : Int) : Fr := pt tb (.cells #[.int .i64 tid] 3 (0, 0)) ++ (pt pb (.cells #[.int .i64 page] 3 (0, 0)) ++ (pt nb (.cells #[.int .i64 next] 3 (0, 0)) ++ (pt lb (.cells #[l] 111 (0, 0)) ++ pt eb (.cells #[.int .i64 e] 30 (0, 0)))))
def At1P (E : World) (s d a N h root tb pb nb lb eb : Nat) (st0 st : SSt) (tid : Int) (k next : Nat) (l : List Slot) (sa : Option Addr) (cap : Nat) (S R : Fr) (e : Ending) (w' : World) : Prop :=
  (¬ (0 ≤ tid ∧ (k : Int) = tid / 64) ∧ e = .returned (.bool true) ∧ Own E w' (atZ tb pb nb lb eb tid 0 0 (.slice none 0 0) 3 ++ (S ++ R))) ∨
  ((0 ≤ tid ∧ (k : Int) = tid / 64) ∧ e = .returned (.bool false) ∧
    (((∃ hk : (tid % 64).toNat < l.length, (l[(tid % 64).toNat]).st ≠ 0) ∧ Own E w' (atZ tb pb nb lb eb tid k next (.slice sa l.length cap) 0 ++ (S ++ R))) ∨
     (¬ (∃ hk : (tid % 64).toNat < l.length, (l[(tid % 64).toNat]).st ≠ 0) ∧ Own E w' (atZ tb pb nb lb eb tid 0 0 (.slice none 0 0) 3 ++ (S ++ R)))))
set_option maxRecDepth 100000 in
set_option maxHeartbeats 16000000 in
theorem hAt1 (E w : World) (R S : Fr) (s d a N h root : Nat) (st0 st : SSt) (tid : Int) (htb : tid < 9223372036854775808) (k next : Nat) (l : List Slot) (sa : Option Addr) (cap tb pb nb lb eb : Nat) (hll : l.length ≤ 64) (hS : Sl 115 2 sa l.length cap (slV l) S) (hO : Own E w (atZ tb pb nb lb eb tid 0 0 (.slice none 0 0) 3 ++ (S ++ R))) :
    Calls Tryz.prog 114 #[.int .i64 k, .int .i64 next, .slice sa l.length cap, .pointer (some ⟨tb, 0, none⟩), .pointer (some ⟨pb, 0, none⟩), .pointer (some ⟨nb, 0, none⟩), .pointer (some ⟨lb, 0, none⟩), .pointer (some ⟨eb, 0, none⟩)] w (At1P E s d a N h root tb pb nb lb eb st0 st tid k next l sa cap S R) := by
  generalize hpost : At1P E s d a N h root tb pb nb lb eb st0 st tid k next l sa cap S R = POST
  have HPOST := Lib.hid hpost
  clear hpost
  unfold atZ at hO
  have hF := Own.cells hO; simp only [cellsOf_append, cellsOf_pt] at hF
  by_cases h0 : 0 ≤ tid
  rotate_left
  · have H0 := Lib.hid h0
    have h1 : ¬ (0 : Int) ≤ tid := h0
    clear h0
    go_enter Tryz.func114, Tryz.ntmps114
    go_wp2_with fail
    rw [← HPOST.out]
    exact .inl ⟨fun h => by have h2 := H0.out; omega, rfl, by unfold atZ; exact hO.as _⟩
  obtain ⟨n, rfl⟩ : ∃ n : Nat, tid = n := ⟨tid.toNat, by omega⟩
  have hnb : n < 9223372036854775808 := by omega
  have HP := Lib.hid (show ((n : Int) / 64) = ((n / 64 : Nat) : Int) by omega)
  have HQ := Lib.hid (show ((n : Int) % 64).toNat = n % 64 by omega)
  have hrm : Int.tmod (n : Int) 64 = ((n % 64 : Nat) : Int) := by rw [Int.tmod_eq_emod_of_nonneg (by omega)]; omega
  clear htb
  by_cases hk : k = n / 64
  rotate_left
  · have hk1 : ¬ (k : Int) = ((n / 64 : Nat) : Int) := by omega
    have hk2 : ¬ (k : Int) = (n : Int) / 64 := by omega
    have HK := Lib.hid hk2
    clear hk
    go_enter Tryz.func114, Tryz.ntmps114
    go_wp2_with (first | (go_at_call 65; go_must (refine (hPageN n hnb _).mono ?_; rintro e w1 ⟨rfl, rfl⟩)))
    rw [← HPOST.out]
    exact .inl ⟨fun h => HK.out h.2, rfl, by unfold atZ; exact hO.as _⟩
  have HK := Lib.hid (show (k : Int) = (n : Int) / 64 by omega)
  have hk1 : (k : Int) = ((n / 64 : Nat) : Int) := by omega
  obtain ⟨i, hi⟩ : ∃ i, n % 64 = i := ⟨_, rfl⟩
  have hi64 : i < 64 := by omega
  rw [hi] at hrm HQ
  clear hk hi
  by_cases hil : i < l.length
  rotate_left
  · have hil1 : ¬ (i : Int) < l.length := by omega
    have HIL := Lib.hid hil
    clear hil
    go_enter Tryz.func114, Tryz.ntmps114
    go_wp2_with (first | (go_at_call 65; go_must (refine (hPageN n hnb _).mono ?_; rintro e w1 ⟨rfl, rfl⟩)))
    rw [← HPOST.out]
    exact .inr ⟨⟨by omega, HK.out⟩, rfl, .inr ⟨fun h => by obtain ⟨h1, _⟩ := h; rw [HQ.out] at h1; exact HIL.out h1, by unfold atZ; exact hO.as _⟩⟩
  obtain ⟨sb, rfl⟩ := sl_some4 hS (Nat.lt_of_le_of_lt (Nat.zero_le _) hil)
  have hil1 : (i : Int) < l.length := by omega
  have hil2 : (0 : Int) ≤ i := by omega
  have hc := slot_at hS hO hil 0 (.int .i64 l[i].st) rfl
  rw [add_lit, Nat.add_zero] at hc
  by_cases hst : l[i].st = 0
  · have HST := Lib.hid (show ∀ h : i < l.length, l[i].st = 0 from fun _ => hst)
    rw [hst] at hc
    clear hst hil
    go_enter Tryz.func114, Tryz.ntmps114
    go_wp2_with (first | (go_at_call 65; go_must (refine (hPageN n hnb _).mono ?_; rintro e w1 ⟨rfl, rfl⟩)))
    rw [← HPOST.out]
    refine .inr ⟨⟨by omega, HK.out⟩, rfl, .inr ⟨fun h => ?_, by unfold atZ; exact hO.as _⟩⟩
    obtain ⟨h1, h2⟩ := h
    simp only [HQ.out] at h1 h2
    exact h2 (HST.out h1)
  · have HST := Lib.hid (show ∃ h : i < l.length, l[i].st ≠ 0 from ⟨hil, hst⟩)
    obtain ⟨q, hq⟩ : ∃ q, l[i].st = q := ⟨_, rfl⟩
    rw [hq] at hc hst
    have hq0 : ¬ (q : Int) = 0 := by omega
    clear hq hst hil
    go_enter Tryz.func114, Tryz.ntmps114
    go_wp2_with (first | (go_at_call 65; go_must (refine (hPageN n hnb _).mono ?_; rintro e w1 ⟨rfl, rfl⟩)) | (refine own_store (v := ?_) (off := 0) (b := pb) hO ?_ ?_ ?_ ?_ ?_ ?_ ?_; rotate_left; (· rfl); (· ((conv => lhs; whnf); try exact rfl)); (· ((conv => lhs; whnf); try exact rfl)); (· simp [Value.cells]); (· simp [Value.cells, Value.oneCell']); (· simp [Value.cells]); clear hO; (try clear hF); intro _ hO; (try simp only [splice, Value.cells] at hO); ((try simp only [List.nil_append, List.append_nil] at hO); have hF := Own.cells hO; simp only [cellsOf_append, cellsOf_pt] at hF); simp only [Act.put, List.setIfInBounds_toArray, List.set_cons_zero, List.set_cons_succ]) | (refine own_store (v := ?_) (off := 0) (b := nb) hO ?_ ?_ ?_ ?_ ?_ ?_ ?_; rotate_left; (· rfl); (· ((conv => lhs; whnf); try exact rfl)); (· ((conv => lhs; whnf); try exact rfl)); (· simp [Value.cells]); (· simp [Value.cells, Value.oneCell']); (· simp [Value.cells]); clear hO; (try clear hF); intro _ hO; (try simp only [splice, Value.cells] at hO); ((try simp only [List.nil_append, List.append_nil] at hO); have hF := Own.cells hO; simp only [cellsOf_append, cellsOf_pt] at hF); simp only [Act.put, List.setIfInBounds_toArray, List.set_cons_zero, List.set_cons_succ]) | (refine own_store (v := ?_) (off := 0) (b := lb) hO ?_ ?_ ?_ ?_ ?_ ?_ ?_; rotate_left; (· rfl); (· ((conv => lhs; whnf); try exact rfl)); (· ((conv => lhs; whnf); try exact rfl)); (· simp [Value.cells]); (· simp [Value.cells, Value.oneCell']); (· simp [Value.cells]); clear hO; (try clear hF); intro _ hO; (try simp only [splice, Value.cells] at hO); ((try simp only [List.nil_append, List.append_nil] at hO); have hF := Own.cells hO; simp only [cellsOf_append, cellsOf_pt] at hF); simp only [Act.put, List.setIfInBounds_toArray, List.set_cons_zero, List.set_cons_succ]) | (refine own_store (v := ?_) (off := 0) (b := eb) hO ?_ ?_ ?_ ?_ ?_ ?_ ?_; rotate_left; (· rfl); (· ((conv => lhs; whnf); try exact rfl)); (· ((conv => lhs; whnf); try exact rfl)); (· simp [Value.cells]); (· simp [Value.cells, Value.oneCell']); (· simp [Value.cells]); clear hO; (try clear hF); intro _ hO; (try simp only [splice, Value.cells] at hO); ((try simp only [List.nil_append, List.append_nil] at hO); have hF := Own.cells hO; simp only [cellsOf_append, cellsOf_pt] at hF); simp only [Act.put, List.setIfInBounds_toArray, List.set_cons_zero, List.set_cons_succ]))
    (try simp only [splice, Value.cells, List.setIfInBounds_toArray, List.set_cons_zero, List.set_cons_succ] at hO)
    rw [← HPOST.out]
    have hk0 := HK.out
    refine .inr ⟨⟨by omega, hk0⟩, rfl, .inl ⟨?_, by unfold atZ; (try rw [hk0]); exact hO.as _⟩⟩
    simp only [HQ.out]
    exact HST.out
end Go.Proofs.YtkfkcloefgfkaaaGreat

/- Heap: at. -/
namespace Go.Proofs.YtkfkcloefgfkaaaGreat
open Go Go.RowKit Go.Own Go.Dk

theorem results_c4 {P : Program} {w : World} {fn : Func} {p1 p2 p3 p4 : Tmp} {t1 t2 t3 t4 : TypeId} {b1 b2 b3 b4 : Nat} {u1 u2 u3 u4 : Value} {tmps : Array Value} (h : fn.results = #[.cell p1 t1, .cell p2 t2, .cell p3 t3, .cell p4 t4])
    (h1 : tmps.getD p1 undef = .pointer (some ⟨b1, 0, none⟩)) (h2 : tmps.getD p2 undef = .pointer (some ⟨b2, 0, none⟩)) (h3 : tmps.getD p3 undef = .pointer (some ⟨b3, 0, none⟩)) (h4 : tmps.getD p4 undef = .pointer (some ⟨b4, 0, none⟩))
    (l1 : (loadVar t1 ⟨b1, 0, none⟩).run P w = .ok u1 w) (l2 : (loadVar t2 ⟨b2, 0, none⟩).run P w = .ok u2 w) (l3 : (loadVar t3 ⟨b3, 0, none⟩).run P w = .ok u3 w) (l4 : (loadVar t4 ⟨b4, 0, none⟩).run P w = .ok u4 w) :
    (results fn tmps).run P w = .ok (.tuple #[u1, u2, u3, u4]) w := by
  have h0 : (results fn tmps).run P w = ((asAddr (tmps.getD p1 undef)).run P w).andThen fun a w₁ => ((loadVar t1 a).run P w₁).andThen fun v w₂ => ((asAddr (tmps.getD p2 undef)).run P w₂).andThen fun a w₃ => ((loadVar t2 a).run P w₃).andThen fun v2 w₄ => ((asAddr (tmps.getD p3 undef)).run P w₄).andThen fun a w₅ => ((loadVar t3 a).run P w₅).andThen fun v3 w₆ => ((asAddr (tmps.getD p4 undef)).run P w₆).andThen fun a w₇ => ((loadVar t4 a).run P w₇).andThen fun v4 w₈ => .ok (.tuple #[v, v2, v3, v4]) w₈ := by
    simp only [results, h]
    simp [Sem.run_bind, Result.andThen]
  rw [h0, h1, h2, h3, h4]
  simp [asAddr, l1, l2, l3, l4]
theorem run_loadVar1 {P : Program} {w : World} {t : TypeId} {ad : Addr} {v : Value} (ht : (isAgg t).run P w = .ok false w) (hc : w.cell? ad = some v) : (loadVar t ad).run P w = .ok v w := by
  simp [loadVar, Sem.run_bind, ht, Result.andThen, hc]
/-- An address that holds a row: page j of the heap, slot k. -/
def Holds (hs : Hs) (tid : Int) (j k : Nat) : Prop := ∃ (hj : j < hs.length) (hk : k < hs[j].2.length), k < 64 ∧ tid = ((hs[j].1 * 64 + k : Nat) : Int) ∧ hs[j].2[k].st ≠ 0
def HAtP (E : World) (s d a N h root : Nat) (st0 st : SSt) (hs : Hs) (tid : Int) (R : Fr) (e : Ending) (w' : World) : Prop :=
  (∃ (j k : Nat) (hj : j < hs.length) (sa : Option Addr) (cap : Nat) (S A' : Fr), Holds hs tid j k ∧ e = .returned (.tuple #[.int .i64 hs[j].1, .int .i64 (nxt hs (j + 1)), .slice sa hs[j].2.length cap, .int .i64 0]) ∧ Sl 115 2 sa hs[j].2.length cap (slV hs[j].2) S ∧ Going s d a N st0 st A' ∧ Own E w' (heapF h a root ++ (A' ++ (S ++ R)))) ∨
  ((∀ j k, ¬ Holds hs tid j k) ∧ e = .returned (.tuple #[.int .i64 0, .int .i64 0, .slice none 0 0, .int .i64 3]) ∧ ∃ A', Going s d a N st0 st A' ∧ Own E w' (heapF h a root ++ (A' ++ R)))
set_option maxRecDepth 100000 in
set_option maxHeartbeats 16000000 in
theorem hAt (E w : World) (X R A : Fr) (s d a N h : Nat) (st0 st : SSt) (root : Nat) (hr : root < 16) (hs : Hs) (hI : HInv st root hs) (tid : Int) (htb : tid < 9223372036854775808) (hA : Going s d a N st0 st A) (hN : N ≤ 8796000000000) (hO : Own E w X) [hp : Pick X (heapF h a root ++ A) R] :
    Calls Tryz.prog 62 #[.pointer (some ⟨h, 0, none⟩), .int .i64 tid] w (HAtP E s d a N h root st0 st hs tid R) := by
  replace hO : Own E w (heapF h a root ++ (A ++ R)) := by have := hO.perm hp.perm; rwa [List.append_assoc] at this
  clear hp
  generalize hpost : HAtP E s d a N h root st0 st hs tid R = POST
  have HPOST := Lib.hid hpost
  clear hpost
  obtain ⟨v1, v2, v3⟩ := hA.view
  have hlen := hI.len
  go_enter Tryz.func62, Tryz.ntmps62
  go_wp2_with (first | (refine at_box ?_; go_must (refine own_box (v := ?_) hO ?_ ?_ ?_; rotate_left; (· rfl); (· ((conv => lhs; whnf); try exact rfl)); clear hO; (try clear hF); intro tb _ hO; (try simp only [Value.cells] at hO); ((try simp only [List.nil_append, List.append_nil] at hO); have hF := Own.cells hO; simp only [cellsOf_append, cellsOf_pt] at hF); simp only [Act.put, List.setIfInBounds_toArray, List.set_cons_zero, List.set_cons_succ])) | (refine at_alloc ?_; refine Stop.go ?_))
  refine ⟨?_⟩
  refine own_alloc (z := .int .i64 0) hO rfl (by kernel_rfl) ?_
  clear hO; (try clear hF)
  intro pb _ hO
  simp only [Act.put, List.setIfInBounds_toArray, List.set_cons_zero, List.set_cons_succ]
  go_wp2_with (first | (refine at_alloc ?_; refine Stop.go ?_))
  refine ⟨?_⟩
  refine own_alloc (z := .int .i64 0) hO rfl (by kernel_rfl) ?_
  clear hO
  intro nb _ hO
  simp only [Act.put, List.setIfInBounds_toArray, List.set_cons_zero, List.set_cons_succ]
  go_wp2_with (first | (refine at_alloc ?_; refine Stop.go ?_))
  refine ⟨?_⟩
  refine own_alloc (z := .slice none 0 0) hO rfl (by kernel_rfl) ?_
  clear hO
  intro lb _ hO
  simp only [Act.put, List.setIfInBounds_toArray, List.set_cons_zero, List.set_cons_succ]
  go_wp2_with (first | (refine at_alloc ?_; refine Stop.go ?_))
  refine ⟨?_⟩
  refine own_alloc (z := .int .i64 0) hO rfl (by kernel_rfl) ?_
  clear hO
  intro eb _ hO
  (try simp only [Value.cells] at hO)
  simp only [Act.put, List.setIfInBounds_toArray, List.set_cons_zero, List.set_cons_succ]
  go_wp2_with fail
  refine (hFirst E _ _ _ A s d a N h st0 st root hr hA hN hO).mono ?_
  clear hO hA
  rintro e w1 ⟨rfl, A, hA, hO⟩
  ((try simp only [List.nil_append, List.append_nil] at hO); have hF := Own.cells hO; simp only [cellsOf_append, cellsOf_pt] at hF)
  go_wp2_with (first | (refine own_store (v := ?_) (off := 0) (b := eb) hO ?_ ?_ ?_ ?_ ?_ ?_ ?_; rotate_left; (· rfl); (· ((conv => lhs; whnf); try exact rfl)); (· ((conv => lhs; whnf); try exact rfl)); (· simp [Value.cells]); (· simp [Value.cells, Value.oneCell']); (· simp [Value.cells]); clear hO; (try clear hF); intro _ hO; (try simp only [splice, Value.cells] at hO); ((try simp only [List.nil_append, List.append_nil] at hO); have hF := Own.cells hO; simp only [cellsOf_append, cellsOf_pt] at hF); simp only [Act.put, List.setIfInBounds_toArray, List.set_cons_zero, List.set_cons_succ]))
  (try simp only [splice, Value.cells, List.setIfInBounds_toArray, List.set_cons_zero, List.set_cons_succ] at hO)
  have eg : ∀ args w, (callFunc 114 args).run Tryz.prog w = .ok (.enter 114 args) w := enters_of Tryz.func114 (by kernel_rfl) rfl
  obtain ⟨hF0, hat⟩ := hch_at hI.ch
  have step : ∀ (j : Nat) (hj : j < hs.length) (w : World) (A Z S : Fr) (sa : Option Addr) (cap : Nat), (Z = atZ tb pb nb lb eb tid 0 0 (.slice none 0 0) 3 ∧ ∀ i (hi : i < hs.length), i < j → ¬ (0 ≤ tid ∧ (hs[i].1 : Int) = tid / 64)) → Going s d a N st0 st A → Sl 115 2 sa hs[j].2.length cap (slV hs[j].2) S → Own E w (heapF h a root ++ (A ++ (Z ++ (S ++ R)))) →
      Calls Tryz.prog 114 (#[.int .i64 hs[j].1, .int .i64 (nxt hs (j + 1)), .slice sa hs[j].2.length cap] ++ #[.pointer (some ⟨tb, 0, none⟩), .pointer (some ⟨pb, 0, none⟩), .pointer (some ⟨nb, 0, none⟩), .pointer (some ⟨lb, 0, none⟩), .pointer (some ⟨eb, 0, none⟩)]) w fun e w' => (e = .returned (.bool true) ∧ ∃ A' Z', (Z' = atZ tb pb nb lb eb tid 0 0 (.slice none 0 0) 3 ∧ ∀ i (hi : i < hs.length), i < j + 1 → ¬ (0 ≤ tid ∧ (hs[i].1 : Int) = tid / 64)) ∧ Going s d a N st0 st A' ∧ Own E w' (heapF h a root ++ (A' ++ (Z' ++ R)))) ∨
        (e = .returned (.bool false) ∧ ∃ Q, (∃ (hj : j < hs.length) (A' : Fr), (0 ≤ tid ∧ (hs[j].1 : Int) = tid / 64) ∧ Going s d a N st0 st A' ∧
          (((∃ hk : (tid % 64).toNat < hs[j].2.length, (hs[j].2[(tid % 64).toNat]).st ≠ 0) ∧ ∃ (sa : Option Addr) (cap : Nat) (S : Fr), Sl 115 2 sa hs[j].2.length cap (slV hs[j].2) S ∧ Q = A' ++ (atZ tb pb nb lb eb tid hs[j].1 (nxt hs (j + 1)) (.slice sa hs[j].2.length cap) 0 ++ S)) ∨
           (¬ (∃ hk : (tid % 64).toNat < hs[j].2.length, (hs[j].2[(tid % 64).toNat]).st ≠ 0) ∧ Q = A' ++ atZ tb pb nb lb eb tid 0 0 (.slice none 0 0) 3))) ∧ Own E w' (heapF h a root ++ (Q ++ R))) := by
    rintro j hj w A Z S sa cap ⟨rfl, hbef⟩ hA hS hO
    obtain ⟨a1, a2, a3, a4⟩ := hat j hj
    refine (hAt1 E w (heapF h a root ++ (A ++ R)) S s d a N h root st0 st tid htb hs[j].1 (nxt hs (j + 1)) hs[j].2 sa cap tb pb nb lb eb a4.len hS (hO.as _)).mono ?_
    rintro e w' (⟨hn, rfl, hO⟩ | ⟨hy, rfl, ⟨hk, hO⟩ | ⟨hk, hO⟩⟩)
    · refine .inl ⟨rfl, A, _, ⟨rfl, fun i hi hij => ?_⟩, hA, hO.as _⟩
      by_cases e : i = j
      · subst e; exact hn
      · exact hbef i hi (by omega)
    · exact .inr ⟨rfl, _, ⟨hj, A, hy, hA, .inl ⟨hk, sa, cap, S, hS, rfl⟩⟩, hO.as _⟩
    · exact .inr ⟨rfl, _, ⟨hj, A, hy, hA, .inr ⟨hk, rfl⟩⟩, hO.as _⟩
  have hO9 : Own E _ (heapF h a root ++ (A ++ (atZ tb pb nb lb eb tid 0 0 (.slice none 0 0) 3 ++ R))) := hO.as (heapF h a root ++ (A ++ ((pt tb (.cells #[.int .i64 tid] 3 (0, 0)) ++ (pt pb (.cells #[.int .i64 0] 3 (0, 0)) ++ (pt nb (.cells #[.int .i64 0] 3 (0, 0)) ++ (pt lb (.cells #[.slice none 0 0] 111 (0, 0)) ++ pt eb (.cells #[.int .i64 3] 30 (0, 0)))))) ++ R)))
  refine (hEach E _ _ R A (atZ tb pb nb lb eb tid 0 0 (.slice none 0 0) 3) s d a N h st0 st root hr hs hI.ch (by omega) 114 _ eg _ _ ⟨rfl, fun i hi hij => absurd hij (Nat.not_lt_zero i)⟩ step hA hN hO9).mono ?_
  clear hO hO9 hA step hF0
  have hno1 : ∀ j k, Holds hs tid j k → ∃ hj : j < hs.length, (0 ≤ tid ∧ (hs[j].1 : Int) = tid / 64) ∧ (tid % 64).toNat = k ∧ ∃ hk : k < hs[j].2.length, hs[j].2[k].st ≠ 0 := by
    rintro j k ⟨hj, hk, h64, ht, hs0⟩
    exact ⟨hj, ⟨by omega, by omega⟩, by omega, hk, hs0⟩
  have HNO1 := Lib.hid hno1
  have HI := Lib.hid hI
  clear hno1 hI
  rintro e w3 ⟨rfl, ⟨A, Z, ⟨rfl, hno⟩, hA, hO⟩ | ⟨j, Q, hjl, ⟨hj, A, hy, hA, ⟨⟨hk, hks⟩, sa, cap, S, hS, rfl⟩ | ⟨hk, rfl⟩⟩, hO⟩⟩
  · have hpost2 : ∀ j k, ¬ Holds hs tid j k := fun j k hh => by
      obtain ⟨hj, h1, _⟩ := HNO1.out j k hh
      exact hno j hj hj h1
    have HP2 := Lib.hid hpost2
    clear hpost2 hno hat
    unfold atZ at hO
    ((try simp only [List.nil_append, List.append_nil] at hO); have hF := Own.cells hO; simp only [cellsOf_append, cellsOf_pt] at hF)
    go_wp2_with fail
    (try (go_wp2_with fail))
    refine region_sch (fun w' => Own E w' (pt pb (.cells #[.int .i64 0] 3 (0, 0)) ++ (pt nb (.cells #[.int .i64 0] 3 (0, 0)) ++ (pt lb (.cells #[.slice none 0 0] 111 (0, 0)) ++ pt eb (.cells #[.int .i64 3] 30 (0, 0)))))) (.look 0 (.look 1 (.look 2 (.look 3 (.act 4 (.act 5 (.act 6 (.act 7 .done)))))))) (by kernel_rfl) (by kernel_rfl) (fun _ _ d _ _ h => by cases d <;> exact h) ?_ ?_
    · exact hO.drew.as _
    replace hO := hO.drew
    generalize World.drew _ = wdr at hO ⊢
    first | (refine sch_look (o := ?_) (v := ?_) ?_ ?_ ?_ ?_; rotate_left 2; (· ((conv => lhs; whnf); try exact rfl)); (· rfl); (· intro w' hO'; (have hF' := Own.cells hO'; simp only [cellsOf_append, cellsOf_pt] at hF'); go_simp; (try exact rfl)); simp only [Act.put, List.setIfInBounds_toArray, List.set_cons_zero, List.set_cons_succ]) | (refine sch_pass (o := ?_) ?_ ?_ ?_; rotate_left; (· ((conv => lhs; whnf); try exact rfl)); (· rfl); simp only [Act.put, List.setIfInBounds_toArray, List.set_cons_zero, List.set_cons_succ]) | (refine sch_look (o := ?_) (v := .agg ?_) ?_ ?_ ?_ ?_; rotate_left 2; (· ((conv => lhs; whnf); try exact rfl)); (· rfl); (· intro w' hO'; refine run_opLoadS (b := ?_) (cs := ?_) (e := ?_) (f := ?_) hO' ?_ ?_ ?_ ?_; rotate_left 4; (· exact rfl); (· exact inferInstance); (· simp; done); (· simp; done)); simp only [Act.put, List.setIfInBounds_toArray, List.set_cons_zero, List.set_cons_succ])
    first | (refine sch_look (o := ?_) (v := ?_) ?_ ?_ ?_ ?_; rotate_left 2; (· ((conv => lhs; whnf); try exact rfl)); (· rfl); (· intro w' hO'; (have hF' := Own.cells hO'; simp only [cellsOf_append, cellsOf_pt] at hF'); go_simp; (try exact rfl)); simp only [Act.put, List.setIfInBounds_toArray, List.set_cons_zero, List.set_cons_succ]) | (refine sch_pass (o := ?_) ?_ ?_ ?_; rotate_left; (· ((conv => lhs; whnf); try exact rfl)); (· rfl); simp only [Act.put, List.setIfInBounds_toArray, List.set_cons_zero, List.set_cons_succ]) | (refine sch_look (o := ?_) (v := .agg ?_) ?_ ?_ ?_ ?_; rotate_left 2; (· ((conv => lhs; whnf); try exact rfl)); (· rfl); (· intro w' hO'; refine run_opLoadS (b := ?_) (cs := ?_) (e := ?_) (f := ?_) hO' ?_ ?_ ?_ ?_; rotate_left 4; (· exact rfl); (· exact inferInstance); (· simp; done); (· simp; done)); simp only [Act.put, List.setIfInBounds_toArray, List.set_cons_zero, List.set_cons_succ])
    first | (refine sch_look (o := ?_) (v := ?_) ?_ ?_ ?_ ?_; rotate_left 2; (· ((conv => lhs; whnf); try exact rfl)); (· rfl); (· intro w' hO'; (have hF' := Own.cells hO'; simp only [cellsOf_append, cellsOf_pt] at hF'); go_simp; (try exact rfl)); simp only [Act.put, List.setIfInBounds_toArray, List.set_cons_zero, List.set_cons_succ]) | (refine sch_pass (o := ?_) ?_ ?_ ?_; rotate_left; (· ((conv => lhs; whnf); try exact rfl)); (· rfl); simp only [Act.put, List.setIfInBounds_toArray, List.set_cons_zero, List.set_cons_succ]) | (refine sch_look (o := ?_) (v := .agg ?_) ?_ ?_ ?_ ?_; rotate_left 2; (· ((conv => lhs; whnf); try exact rfl)); (· rfl); (· intro w' hO'; refine run_opLoadS (b := ?_) (cs := ?_) (e := ?_) (f := ?_) hO' ?_ ?_ ?_ ?_; rotate_left 4; (· exact rfl); (· exact inferInstance); (· simp; done); (· simp; done)); simp only [Act.put, List.setIfInBounds_toArray, List.set_cons_zero, List.set_cons_succ])
    first | (refine sch_look (o := ?_) (v := ?_) ?_ ?_ ?_ ?_; rotate_left 2; (· ((conv => lhs; whnf); try exact rfl)); (· rfl); (· intro w' hO'; (have hF' := Own.cells hO'; simp only [cellsOf_append, cellsOf_pt] at hF'); go_simp; (try exact rfl)); simp only [Act.put, List.setIfInBounds_toArray, List.set_cons_zero, List.set_cons_succ]) | (refine sch_pass (o := ?_) ?_ ?_ ?_; rotate_left; (· ((conv => lhs; whnf); try exact rfl)); (· rfl); simp only [Act.put, List.setIfInBounds_toArray, List.set_cons_zero, List.set_cons_succ]) | (refine sch_look (o := ?_) (v := .agg ?_) ?_ ?_ ?_ ?_; rotate_left 2; (· ((conv => lhs; whnf); try exact rfl)); (· rfl); (· intro w' hO'; refine run_opLoadS (b := ?_) (cs := ?_) (e := ?_) (f := ?_) hO' ?_ ?_ ?_ ?_; rotate_left 4; (· exact rfl); (· exact inferInstance); (· simp; done); (· simp; done)); simp only [Act.put, List.setIfInBounds_toArray, List.set_cons_zero, List.set_cons_succ])
    (refine sch_act (o := ?_) ?_ ?_; rotate_left; (· ((conv => lhs; whnf); try exact rfl)))
    go_wp2_with (first | (refine own_store (v := ?_) (off := 0) (b := pb) hO ?_ ?_ ?_ ?_ ?_ ?_ ?_; rotate_left; (· rfl); (· ((conv => lhs; whnf); try exact rfl)); (· ((conv => lhs; whnf); try exact rfl)); (· simp [Value.cells]); (· simp [Value.cells, Value.oneCell']); (· simp [Value.cells]); clear hO; (try clear hF); intro _ hO; (try simp only [splice, Value.cells] at hO); ((try simp only [List.nil_append, List.append_nil] at hO); have hF := Own.cells hO; simp only [cellsOf_append, cellsOf_pt] at hF); simp only [Act.put, List.setIfInBounds_toArray, List.set_cons_zero, List.set_cons_succ]))
    (try simp only [splice, Value.cells, List.setIfInBounds_toArray, List.set_cons_zero, List.set_cons_succ] at hO)
    refine ⟨hO.as _, ?_⟩
    (refine sch_act (o := ?_) ?_ ?_; rotate_left; (· ((conv => lhs; whnf); try exact rfl)))
    go_wp2_with (first | (refine own_store (v := ?_) (off := 0) (b := nb) hO ?_ ?_ ?_ ?_ ?_ ?_ ?_; rotate_left; (· rfl); (· ((conv => lhs; whnf); try exact rfl)); (· ((conv => lhs; whnf); try exact rfl)); (· simp [Value.cells]); (· simp [Value.cells, Value.oneCell']); (· simp [Value.cells]); clear hO; (try clear hF); intro _ hO; (try simp only [splice, Value.cells] at hO); ((try simp only [List.nil_append, List.append_nil] at hO); have hF := Own.cells hO; simp only [cellsOf_append, cellsOf_pt] at hF); simp only [Act.put, List.setIfInBounds_toArray, List.set_cons_zero, List.set_cons_succ]))
    (try simp only [splice, Value.cells, List.setIfInBounds_toArray, List.set_cons_zero, List.set_cons_succ] at hO)
    refine ⟨hO.as _, ?_⟩
    (refine sch_act (o := ?_) ?_ ?_; rotate_left; (· ((conv => lhs; whnf); try exact rfl)))
    go_wp2_with (first | (refine own_store (v := ?_) (off := 0) (b := lb) hO ?_ ?_ ?_ ?_ ?_ ?_ ?_; rotate_left; (· rfl); (· ((conv => lhs; whnf); try exact rfl)); (· ((conv => lhs; whnf); try exact rfl)); (· simp [Value.cells]); (· simp [Value.cells, Value.oneCell']); (· simp [Value.cells]); clear hO; (try clear hF); intro _ hO; (try simp only [splice, Value.cells] at hO); ((try simp only [List.nil_append, List.append_nil] at hO); have hF := Own.cells hO; simp only [cellsOf_append, cellsOf_pt] at hF); simp only [Act.put, List.setIfInBounds_toArray, List.set_cons_zero, List.set_cons_succ]))
    (try simp only [splice, Value.cells, List.setIfInBounds_toArray, List.set_cons_zero, List.set_cons_succ] at hO)
    refine ⟨hO.as _, ?_⟩
    (refine sch_act (o := ?_) ?_ ?_; rotate_left; (· ((conv => lhs; whnf); try exact rfl)))
    go_wp2_with (first | (refine own_store (v := ?_) (off := 0) (b := eb) hO ?_ ?_ ?_ ?_ ?_ ?_ ?_; rotate_left; (· rfl); (· ((conv => lhs; whnf); try exact rfl)); (· ((conv => lhs; whnf); try exact rfl)); (· simp [Value.cells]); (· simp [Value.cells, Value.oneCell']); (· simp [Value.cells]); clear hO; (try clear hF); intro _ hO; (try simp only [splice, Value.cells] at hO); ((try simp only [List.nil_append, List.append_nil] at hO); have hF := Own.cells hO; simp only [cellsOf_append, cellsOf_pt] at hF); simp only [Act.put, List.setIfInBounds_toArray, List.set_cons_zero, List.set_cons_succ]))
    (try simp only [splice, Value.cells, List.setIfInBounds_toArray, List.set_cons_zero, List.set_cons_succ] at hO)
    refine ⟨hO.as _, ?_⟩
    refine sch_done ?_
    have hF := Own.cells hO; simp only [cellsOf_append, cellsOf_pt] at hF
    go_wp2_with fail
    refine bodyPost_ret (results_c4 (b1 := pb) (b2 := nb) (b3 := lb) (b4 := eb) rfl (by exact rfl) (by exact rfl) (by exact rfl) (by exact rfl) (run_loadVar1 (by kernel_rfl) (by rw [hO.cell (b := pb)]; rfl)) (run_loadVar1 (by kernel_rfl) (by rw [hO.cell (b := nb)]; rfl)) (run_loadVar1 (by kernel_rfl) (by rw [hO.cell (b := lb)]; rfl)) (run_loadVar1 (by kernel_rfl) (by rw [hO.cell (b := eb)]; rfl))) rfl ?_
    rw [← HPOST.out]
    exact .inr ⟨HP2.out, rfl, A, hA, hO.as _⟩
  · have hh : Holds hs tid j (tid % 64).toNat := ⟨hj, hk, by omega, by have := hy.1; have := hy.2; omega, hks⟩
    have HH := Lib.hid hh
    obtain ⟨p, hp⟩ : ∃ p, hs[j].1 = p := ⟨_, rfl⟩
    obtain ⟨q, hq⟩ : ∃ q, nxt hs (j + 1) = q := ⟨_, rfl⟩
    obtain ⟨l, hl⟩ : ∃ l, hs[j].2 = l := ⟨_, rfl⟩
    rw [hp, hq, hl] at hO
    rw [hl] at hS
    have HP := Lib.hid (show ∀ h : j < hs.length, hs[j].1 = p from fun _ => hp)
    have HQ := Lib.hid hq
    have HL := Lib.hid (show ∀ h : j < hs.length, hs[j].2 = l from fun _ => hl)
    have HJ := Lib.hid hj
    clear hh hks hk hy hp hq hl hat hjl hj
    unfold atZ at hO
    ((try simp only [List.nil_append, List.append_nil] at hO); have hF := Own.cells hO; simp only [cellsOf_append, cellsOf_pt] at hF)
    go_wp2_with fail
    (try (go_wp2_with fail))
    refine region_sch (fun w' => Own E w' (pt pb (.cells #[.int .i64 p] 3 (0, 0)) ++ (pt nb (.cells #[.int .i64 q] 3 (0, 0)) ++ (pt lb (.cells #[.slice sa l.length cap] 111 (0, 0)) ++ pt eb (.cells #[.int .i64 0] 30 (0, 0)))))) (.look 0 (.look 1 (.look 2 (.look 3 (.act 4 (.act 5 (.act 6 (.act 7 .done)))))))) (by kernel_rfl) (by kernel_rfl) (fun _ _ d _ _ h => by cases d <;> exact h) ?_ ?_
    · exact hO.drew.as _
    replace hO := hO.drew
    generalize World.drew _ = wdr at hO ⊢
    first | (refine sch_look (o := ?_) (v := ?_) ?_ ?_ ?_ ?_; rotate_left 2; (· ((conv => lhs; whnf); try exact rfl)); (· rfl); (· intro w' hO'; (have hF' := Own.cells hO'; simp only [cellsOf_append, cellsOf_pt] at hF'); go_simp; (try exact rfl)); simp only [Act.put, List.setIfInBounds_toArray, List.set_cons_zero, List.set_cons_succ]) | (refine sch_pass (o := ?_) ?_ ?_ ?_; rotate_left; (· ((conv => lhs; whnf); try exact rfl)); (· rfl); simp only [Act.put, List.setIfInBounds_toArray, List.set_cons_zero, List.set_cons_succ]) | (refine sch_look (o := ?_) (v := .agg ?_) ?_ ?_ ?_ ?_; rotate_left 2; (· ((conv => lhs; whnf); try exact rfl)); (· rfl); (· intro w' hO'; refine run_opLoadS (b := ?_) (cs := ?_) (e := ?_) (f := ?_) hO' ?_ ?_ ?_ ?_; rotate_left 4; (· exact rfl); (· exact inferInstance); (· simp; done); (· simp; done)); simp only [Act.put, List.setIfInBounds_toArray, List.set_cons_zero, List.set_cons_succ])
    first | (refine sch_look (o := ?_) (v := ?_) ?_ ?_ ?_ ?_; rotate_left 2; (· ((conv => lhs; whnf); try exact rfl)); (· rfl); (· intro w' hO'; (have hF' := Own.cells hO'; simp only [cellsOf_append, cellsOf_pt] at hF'); go_simp; (try exact rfl)); simp only [Act.put, List.setIfInBounds_toArray, List.set_cons_zero, List.set_cons_succ]) | (refine sch_pass (o := ?_) ?_ ?_ ?_; rotate_left; (· ((conv => lhs; whnf); try exact rfl)); (· rfl); simp only [Act.put, List.setIfInBounds_toArray, List.set_cons_zero, List.set_cons_succ]) | (refine sch_look (o := ?_) (v := .agg ?_) ?_ ?_ ?_ ?_; rotate_left 2; (· ((conv => lhs; whnf); try exact rfl)); (· rfl); (· intro w' hO'; refine run_opLoadS (b := ?_) (cs := ?_) (e := ?_) (f := ?_) hO' ?_ ?_ ?_ ?_; rotate_left 4; (· exact rfl); (· exact inferInstance); (· simp; done); (· simp; done)); simp only [Act.put, List.setIfInBounds_toArray, List.set_cons_zero, List.set_cons_succ])
    first | (refine sch_look (o := ?_) (v := ?_) ?_ ?_ ?_ ?_; rotate_left 2; (· ((conv => lhs; whnf); try exact rfl)); (· rfl); (· intro w' hO'; (have hF' := Own.cells hO'; simp only [cellsOf_append, cellsOf_pt] at hF'); go_simp; (try exact rfl)); simp only [Act.put, List.setIfInBounds_toArray, List.set_cons_zero, List.set_cons_succ]) | (refine sch_pass (o := ?_) ?_ ?_ ?_; rotate_left; (· ((conv => lhs; whnf); try exact rfl)); (· rfl); simp only [Act.put, List.setIfInBounds_toArray, List.set_cons_zero, List.set_cons_succ]) | (refine sch_look (o := ?_) (v := .agg ?_) ?_ ?_ ?_ ?_; rotate_left 2; (· ((conv => lhs; whnf); try exact rfl)); (· rfl); (· intro w' hO'; refine run_opLoadS (b := ?_) (cs := ?_) (e := ?_) (f := ?_) hO' ?_ ?_ ?_ ?_; rotate_left 4; (· exact rfl); (· exact inferInstance); (· simp; done); (· simp; done)); simp only [Act.put, List.setIfInBounds_toArray, List.set_cons_zero, List.set_cons_succ])
    first | (refine sch_look (o := ?_) (v := ?_) ?_ ?_ ?_ ?_; rotate_left 2; (· ((conv => lhs; whnf); try exact rfl)); (· rfl); (· intro w' hO'; (have hF' := Own.cells hO'; simp only [cellsOf_append, cellsOf_pt] at hF'); go_simp; (try exact rfl)); simp only [Act.put, List.setIfInBounds_toArray, List.set_cons_zero, List.set_cons_succ]) | (refine sch_pass (o := ?_) ?_ ?_ ?_; rotate_left; (· ((conv => lhs; whnf); try exact rfl)); (· rfl); simp only [Act.put, List.setIfInBounds_toArray, List.set_cons_zero, List.set_cons_succ]) | (refine sch_look (o := ?_) (v := .agg ?_) ?_ ?_ ?_ ?_; rotate_left 2; (· ((conv => lhs; whnf); try exact rfl)); (· rfl); (· intro w' hO'; refine run_opLoadS (b := ?_) (cs := ?_) (e := ?_) (f := ?_) hO' ?_ ?_ ?_ ?_; rotate_left 4; (· exact rfl); (· exact inferInstance); (· simp; done); (· simp; done)); simp only [Act.put, List.setIfInBounds_toArray, List.set_cons_zero, List.set_cons_succ])
    (refine sch_act (o := ?_) ?_ ?_; rotate_left; (· ((conv => lhs; whnf); try exact rfl)))
    go_wp2_with (first | (refine own_store (v := ?_) (off := 0) (b := pb) hO ?_ ?_ ?_ ?_ ?_ ?_ ?_; rotate_left; (· rfl); (· ((conv => lhs; whnf); try exact rfl)); (· ((conv => lhs; whnf); try exact rfl)); (· simp [Value.cells]); (· simp [Value.cells, Value.oneCell']); (· simp [Value.cells]); clear hO; (try clear hF); intro _ hO; (try simp only [splice, Value.cells] at hO); ((try simp only [List.nil_append, List.append_nil] at hO); have hF := Own.cells hO; simp only [cellsOf_append, cellsOf_pt] at hF); simp only [Act.put, List.setIfInBounds_toArray, List.set_cons_zero, List.set_cons_succ]))
    (try simp only [splice, Value.cells, List.setIfInBounds_toArray, List.set_cons_zero, List.set_cons_succ] at hO)
    refine ⟨hO.as _, ?_⟩
    (refine sch_act (o := ?_) ?_ ?_; rotate_left; (· ((conv => lhs; whnf); try exact rfl)))
    go_wp2_with (first | (refine own_store (v := ?_) (off := 0) (b := nb) hO ?_ ?_ ?_ ?_ ?_ ?_ ?_; rotate_left; (· rfl); (· ((conv => lhs; whnf); try exact rfl)); (· ((conv => lhs; whnf); try exact rfl)); (· simp [Value.cells]); (· simp [Value.cells, Value.oneCell']); (· simp [Value.cells]); clear hO; (try clear hF); intro _ hO; (try simp only [splice, Value.cells] at hO); ((try simp only [List.nil_append, List.append_nil] at hO); have hF := Own.cells hO; simp only [cellsOf_append, cellsOf_pt] at hF); simp only [Act.put, List.setIfInBounds_toArray, List.set_cons_zero, List.set_cons_succ]))
    (try simp only [splice, Value.cells, List.setIfInBounds_toArray, List.set_cons_zero, List.set_cons_succ] at hO)
    refine ⟨hO.as _, ?_⟩
    (refine sch_act (o := ?_) ?_ ?_; rotate_left; (· ((conv => lhs; whnf); try exact rfl)))
    go_wp2_with (first | (refine own_store (v := ?_) (off := 0) (b := lb) hO ?_ ?_ ?_ ?_ ?_ ?_ ?_; rotate_left; (· rfl); (· ((conv => lhs; whnf); try exact rfl)); (· ((conv => lhs; whnf); try exact rfl)); (· simp [Value.cells]); (· simp [Value.cells, Value.oneCell']); (· simp [Value.cells]); clear hO; (try clear hF); intro _ hO; (try simp only [splice, Value.cells] at hO); ((try simp only [List.nil_append, List.append_nil] at hO); have hF := Own.cells hO; simp only [cellsOf_append, cellsOf_pt] at hF); simp only [Act.put, List.setIfInBounds_toArray, List.set_cons_zero, List.set_cons_succ]))
    (try simp only [splice, Value.cells, List.setIfInBounds_toArray, List.set_cons_zero, List.set_cons_succ] at hO)
    refine ⟨hO.as _, ?_⟩
    (refine sch_act (o := ?_) ?_ ?_; rotate_left; (· ((conv => lhs; whnf); try exact rfl)))
    go_wp2_with (first | (refine own_store (v := ?_) (off := 0) (b := eb) hO ?_ ?_ ?_ ?_ ?_ ?_ ?_; rotate_left; (· rfl); (· ((conv => lhs; whnf); try exact rfl)); (· ((conv => lhs; whnf); try exact rfl)); (· simp [Value.cells]); (· simp [Value.cells, Value.oneCell']); (· simp [Value.cells]); clear hO; (try clear hF); intro _ hO; (try simp only [splice, Value.cells] at hO); ((try simp only [List.nil_append, List.append_nil] at hO); have hF := Own.cells hO; simp only [cellsOf_append, cellsOf_pt] at hF); simp only [Act.put, List.setIfInBounds_toArray, List.set_cons_zero, List.set_cons_succ]))
    (try simp only [splice, Value.cells, List.setIfInBounds_toArray, List.set_cons_zero, List.set_cons_succ] at hO)
    refine ⟨hO.as _, ?_⟩
    refine sch_done ?_
    have hF := Own.cells hO; simp only [cellsOf_append, cellsOf_pt] at hF
    go_wp2_with fail
    refine bodyPost_ret (results_c4 (b1 := pb) (b2 := nb) (b3 := lb) (b4 := eb) rfl (by exact rfl) (by exact rfl) (by exact rfl) (by exact rfl) (run_loadVar1 (by kernel_rfl) (by rw [hO.cell (b := pb)]; rfl)) (run_loadVar1 (by kernel_rfl) (by rw [hO.cell (b := nb)]; rfl)) (run_loadVar1 (by kernel_rfl) (by rw [hO.cell (b := lb)]; rfl)) (run_loadVar1 (by kernel_rfl) (by rw [hO.cell (b := eb)]; rfl))) rfl ?_
    rw [← HPOST.out]
    refine .inl ⟨j, _, HJ.out, sa, cap, S, A, HH.out, ?_, ?_, hA, hO.as _⟩
    · rw [HP.out, HQ.out, HL.out]
      rfl
    · rw [HL.out]
      exact hS
  · have hpost2 : ∀ j k, ¬ Holds hs tid j k := fun i k hh => by
      obtain ⟨hi, h1, h2, h3⟩ := HNO1.out i k hh
      have hij : i = j := by
        by_cases e : i = j
        · exact e
        · exfalso
          have h4 := HI.out.ne hi hj e
          have h5 := h1.2
          have h6 := hy.2
          omega
      subst hij
      subst h2
      exact hk h3
    have HP2 := Lib.hid hpost2
    clear hpost2 hk hy hat hjl hj
    unfold atZ at hO
    ((try simp only [List.nil_append, List.append_nil] at hO); have hF := Own.cells hO; simp only [cellsOf_append, cellsOf_pt] at hF)
    go_wp2_with fail
    (try (go_wp2_with fail))
    refine region_sch (fun w' => Own E w' (pt pb (.cells #[.int .i64 0] 3 (0, 0)) ++ (pt nb (.cells #[.int .i64 0] 3 (0, 0)) ++ (pt lb (.cells #[.slice none 0 0] 111 (0, 0)) ++ pt eb (.cells #[.int .i64 3] 30 (0, 0)))))) (.look 0 (.look 1 (.look 2 (.look 3 (.act 4 (.act 5 (.act 6 (.act 7 .done)))))))) (by kernel_rfl) (by kernel_rfl) (fun _ _ d _ _ h => by cases d <;> exact h) ?_ ?_
    · exact hO.drew.as _
    replace hO := hO.drew
    generalize World.drew _ = wdr at hO ⊢
    first | (refine sch_look (o := ?_) (v := ?_) ?_ ?_ ?_ ?_; rotate_left 2; (· ((conv => lhs; whnf); try exact rfl)); (· rfl); (· intro w' hO'; (have hF' := Own.cells hO'; simp only [cellsOf_append, cellsOf_pt] at hF'); go_simp; (try exact rfl)); simp only [Act.put, List.setIfInBounds_toArray, List.set_cons_zero, List.set_cons_succ]) | (refine sch_pass (o := ?_) ?_ ?_ ?_; rotate_left; (· ((conv => lhs; whnf); try exact rfl)); (· rfl); simp only [Act.put, List.setIfInBounds_toArray, List.set_cons_zero, List.set_cons_succ]) | (refine sch_look (o := ?_) (v := .agg ?_) ?_ ?_ ?_ ?_; rotate_left 2; (· ((conv => lhs; whnf); try exact rfl)); (· rfl); (· intro w' hO'; refine run_opLoadS (b := ?_) (cs := ?_) (e := ?_) (f := ?_) hO' ?_ ?_ ?_ ?_; rotate_left 4; (· exact rfl); (· exact inferInstance); (· simp; done); (· simp; done)); simp only [Act.put, List.setIfInBounds_toArray, List.set_cons_zero, List.set_cons_succ])
    first | (refine sch_look (o := ?_) (v := ?_) ?_ ?_ ?_ ?_; rotate_left 2; (· ((conv => lhs; whnf); try exact rfl)); (· rfl); (· intro w' hO'; (have hF' := Own.cells hO'; simp only [cellsOf_append, cellsOf_pt] at hF'); go_simp; (try exact rfl)); simp only [Act.put, List.setIfInBounds_toArray, List.set_cons_zero, List.set_cons_succ]) | (refine sch_pass (o := ?_) ?_ ?_ ?_; rotate_left; (· ((conv => lhs; whnf); try exact rfl)); (· rfl); simp only [Act.put, List.setIfInBounds_toArray, List.set_cons_zero, List.set_cons_succ]) | (refine sch_look (o := ?_) (v := .agg ?_) ?_ ?_ ?_ ?_; rotate_left 2; (· ((conv => lhs; whnf); try exact rfl)); (· rfl); (· intro w' hO'; refine run_opLoadS (b := ?_) (cs := ?_) (e := ?_) (f := ?_) hO' ?_ ?_ ?_ ?_; rotate_left 4; (· exact rfl); (· exact inferInstance); (· simp; done); (· simp; done)); simp only [Act.put, List.setIfInBounds_toArray, List.set_cons_zero, List.set_cons_succ])
    first | (refine sch_look (o := ?_) (v := ?_) ?_ ?_ ?_ ?_; rotate_left 2; (· ((conv => lhs; whnf); try exact rfl)); (· rfl); (· intro w' hO'; (have hF' := Own.cells hO'; simp only [cellsOf_append, cellsOf_pt] at hF'); go_simp; (try exact rfl)); simp only [Act.put, List.setIfInBounds_toArray, List.set_cons_zero, List.set_cons_succ]) | (refine sch_pass (o := ?_) ?_ ?_ ?_; rotate_left; (· ((conv => lhs; whnf); try exact rfl)); (· rfl); simp only [Act.put, List.setIfInBounds_toArray, List.set_cons_zero, List.set_cons_succ]) | (refine sch_look (o := ?_) (v := .agg ?_) ?_ ?_ ?_ ?_; rotate_left 2; (· ((conv => lhs; whnf); try exact rfl)); (· rfl); (· intro w' hO'; refine run_opLoadS (b := ?_) (cs := ?_) (e := ?_) (f := ?_) hO' ?_ ?_ ?_ ?_; rotate_left 4; (· exact rfl); (· exact inferInstance); (· simp; done); (· simp; done)); simp only [Act.put, List.setIfInBounds_toArray, List.set_cons_zero, List.set_cons_succ])
    first | (refine sch_look (o := ?_) (v := ?_) ?_ ?_ ?_ ?_; rotate_left 2; (· ((conv => lhs; whnf); try exact rfl)); (· rfl); (· intro w' hO'; (have hF' := Own.cells hO'; simp only [cellsOf_append, cellsOf_pt] at hF'); go_simp; (try exact rfl)); simp only [Act.put, List.setIfInBounds_toArray, List.set_cons_zero, List.set_cons_succ]) | (refine sch_pass (o := ?_) ?_ ?_ ?_; rotate_left; (· ((conv => lhs; whnf); try exact rfl)); (· rfl); simp only [Act.put, List.setIfInBounds_toArray, List.set_cons_zero, List.set_cons_succ]) | (refine sch_look (o := ?_) (v := .agg ?_) ?_ ?_ ?_ ?_; rotate_left 2; (· ((conv => lhs; whnf); try exact rfl)); (· rfl); (· intro w' hO'; refine run_opLoadS (b := ?_) (cs := ?_) (e := ?_) (f := ?_) hO' ?_ ?_ ?_ ?_; rotate_left 4; (· exact rfl); (· exact inferInstance); (· simp; done); (· simp; done)); simp only [Act.put, List.setIfInBounds_toArray, List.set_cons_zero, List.set_cons_succ])
    (refine sch_act (o := ?_) ?_ ?_; rotate_left; (· ((conv => lhs; whnf); try exact rfl)))
    go_wp2_with (first | (refine own_store (v := ?_) (off := 0) (b := pb) hO ?_ ?_ ?_ ?_ ?_ ?_ ?_; rotate_left; (· rfl); (· ((conv => lhs; whnf); try exact rfl)); (· ((conv => lhs; whnf); try exact rfl)); (· simp [Value.cells]); (· simp [Value.cells, Value.oneCell']); (· simp [Value.cells]); clear hO; (try clear hF); intro _ hO; (try simp only [splice, Value.cells] at hO); ((try simp only [List.nil_append, List.append_nil] at hO); have hF := Own.cells hO; simp only [cellsOf_append, cellsOf_pt] at hF); simp only [Act.put, List.setIfInBounds_toArray, List.set_cons_zero, List.set_cons_succ]))
    (try simp only [splice, Value.cells, List.setIfInBounds_toArray, List.set_cons_zero, List.set_cons_succ] at hO)
    refine ⟨hO.as _, ?_⟩
    (refine sch_act (o := ?_) ?_ ?_; rotate_left; (· ((conv => lhs; whnf); try exact rfl)))
    go_wp2_with (first | (refine own_store (v := ?_) (off := 0) (b := nb) hO ?_ ?_ ?_ ?_ ?_ ?_ ?_; rotate_left; (· rfl); (· ((conv => lhs; whnf); try exact rfl)); (· ((conv => lhs; whnf); try exact rfl)); (· simp [Value.cells]); (· simp [Value.cells, Value.oneCell']); (· simp [Value.cells]); clear hO; (try clear hF); intro _ hO; (try simp only [splice, Value.cells] at hO); ((try simp only [List.nil_append, List.append_nil] at hO); have hF := Own.cells hO; simp only [cellsOf_append, cellsOf_pt] at hF); simp only [Act.put, List.setIfInBounds_toArray, List.set_cons_zero, List.set_cons_succ]))
    (try simp only [splice, Value.cells, List.setIfInBounds_toArray, List.set_cons_zero, List.set_cons_succ] at hO)
    refine ⟨hO.as _, ?_⟩
    (refine sch_act (o := ?_) ?_ ?_; rotate_left; (· ((conv => lhs; whnf); try exact rfl)))
    go_wp2_with (first | (refine own_store (v := ?_) (off := 0) (b := lb) hO ?_ ?_ ?_ ?_ ?_ ?_ ?_; rotate_left; (· rfl); (· ((conv => lhs; whnf); try exact rfl)); (· ((conv => lhs; whnf); try exact rfl)); (· simp [Value.cells]); (· simp [Value.cells, Value.oneCell']); (· simp [Value.cells]); clear hO; (try clear hF); intro _ hO; (try simp only [splice, Value.cells] at hO); ((try simp only [List.nil_append, List.append_nil] at hO); have hF := Own.cells hO; simp only [cellsOf_append, cellsOf_pt] at hF); simp only [Act.put, List.setIfInBounds_toArray, List.set_cons_zero, List.set_cons_succ]))
    (try simp only [splice, Value.cells, List.setIfInBounds_toArray, List.set_cons_zero, List.set_cons_succ] at hO)
    refine ⟨hO.as _, ?_⟩
    (refine sch_act (o := ?_) ?_ ?_; rotate_left; (· ((conv => lhs; whnf); try exact rfl)))
    go_wp2_with (first | (refine own_store (v := ?_) (off := 0) (b := eb) hO ?_ ?_ ?_ ?_ ?_ ?_ ?_; rotate_left; (· rfl); (· ((conv => lhs; whnf); try exact rfl)); (· ((conv => lhs; whnf); try exact rfl)); (· simp [Value.cells]); (· simp [Value.cells, Value.oneCell']); (· simp [Value.cells]); clear hO; (try clear hF); intro _ hO; (try simp only [splice, Value.cells] at hO); ((try simp only [List.nil_append, List.append_nil] at hO); have hF := Own.cells hO; simp only [cellsOf_append, cellsOf_pt] at hF); simp only [Act.put, List.setIfInBounds_toArray, List.set_cons_zero, List.set_cons_succ]))
    (try simp only [splice, Value.cells, List.setIfInBounds_toArray, List.set_cons_zero, List.set_cons_succ] at hO)
    refine ⟨hO.as _, ?_⟩
    refine sch_done ?_
    have hF := Own.cells hO; simp only [cellsOf_append, cellsOf_pt] at hF
    go_wp2_with fail
    refine bodyPost_ret (results_c4 (b1 := pb) (b2 := nb) (b3 := lb) (b4 := eb) rfl (by exact rfl) (by exact rfl) (by exact rfl) (by exact rfl) (run_loadVar1 (by kernel_rfl) (by rw [hO.cell (b := pb)]; rfl)) (run_loadVar1 (by kernel_rfl) (by rw [hO.cell (b := nb)]; rfl)) (run_loadVar1 (by kernel_rfl) (by rw [hO.cell (b := lb)]; rfl)) (run_loadVar1 (by kernel_rfl) (by rw [hO.cell (b := eb)]; rfl))) rfl ?_
    rw [← HPOST.out]
    exact .inr ⟨HP2.out, rfl, A, hA, hO.as _⟩
end Go.Proofs.YtkfkcloefgfkaaaGreat
