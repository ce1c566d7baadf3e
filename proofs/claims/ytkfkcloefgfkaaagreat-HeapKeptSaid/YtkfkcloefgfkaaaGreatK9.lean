/- Heap: read. -/
import Derived.Test.YtkfkcloefgfkaaaGreatK8
import Derived.Test.YtkfkcloefgfkaaaGreatK5
import Derived.Test.YtkfkcloefgfkaaaGreatK7
import Derived.Shelf.Abstract
import Derived.Deep.LoopGhost
set_option linter.all false
/- Heap: read. -/
namespace Go.Proofs.YtkfkcloefgfkaaaGreat
open Go Go.RowKit Go.Own Go.Dk

theorem run_opBytesG {P : Program} {w : World} {a : Act} {d : Option Tmp} {ty : TypeId} {pos : String} {aft : Array Edge} {g : Option (Nat × Bool)} {src dst e : TypeId} {x : Operand} {ad : Option Addr} {n c : Nat} {l : List UInt8} (hc : (∀ b, ad = some b → ∀ j v, (bytesV l)[j]? = some v → w.cell? (b.add j) = some v) ∧ ad ≠ none)
    (hx : a.eval x = .slice ad n c) (hl : l.length = n) (hs : P.underlying src = some (.slice e)) (he : P.underlying e = some (.int .u8)) (hd : P.underlying dst = some .string) :
    (execOp a.eval ⟨d, .convert src dst x, ty, pos, aft, g⟩).run P w = .ok (.value (.string ⟨l.toArray⟩)) w := by
  have := run_bytes_str (P := P) (w := w) (src := src) (dst := dst) (cap := c) hs he hd (ad := ad) (l := l) hl hc.1 (fun h => absurd h hc.2)
  simp [execOp, hx, this]
theorem ite_bytes {w : World} {b o : Nat} {l : List UInt8} {q : Prop} [Decidable q] {ad : Option Addr} (had : (if q then some ⟨b, 0, none⟩ else some ⟨b, o, none⟩) = ad) (hq : q → l = []) (hc : ∀ j v, (bytesV l)[j]? = some v → w.cell? ⟨b, o + j, none⟩ = some v) :
    (∀ b, ad = some b → ∀ j v, (bytesV l)[j]? = some v → w.cell? (b.add j) = some v) ∧ ad ≠ none := by
  subst had
  refine ⟨fun b' hb j v hj => ?_, fun h => by split at h <;> cases h⟩
  by_cases hq' : q
  · rw [hq hq'] at hj
    cases hj
  · rw [if_neg hq'] at hb
    cases hb
    rw [add_lit]
    exact hc j v hj
theorem nil_of_end {o cap : Nat} {s : ByteArray} (h : o + (3 + s.size) ≤ 512) (hc : 512 ≤ cap) : cap = o + 3 → s.data.toList = [] := fun e => List.eq_nil_of_length_eq_zero (by rw [row_len]; omega)
theorem sltSlots : SlT Tryz.prog 111 115 2 24 (.agg #[.int .i64 0, .string .empty]) := ⟨by kernel_rfl, by kernel_rfl, rfl⟩
theorem two_or (n : Nat) (h : n < 65536) : bits .or .i64 (IntKind.i64.wrap (IntKind.i64.wrap (((UInt8.ofNat (n / 256)).toNat : Nat) : Int) * 256)) (IntKind.i64.wrap (((UInt8.ofNat n).toNat : Nat) : Int)) = (n : Int) := by
  have e1 : (UInt8.ofNat (n / 256)).toNat = n / 256 := by rw [UInt8.toNat_ofNat']; omega
  have e2 : (UInt8.ofNat n).toNat = n % 256 := by rw [UInt8.toNat_ofNat']
  rw [e1, e2, wrap_u _ (by omega), wrap_u _ (by omega), show ((n / 256 : Nat) : Int) * 256 = ((n / 256 * 256 : Nat) : Int) by omega, wrap_u _ (by omega), or_u _ _ 8 (by omega) (by omega) (by omega)]
  omega
theorem ofNat_small (n : Nat) (h : n < 256) : (UInt8.ofNat n).toNat = n := by rw [UInt8.toNat_ofNat']; omega
theorem BytesIn.at {E w : World} {B : Fr} {b : Nat} {l : List UInt8} (h : BytesIn E B (some ⟨b, 0, none⟩) l) (hO : Own E w B) {i : Nat} {c : UInt8} (hi : l[i]? = some c) : w.cell? ⟨b, i, none⟩ = some (.int .u8 (c.toNat : Int)) := by
  obtain ⟨hlt, hc⟩ := List.getElem?_eq_some_iff.1 hi
  obtain ⟨_, h1, h2⟩ := h w hO i hlt
  cases h1
  rw [add_lit, Nat.zero_add] at h2
  rw [h2, hc]
theorem BytesIn.row {E w : World} {B : Fr} {b o : Nat} {M L r : List UInt8} {a1 a2 a3 : UInt8} (h : BytesIn E B (some ⟨b, 0, none⟩) M) (hd : M.drop o = a1 :: a2 :: a3 :: L ++ r) (hO : Own E w B) : ∀ j v, (bytesV L)[j]? = some v → w.cell? ⟨b, o + 3 + j, none⟩ = some v := by
  intro j v hj
  have e : M.drop (o + 3) = L ++ r := by rw [← List.drop_drop, hd]; rfl
  have := bytesIn_at (BytesIn.drop (i := o + 3) h) w hO j v (by
    rw [e, bytesV_append, List.getElem?_append_left (List.getElem?_eq_some_iff.1 hj).1]
    exact hj)
  rwa [add_lit] at this
theorem hi_lo (n : Nat) (h : n < 65536) : ∃ hi lo : Nat, hi < 256 ∧ lo < 256 ∧ n = hi * 256 + lo ∧ (UInt8.ofNat (n / 256)).toNat = hi ∧ (UInt8.ofNat n).toNat = lo ∧ IntKind.i64.wrap (hi : Int) = hi ∧ IntKind.i64.wrap (lo : Int) = lo ∧ IntKind.i64.wrap ((hi : Int) * 256) = (hi : Int) * 256 ∧ bits .or .i64 ((hi : Int) * 256) (lo : Int) = (n : Int) := by
  refine ⟨n / 256, n % 256, by omega, by omega, by omega, by rw [UInt8.toNat_ofNat']; omega, by rw [UInt8.toNat_ofNat'], wrap_u _ (by omega), wrap_u _ (by omega), ?_, ?_⟩
  · rw [show ((n / 256 : Nat) : Int) * 256 = ((n / 256 * 256 : Nat) : Int) by omega]
    exact wrap_u _ (by omega)
  · rw [show ((n / 256 : Nat) : Int) * 256 = ((n / 256 * 256 : Nat) : Int) by omega, or_u _ _ 8 (by omega) (by omega) (by omega)]
    omega
theorem len_at {E w : World} {B : Fr} {b next : Nat} {l : List Slot} (h : BytesIn E B (some ⟨b, 0, none⟩) (pageB next l)) (hO : Own E w B) (hl : l.length < 256) : w.cell? ⟨b, 2, none⟩ = some (.int .u8 (l.length : Int)) := by
  have := h.at hO (i := 2) (c := UInt8.ofNat l.length) rfl
  rwa [ofNat_small _ hl] at this
theorem w64_add (o : Nat) (i : Int) (hi : 0 ≤ i) (hi2 : i < 1000000) (h : o < 1000000) : wrap64 ((o : Int) + i) = (o : Int) + i := by unfold wrap64; omega
theorem wi_add (o : Nat) (i : Int) (hi : 0 ≤ i) (hi2 : i < 1000000) (h : o < 1000000) : IntKind.i64.wrap ((o : Int) + i) = (o : Int) + i := by
  obtain ⟨n, rfl⟩ : ∃ n : Nat, i = n := ⟨i.toNat, by omega⟩
  rw [← Int.natCast_add]
  exact wrap_u _ (by omega)
theorem w64_add2 (o n : Nat) (h : o < 1000000) (h2 : n < 1000000) : wrap64 ((o : Int) + 3 + n) = (o : Int) + 3 + n := by unfold wrap64; omega
theorem wi_add2 (o n : Nat) (h : o < 1000000) (h2 : n < 1000000) : IntKind.i64.wrap ((o : Int) + 3 + n) = (o : Int) + 3 + n := by
  rw [show (o : Int) + 3 + n = ((o + 3 + n : Nat) : Int) by omega]
  exact wrap_u _ (by omega)
theorem sl_bnd (o n cap : Nat) (h : o + (3 + n) ≤ 512) (hc : 512 ≤ cap) : 0 ≤ (o : Int) + 3 ∧ (o : Int) + 3 ≤ (o : Int) + 3 + n ∧ (o : Int) + 3 + n ≤ cap ∧ ((o : Int) + 3 + n - ((o : Int) + 3)).toNat = n ∧ ((o + 3 + n : Nat) - (o + 3)) = n := by omega
theorem w64_3n (n : Nat) (h : n < 1000000) : wrap64 (3 + (n : Int)) = 3 + (n : Int) := by unfold wrap64; omega
theorem wi_3n (n : Nat) (h : n < 1000000) : IntKind.i64.wrap (3 + (n : Int)) = 3 + (n : Int) := by
  rw [show 3 + (n : Int) = ((3 + n : Nat) : Int) by omega]
  exact wrap_u _ (by omega)
theorem w64_o3n (o n : Nat) (h : o < 1000000) (h2 : n < 1000000) : wrap64 ((o : Int) + (3 + n)) = ((o + (3 + n) : Nat) : Int) := by unfold wrap64; omega
theorem wi_o3n (o n : Nat) (h : o < 1000000) (h2 : n < 1000000) : IntKind.i64.wrap ((o : Int) + (3 + n)) = ((o + (3 + n) : Nat) : Int) := by
  rw [show (o : Int) + (3 + n) = ((o + (3 + n) : Nat) : Int) by omega]
  exact wrap_u _ (by omega)
theorem tn2 (o : Nat) : ((o : Int) + 2).toNat = o + 2 := by omega
theorem tn3 (o : Nat) : ((o : Int) + 3).toNat = o + 3 := by omega
theorem tn3n (o n : Nat) : ((o : Int) + 3 + n).toNat = o + 3 + n := by omega
theorem lt3 (o n : Nat) (i : Int) (hi : 0 ≤ i) (hi2 : i ≤ n) (h : o + n ≤ 512) : 0 ≤ (o : Int) + i ∧ (o : Int) + i ≤ 512 := by omega
def HReadP (E : World) (s d a N h root : Nat) (st0 st : SSt) (next : Nat) (l : List Slot) (R : Fr) (e : Ending) (w' : World) : Prop :=
  ∃ (sa : Option Addr) (cap : Nat) (S A' : Fr), e = .returned (.tuple #[.int .i64 next, .slice sa l.length cap]) ∧ Sl 115 2 sa l.length cap (slV l) S ∧ Going s d a N st0 st A' ∧ Own E w' (S ++ (heapF h a root ++ (A' ++ R)))
set_option maxRecDepth 100000 in
set_option maxHeartbeats 16000000 in
theorem hRead (E w : World) (X R A : Fr) (s d a N h : Nat) (st0 st : SSt) (root k next : Nat) (l : List Slot) (hk : st.has k) (hv : st.v k = pageB next l) (hpk : PgOk next l) (hA : Going s d a N st0 st A) (hN : N ≤ 8796000000000) (hO : Own E w X) [hp : Pick X (heapF h a root ++ A) R] :
    Calls Tryz.prog 115 #[.pointer (some ⟨h, 0, none⟩), .int .i64 k] w (HReadP E s d a N h root st0 st next l R) := by
  replace hO : Own E w (heapF h a root ++ (A ++ R)) := by have := hO.perm hp.perm; rwa [List.append_assoc] at this
  clear hp
  generalize hpost : HReadP E s d a N h root st0 st next l R = POST
  have HPOST := Lib.hid hpost
  clear hpost
  have hpl := pageB_len hpk
  have hl256 : l.length < 256 := by have := hpk.len; omega
  go_enter Tryz.func115, Tryz.ntmps115
  unfold heapF at hO
  ((try simp only [List.nil_append, List.append_nil] at hO); have hF := Own.cells hO; simp only [cellsOf_append, cellsOf_pt] at hF)
  go_wp2_with fail
  refine (gRead_ok E _ _ _ A s d a N st0 st k hk hA hN hO).mono ?_
  rw [hv]
  clear hO hA hF
  rintro e w2 ⟨he, A, hA, hO⟩
  have hdt : (⟨(pageB next l).toArray⟩ : ByteArray).data.toList = pageB next l := rfl
  have hsz : (⟨(pageB next l).toArray⟩ : ByteArray).size = 512 := by show (pageB next l).toArray.size = 512; rw [List.size_toArray, hpl]
  generalize (⟨(pageB next l).toArray⟩ : ByteArray) = t at he hdt hsz
  subst he
  go_wp2_with (first | (refine at_conv ?_; refine Stop.go ?_))
  refine ⟨?_⟩
  refine own_str_bytes2 (e := 5) (s := t) (by kernel_rfl) (by kernel_rfl) (by kernel_rfl) hO (by rw [hsz]; decide) ?_ ?_ ?_
  · rfl
  · ((conv => lhs; whnf); try exact rfl)
  clear hO
  intro bb cap B _ hB hO
  rw [hdt] at hB
  rw [hsz]
  have hbi := pgb_bytes (E := E) hB
  have hb2 := len_at hbi (hO.as B) hl256
  have hw0 : IntKind.i64.wrap (l.length : Int) = (l.length : Int) := wrap_u _ (by omega)
  simp only [Act.put, List.setIfInBounds_toArray, List.set_cons_zero, List.set_cons_succ]
  go_wp2_with fail
  have hcap := hB.1
  rw [hpl] at hcap
  have hcapi : (512 : Int) ≤ cap := by omega
  have hO1 := hO
  clear hO hb2 hB
  have HPK := Lib.hid hpk
  have HBI := Lib.hid hbi
  clear hv hdt hsz
  go_loopw [9, 10, 27] (fun s9 s10 s27 wr => ∃ (j : Nat) (sa : Option Addr) (sc : Nat) (S : Fr), s9 = .slice sa j sc ∧ s10 = .int .i64 (offS l j : Nat) ∧ s27 = .int .i64 j ∧ j ≤ l.length ∧ Sl 115 2 sa j sc (slV (l.take j)) S ∧
      Own E wr (B ++ (S ++ (pt h (.cells #[.pointer (some ⟨a, 0, none⟩), .int .i64 root] 86 (0, 0)) ++ (A ++ R))))) (fun _ _ s27 _ => l.length - (intOf s27).toNat)
  case atStart => exact ⟨0, none, 0, [], rfl, rfl, by first | rfl | simp, Nat.zero_le _, Sl.nil _ _, hO1.as _⟩
  case round =>
    clear hO1
    obtain ⟨j, sa, sc, S, rfl, rfl, rfl, hj, hS, hO⟩ := hrel
    by_cases hlt : j < l.length
    · have hj1 : (j : Int) < l.length := by omega
      obtain ⟨r, hr⟩ := page_drop (next := next) hlt
      have hsk := HPK.out.ok l[j] (List.getElem_mem _)
      have hos := offS_succ hlt
      have hoe := offS_le (next := next) (Nat.succ_le_of_lt hlt)
      have hfit := HPK.out.fit
      have htk : l.take (j + 1) = l.take j ++ [l[j]] := List.take_succ_eq_append_getElem hlt
      generalize l[j] = x at hr hsk hos htk
      generalize offS l j = o at hr hos ⊢
      rw [hos] at hoe
      obtain ⟨hs1, hs2⟩ := hsk
      have hat : ∀ i c, (slotB x)[i]? = some c → (pageB next l)[o + i]? = some c := by
        intro i c hi
        rw [← List.getElem?_drop, hr, List.getElem?_append_left (List.getElem?_eq_some_iff.1 hi).1]
        exact hi
      have hc0 : ∀ w', Own E w' B → w'.cell? ⟨bb, o, none⟩ = some (.int .u8 x.st) := fun w' h' => by
        have := HBI.out.at h' (hat 0 _ rfl)
        rw [ofNat_small _ (by omega)] at this
        exact this
      obtain ⟨hi, lo, -, -, -, hhi, hlo, hw1, hw2, hw3, hor⟩ := hi_lo x.row.size (Nat.lt_of_le_of_lt hs2 (by decide))
      have hc1 : ∀ w', Own E w' B → w'.cell? ⟨bb, o + 1, none⟩ = some (.int .u8 hi) := fun w' h' => by rw [← hhi]; exact HBI.out.at h' (hat 1 _ rfl)
      have hc2 : ∀ w', Own E w' B → w'.cell? ⟨bb, o + 2, none⟩ = some (.int .u8 lo) := fun w' h' => by rw [← hlo]; exact HBI.out.at h' (hat 2 _ rfl)
      have hrow : ∀ w', Own E w' B → ∀ j v, (bytesV x.row.data.toList)[j]? = some v → w'.cell? ⟨bb, o + 3 + j, none⟩ = some v := fun w' h' => HBI.out.row hr h'
      clear hhi hlo
      have HTK := Lib.hid htk
      have hS0 := hS
      have hj64 : j * 24 ≤ 140737488355328 := by have := HPK.out.len; omega
      have hj65 : j < maxLen := by have := HPK.out.len; unfold maxLen; omega
      have HLT := Lib.hid hlt
      have HOS := Lib.hid hos
      have hob : o + (3 + x.row.size) ≤ 512 := by omega
      have hi0 : (o : Int) < 512 := by omega
      have hi5 : (0 : Int) ≤ (o : Int) := by omega
      have hi1 : (0 : Int) ≤ (o : Int) + 1 := by omega
      have hi2 : (o : Int) + 1 < 512 := by omega
      have hi3 : (0 : Int) ≤ (o : Int) + 2 := by omega
      have hi4 : (o : Int) + 2 < 512 := by omega
      have ho6 : o < 1000000 := by omega
      have hq1 := w64_add o 1 (by decide) (by decide) ho6
      have hq2 := w64_add o 2 (by decide) (by decide) ho6
      have hq3 := wi_add o 1 (by decide) (by decide) ho6
      have hq4 := wi_add o 2 (by decide) (by decide) ho6
      have hz2 := tn2 o
      clear hr hos htk hlt hat hoe hfit
      go_wp2_with fail
      (try (go_wp2_with fail))
      refine region_sch (fun w' => Own E w' (B)) (.look 0 (.look 1 (.look 2 (.look 3 (.look 4 (.look 5 (.look 6 (.look 7 (.look 8 (.look 9 (.look 10 (.look 11 (.look 12 (.look 13 (.look 14 .done))))))))))))))) (by kernel_rfl) (by kernel_rfl) (fun _ _ d _ _ h => by cases d <;> exact h) ?_ ?_
      · exact hO.drew.as _
      replace hO := hO.drew
      generalize World.drew _ = wdr at hO ⊢
      first | (refine sch_look (o := ?_) (v := ?_) ?_ ?_ ?_ ?_; rotate_left 2; (· ((conv => lhs; whnf); try exact rfl)); (· rfl); (· intro w' hO'; have c1 := hc1 w' hO'; have c2 := hc2 w' hO'; go_simp; (try exact rfl)); simp only [Act.put, List.setIfInBounds_toArray, List.set_cons_zero, List.set_cons_succ]) | (refine sch_pass (o := ?_) ?_ ?_ ?_; rotate_left; (· ((conv => lhs; whnf); try exact rfl)); (· rfl); simp only [Act.put, List.setIfInBounds_toArray, List.set_cons_zero, List.set_cons_succ]) | (refine sch_look (o := ?_) (v := .agg ?_) ?_ ?_ ?_ ?_; rotate_left 2; (· ((conv => lhs; whnf); try exact rfl)); (· rfl); (· intro w' hO'; refine run_opLoadS (b := ?_) (cs := ?_) (e := ?_) (f := ?_) hO' ?_ ?_ ?_ ?_; rotate_left 4; (· exact rfl); (· exact inferInstance); (· simp; done); (· simp; done)); simp only [Act.put, List.setIfInBounds_toArray, List.set_cons_zero, List.set_cons_succ])
      first | (refine sch_look (o := ?_) (v := ?_) ?_ ?_ ?_ ?_; rotate_left 2; (· ((conv => lhs; whnf); try exact rfl)); (· rfl); (· intro w' hO'; have c1 := hc1 w' hO'; have c2 := hc2 w' hO'; go_simp; (try exact rfl)); simp only [Act.put, List.setIfInBounds_toArray, List.set_cons_zero, List.set_cons_succ]) | (refine sch_pass (o := ?_) ?_ ?_ ?_; rotate_left; (· ((conv => lhs; whnf); try exact rfl)); (· rfl); simp only [Act.put, List.setIfInBounds_toArray, List.set_cons_zero, List.set_cons_succ]) | (refine sch_look (o := ?_) (v := .agg ?_) ?_ ?_ ?_ ?_; rotate_left 2; (· ((conv => lhs; whnf); try exact rfl)); (· rfl); (· intro w' hO'; refine run_opLoadS (b := ?_) (cs := ?_) (e := ?_) (f := ?_) hO' ?_ ?_ ?_ ?_; rotate_left 4; (· exact rfl); (· exact inferInstance); (· simp; done); (· simp; done)); simp only [Act.put, List.setIfInBounds_toArray, List.set_cons_zero, List.set_cons_succ])
      first | (refine sch_look (o := ?_) (v := ?_) ?_ ?_ ?_ ?_; rotate_left 2; (· ((conv => lhs; whnf); try exact rfl)); (· rfl); (· intro w' hO'; have c1 := hc1 w' hO'; have c2 := hc2 w' hO'; go_simp; (try exact rfl)); simp only [Act.put, List.setIfInBounds_toArray, List.set_cons_zero, List.set_cons_succ]) | (refine sch_pass (o := ?_) ?_ ?_ ?_; rotate_left; (· ((conv => lhs; whnf); try exact rfl)); (· rfl); simp only [Act.put, List.setIfInBounds_toArray, List.set_cons_zero, List.set_cons_succ]) | (refine sch_look (o := ?_) (v := .agg ?_) ?_ ?_ ?_ ?_; rotate_left 2; (· ((conv => lhs; whnf); try exact rfl)); (· rfl); (· intro w' hO'; refine run_opLoadS (b := ?_) (cs := ?_) (e := ?_) (f := ?_) hO' ?_ ?_ ?_ ?_; rotate_left 4; (· exact rfl); (· exact inferInstance); (· simp; done); (· simp; done)); simp only [Act.put, List.setIfInBounds_toArray, List.set_cons_zero, List.set_cons_succ])
      first | (refine sch_look (o := ?_) (v := ?_) ?_ ?_ ?_ ?_; rotate_left 2; (· ((conv => lhs; whnf); try exact rfl)); (· rfl); (· intro w' hO'; have c1 := hc1 w' hO'; have c2 := hc2 w' hO'; go_simp; (try exact rfl)); simp only [Act.put, List.setIfInBounds_toArray, List.set_cons_zero, List.set_cons_succ]) | (refine sch_pass (o := ?_) ?_ ?_ ?_; rotate_left; (· ((conv => lhs; whnf); try exact rfl)); (· rfl); simp only [Act.put, List.setIfInBounds_toArray, List.set_cons_zero, List.set_cons_succ]) | (refine sch_look (o := ?_) (v := .agg ?_) ?_ ?_ ?_ ?_; rotate_left 2; (· ((conv => lhs; whnf); try exact rfl)); (· rfl); (· intro w' hO'; refine run_opLoadS (b := ?_) (cs := ?_) (e := ?_) (f := ?_) hO' ?_ ?_ ?_ ?_; rotate_left 4; (· exact rfl); (· exact inferInstance); (· simp; done); (· simp; done)); simp only [Act.put, List.setIfInBounds_toArray, List.set_cons_zero, List.set_cons_succ])
      first | (refine sch_look (o := ?_) (v := ?_) ?_ ?_ ?_ ?_; rotate_left 2; (· ((conv => lhs; whnf); try exact rfl)); (· rfl); (· intro w' hO'; have c1 := hc1 w' hO'; have c2 := hc2 w' hO'; go_simp; (try exact rfl)); simp only [Act.put, List.setIfInBounds_toArray, List.set_cons_zero, List.set_cons_succ]) | (refine sch_pass (o := ?_) ?_ ?_ ?_; rotate_left; (· ((conv => lhs; whnf); try exact rfl)); (· rfl); simp only [Act.put, List.setIfInBounds_toArray, List.set_cons_zero, List.set_cons_succ]) | (refine sch_look (o := ?_) (v := .agg ?_) ?_ ?_ ?_ ?_; rotate_left 2; (· ((conv => lhs; whnf); try exact rfl)); (· rfl); (· intro w' hO'; refine run_opLoadS (b := ?_) (cs := ?_) (e := ?_) (f := ?_) hO' ?_ ?_ ?_ ?_; rotate_left 4; (· exact rfl); (· exact inferInstance); (· simp; done); (· simp; done)); simp only [Act.put, List.setIfInBounds_toArray, List.set_cons_zero, List.set_cons_succ])
      first | (refine sch_look (o := ?_) (v := ?_) ?_ ?_ ?_ ?_; rotate_left 2; (· ((conv => lhs; whnf); try exact rfl)); (· rfl); (· intro w' hO'; have c1 := hc1 w' hO'; have c2 := hc2 w' hO'; go_simp; (try exact rfl)); simp only [Act.put, List.setIfInBounds_toArray, List.set_cons_zero, List.set_cons_succ]) | (refine sch_pass (o := ?_) ?_ ?_ ?_; rotate_left; (· ((conv => lhs; whnf); try exact rfl)); (· rfl); simp only [Act.put, List.setIfInBounds_toArray, List.set_cons_zero, List.set_cons_succ]) | (refine sch_look (o := ?_) (v := .agg ?_) ?_ ?_ ?_ ?_; rotate_left 2; (· ((conv => lhs; whnf); try exact rfl)); (· rfl); (· intro w' hO'; refine run_opLoadS (b := ?_) (cs := ?_) (e := ?_) (f := ?_) hO' ?_ ?_ ?_ ?_; rotate_left 4; (· exact rfl); (· exact inferInstance); (· simp; done); (· simp; done)); simp only [Act.put, List.setIfInBounds_toArray, List.set_cons_zero, List.set_cons_succ])
      first | (refine sch_look (o := ?_) (v := ?_) ?_ ?_ ?_ ?_; rotate_left 2; (· ((conv => lhs; whnf); try exact rfl)); (· rfl); (· intro w' hO'; have c1 := hc1 w' hO'; have c2 := hc2 w' hO'; go_simp; (try exact rfl)); simp only [Act.put, List.setIfInBounds_toArray, List.set_cons_zero, List.set_cons_succ]) | (refine sch_pass (o := ?_) ?_ ?_ ?_; rotate_left; (· ((conv => lhs; whnf); try exact rfl)); (· rfl); simp only [Act.put, List.setIfInBounds_toArray, List.set_cons_zero, List.set_cons_succ]) | (refine sch_look (o := ?_) (v := .agg ?_) ?_ ?_ ?_ ?_; rotate_left 2; (· ((conv => lhs; whnf); try exact rfl)); (· rfl); (· intro w' hO'; refine run_opLoadS (b := ?_) (cs := ?_) (e := ?_) (f := ?_) hO' ?_ ?_ ?_ ?_; rotate_left 4; (· exact rfl); (· exact inferInstance); (· simp; done); (· simp; done)); simp only [Act.put, List.setIfInBounds_toArray, List.set_cons_zero, List.set_cons_succ])
      first | (refine sch_look (o := ?_) (v := ?_) ?_ ?_ ?_ ?_; rotate_left 2; (· ((conv => lhs; whnf); try exact rfl)); (· rfl); (· intro w' hO'; have c1 := hc1 w' hO'; have c2 := hc2 w' hO'; go_simp; (try exact rfl)); simp only [Act.put, List.setIfInBounds_toArray, List.set_cons_zero, List.set_cons_succ]) | (refine sch_pass (o := ?_) ?_ ?_ ?_; rotate_left; (· ((conv => lhs; whnf); try exact rfl)); (· rfl); simp only [Act.put, List.setIfInBounds_toArray, List.set_cons_zero, List.set_cons_succ]) | (refine sch_look (o := ?_) (v := .agg ?_) ?_ ?_ ?_ ?_; rotate_left 2; (· ((conv => lhs; whnf); try exact rfl)); (· rfl); (· intro w' hO'; refine run_opLoadS (b := ?_) (cs := ?_) (e := ?_) (f := ?_) hO' ?_ ?_ ?_ ?_; rotate_left 4; (· exact rfl); (· exact inferInstance); (· simp; done); (· simp; done)); simp only [Act.put, List.setIfInBounds_toArray, List.set_cons_zero, List.set_cons_succ])
      first | (refine sch_look (o := ?_) (v := ?_) ?_ ?_ ?_ ?_; rotate_left 2; (· ((conv => lhs; whnf); try exact rfl)); (· rfl); (· intro w' hO'; have c1 := hc1 w' hO'; have c2 := hc2 w' hO'; go_simp; (try exact rfl)); simp only [Act.put, List.setIfInBounds_toArray, List.set_cons_zero, List.set_cons_succ]) | (refine sch_pass (o := ?_) ?_ ?_ ?_; rotate_left; (· ((conv => lhs; whnf); try exact rfl)); (· rfl); simp only [Act.put, List.setIfInBounds_toArray, List.set_cons_zero, List.set_cons_succ]) | (refine sch_look (o := ?_) (v := .agg ?_) ?_ ?_ ?_ ?_; rotate_left 2; (· ((conv => lhs; whnf); try exact rfl)); (· rfl); (· intro w' hO'; refine run_opLoadS (b := ?_) (cs := ?_) (e := ?_) (f := ?_) hO' ?_ ?_ ?_ ?_; rotate_left 4; (· exact rfl); (· exact inferInstance); (· simp; done); (· simp; done)); simp only [Act.put, List.setIfInBounds_toArray, List.set_cons_zero, List.set_cons_succ])
      first | (refine sch_look (o := ?_) (v := ?_) ?_ ?_ ?_ ?_; rotate_left 2; (· ((conv => lhs; whnf); try exact rfl)); (· rfl); (· intro w' hO'; have c1 := hc1 w' hO'; have c2 := hc2 w' hO'; go_simp; (try exact rfl)); simp only [Act.put, List.setIfInBounds_toArray, List.set_cons_zero, List.set_cons_succ]) | (refine sch_pass (o := ?_) ?_ ?_ ?_; rotate_left; (· ((conv => lhs; whnf); try exact rfl)); (· rfl); simp only [Act.put, List.setIfInBounds_toArray, List.set_cons_zero, List.set_cons_succ]) | (refine sch_look (o := ?_) (v := .agg ?_) ?_ ?_ ?_ ?_; rotate_left 2; (· ((conv => lhs; whnf); try exact rfl)); (· rfl); (· intro w' hO'; refine run_opLoadS (b := ?_) (cs := ?_) (e := ?_) (f := ?_) hO' ?_ ?_ ?_ ?_; rotate_left 4; (· exact rfl); (· exact inferInstance); (· simp; done); (· simp; done)); simp only [Act.put, List.setIfInBounds_toArray, List.set_cons_zero, List.set_cons_succ])
      first | (refine sch_look (o := ?_) (v := ?_) ?_ ?_ ?_ ?_; rotate_left 2; (· ((conv => lhs; whnf); try exact rfl)); (· rfl); (· intro w' hO'; have c1 := hc1 w' hO'; have c2 := hc2 w' hO'; go_simp; (try exact rfl)); simp only [Act.put, List.setIfInBounds_toArray, List.set_cons_zero, List.set_cons_succ]) | (refine sch_pass (o := ?_) ?_ ?_ ?_; rotate_left; (· ((conv => lhs; whnf); try exact rfl)); (· rfl); simp only [Act.put, List.setIfInBounds_toArray, List.set_cons_zero, List.set_cons_succ]) | (refine sch_look (o := ?_) (v := .agg ?_) ?_ ?_ ?_ ?_; rotate_left 2; (· ((conv => lhs; whnf); try exact rfl)); (· rfl); (· intro w' hO'; refine run_opLoadS (b := ?_) (cs := ?_) (e := ?_) (f := ?_) hO' ?_ ?_ ?_ ?_; rotate_left 4; (· exact rfl); (· exact inferInstance); (· simp; done); (· simp; done)); simp only [Act.put, List.setIfInBounds_toArray, List.set_cons_zero, List.set_cons_succ])
      first | (refine sch_look (o := ?_) (v := ?_) ?_ ?_ ?_ ?_; rotate_left 2; (· ((conv => lhs; whnf); try exact rfl)); (· rfl); (· intro w' hO'; have c1 := hc1 w' hO'; have c2 := hc2 w' hO'; go_simp; (try exact rfl)); simp only [Act.put, List.setIfInBounds_toArray, List.set_cons_zero, List.set_cons_succ]) | (refine sch_pass (o := ?_) ?_ ?_ ?_; rotate_left; (· ((conv => lhs; whnf); try exact rfl)); (· rfl); simp only [Act.put, List.setIfInBounds_toArray, List.set_cons_zero, List.set_cons_succ]) | (refine sch_look (o := ?_) (v := .agg ?_) ?_ ?_ ?_ ?_; rotate_left 2; (· ((conv => lhs; whnf); try exact rfl)); (· rfl); (· intro w' hO'; refine run_opLoadS (b := ?_) (cs := ?_) (e := ?_) (f := ?_) hO' ?_ ?_ ?_ ?_; rotate_left 4; (· exact rfl); (· exact inferInstance); (· simp; done); (· simp; done)); simp only [Act.put, List.setIfInBounds_toArray, List.set_cons_zero, List.set_cons_succ])
      first | (refine sch_look (o := ?_) (v := ?_) ?_ ?_ ?_ ?_; rotate_left 2; (· ((conv => lhs; whnf); try exact rfl)); (· rfl); (· intro w' hO'; have c1 := hc1 w' hO'; have c2 := hc2 w' hO'; go_simp; (try exact rfl)); simp only [Act.put, List.setIfInBounds_toArray, List.set_cons_zero, List.set_cons_succ]) | (refine sch_pass (o := ?_) ?_ ?_ ?_; rotate_left; (· ((conv => lhs; whnf); try exact rfl)); (· rfl); simp only [Act.put, List.setIfInBounds_toArray, List.set_cons_zero, List.set_cons_succ]) | (refine sch_look (o := ?_) (v := .agg ?_) ?_ ?_ ?_ ?_; rotate_left 2; (· ((conv => lhs; whnf); try exact rfl)); (· rfl); (· intro w' hO'; refine run_opLoadS (b := ?_) (cs := ?_) (e := ?_) (f := ?_) hO' ?_ ?_ ?_ ?_; rotate_left 4; (· exact rfl); (· exact inferInstance); (· simp; done); (· simp; done)); simp only [Act.put, List.setIfInBounds_toArray, List.set_cons_zero, List.set_cons_succ])
      first | (refine sch_look (o := ?_) (v := ?_) ?_ ?_ ?_ ?_; rotate_left 2; (· ((conv => lhs; whnf); try exact rfl)); (· rfl); (· intro w' hO'; have c1 := hc1 w' hO'; have c2 := hc2 w' hO'; go_simp; (try exact rfl)); simp only [Act.put, List.setIfInBounds_toArray, List.set_cons_zero, List.set_cons_succ]) | (refine sch_pass (o := ?_) ?_ ?_ ?_; rotate_left; (· ((conv => lhs; whnf); try exact rfl)); (· rfl); simp only [Act.put, List.setIfInBounds_toArray, List.set_cons_zero, List.set_cons_succ]) | (refine sch_look (o := ?_) (v := .agg ?_) ?_ ?_ ?_ ?_; rotate_left 2; (· ((conv => lhs; whnf); try exact rfl)); (· rfl); (· intro w' hO'; refine run_opLoadS (b := ?_) (cs := ?_) (e := ?_) (f := ?_) hO' ?_ ?_ ?_ ?_; rotate_left 4; (· exact rfl); (· exact inferInstance); (· simp; done); (· simp; done)); simp only [Act.put, List.setIfInBounds_toArray, List.set_cons_zero, List.set_cons_succ])
      first | (refine sch_look (o := ?_) (v := ?_) ?_ ?_ ?_ ?_; rotate_left 2; (· ((conv => lhs; whnf); try exact rfl)); (· rfl); (· intro w' hO'; have c1 := hc1 w' hO'; have c2 := hc2 w' hO'; go_simp; (try exact rfl)); simp only [Act.put, List.setIfInBounds_toArray, List.set_cons_zero, List.set_cons_succ]) | (refine sch_pass (o := ?_) ?_ ?_ ?_; rotate_left; (· ((conv => lhs; whnf); try exact rfl)); (· rfl); simp only [Act.put, List.setIfInBounds_toArray, List.set_cons_zero, List.set_cons_succ]) | (refine sch_look (o := ?_) (v := .agg ?_) ?_ ?_ ?_ ?_; rotate_left 2; (· ((conv => lhs; whnf); try exact rfl)); (· rfl); (· intro w' hO'; refine run_opLoadS (b := ?_) (cs := ?_) (e := ?_) (f := ?_) hO' ?_ ?_ ?_ ?_; rotate_left 4; (· exact rfl); (· exact inferInstance); (· simp; done); (· simp; done)); simp only [Act.put, List.setIfInBounds_toArray, List.set_cons_zero, List.set_cons_succ])
      refine sch_done ?_
      have hws : IntKind.i64.wrap (x.st : Int) = (x.st : Int) := wrap_u _ (Nat.lt_of_le_of_lt hs1 (by decide))
      have hq5 := w64_add o 3 (by decide) (by decide) ho6
      have hq6 := wi_add o 3 (by decide) (by decide) ho6
      have hn6 : x.row.size < 1000000 := Nat.lt_of_le_of_lt hs2 (by decide)
      have hq7 := w64_add2 o x.row.size ho6 hn6
      have hq8 := wi_add2 o x.row.size ho6 hn6
      have hq9 := w64_3n x.row.size hn6
      have hqa := wi_3n x.row.size hn6
      have hqb := w64_o3n o x.row.size ho6 hn6
      have hqc := wi_o3n o x.row.size ho6 hn6
      obtain ⟨hb1, hb2, hb3, hb4, hb5⟩ := sl_bnd o x.row.size cap hob hcap
      obtain ⟨ad, had⟩ : ∃ ad, (if cap = o + 3 then some (⟨bb, 0, none⟩ : Addr) else some ⟨bb, o + 3, none⟩) = ad := ⟨_, rfl⟩
      have hsl : ∀ w', Own E w' B → (∀ b, ad = some b → ∀ j v, (bytesV x.row.data.toList)[j]? = some v → w'.cell? (b.add j) = some v) ∧ ad ≠ none := fun w' h' => ite_bytes had (nil_of_end hob hcap) (hrow w' h')
      have hz3 := tn3 o
      have hz4 := tn3n o x.row.size
      go_wp2_with fail
      (try (go_wp2_with fail))
      refine region_sch (fun w' => Own E w' (B)) (.look 0 (.look 1 (.look 2 (.look 3 (.look 4 (.look 5 (.look 6 (.look 7 (.look 8 (.look 9 (.look 10 (.look 11 (.look 12 (.look 13 (.look 14 (.look 15 (.act 16 (.act 17 (.look 18 .done))))))))))))))))))) (by kernel_rfl) (by kernel_rfl) (fun _ _ d _ _ h => by cases d <;> exact h) ?_ ?_
      · exact hO.drew.as _
      replace hO := hO.drew
      generalize World.drew _ = wdr at hO ⊢
      first | (refine sch_look (o := ?_) (v := ?_) ?_ ?_ ?_ ?_; rotate_left 2; (· ((conv => lhs; whnf); try exact rfl)); (· rfl); (· intro w' hO'; have c0 := hc0 w' hO'; go_simp; (try exact rfl)); simp only [Act.put, List.setIfInBounds_toArray, List.set_cons_zero, List.set_cons_succ]) | (refine sch_pass (o := ?_) ?_ ?_ ?_; rotate_left; (· ((conv => lhs; whnf); try exact rfl)); (· rfl); simp only [Act.put, List.setIfInBounds_toArray, List.set_cons_zero, List.set_cons_succ]) | (refine sch_look (o := ?_) (v := .agg ?_) ?_ ?_ ?_ ?_; rotate_left 2; (· ((conv => lhs; whnf); try exact rfl)); (· rfl); (· intro w' hO'; refine run_opLoadS (b := ?_) (cs := ?_) (e := ?_) (f := ?_) hO' ?_ ?_ ?_ ?_; rotate_left 4; (· exact rfl); (· exact inferInstance); (· simp; done); (· simp; done)); simp only [Act.put, List.setIfInBounds_toArray, List.set_cons_zero, List.set_cons_succ])
      first | (refine sch_look (o := ?_) (v := ?_) ?_ ?_ ?_ ?_; rotate_left 2; (· ((conv => lhs; whnf); try exact rfl)); (· rfl); (· intro w' hO'; have c0 := hc0 w' hO'; go_simp; (try exact rfl)); simp only [Act.put, List.setIfInBounds_toArray, List.set_cons_zero, List.set_cons_succ]) | (refine sch_pass (o := ?_) ?_ ?_ ?_; rotate_left; (· ((conv => lhs; whnf); try exact rfl)); (· rfl); simp only [Act.put, List.setIfInBounds_toArray, List.set_cons_zero, List.set_cons_succ]) | (refine sch_look (o := ?_) (v := .agg ?_) ?_ ?_ ?_ ?_; rotate_left 2; (· ((conv => lhs; whnf); try exact rfl)); (· rfl); (· intro w' hO'; refine run_opLoadS (b := ?_) (cs := ?_) (e := ?_) (f := ?_) hO' ?_ ?_ ?_ ?_; rotate_left 4; (· exact rfl); (· exact inferInstance); (· simp; done); (· simp; done)); simp only [Act.put, List.setIfInBounds_toArray, List.set_cons_zero, List.set_cons_succ])
      first | (refine sch_look (o := ?_) (v := ?_) ?_ ?_ ?_ ?_; rotate_left 2; (· ((conv => lhs; whnf); try exact rfl)); (· rfl); (· intro w' hO'; have c0 := hc0 w' hO'; go_simp; (try exact rfl)); simp only [Act.put, List.setIfInBounds_toArray, List.set_cons_zero, List.set_cons_succ]) | (refine sch_pass (o := ?_) ?_ ?_ ?_; rotate_left; (· ((conv => lhs; whnf); try exact rfl)); (· rfl); simp only [Act.put, List.setIfInBounds_toArray, List.set_cons_zero, List.set_cons_succ]) | (refine sch_look (o := ?_) (v := .agg ?_) ?_ ?_ ?_ ?_; rotate_left 2; (· ((conv => lhs; whnf); try exact rfl)); (· rfl); (· intro w' hO'; refine run_opLoadS (b := ?_) (cs := ?_) (e := ?_) (f := ?_) hO' ?_ ?_ ?_ ?_; rotate_left 4; (· exact rfl); (· exact inferInstance); (· simp; done); (· simp; done)); simp only [Act.put, List.setIfInBounds_toArray, List.set_cons_zero, List.set_cons_succ])
      first | (refine sch_look (o := ?_) (v := ?_) ?_ ?_ ?_ ?_; rotate_left 2; (· ((conv => lhs; whnf); try exact rfl)); (· rfl); (· intro w' hO'; have c0 := hc0 w' hO'; go_simp; (try exact rfl)); simp only [Act.put, List.setIfInBounds_toArray, List.set_cons_zero, List.set_cons_succ]) | (refine sch_pass (o := ?_) ?_ ?_ ?_; rotate_left; (· ((conv => lhs; whnf); try exact rfl)); (· rfl); simp only [Act.put, List.setIfInBounds_toArray, List.set_cons_zero, List.set_cons_succ]) | (refine sch_look (o := ?_) (v := .agg ?_) ?_ ?_ ?_ ?_; rotate_left 2; (· ((conv => lhs; whnf); try exact rfl)); (· rfl); (· intro w' hO'; refine run_opLoadS (b := ?_) (cs := ?_) (e := ?_) (f := ?_) hO' ?_ ?_ ?_ ?_; rotate_left 4; (· exact rfl); (· exact inferInstance); (· simp; done); (· simp; done)); simp only [Act.put, List.setIfInBounds_toArray, List.set_cons_zero, List.set_cons_succ])
      first | (refine sch_look (o := ?_) (v := ?_) ?_ ?_ ?_ ?_; rotate_left 2; (· ((conv => lhs; whnf); try exact rfl)); (· rfl); (· intro w' hO'; have c0 := hc0 w' hO'; go_simp; (try exact rfl)); simp only [Act.put, List.setIfInBounds_toArray, List.set_cons_zero, List.set_cons_succ]) | (refine sch_pass (o := ?_) ?_ ?_ ?_; rotate_left; (· ((conv => lhs; whnf); try exact rfl)); (· rfl); simp only [Act.put, List.setIfInBounds_toArray, List.set_cons_zero, List.set_cons_succ]) | (refine sch_look (o := ?_) (v := .agg ?_) ?_ ?_ ?_ ?_; rotate_left 2; (· ((conv => lhs; whnf); try exact rfl)); (· rfl); (· intro w' hO'; refine run_opLoadS (b := ?_) (cs := ?_) (e := ?_) (f := ?_) hO' ?_ ?_ ?_ ?_; rotate_left 4; (· exact rfl); (· exact inferInstance); (· simp; done); (· simp; done)); simp only [Act.put, List.setIfInBounds_toArray, List.set_cons_zero, List.set_cons_succ])
      first | (refine sch_look (o := ?_) (v := ?_) ?_ ?_ ?_ ?_; rotate_left 2; (· ((conv => lhs; whnf); try exact rfl)); (· rfl); (· intro w' hO'; have c0 := hc0 w' hO'; go_simp; (try exact rfl)); simp only [Act.put, List.setIfInBounds_toArray, List.set_cons_zero, List.set_cons_succ]) | (refine sch_pass (o := ?_) ?_ ?_ ?_; rotate_left; (· ((conv => lhs; whnf); try exact rfl)); (· rfl); simp only [Act.put, List.setIfInBounds_toArray, List.set_cons_zero, List.set_cons_succ]) | (refine sch_look (o := ?_) (v := .agg ?_) ?_ ?_ ?_ ?_; rotate_left 2; (· ((conv => lhs; whnf); try exact rfl)); (· rfl); (· intro w' hO'; refine run_opLoadS (b := ?_) (cs := ?_) (e := ?_) (f := ?_) hO' ?_ ?_ ?_ ?_; rotate_left 4; (· exact rfl); (· exact inferInstance); (· simp; done); (· simp; done)); simp only [Act.put, List.setIfInBounds_toArray, List.set_cons_zero, List.set_cons_succ])
      first | (refine sch_look (o := ?_) (v := ?_) ?_ ?_ ?_ ?_; rotate_left 2; (· ((conv => lhs; whnf); try exact rfl)); (· rfl); (· intro w' hO'; have c0 := hc0 w' hO'; go_simp; (try exact rfl)); simp only [Act.put, List.setIfInBounds_toArray, List.set_cons_zero, List.set_cons_succ]) | (refine sch_pass (o := ?_) ?_ ?_ ?_; rotate_left; (· ((conv => lhs; whnf); try exact rfl)); (· rfl); simp only [Act.put, List.setIfInBounds_toArray, List.set_cons_zero, List.set_cons_succ]) | (refine sch_look (o := ?_) (v := .agg ?_) ?_ ?_ ?_ ?_; rotate_left 2; (· ((conv => lhs; whnf); try exact rfl)); (· rfl); (· intro w' hO'; refine run_opLoadS (b := ?_) (cs := ?_) (e := ?_) (f := ?_) hO' ?_ ?_ ?_ ?_; rotate_left 4; (· exact rfl); (· exact inferInstance); (· simp; done); (· simp; done)); simp only [Act.put, List.setIfInBounds_toArray, List.set_cons_zero, List.set_cons_succ])
      first | (refine sch_look (o := ?_) (v := ?_) ?_ ?_ ?_ ?_; rotate_left 2; (· ((conv => lhs; whnf); try exact rfl)); (· rfl); (· intro w' hO'; have c0 := hc0 w' hO'; go_simp; (try exact rfl)); simp only [Act.put, List.setIfInBounds_toArray, List.set_cons_zero, List.set_cons_succ]) | (refine sch_pass (o := ?_) ?_ ?_ ?_; rotate_left; (· ((conv => lhs; whnf); try exact rfl)); (· rfl); simp only [Act.put, List.setIfInBounds_toArray, List.set_cons_zero, List.set_cons_succ]) | (refine sch_look (o := ?_) (v := .agg ?_) ?_ ?_ ?_ ?_; rotate_left 2; (· ((conv => lhs; whnf); try exact rfl)); (· rfl); (· intro w' hO'; refine run_opLoadS (b := ?_) (cs := ?_) (e := ?_) (f := ?_) hO' ?_ ?_ ?_ ?_; rotate_left 4; (· exact rfl); (· exact inferInstance); (· simp; done); (· simp; done)); simp only [Act.put, List.setIfInBounds_toArray, List.set_cons_zero, List.set_cons_succ])
      first | (refine sch_look (o := ?_) (v := ?_) ?_ ?_ ?_ ?_; rotate_left 2; (· ((conv => lhs; whnf); try exact rfl)); (· rfl); (· intro w' hO'; have c0 := hc0 w' hO'; go_simp; (try exact rfl)); simp only [Act.put, List.setIfInBounds_toArray, List.set_cons_zero, List.set_cons_succ]) | (refine sch_pass (o := ?_) ?_ ?_ ?_; rotate_left; (· ((conv => lhs; whnf); try exact rfl)); (· rfl); simp only [Act.put, List.setIfInBounds_toArray, List.set_cons_zero, List.set_cons_succ]) | (refine sch_look (o := ?_) (v := .agg ?_) ?_ ?_ ?_ ?_; rotate_left 2; (· ((conv => lhs; whnf); try exact rfl)); (· rfl); (· intro w' hO'; refine run_opLoadS (b := ?_) (cs := ?_) (e := ?_) (f := ?_) hO' ?_ ?_ ?_ ?_; rotate_left 4; (· exact rfl); (· exact inferInstance); (· simp; done); (· simp; done)); simp only [Act.put, List.setIfInBounds_toArray, List.set_cons_zero, List.set_cons_succ])
      first | (refine sch_look (o := ?_) (v := ?_) ?_ ?_ ?_ ?_; rotate_left 2; (· ((conv => lhs; whnf); try exact rfl)); (· rfl); (· intro w' hO'; have c0 := hc0 w' hO'; go_simp; (try exact rfl)); simp only [Act.put, List.setIfInBounds_toArray, List.set_cons_zero, List.set_cons_succ]) | (refine sch_pass (o := ?_) ?_ ?_ ?_; rotate_left; (· ((conv => lhs; whnf); try exact rfl)); (· rfl); simp only [Act.put, List.setIfInBounds_toArray, List.set_cons_zero, List.set_cons_succ]) | (refine sch_look (o := ?_) (v := .agg ?_) ?_ ?_ ?_ ?_; rotate_left 2; (· ((conv => lhs; whnf); try exact rfl)); (· rfl); (· intro w' hO'; refine run_opLoadS (b := ?_) (cs := ?_) (e := ?_) (f := ?_) hO' ?_ ?_ ?_ ?_; rotate_left 4; (· exact rfl); (· exact inferInstance); (· simp; done); (· simp; done)); simp only [Act.put, List.setIfInBounds_toArray, List.set_cons_zero, List.set_cons_succ])
      first | (refine sch_look (o := ?_) (v := ?_) ?_ ?_ ?_ ?_; rotate_left 2; (· ((conv => lhs; whnf); try exact rfl)); (· rfl); (· intro w' hO'; have c0 := hc0 w' hO'; go_simp; (try exact rfl)); simp only [Act.put, List.setIfInBounds_toArray, List.set_cons_zero, List.set_cons_succ]) | (refine sch_pass (o := ?_) ?_ ?_ ?_; rotate_left; (· ((conv => lhs; whnf); try exact rfl)); (· rfl); simp only [Act.put, List.setIfInBounds_toArray, List.set_cons_zero, List.set_cons_succ]) | (refine sch_look (o := ?_) (v := .agg ?_) ?_ ?_ ?_ ?_; rotate_left 2; (· ((conv => lhs; whnf); try exact rfl)); (· rfl); (· intro w' hO'; refine run_opLoadS (b := ?_) (cs := ?_) (e := ?_) (f := ?_) hO' ?_ ?_ ?_ ?_; rotate_left 4; (· exact rfl); (· exact inferInstance); (· simp; done); (· simp; done)); simp only [Act.put, List.setIfInBounds_toArray, List.set_cons_zero, List.set_cons_succ])
      first | (refine sch_look (o := ?_) (v := ?_) ?_ ?_ ?_ ?_; rotate_left 2; (· ((conv => lhs; whnf); try exact rfl)); (· rfl); (· intro w' hO'; have c0 := hc0 w' hO'; go_simp; (try exact rfl)); simp only [Act.put, List.setIfInBounds_toArray, List.set_cons_zero, List.set_cons_succ]) | (refine sch_pass (o := ?_) ?_ ?_ ?_; rotate_left; (· ((conv => lhs; whnf); try exact rfl)); (· rfl); simp only [Act.put, List.setIfInBounds_toArray, List.set_cons_zero, List.set_cons_succ]) | (refine sch_look (o := ?_) (v := .agg ?_) ?_ ?_ ?_ ?_; rotate_left 2; (· ((conv => lhs; whnf); try exact rfl)); (· rfl); (· intro w' hO'; refine run_opLoadS (b := ?_) (cs := ?_) (e := ?_) (f := ?_) hO' ?_ ?_ ?_ ?_; rotate_left 4; (· exact rfl); (· exact inferInstance); (· simp; done); (· simp; done)); simp only [Act.put, List.setIfInBounds_toArray, List.set_cons_zero, List.set_cons_succ])
      first | (refine sch_look (o := ?_) (v := ?_) ?_ ?_ ?_ ?_; rotate_left 2; (· ((conv => lhs; whnf); try exact rfl)); (· rfl); (· intro w' hO'; have c0 := hc0 w' hO'; go_simp; (try exact rfl)); simp only [Act.put, List.setIfInBounds_toArray, List.set_cons_zero, List.set_cons_succ]) | (refine sch_pass (o := ?_) ?_ ?_ ?_; rotate_left; (· ((conv => lhs; whnf); try exact rfl)); (· rfl); simp only [Act.put, List.setIfInBounds_toArray, List.set_cons_zero, List.set_cons_succ]) | (refine sch_look (o := ?_) (v := .agg ?_) ?_ ?_ ?_ ?_; rotate_left 2; (· ((conv => lhs; whnf); try exact rfl)); (· rfl); (· intro w' hO'; refine run_opLoadS (b := ?_) (cs := ?_) (e := ?_) (f := ?_) hO' ?_ ?_ ?_ ?_; rotate_left 4; (· exact rfl); (· exact inferInstance); (· simp; done); (· simp; done)); simp only [Act.put, List.setIfInBounds_toArray, List.set_cons_zero, List.set_cons_succ])
      first | (refine sch_look (o := ?_) (v := ?_) ?_ ?_ ?_ ?_; rotate_left 2; (· ((conv => lhs; whnf); try exact rfl)); (· rfl); (· intro w' hO'; have c0 := hc0 w' hO'; go_simp; (try exact rfl)); simp only [Act.put, List.setIfInBounds_toArray, List.set_cons_zero, List.set_cons_succ]) | (refine sch_pass (o := ?_) ?_ ?_ ?_; rotate_left; (· ((conv => lhs; whnf); try exact rfl)); (· rfl); simp only [Act.put, List.setIfInBounds_toArray, List.set_cons_zero, List.set_cons_succ]) | (refine sch_look (o := ?_) (v := .agg ?_) ?_ ?_ ?_ ?_; rotate_left 2; (· ((conv => lhs; whnf); try exact rfl)); (· rfl); (· intro w' hO'; refine run_opLoadS (b := ?_) (cs := ?_) (e := ?_) (f := ?_) hO' ?_ ?_ ?_ ?_; rotate_left 4; (· exact rfl); (· exact inferInstance); (· simp; done); (· simp; done)); simp only [Act.put, List.setIfInBounds_toArray, List.set_cons_zero, List.set_cons_succ])
      (refine sch_look (o := ?_) (v := .string x.row) ?_ ?_ ?_ ?_; rotate_left; (· ((conv => lhs; whnf); try exact rfl)); (· rfl); (· intro w' hO'; exact run_opBytesG (e := 5) (l := x.row.data.toList) (hsl w' hO') rfl (row_len _) (by kernel_rfl) (by kernel_rfl) (by kernel_rfl)); simp only [Act.put, List.setIfInBounds_toArray, List.set_cons_zero, List.set_cons_succ])
      first | (refine sch_look (o := ?_) (v := ?_) ?_ ?_ ?_ ?_; rotate_left 2; (· ((conv => lhs; whnf); try exact rfl)); (· rfl); (· intro w' hO'; have c0 := hc0 w' hO'; go_simp; (try exact rfl)); simp only [Act.put, List.setIfInBounds_toArray, List.set_cons_zero, List.set_cons_succ]) | (refine sch_pass (o := ?_) ?_ ?_ ?_; rotate_left; (· ((conv => lhs; whnf); try exact rfl)); (· rfl); simp only [Act.put, List.setIfInBounds_toArray, List.set_cons_zero, List.set_cons_succ]) | (refine sch_look (o := ?_) (v := .agg ?_) ?_ ?_ ?_ ?_; rotate_left 2; (· ((conv => lhs; whnf); try exact rfl)); (· rfl); (· intro w' hO'; refine run_opLoadS (b := ?_) (cs := ?_) (e := ?_) (f := ?_) hO' ?_ ?_ ?_ ?_; rotate_left 4; (· exact rfl); (· exact inferInstance); (· simp; done); (· simp; done)); simp only [Act.put, List.setIfInBounds_toArray, List.set_cons_zero, List.set_cons_succ])
      (refine sch_act (o := ?_) ?_ ?_; rotate_left; (· ((conv => lhs; whnf); try exact rfl)))
      go_wp2_with (first | (refine at_bs ?_; go_must (refine own_build1 (v := ?_) sltSlots hO ?_ ?_ ?_ ?_ ?_ ?_; rotate_left; (· rfl); (· ((conv => lhs; whnf); try exact rfl)); (· rfl); (· decide); (· decide); clear hO; (try clear hF); intro bs _ hO; (try simp only [Value.cells] at hO); ((try simp only [List.nil_append, List.append_nil] at hO); have hF := Own.cells hO; simp only [cellsOf_append, cellsOf_pt] at hF); simp only [Act.put, List.setIfInBounds_toArray, List.set_cons_zero, List.set_cons_succ])))
      refine ⟨hO.as _, ?_⟩
      (refine sch_act (o := ?_) ?_ ?_; rotate_left; (· ((conv => lhs; whnf); try exact rfl)))
      go_wp2_with (first | (refine at_append ?_; go_must (refine own_append_elem (b1 := ?_) (cs := ?_) (e1 := ?_) (f1 := ?_) sltSlots hO ?_ ?_ ?_ hS0 ?_ ?_ ?_ ?_ ?_ ?_ ?_; rotate_left 4; (· rfl); (· rfl); (· rfl); (· exact inferInstance); (· rfl); (· intro u hu; simp at hu; rcases hu with rfl | rfl <;> rfl); (· first | exact hj64 | exact hj65); (· decide); (· first | exact hj64 | exact hj65); clear hO; (try clear hF); intro _ _ _ _ hS hO; ((try simp only [List.nil_append, List.append_nil] at hO); have hF := Own.cells hO; simp only [cellsOf_append, cellsOf_pt] at hF); simp only [Act.put, List.setIfInBounds_toArray, List.set_cons_zero, List.set_cons_succ])))
      refine ⟨hO.as _, ?_⟩
      first | (refine sch_look (o := ?_) (v := ?_) ?_ ?_ ?_ ?_; rotate_left 2; (· ((conv => lhs; whnf); try exact rfl)); (· rfl); (· intro w' hO'; have c0 := hc0 w' hO'; go_simp; (try exact rfl)); simp only [Act.put, List.setIfInBounds_toArray, List.set_cons_zero, List.set_cons_succ]) | (refine sch_pass (o := ?_) ?_ ?_ ?_; rotate_left; (· ((conv => lhs; whnf); try exact rfl)); (· rfl); simp only [Act.put, List.setIfInBounds_toArray, List.set_cons_zero, List.set_cons_succ]) | (refine sch_look (o := ?_) (v := .agg ?_) ?_ ?_ ?_ ?_; rotate_left 2; (· ((conv => lhs; whnf); try exact rfl)); (· rfl); (· intro w' hO'; refine run_opLoadS (b := ?_) (cs := ?_) (e := ?_) (f := ?_) hO' ?_ ?_ ?_ ?_; rotate_left 4; (· exact rfl); (· exact inferInstance); (· simp; done); (· simp; done)); simp only [Act.put, List.setIfInBounds_toArray, List.set_cons_zero, List.set_cons_succ])
      refine sch_done ?_
      go_wp2_with fail
      go_roundw
      case rel =>
        refine ⟨j + 1, _, _, ?S, rfl, ?p1, by go_num, HLT.out, ?p2, ?p3⟩
        case p2 =>
          rw [HTK.out, slV_app]
          exact hS
        case p3 => exact hO.as _
        case p1 =>
          rw [HOS.out]
          go_num
      case measure => have := HLT.out; simp [intOf]; omega
    · obtain rfl : j = l.length := Nat.le_antisymm hj (Nat.le_of_not_lt hlt)
      rw [List.take_length] at hS
      obtain ⟨hi, lo, -, -, -, hhi, hlo, hw1, hw2, hw3, hor⟩ := hi_lo next (Nat.lt_of_lt_of_le HPK.out.nx (by decide))
      have hc1 : ∀ w', Own E w' B → w'.cell? ⟨bb, 0, none⟩ = some (.int .u8 hi) := fun w' h' => by rw [← hhi]; exact HBI.out.at h' (i := 0) rfl
      have hc2 : ∀ w', Own E w' B → w'.cell? ⟨bb, 1, none⟩ = some (.int .u8 lo) := fun w' h' => by rw [← hlo]; exact HBI.out.at h' (i := 1) rfl
      have hjj : ¬ (l.length : Int) < l.length := by omega
      clear hhi hlo hj hlt
      go_wp2_with fail
      (try (go_wp2_with fail))
      refine region_sch (fun w' => Own E w' (B)) (.look 0 (.look 1 (.look 2 (.look 3 (.look 4 (.look 5 (.look 6 (.look 7 (.look 8 (.look 9 (.look 10 (.look 11 (.look 12 .done))))))))))))) (by kernel_rfl) (by kernel_rfl) (fun _ _ d _ _ h => by cases d <;> exact h) ?_ ?_
      · exact hO.drew.as _
      replace hO := hO.drew
      generalize World.drew _ = wdr at hO ⊢
      first | (refine sch_look (o := ?_) (v := ?_) ?_ ?_ ?_ ?_; rotate_left 2; (· ((conv => lhs; whnf); try exact rfl)); (· rfl); (· intro w' hO'; have c1 := hc1 w' hO'; have c2 := hc2 w' hO'; go_simp; (try exact rfl)); simp only [Act.put, List.setIfInBounds_toArray, List.set_cons_zero, List.set_cons_succ]) | (refine sch_pass (o := ?_) ?_ ?_ ?_; rotate_left; (· ((conv => lhs; whnf); try exact rfl)); (· rfl); simp only [Act.put, List.setIfInBounds_toArray, List.set_cons_zero, List.set_cons_succ]) | (refine sch_look (o := ?_) (v := .agg ?_) ?_ ?_ ?_ ?_; rotate_left 2; (· ((conv => lhs; whnf); try exact rfl)); (· rfl); (· intro w' hO'; refine run_opLoadS (b := ?_) (cs := ?_) (e := ?_) (f := ?_) hO' ?_ ?_ ?_ ?_; rotate_left 4; (· exact rfl); (· exact inferInstance); (· simp; done); (· simp; done)); simp only [Act.put, List.setIfInBounds_toArray, List.set_cons_zero, List.set_cons_succ])
      first | (refine sch_look (o := ?_) (v := ?_) ?_ ?_ ?_ ?_; rotate_left 2; (· ((conv => lhs; whnf); try exact rfl)); (· rfl); (· intro w' hO'; have c1 := hc1 w' hO'; have c2 := hc2 w' hO'; go_simp; (try exact rfl)); simp only [Act.put, List.setIfInBounds_toArray, List.set_cons_zero, List.set_cons_succ]) | (refine sch_pass (o := ?_) ?_ ?_ ?_; rotate_left; (· ((conv => lhs; whnf); try exact rfl)); (· rfl); simp only [Act.put, List.setIfInBounds_toArray, List.set_cons_zero, List.set_cons_succ]) | (refine sch_look (o := ?_) (v := .agg ?_) ?_ ?_ ?_ ?_; rotate_left 2; (· ((conv => lhs; whnf); try exact rfl)); (· rfl); (· intro w' hO'; refine run_opLoadS (b := ?_) (cs := ?_) (e := ?_) (f := ?_) hO' ?_ ?_ ?_ ?_; rotate_left 4; (· exact rfl); (· exact inferInstance); (· simp; done); (· simp; done)); simp only [Act.put, List.setIfInBounds_toArray, List.set_cons_zero, List.set_cons_succ])
      first | (refine sch_look (o := ?_) (v := ?_) ?_ ?_ ?_ ?_; rotate_left 2; (· ((conv => lhs; whnf); try exact rfl)); (· rfl); (· intro w' hO'; have c1 := hc1 w' hO'; have c2 := hc2 w' hO'; go_simp; (try exact rfl)); simp only [Act.put, List.setIfInBounds_toArray, List.set_cons_zero, List.set_cons_succ]) | (refine sch_pass (o := ?_) ?_ ?_ ?_; rotate_left; (· ((conv => lhs; whnf); try exact rfl)); (· rfl); simp only [Act.put, List.setIfInBounds_toArray, List.set_cons_zero, List.set_cons_succ]) | (refine sch_look (o := ?_) (v := .agg ?_) ?_ ?_ ?_ ?_; rotate_left 2; (· ((conv => lhs; whnf); try exact rfl)); (· rfl); (· intro w' hO'; refine run_opLoadS (b := ?_) (cs := ?_) (e := ?_) (f := ?_) hO' ?_ ?_ ?_ ?_; rotate_left 4; (· exact rfl); (· exact inferInstance); (· simp; done); (· simp; done)); simp only [Act.put, List.setIfInBounds_toArray, List.set_cons_zero, List.set_cons_succ])
      first | (refine sch_look (o := ?_) (v := ?_) ?_ ?_ ?_ ?_; rotate_left 2; (· ((conv => lhs; whnf); try exact rfl)); (· rfl); (· intro w' hO'; have c1 := hc1 w' hO'; have c2 := hc2 w' hO'; go_simp; (try exact rfl)); simp only [Act.put, List.setIfInBounds_toArray, List.set_cons_zero, List.set_cons_succ]) | (refine sch_pass (o := ?_) ?_ ?_ ?_; rotate_left; (· ((conv => lhs; whnf); try exact rfl)); (· rfl); simp only [Act.put, List.setIfInBounds_toArray, List.set_cons_zero, List.set_cons_succ]) | (refine sch_look (o := ?_) (v := .agg ?_) ?_ ?_ ?_ ?_; rotate_left 2; (· ((conv => lhs; whnf); try exact rfl)); (· rfl); (· intro w' hO'; refine run_opLoadS (b := ?_) (cs := ?_) (e := ?_) (f := ?_) hO' ?_ ?_ ?_ ?_; rotate_left 4; (· exact rfl); (· exact inferInstance); (· simp; done); (· simp; done)); simp only [Act.put, List.setIfInBounds_toArray, List.set_cons_zero, List.set_cons_succ])
      first | (refine sch_look (o := ?_) (v := ?_) ?_ ?_ ?_ ?_; rotate_left 2; (· ((conv => lhs; whnf); try exact rfl)); (· rfl); (· intro w' hO'; have c1 := hc1 w' hO'; have c2 := hc2 w' hO'; go_simp; (try exact rfl)); simp only [Act.put, List.setIfInBounds_toArray, List.set_cons_zero, List.set_cons_succ]) | (refine sch_pass (o := ?_) ?_ ?_ ?_; rotate_left; (· ((conv => lhs; whnf); try exact rfl)); (· rfl); simp only [Act.put, List.setIfInBounds_toArray, List.set_cons_zero, List.set_cons_succ]) | (refine sch_look (o := ?_) (v := .agg ?_) ?_ ?_ ?_ ?_; rotate_left 2; (· ((conv => lhs; whnf); try exact rfl)); (· rfl); (· intro w' hO'; refine run_opLoadS (b := ?_) (cs := ?_) (e := ?_) (f := ?_) hO' ?_ ?_ ?_ ?_; rotate_left 4; (· exact rfl); (· exact inferInstance); (· simp; done); (· simp; done)); simp only [Act.put, List.setIfInBounds_toArray, List.set_cons_zero, List.set_cons_succ])
      first | (refine sch_look (o := ?_) (v := ?_) ?_ ?_ ?_ ?_; rotate_left 2; (· ((conv => lhs; whnf); try exact rfl)); (· rfl); (· intro w' hO'; have c1 := hc1 w' hO'; have c2 := hc2 w' hO'; go_simp; (try exact rfl)); simp only [Act.put, List.setIfInBounds_toArray, List.set_cons_zero, List.set_cons_succ]) | (refine sch_pass (o := ?_) ?_ ?_ ?_; rotate_left; (· ((conv => lhs; whnf); try exact rfl)); (· rfl); simp only [Act.put, List.setIfInBounds_toArray, List.set_cons_zero, List.set_cons_succ]) | (refine sch_look (o := ?_) (v := .agg ?_) ?_ ?_ ?_ ?_; rotate_left 2; (· ((conv => lhs; whnf); try exact rfl)); (· rfl); (· intro w' hO'; refine run_opLoadS (b := ?_) (cs := ?_) (e := ?_) (f := ?_) hO' ?_ ?_ ?_ ?_; rotate_left 4; (· exact rfl); (· exact inferInstance); (· simp; done); (· simp; done)); simp only [Act.put, List.setIfInBounds_toArray, List.set_cons_zero, List.set_cons_succ])
      first | (refine sch_look (o := ?_) (v := ?_) ?_ ?_ ?_ ?_; rotate_left 2; (· ((conv => lhs; whnf); try exact rfl)); (· rfl); (· intro w' hO'; have c1 := hc1 w' hO'; have c2 := hc2 w' hO'; go_simp; (try exact rfl)); simp only [Act.put, List.setIfInBounds_toArray, List.set_cons_zero, List.set_cons_succ]) | (refine sch_pass (o := ?_) ?_ ?_ ?_; rotate_left; (· ((conv => lhs; whnf); try exact rfl)); (· rfl); simp only [Act.put, List.setIfInBounds_toArray, List.set_cons_zero, List.set_cons_succ]) | (refine sch_look (o := ?_) (v := .agg ?_) ?_ ?_ ?_ ?_; rotate_left 2; (· ((conv => lhs; whnf); try exact rfl)); (· rfl); (· intro w' hO'; refine run_opLoadS (b := ?_) (cs := ?_) (e := ?_) (f := ?_) hO' ?_ ?_ ?_ ?_; rotate_left 4; (· exact rfl); (· exact inferInstance); (· simp; done); (· simp; done)); simp only [Act.put, List.setIfInBounds_toArray, List.set_cons_zero, List.set_cons_succ])
      first | (refine sch_look (o := ?_) (v := ?_) ?_ ?_ ?_ ?_; rotate_left 2; (· ((conv => lhs; whnf); try exact rfl)); (· rfl); (· intro w' hO'; have c1 := hc1 w' hO'; have c2 := hc2 w' hO'; go_simp; (try exact rfl)); simp only [Act.put, List.setIfInBounds_toArray, List.set_cons_zero, List.set_cons_succ]) | (refine sch_pass (o := ?_) ?_ ?_ ?_; rotate_left; (· ((conv => lhs; whnf); try exact rfl)); (· rfl); simp only [Act.put, List.setIfInBounds_toArray, List.set_cons_zero, List.set_cons_succ]) | (refine sch_look (o := ?_) (v := .agg ?_) ?_ ?_ ?_ ?_; rotate_left 2; (· ((conv => lhs; whnf); try exact rfl)); (· rfl); (· intro w' hO'; refine run_opLoadS (b := ?_) (cs := ?_) (e := ?_) (f := ?_) hO' ?_ ?_ ?_ ?_; rotate_left 4; (· exact rfl); (· exact inferInstance); (· simp; done); (· simp; done)); simp only [Act.put, List.setIfInBounds_toArray, List.set_cons_zero, List.set_cons_succ])
      first | (refine sch_look (o := ?_) (v := ?_) ?_ ?_ ?_ ?_; rotate_left 2; (· ((conv => lhs; whnf); try exact rfl)); (· rfl); (· intro w' hO'; have c1 := hc1 w' hO'; have c2 := hc2 w' hO'; go_simp; (try exact rfl)); simp only [Act.put, List.setIfInBounds_toArray, List.set_cons_zero, List.set_cons_succ]) | (refine sch_pass (o := ?_) ?_ ?_ ?_; rotate_left; (· ((conv => lhs; whnf); try exact rfl)); (· rfl); simp only [Act.put, List.setIfInBounds_toArray, List.set_cons_zero, List.set_cons_succ]) | (refine sch_look (o := ?_) (v := .agg ?_) ?_ ?_ ?_ ?_; rotate_left 2; (· ((conv => lhs; whnf); try exact rfl)); (· rfl); (· intro w' hO'; refine run_opLoadS (b := ?_) (cs := ?_) (e := ?_) (f := ?_) hO' ?_ ?_ ?_ ?_; rotate_left 4; (· exact rfl); (· exact inferInstance); (· simp; done); (· simp; done)); simp only [Act.put, List.setIfInBounds_toArray, List.set_cons_zero, List.set_cons_succ])
      first | (refine sch_look (o := ?_) (v := ?_) ?_ ?_ ?_ ?_; rotate_left 2; (· ((conv => lhs; whnf); try exact rfl)); (· rfl); (· intro w' hO'; have c1 := hc1 w' hO'; have c2 := hc2 w' hO'; go_simp; (try exact rfl)); simp only [Act.put, List.setIfInBounds_toArray, List.set_cons_zero, List.set_cons_succ]) | (refine sch_pass (o := ?_) ?_ ?_ ?_; rotate_left; (· ((conv => lhs; whnf); try exact rfl)); (· rfl); simp only [Act.put, List.setIfInBounds_toArray, List.set_cons_zero, List.set_cons_succ]) | (refine sch_look (o := ?_) (v := .agg ?_) ?_ ?_ ?_ ?_; rotate_left 2; (· ((conv => lhs; whnf); try exact rfl)); (· rfl); (· intro w' hO'; refine run_opLoadS (b := ?_) (cs := ?_) (e := ?_) (f := ?_) hO' ?_ ?_ ?_ ?_; rotate_left 4; (· exact rfl); (· exact inferInstance); (· simp; done); (· simp; done)); simp only [Act.put, List.setIfInBounds_toArray, List.set_cons_zero, List.set_cons_succ])
      first | (refine sch_look (o := ?_) (v := ?_) ?_ ?_ ?_ ?_; rotate_left 2; (· ((conv => lhs; whnf); try exact rfl)); (· rfl); (· intro w' hO'; have c1 := hc1 w' hO'; have c2 := hc2 w' hO'; go_simp; (try exact rfl)); simp only [Act.put, List.setIfInBounds_toArray, List.set_cons_zero, List.set_cons_succ]) | (refine sch_pass (o := ?_) ?_ ?_ ?_; rotate_left; (· ((conv => lhs; whnf); try exact rfl)); (· rfl); simp only [Act.put, List.setIfInBounds_toArray, List.set_cons_zero, List.set_cons_succ]) | (refine sch_look (o := ?_) (v := .agg ?_) ?_ ?_ ?_ ?_; rotate_left 2; (· ((conv => lhs; whnf); try exact rfl)); (· rfl); (· intro w' hO'; refine run_opLoadS (b := ?_) (cs := ?_) (e := ?_) (f := ?_) hO' ?_ ?_ ?_ ?_; rotate_left 4; (· exact rfl); (· exact inferInstance); (· simp; done); (· simp; done)); simp only [Act.put, List.setIfInBounds_toArray, List.set_cons_zero, List.set_cons_succ])
      first | (refine sch_look (o := ?_) (v := ?_) ?_ ?_ ?_ ?_; rotate_left 2; (· ((conv => lhs; whnf); try exact rfl)); (· rfl); (· intro w' hO'; have c1 := hc1 w' hO'; have c2 := hc2 w' hO'; go_simp; (try exact rfl)); simp only [Act.put, List.setIfInBounds_toArray, List.set_cons_zero, List.set_cons_succ]) | (refine sch_pass (o := ?_) ?_ ?_ ?_; rotate_left; (· ((conv => lhs; whnf); try exact rfl)); (· rfl); simp only [Act.put, List.setIfInBounds_toArray, List.set_cons_zero, List.set_cons_succ]) | (refine sch_look (o := ?_) (v := .agg ?_) ?_ ?_ ?_ ?_; rotate_left 2; (· ((conv => lhs; whnf); try exact rfl)); (· rfl); (· intro w' hO'; refine run_opLoadS (b := ?_) (cs := ?_) (e := ?_) (f := ?_) hO' ?_ ?_ ?_ ?_; rotate_left 4; (· exact rfl); (· exact inferInstance); (· simp; done); (· simp; done)); simp only [Act.put, List.setIfInBounds_toArray, List.set_cons_zero, List.set_cons_succ])
      first | (refine sch_look (o := ?_) (v := ?_) ?_ ?_ ?_ ?_; rotate_left 2; (· ((conv => lhs; whnf); try exact rfl)); (· rfl); (· intro w' hO'; have c1 := hc1 w' hO'; have c2 := hc2 w' hO'; go_simp; (try exact rfl)); simp only [Act.put, List.setIfInBounds_toArray, List.set_cons_zero, List.set_cons_succ]) | (refine sch_pass (o := ?_) ?_ ?_ ?_; rotate_left; (· ((conv => lhs; whnf); try exact rfl)); (· rfl); simp only [Act.put, List.setIfInBounds_toArray, List.set_cons_zero, List.set_cons_succ]) | (refine sch_look (o := ?_) (v := .agg ?_) ?_ ?_ ?_ ?_; rotate_left 2; (· ((conv => lhs; whnf); try exact rfl)); (· rfl); (· intro w' hO'; refine run_opLoadS (b := ?_) (cs := ?_) (e := ?_) (f := ?_) hO' ?_ ?_ ?_ ?_; rotate_left 4; (· exact rfl); (· exact inferInstance); (· simp; done); (· simp; done)); simp only [Act.put, List.setIfInBounds_toArray, List.set_cons_zero, List.set_cons_succ])
      refine sch_done ?_
      go_wp2_with fail
      rw [← HPOST.out]
      exact ⟨sa, sc, S, A, rfl, hS, hA, by unfold heapF; exact hO.as _⟩
end Go.Proofs.YtkfkcloefgfkaaaGreat

/- Heap: bytes. -/
namespace Go.Proofs.YtkfkcloefgfkaaaGreat
open Go Go.RowKit Go.Own Go.Dk

theorem zeroSlot (w : World) : (zeroValue 115).run Tryz.prog w = .ok (.agg #[.int .i64 0, .string .empty]) w := by kernel_rfl
theorem slV_get {l : List Slot} {j : Nat} (h : j < l.length) : (slV l).drop (j * 2) = slotV l[j] ++ (slV l).drop ((j + 1) * 2) := by
  have e : l = l.take j ++ (l[j] :: l.drop (j + 1)) := by rw [← List.drop_eq_getElem_cons h, List.take_append_drop]
  have h1 : slV l = slV (l.take j) ++ (slotV l[j] ++ slV (l.drop (j + 1))) := by
    conv => lhs; rw [e]
    rw [slV_app]
    rfl
  have h2 : (slV (l.take j)).length = j * 2 := by rw [slV_length, List.length_take, Nat.min_eq_left (by omega)]
  have h3 : slV l = (slV (l.take j) ++ slotV l[j]) ++ slV (l.drop (j + 1)) := by rw [h1, List.append_assoc]
  have h4 : (slV (l.take j) ++ slotV l[j]).length = (j + 1) * 2 := by rw [List.length_append, h2]; show j * 2 + 2 = _; omega
  conv => lhs; rw [h1]
  conv => rhs; rw [h3]
  rw [← h2, List.drop_left, ← h4, List.drop_left]
/-- The cells of slot j. -/
theorem slot_at {E w : World} {X R S : Fr} {sb n cap : Nat} {l : List Slot} (h : Sl 115 2 (some ⟨sb, 0, none⟩) n cap (slV l) S) (hO : Own E w X) [hp : Pick X S R] {j : Nat} (hj : j < l.length) : ∀ i v, (slotV l[j])[i]? = some v → w.cell? ((⟨sb, j * 2, none⟩ : Addr).add i) = some v := by
  intro i v hi
  have hil : i < 2 := (List.getElem?_eq_some_iff.1 hi).1
  have h1 : (slV l)[j * 2 + i]? = some v := by
    rw [← List.getElem?_drop, slV_get hj, List.getElem?_append_left (by exact hil)]
    exact hi
  obtain ⟨hlt, hv⟩ := List.getElem?_eq_some_iff.1 h1
  have := h.cell hO ⟨sb, 0, none⟩ rfl (j * 2 + i) hlt
  rw [add_lit, Nat.zero_add] at this
  rw [add_lit, this, hv]
/-- The first three bytes and the slots. -/
def prefB (next n : Nat) (l : List Slot) : List UInt8 := UInt8.ofNat (next / 256) :: UInt8.ofNat next :: UInt8.ofNat n :: slotsB l
theorem prefB_succ {next n : Nat} {l : List Slot} {j : Nat} (h : j < l.length) : prefB next n (l.take (j + 1)) = prefB next n (l.take j) ++ (UInt8.ofNat l[j].st :: UInt8.ofNat (l[j].row.size / 256) :: UInt8.ofNat l[j].row.size :: l[j].row.data.toList) := by
  unfold prefB
  rw [List.take_succ_eq_append_getElem h, slotsB_app, slotsB_cons]
  simp only [List.cons_append]
  congr 4
  show slotB l[j] ++ [] = _
  rw [List.append_nil]
  rfl
theorem slotsB_le {l : List Slot} (h : ∀ x ∈ l, SlotOk x) : (slotsB l).length ≤ l.length * 403 := by
  induction l with
  | nil => simp [slotsB]
  | cons x l ih =>
    have h1 := ih fun y hy => h y (List.mem_cons_of_mem _ hy)
    have h2 := (h x (by simp)).2
    rw [slotsB_cons, List.length_append, slotB_len, List.length_cons]
    omega
theorem prefV (next n : Nat) (hn : next < 65536) (h : n < 256) : (#[.int .u8 ((next : Int) / 256), .int .u8 ((next : Int) % 256), .int .u8 (n : Int)] : Array Value) = (bytesV (prefB next n []) ++ []).toArray := by
  have e1 : (next : Int) / 256 = ((next / 256 % 256 : Nat) : Int) := by omega
  have e2 : (next : Int) % 256 = ((next % 256 : Nat) : Int) := by omega
  have e3 : (n : Int) = ((n % 256 : Nat) : Int) := by omega
  rw [e1, e2, e3]
  rfl
theorem u8_row (st n : Nat) : (#[.int .u8 (IntKind.u8.wrap (st : Int)), .int .u8 (IntKind.u8.wrap ((n : Int) / 256)), .int .u8 (IntKind.u8.wrap (n : Int))] : Array Value).toList = bytesV [UInt8.ofNat st, UInt8.ofNat (n / 256), UInt8.ofNat n] := by
  have e1 : (n : Int) / 256 = ((n / 256 : Nat) : Int) := by omega
  rw [e1, wrap_u8, wrap_u8, wrap_u8]
  rfl
theorem three_cells {E w : World} {X : Fr} {b : Nat} {e : TypeId} {f : Nat × Nat} {c1 c2 c3 : Value} {news : List Value} {P : Program} (hO : Own E w X) [hh : Has X b (.cells #[c1, c2, c3] e f)] (hu : (#[c1, c2, c3] : Array Value).toList = news) : (Builtin.firstCells 1 3 (.slice (some ⟨b, 0, none⟩) 3 3)).run P w = .ok news.toArray w := by
  subst hu
  refine run_firstCells_some w 1 3 ⟨b, 0, none⟩ 3 3 _ rfl ?_
  intro j v hj
  rw [add_lit, hO.cell (b := b)]
  simpa using hj
def HBytesP (E : World) (sa : Option Addr) (n cap next : Nat) (l : List Slot) (S R : Fr) (e : Ending) (w' : World) : Prop :=
  ∃ (ra : Option Addr) (rc : Nat) (RS : Fr), e = .returned (.slice ra (pagP next l).length rc) ∧ Sl 5 1 ra (pagP next l).length rc (bytesV (pagP next l)) RS ∧ Own E w' (RS ++ (S ++ R))
set_option maxRecDepth 100000 in
set_option maxHeartbeats 16000000 in
theorem hBytes (E w : World) (X R S : Fr) (sa : Option Addr) (cap next : Nat) (l : List Slot) (hn : next < 65536) (hl : l.length ≤ 65) (hok : ∀ x ∈ l, SlotOk x) (hS : Sl 115 2 sa l.length cap (slV l) S) (hO : Own E w X) [hp : Pick X S R] :
    Calls Tryz.prog 136 #[.int .i64 next, .slice sa l.length cap] w (HBytesP E sa l.length cap next l S R) := by
  replace hO := hO.perm hp.perm
  clear hp
  generalize hpost : HBytesP E sa l.length cap next l S R = POST
  have HPOST := Lib.hid hpost
  clear hpost
  have hlb := slotsB_le hok
  have hni : (next : Int) < 65536 := by omega
  have hli : (l.length : Int) ≤ 65 := by omega
  go_enter Tryz.func136, Tryz.ntmps136
  go_wp2_with (first | (refine at_bs ?_; go_must (refine own_buildN (cells := ?_) sltBytes hO ?_ ?_ ?_ ?_ ?_ ?_; rotate_left; (· rfl); (· decide); (· decide); (· rfl); (· simp [Instr.fill, Act.eval, Value.cells, Array.replicate_succ]; exact rfl); clear hO; (try clear hF); intro bs _ hO; ((try simp only [List.nil_append, List.append_nil] at hO); have hF := Own.cells hO; simp only [cellsOf_append, cellsOf_pt] at hF); simp only [Act.put, List.setIfInBounds_toArray, List.set_cons_zero, List.set_cons_succ])))
  rw [prefV next l.length hn (by omega)] at hO
  have h0 : Sl 5 1 (some ⟨bs, 0, none⟩) 3 3 (bytesV (prefB next l.length [])) (pt bs (.cells (bytesV (prefB next l.length []) ++ []).toArray 5 (0, 0))) := Sl.mk (by rw [bytesV_length]; rfl) (by decide) (by decide) (by rw [List.append_nil, bytesV_length]; rfl)
  have hO1 := hO
  have HOK := Lib.hid hok
  have HL := Lib.hid hl
  clear hO hF hlb hni hli hok hn hl
  go_loopw [5, 19] (fun s5 s19 wr => ∃ (j n rc : Nat) (ra : Option Addr) (RS : Fr), s5 = .slice ra n rc ∧ s19 = .int .i64 j ∧ j ≤ l.length ∧ n = (prefB next l.length (l.take j)).length ∧ Sl 5 1 ra n rc (bytesV (prefB next l.length (l.take j))) RS ∧ Own E wr (RS ++ (S ++ R))) (fun _ s19 _ => l.length - (intOf s19).toNat)
  case atStart => exact ⟨0, 3, 3, some ⟨bs, 0, none⟩, _, rfl, rfl, Nat.zero_le _, rfl, h0, hO1⟩
  case round =>
    clear hO1 h0
    obtain ⟨j, n, rc, ra, RS, rfl, rfl, hj, hnl, hRS, hO⟩ := hrel
    by_cases hlt : j < l.length
    · have hj1 : (j : Int) < l.length := by omega
      have hj2 : (0 : Int) ≤ j := by omega
      obtain ⟨sb, rfl⟩ := sl_some4 hS (Nat.lt_of_le_of_lt (Nat.zero_le _) hlt)
      have hsc := slot_at hS hO hlt
      have hsk := HOK.out l[j] (List.getElem_mem _)
      have hsu := prefB_succ (next := next) (n := l.length) hlt
      generalize l[j] = x at hsc hsk hsu
      obtain ⟨hs1, hs2⟩ := hsk
      have hu := u8_row x.st x.row.size
      have hsi : (x.st : Int) ≤ 2 := by omega
      have hri : (x.row.size : Int) ≤ 400 := by omega
      have hnb : n ≤ 26198 := by
        rw [hnl]
        have h1 : (slotsB (l.take j)).length ≤ (l.take j).length * 403 := slotsB_le fun y hy => HOK.out y (List.mem_of_mem_take hy)
        have h2 : (l.take j).length ≤ 65 := by have := HL.out; rw [List.length_take]; omega
        show (slotsB (l.take j)).length + 1 + 1 + 1 ≤ _
        omega
      have hj6 : j < 1000000 := Nat.lt_of_lt_of_le hlt (Nat.le_trans HL.out (by decide))
      have hwj := w64_add j 1 (by decide) (by decide) hj6
      have hwk := wi_add j 1 (by decide) (by decide) hj6
      have HLT := Lib.hid hlt
      have HNL := Lib.hid hnl
      have HSU := Lib.hid hsu
      have HU := Lib.hid hu
      have HSC := Lib.hid hsc
      clear hlt hnl hsu hu hsc
      go_wp2_with (first | (refine at_load (t := 115) ?_; go_must (refine own_loadC (ad := ⟨sb, j * 2, none⟩) (cs := [.int .i64 x.st, .string x.row]) ?_ HSC.out ?_ ?_ ?_ ?_; (· rfl); (· ((conv => lhs; whnf); try exact rfl)); (· simp; done); (· simp; done); simp only [Act.put, List.setIfInBounds_toArray, List.set_cons_zero, List.set_cons_succ])) | (refine at_alloc ?_; go_must (refine own_alloc (z := ?_) hO ?_ ?_ ?_; rotate_left; (· rfl); (· exact zeroSlot _); clear hO; (try clear hF); intro q _ hO; (try simp only [Value.cells] at hO); ((try simp only [List.nil_append, List.append_nil] at hO); have hF := Own.cells hO; simp only [cellsOf_append, cellsOf_pt] at hF); simp only [Act.put, List.setIfInBounds_toArray, List.set_cons_zero, List.set_cons_succ])) | (refine own_store (v := ?_) (off := 0) (b := q) hO ?_ ?_ ?_ ?_ ?_ ?_ ?_; rotate_left; (· rfl); (· ((conv => lhs; whnf); try exact rfl)); (· ((conv => lhs; whnf); try exact rfl)); (· simp [Value.cells]); (· simp [Value.cells, Value.oneCell']); (· simp [Value.cells]); clear hO; (try clear hF); intro _ hO; (try simp only [splice, Value.cells] at hO); ((try simp only [List.nil_append, List.append_nil] at hO); have hF := Own.cells hO; simp only [cellsOf_append, cellsOf_pt] at hF); simp only [Act.put, List.setIfInBounds_toArray, List.set_cons_zero, List.set_cons_succ]))
      (try simp only [splice, Value.cells, List.setIfInBounds_toArray, List.set_cons_zero, List.set_cons_succ] at hO)
      have hRS0 := hRS
      have hu := HU.out
      (try (go_wp2_with fail))
      refine region_sch (fun w' => Own E w' (pt q (.cells #[.int .i64 x.st, .string x.row] 115 (0, 0)))) (.look 0 (.look 1 (.look 2 (.look 3 (.look 4 (.look 5 (.look 6 (.look 7 (.look 8 (.look 9 (.look 10 (.look 11 (.look 12 (.look 15 (.look 16 (.act 13 (.act 14 (.act 17 (.look 18 .done))))))))))))))))))) (by kernel_rfl) (by kernel_rfl) (fun _ _ d _ _ h => by cases d <;> exact h) ?_ ?_
      · exact hO.drew.as _
      replace hO := hO.drew
      generalize World.drew _ = wdr at hO ⊢
      first | (refine sch_look (o := ?_) (v := ?_) ?_ ?_ ?_ ?_; rotate_left 2; (· ((conv => lhs; whnf); try exact rfl)); (· rfl); (· intro w' hO'; (have hF' := Own.cells hO'; simp only [cellsOf_append, cellsOf_pt] at hF'); go_simp; (try exact rfl)); simp only [Act.put, List.setIfInBounds_toArray, List.set_cons_zero, List.set_cons_succ]) | (refine sch_pass (o := ?_) ?_ ?_ ?_; rotate_left; (· ((conv => lhs; whnf); try exact rfl)); (· rfl); simp only [Act.put, List.setIfInBounds_toArray, List.set_cons_zero, List.set_cons_succ]) | (refine sch_look (o := ?_) (v := .agg ?_) ?_ ?_ ?_ ?_; rotate_left 2; (· ((conv => lhs; whnf); try exact rfl)); (· rfl); (· intro w' hO'; refine run_opLoadS (b := ?_) (cs := ?_) (e := ?_) (f := ?_) hO' ?_ ?_ ?_ ?_; rotate_left 4; (· exact rfl); (· exact inferInstance); (· simp; done); (· simp; done)); simp only [Act.put, List.setIfInBounds_toArray, List.set_cons_zero, List.set_cons_succ])
      first | (refine sch_look (o := ?_) (v := ?_) ?_ ?_ ?_ ?_; rotate_left 2; (· ((conv => lhs; whnf); try exact rfl)); (· rfl); (· intro w' hO'; (have hF' := Own.cells hO'; simp only [cellsOf_append, cellsOf_pt] at hF'); go_simp; (try exact rfl)); simp only [Act.put, List.setIfInBounds_toArray, List.set_cons_zero, List.set_cons_succ]) | (refine sch_pass (o := ?_) ?_ ?_ ?_; rotate_left; (· ((conv => lhs; whnf); try exact rfl)); (· rfl); simp only [Act.put, List.setIfInBounds_toArray, List.set_cons_zero, List.set_cons_succ]) | (refine sch_look (o := ?_) (v := .agg ?_) ?_ ?_ ?_ ?_; rotate_left 2; (· ((conv => lhs; whnf); try exact rfl)); (· rfl); (· intro w' hO'; refine run_opLoadS (b := ?_) (cs := ?_) (e := ?_) (f := ?_) hO' ?_ ?_ ?_ ?_; rotate_left 4; (· exact rfl); (· exact inferInstance); (· simp; done); (· simp; done)); simp only [Act.put, List.setIfInBounds_toArray, List.set_cons_zero, List.set_cons_succ])
      first | (refine sch_look (o := ?_) (v := ?_) ?_ ?_ ?_ ?_; rotate_left 2; (· ((conv => lhs; whnf); try exact rfl)); (· rfl); (· intro w' hO'; (have hF' := Own.cells hO'; simp only [cellsOf_append, cellsOf_pt] at hF'); go_simp; (try exact rfl)); simp only [Act.put, List.setIfInBounds_toArray, List.set_cons_zero, List.set_cons_succ]) | (refine sch_pass (o := ?_) ?_ ?_ ?_; rotate_left; (· ((conv => lhs; whnf); try exact rfl)); (· rfl); simp only [Act.put, List.setIfInBounds_toArray, List.set_cons_zero, List.set_cons_succ]) | (refine sch_look (o := ?_) (v := .agg ?_) ?_ ?_ ?_ ?_; rotate_left 2; (· ((conv => lhs; whnf); try exact rfl)); (· rfl); (· intro w' hO'; refine run_opLoadS (b := ?_) (cs := ?_) (e := ?_) (f := ?_) hO' ?_ ?_ ?_ ?_; rotate_left 4; (· exact rfl); (· exact inferInstance); (· simp; done); (· simp; done)); simp only [Act.put, List.setIfInBounds_toArray, List.set_cons_zero, List.set_cons_succ])
      first | (refine sch_look (o := ?_) (v := ?_) ?_ ?_ ?_ ?_; rotate_left 2; (· ((conv => lhs; whnf); try exact rfl)); (· rfl); (· intro w' hO'; (have hF' := Own.cells hO'; simp only [cellsOf_append, cellsOf_pt] at hF'); go_simp; (try exact rfl)); simp only [Act.put, List.setIfInBounds_toArray, List.set_cons_zero, List.set_cons_succ]) | (refine sch_pass (o := ?_) ?_ ?_ ?_; rotate_left; (· ((conv => lhs; whnf); try exact rfl)); (· rfl); simp only [Act.put, List.setIfInBounds_toArray, List.set_cons_zero, List.set_cons_succ]) | (refine sch_look (o := ?_) (v := .agg ?_) ?_ ?_ ?_ ?_; rotate_left 2; (· ((conv => lhs; whnf); try exact rfl)); (· rfl); (· intro w' hO'; refine run_opLoadS (b := ?_) (cs := ?_) (e := ?_) (f := ?_) hO' ?_ ?_ ?_ ?_; rotate_left 4; (· exact rfl); (· exact inferInstance); (· simp; done); (· simp; done)); simp only [Act.put, List.setIfInBounds_toArray, List.set_cons_zero, List.set_cons_succ])
      first | (refine sch_look (o := ?_) (v := ?_) ?_ ?_ ?_ ?_; rotate_left 2; (· ((conv => lhs; whnf); try exact rfl)); (· rfl); (· intro w' hO'; (have hF' := Own.cells hO'; simp only [cellsOf_append, cellsOf_pt] at hF'); go_simp; (try exact rfl)); simp only [Act.put, List.setIfInBounds_toArray, List.set_cons_zero, List.set_cons_succ]) | (refine sch_pass (o := ?_) ?_ ?_ ?_; rotate_left; (· ((conv => lhs; whnf); try exact rfl)); (· rfl); simp only [Act.put, List.setIfInBounds_toArray, List.set_cons_zero, List.set_cons_succ]) | (refine sch_look (o := ?_) (v := .agg ?_) ?_ ?_ ?_ ?_; rotate_left 2; (· ((conv => lhs; whnf); try exact rfl)); (· rfl); (· intro w' hO'; refine run_opLoadS (b := ?_) (cs := ?_) (e := ?_) (f := ?_) hO' ?_ ?_ ?_ ?_; rotate_left 4; (· exact rfl); (· exact inferInstance); (· simp; done); (· simp; done)); simp only [Act.put, List.setIfInBounds_toArray, List.set_cons_zero, List.set_cons_succ])
      first | (refine sch_look (o := ?_) (v := ?_) ?_ ?_ ?_ ?_; rotate_left 2; (· ((conv => lhs; whnf); try exact rfl)); (· rfl); (· intro w' hO'; (have hF' := Own.cells hO'; simp only [cellsOf_append, cellsOf_pt] at hF'); go_simp; (try exact rfl)); simp only [Act.put, List.setIfInBounds_toArray, List.set_cons_zero, List.set_cons_succ]) | (refine sch_pass (o := ?_) ?_ ?_ ?_; rotate_left; (· ((conv => lhs; whnf); try exact rfl)); (· rfl); simp only [Act.put, List.setIfInBounds_toArray, List.set_cons_zero, List.set_cons_succ]) | (refine sch_look (o := ?_) (v := .agg ?_) ?_ ?_ ?_ ?_; rotate_left 2; (· ((conv => lhs; whnf); try exact rfl)); (· rfl); (· intro w' hO'; refine run_opLoadS (b := ?_) (cs := ?_) (e := ?_) (f := ?_) hO' ?_ ?_ ?_ ?_; rotate_left 4; (· exact rfl); (· exact inferInstance); (· simp; done); (· simp; done)); simp only [Act.put, List.setIfInBounds_toArray, List.set_cons_zero, List.set_cons_succ])
      first | (refine sch_look (o := ?_) (v := ?_) ?_ ?_ ?_ ?_; rotate_left 2; (· ((conv => lhs; whnf); try exact rfl)); (· rfl); (· intro w' hO'; (have hF' := Own.cells hO'; simp only [cellsOf_append, cellsOf_pt] at hF'); go_simp; (try exact rfl)); simp only [Act.put, List.setIfInBounds_toArray, List.set_cons_zero, List.set_cons_succ]) | (refine sch_pass (o := ?_) ?_ ?_ ?_; rotate_left; (· ((conv => lhs; whnf); try exact rfl)); (· rfl); simp only [Act.put, List.setIfInBounds_toArray, List.set_cons_zero, List.set_cons_succ]) | (refine sch_look (o := ?_) (v := .agg ?_) ?_ ?_ ?_ ?_; rotate_left 2; (· ((conv => lhs; whnf); try exact rfl)); (· rfl); (· intro w' hO'; refine run_opLoadS (b := ?_) (cs := ?_) (e := ?_) (f := ?_) hO' ?_ ?_ ?_ ?_; rotate_left 4; (· exact rfl); (· exact inferInstance); (· simp; done); (· simp; done)); simp only [Act.put, List.setIfInBounds_toArray, List.set_cons_zero, List.set_cons_succ])
      first | (refine sch_look (o := ?_) (v := ?_) ?_ ?_ ?_ ?_; rotate_left 2; (· ((conv => lhs; whnf); try exact rfl)); (· rfl); (· intro w' hO'; (have hF' := Own.cells hO'; simp only [cellsOf_append, cellsOf_pt] at hF'); go_simp; (try exact rfl)); simp only [Act.put, List.setIfInBounds_toArray, List.set_cons_zero, List.set_cons_succ]) | (refine sch_pass (o := ?_) ?_ ?_ ?_; rotate_left; (· ((conv => lhs; whnf); try exact rfl)); (· rfl); simp only [Act.put, List.setIfInBounds_toArray, List.set_cons_zero, List.set_cons_succ]) | (refine sch_look (o := ?_) (v := .agg ?_) ?_ ?_ ?_ ?_; rotate_left 2; (· ((conv => lhs; whnf); try exact rfl)); (· rfl); (· intro w' hO'; refine run_opLoadS (b := ?_) (cs := ?_) (e := ?_) (f := ?_) hO' ?_ ?_ ?_ ?_; rotate_left 4; (· exact rfl); (· exact inferInstance); (· simp; done); (· simp; done)); simp only [Act.put, List.setIfInBounds_toArray, List.set_cons_zero, List.set_cons_succ])
      first | (refine sch_look (o := ?_) (v := ?_) ?_ ?_ ?_ ?_; rotate_left 2; (· ((conv => lhs; whnf); try exact rfl)); (· rfl); (· intro w' hO'; (have hF' := Own.cells hO'; simp only [cellsOf_append, cellsOf_pt] at hF'); go_simp; (try exact rfl)); simp only [Act.put, List.setIfInBounds_toArray, List.set_cons_zero, List.set_cons_succ]) | (refine sch_pass (o := ?_) ?_ ?_ ?_; rotate_left; (· ((conv => lhs; whnf); try exact rfl)); (· rfl); simp only [Act.put, List.setIfInBounds_toArray, List.set_cons_zero, List.set_cons_succ]) | (refine sch_look (o := ?_) (v := .agg ?_) ?_ ?_ ?_ ?_; rotate_left 2; (· ((conv => lhs; whnf); try exact rfl)); (· rfl); (· intro w' hO'; refine run_opLoadS (b := ?_) (cs := ?_) (e := ?_) (f := ?_) hO' ?_ ?_ ?_ ?_; rotate_left 4; (· exact rfl); (· exact inferInstance); (· simp; done); (· simp; done)); simp only [Act.put, List.setIfInBounds_toArray, List.set_cons_zero, List.set_cons_succ])
      first | (refine sch_look (o := ?_) (v := ?_) ?_ ?_ ?_ ?_; rotate_left 2; (· ((conv => lhs; whnf); try exact rfl)); (· rfl); (· intro w' hO'; (have hF' := Own.cells hO'; simp only [cellsOf_append, cellsOf_pt] at hF'); go_simp; (try exact rfl)); simp only [Act.put, List.setIfInBounds_toArray, List.set_cons_zero, List.set_cons_succ]) | (refine sch_pass (o := ?_) ?_ ?_ ?_; rotate_left; (· ((conv => lhs; whnf); try exact rfl)); (· rfl); simp only [Act.put, List.setIfInBounds_toArray, List.set_cons_zero, List.set_cons_succ]) | (refine sch_look (o := ?_) (v := .agg ?_) ?_ ?_ ?_ ?_; rotate_left 2; (· ((conv => lhs; whnf); try exact rfl)); (· rfl); (· intro w' hO'; refine run_opLoadS (b := ?_) (cs := ?_) (e := ?_) (f := ?_) hO' ?_ ?_ ?_ ?_; rotate_left 4; (· exact rfl); (· exact inferInstance); (· simp; done); (· simp; done)); simp only [Act.put, List.setIfInBounds_toArray, List.set_cons_zero, List.set_cons_succ])
      first | (refine sch_look (o := ?_) (v := ?_) ?_ ?_ ?_ ?_; rotate_left 2; (· ((conv => lhs; whnf); try exact rfl)); (· rfl); (· intro w' hO'; (have hF' := Own.cells hO'; simp only [cellsOf_append, cellsOf_pt] at hF'); go_simp; (try exact rfl)); simp only [Act.put, List.setIfInBounds_toArray, List.set_cons_zero, List.set_cons_succ]) | (refine sch_pass (o := ?_) ?_ ?_ ?_; rotate_left; (· ((conv => lhs; whnf); try exact rfl)); (· rfl); simp only [Act.put, List.setIfInBounds_toArray, List.set_cons_zero, List.set_cons_succ]) | (refine sch_look (o := ?_) (v := .agg ?_) ?_ ?_ ?_ ?_; rotate_left 2; (· ((conv => lhs; whnf); try exact rfl)); (· rfl); (· intro w' hO'; refine run_opLoadS (b := ?_) (cs := ?_) (e := ?_) (f := ?_) hO' ?_ ?_ ?_ ?_; rotate_left 4; (· exact rfl); (· exact inferInstance); (· simp; done); (· simp; done)); simp only [Act.put, List.setIfInBounds_toArray, List.set_cons_zero, List.set_cons_succ])
      first | (refine sch_look (o := ?_) (v := ?_) ?_ ?_ ?_ ?_; rotate_left 2; (· ((conv => lhs; whnf); try exact rfl)); (· rfl); (· intro w' hO'; (have hF' := Own.cells hO'; simp only [cellsOf_append, cellsOf_pt] at hF'); go_simp; (try exact rfl)); simp only [Act.put, List.setIfInBounds_toArray, List.set_cons_zero, List.set_cons_succ]) | (refine sch_pass (o := ?_) ?_ ?_ ?_; rotate_left; (· ((conv => lhs; whnf); try exact rfl)); (· rfl); simp only [Act.put, List.setIfInBounds_toArray, List.set_cons_zero, List.set_cons_succ]) | (refine sch_look (o := ?_) (v := .agg ?_) ?_ ?_ ?_ ?_; rotate_left 2; (· ((conv => lhs; whnf); try exact rfl)); (· rfl); (· intro w' hO'; refine run_opLoadS (b := ?_) (cs := ?_) (e := ?_) (f := ?_) hO' ?_ ?_ ?_ ?_; rotate_left 4; (· exact rfl); (· exact inferInstance); (· simp; done); (· simp; done)); simp only [Act.put, List.setIfInBounds_toArray, List.set_cons_zero, List.set_cons_succ])
      first | (refine sch_look (o := ?_) (v := ?_) ?_ ?_ ?_ ?_; rotate_left 2; (· ((conv => lhs; whnf); try exact rfl)); (· rfl); (· intro w' hO'; (have hF' := Own.cells hO'; simp only [cellsOf_append, cellsOf_pt] at hF'); go_simp; (try exact rfl)); simp only [Act.put, List.setIfInBounds_toArray, List.set_cons_zero, List.set_cons_succ]) | (refine sch_pass (o := ?_) ?_ ?_ ?_; rotate_left; (· ((conv => lhs; whnf); try exact rfl)); (· rfl); simp only [Act.put, List.setIfInBounds_toArray, List.set_cons_zero, List.set_cons_succ]) | (refine sch_look (o := ?_) (v := .agg ?_) ?_ ?_ ?_ ?_; rotate_left 2; (· ((conv => lhs; whnf); try exact rfl)); (· rfl); (· intro w' hO'; refine run_opLoadS (b := ?_) (cs := ?_) (e := ?_) (f := ?_) hO' ?_ ?_ ?_ ?_; rotate_left 4; (· exact rfl); (· exact inferInstance); (· simp; done); (· simp; done)); simp only [Act.put, List.setIfInBounds_toArray, List.set_cons_zero, List.set_cons_succ])
      first | (refine sch_look (o := ?_) (v := ?_) ?_ ?_ ?_ ?_; rotate_left 2; (· ((conv => lhs; whnf); try exact rfl)); (· rfl); (· intro w' hO'; (have hF' := Own.cells hO'; simp only [cellsOf_append, cellsOf_pt] at hF'); go_simp; (try exact rfl)); simp only [Act.put, List.setIfInBounds_toArray, List.set_cons_zero, List.set_cons_succ]) | (refine sch_pass (o := ?_) ?_ ?_ ?_; rotate_left; (· ((conv => lhs; whnf); try exact rfl)); (· rfl); simp only [Act.put, List.setIfInBounds_toArray, List.set_cons_zero, List.set_cons_succ]) | (refine sch_look (o := ?_) (v := .agg ?_) ?_ ?_ ?_ ?_; rotate_left 2; (· ((conv => lhs; whnf); try exact rfl)); (· rfl); (· intro w' hO'; refine run_opLoadS (b := ?_) (cs := ?_) (e := ?_) (f := ?_) hO' ?_ ?_ ?_ ?_; rotate_left 4; (· exact rfl); (· exact inferInstance); (· simp; done); (· simp; done)); simp only [Act.put, List.setIfInBounds_toArray, List.set_cons_zero, List.set_cons_succ])
      first | (refine sch_look (o := ?_) (v := ?_) ?_ ?_ ?_ ?_; rotate_left 2; (· ((conv => lhs; whnf); try exact rfl)); (· rfl); (· intro w' hO'; (have hF' := Own.cells hO'; simp only [cellsOf_append, cellsOf_pt] at hF'); go_simp; (try exact rfl)); simp only [Act.put, List.setIfInBounds_toArray, List.set_cons_zero, List.set_cons_succ]) | (refine sch_pass (o := ?_) ?_ ?_ ?_; rotate_left; (· ((conv => lhs; whnf); try exact rfl)); (· rfl); simp only [Act.put, List.setIfInBounds_toArray, List.set_cons_zero, List.set_cons_succ]) | (refine sch_look (o := ?_) (v := .agg ?_) ?_ ?_ ?_ ?_; rotate_left 2; (· ((conv => lhs; whnf); try exact rfl)); (· rfl); (· intro w' hO'; refine run_opLoadS (b := ?_) (cs := ?_) (e := ?_) (f := ?_) hO' ?_ ?_ ?_ ?_; rotate_left 4; (· exact rfl); (· exact inferInstance); (· simp; done); (· simp; done)); simp only [Act.put, List.setIfInBounds_toArray, List.set_cons_zero, List.set_cons_succ])
      (refine sch_act (o := ?_) ?_ ?_; rotate_left; (· ((conv => lhs; whnf); try exact rfl)))
      go_wp2_with (first | (refine at_bs ?_; go_must (refine own_buildN (cells := ?_) sltBytes hO ?_ ?_ ?_ ?_ ?_ ?_; rotate_left; (· rfl); (· decide); (· decide); (· rfl); (· simp [Instr.fill, Act.eval, Value.cells, Array.replicate_succ]; exact rfl); clear hO; (try clear hF); intro b3 _ hO; ((try simp only [List.nil_append, List.append_nil] at hO); have hF := Own.cells hO; simp only [cellsOf_append, cellsOf_pt] at hF); simp only [Act.put, List.setIfInBounds_toArray, List.set_cons_zero, List.set_cons_succ])))
      refine ⟨hO.as _, ?_⟩
      (refine sch_act (o := ?_) ?_ ?_; rotate_left; (· ((conv => lhs; whnf); try exact rfl)))
      go_wp2_with (first | (refine at_append ?_; go_must (refine own_append (sz := 1) (bytes := 1) (z := .int .u8 0) (e := 5) (xv := .slice (some ⟨b3, 0, none⟩) 3 3) (m := 3) (news := bytesV [UInt8.ofNat x.st, UInt8.ofNat (x.row.size / 256), UInt8.ofNat x.row.size]) sltBytes (.inl (by kernel_rfl)) hO ?_ ?_ ?_ hRS0 ?_ ?_ ?_ ?_ ?_ ?_ ?_; (· rfl); (· rfl); (· rfl); (· intro w; rfl); (· intro w' hO'; exact three_cells hO' hu); (· rfl); (· exact bytesV_one _); (· simp only [maxLen]; omega); (· left; omega); clear hO; (try clear hF); intro ra2 rc2 RS2 w5 hRS2 hO; ((try simp only [List.nil_append, List.append_nil] at hO); have hF := Own.cells hO; simp only [cellsOf_append, cellsOf_pt] at hF); simp only [Act.put, List.setIfInBounds_toArray, List.set_cons_zero, List.set_cons_succ])))
      refine ⟨hO.as _, ?_⟩
      (refine sch_act (o := ?_) ?_ ?_; rotate_left; (· ((conv => lhs; whnf); try exact rfl)))
      go_wp2_with (first | (refine at_append ?_; go_must (refine own_append (sz := 1) (bytes := 1) (z := .int .u8 0) (e := 5) (xv := .string x.row) (m := x.row.size) (news := bytesV x.row.data.toList) sltBytes (.inr (by kernel_rfl)) hO ?_ ?_ ?_ hRS2 ?_ ?_ ?_ ?_ ?_ ?_ ?_; (· rfl); (· rfl); (· rfl); (· intro w; rfl); (· intro w' _; exact run_firstCells_str x.row w'); (· rw [bytesV_length, row_len]; omega); (· exact bytesV_one _); (· simp only [maxLen]; omega); (· left; omega); clear hO; (try clear hF); intro ra3 rc3 RS3 w6 hRS3 hO; ((try simp only [List.nil_append, List.append_nil] at hO); have hF := Own.cells hO; simp only [cellsOf_append, cellsOf_pt] at hF); simp only [Act.put, List.setIfInBounds_toArray, List.set_cons_zero, List.set_cons_succ])))
      refine ⟨hO.as _, ?_⟩
      first | (refine sch_look (o := ?_) (v := ?_) ?_ ?_ ?_ ?_; rotate_left 2; (· ((conv => lhs; whnf); try exact rfl)); (· rfl); (· intro w' hO'; (have hF' := Own.cells hO'; simp only [cellsOf_append, cellsOf_pt] at hF'); go_simp; (try exact rfl)); simp only [Act.put, List.setIfInBounds_toArray, List.set_cons_zero, List.set_cons_succ]) | (refine sch_pass (o := ?_) ?_ ?_ ?_; rotate_left; (· ((conv => lhs; whnf); try exact rfl)); (· rfl); simp only [Act.put, List.setIfInBounds_toArray, List.set_cons_zero, List.set_cons_succ]) | (refine sch_look (o := ?_) (v := .agg ?_) ?_ ?_ ?_ ?_; rotate_left 2; (· ((conv => lhs; whnf); try exact rfl)); (· rfl); (· intro w' hO'; refine run_opLoadS (b := ?_) (cs := ?_) (e := ?_) (f := ?_) hO' ?_ ?_ ?_ ?_; rotate_left 4; (· exact rfl); (· exact inferInstance); (· simp; done); (· simp; done)); simp only [Act.put, List.setIfInBounds_toArray, List.set_cons_zero, List.set_cons_succ])
      refine sch_done ?_
      go_wp2_with fail
      go_roundw
      case rel =>
        refine ⟨j + 1, n + 3 + x.row.size, rc3, ra3, RS3, rfl, by go_num, HLT.out, ?_, ?_, hO.as _⟩
        · rw [HSU.out, List.length_append, ← HNL.out, List.length_cons, List.length_cons, List.length_cons, row_len]
          omega
        · rw [HSU.out, bytesV_append]
          rw [List.append_assoc, ← bytesV_append] at hRS3
          exact hRS3
      case measure => have := HLT.out; simp [intOf]; omega
    · obtain rfl : j = l.length := Nat.le_antisymm hj (Nat.le_of_not_lt hlt)
      rw [List.take_length] at hRS hnl
      have hjj : ¬ (l.length : Int) < l.length := by omega
      have hpe : prefB next l.length l = pagP next l := rfl
      rw [hpe] at hRS hnl
      subst hnl
      clear hj hlt hpe
      go_wp2_with fail
      rw [← HPOST.out]
      exact ⟨ra, rc, RS, rfl, hRS, hO.as _⟩
end Go.Proofs.YtkfkcloefgfkaaaGreat

/- Heap: write. -/
namespace Go.Proofs.YtkfkcloefgfkaaaGreat
open Go Go.RowKit Go.Own Go.Dk

theorem Going.vlen {s d a N : Nat} {st0 st : SSt} {A : Fr} (h : Going s d a N st0 st A) (k : Nat) : (st.v k).length = 512 := by
  obtain ⟨l, p, mf, mp, mg, most, J, recs, fr, ovs, gone, AA, MF, h4, hm2, hA, hV, hv, _⟩ := h
  obtain ⟨PA, MP, MG, hS, hMP, hMG, hok, hnd, rfl⟩ := hA
  rw [hv]
  rcases ov_cases ovs k with ⟨pre, o, post, rfl, rfl, hp⟩ | hno
  · rw [oview_in hp]
    exact (hok o (by simp)).2.1
  · rw [oview_out hno]
    exact hS.clen k
/-- A page is laid whole. -/
def SSt.lay (st : SSt) (k : Nat) (B : List UInt8) : SSt := { st with v := upd st.v k B }
theorem gLay (E w : World) (X R A : Fr) (s d a N : Nat) (st0 st : SSt) (k : Nat) (t : ByteArray) (B : List UInt8) (hB : t.data.toList = B) (hk : st.has k) (hl : B.length = 512) (hA : Going s d a N st0 st A) (hN : N ≤ 8796000000000) (hO : Own E w X) [hp : Pick X A R] :
    Calls Tryz.prog 120 #[.pointer (some ⟨a, 0, none⟩), .int .i64 k, .int .i64 0, .string t] w fun e w' => e = .returned (.int .i64 0) ∧ ∃ A', Going s d a N st0 (st.lay k B) A' ∧ Own E w' (A' ++ R) := by
  subst hB
  have hv := hA.vlen k
  refine (gWrite_ok E w X R A s d a N st0 st k 0 t hk (by rw [row_len] at hl; omega) hA hN hO).mono ?_
  rintro e w' ⟨rfl, A', hA', hO'⟩
  have h1 : st.put k 0 t.data.toList = st.lay k t.data.toList := by
    unfold SSt.put SSt.lay
    rw [putB_full _ _ hv hl]
  rw [h1] at hA'
  exact ⟨rfl, A', hA', hO'⟩
def HWriteP (E : World) (s d a N h root : Nat) (st0 st : SSt) (k next : Nat) (l : List Slot) (S R : Fr) (e : Ending) (w' : World) : Prop :=
  ∃ A', e = .returned (.tuple #[]) ∧ Going s d a N st0 (st.lay k (pageB next l)) A' ∧ Own E w' (heapF h a root ++ (A' ++ (S ++ R)))
theorem sl_bytes {E w : World} {X R A : Fr} {e : TypeId} {sa : Option Addr} {n c : Nat} {l : List UInt8} (h : Sl e 1 sa n c (bytesV l) A) (hO : Own E w X) [hp : Pick X A R] : ∀ b, sa = some b → ∀ j v, (bytesV l)[j]? = some v → w.cell? (b.add j) = some v := by
  intro b hb j v hj
  obtain ⟨hlt, hv⟩ := List.getElem?_eq_some_iff.1 hj
  rw [h.cell hO b hb j hlt, hv]
theorem sl_nn {e : TypeId} {sa : Option Addr} {n c : Nat} {xs : List Value} {A : Fr} (h : Sl e 1 sa n c xs A) : sa = none → n = 0 := by
  intro hn
  rcases h.2.2.2 with ⟨_, hc, _⟩ | ⟨b, _, hb, _⟩
  · have := h.2.1; omega
  · rw [hn] at hb; cases hb
theorem zeros_bytes (m : Nat) : (Builtin.zeroCells (Value.int .u8 0).cells m).toList = bytesV (List.replicate m 0) := by
  apply List.ext_getElem
  · simp [Builtin.zeroCells, bytesV, Value.cells]
  · intro i h1 h2
    simp [Builtin.zeroCells, bytesV, Value.cells, byteV, Nat.mod_one]
set_option maxRecDepth 100000 in
set_option maxHeartbeats 16000000 in
theorem hWrite (E w : World) (X R A S : Fr) (s d a N h : Nat) (st0 st : SSt) (root k next : Nat) (l : List Slot) (sa : Option Addr) (cap : Nat) (hk : st.has k) (hpk : PgOk next l) (hS : Sl 115 2 sa l.length cap (slV l) S) (hA : Going s d a N st0 st A) (hN : N ≤ 8796000000000) (hO : Own E w X) [hp : Pick X (heapF h a root ++ (A ++ S)) R] :
    Calls Tryz.prog 96 #[.pointer (some ⟨h, 0, none⟩), .int .i64 k, .int .i64 next, .slice sa l.length cap] w (HWriteP E s d a N h root st0 st k next l S R) := by
  replace hO : Own E w (heapF h a root ++ (A ++ (S ++ R))) := by have := hO.perm hp.perm; rwa [List.append_assoc, List.append_assoc] at this
  clear hp
  generalize hpost : HWriteP E s d a N h root st0 st k next l S R = POST
  have HPOST := Lib.hid hpost
  clear hpost
  have hfit := hpk.fit
  have hpl := pageB_len hpk
  have hnx := hpk.nx
  go_enter Tryz.func96, Tryz.ntmps96
  go_wp2_with fail
  refine (hBytes E _ _ _ S sa cap next l (by omega) (by have := hpk.len; omega) hpk.ok hS hO).mono ?_
  clear hO
  rintro e w1 ⟨ra, rc, RS, rfl, hRS, hO⟩
  have HPL := Lib.hid hpl
  have hpb : pageB next l = pagP next l ++ List.replicate (512 - (pagP next l).length) 0 := rfl
  have HPB := Lib.hid hpb
  clear hpl hpb
  obtain ⟨n, hn⟩ : ∃ n, (pagP next l).length = n := ⟨_, rfl⟩
  rw [hn] at hfit hRS ⊢
  have HN := Lib.hid hn
  clear hn
  have hw1 : wrap64 (512 - (n : Int)) = ((512 - n : Nat) : Int) := by unfold wrap64; omega
  have hw2 : IntKind.i64.wrap (512 - (n : Int)) = ((512 - n : Nat) : Int) := by rw [show 512 - (n : Int) = ((512 - n : Nat) : Int) by omega]; exact wrap_u _ (by omega)
  have hnm : n + (512 - n) = 512 := by omega
  unfold heapF at hO
  ((try simp only [List.nil_append, List.append_nil] at hO); have hF := Own.cells hO; simp only [cellsOf_append, cellsOf_pt] at hF)
  go_wp2_with fail
  have hRS0 := hRS
  (try (go_wp2_with fail))
  refine region_sch (fun w' => Own E w' (pt h (.cells #[.pointer (some ⟨a, 0, none⟩), .int .i64 root] 86 (0, 0)))) (.look 0 (.look 1 (.look 2 (.look 3 (.look 4 (.look 5 (.look 6 (.look 7 (.look 8 (.act 9 (.act 10 (.act 11 .done)))))))))))) (by kernel_rfl) (by kernel_rfl) (fun _ _ d _ _ h => by cases d <;> exact h) ?_ ?_
  · exact hO.drew.as _
  replace hO := hO.drew
  generalize World.drew _ = wdr at hO ⊢
  first | (refine sch_look (o := ?_) (v := ?_) ?_ ?_ ?_ ?_; rotate_left 2; (· ((conv => lhs; whnf); try exact rfl)); (· rfl); (· intro w' hO'; (have hF' := Own.cells hO'; simp only [cellsOf_append, cellsOf_pt] at hF'); go_simp; (try exact rfl)); simp only [Act.put, List.setIfInBounds_toArray, List.set_cons_zero, List.set_cons_succ]) | (refine sch_pass (o := ?_) ?_ ?_ ?_; rotate_left; (· ((conv => lhs; whnf); try exact rfl)); (· rfl); simp only [Act.put, List.setIfInBounds_toArray, List.set_cons_zero, List.set_cons_succ]) | (refine sch_look (o := ?_) (v := .agg ?_) ?_ ?_ ?_ ?_; rotate_left 2; (· ((conv => lhs; whnf); try exact rfl)); (· rfl); (· intro w' hO'; refine run_opLoadS (b := ?_) (cs := ?_) (e := ?_) (f := ?_) hO' ?_ ?_ ?_ ?_; rotate_left 4; (· exact rfl); (· exact inferInstance); (· simp; done); (· simp; done)); simp only [Act.put, List.setIfInBounds_toArray, List.set_cons_zero, List.set_cons_succ])
  first | (refine sch_look (o := ?_) (v := ?_) ?_ ?_ ?_ ?_; rotate_left 2; (· ((conv => lhs; whnf); try exact rfl)); (· rfl); (· intro w' hO'; (have hF' := Own.cells hO'; simp only [cellsOf_append, cellsOf_pt] at hF'); go_simp; (try exact rfl)); simp only [Act.put, List.setIfInBounds_toArray, List.set_cons_zero, List.set_cons_succ]) | (refine sch_pass (o := ?_) ?_ ?_ ?_; rotate_left; (· ((conv => lhs; whnf); try exact rfl)); (· rfl); simp only [Act.put, List.setIfInBounds_toArray, List.set_cons_zero, List.set_cons_succ]) | (refine sch_look (o := ?_) (v := .agg ?_) ?_ ?_ ?_ ?_; rotate_left 2; (· ((conv => lhs; whnf); try exact rfl)); (· rfl); (· intro w' hO'; refine run_opLoadS (b := ?_) (cs := ?_) (e := ?_) (f := ?_) hO' ?_ ?_ ?_ ?_; rotate_left 4; (· exact rfl); (· exact inferInstance); (· simp; done); (· simp; done)); simp only [Act.put, List.setIfInBounds_toArray, List.set_cons_zero, List.set_cons_succ])
  first | (refine sch_look (o := ?_) (v := ?_) ?_ ?_ ?_ ?_; rotate_left 2; (· ((conv => lhs; whnf); try exact rfl)); (· rfl); (· intro w' hO'; (have hF' := Own.cells hO'; simp only [cellsOf_append, cellsOf_pt] at hF'); go_simp; (try exact rfl)); simp only [Act.put, List.setIfInBounds_toArray, List.set_cons_zero, List.set_cons_succ]) | (refine sch_pass (o := ?_) ?_ ?_ ?_; rotate_left; (· ((conv => lhs; whnf); try exact rfl)); (· rfl); simp only [Act.put, List.setIfInBounds_toArray, List.set_cons_zero, List.set_cons_succ]) | (refine sch_look (o := ?_) (v := .agg ?_) ?_ ?_ ?_ ?_; rotate_left 2; (· ((conv => lhs; whnf); try exact rfl)); (· rfl); (· intro w' hO'; refine run_opLoadS (b := ?_) (cs := ?_) (e := ?_) (f := ?_) hO' ?_ ?_ ?_ ?_; rotate_left 4; (· exact rfl); (· exact inferInstance); (· simp; done); (· simp; done)); simp only [Act.put, List.setIfInBounds_toArray, List.set_cons_zero, List.set_cons_succ])
  first | (refine sch_look (o := ?_) (v := ?_) ?_ ?_ ?_ ?_; rotate_left 2; (· ((conv => lhs; whnf); try exact rfl)); (· rfl); (· intro w' hO'; (have hF' := Own.cells hO'; simp only [cellsOf_append, cellsOf_pt] at hF'); go_simp; (try exact rfl)); simp only [Act.put, List.setIfInBounds_toArray, List.set_cons_zero, List.set_cons_succ]) | (refine sch_pass (o := ?_) ?_ ?_ ?_; rotate_left; (· ((conv => lhs; whnf); try exact rfl)); (· rfl); simp only [Act.put, List.setIfInBounds_toArray, List.set_cons_zero, List.set_cons_succ]) | (refine sch_look (o := ?_) (v := .agg ?_) ?_ ?_ ?_ ?_; rotate_left 2; (· ((conv => lhs; whnf); try exact rfl)); (· rfl); (· intro w' hO'; refine run_opLoadS (b := ?_) (cs := ?_) (e := ?_) (f := ?_) hO' ?_ ?_ ?_ ?_; rotate_left 4; (· exact rfl); (· exact inferInstance); (· simp; done); (· simp; done)); simp only [Act.put, List.setIfInBounds_toArray, List.set_cons_zero, List.set_cons_succ])
  first | (refine sch_look (o := ?_) (v := ?_) ?_ ?_ ?_ ?_; rotate_left 2; (· ((conv => lhs; whnf); try exact rfl)); (· rfl); (· intro w' hO'; (have hF' := Own.cells hO'; simp only [cellsOf_append, cellsOf_pt] at hF'); go_simp; (try exact rfl)); simp only [Act.put, List.setIfInBounds_toArray, List.set_cons_zero, List.set_cons_succ]) | (refine sch_pass (o := ?_) ?_ ?_ ?_; rotate_left; (· ((conv => lhs; whnf); try exact rfl)); (· rfl); simp only [Act.put, List.setIfInBounds_toArray, List.set_cons_zero, List.set_cons_succ]) | (refine sch_look (o := ?_) (v := .agg ?_) ?_ ?_ ?_ ?_; rotate_left 2; (· ((conv => lhs; whnf); try exact rfl)); (· rfl); (· intro w' hO'; refine run_opLoadS (b := ?_) (cs := ?_) (e := ?_) (f := ?_) hO' ?_ ?_ ?_ ?_; rotate_left 4; (· exact rfl); (· exact inferInstance); (· simp; done); (· simp; done)); simp only [Act.put, List.setIfInBounds_toArray, List.set_cons_zero, List.set_cons_succ])
  first | (refine sch_look (o := ?_) (v := ?_) ?_ ?_ ?_ ?_; rotate_left 2; (· ((conv => lhs; whnf); try exact rfl)); (· rfl); (· intro w' hO'; (have hF' := Own.cells hO'; simp only [cellsOf_append, cellsOf_pt] at hF'); go_simp; (try exact rfl)); simp only [Act.put, List.setIfInBounds_toArray, List.set_cons_zero, List.set_cons_succ]) | (refine sch_pass (o := ?_) ?_ ?_ ?_; rotate_left; (· ((conv => lhs; whnf); try exact rfl)); (· rfl); simp only [Act.put, List.setIfInBounds_toArray, List.set_cons_zero, List.set_cons_succ]) | (refine sch_look (o := ?_) (v := .agg ?_) ?_ ?_ ?_ ?_; rotate_left 2; (· ((conv => lhs; whnf); try exact rfl)); (· rfl); (· intro w' hO'; refine run_opLoadS (b := ?_) (cs := ?_) (e := ?_) (f := ?_) hO' ?_ ?_ ?_ ?_; rotate_left 4; (· exact rfl); (· exact inferInstance); (· simp; done); (· simp; done)); simp only [Act.put, List.setIfInBounds_toArray, List.set_cons_zero, List.set_cons_succ])
  first | (refine sch_look (o := ?_) (v := ?_) ?_ ?_ ?_ ?_; rotate_left 2; (· ((conv => lhs; whnf); try exact rfl)); (· rfl); (· intro w' hO'; (have hF' := Own.cells hO'; simp only [cellsOf_append, cellsOf_pt] at hF'); go_simp; (try exact rfl)); simp only [Act.put, List.setIfInBounds_toArray, List.set_cons_zero, List.set_cons_succ]) | (refine sch_pass (o := ?_) ?_ ?_ ?_; rotate_left; (· ((conv => lhs; whnf); try exact rfl)); (· rfl); simp only [Act.put, List.setIfInBounds_toArray, List.set_cons_zero, List.set_cons_succ]) | (refine sch_look (o := ?_) (v := .agg ?_) ?_ ?_ ?_ ?_; rotate_left 2; (· ((conv => lhs; whnf); try exact rfl)); (· rfl); (· intro w' hO'; refine run_opLoadS (b := ?_) (cs := ?_) (e := ?_) (f := ?_) hO' ?_ ?_ ?_ ?_; rotate_left 4; (· exact rfl); (· exact inferInstance); (· simp; done); (· simp; done)); simp only [Act.put, List.setIfInBounds_toArray, List.set_cons_zero, List.set_cons_succ])
  first | (refine sch_look (o := ?_) (v := ?_) ?_ ?_ ?_ ?_; rotate_left 2; (· ((conv => lhs; whnf); try exact rfl)); (· rfl); (· intro w' hO'; (have hF' := Own.cells hO'; simp only [cellsOf_append, cellsOf_pt] at hF'); go_simp; (try exact rfl)); simp only [Act.put, List.setIfInBounds_toArray, List.set_cons_zero, List.set_cons_succ]) | (refine sch_pass (o := ?_) ?_ ?_ ?_; rotate_left; (· ((conv => lhs; whnf); try exact rfl)); (· rfl); simp only [Act.put, List.setIfInBounds_toArray, List.set_cons_zero, List.set_cons_succ]) | (refine sch_look (o := ?_) (v := .agg ?_) ?_ ?_ ?_ ?_; rotate_left 2; (· ((conv => lhs; whnf); try exact rfl)); (· rfl); (· intro w' hO'; refine run_opLoadS (b := ?_) (cs := ?_) (e := ?_) (f := ?_) hO' ?_ ?_ ?_ ?_; rotate_left 4; (· exact rfl); (· exact inferInstance); (· simp; done); (· simp; done)); simp only [Act.put, List.setIfInBounds_toArray, List.set_cons_zero, List.set_cons_succ])
  first | (refine sch_look (o := ?_) (v := ?_) ?_ ?_ ?_ ?_; rotate_left 2; (· ((conv => lhs; whnf); try exact rfl)); (· rfl); (· intro w' hO'; (have hF' := Own.cells hO'; simp only [cellsOf_append, cellsOf_pt] at hF'); go_simp; (try exact rfl)); simp only [Act.put, List.setIfInBounds_toArray, List.set_cons_zero, List.set_cons_succ]) | (refine sch_pass (o := ?_) ?_ ?_ ?_; rotate_left; (· ((conv => lhs; whnf); try exact rfl)); (· rfl); simp only [Act.put, List.setIfInBounds_toArray, List.set_cons_zero, List.set_cons_succ]) | (refine sch_look (o := ?_) (v := .agg ?_) ?_ ?_ ?_ ?_; rotate_left 2; (· ((conv => lhs; whnf); try exact rfl)); (· rfl); (· intro w' hO'; refine run_opLoadS (b := ?_) (cs := ?_) (e := ?_) (f := ?_) hO' ?_ ?_ ?_ ?_; rotate_left 4; (· exact rfl); (· exact inferInstance); (· simp; done); (· simp; done)); simp only [Act.put, List.setIfInBounds_toArray, List.set_cons_zero, List.set_cons_succ])
  (refine sch_act (o := ?_) ?_ ?_; rotate_left; (· ((conv => lhs; whnf); try exact rfl)))
  go_wp2_with (first | (refine at_append ?_; go_must (refine own_append_zeros (sz := 1) (bytes := 1) (z := .int .u8 0) (e := 5) (xi := ((512 - n : Nat) : Int)) (m := 512 - n) sltBytes (by kernel_rfl) hO ?_ ?_ ?_ rfl hRS0 ?_ ?_ ?_ ?_ ?_; (· rfl); (· rfl); (· rfl); (· intro u hu; simp [Value.cells] at hu; subst hu; rfl); (· simp only [maxLen]; omega); (· decide); (· omega); clear hO; (try clear hF); intro ra2 rc2 RS2 w5 hRS2 hO; ((try simp only [List.nil_append, List.append_nil] at hO); have hF := Own.cells hO; simp only [cellsOf_append, cellsOf_pt] at hF); simp only [Act.put, List.setIfInBounds_toArray, List.set_cons_zero, List.set_cons_succ])))
  refine ⟨hO.as _, ?_⟩
  rw [zeros_bytes, ← bytesV_append, hnm] at hRS2
  (try rw [hnm])
  (refine sch_act (o := ?_) ?_ ?_; rotate_left; (· ((conv => lhs; whnf); try exact rfl)))
  go_wp2_with (first | (refine at_conv ?_; go_must (refine own_bytes_str (e := 5) (ad := ra2) (n := 512) (cap := rc2) (l := pagP next l ++ List.replicate (512 - n) 0) (by kernel_rfl) (by kernel_rfl) (by kernel_rfl) ?_ ?_ ?_ ?_ ?_ ?_; (· rfl); (· rfl); (· have := hRS2.len; rw [bytesV_length] at this; omega); (· exact sl_bytes hRS2 hO); (· exact sl_nn hRS2); simp only [Act.put, List.setIfInBounds_toArray, List.set_cons_zero, List.set_cons_succ])))
  refine ⟨hO.as _, ?_⟩
  (refine sch_act (o := ?_) ?_ ?_; rotate_left; (· ((conv => lhs; whnf); try exact rfl)))
  go_wp2_with fail
  refine (gLay E _ _ _ A s d a N st0 st k _ (pageB next l) (by rw [HPB.out, HN.out]) hk HPL.out hA hN hO).mono ?_
  clear hO hA
  (try clear hF)
  rintro e w7 ⟨rfl, A, hA, hO⟩
  go_wp2_with fail
  refine ⟨hO.as _, ?_⟩
  refine sch_done ?_
  go_wp2_with fail
  go_end0
  rw [← HPOST.out]
  exact ⟨A, rfl, hA, by unfold heapF; exact hO.as _⟩
end Go.Proofs.YtkfkcloefgfkaaaGreat

/- Heap: each. -/
namespace Go.Proofs.YtkfkcloefgfkaaaGreat
open Go Go.RowKit Go.Own Go.Dk

/-- The pages of a heap, from page F on. -/
def HCh (st : SSt) : Nat → List (Nat × List Slot) → Prop
  | F, [] => F = 0
  | F, x :: r => F = x.1 ∧ x.1 ≠ 0 ∧ st.has x.1 ∧ ∃ q, st.v x.1 = pageB q x.2 ∧ PgOk q x.2 ∧ HCh st q r
def nxt (hs : List (Nat × List Slot)) (j : Nat) : Nat := (hs[j]?.map (·.1)).getD 0
theorem hch_at {st : SSt} : ∀ {F : Nat} {hs : List (Nat × List Slot)}, HCh st F hs → F = nxt hs 0 ∧ ∀ j (h : j < hs.length), hs[j].1 ≠ 0 ∧ st.has (hs[j].1 : Nat) ∧ st.v hs[j].1 = pageB (nxt hs (j + 1)) hs[j].2 ∧ PgOk (nxt hs (j + 1)) hs[j].2
  | F, [], h => ⟨h, fun j hj => absurd hj (by simp)⟩
  | F, x :: r, ⟨h1, h2, h3, q, h4, h5, h6⟩ => by
    obtain ⟨i1, i2⟩ := hch_at h6
    refine ⟨h1, fun j hj => ?_⟩
    cases j with
    | zero =>
      have e : nxt (x :: r) (0 + 1) = q := i1.symm
      rw [e]
      exact ⟨h2, h3, h4, h5⟩
    | succ j => exact i2 j (by simpa using hj)
theorem hch_of {st : SSt} : ∀ {hs : List (Nat × List Slot)}, (∀ j (h : j < hs.length), hs[j].1 ≠ 0 ∧ st.has (hs[j].1 : Nat) ∧ st.v hs[j].1 = pageB (nxt hs (j + 1)) hs[j].2 ∧ PgOk (nxt hs (j + 1)) hs[j].2) → HCh st (nxt hs 0) hs
  | [], _ => rfl
  | x :: r, h => by
    obtain ⟨h1, h2, h3, h4⟩ := h 0 (by simp)
    exact ⟨rfl, h1, h2, _, h3, h4, hch_of fun j hj => h (j + 1) (by simpa using hj)⟩
def EachP (E : World) (s d a N h root : Nat) (st0 st : SSt) (hs : List (Nat × List Slot)) (I Fin : Nat → Fr → Prop) (R : Fr) (e : Ending) (w' : World) : Prop :=
  e = .returned (.tuple #[]) ∧ ((∃ A Z, I hs.length Z ∧ Going s d a N st0 st A ∧ Own E w' (heapF h a root ++ (A ++ (Z ++ R)))) ∨ ∃ j Q, j < hs.length ∧ Fin j Q ∧ Own E w' (heapF h a root ++ (Q ++ R)))
set_option maxRecDepth 100000 in
set_option maxHeartbeats 16000000 in
theorem hEach (E w : World) (X R A Z : Fr) (s d a N h : Nat) (st0 st : SSt) (root : Nat) (hr : root < 16) (hs : List (Nat × List Slot)) (hch : HCh st (st.rt root) hs) (hl : hs.length ≤ 4096) (g : FuncId) (lb : Array Value) (eg : ∀ args w, (callFunc g args).run Tryz.prog w = .ok (.enter g args) w) (I Fin : Nat → Fr → Prop) (hZ : I 0 Z)
    (step : ∀ (j : Nat) (hj : j < hs.length) (w : World) (A Z S : Fr) (sa : Option Addr) (cap : Nat), I j Z → Going s d a N st0 st A → Sl 115 2 sa hs[j].2.length cap (slV hs[j].2) S → Own E w (heapF h a root ++ (A ++ (Z ++ (S ++ R)))) →
      Calls Tryz.prog g (#[.int .i64 hs[j].1, .int .i64 (nxt hs (j + 1)), .slice sa hs[j].2.length cap] ++ lb) w fun e w' => (e = .returned (.bool true) ∧ ∃ A' Z', I (j + 1) Z' ∧ Going s d a N st0 st A' ∧ Own E w' (heapF h a root ++ (A' ++ (Z' ++ R)))) ∨ (e = .returned (.bool false) ∧ ∃ Q, Fin j Q ∧ Own E w' (heapF h a root ++ (Q ++ R))))
    (hA : Going s d a N st0 st A) (hN : N ≤ 8796000000000) (hO : Own E w X) [hp : Pick X (heapF h a root ++ (A ++ Z)) R] :
    Calls Tryz.prog 66 #[.pointer (some ⟨h, 0, none⟩), .func (.func g) #[] lb] w (EachP E s d a N h root st0 st hs I Fin R) := by
  replace hO : Own E w (heapF h a root ++ (A ++ (Z ++ R))) := by have := hO.perm hp.perm; rwa [List.append_assoc, List.append_assoc] at this
  clear hp
  generalize hpost : EachP E s d a N h root st0 st hs I Fin R = POST
  have HPOST := Lib.hid hpost
  clear hpost
  obtain ⟨hF, hat⟩ := hch_at hch
  go_enter Tryz.func66, Tryz.ntmps66
  go_wp2_with fail
  refine (hFirst E _ _ _ A s d a N h st0 st root hr hA hN hO).mono ?_
  rw [hF]
  clear hO hA
  rintro e w1 ⟨rfl, A, hA, hO⟩
  go_wp2_with fail
  have hO1 := hO
  have HAT := Lib.hid hat
  have STEP := Lib.hid step
  clear hO hat step hF hch
  go_loopg [4] hs.length (fun gg s4 wr => ∃ (j : Nat) (A Z : Fr), s4 = .int .i64 (nxt hs j) ∧ j ≤ hs.length ∧ hs.length - j ≤ gg ∧ I j Z ∧ Going s d a N st0 st A ∧ Own E wr (heapF h a root ++ (A ++ (Z ++ R))))
  case atStart => exact ⟨0, A, Z, rfl, Nat.zero_le _, Nat.le_refl _, hZ, hA, hO1⟩
  case round =>
    clear hO1 hA hZ
    obtain ⟨j, A, Z, rfl, hj, hg, hZ, hA, hO⟩ := hrel
    by_cases hlt : j < hs.length
    · obtain ⟨h1, h2, h3, h4⟩ := HAT.out j hlt
      have hnj : nxt hs j = hs[j].1 := by unfold nxt; rw [List.getElem?_eq_getElem hlt]; rfl
      have hstep := STEP.out j hlt
      rw [hnj]
      generalize hs[j].1 = k at h1 h2 h3 hnj hstep
      generalize hs[j].2 = l at h3 h4 hstep
      have hk0 : ¬ (k : Int) = 0 := by omega
      have HST := Lib.hid hstep
      have HLT := Lib.hid hlt
      have HG := Lib.hid hg
      clear hstep hlt hnj hg
      go_wp2_with fail
      refine (hRead E _ _ _ A s d a N h st0 st root k (nxt hs (j + 1)) l h2 h3 h4 hA hN hO).mono ?_
      clear hO hA
      rintro e w2 ⟨sa, cap, S, A, rfl, hS, hA, hO⟩
      have hcall := HST.out w2 A Z S sa cap hZ hA hS (hO.as _)
      clear hO hA hZ
      go_wp2_with (go_at_fn g; refine hcall.mono ?_; rintro e w3 (⟨rfl, A, Z, hZ, hA, hO⟩ | ⟨rfl, Q, hQ, hO⟩))
      · go_roundg (hs.length - (j + 1))
        case measure => have := HLT.out; have := HG.out; omega
        case rel => exact ⟨j + 1, A, Z, rfl, HLT.out, Nat.le_refl _, hZ, hA, hO⟩
      · go_end0
        rw [← HPOST.out]
        exact ⟨rfl, .inr ⟨j, Q, HLT.out, hQ, hO⟩⟩
    · obtain rfl : j = hs.length := Nat.le_antisymm hj (Nat.le_of_not_lt hlt)
      have hn0 : nxt hs hs.length = 0 := by unfold nxt; rw [List.getElem?_eq_none (Nat.le_refl _)]; rfl
      rw [hn0]
      clear hn0 hj hg hlt
      go_wp2_with fail
      go_end0
      rw [← HPOST.out]
      exact ⟨rfl, .inl ⟨A, Z, hZ, hA, hO⟩⟩
end Go.Proofs.YtkfkcloefgfkaaaGreat
