/- The sorter by what it took. -/
import Derived.Test.YtnfclieaendgeaaSrt7
import Derived.Test.YtnfclieaendgeaaStrs
set_option linter.all false
namespace Go.Proofs.Ytnfclieaendgeaa
open Go Go.RowKit Go.Own Go.Hp

/-- A sorter that took the texts L. -/
structure SInv (E : World) (b room : Nat) (L : List ByteArray) (A : Fr) : Prop where
  ex : ∃ hand rs, SSt E b room hand rs A ∧ hand.length < room ∧ (hand ++ (rs.map RO.l).flatten).Perm L ∧ L.length = rs.length * room + hand.length
  lo : 1 ≤ room
  hi : room ≤ 65536
def AddIP (E : World) (R : Fr) (b room : Nat) (L : List ByteArray) (x : ByteArray) (e : Ending) (w' : World) : Prop :=
  e = .returned (.int .i64 0) ∧ ∃ A', SInv E b room (L ++ [x]) A' ∧ Own E w' (A' ++ R)
def runsOf (n room : Nat) : Nat := n / room + if n % room = 0 then 0 else 1

theorem le_mulr {a b : Nat} (h : 1 ≤ b) : a ≤ a * b := Nat.le_mul_of_pos_right _ h

theorem sAddI (E w : World) (X R A : Fr) (b room : Nat) (L : List ByteArray) (x : ByteArray) (hA : SInv E b room L A) (hn : L.length ≤ 1048575) (hO : Own E w X) [hp : Pick X A R] :
    Calls Try.prog 34 #[.pointer (some ⟨b, 0, none⟩), .string x] w (AddIP E R b room L x) := by
  obtain ⟨⟨hand, rs, hS, hlt, hP, hL⟩, h1, h2⟩ := hA
  have hm : rs.length ≤ rs.length * room := le_mulr h1
  refine (sAdd E w X R A b room hand rs x hS h1 h2 hlt (by omega) hO).mono ?_
  rintro e w' ⟨rfl, hand', rs', A', hS', hO', hc⟩
  refine ⟨rfl, A', ⟨⟨hand', rs', hS', ?_, ?_, ?_⟩, h1, h2⟩, hO'⟩
  · rcases hc with ⟨h, rfl, rfl⟩ | ⟨h, rfl, _⟩
    · simp; omega
    · simp; omega
  · rcases hc with ⟨h, rfl, rfl⟩ | ⟨h, rfl, r, rfl, hr⟩
    · rw [List.append_assoc]
      refine (List.Perm.append_left hand List.perm_append_comm).trans ?_
      rw [← List.append_assoc]
      exact List.Perm.append_right [x] hP
    · rw [List.nil_append, List.map_append, List.flatten_append]
      refine List.perm_append_comm.trans ?_
      simp only [List.map_cons, List.map_nil, List.flatten_cons, List.flatten_nil, List.append_nil]
      refine (List.Perm.append_right _ hr).trans ?_
      rw [List.append_assoc]
      refine (List.Perm.append_left hand List.perm_append_comm).trans ?_
      rw [← List.append_assoc]
      exact List.Perm.append_right [x] hP
  · rcases hc with ⟨h, rfl, rfl⟩ | ⟨h, rfl, r, rfl, hr⟩
    · simp; omega
    · simp only [List.length_append, List.length_cons, List.length_nil, Nat.add_mul]
      omega

theorem sRunsI (E w : World) (X R A : Fr) (b room : Nat) (L : List ByteArray) (hA : SInv E b room L A) (hn : L.length ≤ 1048575) (hO : Own E w X) [hp : Pick X A R] :
    Calls Try.prog 36 #[.pointer (some ⟨b, 0, none⟩)] w fun e w' => e = .returned (.int .i64 ((runsOf L.length room : Nat) : Int)) ∧ w = w' := by
  obtain ⟨⟨hand, rs, hS, hlt, hP, hL⟩, h1, h2⟩ := hA
  have hm : rs.length ≤ rs.length * room := le_mulr h1
  refine (sRuns E w X R A b room hand rs hS (by omega) (by omega) hO).mono ?_
  rintro e w' ⟨rfl, rfl⟩
  have hd : L.length / room = rs.length := by
    rw [hL, Nat.mul_comm, Nat.mul_add_div (by omega), Nat.div_eq_of_lt hlt, Nat.add_zero]
  have hmo : L.length % room = hand.length := by
    rw [hL, Nat.mul_comm, Nat.mul_add_mod, Nat.mod_eq_of_lt hlt]
  refine ⟨?_, rfl⟩
  unfold runsOf
  rw [hd, hmo]
  by_cases h0 : hand = []
  · rw [if_pos h0, if_pos (by rw [h0]; rfl), Nat.add_zero]
  · rw [if_neg h0, if_neg (fun h => h0 (List.eq_nil_of_length_eq_zero h))]

theorem sSortedI (E w : World) (X R A : Fr) (b room : Nat) (L : List ByteArray) (hA : SInv E b room L A) (hn : L.length ≤ 1048575) (hO : Own E w X) [hp : Pick X A R] :
    Calls Try.prog 35 #[.pointer (some ⟨b, 0, none⟩)] w (SortedP E R b L) := by
  obtain ⟨⟨hand, rs, hS, hlt, hP, hL⟩, h1, h2⟩ := hA
  have hm : rs.length ≤ rs.length * room := le_mulr h1
  refine (sSorted E w X R A b room hand rs hS h1 h2 (by omega) (by omega) (by rw [hP.length_eq]; omega) hO).mono ?_
  rintro e w' ⟨oa, ocap, out, O, A', rfl, h3, h4, h5, h6, h7⟩
  exact ⟨oa, ocap, out, O, A', rfl, h3, h4, h5.trans hP, h6, h7⟩
theorem SInv.new {E : World} {b room : Nat} {A : Fr} (h : SSt E b room [] [] A) (h1 : 1 ≤ room) (h2 : room ≤ 65536) : SInv E b room [] A :=
  ⟨⟨[], [], h, by simp; omega, .refl _, by simp⟩, h1, h2⟩
theorem txt_new {E : World} {sa : Option Addr} {L : List ByteArray} (h : StrsAt E sa L) : TxtIn E (oldFr E) sa L := by
  intro w hO i hi
  obtain ⟨ad, h1, _⟩ := h i hi
  subst h1
  exact ⟨ad, rfl, h.cell hO i hi⟩
theorem TxtIn.ex {E w : World} {I : Fr} {sa : Option Addr} {l : List ByteArray} (hT : TxtIn E I sa l) (hO : Own E w I) (i : Nat) (hi : i < l.length) :
    ∃ ad, sa = some ad ∧ ∀ w', Own E w' I → w'.cell? (ad.add i) = some (.string l[i]) := by
  obtain ⟨ad, rfl, -⟩ := hT w hO i hi
  exact ⟨ad, rfl, fun w' hO' => by
    obtain ⟨_, h1, h2⟩ := hT w' hO' i hi
    cases h1
    exact h2⟩
theorem and_mask (a M : Int) (m : Nat) (hM : M = (m : Int)) (hm : m < 4294967296) : ∃ n : Nat, n ≤ m ∧ bits .and .i64 a M = (n : Int) := by
  subst hM
  have hb : (BitVec.ofInt 64 (m : Int)).toNat = m := by
    rw [BitVec.ofInt_natCast, BitVec.toNat_ofNat]
    exact Nat.mod_eq_of_lt (by omega)
  refine ⟨(BitVec.ofInt 64 a).toNat &&& m, Nat.and_le_right, ?_⟩
  have hle : (BitVec.ofInt 64 a).toNat &&& m ≤ m := Nat.and_le_right
  have e : (BitVec.ofInt 64 a &&& BitVec.ofInt 64 (m : Int)).toNat = (BitVec.ofInt 64 a).toNat &&& m := by rw [BitVec.toNat_and, hb]
  show IntKind.i64.wrap (((BitVec.ofInt 64 a &&& BitVec.ofInt 64 (m : Int)).toNat : Nat) : Int) = _
  rw [e]
  exact wrap_n _ (Nat.le_trans hle (by omega))
end Go.Proofs.Ytnfclieaendgeaa
