/- The log: records on file 0 of a disk; plain laws. -/
import Derived.Test.YtkkeplobomncgaaDisk7
import Derived.Test.YtkkeplobomncgaaArm2
set_option linter.all false
namespace Go.Dk
open Go.Own Go.RowKit

/-- A length's four bytes. -/
def hd4 (n : Nat) : List UInt8 := [UInt8.ofNat (n / 16777216), UInt8.ofNat (n / 65536), UInt8.ofNat (n / 256), UInt8.ofNat n]
def encR (s : ByteArray) : List UInt8 := hd4 s.size ++ s.data.toList
def encs (l : List ByteArray) : List UInt8 := l.flatMap encR
theorem encs_nil : encs [] = [] := rfl
theorem encs_cons (s : ByteArray) (l : List ByteArray) : encs (s :: l) = encR s ++ encs l := by simp [encs]
theorem encs_snoc (l : List ByteArray) (s : ByteArray) : encs (l ++ [s]) = encs l ++ encR s := by simp [encs]
theorem encR_length (s : ByteArray) : (encR s).length = 4 + s.size := by
  rw [encR, List.length_append, Array.length_toList]
  rfl

def val4 : List UInt8 → Nat
  | a :: b :: c :: d :: _ => ((a.toNat * 256 + b.toNat) * 256 + c.toNat) * 256 + d.toNat
  | _ => 0
theorem val4_hd4 (n : Nat) (hn : n < 4294967296) (r : List UInt8) : val4 (hd4 n ++ r) = n := by
  simp only [hd4, List.cons_append, List.nil_append, val4, UInt8.toNat_ofNat']
  omega

/-- No record begins there. -/
def Stuck (l : List UInt8) : Prop := l.length < 4 ∨ val4 l = 0 ∨ l.length - 4 < val4 l
def Recs (l : List ByteArray) : Prop := ∀ s ∈ l, 0 < s.size ∧ s.size < 4294967296

theorem encs_uniq : ∀ {a b : List ByteArray} {r : List UInt8}, Recs a → Recs b → encs a = encs b ++ r → Stuck r → a = b ∧ r = []
  | [], [], r, _, _, h, _ => ⟨rfl, by simpa [encs_nil] using h.symm⟩
  | s :: a, [], r, ha, _, h, hs => by
    exfalso
    rw [encs_nil, List.nil_append, encs_cons] at h
    have h1 := ha s (by simp)
    have hv : val4 r = s.size := by rw [← h, encR, List.append_assoc]; exact val4_hd4 _ h1.2 _
    have hl : r.length = 4 + s.size + (encs a).length := by rw [← h, List.length_append, encR_length]
    rcases hs with hs | hs | hs <;> omega
  | [], s :: b, r, _, hb, h, _ => by
    have := congrArg List.length h
    rw [encs_nil, encs_cons, List.length_append, List.length_append, encR_length] at this
    simp at this
    omega
  | t :: a, s :: b, r, ha, hb, h, hs => by
    rw [encs_cons, encs_cons, List.append_assoc] at h
    have h1 := ha t (by simp)
    have h2 := hb s (by simp)
    have hv : t.size = s.size := by
      have e1 := val4_hd4 t.size h1.2 (t.data.toList ++ encs a)
      have e2 := val4_hd4 s.size h2.2 (s.data.toList ++ (encs b ++ r))
      rw [← List.append_assoc] at e1 e2
      rw [← e1, ← e2]
      exact congrArg val4 h
    have hl : (encR t).length = (encR s).length := by rw [encR_length, encR_length, hv]
    obtain ⟨e1, e2⟩ := List.append_inj h hl
    have e3 : t = s := by
      rw [encR, encR, hv] at e1
      have := (List.append_inj e1 rfl).2
      exact ByteArray.ext (Array.toList_inj.1 this)
    obtain ⟨e4, e5⟩ := encs_uniq (fun x hx => ha x (by simp [hx])) (fun x hx => hb x (by simp [hx])) e2 hs
    exact ⟨by rw [e3, e4], e5⟩

theorem over_app (l s : List UInt8) : over l (l.length + 4) s = l ++ [0, 0, 0, 0] ++ s := by
  unfold over
  have h : l.length + 4 + s.length - l.length = 4 + s.length := by omega
  rw [h, List.drop_eq_nil_of_le (by simp; omega), List.append_nil, List.take_append, List.take_of_length_le (by omega)]
  have : l.length + 4 - l.length = 4 := by omega
  rw [this, List.take_replicate, Nat.min_eq_left (by omega)]
  rfl
theorem over_hd (l s : List UInt8) (h : List UInt8) (hh : h.length = 4) : over (l ++ [0, 0, 0, 0] ++ s) l.length h = l ++ h ++ s := by
  unfold over
  have e : l.length + h.length - (l ++ [0, 0, 0, 0] ++ s).length = 0 := by simp; omega
  rw [e, List.replicate_zero, List.append_nil, hh, List.append_assoc l, List.take_left, List.drop_append, List.drop_eq_nil_of_le (by omega)]
  have : l.length + 4 - l.length = 4 := by omega
  rw [this]
  rfl
end Go.Dk
