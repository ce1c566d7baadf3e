/- The log: Open. -/
import Derived.Test.YtkkeplobomncgaaLog3
import Derived.Laws.IdiomStrings
set_option linter.all false
namespace Go.Own
open Go Go.RowKit
theorem own_str_bytes {P : Program} {ops : Array Oper} {Q : Exit → Act → World → Prop} {rest : List Oper} {a : Act} {E w : World} {X : Fr} {d : Option Tmp} {ty : TypeId} {pos : String} {aft : Array Edge} {g : Option (Nat × Bool)} {src dst e : TypeId} {x : Operand} {s : ByteArray}
    (hs : P.underlying src = some .string) (hd : P.underlying dst = some (.slice e)) (he : P.underlying e = some (.int .u8)) (hO : Own E w X) (hm : s.size ≤ maxLen)
    (hw : Region.wanted ⟨d, .convert src dst x, ty, pos, aft, g⟩ (yielded ops a.tmps) = true) (hx : a.eval x = .string s)
    (next : ∀ b cap tl f w1, s.size ≤ cap → cap ≤ maxLen → Own E w1 (pt b (.cells (bytesV s.data.toList ++ tl).toArray e f) ++ X) → wpList P ops Q rest (a.put d (.slice (some ⟨b, 0, none⟩) s.size cap)) w1) :
    wpList P ops Q (⟨d, .convert src dst x, ty, pos, aft, g⟩ :: rest) a w := by
  have hrow : bytesRow s (grownCap w s.size 0 e) = (bytesV s.data.toList ++ List.replicate (grownCap w s.size 0 e - s.size) (Value.int .u8 0)).toArray := by
    rw [bytesRow, bytes_cells]
    simp
  have hO1 := (hO.drew).alloc (.cells (bytesRow s (grownCap w s.size 0 e)) e ((bytesRow s (grownCap w s.size 0 e)).size, (bytesRow s (grownCap w s.size 0 e)).size + 1))
  refine wpList_run_value hw ?_ (next _ (grownCap w s.size 0 e) (List.replicate (grownCap w s.size 0 e - s.size) (Value.int .u8 0)) _ _ (grownCap_ge w s.size 0 e) (grownCap_le_maxLen w s.size 0 e hm) (by rw [← hrow]; exact hO1))
  have := run_bytes_of_string (P := P) w src dst e s hs hd he
  simp only [execOp, hx, this]
  simp [this]
end Go.Own
namespace Go.Dk
open Go.Own Go.RowKit
theorem hd4_val4 {l : List UInt8} (h : 4 ≤ l.length) : hd4 (val4 l) = l.take 4 := by
  match l, h with
  | a :: b :: c :: d :: r, _ =>
    have ha := a.toNat_lt
    have hb := b.toNat_lt
    have hc := c.toNat_lt
    have hd := d.toNat_lt
    simp only [hd4, val4, List.take_succ_cons, List.take_zero]
    congr 1
    · apply UInt8.toNat_inj.1; simp only [UInt8.toNat_ofNat']; omega
    congr 1
    · apply UInt8.toNat_inj.1; simp only [UInt8.toNat_ofNat']; omega
    congr 1
    · apply UInt8.toNat_inj.1; simp only [UInt8.toNat_ofNat']; omega
    congr 1
    · apply UInt8.toNat_inj.1; simp only [UInt8.toNat_ofNat']; omega
theorem val4_lt (l : List UInt8) : val4 l < 4294967296 := by
  match l with
  | a :: b :: c :: d :: r =>
    have ha := a.toNat_lt
    have hb := b.toNat_lt
    have hc := c.toNat_lt
    have hd := d.toNat_lt
    simp only [val4]; omega
  | [] | [_] | [_, _] | [_, _, _] => simp [val4]

/-- The number that the first i bytes spell. -/
def pre (l : List UInt8) (i : Nat) : Nat := (l.take i).foldl (fun n b => n * 256 + b.toNat) 0
theorem pre_0 (l : List UInt8) : pre l 0 = 0 := by simp [pre]
theorem pre_succ (l : List UInt8) (i : Nat) (h : i < l.length) : pre l (i + 1) = pre l i * 256 + (l[i]).toNat := by
  rw [pre, List.take_succ_eq_append_getElem h, List.foldl_append]
  rfl
theorem pre_4 (l : List UInt8) (h : 4 ≤ l.length) : pre l 4 = val4 l := by
  match l, h with
  | a :: b :: c :: d :: r, _ => simp [pre, val4]
theorem pre_lt (l : List UInt8) : ∀ i, i ≤ l.length → pre l i < 256 ^ i
  | 0, _ => by simp [pre_0]
  | i + 1, h => by
    have h1 := pre_lt l i (by omega)
    have h2 := (l[i]).toNat_lt
    rw [pre_succ l i (by omega), Nat.pow_succ]
    omega

/-- The record that stands first, and what is behind it. -/
theorem rec_of {l : List UInt8} (h4 : 4 ≤ l.length) (hn : val4 l ≤ l.length - 4) : (⟨((l.drop 4).take (val4 l)).toArray⟩ : ByteArray).size = val4 l ∧ l.take (4 + val4 l) = encR ⟨((l.drop 4).take (val4 l)).toArray⟩ := by
  have hs : (⟨((l.drop 4).take (val4 l)).toArray⟩ : ByteArray).size = val4 l := by
    simp [ByteArray.size]
    omega
  refine ⟨hs, ?_⟩
  rw [encR, hs, hd4_val4 h4, List.take_add]
end Go.Dk
