/- Arguments of vestibulelaw04: the calls. -/
import Derived.Test.YtkkeplobomncgaaPoolM
import Derived.Test.YtkkeplobomncgaaOpens
set_option linter.all false
namespace Go.Proofs.Ytkkeplobomncgaa
open Go.ChangeShapes Go.WideShapes Go.RowKit Go.Own Go.Deep

structure OpP where
  k : Int
  p : Int
  a : Int
  t : ByteArray
def OpP.cells (o : OpP) : List Value := [.int .i64 o.k, .int .i64 o.p, .int .i64 o.a, .string o.t]
instance : Inhabited OpP := ⟨⟨0, 0, 0, .empty⟩⟩
/-- The calls as they came in. -/
def OpsAt4 (E : World) (sa : Option Addr) (L : List OpP) : Prop :=
  ∀ i (h : i < L.length), ∃ ad, sa = some ad ∧ RowAt E (ad.add (i * 4)) (L[i]).cells ∧ (L[i]).t.size ≤ maxLen

theorem ops4At {H : Type} {enc : TypeId × Value → H} {W : World} {spare : Nat → Bool} {v : Value} {fuel : Nat} {x : DataW H × List MemPlace} (h : DataW.trod enc Try.prog W 0 spare true fuel 77 [v] = some x) :
    ∃ sa sc L, v = .slice sa (List.length L) sc ∧ OpsAt4 W sa L ∧ (List.length L = 0 ∨ ∃ es sp, x.1 = .slice es sp ∧ es.length = List.length L) := by
  obtain ⟨sa, len, cap, rfl, _, _, _, hx, hr⟩ := open_rows (P := Try.prog) Try.underlying77 Try.underlying84 (by kernel_rfl) (by kernel_rfl) h
  have : ∀ i, i < len → ∃ o : OpP, ∃ ad, sa = some ad ∧ RowAt W (ad.add (i * 4)) o.cells ∧ o.t.size ≤ maxLen := by
    intro i hi
    obtain ⟨ad, vs, rfl, hvl, hrow, n, hf⟩ := hr i hi
    obtain ⟨u0, y0, e0, t0⟩ := hf 0 _ rfl
    obtain ⟨u1, y1, e1, t1⟩ := hf 1 _ rfl
    obtain ⟨u2, y2, e2, t2⟩ := hf 2 _ rfl
    obtain ⟨u3, y3, e3, t3⟩ := hf 3 _ rfl
    obtain ⟨k0, c0, _, _⟩ := DataW.trod_int Try.underlying3 t0
    obtain ⟨k1, c1, _, _⟩ := DataW.trod_int Try.underlying3 t1
    obtain ⟨k2, c2, _, _⟩ := DataW.trod_int Try.underlying3 t2
    obtain ⟨s3, c3, _, hs3⟩ := DataW.trod_string Try.underlying9 t3
    match vs, hvl with
    | [_, _, _, _], _ =>
      simp at e0 e1 e2 e3 c0 c1 c2 c3
      subst e0 e1 e2 e3 c0 c1 c2 c3
      exact ⟨⟨k0, k1, k2, s3⟩, ad, rfl, hrow, hs3⟩
  obtain ⟨L, hL, hp⟩ := exists_list this
  subst hL
  exact ⟨sa, cap, L, rfl, hp, hx⟩
end Go.Proofs.Ytkkeplobomncgaa
