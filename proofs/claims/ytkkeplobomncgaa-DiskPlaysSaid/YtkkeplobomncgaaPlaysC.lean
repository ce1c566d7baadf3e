/- The statement DiskPlays. -/
import Derived.Test.YtkkeplobomncgaaLaw2d
import Derived.Test.YtkkeplobomncgaaOpens
import Derived.ProofKit
import Derived.OpenShut
import Derived.ShutString
import Derived.ChangeOld
import Derived.Carry
namespace Go.Proofs.Ytkkeplobomncgaa.lawDiskPlays
open Go.ChangeShapes Go.WideShapes Go.ChangeAt Go.RowKit Go.Own Go.Deep
open Go.ChangeMaps (open_string shut_string)

theorem own : ownKnob Try.prog.godebug = none := by kernel_rfl
theorem laidOut : laidOutB Try.prog = true := by kernel_rfl

/-- The operations as they came in. -/
theorem opsAt {H : Type} {enc : TypeId × Value → H} {W : World} {spare : Nat → Bool} {v : Value} {fuel : Nat} {x : DataW H × List MemPlace} (h : DataW.trod enc Try.prog W 0 spare true fuel 22 [v] = some x) :
    ∃ sa sc L, v = .slice sa (List.length L) sc ∧ OpsAt W sa L ∧ (List.length L = 0 ∨ ∃ es sp, x.1 = .slice es sp ∧ es.length = List.length L) := by
  obtain ⟨sa, len, cap, rfl, _, _, _, hx, hr⟩ := open_rows (P := Try.prog) Try.underlying22 Try.underlying31 (by kernel_rfl) (by kernel_rfl) h
  have : ∀ i, i < len → ∃ o : OpT, ∃ ad, sa = some ad ∧ RowAt W (ad.add (i * 4)) o.cells ∧ o.t.size ≤ maxLen := by
    intro i hi
    obtain ⟨ad, vs, rfl, hvl, hrow, n, hf⟩ := hr i hi
    obtain ⟨u0, y0, e0, t0⟩ := hf 0 _ rfl
    obtain ⟨u1, y1, e1, t1⟩ := hf 1 _ rfl
    obtain ⟨u2, y2, e2, t2⟩ := hf 2 _ rfl
    obtain ⟨u3, y3, e3, t3⟩ := hf 3 _ rfl
    obtain ⟨k0, c0, _, _⟩ := DataW.trod_int Try.underlying3 t0
    obtain ⟨k1, c1, _, _⟩ := DataW.trod_int Try.underlying3 t1
    obtain ⟨k2, c2, _, _⟩ := DataW.trod_int Try.underlying3 t2
    obtain ⟨s3, c3, _, hs3⟩ := DataW.trod_string Try.underlying9 t3
    match vs, hvl with
    | [_, _, _, _], _ =>
      simp at e0 e1 e2 e3 c0 c1 c2 c3
      subst e0 e1 e2 e3 c0 c1 c2 c3
      exact ⟨⟨k0, k1, k2, s3⟩, ad, rfl, hrow, hs3⟩
  obtain ⟨L, hL, hp⟩ := exists_list this
  subst hL
  exact ⟨sa, cap, L, rfl, hp, hx⟩

set_option maxRecDepth 100000 in
set_option maxHeartbeats 4000000 in
theorem lifted (os : Os) (started : os.Started) (H : Type) (enc : TypeId × Value → H) :
    ReturnsInHanded {} Try.checked os 3 .any (Rows.diskPlaysSpec.pre6 enc Try.prog Try.f3 Rows.diskPlaysRow.domain false) (Rows.diskPlaysSpec.post enc Try.prog Try.f3 false true false false) := by
  refine returnsInHanded_of_change_sized (C := Try.checked) own started (by kernel_rfl) Try.func3
    (ChangeSpec.witness6 (enc := enc) (C := Try.checked) false ⟨#[], #[.slice none 0 0, .int .i64 0, .int .i64 0], []⟩ 8 (by kernel_rfl) (by kernel_rfl) (by kernel_rfl) (by kernel_rfl)) ?_
  intro W base args ds gs before hval0 hW hcnd hsz _
  have hval : ∀ (j : Nat) t v, Try.f3.params[j]? = some t → args[j]? = some v → Value.okWide Try.prog W .any base t v := hval0
  have hreach : (DataW.weightsEach Try.prog (Try.f3.params.toList ++ Rows.diskPlaysSpec.plain.varTypes Try.prog) (ds ++ gs)).all (· ≤ reachBytes) = true := hsz
  have hW' := hW
  obtain ⟨p, q, hA0, hV, rfl, hfz, hnd⟩ := hW
  have hA : DataW.TrodAll enc Try.prog W 0 (fun _ => true) true Try.f3.params.toList args.toList ds p := hA0
  rw [Try.params3] at hA hval hreach
  obtain ⟨v0, vs0, d0, ds0, p0, q0, hargs, rfl, rfl, h0, r0⟩ := trodAll_cons hA
  obtain ⟨v1, vs1, d1, ds1, p1, q1, rfl, rfl, rfl, h1, r1⟩ := trodAll_cons r0
  obtain ⟨v2, vs2, d2, ds2, p2, q2, rfl, rfl, rfl, h2, r2⟩ := trodAll_cons r1
  obtain ⟨rfl, rfl, rfl⟩ := trodAll_nil r2
  obtain rfl : args = #[v0, v1, v2] := by obtain ⟨l⟩ := args; simpa using hargs
  obtain ⟨rfl, rfl⟩ := trodVars_none hV
  obtain ⟨a1, rfl, rfl, rfl, w1⟩ := open_int Try.underlying3 (hval 1 3 v1 rfl rfl) h1
  obtain ⟨a2, rfl, rfl, rfl, w2⟩ := open_int Try.underlying3 (hval 2 3 v2 rfl rfl) h2
  have k0 := h0
  obtain ⟨s0, sc0, ln0, rfl⟩ := okWide_slice Try.underlying22 (hval 0 22 v0 rfl rfl)
  obtain ⟨fuel, hf⟩ := h0
  obtain ⟨sa, sc, L, hv, hL, hx⟩ := opsAt hf
  simp only [Value.slice.injEq] at hv
  obtain ⟨rfl, rfl, rfl⟩ := hv
  have hlen : L.length ≤ 3518437208883 := by
    rcases hx with hx | ⟨es, sp, hx, he⟩
    · omega
    · have := sized_slice hreach (j := 0) (t := 22) (e := 31) (elems := es) (spare := sp) rfl (by simpa using hx) Try.underlying22
      have hb : Try.prog.bytesOf 31 = 40 := by kernel_rfl
      have hr := reachBytes_lt
      rw [hb, he] at this
      omega
  clear hA0 hval0
  have hlt : ∀ x ∈ p0, x.block < W.heap.size := fun x hx => by simpa using hW'.lt x (by simp [hx])
  refine (diskPlays W W (Own.Own.old W) s0 ln0 L hL hlen a1 a2).mono fun e W' ⟨he, hO⟩ => ?_
  subst he
  have bel := hO.below
  exact ⟨_, rfl, _, _, _, [], _, [], hW', trodAll_mk1 (shut_bool Try.underlying4 _), (trodAll_cons_mk (Below.trod laidOut (by kernel_rfl) (of_decide_eq_true (by kernel_rfl)) k0 bel hlt) (trodAll_cons_mk (shut_int Try.underlying3 w1) (trodAll_cons_mk (shut_int Try.underlying3 w2) trodAll_mk0))), rfl, bel.frame _, fun h => by cases h⟩

theorem over : Rows.diskPlaysRow.holds Try.pinned (OpenSpec.ofChange Rows.diskPlaysSpec) :=
  OpenClaim.holds_of_wide 3 Try.f3 rfl rfl rfl rfl rfl rfl rfl ⟨rfl, rfl, rfl, rfl, rfl⟩ rfl rfl rfl rfl rfl (by kernel_rfl) Try.func3 (by kernel_rfl)
    (of_decide_eq_true (by kernel_rfl)) (by unfold Func.isWrapper; first | (rw [if_pos (by decide +kernel)]; kernel_rfl) | (rw [if_neg (by decide +kernel)]; exact ⟨rfl, rfl⟩))
    (fun os started H enc _ => lifted os started H enc)

theorem proved : Rows.DiskPlaysSaid := over
#print axioms proved
end Go.Proofs.Ytkkeplobomncgaa.lawDiskPlays
