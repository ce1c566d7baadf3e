/- The statement SorterMerges. -/
import Derived.Test.YtnfclieaendgeaaSrt7
import Derived.Test.YtnfclieaendgeaaStrss
import Derived.Test.YtnfclieaendgeaaOpens
import Derived.ProofKit
import Derived.OpenShut
import Derived.ShutString
import Derived.ChangeOld
import Derived.Carry
set_option linter.all false
namespace Go.Proofs.Ytnfclieaendgeaa.lawSorterMerges
open Go.ChangeShapes Go.WideShapes Go.ChangeAt Go.RowKit Go.Own Go.Deep
open Go.ChangeMaps (open_string shut_string)

theorem own : ownKnob Try.prog.godebug = none := by kernel_rfl
theorem laidOut : laidOutB Try.prog = true := by kernel_rfl

set_option maxRecDepth 100000 in
set_option maxHeartbeats 4000000 in
theorem lifted (os : Os) (started : os.Started) (H : Type) (enc : TypeId × Value → H) :
    ReturnsInHanded {} Try.checked os 3 .any (Rows.sorterMergesSpec.pre6 enc Try.prog Try.f3 Rows.sorterMergesRow.domain false) (Rows.sorterMergesSpec.post enc Try.prog Try.f3 false true false false) := by
  refine returnsInHanded_of_change_sized (C := Try.checked) own started (by kernel_rfl) Try.func3
    (ChangeSpec.witness6 (enc := enc) (C := Try.checked) false ⟨#[], #[.slice none 0 0], []⟩ 8 (by kernel_rfl) (by kernel_rfl) (by kernel_rfl) (by kernel_rfl)) ?_
  intro W base args ds gs before hval0 hW hcnd hsz _
  have hval : ∀ (j : Nat) t v, Try.f3.params[j]? = some t → args[j]? = some v → Value.okWide Try.prog W .any base t v := hval0
  have hreach : (DataW.weightsEach Try.prog (Try.f3.params.toList ++ Rows.sorterMergesSpec.plain.varTypes Try.prog) (ds ++ gs)).all (· ≤ reachBytes) = true := hsz
  have hW' := hW
  obtain ⟨p, q, hA0, hV, rfl, hfz, hnd⟩ := hW
  have hA : DataW.TrodAll enc Try.prog W 0 (fun _ => true) true Try.f3.params.toList args.toList ds p := hA0
  rw [Try.params3] at hA hval hreach
  obtain ⟨v0, vs0, d0, ds0, p0, q0, hargs, rfl, rfl, h0, r0⟩ := trodAll_cons hA
  obtain ⟨rfl, rfl, rfl⟩ := trodAll_nil r0
  obtain rfl : args = #[v0] := by obtain ⟨l⟩ := args; simpa using hargs
  obtain ⟨rfl, rfl⟩ := trodVars_none hV
  have k0 := h0
  obtain ⟨s0, sn0, sc0, rfl⟩ := okWide_slice Try.underlying22 (hval 0 22 v0 rfl rfl)
  obtain ⟨fuel0, hf0⟩ := h0
  obtain ⟨sa0, st0, L0, hv0, hL0, hOk0, hx0⟩ := open_strss Try.underlying22 Try.underlying23 Try.underlying9 (by kernel_rfl) (by kernel_rfl) hf0
  simp only [Value.slice.injEq] at hv0
  obtain ⟨rfl, rfl, rfl⟩ := hv0
  have hlen0 : L0.length ≤ 5864062014805 ∧ ∀ r ∈ L0, r.l.length ≤ 8796093022208 := by
    have hr := reachBytes_lt
    have hb : Try.prog.bytesOf 23 = 24 := by kernel_rfl
    have hb2 : Try.prog.bytesOf 9 = 16 := by kernel_rfl
    rcases hx0 with hx | ⟨es, sp, hx, he, hin⟩
    · refine ⟨by omega, fun r hr => ?_⟩
      have h0 : L0 = [] := List.eq_nil_of_length_eq_zero hx
      rw [h0] at hr
      cases hr
    · have := sized_slice hreach (j := 0) (t := 22) (e := 23) (elems := es) (spare := sp) rfl (by simpa using hx) Try.underlying22
      rw [hb, he] at this
      refine ⟨by omega, fun r hr => ?_⟩
      rcases hin r hr with h0 | ⟨es', sp', hm, hl⟩
      · omega
      · have := sized_inner hreach (j := 0) (t := 22) (e := 23) (s := 9) (elems := es) (spare := sp) rfl (by simpa using hx) Try.underlying22 Try.underlying23 hm
        rw [hb2, hl] at this
        omega
  have hlt0 : ∀ x ∈ p0, x.block < W.heap.size := fun x hx => by simpa using hW'.lt x (by simp [hx])
  clear hA0 hval0
  refine (lawMerges W W _ _ (Own.oldFr W) s0 L0 sc0 hL0 hOk0 hlen0.1 hlen0.2 (Own.Own.old W)).mono fun e W' ⟨he, hO⟩ => ?_
  subst he
  have bel := (show Own.Own W W' (Own.oldFr W) from by simpa using hO).below
  exact ⟨_, rfl, _, _, _, [], _, [], hW', trodAll_mk1 (shut_bool Try.underlying4 _), (trodAll_cons_mk (Below.trod laidOut (by kernel_rfl) (of_decide_eq_true (by kernel_rfl)) k0 bel hlt0) trodAll_mk0), rfl, bel.frame _, fun h => by cases h⟩

theorem over : Rows.sorterMergesRow.holds Try.pinned (OpenSpec.ofChange Rows.sorterMergesSpec) :=
  OpenClaim.holds_of_wide 3 Try.f3 rfl rfl rfl rfl rfl rfl rfl ⟨rfl, rfl, rfl, rfl, rfl⟩ rfl rfl rfl rfl rfl (by kernel_rfl) Try.func3 (by kernel_rfl)
    (of_decide_eq_true (by kernel_rfl)) (by unfold Func.isWrapper; first | (rw [if_pos (by decide +kernel)]; kernel_rfl) | (rw [if_neg (by decide +kernel)]; exact ⟨rfl, rfl⟩))
    (fun os started H enc _ => lifted os started H enc)

theorem proved : Rows.SorterMergesSaid := over
#print axioms proved
end Go.Proofs.Ytnfclieaendgeaa.lawSorterMerges
