/- The statement MethodHalves. (printed by wip/glue9.py) -/
import Derived.Test.YticclennllklpaaDoorK12
import Derived.Test.YticclennllklpaaDoorCards
import Derived.Test.YticclennllklpaaDoorTie
import Derived.SevenTiedAt
import Derived.ShutString
import Derived.ChangeOld
import Derived.Carry
set_option linter.all false
/- The statement MethodHalves. (printed by wip/glue9.py) -/
namespace Go.Proofs.YticclennllklpaaDoor.lawMethodHalves
open Go Go.ChangeShapes Go.WideShapes Go.ChangeAt Go.RowKit Go.Own Go.Deep Go.Dt Go.Proofs.YticclennllklpaaDoor.glue9

set_option maxRecDepth 100000 in
set_option maxHeartbeats 4000000 in
theorem lifted (os : Os) (started : os.Started) (H : Type) (enc : TypeId × Value → H) :
    ReturnsInHanded {} Tryd.checked os 7 .any (fun w args => (Rows.methodHalvesSpec.pre enc Tryd.prog Tryd.f7 Rows.methodHalvesRow.domain false w args ∧ laidMetH Tryd.prog Rows.methodHalvesRow.laid w) ∧ sizedMet enc Tryd.prog Tryd.f7 (OpenSpec.ofChange Rows.methodHalvesSpec) false w args)
      (Rows.methodHalvesSpec.post enc Tryd.prog Tryd.f7 false true false false) := by
  refine handed_sh (C := Tryd.checked) (X := fun w _ => laidMetH Tryd.prog Rows.methodHalvesRow.laid w) own started (by kernel_rfl) Tryd.func7
    (ChangeSpec.witness_shaped (enc := enc) (C := Tryd.checked) (os := os) (X := fun w _ => laidMetH Tryd.prog Rows.methodHalvesRow.laid w) false (World.laidAll Tryd.prog os Rows.methodTurnsRow.laid) #[.slice none 0 0, .agg #[.int .i64 0, .int .i64 0, .string ⟨#[]⟩, .slice none 0 0]] 8 (World.laidAll_os _ _ _)
      (shaped os _) (by kernel_rfl) (by kernel_rfl) (by kernel_rfl) (laid_met os _)) ?_
  intro W base args ds gs before hsh hval0 hW hcnd hsz
  have hval : ∀ (j : Nat) t v, Tryd.f7.params[j]? = some t → args[j]? = some v → Value.okWide Tryd.prog W .any base t v := hval0
  have hreach : (DataW.weightsEach Tryd.prog (Tryd.f7.params.toList ++ Rows.methodHalvesSpec.plain.varTypes Tryd.prog) (ds ++ gs)).all (· ≤ reachBytes) = true := hsz
  have hW' := hW
  obtain ⟨p, q, hA0, hV, rfl, hfz, hnd⟩ := hW
  have hA : DataW.TrodAll enc Tryd.prog W 0 (fun _ => true) true Tryd.f7.params.toList args.toList ds p := hA0
  rw [Tryd.params7] at hA hval hreach
  obtain ⟨v0, vs0, d0d, ds0, p0, q0, hargs0, rfl, rfl, h0, r0⟩ := trodAll_cons hA
  obtain ⟨v1, vs1, d1d, ds1, p1, q1, hargs1, rfl, rfl, h1, r1⟩ := trodAll_cons r0
  obtain ⟨rfl, rfl, rfl⟩ := trodAll_nil r1
  subst hargs1
  obtain rfl : args = #[v0, v1] := by obtain ⟨l⟩ := args; simpa using hargs0
  obtain ⟨rfl, rfl⟩ := trodVars_none hV
  have k0 := h0
  obtain ⟨sb0, sn0, sd0, rfl⟩ := okWide_slice Tryd.underlying50 (hval 0 50 v0 rfl rfl)
  obtain ⟨fuel0, hf0⟩ := h0
  obtain ⟨sa0, sc0, l0, hv0, hlc0, hI0, hw0, hx0⟩ := openOps hf0
  simp only [Value.slice.injEq] at hv0
  obtain ⟨rfl, rfl, rfl⟩ := hv0
  have hlen0 : l0.length ≤ 1954687338268 := by
    rcases hx0 with hx | ⟨es, sp, hx, he⟩
    · omega
    · have := sized_slice hreach (j := 0) (t := 50) (e := 96) (elems := es) (spare := sp) rfl (by simpa using hx) Tryd.underlying50
      have hb : Tryd.prog.bytesOf 96 = 72 := by kernel_rfl
      have hr := reachBytes_lt
      rw [hb, he] at this
      omega
  have hlt0 : ∀ x ∈ p0, x.block < W.heap.size := fun x hx => by simpa using hW'.lt x (by simp [hx])
  have k1 := h1
  obtain ⟨cs1, rfl, _⟩ := okWide_struct Tryd.underlying30 (hval 1 30 v1 rfl rfl)
  obtain ⟨fuel1, hf1⟩ := h1
  obtain ⟨d1, da1, dc1, hc1, hw1, hlc1, hI1⟩ := openDat hf1
  obtain rfl : cs1 = #[.int .i64 d1.k, .int .i64 d1.n, .string d1.s, .slice da1 d1.l.length dc1] := Array.toList_inj.1 hc1
  have hlt1 : ∀ x ∈ p1, x.block < W.heap.size := fun x hx => by simpa using hW'.lt x (by simp [hx])
  clear hA0 hval0
  have hO0 : Own.Own W W (Own.oldFr W ++ []) := by rw [List.append_nil]; exact Own.Own.old W
  refine (methodHalves W W (Own.oldFr W ++ []) [] (Own.oldFr W) sb0 sd0 l0 hI0 hw0 (by omega) d1 da1 dc1 hw1 hI1 (maxL_old hsh) hO0).mono fun e W' ⟨he, hO⟩ => ?_
  subst he
  have bel := (show Own.Own W W' (Own.oldFr W) from by simpa using hO).below
  exact ⟨_, rfl, _, _, _, [], _, [], hW', trodAll_mk1 (shut_bool Tryd.underlying4 _), (trodAll_cons_mk (Below.trod laidOut (by kernel_rfl) (of_decide_eq_true (by kernel_rfl)) k0 bel hlt0) (trodAll_cons_mk (Below.trod laidOut (by kernel_rfl) (of_decide_eq_true (by kernel_rfl)) k1 bel hlt1) trodAll_mk0)), rfl, bel.frame _, fun h => by cases h⟩

theorem over : Rows.MethodHalvesSaid :=
  OpenClaim.holds_of_wide 7 Tryd.f7 rfl rfl rfl rfl rfl rfl rfl ⟨rfl, rfl, rfl, rfl, rfl⟩ rfl rfl rfl rfl rfl (by kernel_rfl) Tryd.func7 (by kernel_rfl)
    (of_decide_eq_true (by kernel_rfl)) (by unfold Func.isWrapper; first | (rw [if_pos (by decide +kernel)]; kernel_rfl) | (rw [if_neg (by decide +kernel)]; exact ⟨rfl, rfl⟩))
    (fun os started H enc _ => lifted os started H enc)

theorem proved : Rows.MethodHalvesCardSaid :=
  Claim7.holds_tied_plain_at .later [] [.data, .pinned] true (true, "3ff3a3056649b89675f90d34c4f6a25e447e974a34056d675bd6f45bd65bed18") true over (fun _ h => by cases h) (by kernel_rfl) (fun _ h => by cases h) methodHalves_row_tie rfl ⟨rfl, rfl⟩ (by kernel_rfl) rfl
    (fun f fn hf hfn => by
      obtain rfl : f = 7 := Option.some.inj ((show Tryd.prog.funcNamed "vestibule/vestibulelaw09.MethodHalves" = some 7 by kernel_rfl).symm.trans hf) |>.symm
      obtain rfl : fn = Tryd.f7 := (Option.some.inj (Tryd.func7.symm.trans hfn)).symm
      exact ⟨by kernel_rfl, fun j t ht => by
        rw [Tryd.params7] at ht
        have hm : t ∈ [50, 30] := by simpa using Array.mem_of_getElem? ht
        have hall : ([50, 30].all fun u => !Tryd.prog.wantsStandIn u) = true := by kernel_rfl
        exact (show Tryd.prog.wantsStandIn t = false by simpa using List.all_eq_true.1 hall t hm)⟩)
    (by kernel_rfl)
#print axioms proved
end Go.Proofs.YticclennllklpaaDoor.lawMethodHalves
