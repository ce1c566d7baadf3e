/- vestibulelaw08: SorterParts. -/
import Derived.Test.YtnfclieaendgeaaSrt8
set_option linter.all false
namespace Go.Proofs.Ytnfclieaendgeaa
open Go Go.RowKit Go.Own Go.Hp

set_option maxRecDepth 100000 in
set_option maxHeartbeats 16000000 in
theorem lawParts (E w : World) (X R I : Fr) (sa sb sc : Option Addr) (la lb lc : List ByteArray) (ca cb cc : Nat) (hTa : TxtIn E I sa la) (hTb : TxtIn E I sb lb) (hTc : TxtIn E I sc lc) (hna : la.length ≤ 8796093022208) (hnb : lb.length ≤ 8796093022208) (hnc : lc.length ≤ 8796093022208) (hO : Own E w X) [hp : Pick X I R] :
    Calls Try.prog 4 #[.slice sa la.length ca, .slice sb lb.length cb, .slice sc lc.length cc] w fun e w' => e = .returned (.bool true) ∧ Own E w' (I ++ R) := by
  replace hO := hO.perm hp.perm
  clear hp
  by_cases hl : la.length ≤ 2000 ∧ lb.length ≤ 2000 ∧ lc.length ≤ 2000
  · obtain ⟨hl1, hl2, hl3⟩ := hl
    have hm1 : (la.length : Int) ≤ 2000 := by omega
    have hm2 : (lb.length : Int) ≤ 2000 := by omega
    have hm3 : (lc.length : Int) ≤ 2000 := by omega
    go_enter Try.func4, Try.ntmps4
    go_wp2_with fail
    refine (sSortedF E _ _ _ I sa la ca hTa (by omega) hO).mono ?_
    clear hO
    rintro e w1 ⟨xa, xc, x, XF, rfl, hX, hXr, hXp, hO⟩
    go_wp2_with fail
    refine (sSortedF E _ _ _ I sb lb cb hTb (by omega) hO).mono ?_
    clear hO
    rintro e w2 ⟨ya, yc, y, YF, rfl, hY, hYr, hYp, hO⟩
    go_wp2_with fail
    refine (sSortedF E _ _ _ I sc lc cc hTc (by omega) hO).mono ?_
    clear hO
    rintro e w3 ⟨za, zc, z, ZF, rfl, hZ, hZr, hZp, hO⟩
    replace hO := hO.as (XF ++ (YF ++ (ZF ++ (I ++ R))))
    have hxl : x.length ≤ 2000 := by rw [hXp.length_eq]; exact hl1
    have hyl : y.length ≤ 2000 := by rw [hYp.length_eq]; exact hl2
    have hzl : z.length ≤ 2000 := by rw [hZp.length_eq]; exact hl3
    clear hXp hYp hZp hl1 hl2 hl3
    have hxr : RoOk E XF ⟨xa, xc, x⟩ := ro_sl hX
    have hyr : RoOk E YF ⟨ya, yc, y⟩ := ro_sl hY
    have hzr : RoOk E ZF ⟨za, zc, z⟩ := ro_sl hZ
    clear hX hY hZ
    go_wp2_with (first | (refine at_bs ?_; (refine own_buildN (cells := ?_) sltStrss hO ?_ ?_ ?_ ?_ ?_ ?_; rotate_left; (· rfl); (· decide); (· decide); (· rfl); (· simp [Instr.fill, Act.eval, Value.cells, Array.replicate_succ]; exact rfl); clear hO; (try clear hF); intro b1 _ hO; ((try simp only [List.nil_append, List.append_nil] at hO); have hF := Own.cells hO; simp only [cellsOf_append, cellsOf_pt] at hF); simp only [Act.put, List.setIfInBounds_toArray, List.set_cons_zero, List.set_cons_succ])))
    have hSb1 : Sl 23 1 (some ⟨b1, 0, none⟩) 2 2 ([(⟨xa, xc, x⟩ : RO), ⟨ya, yc, y⟩].map roV) (pt b1 (.cells #[.slice xa x.length xc, .slice ya y.length yc] 23 (0, 0))) := Sl.mk (rest := []) rfl (by decide) (by decide) rfl
    generalize pt b1 (.cells #[.slice xa x.length xc, .slice ya y.length yc] 23 (0, 0)) = Pb1 at hSb1 hO
    clear hF
    have hOkb1 : ∀ r ∈ [(⟨xa, xc, x⟩ : RO), ⟨ya, yc, y⟩], RoOk E (Pb1 ++ (XF ++ YF)) r ∧ Rise r.l := by
      intro r hr
      simp only [List.mem_cons, List.not_mem_nil, or_false] at hr
      rcases hr with rfl | rfl
      · exact ⟨hxr.more fun w hO => hO.as _, hXr⟩
      · exact ⟨hyr.more fun w hO => hO.as _, hYr⟩
    refine (sMerge E _ _ _ (Pb1 ++ (XF ++ YF)) (some ⟨b1, 0, none⟩) [(⟨xa, xc, x⟩ : RO), ⟨ya, yc, y⟩] 2 ((rows_sl hSb1).more fun w hO => hO.as _) (fun r hr => (hOkb1 r hr).1) (by simp) (by simp; omega) hO).mono ?_
    clear hO
    rintro e wb1 (⟨-, pa, pc, p, PF, rfl, hP, hPr, hPc, hO⟩ | ⟨h, _⟩)
    rotate_left
    · exact absurd (fun r hr => (hOkb1 r hr).2) h
    clear hOkb1
    have hpr : RoOk E PF ⟨pa, pc, p⟩ := ro_sl hP
    have hpl : p.length ≤ 4000 := by
      rw [(List.perm_iff_count.2 hPc).length_eq]
      simp
      omega
    replace hO := hO.as (PF ++ (XF ++ (YF ++ (ZF ++ (I ++ R)))))
    go_wp2_with (first | (refine at_bs ?_; (refine own_buildN (cells := ?_) sltStrss hO ?_ ?_ ?_ ?_ ?_ ?_; rotate_left; (· rfl); (· decide); (· decide); (· rfl); (· simp [Instr.fill, Act.eval, Value.cells, Array.replicate_succ]; exact rfl); clear hO; (try clear hF); intro b2 _ hO; ((try simp only [List.nil_append, List.append_nil] at hO); have hF := Own.cells hO; simp only [cellsOf_append, cellsOf_pt] at hF); simp only [Act.put, List.setIfInBounds_toArray, List.set_cons_zero, List.set_cons_succ])))
    have hSb2 : Sl 23 1 (some ⟨b2, 0, none⟩) 2 2 ([(⟨pa, pc, p⟩ : RO), ⟨za, zc, z⟩].map roV) (pt b2 (.cells #[.slice pa p.length pc, .slice za z.length zc] 23 (0, 0))) := Sl.mk (rest := []) rfl (by decide) (by decide) rfl
    generalize pt b2 (.cells #[.slice pa p.length pc, .slice za z.length zc] 23 (0, 0)) = Pb2 at hSb2 hO
    clear hF
    have hOkb2 : ∀ r ∈ [(⟨pa, pc, p⟩ : RO), ⟨za, zc, z⟩], RoOk E (Pb2 ++ (PF ++ ZF)) r ∧ Rise r.l := by
      intro r hr
      simp only [List.mem_cons, List.not_mem_nil, or_false] at hr
      rcases hr with rfl | rfl
      · exact ⟨hpr.more fun w hO => hO.as _, hPr⟩
      · exact ⟨hzr.more fun w hO => hO.as _, hZr⟩
    refine (sMerge E _ _ _ (Pb2 ++ (PF ++ ZF)) (some ⟨b2, 0, none⟩) [(⟨pa, pc, p⟩ : RO), ⟨za, zc, z⟩] 2 ((rows_sl hSb2).more fun w hO => hO.as _) (fun r hr => (hOkb2 r hr).1) (by simp) (by simp; omega) hO).mono ?_
    clear hO
    rintro e wb2 (⟨-, qa, qc, q, QF, rfl, hQ, hQr, hQc, hO⟩ | ⟨h, _⟩)
    rotate_left
    · exact absurd (fun r hr => (hOkb2 r hr).2) h
    clear hOkb2
    have hqr : RoOk E QF ⟨qa, qc, q⟩ := ro_sl hQ
    have hql : q.length ≤ 6000 := by
      rw [(List.perm_iff_count.2 hQc).length_eq]
      simp
      omega
    replace hO := hO.as (QF ++ (XF ++ (YF ++ (ZF ++ (I ++ R)))))
    go_wp2_with (first | (refine at_bs ?_; (refine own_buildN (cells := ?_) sltStrss hO ?_ ?_ ?_ ?_ ?_ ?_; rotate_left; (· rfl); (· decide); (· decide); (· rfl); (· simp [Instr.fill, Act.eval, Value.cells, Array.replicate_succ]; exact rfl); clear hO; (try clear hF); intro b3 _ hO; ((try simp only [List.nil_append, List.append_nil] at hO); have hF := Own.cells hO; simp only [cellsOf_append, cellsOf_pt] at hF); simp only [Act.put, List.setIfInBounds_toArray, List.set_cons_zero, List.set_cons_succ])))
    have hSb3 : Sl 23 1 (some ⟨b3, 0, none⟩) 3 3 ([(⟨xa, xc, x⟩ : RO), ⟨ya, yc, y⟩, ⟨za, zc, z⟩].map roV) (pt b3 (.cells #[.slice xa x.length xc, .slice ya y.length yc, .slice za z.length zc] 23 (0, 0))) := Sl.mk (rest := []) rfl (by decide) (by decide) rfl
    generalize pt b3 (.cells #[.slice xa x.length xc, .slice ya y.length yc, .slice za z.length zc] 23 (0, 0)) = Pb3 at hSb3 hO
    clear hF
    have hOkb3 : ∀ r ∈ [(⟨xa, xc, x⟩ : RO), ⟨ya, yc, y⟩, ⟨za, zc, z⟩], RoOk E (Pb3 ++ (XF ++ (YF ++ ZF))) r ∧ Rise r.l := by
      intro r hr
      simp only [List.mem_cons, List.not_mem_nil, or_false] at hr
      rcases hr with rfl | rfl | rfl
      · exact ⟨hxr.more fun w hO => hO.as _, hXr⟩
      · exact ⟨hyr.more fun w hO => hO.as _, hYr⟩
      · exact ⟨hzr.more fun w hO => hO.as _, hZr⟩
    refine (sMerge E _ _ _ (Pb3 ++ (XF ++ (YF ++ ZF))) (some ⟨b3, 0, none⟩) [(⟨xa, xc, x⟩ : RO), ⟨ya, yc, y⟩, ⟨za, zc, z⟩] 3 ((rows_sl hSb3).more fun w hO => hO.as _) (fun r hr => (hOkb3 r hr).1) (by simp) (by simp; omega) hO).mono ?_
    clear hO
    rintro e wb3 (⟨-, ua, uc, u, UF, rfl, hU, hUr, hUc, hO⟩ | ⟨h, _⟩)
    rotate_left
    · exact absurd (fun r hr => (hOkb3 r hr).2) h
    clear hOkb3
    have hur : RoOk E UF ⟨ua, uc, u⟩ := ro_sl hU
    have hul : u.length ≤ 6000 := by
      rw [(List.perm_iff_count.2 hUc).length_eq]
      simp
      omega
    replace hO := hO.as (QF ++ (UF ++ (I ++ R)))
    have HQU := Lib.hid (rise_uniq hQr hUr fun s => by
      rw [hQc s, hUc s]
      have := hPc s
      simp at this ⊢
      omega : q = u)
    clear hQc hUc hPc hQr hUr hPr
    go_wp2_with (first
      | (go_at_call 18; go_must (refine (sSame E _ _ _ (QF ++ UF) qa ua q u qc uc ((txt_sl hQ).more fun w hO => hO.as _) ((txt_sl hU).more fun w hO => hO.as _) (by omega) hO).mono ?_; clear hO; rintro e w4 ⟨rfl, hO⟩; rw [decide_eq_true HQU.out]))
      | (go_at_call 16; go_must (refine (awake8 E _ _ hO).mono ?_; clear hO; rintro e w4 ⟨rfl, hO⟩)))
    go_ret
    exact ⟨rfl, hO.as _⟩
  · go_enter Try.func4, Try.ntmps4
    have h1 : (2000 < (la.length : Int)) ∨ (2000 < (lb.length : Int)) ∨ (2000 < (lc.length : Int)) := by omega
    by_cases h2 : la.length ≤ 2000
    · have h2i : (la.length : Int) ≤ 2000 := by omega
      by_cases h3 : lb.length ≤ 2000
      · have h3i : (lb.length : Int) ≤ 2000 := by omega
        have h4i : ¬ (lc.length : Int) ≤ 2000 := by omega
        clear h1 hl
        go_wp2_with (first | (go_at_call 16; go_must (refine (awake8 E _ _ hO).mono ?_; clear hO; rintro e w4 ⟨rfl, hO⟩)))
        go_ret
        exact ⟨rfl, hO.as _⟩
      · have h3i : ¬ (lb.length : Int) ≤ 2000 := by omega
        clear h1 hl
        go_wp2_with (first | (go_at_call 16; go_must (refine (awake8 E _ _ hO).mono ?_; clear hO; rintro e w4 ⟨rfl, hO⟩)))
        go_ret
        exact ⟨rfl, hO.as _⟩
    · have h2i : ¬ (la.length : Int) ≤ 2000 := by omega
      clear h1 hl
      go_wp2_with (first | (go_at_call 16; go_must (refine (awake8 E _ _ hO).mono ?_; clear hO; rintro e w4 ⟨rfl, hO⟩)))
      go_ret
      exact ⟨rfl, hO.as _⟩
end Go.Proofs.Ytnfclieaendgeaa
