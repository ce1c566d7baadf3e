/- Layer 9: MethodRanges. (printed by wip/gen/genRS.py) -/
import Derived.Test.YticclennllklpaaDoorK10
import Derived.Test.YticclennllklpaaDoorK11
import Derived.Test.YticclennllklpaaDoorRows
import Derived.Test.YticclennllklpaaDoorK4
import Derived.ProofKit
import Derived.OpenShut
import Derived.LaidMore
import Derived.Lay
import Derived.Stop.Joined
set_option linter.all false
/- Layer 9: MethodRanges. (printed by wip/gen/genRS.py) -/
namespace Go.Proofs.YticclennllklpaaDoor
open Go Go.RowKit Go.Own Go.Dt

theorem eight_lo {E w : World} {X : Fr} {b : Nat} {e : TypeId} {f : Nat × Nat} {c0 c1 c2 c3 c4 c5 c6 c7 : Value} (hO : Own E w X) [hh : Has X b (.cells #[c0, c1, c2, c3, c4, c5, c6, c7] e f)] : ∀ j v, [c0, c1, c2, c3][j]? = some v → w.cell? ((⟨b, 0, none⟩ : Addr).add j) = some v := by
  intro j v hj
  rw [add_lit, hO.cell (b := b)]
  match j, hj with
  | 0, hj => exact hj
  | 1, hj => exact hj
  | 2, hj => exact hj
  | 3, hj => exact hj
theorem eight_hi {E w : World} {X : Fr} {b : Nat} {e : TypeId} {f : Nat × Nat} {c0 c1 c2 c3 c4 c5 c6 c7 : Value} (hO : Own E w X) [hh : Has X b (.cells #[c0, c1, c2, c3, c4, c5, c6, c7] e f)] : ∀ j v, [c4, c5, c6, c7][j]? = some v → w.cell? ((⟨b, 4, none⟩ : Addr).add j) = some v := by
  intro j v hj
  rw [add_lit, hO.cell (b := b)]
  match j, hj with
  | 0, hj => exact hj
  | 1, hj => exact hj
  | 2, hj => exact hj
  | 3, hj => exact hj
theorem LAt.of {E : World} {F J K : Fr} {so : Option Addr} {co : Nat} {os : List Oe} {S : Fr} (h : LAt E F so co os S) (hp : J.Perm (F ++ K)) : LAt E J so co os S := ⟨h.row, fun o ho => (h.its o ho).of hp⟩
theorem rgR_mem {f t : Option Dt} {b : Bool} {es : List En} {x : En} (h : x ∈ rgR f t b es) : x ∈ es := by
  unfold rgR rgL at h
  split at h
  · split at h
    · exact (List.mem_filter.1 (List.mem_reverse.1 h)).1
    · exact (List.mem_filter.1 h).1
  · cases h
theorem rgR_le (f t : Option Dt) (b : Bool) (es : List En) : (rgR f t b es).length ≤ es.length := by
  unfold rgR rgL
  split
  · split
    · rw [List.length_reverse]; exact List.length_filter_le _ _
    · exact List.length_filter_le _ _
  · exact Nat.zero_le _
set_option maxRecDepth 100000 in
set_option maxHeartbeats 16000000 in
theorem methodRanges (E w : World) (X R I : Fr) (sa : Option Addr) (ca : Nat) (L : List OpB) (hL0 : OpsAtB E I sa L) (hwf : ∀ o ∈ L, o.y.d.wf) (hll : L.length ≤ 1954687338268) (d1 d2 : Dt) (ea1 ea2 : Option Addr) (ec1 ec2 : Nat) (hw1 : d1.wf) (hw2 : d2.wf) (hI1 : ItemsAt E I ea1 d1.l) (hI2 : ItemsAt E I ea2 d2.l) (how : Int) (hG : MaxL E I) (hO : Own E w X) [hp : Pick X I R] :
    Calls Tryd.prog 6 #[.slice sa L.length ca, .agg #[.int .i64 d1.k, .int .i64 d1.n, .string d1.s, .slice ea1 d1.l.length ec1, .int .i64 d2.k, .int .i64 d2.n, .string d2.s, .slice ea2 d2.l.length ec2], .int .i64 how] w fun e w' => e = .returned (.bool true) ∧ Own E w' (I ++ R) := by
  replace hO := hO.perm hp.perm
  clear hp
  have HLL := Lib.hid hll
  clear hll
  go_enter Tryd.func6, Tryd.ntmps6
  go_wp2_with (first | (refine at_box ?_; go_must (refine own_box (v := ?_) hO ?_ ?_ ?_; rotate_left; (· rfl); (· ((conv => lhs; whnf); try exact rfl)); clear hO; (try clear hF); intro eb _ hO; (try simp only [Value.cells] at hO); ((try simp only [List.nil_append, List.append_nil] at hO); have hF := Own.cells hO; simp only [cellsOf_append, cellsOf_pt] at hF); simp only [Act.put, List.setIfInBounds_toArray, List.set_cons_zero, List.set_cons_succ])))
  refine (newPlain E _ _ hO).mono ?_
  clear hO hF
  rintro e w1 ⟨p, rfl, hO⟩
  go_wp2_with fail
  refine (all9 E _ _ hO).mono ?_
  clear hO
  rintro e w2 ⟨kb, rfl, hO⟩
  go_wp2_with fail
  refine (playsP E _ _ (pt eb (.cells #[.int .i64 d1.k, .int .i64 d1.n, .string d1.s, .slice ea1 d1.l.length ec1, .int .i64 d2.k, .int .i64 d2.n, .string d2.s, .slice ea2 d2.l.length ec2] 54 (0, 0)) ++ R) (plainF p none 0 0) (pt kb (.cells #[.int .i64 1, .int .i64 2, .int .i64 3] 3 (0, 0))) I p 0 _ 3 (sl_three (E := E) kb) sa ca L hL0 hwf (by have := HLL.out; unfold CP; omega) ⟨[], PlainAt.new E p, rfl, Nat.le_refl _⟩ hG (hO.as (plainF p none 0 0 ++ (pt kb (.cells #[.int .i64 1, .int .i64 2, .int .i64 3] 3 (0, 0)) ++ (I ++ (pt eb (.cells #[.int .i64 d1.k, .int .i64 d1.n, .string d1.s, .slice ea1 d1.l.length ec1, .int .i64 d2.k, .int .i64 d2.n, .string d2.s, .slice ea2 d2.l.length ec2] 54 (0, 0)) ++ R)))))).mono ?_
  clear hO
  rintro e w3 ⟨A, so, co, os, SL, rfl, hL, hA, hO⟩
  replace hO : Own E w3 (SL ++ (A ++ ((pt eb (.cells #[.int .i64 d1.k, .int .i64 d1.n, .string d1.s, .slice ea1 d1.l.length ec1, .int .i64 d2.k, .int .i64 d2.n, .string d2.s, .slice ea2 d2.l.length ec2] 54 (0, 0)) ++ I) ++ R))) := hO.as _
  have hLF : LAt E (pt eb (.cells #[.int .i64 d1.k, .int .i64 d1.n, .string d1.s, .slice ea1 d1.l.length ec1, .int .i64 d2.k, .int .i64 d2.n, .string d2.s, .slice ea2 d2.l.length ec2] 54 (0, 0)) ++ I) so co os SL := hL.of List.perm_append_comm
  have hGF : MaxL E (pt eb (.cells #[.int .i64 d1.k, .int .i64 d1.n, .string d1.s, .slice ea1 d1.l.length ec1, .int .i64 d2.k, .int .i64 d2.n, .string d2.s, .slice ea2 d2.l.length ec2] 54 (0, 0)) ++ I) := by
    obtain ⟨m, hm⟩ := hG
    refine ⟨m, fun Y w h => hm (pt eb (.cells #[.int .i64 d1.k, .int .i64 d1.n, .string d1.s, .slice ea1 d1.l.length ec1, .int .i64 d2.k, .int .i64 d2.n, .string d2.s, .slice ea2 d2.l.length ec2] 54 (0, 0)) ++ Y) w (h.perm ?_)⟩
    rw [List.append_assoc]
    refine (List.perm_append_comm_assoc _ _ _)
  have hB1 : BdAt E (pt eb (.cells #[.int .i64 d1.k, .int .i64 d1.n, .string d1.s, .slice ea1 d1.l.length ec1, .int .i64 d2.k, .int .i64 d2.n, .string d2.s, .slice ea2 d2.l.length ec2] 54 (0, 0)) ++ I) (.pointer (some ⟨eb, 0, none⟩)) (some d1) := .inr ⟨_, d1, ea1, ec1, rfl, rfl, hw1, hI1.of List.perm_append_comm, fun Y w h => eight_lo h (hh := inferInstance)⟩
  have hB2 : BdAt E (pt eb (.cells #[.int .i64 d1.k, .int .i64 d1.n, .string d1.s, .slice ea1 d1.l.length ec1, .int .i64 d2.k, .int .i64 d2.n, .string d2.s, .slice ea2 d2.l.length ec2] 54 (0, 0)) ++ I) (.pointer (some ⟨eb, 4, none⟩)) (some d2) := .inr ⟨_, d2, ea2, ec2, rfl, rfl, hw2, hI2.of List.perm_append_comm, fun Y w h => eight_hi h (hh := inferInstance)⟩
  have hB0 : BdAt E (pt eb (.cells #[.int .i64 d1.k, .int .i64 d1.n, .string d1.s, .slice ea1 d1.l.length ec1, .int .i64 d2.k, .int .i64 d2.n, .string d2.s, .slice ea2 d2.l.length ec2] 54 (0, 0)) ++ I) (.pointer none) none := .inl ⟨rfl, rfl⟩
  have hle := hA.le
  have hes := hA.es
  obtain ⟨hs, hPA, hhs, hhl⟩ := hA
  have HOLE := Lib.hid (show (esO os).length ≤ 2000000000000 by have := HLL.out; omega)
  have hos : os.length ≤ 2000000000000 := by have := HOLE.out; rwa [esO_len] at this
  have hhs2 : hs.length ≤ 2000000000000 := by have := HLL.out; omega
  have HOK := Lib.hid (show ∀ e ∈ esO os, e.d.ok = true from fun e he => (hes.ok e he).1)
  have HOKO := Lib.hid (show ∀ o ∈ os, o.e.d.ok = true from fun o ho => HOK.out o.e (List.mem_map.2 ⟨o, ho, rfl⟩))
  have HWFO := Lib.hid (show ∀ o ∈ os, o.e.d.wf from fun o ho => (hes.ok o.e (List.mem_map.2 ⟨o, ho, rfl⟩)).2.1)
  have HHS := Lib.hid hhs
  have HOS := Lib.hid hos
  have HHL := Lib.hid hhs2
  clear hle hes hhs hhl hos hhs2 hL
  by_cases h1 : bits .and .i64 how 1 = 0 <;> by_cases h2 : bits .and .i64 how 2 = 0
  · go_wp2_with fail
    refine (pRange E _ _ (SL ++ R) A (pt eb (.cells #[.int .i64 d1.k, .int .i64 d1.n, .string d1.s, .slice ea1 d1.l.length ec1, .int .i64 d2.k, .int .i64 d2.n, .string d2.s, .slice ea2 d2.l.length ec2] 54 (0, 0)) ++ I) p hs HHL.out hPA (.pointer (some ⟨eb, 0, none⟩)) (.pointer (some ⟨eb, 4, none⟩)) (some d1) (some d2) _ hB1 hB2 hGF (hO.as ((A ++ (pt eb (.cells #[.int .i64 d1.k, .int .i64 d1.n, .string d1.s, .slice ea1 d1.l.length ec1, .int .i64 d2.k, .int .i64 d2.n, .string d2.s, .slice ea2 d2.l.length ec2] 54 (0, 0)) ++ I)) ++ (SL ++ R)))).mono ?_
    clear hO
    rintro e w4 ⟨so1, co1, os1, SO1, rfl, hes1, hL1, hO⟩
    go_wp2_with fail
    refine (refRange E _ _ (SO1 ++ (A ++ R)) SL (pt eb (.cells #[.int .i64 d1.k, .int .i64 d1.n, .string d1.s, .slice ea1 d1.l.length ec1, .int .i64 d2.k, .int .i64 d2.n, .string d2.s, .slice ea2 d2.l.length ec2] 54 (0, 0)) ++ I) so co os HOS.out HOKO.out HWFO.out hLF (.pointer (some ⟨eb, 0, none⟩)) (.pointer (some ⟨eb, 4, none⟩)) (some d1) (some d2) _ hB1 hB2 (hO.as ((SL ++ (pt eb (.cells #[.int .i64 d1.k, .int .i64 d1.n, .string d1.s, .slice ea1 d1.l.length ec1, .int .i64 d2.k, .int .i64 d2.n, .string d2.s, .slice ea2 d2.l.length ec2] 54 (0, 0)) ++ I)) ++ (SO1 ++ (A ++ R))))).mono ?_
    clear hO
    rintro e w5 ⟨so2, co2, os2, S2, rfl, hes2, hL2, hO⟩
    rw [HHS.out, ← hes2] at hes1
    have hE1 : EntsAt E ((SO1 ++ A) ++ (S2 ++ (pt eb (.cells #[.int .i64 d1.k, .int .i64 d1.n, .string d1.s, .slice ea1 d1.l.length ec1, .int .i64 d2.k, .int .i64 d2.n, .string d2.s, .slice ea2 d2.l.length ec2] 54 (0, 0)) ++ I))) so1 (esO os2) := by rw [← hes1]; exact hL1.ents.of (.refl _)
    have hE2 : EntsAt E ((SO1 ++ A) ++ (S2 ++ (pt eb (.cells #[.int .i64 d1.k, .int .i64 d1.n, .string d1.s, .slice ea1 d1.l.length ec1, .int .i64 d2.k, .int .i64 d2.n, .string d2.s, .slice ea2 d2.l.length ec2] 54 (0, 0)) ++ I))) so2 (esO os2) := hL2.ents.of List.perm_append_comm
    have hn1 : os1.length = (esO os2).length := by rw [← hes1, esO_len]
    have hn2 : os2.length = (esO os2).length := (esO_len os2).symm
    have hok2 : ∀ e ∈ esO os2, e.d.ok = true := fun e he => HOK.out e (by rw [hes2] at he; exact rgR_mem he)
    have hle2 : (esO os2).length ≤ 4000000000000 := by have h9 := HOLE.out; have h8 := rgR_le (some d1) (some d2) (bits .and .i64 how 4 == 0) (esO os); rw [← hes2] at h8; omega
    have HN1 := Lib.hid hn1
    have HN2 := Lib.hid hn2
    have HOK2 := Lib.hid hok2
    have HLE2 := Lib.hid hle2
    clear hes1 hes2 hL1 hL2 hn1 hn2 hok2 hle2
    go_wp2_with fail
    rw [HN1.out, HN2.out]
    refine (refSameAll E _ _ (SL ++ R) ((SO1 ++ A) ++ (S2 ++ (pt eb (.cells #[.int .i64 d1.k, .int .i64 d1.n, .string d1.s, .slice ea1 d1.l.length ec1, .int .i64 d2.k, .int .i64 d2.n, .string d2.s, .slice ea2 d2.l.length ec2] 54 (0, 0)) ++ I))) so1 so2 co1 co2 (esO os2) (esO os2) HLE2.out HOK2.out HOK2.out hE1 hE2 (hO.as (((SO1 ++ A) ++ (S2 ++ (pt eb (.cells #[.int .i64 d1.k, .int .i64 d1.n, .string d1.s, .slice ea1 d1.l.length ec1, .int .i64 d2.k, .int .i64 d2.n, .string d2.s, .slice ea2 d2.l.length ec2] 54 (0, 0)) ++ I))) ++ (SL ++ R)))).mono ?_
    rw [decide_eq_true rfl]
    clear hO hE1 hE2
    rintro e w6 ⟨rfl, hO⟩
    go_wp2_with fail
    refine (awake9 E _ _ R I hG (hO.as (I ++ R))).mono ?_
    clear hO
    rintro e w8 ⟨rfl, hO⟩
    go_wp2_with fail
    go_ret
    exact ⟨rfl, hO⟩
  · have h2b : (bits .and .i64 how 2 == 0) = false := beq_eq_false_iff_ne.2 h2
    clear h2
    go_wp2_with fail
    refine (pRange E _ _ (SL ++ R) A (pt eb (.cells #[.int .i64 d1.k, .int .i64 d1.n, .string d1.s, .slice ea1 d1.l.length ec1, .int .i64 d2.k, .int .i64 d2.n, .string d2.s, .slice ea2 d2.l.length ec2] 54 (0, 0)) ++ I) p hs HHL.out hPA (.pointer (some ⟨eb, 0, none⟩)) (.pointer none) (some d1) none _ hB1 hB0 hGF (hO.as ((A ++ (pt eb (.cells #[.int .i64 d1.k, .int .i64 d1.n, .string d1.s, .slice ea1 d1.l.length ec1, .int .i64 d2.k, .int .i64 d2.n, .string d2.s, .slice ea2 d2.l.length ec2] 54 (0, 0)) ++ I)) ++ (SL ++ R)))).mono ?_
    clear hO
    rintro e w4 ⟨so1, co1, os1, SO1, rfl, hes1, hL1, hO⟩
    go_wp2_with fail
    refine (refRange E _ _ (SO1 ++ (A ++ R)) SL (pt eb (.cells #[.int .i64 d1.k, .int .i64 d1.n, .string d1.s, .slice ea1 d1.l.length ec1, .int .i64 d2.k, .int .i64 d2.n, .string d2.s, .slice ea2 d2.l.length ec2] 54 (0, 0)) ++ I) so co os HOS.out HOKO.out HWFO.out hLF (.pointer (some ⟨eb, 0, none⟩)) (.pointer none) (some d1) none _ hB1 hB0 (hO.as ((SL ++ (pt eb (.cells #[.int .i64 d1.k, .int .i64 d1.n, .string d1.s, .slice ea1 d1.l.length ec1, .int .i64 d2.k, .int .i64 d2.n, .string d2.s, .slice ea2 d2.l.length ec2] 54 (0, 0)) ++ I)) ++ (SO1 ++ (A ++ R))))).mono ?_
    clear hO
    rintro e w5 ⟨so2, co2, os2, S2, rfl, hes2, hL2, hO⟩
    rw [HHS.out, ← hes2] at hes1
    have hE1 : EntsAt E ((SO1 ++ A) ++ (S2 ++ (pt eb (.cells #[.int .i64 d1.k, .int .i64 d1.n, .string d1.s, .slice ea1 d1.l.length ec1, .int .i64 d2.k, .int .i64 d2.n, .string d2.s, .slice ea2 d2.l.length ec2] 54 (0, 0)) ++ I))) so1 (esO os2) := by rw [← hes1]; exact hL1.ents.of (.refl _)
    have hE2 : EntsAt E ((SO1 ++ A) ++ (S2 ++ (pt eb (.cells #[.int .i64 d1.k, .int .i64 d1.n, .string d1.s, .slice ea1 d1.l.length ec1, .int .i64 d2.k, .int .i64 d2.n, .string d2.s, .slice ea2 d2.l.length ec2] 54 (0, 0)) ++ I))) so2 (esO os2) := hL2.ents.of List.perm_append_comm
    have hn1 : os1.length = (esO os2).length := by rw [← hes1, esO_len]
    have hn2 : os2.length = (esO os2).length := (esO_len os2).symm
    have hok2 : ∀ e ∈ esO os2, e.d.ok = true := fun e he => HOK.out e (by rw [hes2] at he; exact rgR_mem he)
    have hle2 : (esO os2).length ≤ 4000000000000 := by have h9 := HOLE.out; have h8 := rgR_le (some d1) none (bits .and .i64 how 4 == 0) (esO os); rw [← hes2] at h8; omega
    have HN1 := Lib.hid hn1
    have HN2 := Lib.hid hn2
    have HOK2 := Lib.hid hok2
    have HLE2 := Lib.hid hle2
    clear hes1 hes2 hL1 hL2 hn1 hn2 hok2 hle2
    go_wp2_with fail
    rw [HN1.out, HN2.out]
    refine (refSameAll E _ _ (SL ++ R) ((SO1 ++ A) ++ (S2 ++ (pt eb (.cells #[.int .i64 d1.k, .int .i64 d1.n, .string d1.s, .slice ea1 d1.l.length ec1, .int .i64 d2.k, .int .i64 d2.n, .string d2.s, .slice ea2 d2.l.length ec2] 54 (0, 0)) ++ I))) so1 so2 co1 co2 (esO os2) (esO os2) HLE2.out HOK2.out HOK2.out hE1 hE2 (hO.as (((SO1 ++ A) ++ (S2 ++ (pt eb (.cells #[.int .i64 d1.k, .int .i64 d1.n, .string d1.s, .slice ea1 d1.l.length ec1, .int .i64 d2.k, .int .i64 d2.n, .string d2.s, .slice ea2 d2.l.length ec2] 54 (0, 0)) ++ I))) ++ (SL ++ R)))).mono ?_
    rw [decide_eq_true rfl]
    clear hO hE1 hE2
    rintro e w6 ⟨rfl, hO⟩
    go_wp2_with fail
    refine (awake9 E _ _ R I hG (hO.as (I ++ R))).mono ?_
    clear hO
    rintro e w8 ⟨rfl, hO⟩
    go_wp2_with fail
    go_ret
    exact ⟨rfl, hO⟩
  · have h1b : (bits .and .i64 how 1 == 0) = false := beq_eq_false_iff_ne.2 h1
    clear h1
    go_wp2_with fail
    refine (pRange E _ _ (SL ++ R) A (pt eb (.cells #[.int .i64 d1.k, .int .i64 d1.n, .string d1.s, .slice ea1 d1.l.length ec1, .int .i64 d2.k, .int .i64 d2.n, .string d2.s, .slice ea2 d2.l.length ec2] 54 (0, 0)) ++ I) p hs HHL.out hPA (.pointer none) (.pointer (some ⟨eb, 4, none⟩)) none (some d2) _ hB0 hB2 hGF (hO.as ((A ++ (pt eb (.cells #[.int .i64 d1.k, .int .i64 d1.n, .string d1.s, .slice ea1 d1.l.length ec1, .int .i64 d2.k, .int .i64 d2.n, .string d2.s, .slice ea2 d2.l.length ec2] 54 (0, 0)) ++ I)) ++ (SL ++ R)))).mono ?_
    clear hO
    rintro e w4 ⟨so1, co1, os1, SO1, rfl, hes1, hL1, hO⟩
    go_wp2_with fail
    refine (refRange E _ _ (SO1 ++ (A ++ R)) SL (pt eb (.cells #[.int .i64 d1.k, .int .i64 d1.n, .string d1.s, .slice ea1 d1.l.length ec1, .int .i64 d2.k, .int .i64 d2.n, .string d2.s, .slice ea2 d2.l.length ec2] 54 (0, 0)) ++ I) so co os HOS.out HOKO.out HWFO.out hLF (.pointer none) (.pointer (some ⟨eb, 4, none⟩)) none (some d2) _ hB0 hB2 (hO.as ((SL ++ (pt eb (.cells #[.int .i64 d1.k, .int .i64 d1.n, .string d1.s, .slice ea1 d1.l.length ec1, .int .i64 d2.k, .int .i64 d2.n, .string d2.s, .slice ea2 d2.l.length ec2] 54 (0, 0)) ++ I)) ++ (SO1 ++ (A ++ R))))).mono ?_
    clear hO
    rintro e w5 ⟨so2, co2, os2, S2, rfl, hes2, hL2, hO⟩
    rw [HHS.out, ← hes2] at hes1
    have hE1 : EntsAt E ((SO1 ++ A) ++ (S2 ++ (pt eb (.cells #[.int .i64 d1.k, .int .i64 d1.n, .string d1.s, .slice ea1 d1.l.length ec1, .int .i64 d2.k, .int .i64 d2.n, .string d2.s, .slice ea2 d2.l.length ec2] 54 (0, 0)) ++ I))) so1 (esO os2) := by rw [← hes1]; exact hL1.ents.of (.refl _)
    have hE2 : EntsAt E ((SO1 ++ A) ++ (S2 ++ (pt eb (.cells #[.int .i64 d1.k, .int .i64 d1.n, .string d1.s, .slice ea1 d1.l.length ec1, .int .i64 d2.k, .int .i64 d2.n, .string d2.s, .slice ea2 d2.l.length ec2] 54 (0, 0)) ++ I))) so2 (esO os2) := hL2.ents.of List.perm_append_comm
    have hn1 : os1.length = (esO os2).length := by rw [← hes1, esO_len]
    have hn2 : os2.length = (esO os2).length := (esO_len os2).symm
    have hok2 : ∀ e ∈ esO os2, e.d.ok = true := fun e he => HOK.out e (by rw [hes2] at he; exact rgR_mem he)
    have hle2 : (esO os2).length ≤ 4000000000000 := by have h9 := HOLE.out; have h8 := rgR_le none (some d2) (bits .and .i64 how 4 == 0) (esO os); rw [← hes2] at h8; omega
    have HN1 := Lib.hid hn1
    have HN2 := Lib.hid hn2
    have HOK2 := Lib.hid hok2
    have HLE2 := Lib.hid hle2
    clear hes1 hes2 hL1 hL2 hn1 hn2 hok2 hle2
    go_wp2_with fail
    rw [HN1.out, HN2.out]
    refine (refSameAll E _ _ (SL ++ R) ((SO1 ++ A) ++ (S2 ++ (pt eb (.cells #[.int .i64 d1.k, .int .i64 d1.n, .string d1.s, .slice ea1 d1.l.length ec1, .int .i64 d2.k, .int .i64 d2.n, .string d2.s, .slice ea2 d2.l.length ec2] 54 (0, 0)) ++ I))) so1 so2 co1 co2 (esO os2) (esO os2) HLE2.out HOK2.out HOK2.out hE1 hE2 (hO.as (((SO1 ++ A) ++ (S2 ++ (pt eb (.cells #[.int .i64 d1.k, .int .i64 d1.n, .string d1.s, .slice ea1 d1.l.length ec1, .int .i64 d2.k, .int .i64 d2.n, .string d2.s, .slice ea2 d2.l.length ec2] 54 (0, 0)) ++ I))) ++ (SL ++ R)))).mono ?_
    rw [decide_eq_true rfl]
    clear hO hE1 hE2
    rintro e w6 ⟨rfl, hO⟩
    go_wp2_with fail
    refine (awake9 E _ _ R I hG (hO.as (I ++ R))).mono ?_
    clear hO
    rintro e w8 ⟨rfl, hO⟩
    go_wp2_with fail
    go_ret
    exact ⟨rfl, hO⟩
  · have h1b : (bits .and .i64 how 1 == 0) = false := beq_eq_false_iff_ne.2 h1
    have h2b : (bits .and .i64 how 2 == 0) = false := beq_eq_false_iff_ne.2 h2
    clear h1
    clear h2
    go_wp2_with fail
    refine (pRange E _ _ (SL ++ R) A (pt eb (.cells #[.int .i64 d1.k, .int .i64 d1.n, .string d1.s, .slice ea1 d1.l.length ec1, .int .i64 d2.k, .int .i64 d2.n, .string d2.s, .slice ea2 d2.l.length ec2] 54 (0, 0)) ++ I) p hs HHL.out hPA (.pointer none) (.pointer none) none none _ hB0 hB0 hGF (hO.as ((A ++ (pt eb (.cells #[.int .i64 d1.k, .int .i64 d1.n, .string d1.s, .slice ea1 d1.l.length ec1, .int .i64 d2.k, .int .i64 d2.n, .string d2.s, .slice ea2 d2.l.length ec2] 54 (0, 0)) ++ I)) ++ (SL ++ R)))).mono ?_
    clear hO
    rintro e w4 ⟨so1, co1, os1, SO1, rfl, hes1, hL1, hO⟩
    go_wp2_with fail
    refine (refRange E _ _ (SO1 ++ (A ++ R)) SL (pt eb (.cells #[.int .i64 d1.k, .int .i64 d1.n, .string d1.s, .slice ea1 d1.l.length ec1, .int .i64 d2.k, .int .i64 d2.n, .string d2.s, .slice ea2 d2.l.length ec2] 54 (0, 0)) ++ I) so co os HOS.out HOKO.out HWFO.out hLF (.pointer none) (.pointer none) none none _ hB0 hB0 (hO.as ((SL ++ (pt eb (.cells #[.int .i64 d1.k, .int .i64 d1.n, .string d1.s, .slice ea1 d1.l.length ec1, .int .i64 d2.k, .int .i64 d2.n, .string d2.s, .slice ea2 d2.l.length ec2] 54 (0, 0)) ++ I)) ++ (SO1 ++ (A ++ R))))).mono ?_
    clear hO
    rintro e w5 ⟨so2, co2, os2, S2, rfl, hes2, hL2, hO⟩
    rw [HHS.out, ← hes2] at hes1
    have hE1 : EntsAt E ((SO1 ++ A) ++ (S2 ++ (pt eb (.cells #[.int .i64 d1.k, .int .i64 d1.n, .string d1.s, .slice ea1 d1.l.length ec1, .int .i64 d2.k, .int .i64 d2.n, .string d2.s, .slice ea2 d2.l.length ec2] 54 (0, 0)) ++ I))) so1 (esO os2) := by rw [← hes1]; exact hL1.ents.of (.refl _)
    have hE2 : EntsAt E ((SO1 ++ A) ++ (S2 ++ (pt eb (.cells #[.int .i64 d1.k, .int .i64 d1.n, .string d1.s, .slice ea1 d1.l.length ec1, .int .i64 d2.k, .int .i64 d2.n, .string d2.s, .slice ea2 d2.l.length ec2] 54 (0, 0)) ++ I))) so2 (esO os2) := hL2.ents.of List.perm_append_comm
    have hn1 : os1.length = (esO os2).length := by rw [← hes1, esO_len]
    have hn2 : os2.length = (esO os2).length := (esO_len os2).symm
    have hok2 : ∀ e ∈ esO os2, e.d.ok = true := fun e he => HOK.out e (by rw [hes2] at he; exact rgR_mem he)
    have hle2 : (esO os2).length ≤ 4000000000000 := by have h9 := HOLE.out; have h8 := rgR_le none none (bits .and .i64 how 4 == 0) (esO os); rw [← hes2] at h8; omega
    have HN1 := Lib.hid hn1
    have HN2 := Lib.hid hn2
    have HOK2 := Lib.hid hok2
    have HLE2 := Lib.hid hle2
    clear hes1 hes2 hL1 hL2 hn1 hn2 hok2 hle2
    go_wp2_with fail
    rw [HN1.out, HN2.out]
    refine (refSameAll E _ _ (SL ++ R) ((SO1 ++ A) ++ (S2 ++ (pt eb (.cells #[.int .i64 d1.k, .int .i64 d1.n, .string d1.s, .slice ea1 d1.l.length ec1, .int .i64 d2.k, .int .i64 d2.n, .string d2.s, .slice ea2 d2.l.length ec2] 54 (0, 0)) ++ I))) so1 so2 co1 co2 (esO os2) (esO os2) HLE2.out HOK2.out HOK2.out hE1 hE2 (hO.as (((SO1 ++ A) ++ (S2 ++ (pt eb (.cells #[.int .i64 d1.k, .int .i64 d1.n, .string d1.s, .slice ea1 d1.l.length ec1, .int .i64 d2.k, .int .i64 d2.n, .string d2.s, .slice ea2 d2.l.length ec2] 54 (0, 0)) ++ I))) ++ (SL ++ R)))).mono ?_
    rw [decide_eq_true rfl]
    clear hO hE1 hE2
    rintro e w6 ⟨rfl, hO⟩
    go_wp2_with fail
    refine (awake9 E _ _ R I hG (hO.as (I ++ R))).mono ?_
    clear hO
    rintro e w8 ⟨rfl, hO⟩
    go_wp2_with fail
    go_ret
    exact ⟨rfl, hO⟩
end Go.Proofs.YticclennllklpaaDoor

/- Plain: two halves of a range. -/
namespace Go.Proofs.YticclennllklpaaDoor
open Go Go.RowKit Go.Own Go.Dt

theorem rgE_lo (d : Dt) : rgE none (some d) = bdR (some d) := by
  rcases bdR_val (some d) with h | h | h
  · rw [h]; exact rg_zero rfl h
  · rw [h]; exact rg_one (.inr h)
  · rw [h]; exact rg_ten (by decide) (by rw [h]; decide) (.inr h)
theorem rgE_hi (d : Dt) : rgE (some d) none = bdR (some d) := by
  rcases bdR_val (some d) with h | h | h
  · rw [h]; exact rg_zero h rfl
  · rw [h]; exact rg_one (.inl h)
  · rw [h]; exact rg_ten (by rw [h]; decide) (by decide) (.inl h)
theorem halves_len {d : Dt} (hd : d.ok = true) (hw : d.wf) (hk : d.k ≠ 3) : ∀ es : List En, (∀ e ∈ es, e.ok) →
    (es.filter (inR none (some d))).length + (es.filter (inR (some d) none)).length = (es.filter (inR none none)).length + (keyE es d).length
  | [], _ => rfl
  | x :: l, h => by
    have ih := halves_len hd hw hk l fun e he => h e (List.mem_cons_of_mem _ he)
    have hx := h x (List.mem_cons_self ..)
    unfold keyE at ih ⊢
    have c0 : inR none none x = decide (x.d.k ≠ 3) := by unfold inR; simp
    have c1 : inR none (some d) x = (decide (x.d.k ≠ 3) && !decide (d.enc < x.d.enc)) := by unfold inR; simp
    have c2 : inR (some d) none x = (decide (x.d.k ≠ 3) && !decide (x.d.enc < d.enc)) := by unfold inR; simp
    rw [List.filter_cons, List.filter_cons, List.filter_cons, List.filter_cons, c0, c1, c2]
    by_cases k3 : x.d.k = 3
    · have e3 : ¬ x.d = d := fun e => hk (by rw [← e]; exact k3)
      simp [k3, e3]
      exact ih
    · rcases cmpB x.d.enc d.enc with ⟨_, h1⟩ | ⟨_, h1⟩ | ⟨_, h1⟩
      · have h2 : ¬ d.enc < x.d.enc := fun h => List.lt_asymm h1 h
        have e3 : ¬ x.d = d := fun e => by rw [e] at h1; exact List.lt_irrefl _ h1
        simp only [decide_eq_true k3, decide_eq_true h1, decide_eq_false h2, decide_eq_false e3, Bool.not_true, Bool.not_false, Bool.and_true, Bool.and_false, Bool.true_and, if_true, List.length_cons]
        simp
        omega
      · have e3 : x.d = d := Dt.enc_inj hx.1 hd hx.2.1 hw h1
        have h2 : ¬ d.enc < x.d.enc := by rw [h1]; exact List.lt_irrefl _
        have h4 : ¬ x.d.enc < d.enc := by rw [h1]; exact List.lt_irrefl _
        simp only [decide_eq_true k3, decide_eq_false h4, decide_eq_false h2, decide_eq_true e3, Bool.not_false, Bool.and_true, if_true, List.length_cons]
        omega
      · have h2 : ¬ x.d.enc < d.enc := fun h => List.lt_asymm h1 h
        have e3 : ¬ x.d = d := fun e => by rw [e] at h1; exact List.lt_irrefl _ h1
        simp only [decide_eq_true k3, decide_eq_true h1, decide_eq_false h2, decide_eq_false e3, Bool.not_true, Bool.not_false, Bool.and_true, Bool.and_false, if_true, List.length_cons]
        simp
        omega
theorem pre_filter {p q : En → Bool} : ∀ {es : List En}, es.Pairwise elt → (∀ x, p x = true → q x = true) → (∀ x y, elt x y → q x = true → p x = false → p y = false) → es.filter p <+: es.filter q
  | [], _, _, _ => List.prefix_rfl
  | x :: l, h, h1, h2 => by
    have h' := List.pairwise_cons.1 h
    rw [List.filter_cons, List.filter_cons]
    cases hp : p x
    · cases hq : q x
      · exact pre_filter h'.2 h1 h2
      · have : l.filter p = [] := by
          rw [List.filter_eq_nil_iff]
          intro y hy
          rw [h2 x y (h'.1 y hy) hq hp]
          decide
        simp only [Bool.false_eq_true, if_false, if_true, this]
        exact List.nil_prefix
    · rw [h1 x hp]
      simp only [if_true]
      exact (List.prefix_cons_inj x).2 (pre_filter h'.2 h1 h2)
theorem halves_pre {d : Dt} {es : List En} (h : es.Pairwise elt) : es.filter (inR none (some d)) <+: es.filter (inR none none) := by
  refine pre_filter h (fun x hx => ?_) (fun x y hxy hq hp => ?_)
  · unfold inR at hx ⊢
    simp only [Bool.and_true, Bool.and_eq_true] at hx ⊢
    exact hx.1
  · unfold inR at hq hp ⊢
    simp only [Bool.and_true] at hq hp ⊢
    rw [hq] at hp
    simp only [Bool.true_and, Bool.not_eq_false'] at hp
    have hp2 : d.enc < x.d.enc := of_decide_eq_true hp
    have : d.enc < y.d.enc := by
      rcases hxy with h | ⟨h, _⟩
      · exact List.lt_trans hp2 h
      · rw [← h]; exact hp2
    rw [decide_eq_true this]
    simp
end Go.Proofs.YticclennllklpaaDoor

/- Layer 9: MethodHalves. (printed by wip/gen/genRU.py) -/
namespace Go.Proofs.YticclennllklpaaDoor
open Go Go.RowKit Go.Own Go.Dt

theorem datum_at {E w : World} {X : Fr} {b : Nat} {e : TypeId} {f : Nat × Nat} {c0 c1 c2 c3 : Value} (hO : Own E w X) [hh : Has X b (.cells #[c0, c1, c2, c3] e f)] : ∀ j v, [c0, c1, c2, c3][j]? = some v → w.cell? ((⟨b, 0, none⟩ : Addr).add j) = some v := by
  intro j v hj
  rw [add_lit, hO.cell (b := b)]
  match j, hj with
  | 0, hj => exact hj
  | 1, hj => exact hj
  | 2, hj => exact hj
  | 3, hj => exact hj
set_option maxRecDepth 100000 in
set_option maxHeartbeats 16000000 in
theorem methodHalves (E w : World) (X R I : Fr) (sa : Option Addr) (ca : Nat) (L : List OpB) (hL0 : OpsAtB E I sa L) (hwf : ∀ o ∈ L, o.y.d.wf) (hll : L.length ≤ 1954687338268) (d : Dt) (ea : Option Addr) (ec : Nat) (hwd : d.wf) (hId : ItemsAt E I ea d.l) (hG : MaxL E I) (hO : Own E w X) [hp : Pick X I R] :
    Calls Tryd.prog 7 #[.slice sa L.length ca, .agg #[.int .i64 d.k, .int .i64 d.n, .string d.s, .slice ea d.l.length ec]] w fun e w' => e = .returned (.bool true) ∧ Own E w' (I ++ R) := by
  replace hO := hO.perm hp.perm
  clear hp
  have HLL := Lib.hid hll
  clear hll
  go_enter Tryd.func7, Tryd.ntmps7
  go_wp2_with (first | (refine at_box ?_; go_must (refine own_box (v := ?_) hO ?_ ?_ ?_; rotate_left; (· rfl); (· ((conv => lhs; whnf); try exact rfl)); clear hO; (try clear hF); intro kq _ hO; (try simp only [Value.cells] at hO); ((try simp only [List.nil_append, List.append_nil] at hO); have hF := Own.cells hO; simp only [cellsOf_append, cellsOf_pt] at hF); simp only [Act.put, List.setIfInBounds_toArray, List.set_cons_zero, List.set_cons_succ])))
  refine (newPlain E _ _ hO).mono ?_
  clear hO hF
  rintro e w1 ⟨p, rfl, hO⟩
  go_wp2_with fail
  refine (all9 E _ _ hO).mono ?_
  clear hO
  rintro e w2 ⟨kb, rfl, hO⟩
  go_wp2_with fail
  refine (playsP E _ _ (pt kq (.cells #[.int .i64 d.k, .int .i64 d.n, .string d.s, .slice ea d.l.length ec] 30 (0, 0)) ++ R) (plainF p none 0 0) (pt kb (.cells #[.int .i64 1, .int .i64 2, .int .i64 3] 3 (0, 0))) I p 0 _ 3 (sl_three (E := E) kb) sa ca L hL0 hwf (by have := HLL.out; unfold CP; omega) ⟨[], PlainAt.new E p, rfl, Nat.le_refl _⟩ hG (hO.as (plainF p none 0 0 ++ (pt kb (.cells #[.int .i64 1, .int .i64 2, .int .i64 3] 3 (0, 0)) ++ (I ++ (pt kq (.cells #[.int .i64 d.k, .int .i64 d.n, .string d.s, .slice ea d.l.length ec] 30 (0, 0)) ++ R)))))).mono ?_
  clear hO
  rintro e w3 ⟨A, so, co, os, SL, rfl, hL, hA, hO⟩
  replace hO : Own E w3 (A ++ ((pt kq (.cells #[.int .i64 d.k, .int .i64 d.n, .string d.s, .slice ea d.l.length ec] 30 (0, 0)) ++ I) ++ (SL ++ R))) := hO.as _
  have hLF : LAt E (pt kq (.cells #[.int .i64 d.k, .int .i64 d.n, .string d.s, .slice ea d.l.length ec] 30 (0, 0)) ++ I) so co os SL := hL.of List.perm_append_comm
  have hGF : MaxL E (pt kq (.cells #[.int .i64 d.k, .int .i64 d.n, .string d.s, .slice ea d.l.length ec] 30 (0, 0)) ++ I) := by
    obtain ⟨m, hm⟩ := hG
    refine ⟨m, fun Y w h => hm (pt kq (.cells #[.int .i64 d.k, .int .i64 d.n, .string d.s, .slice ea d.l.length ec] 30 (0, 0)) ++ Y) w (h.perm ?_)⟩
    rw [List.append_assoc]
    refine (List.perm_append_comm_assoc _ _ _)
  have hId2 : ItemsAt E (pt kq (.cells #[.int .i64 d.k, .int .i64 d.n, .string d.s, .slice ea d.l.length ec] 30 (0, 0)) ++ I) ea d.l := hId.of List.perm_append_comm
  have hB1 : BdAt E (pt kq (.cells #[.int .i64 d.k, .int .i64 d.n, .string d.s, .slice ea d.l.length ec] 30 (0, 0)) ++ I) (.pointer (some ⟨kq, 0, none⟩)) (some d) := .inr ⟨_, d, ea, ec, rfl, rfl, hwd, hId2, fun Y w h => datum_at h (hh := inferInstance)⟩
  have hB0 : BdAt E (pt kq (.cells #[.int .i64 d.k, .int .i64 d.n, .string d.s, .slice ea d.l.length ec] 30 (0, 0)) ++ I) (.pointer none) none := .inl ⟨rfl, rfl⟩
  have hle := hA.le
  have hes := hA.es
  obtain ⟨hs, hPA, hhs, hhl⟩ := hA
  have HOLE := Lib.hid (show (esO os).length ≤ 2000000000000 by have := HLL.out; omega)
  have hos : os.length ≤ 2000000000000 := by have := HOLE.out; rwa [esO_len] at this
  have hhs2 : hs.length ≤ 2000000000000 := by have := HLL.out; omega
  have HES := Lib.hid hes
  have HHS := Lib.hid hhs
  have HOS := Lib.hid hos
  have HHL := Lib.hid hhs2
  obtain ⟨z, hz⟩ : ∃ z, bdR (some d) = z := ⟨_, rfl⟩
  have HZ := Lib.hid hz
  have z00 : rgE none none = 0 := rg_zero rfl rfl
  have HZ0 := Lib.hid z00
  clear hle hes hhs hhl hos hhs2 hL hz z00
  go_wp2_with fail
  refine (pRange E _ _ (SL ++ R) A (pt kq (.cells #[.int .i64 d.k, .int .i64 d.n, .string d.s, .slice ea d.l.length ec] 30 (0, 0)) ++ I) p hs HHL.out hPA (.pointer none) (.pointer (some ⟨kq, 0, none⟩)) none (some d) false hB0 hB1 hGF (hO.as ((A ++ (pt kq (.cells #[.int .i64 d.k, .int .i64 d.n, .string d.s, .slice ea d.l.length ec] 30 (0, 0)) ++ I)) ++ (SL ++ R)))).mono ?_
  clear hO
  rintro e w4 ⟨so1, co1, os1, SO1, rfl, hes1, hL1, hO⟩
  rw [rgE_lo, HZ.out]
  go_wp2_with fail
  refine (pRange E _ _ (SO1 ++ (SL ++ R)) A (pt kq (.cells #[.int .i64 d.k, .int .i64 d.n, .string d.s, .slice ea d.l.length ec] 30 (0, 0)) ++ I) p hs HHL.out hPA (.pointer (some ⟨kq, 0, none⟩)) (.pointer none) (some d) none false hB1 hB0 hGF (hO.as ((A ++ (pt kq (.cells #[.int .i64 d.k, .int .i64 d.n, .string d.s, .slice ea d.l.length ec] 30 (0, 0)) ++ I)) ++ (SO1 ++ (SL ++ R))))).mono ?_
  clear hO
  rintro e w5 ⟨so2, co2, os2, SO2, rfl, hes2, hL2, hO⟩
  rw [rgE_hi, HZ.out]
  go_wp2_with fail
  refine (pRange E _ _ (SO2 ++ (SO1 ++ (SL ++ R))) A (pt kq (.cells #[.int .i64 d.k, .int .i64 d.n, .string d.s, .slice ea d.l.length ec] 30 (0, 0)) ++ I) p hs HHL.out hPA (.pointer none) (.pointer none) none none false hB0 hB0 hGF (hO.as ((A ++ (pt kq (.cells #[.int .i64 d.k, .int .i64 d.n, .string d.s, .slice ea d.l.length ec] 30 (0, 0)) ++ I)) ++ (SO2 ++ (SO1 ++ (SL ++ R)))))).mono ?_
  clear hO
  rintro e w6 ⟨so3, co3, os3, SO3, rfl, hes3, hL3, hO⟩
  rw [HZ0.out]
  go_wp2_with fail
  refine (pRange E _ _ (SO3 ++ (SO2 ++ (SO1 ++ (SL ++ R)))) A (pt kq (.cells #[.int .i64 d.k, .int .i64 d.n, .string d.s, .slice ea d.l.length ec] 30 (0, 0)) ++ I) p hs HHL.out hPA (.pointer none) (.pointer none) none none true hB0 hB0 hGF (hO.as ((A ++ (pt kq (.cells #[.int .i64 d.k, .int .i64 d.n, .string d.s, .slice ea d.l.length ec] 30 (0, 0)) ++ I)) ++ (SO3 ++ (SO2 ++ (SO1 ++ (SL ++ R))))))).mono ?_
  clear hO
  rintro e w7 ⟨so4, co4, os4, SO4, rfl, hes4, hL4, hO⟩
  rw [HZ0.out]
  replace hO : Own E w7 (SO4 ++ (SO3 ++ (SO2 ++ (SO1 ++ (A ++ ((pt kq (.cells #[.int .i64 d.k, .int .i64 d.n, .string d.s, .slice ea d.l.length ec] 30 (0, 0)) ++ I) ++ (SL ++ R))))))) := hO.as _
  by_cases hz0 : z = 0
  rotate_left
  · have hzb : (z == 0) = false := beq_eq_false_iff_ne.2 hz0
    clear hes1 hes2 hes3 hes4
    go_wp2_with fail
    refine (refBound E _ _ (SO4 ++ (SO3 ++ (SO2 ++ (SO1 ++ (A ++ (SL ++ R)))))) (pt kq (.cells #[.int .i64 d.k, .int .i64 d.n, .string d.s, .slice ea d.l.length ec] 30 (0, 0)) ++ I) (.pointer (some ⟨kq, 0, none⟩)) (some d) hB1 (hO.as ((pt kq (.cells #[.int .i64 d.k, .int .i64 d.n, .string d.s, .slice ea d.l.length ec] 30 (0, 0)) ++ I) ++ (SO4 ++ (SO3 ++ (SO2 ++ (SO1 ++ (A ++ (SL ++ R))))))))).mono ?_
    rw [HZ.out]
    clear hO
    rintro e w8 ⟨rfl, hO⟩
    go_wp2_with fail
    refine (awake9 E _ _ R I hG (hO.as (I ++ R))).mono ?_
    clear hO
    rintro e w9 ⟨rfl, hO⟩
    go_wp2_with fail
    go_ret
    exact ⟨rfl, hO⟩
  subst hz0
  obtain ⟨hdo, hdk⟩ := bd_ok HZ.out
  unfold rgR rgL at hes1 hes2 hes3 hes4
  rw [if_pos (by rw [rgE_lo]; exact HZ.out), if_neg (by decide), HHS.out] at hes1
  rw [if_pos (by rw [rgE_hi]; exact HZ.out), if_neg (by decide), HHS.out] at hes2
  rw [if_pos HZ0.out, if_neg (by decide), HHS.out] at hes3
  rw [if_pos HZ0.out, if_pos rfl, HHS.out, ← hes3] at hes4
  have hlen := halves_len hdo hwd hdk (esO os) HES.out.ok
  have hpre := halves_pre (d := d) HES.out.up
  rw [← hes1, ← hes2, ← hes3, esO_len, esO_len, esO_len] at hlen
  rw [← hes1, ← hes3] at hpre
  have hn4 : os4.length = os3.length := by have := congrArg List.length hes4; rwa [List.length_reverse, esO_len, esO_len] at this
  have hn3 : os3.length ≤ 2000000000000 := by
    have h9 := congrArg List.length hes3
    have h8 : ((esO os).filter (inR none none)).length ≤ (esO os).length := List.length_filter_le _ _
    have h7 := HOLE.out
    rw [esO_len] at h9
    omega
  have hmk := keyE_le (esO os) d
  have hmk2 : (keyE (esO os) d).length ≤ 2000000000000 := Nat.le_trans hmk HOLE.out
  have HDO := Lib.hid hdo
  have HOKO := Lib.hid (show ∀ o ∈ os, o.e.d.ok = true from fun o ho => (HES.out.ok o.e (List.mem_map.2 ⟨o, ho, rfl⟩)).1)
  have HOK3 := Lib.hid (show ∀ o ∈ os3, o.e.d.ok = true from fun o ho => (HES.out.ok o.e (by have h9 : o.e ∈ esO os3 := List.mem_map.2 ⟨o, ho, rfl⟩; rw [hes3] at h9; exact (List.mem_filter.1 h9).1)).1)
  have HREV : Hid (∀ j k (hj : j < os3.length) (hk : k < os4.length), j + k + 1 = os3.length → (os4[k]'hk).e = (os3[j]'hj).e) := Lib.hid fun j k hj hk hjk => by
    have h1 : (esO os4)[k]? = some (os4[k]'hk).e := by unfold esO; rw [List.getElem?_map, List.getElem?_eq_getElem hk]; rfl
    have h2 : (esO os3)[j]? = some (os3[j]'hj).e := by unfold esO; rw [List.getElem?_map, List.getElem?_eq_getElem hj]; rfl
    rw [hes4, List.getElem?_reverse (by rw [esO_len]; omega), esO_len, show os3.length - 1 - k = j by omega, h2] at h1
    exact (Option.some.inj h1).symm
  have HPRE : Hid (∀ j (h1 : j < os1.length) (h3 : j < os3.length), (os1[j]'h1).e = (os3[j]'h3).e) := Lib.hid fun j h1 h3 => by
    obtain ⟨r, hr⟩ := hpre
    have h5 : (esO os1)[j]? = some (os1[j]'h1).e := by unfold esO; rw [List.getElem?_map, List.getElem?_eq_getElem h1]; rfl
    have h6 : (esO os3)[j]? = some (os3[j]'h3).e := by unfold esO; rw [List.getElem?_map, List.getElem?_eq_getElem h3]; rfl
    rw [← hr, List.getElem?_append_left (by rw [esO_len]; exact h1), h5] at h6
    exact Option.some.inj h6
  have HN4 := Lib.hid hn4
  have HN3 := Lib.hid hn3
  rw [hn4]
  obtain ⟨N, hN⟩ : ∃ N, os3.length + (keyE (esO os) d).length = N := ⟨_, rfl⟩
  have hNb : N ≤ 4000000000000 := by omega
  obtain ⟨m1, m2⟩ : IntKind.i64.wrap ((os1.length : Int) + os2.length) = (N : Int) ∧ wrap64 ((os1.length : Int) + os2.length) = (N : Int) := by
    have := wrapN ((os1.length : Int) + os2.length) (by omega) (by omega)
    rw [show (N : Int) = (os1.length : Int) + os2.length by omega]
    exact this
  obtain ⟨mk, hmk3⟩ : ∃ mk, (keyE (esO os) d).length = mk := ⟨_, rfl⟩
  obtain ⟨m3, m4⟩ : IntKind.i64.wrap ((os3.length : Int) + mk) = (N : Int) ∧ wrap64 ((os3.length : Int) + mk) = (N : Int) := by
    have := wrapN ((os3.length : Int) + mk) (by omega) (by omega)
    rw [show (N : Int) = (os3.length : Int) + mk by omega]
    exact this
  have HMK := Lib.hid hmk3
  clear hes1 hes2 hes3 hes4 hlen hpre hn4 hn3 hmk hmk2 hdo hdk hN hNb hmk3
  have hF := Own.cells hO; simp only [cellsOf_append, cellsOf_pt] at hF
  go_wp2_with (first | (refine at_load ?_; refine own_loadS (b := ?_) (cs := ?_) (e := ?_) (f := ?_) hO ?_ ?_ ?_ ?_ ?_ ?_; rotate_left 4; (· rfl); (· rfl); (· exact inferInstance); (· simp; done); (· simp [Value.cells]; done); simp only [Act.put, List.setIfInBounds_toArray, List.set_cons_zero, List.set_cons_succ]))
  refine (refFind E _ _ (SO4 ++ (SO3 ++ (SO2 ++ (SO1 ++ (A ++ R))))) SL (pt kq (.cells #[.int .i64 d.k, .int .i64 d.n, .string d.s, .slice ea d.l.length ec] 30 (0, 0)) ++ I) so co os HOS.out HOKO.out hLF d ea ec HDO.out hId2 (hO.as ((SL ++ (pt kq (.cells #[.int .i64 d.k, .int .i64 d.n, .string d.s, .slice ea d.l.length ec] 30 (0, 0)) ++ I)) ++ (SO4 ++ (SO3 ++ (SO2 ++ (SO1 ++ (A ++ R)))))))).mono ?_
  clear hO hF
  rintro e w8 ⟨so5, co5, S5, rfl, hS5, hO⟩
  rw [HMK.out]
  replace hO : Own E w8 (SO4 ++ (SO3 ++ (SO2 ++ (SO1 ++ (A ++ ((pt kq (.cells #[.int .i64 d.k, .int .i64 d.n, .string d.s, .slice ea d.l.length ec] 30 (0, 0)) ++ I) ++ (SL ++ R))))))) := hO.as _
  clear hS5
  go_wp2_with fail
  have hO1 := hO
  clear hO m1 m2 m3 m4
  go_loopw [18] (fun i wr => ∃ (j : Nat), i = .int .i64 (j : Int) ∧ j ≤ os3.length ∧ Own E wr (SO4 ++ (SO3 ++ (SO2 ++ (SO1 ++ (A ++ ((pt kq (.cells #[.int .i64 d.k, .int .i64 d.n, .string d.s, .slice ea d.l.length ec] 30 (0, 0)) ++ I) ++ (SL ++ R)))))))) (fun i _ => os3.length - (intOf i).toNat)
  case atStart => exact ⟨0, rfl, Nat.zero_le _, hO1⟩
  case round =>
    clear hO1
    obtain ⟨j, rfl, hj, hO⟩ := hrel
    have hn3 := HN3.out
    have hn4 := HN4.out
    by_cases hlt : j < os3.length
    · have hj1 : (j : Int) < os3.length := by omega
      have g2 : (0 : Int) ≤ (j : Int) := by omega
      have hw0 : IntKind.i64.wrap ((j : Int) + 1) = (j : Int) + 1 := wi_1 j (by omega)
      have hw1 : wrap64 ((j : Int) + 1) = (j : Int) + 1 := w64_1 j (by omega)
      obtain ⟨q1, q2⟩ := wrapN ((os3.length : Int) - 1) (by omega) (by omega)
      obtain ⟨k, hk⟩ : ∃ k : Nat, (os3.length : Int) - 1 - j = k := ⟨os3.length - 1 - j, by omega⟩
      have q3 : IntKind.i64.wrap ((os3.length : Int) - 1 - j) = (k : Int) := by rw [← hk]; exact (wrapN ((os3.length : Int) - 1 - j) (by omega) (by omega)).1
      have q4 : wrap64 ((os3.length : Int) - 1 - j) = (k : Int) := by rw [← hk]; exact (wrapN ((os3.length : Int) - 1 - j) (by omega) (by omega)).2
      have hk3 : k < os3.length := by omega
      have hk4 : k < os4.length := by omega
      have g3 : (0 : Int) ≤ (k : Int) := by omega
      have g4 : (k : Int) < os3.length := by omega
      obtain ⟨b3, rfl⟩ := sl_some9 hL3.row (by omega)
      obtain ⟨b4, rfl⟩ := sl_some9 hL4.row (by omega)
      obtain ⟨x, hx⟩ : ∃ x, os3[j]'hlt = x := ⟨_, rfl⟩
      obtain ⟨y, hy⟩ : ∃ y, os4[k]'hk4 = y := ⟨_, rfl⟩
      have hxy : y.e = x.e := by rw [← hx, ← hy]; exact HREV.out j k hlt hk4 (by omega)
      have hmx : x ∈ os3 := hx ▸ List.getElem_mem hlt
      have hmy : y ∈ os4 := hy ▸ List.getElem_mem hk4
      have HX := Lib.hid (show ∀ (Y : Fr) (w : World), Own E w (SO3 ++ Y) → ∀ i v, ([.int .i64 x.e.d.k, .int .i64 x.e.d.n, .string x.e.d.s, .slice x.a x.e.d.l.length x.c, .int .i64 x.e.t] : List Value)[i]? = some v → w.cell? ((⟨b3, j * 5, none⟩ : Addr).add i) = some v from fun Y w h => hL3.cells hlt hx h)
      have HY := Lib.hid (show ∀ (Y : Fr) (w : World), Own E w (SO4 ++ Y) → ∀ i v, ([.int .i64 y.e.d.k, .int .i64 y.e.d.n, .string y.e.d.s, .slice y.a y.e.d.l.length y.c, .int .i64 y.e.t] : List Value)[i]? = some v → w.cell? ((⟨b4, k * 5, none⟩ : Addr).add i) = some v from fun Y w h => hL4.cells hk4 hy h)
      have HXO := Lib.hid (HOK3.out x hmx)
      have HYO : Hid (y.e.d.ok = true) := Lib.hid (by rw [hxy]; exact HOK3.out x hmx)
      have HXI := Lib.hid (hL3.its x hmx)
      have HYI := Lib.hid (hL4.its y hmy)
      have HXY := Lib.hid hxy
      have HLT := Lib.hid hlt
      by_cases hlo : j < os1.length
      · have g5 : (j : Int) < os1.length := by omega
        have g6 : decide ((j : Int) < os1.length) = true := decide_eq_true g5
        obtain ⟨b1, rfl⟩ := sl_some9 hL1.row (by omega)
        obtain ⟨u, hu⟩ : ∃ u, os1[j]'hlo = u := ⟨_, rfl⟩
        have hux : u.e = x.e := by rw [← hx, ← hu]; exact HPRE.out j hlo hlt
        have hmu : u ∈ os1 := hu ▸ List.getElem_mem hlo
        have HU := Lib.hid (show ∀ (Y : Fr) (w : World), Own E w (SO1 ++ Y) → ∀ i v, ([.int .i64 u.e.d.k, .int .i64 u.e.d.n, .string u.e.d.s, .slice u.a u.e.d.l.length u.c, .int .i64 u.e.t] : List Value)[i]? = some v → w.cell? ((⟨b1, j * 5, none⟩ : Addr).add i) = some v from fun Y w h => hL1.cells hlo hu h)
        have HUO : Hid (u.e.d.ok = true) := Lib.hid (by rw [hux]; exact HXO.out)
        have HUI := Lib.hid (hL1.its u hmu)
        have HUX := Lib.hid hux
        clear hx hy hxy hmx hmy hlt hj hn3 hn4 hk hk3 hk4 hlo hu hux hmu
        go_wp2_with fail
        (try (go_wp2_with fail))
        refine region_sch (fun w' => Own E w' (SO4 ++ (SO3 ++ SO1))) (.look 0 (.look 1 (.look 2 (.look 3 (.look 4 (.look 5 (.look 6 (.look 7 (.look 8 (.look 9 (.look 10 (.look 11 (.act 12 (.look 13 (.look 14 (.look 15 (.look 16 (.look 17 (.look 18 (.look 19 (.look 20 (.look 21 (.look 22 (.look 23 (.look 24 (.look 25 (.look 26 (.look 27 (.act 28 (.look 29 (.look 30 (.look 31 .done)))))))))))))))))))))))))))))))) (by kernel_rfl) (by kernel_rfl) (fun _ _ d _ _ h => by cases d <;> exact h) ?_ ?_
        · exact hO.drew.as _
        replace hO := hO.drew
        generalize World.drew _ = wdr at hO ⊢
        first | (refine sch_look (o := ?_) (v := ?_) ?_ ?_ ?_ ?_; rotate_left 2; (· ((conv => lhs; whnf); try exact rfl)); (· rfl); (· intro w' hO'; skip; go_simp; (try exact rfl)); simp only [Act.put, List.setIfInBounds_toArray, List.set_cons_zero, List.set_cons_succ]) | (refine sch_pass (o := ?_) ?_ ?_ ?_; rotate_left; (· ((conv => lhs; whnf); try exact rfl)); (· rfl); simp only [Act.put, List.setIfInBounds_toArray, List.set_cons_zero, List.set_cons_succ]) | (refine sch_look (o := ?_) (v := .agg ?_) ?_ ?_ ?_ ?_; rotate_left 2; (· ((conv => lhs; whnf); try exact rfl)); (· rfl); (· intro w' hO'; refine run_opLoadS (b := ?_) (cs := ?_) (e := ?_) (f := ?_) hO' ?_ ?_ ?_ ?_; rotate_left 4; (· exact rfl); (· exact inferInstance); (· simp; done); (· simp; done)); simp only [Act.put, List.setIfInBounds_toArray, List.set_cons_zero, List.set_cons_succ])
        first | (refine sch_look (o := ?_) (v := ?_) ?_ ?_ ?_ ?_; rotate_left 2; (· ((conv => lhs; whnf); try exact rfl)); (· rfl); (· intro w' hO'; skip; go_simp; (try exact rfl)); simp only [Act.put, List.setIfInBounds_toArray, List.set_cons_zero, List.set_cons_succ]) | (refine sch_pass (o := ?_) ?_ ?_ ?_; rotate_left; (· ((conv => lhs; whnf); try exact rfl)); (· rfl); simp only [Act.put, List.setIfInBounds_toArray, List.set_cons_zero, List.set_cons_succ]) | (refine sch_look (o := ?_) (v := .agg ?_) ?_ ?_ ?_ ?_; rotate_left 2; (· ((conv => lhs; whnf); try exact rfl)); (· rfl); (· intro w' hO'; refine run_opLoadS (b := ?_) (cs := ?_) (e := ?_) (f := ?_) hO' ?_ ?_ ?_ ?_; rotate_left 4; (· exact rfl); (· exact inferInstance); (· simp; done); (· simp; done)); simp only [Act.put, List.setIfInBounds_toArray, List.set_cons_zero, List.set_cons_succ])
        first | (refine sch_look (o := ?_) (v := ?_) ?_ ?_ ?_ ?_; rotate_left 2; (· ((conv => lhs; whnf); try exact rfl)); (· rfl); (· intro w' hO'; skip; go_simp; (try exact rfl)); simp only [Act.put, List.setIfInBounds_toArray, List.set_cons_zero, List.set_cons_succ]) | (refine sch_pass (o := ?_) ?_ ?_ ?_; rotate_left; (· ((conv => lhs; whnf); try exact rfl)); (· rfl); simp only [Act.put, List.setIfInBounds_toArray, List.set_cons_zero, List.set_cons_succ]) | (refine sch_look (o := ?_) (v := .agg ?_) ?_ ?_ ?_ ?_; rotate_left 2; (· ((conv => lhs; whnf); try exact rfl)); (· rfl); (· intro w' hO'; refine run_opLoadS (b := ?_) (cs := ?_) (e := ?_) (f := ?_) hO' ?_ ?_ ?_ ?_; rotate_left 4; (· exact rfl); (· exact inferInstance); (· simp; done); (· simp; done)); simp only [Act.put, List.setIfInBounds_toArray, List.set_cons_zero, List.set_cons_succ])
        (refine sch_look (o := ?_) (v := .agg ([.int .i64 x.e.d.k, .int .i64 x.e.d.n, .string x.e.d.s, .slice x.a x.e.d.l.length x.c, .int .i64 x.e.t] : List Value).toArray) ?_ ?_ ?_ ?_; rotate_left; (· ((conv => lhs; whnf); try exact rfl)); (· rfl); (· intro w' hO'; exact run_opLoadC (ad := ⟨b3, j * 5, none⟩) (cs := [.int .i64 x.e.d.k, .int .i64 x.e.d.n, .string x.e.d.s, .slice x.a x.e.d.l.length x.c, .int .i64 x.e.t]) (HX.out _ _ (hO'.as (SO3 ++ []))) rfl (by simp) (by simp)); simp only [Act.put, List.setIfInBounds_toArray, List.set_cons_zero, List.set_cons_succ])
        first | (refine sch_look (o := ?_) (v := ?_) ?_ ?_ ?_ ?_; rotate_left 2; (· ((conv => lhs; whnf); try exact rfl)); (· rfl); (· intro w' hO'; skip; go_simp; (try exact rfl)); simp only [Act.put, List.setIfInBounds_toArray, List.set_cons_zero, List.set_cons_succ]) | (refine sch_pass (o := ?_) ?_ ?_ ?_; rotate_left; (· ((conv => lhs; whnf); try exact rfl)); (· rfl); simp only [Act.put, List.setIfInBounds_toArray, List.set_cons_zero, List.set_cons_succ]) | (refine sch_look (o := ?_) (v := .agg ?_) ?_ ?_ ?_ ?_; rotate_left 2; (· ((conv => lhs; whnf); try exact rfl)); (· rfl); (· intro w' hO'; refine run_opLoadS (b := ?_) (cs := ?_) (e := ?_) (f := ?_) hO' ?_ ?_ ?_ ?_; rotate_left 4; (· exact rfl); (· exact inferInstance); (· simp; done); (· simp; done)); simp only [Act.put, List.setIfInBounds_toArray, List.set_cons_zero, List.set_cons_succ])
        first | (refine sch_look (o := ?_) (v := ?_) ?_ ?_ ?_ ?_; rotate_left 2; (· ((conv => lhs; whnf); try exact rfl)); (· rfl); (· intro w' hO'; skip; go_simp; (try exact rfl)); simp only [Act.put, List.setIfInBounds_toArray, List.set_cons_zero, List.set_cons_succ]) | (refine sch_pass (o := ?_) ?_ ?_ ?_; rotate_left; (· ((conv => lhs; whnf); try exact rfl)); (· rfl); simp only [Act.put, List.setIfInBounds_toArray, List.set_cons_zero, List.set_cons_succ]) | (refine sch_look (o := ?_) (v := .agg ?_) ?_ ?_ ?_ ?_; rotate_left 2; (· ((conv => lhs; whnf); try exact rfl)); (· rfl); (· intro w' hO'; refine run_opLoadS (b := ?_) (cs := ?_) (e := ?_) (f := ?_) hO' ?_ ?_ ?_ ?_; rotate_left 4; (· exact rfl); (· exact inferInstance); (· simp; done); (· simp; done)); simp only [Act.put, List.setIfInBounds_toArray, List.set_cons_zero, List.set_cons_succ])
        first | (refine sch_look (o := ?_) (v := ?_) ?_ ?_ ?_ ?_; rotate_left 2; (· ((conv => lhs; whnf); try exact rfl)); (· rfl); (· intro w' hO'; skip; go_simp; (try exact rfl)); simp only [Act.put, List.setIfInBounds_toArray, List.set_cons_zero, List.set_cons_succ]) | (refine sch_pass (o := ?_) ?_ ?_ ?_; rotate_left; (· ((conv => lhs; whnf); try exact rfl)); (· rfl); simp only [Act.put, List.setIfInBounds_toArray, List.set_cons_zero, List.set_cons_succ]) | (refine sch_look (o := ?_) (v := .agg ?_) ?_ ?_ ?_ ?_; rotate_left 2; (· ((conv => lhs; whnf); try exact rfl)); (· rfl); (· intro w' hO'; refine run_opLoadS (b := ?_) (cs := ?_) (e := ?_) (f := ?_) hO' ?_ ?_ ?_ ?_; rotate_left 4; (· exact rfl); (· exact inferInstance); (· simp; done); (· simp; done)); simp only [Act.put, List.setIfInBounds_toArray, List.set_cons_zero, List.set_cons_succ])
        first | (refine sch_look (o := ?_) (v := ?_) ?_ ?_ ?_ ?_; rotate_left 2; (· ((conv => lhs; whnf); try exact rfl)); (· rfl); (· intro w' hO'; skip; go_simp; (try exact rfl)); simp only [Act.put, List.setIfInBounds_toArray, List.set_cons_zero, List.set_cons_succ]) | (refine sch_pass (o := ?_) ?_ ?_ ?_; rotate_left; (· ((conv => lhs; whnf); try exact rfl)); (· rfl); simp only [Act.put, List.setIfInBounds_toArray, List.set_cons_zero, List.set_cons_succ]) | (refine sch_look (o := ?_) (v := .agg ?_) ?_ ?_ ?_ ?_; rotate_left 2; (· ((conv => lhs; whnf); try exact rfl)); (· rfl); (· intro w' hO'; refine run_opLoadS (b := ?_) (cs := ?_) (e := ?_) (f := ?_) hO' ?_ ?_ ?_ ?_; rotate_left 4; (· exact rfl); (· exact inferInstance); (· simp; done); (· simp; done)); simp only [Act.put, List.setIfInBounds_toArray, List.set_cons_zero, List.set_cons_succ])
        first | (refine sch_look (o := ?_) (v := ?_) ?_ ?_ ?_ ?_; rotate_left 2; (· ((conv => lhs; whnf); try exact rfl)); (· rfl); (· intro w' hO'; skip; go_simp; (try exact rfl)); simp only [Act.put, List.setIfInBounds_toArray, List.set_cons_zero, List.set_cons_succ]) | (refine sch_pass (o := ?_) ?_ ?_ ?_; rotate_left; (· ((conv => lhs; whnf); try exact rfl)); (· rfl); simp only [Act.put, List.setIfInBounds_toArray, List.set_cons_zero, List.set_cons_succ]) | (refine sch_look (o := ?_) (v := .agg ?_) ?_ ?_ ?_ ?_; rotate_left 2; (· ((conv => lhs; whnf); try exact rfl)); (· rfl); (· intro w' hO'; refine run_opLoadS (b := ?_) (cs := ?_) (e := ?_) (f := ?_) hO' ?_ ?_ ?_ ?_; rotate_left 4; (· exact rfl); (· exact inferInstance); (· simp; done); (· simp; done)); simp only [Act.put, List.setIfInBounds_toArray, List.set_cons_zero, List.set_cons_succ])
        first | (refine sch_look (o := ?_) (v := ?_) ?_ ?_ ?_ ?_; rotate_left 2; (· ((conv => lhs; whnf); try exact rfl)); (· rfl); (· intro w' hO'; skip; go_simp; (try exact rfl)); simp only [Act.put, List.setIfInBounds_toArray, List.set_cons_zero, List.set_cons_succ]) | (refine sch_pass (o := ?_) ?_ ?_ ?_; rotate_left; (· ((conv => lhs; whnf); try exact rfl)); (· rfl); simp only [Act.put, List.setIfInBounds_toArray, List.set_cons_zero, List.set_cons_succ]) | (refine sch_look (o := ?_) (v := .agg ?_) ?_ ?_ ?_ ?_; rotate_left 2; (· ((conv => lhs; whnf); try exact rfl)); (· rfl); (· intro w' hO'; refine run_opLoadS (b := ?_) (cs := ?_) (e := ?_) (f := ?_) hO' ?_ ?_ ?_ ?_; rotate_left 4; (· exact rfl); (· exact inferInstance); (· simp; done); (· simp; done)); simp only [Act.put, List.setIfInBounds_toArray, List.set_cons_zero, List.set_cons_succ])
        first | (refine sch_look (o := ?_) (v := ?_) ?_ ?_ ?_ ?_; rotate_left 2; (· ((conv => lhs; whnf); try exact rfl)); (· rfl); (· intro w' hO'; skip; go_simp; (try exact rfl)); simp only [Act.put, List.setIfInBounds_toArray, List.set_cons_zero, List.set_cons_succ]) | (refine sch_pass (o := ?_) ?_ ?_ ?_; rotate_left; (· ((conv => lhs; whnf); try exact rfl)); (· rfl); simp only [Act.put, List.setIfInBounds_toArray, List.set_cons_zero, List.set_cons_succ]) | (refine sch_look (o := ?_) (v := .agg ?_) ?_ ?_ ?_ ?_; rotate_left 2; (· ((conv => lhs; whnf); try exact rfl)); (· rfl); (· intro w' hO'; refine run_opLoadS (b := ?_) (cs := ?_) (e := ?_) (f := ?_) hO' ?_ ?_ ?_ ?_; rotate_left 4; (· exact rfl); (· exact inferInstance); (· simp; done); (· simp; done)); simp only [Act.put, List.setIfInBounds_toArray, List.set_cons_zero, List.set_cons_succ])
        (refine sch_look (o := ?_) (v := .agg ([.int .i64 y.e.d.k, .int .i64 y.e.d.n, .string y.e.d.s, .slice y.a y.e.d.l.length y.c, .int .i64 y.e.t] : List Value).toArray) ?_ ?_ ?_ ?_; rotate_left; (· ((conv => lhs; whnf); try exact rfl)); (· rfl); (· intro w' hO'; exact run_opLoadC (ad := ⟨b4, k * 5, none⟩) (cs := [.int .i64 y.e.d.k, .int .i64 y.e.d.n, .string y.e.d.s, .slice y.a y.e.d.l.length y.c, .int .i64 y.e.t]) (HY.out _ _ (hO'.as (SO4 ++ []))) rfl (by simp) (by simp)); simp only [Act.put, List.setIfInBounds_toArray, List.set_cons_zero, List.set_cons_succ])
        (refine sch_act (o := ?_) ?_ ?_; rotate_left; (· ((conv => lhs; whnf); try exact rfl)))
        go_wp2_with fail
        refine (refSame E _ _ (SO4 ++ (SO3 ++ (SO2 ++ (SO1 ++ ((pt kq (.cells #[.int .i64 d.k, .int .i64 d.n, .string d.s, .slice ea d.l.length ec] 30 (0, 0)) ++ I) ++ (SL ++ R)))))) A x.e y.e x.a y.a x.c y.c HXO.out HYO.out HXI.out HYI.out (hO.as (A ++ (SO4 ++ (SO3 ++ (SO2 ++ (SO1 ++ ((pt kq (.cells #[.int .i64 d.k, .int .i64 d.n, .string d.s, .slice ea d.l.length ec] 30 (0, 0)) ++ I) ++ (SL ++ R))))))))).mono ?_
        rw [decide_eq_true HXY.out.symm]
        clear hO
        rintro e w3 ⟨rfl, hO⟩
        go_wp2_with fail
        refine ⟨hO.as _, ?_⟩
        first | (refine sch_look (o := ?_) (v := ?_) ?_ ?_ ?_ ?_; rotate_left 2; (· ((conv => lhs; whnf); try exact rfl)); (· rfl); (· intro w' hO'; skip; go_simp; (try exact rfl)); simp only [Act.put, List.setIfInBounds_toArray, List.set_cons_zero, List.set_cons_succ]) | (refine sch_pass (o := ?_) ?_ ?_ ?_; rotate_left; (· ((conv => lhs; whnf); try exact rfl)); (· rfl); simp only [Act.put, List.setIfInBounds_toArray, List.set_cons_zero, List.set_cons_succ]) | (refine sch_look (o := ?_) (v := .agg ?_) ?_ ?_ ?_ ?_; rotate_left 2; (· ((conv => lhs; whnf); try exact rfl)); (· rfl); (· intro w' hO'; refine run_opLoadS (b := ?_) (cs := ?_) (e := ?_) (f := ?_) hO' ?_ ?_ ?_ ?_; rotate_left 4; (· exact rfl); (· exact inferInstance); (· simp; done); (· simp; done)); simp only [Act.put, List.setIfInBounds_toArray, List.set_cons_zero, List.set_cons_succ])
        first | (refine sch_look (o := ?_) (v := ?_) ?_ ?_ ?_ ?_; rotate_left 2; (· ((conv => lhs; whnf); try exact rfl)); (· rfl); (· intro w' hO'; skip; go_simp; (try exact rfl)); simp only [Act.put, List.setIfInBounds_toArray, List.set_cons_zero, List.set_cons_succ]) | (refine sch_pass (o := ?_) ?_ ?_ ?_; rotate_left; (· ((conv => lhs; whnf); try exact rfl)); (· rfl); simp only [Act.put, List.setIfInBounds_toArray, List.set_cons_zero, List.set_cons_succ]) | (refine sch_look (o := ?_) (v := .agg ?_) ?_ ?_ ?_ ?_; rotate_left 2; (· ((conv => lhs; whnf); try exact rfl)); (· rfl); (· intro w' hO'; refine run_opLoadS (b := ?_) (cs := ?_) (e := ?_) (f := ?_) hO' ?_ ?_ ?_ ?_; rotate_left 4; (· exact rfl); (· exact inferInstance); (· simp; done); (· simp; done)); simp only [Act.put, List.setIfInBounds_toArray, List.set_cons_zero, List.set_cons_succ])
        first | (refine sch_look (o := ?_) (v := ?_) ?_ ?_ ?_ ?_; rotate_left 2; (· ((conv => lhs; whnf); try exact rfl)); (· rfl); (· intro w' hO'; skip; go_simp; (try exact rfl)); simp only [Act.put, List.setIfInBounds_toArray, List.set_cons_zero, List.set_cons_succ]) | (refine sch_pass (o := ?_) ?_ ?_ ?_; rotate_left; (· ((conv => lhs; whnf); try exact rfl)); (· rfl); simp only [Act.put, List.setIfInBounds_toArray, List.set_cons_zero, List.set_cons_succ]) | (refine sch_look (o := ?_) (v := .agg ?_) ?_ ?_ ?_ ?_; rotate_left 2; (· ((conv => lhs; whnf); try exact rfl)); (· rfl); (· intro w' hO'; refine run_opLoadS (b := ?_) (cs := ?_) (e := ?_) (f := ?_) hO' ?_ ?_ ?_ ?_; rotate_left 4; (· exact rfl); (· exact inferInstance); (· simp; done); (· simp; done)); simp only [Act.put, List.setIfInBounds_toArray, List.set_cons_zero, List.set_cons_succ])
        first | (refine sch_look (o := ?_) (v := ?_) ?_ ?_ ?_ ?_; rotate_left 2; (· ((conv => lhs; whnf); try exact rfl)); (· rfl); (· intro w' hO'; skip; go_simp; (try exact rfl)); simp only [Act.put, List.setIfInBounds_toArray, List.set_cons_zero, List.set_cons_succ]) | (refine sch_pass (o := ?_) ?_ ?_ ?_; rotate_left; (· ((conv => lhs; whnf); try exact rfl)); (· rfl); simp only [Act.put, List.setIfInBounds_toArray, List.set_cons_zero, List.set_cons_succ]) | (refine sch_look (o := ?_) (v := .agg ?_) ?_ ?_ ?_ ?_; rotate_left 2; (· ((conv => lhs; whnf); try exact rfl)); (· rfl); (· intro w' hO'; refine run_opLoadS (b := ?_) (cs := ?_) (e := ?_) (f := ?_) hO' ?_ ?_ ?_ ?_; rotate_left 4; (· exact rfl); (· exact inferInstance); (· simp; done); (· simp; done)); simp only [Act.put, List.setIfInBounds_toArray, List.set_cons_zero, List.set_cons_succ])
        first | (refine sch_look (o := ?_) (v := ?_) ?_ ?_ ?_ ?_; rotate_left 2; (· ((conv => lhs; whnf); try exact rfl)); (· rfl); (· intro w' hO'; skip; go_simp; (try exact rfl)); simp only [Act.put, List.setIfInBounds_toArray, List.set_cons_zero, List.set_cons_succ]) | (refine sch_pass (o := ?_) ?_ ?_ ?_; rotate_left; (· ((conv => lhs; whnf); try exact rfl)); (· rfl); simp only [Act.put, List.setIfInBounds_toArray, List.set_cons_zero, List.set_cons_succ]) | (refine sch_look (o := ?_) (v := .agg ?_) ?_ ?_ ?_ ?_; rotate_left 2; (· ((conv => lhs; whnf); try exact rfl)); (· rfl); (· intro w' hO'; refine run_opLoadS (b := ?_) (cs := ?_) (e := ?_) (f := ?_) hO' ?_ ?_ ?_ ?_; rotate_left 4; (· exact rfl); (· exact inferInstance); (· simp; done); (· simp; done)); simp only [Act.put, List.setIfInBounds_toArray, List.set_cons_zero, List.set_cons_succ])
        (refine sch_look (o := ?_) (v := .bool true) ?_ ?_ ?_ ?_; rotate_left; (· ((conv => lhs; whnf); try exact rfl)); (· rfl); (· intro w' hO'; go_simp; (try rw [g6]); (try exact rfl); (try omega)); simp only [Act.put, List.setIfInBounds_toArray, List.set_cons_zero, List.set_cons_succ])
        first | (refine sch_look (o := ?_) (v := ?_) ?_ ?_ ?_ ?_; rotate_left 2; (· ((conv => lhs; whnf); try exact rfl)); (· rfl); (· intro w' hO'; skip; go_simp; (try exact rfl)); simp only [Act.put, List.setIfInBounds_toArray, List.set_cons_zero, List.set_cons_succ]) | (refine sch_pass (o := ?_) ?_ ?_ ?_; rotate_left; (· ((conv => lhs; whnf); try exact rfl)); (· rfl); simp only [Act.put, List.setIfInBounds_toArray, List.set_cons_zero, List.set_cons_succ]) | (refine sch_look (o := ?_) (v := .agg ?_) ?_ ?_ ?_ ?_; rotate_left 2; (· ((conv => lhs; whnf); try exact rfl)); (· rfl); (· intro w' hO'; refine run_opLoadS (b := ?_) (cs := ?_) (e := ?_) (f := ?_) hO' ?_ ?_ ?_ ?_; rotate_left 4; (· exact rfl); (· exact inferInstance); (· simp; done); (· simp; done)); simp only [Act.put, List.setIfInBounds_toArray, List.set_cons_zero, List.set_cons_succ])
        first | (refine sch_look (o := ?_) (v := ?_) ?_ ?_ ?_ ?_; rotate_left 2; (· ((conv => lhs; whnf); try exact rfl)); (· rfl); (· intro w' hO'; skip; go_simp; (try exact rfl)); simp only [Act.put, List.setIfInBounds_toArray, List.set_cons_zero, List.set_cons_succ]) | (refine sch_pass (o := ?_) ?_ ?_ ?_; rotate_left; (· ((conv => lhs; whnf); try exact rfl)); (· rfl); simp only [Act.put, List.setIfInBounds_toArray, List.set_cons_zero, List.set_cons_succ]) | (refine sch_look (o := ?_) (v := .agg ?_) ?_ ?_ ?_ ?_; rotate_left 2; (· ((conv => lhs; whnf); try exact rfl)); (· rfl); (· intro w' hO'; refine run_opLoadS (b := ?_) (cs := ?_) (e := ?_) (f := ?_) hO' ?_ ?_ ?_ ?_; rotate_left 4; (· exact rfl); (· exact inferInstance); (· simp; done); (· simp; done)); simp only [Act.put, List.setIfInBounds_toArray, List.set_cons_zero, List.set_cons_succ])
        first | (refine sch_look (o := ?_) (v := ?_) ?_ ?_ ?_ ?_; rotate_left 2; (· ((conv => lhs; whnf); try exact rfl)); (· rfl); (· intro w' hO'; skip; go_simp; (try exact rfl)); simp only [Act.put, List.setIfInBounds_toArray, List.set_cons_zero, List.set_cons_succ]) | (refine sch_pass (o := ?_) ?_ ?_ ?_; rotate_left; (· ((conv => lhs; whnf); try exact rfl)); (· rfl); simp only [Act.put, List.setIfInBounds_toArray, List.set_cons_zero, List.set_cons_succ]) | (refine sch_look (o := ?_) (v := .agg ?_) ?_ ?_ ?_ ?_; rotate_left 2; (· ((conv => lhs; whnf); try exact rfl)); (· rfl); (· intro w' hO'; refine run_opLoadS (b := ?_) (cs := ?_) (e := ?_) (f := ?_) hO' ?_ ?_ ?_ ?_; rotate_left 4; (· exact rfl); (· exact inferInstance); (· simp; done); (· simp; done)); simp only [Act.put, List.setIfInBounds_toArray, List.set_cons_zero, List.set_cons_succ])
        first | (refine sch_look (o := ?_) (v := ?_) ?_ ?_ ?_ ?_; rotate_left 2; (· ((conv => lhs; whnf); try exact rfl)); (· rfl); (· intro w' hO'; skip; go_simp; (try exact rfl)); simp only [Act.put, List.setIfInBounds_toArray, List.set_cons_zero, List.set_cons_succ]) | (refine sch_pass (o := ?_) ?_ ?_ ?_; rotate_left; (· ((conv => lhs; whnf); try exact rfl)); (· rfl); simp only [Act.put, List.setIfInBounds_toArray, List.set_cons_zero, List.set_cons_succ]) | (refine sch_look (o := ?_) (v := .agg ?_) ?_ ?_ ?_ ?_; rotate_left 2; (· ((conv => lhs; whnf); try exact rfl)); (· rfl); (· intro w' hO'; refine run_opLoadS (b := ?_) (cs := ?_) (e := ?_) (f := ?_) hO' ?_ ?_ ?_ ?_; rotate_left 4; (· exact rfl); (· exact inferInstance); (· simp; done); (· simp; done)); simp only [Act.put, List.setIfInBounds_toArray, List.set_cons_zero, List.set_cons_succ])
        (refine sch_look (o := ?_) (v := .agg ([.int .i64 u.e.d.k, .int .i64 u.e.d.n, .string u.e.d.s, .slice u.a u.e.d.l.length u.c, .int .i64 u.e.t] : List Value).toArray) ?_ ?_ ?_ ?_; rotate_left; (· ((conv => lhs; whnf); try exact rfl)); (· rfl); (· intro w' hO'; exact run_opLoadC (ad := ⟨b1, j * 5, none⟩) (cs := [.int .i64 u.e.d.k, .int .i64 u.e.d.n, .string u.e.d.s, .slice u.a u.e.d.l.length u.c, .int .i64 u.e.t]) (HU.out _ _ (hO'.as (SO1 ++ []))) rfl (by simp) (by simp)); simp only [Act.put, List.setIfInBounds_toArray, List.set_cons_zero, List.set_cons_succ])
        first | (refine sch_look (o := ?_) (v := ?_) ?_ ?_ ?_ ?_; rotate_left 2; (· ((conv => lhs; whnf); try exact rfl)); (· rfl); (· intro w' hO'; skip; go_simp; (try exact rfl)); simp only [Act.put, List.setIfInBounds_toArray, List.set_cons_zero, List.set_cons_succ]) | (refine sch_pass (o := ?_) ?_ ?_ ?_; rotate_left; (· ((conv => lhs; whnf); try exact rfl)); (· rfl); simp only [Act.put, List.setIfInBounds_toArray, List.set_cons_zero, List.set_cons_succ]) | (refine sch_look (o := ?_) (v := .agg ?_) ?_ ?_ ?_ ?_; rotate_left 2; (· ((conv => lhs; whnf); try exact rfl)); (· rfl); (· intro w' hO'; refine run_opLoadS (b := ?_) (cs := ?_) (e := ?_) (f := ?_) hO' ?_ ?_ ?_ ?_; rotate_left 4; (· exact rfl); (· exact inferInstance); (· simp; done); (· simp; done)); simp only [Act.put, List.setIfInBounds_toArray, List.set_cons_zero, List.set_cons_succ])
        first | (refine sch_look (o := ?_) (v := ?_) ?_ ?_ ?_ ?_; rotate_left 2; (· ((conv => lhs; whnf); try exact rfl)); (· rfl); (· intro w' hO'; skip; go_simp; (try exact rfl)); simp only [Act.put, List.setIfInBounds_toArray, List.set_cons_zero, List.set_cons_succ]) | (refine sch_pass (o := ?_) ?_ ?_ ?_; rotate_left; (· ((conv => lhs; whnf); try exact rfl)); (· rfl); simp only [Act.put, List.setIfInBounds_toArray, List.set_cons_zero, List.set_cons_succ]) | (refine sch_look (o := ?_) (v := .agg ?_) ?_ ?_ ?_ ?_; rotate_left 2; (· ((conv => lhs; whnf); try exact rfl)); (· rfl); (· intro w' hO'; refine run_opLoadS (b := ?_) (cs := ?_) (e := ?_) (f := ?_) hO' ?_ ?_ ?_ ?_; rotate_left 4; (· exact rfl); (· exact inferInstance); (· simp; done); (· simp; done)); simp only [Act.put, List.setIfInBounds_toArray, List.set_cons_zero, List.set_cons_succ])
        first | (refine sch_look (o := ?_) (v := ?_) ?_ ?_ ?_ ?_; rotate_left 2; (· ((conv => lhs; whnf); try exact rfl)); (· rfl); (· intro w' hO'; skip; go_simp; (try exact rfl)); simp only [Act.put, List.setIfInBounds_toArray, List.set_cons_zero, List.set_cons_succ]) | (refine sch_pass (o := ?_) ?_ ?_ ?_; rotate_left; (· ((conv => lhs; whnf); try exact rfl)); (· rfl); simp only [Act.put, List.setIfInBounds_toArray, List.set_cons_zero, List.set_cons_succ]) | (refine sch_look (o := ?_) (v := .agg ?_) ?_ ?_ ?_ ?_; rotate_left 2; (· ((conv => lhs; whnf); try exact rfl)); (· rfl); (· intro w' hO'; refine run_opLoadS (b := ?_) (cs := ?_) (e := ?_) (f := ?_) hO' ?_ ?_ ?_ ?_; rotate_left 4; (· exact rfl); (· exact inferInstance); (· simp; done); (· simp; done)); simp only [Act.put, List.setIfInBounds_toArray, List.set_cons_zero, List.set_cons_succ])
        (refine sch_look (o := ?_) (v := .agg ([.int .i64 x.e.d.k, .int .i64 x.e.d.n, .string x.e.d.s, .slice x.a x.e.d.l.length x.c, .int .i64 x.e.t] : List Value).toArray) ?_ ?_ ?_ ?_; rotate_left; (· ((conv => lhs; whnf); try exact rfl)); (· rfl); (· intro w' hO'; exact run_opLoadC (ad := ⟨b3, j * 5, none⟩) (cs := [.int .i64 x.e.d.k, .int .i64 x.e.d.n, .string x.e.d.s, .slice x.a x.e.d.l.length x.c, .int .i64 x.e.t]) (HX.out _ _ (hO'.as (SO3 ++ []))) rfl (by simp) (by simp)); simp only [Act.put, List.setIfInBounds_toArray, List.set_cons_zero, List.set_cons_succ])
        (refine sch_act (o := ?_) ?_ ?_; rotate_left; (· ((conv => lhs; whnf); try exact rfl)))
        go_wp2_with fail
        refine (refSame E _ _ (SO4 ++ (SO3 ++ (SO2 ++ (SO1 ++ ((pt kq (.cells #[.int .i64 d.k, .int .i64 d.n, .string d.s, .slice ea d.l.length ec] 30 (0, 0)) ++ I) ++ (SL ++ R)))))) A u.e x.e u.a x.a u.c x.c HUO.out HXO.out HUI.out HXI.out (hO.as (A ++ (SO4 ++ (SO3 ++ (SO2 ++ (SO1 ++ ((pt kq (.cells #[.int .i64 d.k, .int .i64 d.n, .string d.s, .slice ea d.l.length ec] 30 (0, 0)) ++ I) ++ (SL ++ R))))))))).mono ?_
        rw [decide_eq_true HUX.out]
        clear hO
        rintro e w3 ⟨rfl, hO⟩
        go_wp2_with fail
        refine ⟨hO.as _, ?_⟩
        first | (refine sch_look (o := ?_) (v := ?_) ?_ ?_ ?_ ?_; rotate_left 2; (· ((conv => lhs; whnf); try exact rfl)); (· rfl); (· intro w' hO'; skip; go_simp; (try exact rfl)); simp only [Act.put, List.setIfInBounds_toArray, List.set_cons_zero, List.set_cons_succ]) | (refine sch_pass (o := ?_) ?_ ?_ ?_; rotate_left; (· ((conv => lhs; whnf); try exact rfl)); (· rfl); simp only [Act.put, List.setIfInBounds_toArray, List.set_cons_zero, List.set_cons_succ]) | (refine sch_look (o := ?_) (v := .agg ?_) ?_ ?_ ?_ ?_; rotate_left 2; (· ((conv => lhs; whnf); try exact rfl)); (· rfl); (· intro w' hO'; refine run_opLoadS (b := ?_) (cs := ?_) (e := ?_) (f := ?_) hO' ?_ ?_ ?_ ?_; rotate_left 4; (· exact rfl); (· exact inferInstance); (· simp; done); (· simp; done)); simp only [Act.put, List.setIfInBounds_toArray, List.set_cons_zero, List.set_cons_succ])
        first | (refine sch_look (o := ?_) (v := ?_) ?_ ?_ ?_ ?_; rotate_left 2; (· ((conv => lhs; whnf); try exact rfl)); (· rfl); (· intro w' hO'; skip; go_simp; (try exact rfl)); simp only [Act.put, List.setIfInBounds_toArray, List.set_cons_zero, List.set_cons_succ]) | (refine sch_pass (o := ?_) ?_ ?_ ?_; rotate_left; (· ((conv => lhs; whnf); try exact rfl)); (· rfl); simp only [Act.put, List.setIfInBounds_toArray, List.set_cons_zero, List.set_cons_succ]) | (refine sch_look (o := ?_) (v := .agg ?_) ?_ ?_ ?_ ?_; rotate_left 2; (· ((conv => lhs; whnf); try exact rfl)); (· rfl); (· intro w' hO'; refine run_opLoadS (b := ?_) (cs := ?_) (e := ?_) (f := ?_) hO' ?_ ?_ ?_ ?_; rotate_left 4; (· exact rfl); (· exact inferInstance); (· simp; done); (· simp; done)); simp only [Act.put, List.setIfInBounds_toArray, List.set_cons_zero, List.set_cons_succ])
        first | (refine sch_look (o := ?_) (v := ?_) ?_ ?_ ?_ ?_; rotate_left 2; (· ((conv => lhs; whnf); try exact rfl)); (· rfl); (· intro w' hO'; skip; go_simp; (try exact rfl)); simp only [Act.put, List.setIfInBounds_toArray, List.set_cons_zero, List.set_cons_succ]) | (refine sch_pass (o := ?_) ?_ ?_ ?_; rotate_left; (· ((conv => lhs; whnf); try exact rfl)); (· rfl); simp only [Act.put, List.setIfInBounds_toArray, List.set_cons_zero, List.set_cons_succ]) | (refine sch_look (o := ?_) (v := .agg ?_) ?_ ?_ ?_ ?_; rotate_left 2; (· ((conv => lhs; whnf); try exact rfl)); (· rfl); (· intro w' hO'; refine run_opLoadS (b := ?_) (cs := ?_) (e := ?_) (f := ?_) hO' ?_ ?_ ?_ ?_; rotate_left 4; (· exact rfl); (· exact inferInstance); (· simp; done); (· simp; done)); simp only [Act.put, List.setIfInBounds_toArray, List.set_cons_zero, List.set_cons_succ])
        refine sch_done ?_
        replace hO : Own E _ (SO4 ++ (SO3 ++ (SO2 ++ (SO1 ++ (A ++ ((pt kq (.cells #[.int .i64 d.k, .int .i64 d.n, .string d.s, .slice ea d.l.length ec] 30 (0, 0)) ++ I) ++ (SL ++ R))))))) := hO.as _
        go_wp2_with fail
        have hlt := HLT.out
        go_roundw
        case rel => exact ⟨j + 1, by go_num, hlt, hO⟩
        case measure => (clear hw0 hw1 q1 q2 q3 q4; simp [intOf]; omega)
      · have g5 : ¬ (j : Int) < os1.length := by omega
        have g6 : decide ((j : Int) < os1.length) = false := decide_eq_false g5
        clear hx hy hxy hmx hmy hlt hj hn3 hn4 hk hk3 hk4 hlo
        go_wp2_with fail
        (try (go_wp2_with fail))
        refine region_sch (fun w' => Own E w' (SO4 ++ (SO3 ++ SO1))) (.look 0 (.look 1 (.look 2 (.look 3 (.look 4 (.look 5 (.look 6 (.look 7 (.look 8 (.look 9 (.look 10 (.look 11 (.act 12 (.look 13 (.look 14 (.look 15 (.look 16 (.look 17 (.look 18 (.look 19 (.look 20 (.look 21 (.look 22 (.look 23 (.look 24 (.look 25 (.look 26 (.look 27 (.look 28 (.look 29 (.look 30 (.look 31 .done)))))))))))))))))))))))))))))))) (by kernel_rfl) (by kernel_rfl) (fun _ _ d _ _ h => by cases d <;> exact h) ?_ ?_
        · exact hO.drew.as _
        replace hO := hO.drew
        generalize World.drew _ = wdr at hO ⊢
        first | (refine sch_look (o := ?_) (v := ?_) ?_ ?_ ?_ ?_; rotate_left 2; (· ((conv => lhs; whnf); try exact rfl)); (· rfl); (· intro w' hO'; skip; go_simp; (try exact rfl)); simp only [Act.put, List.setIfInBounds_toArray, List.set_cons_zero, List.set_cons_succ]) | (refine sch_pass (o := ?_) ?_ ?_ ?_; rotate_left; (· ((conv => lhs; whnf); try exact rfl)); (· rfl); simp only [Act.put, List.setIfInBounds_toArray, List.set_cons_zero, List.set_cons_succ]) | (refine sch_look (o := ?_) (v := .agg ?_) ?_ ?_ ?_ ?_; rotate_left 2; (· ((conv => lhs; whnf); try exact rfl)); (· rfl); (· intro w' hO'; refine run_opLoadS (b := ?_) (cs := ?_) (e := ?_) (f := ?_) hO' ?_ ?_ ?_ ?_; rotate_left 4; (· exact rfl); (· exact inferInstance); (· simp; done); (· simp; done)); simp only [Act.put, List.setIfInBounds_toArray, List.set_cons_zero, List.set_cons_succ])
        first | (refine sch_look (o := ?_) (v := ?_) ?_ ?_ ?_ ?_; rotate_left 2; (· ((conv => lhs; whnf); try exact rfl)); (· rfl); (· intro w' hO'; skip; go_simp; (try exact rfl)); simp only [Act.put, List.setIfInBounds_toArray, List.set_cons_zero, List.set_cons_succ]) | (refine sch_pass (o := ?_) ?_ ?_ ?_; rotate_left; (· ((conv => lhs; whnf); try exact rfl)); (· rfl); simp only [Act.put, List.setIfInBounds_toArray, List.set_cons_zero, List.set_cons_succ]) | (refine sch_look (o := ?_) (v := .agg ?_) ?_ ?_ ?_ ?_; rotate_left 2; (· ((conv => lhs; whnf); try exact rfl)); (· rfl); (· intro w' hO'; refine run_opLoadS (b := ?_) (cs := ?_) (e := ?_) (f := ?_) hO' ?_ ?_ ?_ ?_; rotate_left 4; (· exact rfl); (· exact inferInstance); (· simp; done); (· simp; done)); simp only [Act.put, List.setIfInBounds_toArray, List.set_cons_zero, List.set_cons_succ])
        first | (refine sch_look (o := ?_) (v := ?_) ?_ ?_ ?_ ?_; rotate_left 2; (· ((conv => lhs; whnf); try exact rfl)); (· rfl); (· intro w' hO'; skip; go_simp; (try exact rfl)); simp only [Act.put, List.setIfInBounds_toArray, List.set_cons_zero, List.set_cons_succ]) | (refine sch_pass (o := ?_) ?_ ?_ ?_; rotate_left; (· ((conv => lhs; whnf); try exact rfl)); (· rfl); simp only [Act.put, List.setIfInBounds_toArray, List.set_cons_zero, List.set_cons_succ]) | (refine sch_look (o := ?_) (v := .agg ?_) ?_ ?_ ?_ ?_; rotate_left 2; (· ((conv => lhs; whnf); try exact rfl)); (· rfl); (· intro w' hO'; refine run_opLoadS (b := ?_) (cs := ?_) (e := ?_) (f := ?_) hO' ?_ ?_ ?_ ?_; rotate_left 4; (· exact rfl); (· exact inferInstance); (· simp; done); (· simp; done)); simp only [Act.put, List.setIfInBounds_toArray, List.set_cons_zero, List.set_cons_succ])
        (refine sch_look (o := ?_) (v := .agg ([.int .i64 x.e.d.k, .int .i64 x.e.d.n, .string x.e.d.s, .slice x.a x.e.d.l.length x.c, .int .i64 x.e.t] : List Value).toArray) ?_ ?_ ?_ ?_; rotate_left; (· ((conv => lhs; whnf); try exact rfl)); (· rfl); (· intro w' hO'; exact run_opLoadC (ad := ⟨b3, j * 5, none⟩) (cs := [.int .i64 x.e.d.k, .int .i64 x.e.d.n, .string x.e.d.s, .slice x.a x.e.d.l.length x.c, .int .i64 x.e.t]) (HX.out _ _ (hO'.as (SO3 ++ []))) rfl (by simp) (by simp)); simp only [Act.put, List.setIfInBounds_toArray, List.set_cons_zero, List.set_cons_succ])
        first | (refine sch_look (o := ?_) (v := ?_) ?_ ?_ ?_ ?_; rotate_left 2; (· ((conv => lhs; whnf); try exact rfl)); (· rfl); (· intro w' hO'; skip; go_simp; (try exact rfl)); simp only [Act.put, List.setIfInBounds_toArray, List.set_cons_zero, List.set_cons_succ]) | (refine sch_pass (o := ?_) ?_ ?_ ?_; rotate_left; (· ((conv => lhs; whnf); try exact rfl)); (· rfl); simp only [Act.put, List.setIfInBounds_toArray, List.set_cons_zero, List.set_cons_succ]) | (refine sch_look (o := ?_) (v := .agg ?_) ?_ ?_ ?_ ?_; rotate_left 2; (· ((conv => lhs; whnf); try exact rfl)); (· rfl); (· intro w' hO'; refine run_opLoadS (b := ?_) (cs := ?_) (e := ?_) (f := ?_) hO' ?_ ?_ ?_ ?_; rotate_left 4; (· exact rfl); (· exact inferInstance); (· simp; done); (· simp; done)); simp only [Act.put, List.setIfInBounds_toArray, List.set_cons_zero, List.set_cons_succ])
        first | (refine sch_look (o := ?_) (v := ?_) ?_ ?_ ?_ ?_; rotate_left 2; (· ((conv => lhs; whnf); try exact rfl)); (· rfl); (· intro w' hO'; skip; go_simp; (try exact rfl)); simp only [Act.put, List.setIfInBounds_toArray, List.set_cons_zero, List.set_cons_succ]) | (refine sch_pass (o := ?_) ?_ ?_ ?_; rotate_left; (· ((conv => lhs; whnf); try exact rfl)); (· rfl); simp only [Act.put, List.setIfInBounds_toArray, List.set_cons_zero, List.set_cons_succ]) | (refine sch_look (o := ?_) (v := .agg ?_) ?_ ?_ ?_ ?_; rotate_left 2; (· ((conv => lhs; whnf); try exact rfl)); (· rfl); (· intro w' hO'; refine run_opLoadS (b := ?_) (cs := ?_) (e := ?_) (f := ?_) hO' ?_ ?_ ?_ ?_; rotate_left 4; (· exact rfl); (· exact inferInstance); (· simp; done); (· simp; done)); simp only [Act.put, List.setIfInBounds_toArray, List.set_cons_zero, List.set_cons_succ])
        first | (refine sch_look (o := ?_) (v := ?_) ?_ ?_ ?_ ?_; rotate_left 2; (· ((conv => lhs; whnf); try exact rfl)); (· rfl); (· intro w' hO'; skip; go_simp; (try exact rfl)); simp only [Act.put, List.setIfInBounds_toArray, List.set_cons_zero, List.set_cons_succ]) | (refine sch_pass (o := ?_) ?_ ?_ ?_; rotate_left; (· ((conv => lhs; whnf); try exact rfl)); (· rfl); simp only [Act.put, List.setIfInBounds_toArray, List.set_cons_zero, List.set_cons_succ]) | (refine sch_look (o := ?_) (v := .agg ?_) ?_ ?_ ?_ ?_; rotate_left 2; (· ((conv => lhs; whnf); try exact rfl)); (· rfl); (· intro w' hO'; refine run_opLoadS (b := ?_) (cs := ?_) (e := ?_) (f := ?_) hO' ?_ ?_ ?_ ?_; rotate_left 4; (· exact rfl); (· exact inferInstance); (· simp; done); (· simp; done)); simp only [Act.put, List.setIfInBounds_toArray, List.set_cons_zero, List.set_cons_succ])
        first | (refine sch_look (o := ?_) (v := ?_) ?_ ?_ ?_ ?_; rotate_left 2; (· ((conv => lhs; whnf); try exact rfl)); (· rfl); (· intro w' hO'; skip; go_simp; (try exact rfl)); simp only [Act.put, List.setIfInBounds_toArray, List.set_cons_zero, List.set_cons_succ]) | (refine sch_pass (o := ?_) ?_ ?_ ?_; rotate_left; (· ((conv => lhs; whnf); try exact rfl)); (· rfl); simp only [Act.put, List.setIfInBounds_toArray, List.set_cons_zero, List.set_cons_succ]) | (refine sch_look (o := ?_) (v := .agg ?_) ?_ ?_ ?_ ?_; rotate_left 2; (· ((conv => lhs; whnf); try exact rfl)); (· rfl); (· intro w' hO'; refine run_opLoadS (b := ?_) (cs := ?_) (e := ?_) (f := ?_) hO' ?_ ?_ ?_ ?_; rotate_left 4; (· exact rfl); (· exact inferInstance); (· simp; done); (· simp; done)); simp only [Act.put, List.setIfInBounds_toArray, List.set_cons_zero, List.set_cons_succ])
        first | (refine sch_look (o := ?_) (v := ?_) ?_ ?_ ?_ ?_; rotate_left 2; (· ((conv => lhs; whnf); try exact rfl)); (· rfl); (· intro w' hO'; skip; go_simp; (try exact rfl)); simp only [Act.put, List.setIfInBounds_toArray, List.set_cons_zero, List.set_cons_succ]) | (refine sch_pass (o := ?_) ?_ ?_ ?_; rotate_left; (· ((conv => lhs; whnf); try exact rfl)); (· rfl); simp only [Act.put, List.setIfInBounds_toArray, List.set_cons_zero, List.set_cons_succ]) | (refine sch_look (o := ?_) (v := .agg ?_) ?_ ?_ ?_ ?_; rotate_left 2; (· ((conv => lhs; whnf); try exact rfl)); (· rfl); (· intro w' hO'; refine run_opLoadS (b := ?_) (cs := ?_) (e := ?_) (f := ?_) hO' ?_ ?_ ?_ ?_; rotate_left 4; (· exact rfl); (· exact inferInstance); (· simp; done); (· simp; done)); simp only [Act.put, List.setIfInBounds_toArray, List.set_cons_zero, List.set_cons_succ])
        first | (refine sch_look (o := ?_) (v := ?_) ?_ ?_ ?_ ?_; rotate_left 2; (· ((conv => lhs; whnf); try exact rfl)); (· rfl); (· intro w' hO'; skip; go_simp; (try exact rfl)); simp only [Act.put, List.setIfInBounds_toArray, List.set_cons_zero, List.set_cons_succ]) | (refine sch_pass (o := ?_) ?_ ?_ ?_; rotate_left; (· ((conv => lhs; whnf); try exact rfl)); (· rfl); simp only [Act.put, List.setIfInBounds_toArray, List.set_cons_zero, List.set_cons_succ]) | (refine sch_look (o := ?_) (v := .agg ?_) ?_ ?_ ?_ ?_; rotate_left 2; (· ((conv => lhs; whnf); try exact rfl)); (· rfl); (· intro w' hO'; refine run_opLoadS (b := ?_) (cs := ?_) (e := ?_) (f := ?_) hO' ?_ ?_ ?_ ?_; rotate_left 4; (· exact rfl); (· exact inferInstance); (· simp; done); (· simp; done)); simp only [Act.put, List.setIfInBounds_toArray, List.set_cons_zero, List.set_cons_succ])
        first | (refine sch_look (o := ?_) (v := ?_) ?_ ?_ ?_ ?_; rotate_left 2; (· ((conv => lhs; whnf); try exact rfl)); (· rfl); (· intro w' hO'; skip; go_simp; (try exact rfl)); simp only [Act.put, List.setIfInBounds_toArray, List.set_cons_zero, List.set_cons_succ]) | (refine sch_pass (o := ?_) ?_ ?_ ?_; rotate_left; (· ((conv => lhs; whnf); try exact rfl)); (· rfl); simp only [Act.put, List.setIfInBounds_toArray, List.set_cons_zero, List.set_cons_succ]) | (refine sch_look (o := ?_) (v := .agg ?_) ?_ ?_ ?_ ?_; rotate_left 2; (· ((conv => lhs; whnf); try exact rfl)); (· rfl); (· intro w' hO'; refine run_opLoadS (b := ?_) (cs := ?_) (e := ?_) (f := ?_) hO' ?_ ?_ ?_ ?_; rotate_left 4; (· exact rfl); (· exact inferInstance); (· simp; done); (· simp; done)); simp only [Act.put, List.setIfInBounds_toArray, List.set_cons_zero, List.set_cons_succ])
        (refine sch_look (o := ?_) (v := .agg ([.int .i64 y.e.d.k, .int .i64 y.e.d.n, .string y.e.d.s, .slice y.a y.e.d.l.length y.c, .int .i64 y.e.t] : List Value).toArray) ?_ ?_ ?_ ?_; rotate_left; (· ((conv => lhs; whnf); try exact rfl)); (· rfl); (· intro w' hO'; exact run_opLoadC (ad := ⟨b4, k * 5, none⟩) (cs := [.int .i64 y.e.d.k, .int .i64 y.e.d.n, .string y.e.d.s, .slice y.a y.e.d.l.length y.c, .int .i64 y.e.t]) (HY.out _ _ (hO'.as (SO4 ++ []))) rfl (by simp) (by simp)); simp only [Act.put, List.setIfInBounds_toArray, List.set_cons_zero, List.set_cons_succ])
        (refine sch_act (o := ?_) ?_ ?_; rotate_left; (· ((conv => lhs; whnf); try exact rfl)))
        go_wp2_with fail
        refine (refSame E _ _ (SO4 ++ (SO3 ++ (SO2 ++ (SO1 ++ ((pt kq (.cells #[.int .i64 d.k, .int .i64 d.n, .string d.s, .slice ea d.l.length ec] 30 (0, 0)) ++ I) ++ (SL ++ R)))))) A x.e y.e x.a y.a x.c y.c HXO.out HYO.out HXI.out HYI.out (hO.as (A ++ (SO4 ++ (SO3 ++ (SO2 ++ (SO1 ++ ((pt kq (.cells #[.int .i64 d.k, .int .i64 d.n, .string d.s, .slice ea d.l.length ec] 30 (0, 0)) ++ I) ++ (SL ++ R))))))))).mono ?_
        rw [decide_eq_true HXY.out.symm]
        clear hO
        rintro e w3 ⟨rfl, hO⟩
        go_wp2_with fail
        refine ⟨hO.as _, ?_⟩
        first | (refine sch_look (o := ?_) (v := ?_) ?_ ?_ ?_ ?_; rotate_left 2; (· ((conv => lhs; whnf); try exact rfl)); (· rfl); (· intro w' hO'; skip; go_simp; (try exact rfl)); simp only [Act.put, List.setIfInBounds_toArray, List.set_cons_zero, List.set_cons_succ]) | (refine sch_pass (o := ?_) ?_ ?_ ?_; rotate_left; (· ((conv => lhs; whnf); try exact rfl)); (· rfl); simp only [Act.put, List.setIfInBounds_toArray, List.set_cons_zero, List.set_cons_succ]) | (refine sch_look (o := ?_) (v := .agg ?_) ?_ ?_ ?_ ?_; rotate_left 2; (· ((conv => lhs; whnf); try exact rfl)); (· rfl); (· intro w' hO'; refine run_opLoadS (b := ?_) (cs := ?_) (e := ?_) (f := ?_) hO' ?_ ?_ ?_ ?_; rotate_left 4; (· exact rfl); (· exact inferInstance); (· simp; done); (· simp; done)); simp only [Act.put, List.setIfInBounds_toArray, List.set_cons_zero, List.set_cons_succ])
        first | (refine sch_look (o := ?_) (v := ?_) ?_ ?_ ?_ ?_; rotate_left 2; (· ((conv => lhs; whnf); try exact rfl)); (· rfl); (· intro w' hO'; skip; go_simp; (try exact rfl)); simp only [Act.put, List.setIfInBounds_toArray, List.set_cons_zero, List.set_cons_succ]) | (refine sch_pass (o := ?_) ?_ ?_ ?_; rotate_left; (· ((conv => lhs; whnf); try exact rfl)); (· rfl); simp only [Act.put, List.setIfInBounds_toArray, List.set_cons_zero, List.set_cons_succ]) | (refine sch_look (o := ?_) (v := .agg ?_) ?_ ?_ ?_ ?_; rotate_left 2; (· ((conv => lhs; whnf); try exact rfl)); (· rfl); (· intro w' hO'; refine run_opLoadS (b := ?_) (cs := ?_) (e := ?_) (f := ?_) hO' ?_ ?_ ?_ ?_; rotate_left 4; (· exact rfl); (· exact inferInstance); (· simp; done); (· simp; done)); simp only [Act.put, List.setIfInBounds_toArray, List.set_cons_zero, List.set_cons_succ])
        first | (refine sch_look (o := ?_) (v := ?_) ?_ ?_ ?_ ?_; rotate_left 2; (· ((conv => lhs; whnf); try exact rfl)); (· rfl); (· intro w' hO'; skip; go_simp; (try exact rfl)); simp only [Act.put, List.setIfInBounds_toArray, List.set_cons_zero, List.set_cons_succ]) | (refine sch_pass (o := ?_) ?_ ?_ ?_; rotate_left; (· ((conv => lhs; whnf); try exact rfl)); (· rfl); simp only [Act.put, List.setIfInBounds_toArray, List.set_cons_zero, List.set_cons_succ]) | (refine sch_look (o := ?_) (v := .agg ?_) ?_ ?_ ?_ ?_; rotate_left 2; (· ((conv => lhs; whnf); try exact rfl)); (· rfl); (· intro w' hO'; refine run_opLoadS (b := ?_) (cs := ?_) (e := ?_) (f := ?_) hO' ?_ ?_ ?_ ?_; rotate_left 4; (· exact rfl); (· exact inferInstance); (· simp; done); (· simp; done)); simp only [Act.put, List.setIfInBounds_toArray, List.set_cons_zero, List.set_cons_succ])
        first | (refine sch_look (o := ?_) (v := ?_) ?_ ?_ ?_ ?_; rotate_left 2; (· ((conv => lhs; whnf); try exact rfl)); (· rfl); (· intro w' hO'; skip; go_simp; (try exact rfl)); simp only [Act.put, List.setIfInBounds_toArray, List.set_cons_zero, List.set_cons_succ]) | (refine sch_pass (o := ?_) ?_ ?_ ?_; rotate_left; (· ((conv => lhs; whnf); try exact rfl)); (· rfl); simp only [Act.put, List.setIfInBounds_toArray, List.set_cons_zero, List.set_cons_succ]) | (refine sch_look (o := ?_) (v := .agg ?_) ?_ ?_ ?_ ?_; rotate_left 2; (· ((conv => lhs; whnf); try exact rfl)); (· rfl); (· intro w' hO'; refine run_opLoadS (b := ?_) (cs := ?_) (e := ?_) (f := ?_) hO' ?_ ?_ ?_ ?_; rotate_left 4; (· exact rfl); (· exact inferInstance); (· simp; done); (· simp; done)); simp only [Act.put, List.setIfInBounds_toArray, List.set_cons_zero, List.set_cons_succ])
        first | (refine sch_look (o := ?_) (v := ?_) ?_ ?_ ?_ ?_; rotate_left 2; (· ((conv => lhs; whnf); try exact rfl)); (· rfl); (· intro w' hO'; skip; go_simp; (try exact rfl)); simp only [Act.put, List.setIfInBounds_toArray, List.set_cons_zero, List.set_cons_succ]) | (refine sch_pass (o := ?_) ?_ ?_ ?_; rotate_left; (· ((conv => lhs; whnf); try exact rfl)); (· rfl); simp only [Act.put, List.setIfInBounds_toArray, List.set_cons_zero, List.set_cons_succ]) | (refine sch_look (o := ?_) (v := .agg ?_) ?_ ?_ ?_ ?_; rotate_left 2; (· ((conv => lhs; whnf); try exact rfl)); (· rfl); (· intro w' hO'; refine run_opLoadS (b := ?_) (cs := ?_) (e := ?_) (f := ?_) hO' ?_ ?_ ?_ ?_; rotate_left 4; (· exact rfl); (· exact inferInstance); (· simp; done); (· simp; done)); simp only [Act.put, List.setIfInBounds_toArray, List.set_cons_zero, List.set_cons_succ])
        (refine sch_look (o := ?_) (v := .bool false) ?_ ?_ ?_ ?_; rotate_left; (· ((conv => lhs; whnf); try exact rfl)); (· rfl); (· intro w' hO'; go_simp; (try rw [g6]); (try exact rfl); (try omega)); simp only [Act.put, List.setIfInBounds_toArray, List.set_cons_zero, List.set_cons_succ])
        first | (refine sch_look (o := ?_) (v := ?_) ?_ ?_ ?_ ?_; rotate_left 2; (· ((conv => lhs; whnf); try exact rfl)); (· rfl); (· intro w' hO'; skip; go_simp; (try exact rfl)); simp only [Act.put, List.setIfInBounds_toArray, List.set_cons_zero, List.set_cons_succ]) | (refine sch_pass (o := ?_) ?_ ?_ ?_; rotate_left; (· ((conv => lhs; whnf); try exact rfl)); (· rfl); simp only [Act.put, List.setIfInBounds_toArray, List.set_cons_zero, List.set_cons_succ]) | (refine sch_look (o := ?_) (v := .agg ?_) ?_ ?_ ?_ ?_; rotate_left 2; (· ((conv => lhs; whnf); try exact rfl)); (· rfl); (· intro w' hO'; refine run_opLoadS (b := ?_) (cs := ?_) (e := ?_) (f := ?_) hO' ?_ ?_ ?_ ?_; rotate_left 4; (· exact rfl); (· exact inferInstance); (· simp; done); (· simp; done)); simp only [Act.put, List.setIfInBounds_toArray, List.set_cons_zero, List.set_cons_succ])
        first | (refine sch_look (o := ?_) (v := ?_) ?_ ?_ ?_ ?_; rotate_left 2; (· ((conv => lhs; whnf); try exact rfl)); (· rfl); (· intro w' hO'; skip; go_simp; (try exact rfl)); simp only [Act.put, List.setIfInBounds_toArray, List.set_cons_zero, List.set_cons_succ]) | (refine sch_pass (o := ?_) ?_ ?_ ?_; rotate_left; (· ((conv => lhs; whnf); try exact rfl)); (· rfl); simp only [Act.put, List.setIfInBounds_toArray, List.set_cons_zero, List.set_cons_succ]) | (refine sch_look (o := ?_) (v := .agg ?_) ?_ ?_ ?_ ?_; rotate_left 2; (· ((conv => lhs; whnf); try exact rfl)); (· rfl); (· intro w' hO'; refine run_opLoadS (b := ?_) (cs := ?_) (e := ?_) (f := ?_) hO' ?_ ?_ ?_ ?_; rotate_left 4; (· exact rfl); (· exact inferInstance); (· simp; done); (· simp; done)); simp only [Act.put, List.setIfInBounds_toArray, List.set_cons_zero, List.set_cons_succ])
        first | (refine sch_look (o := ?_) (v := ?_) ?_ ?_ ?_ ?_; rotate_left 2; (· ((conv => lhs; whnf); try exact rfl)); (· rfl); (· intro w' hO'; skip; go_simp; (try exact rfl)); simp only [Act.put, List.setIfInBounds_toArray, List.set_cons_zero, List.set_cons_succ]) | (refine sch_pass (o := ?_) ?_ ?_ ?_; rotate_left; (· ((conv => lhs; whnf); try exact rfl)); (· rfl); simp only [Act.put, List.setIfInBounds_toArray, List.set_cons_zero, List.set_cons_succ]) | (refine sch_look (o := ?_) (v := .agg ?_) ?_ ?_ ?_ ?_; rotate_left 2; (· ((conv => lhs; whnf); try exact rfl)); (· rfl); (· intro w' hO'; refine run_opLoadS (b := ?_) (cs := ?_) (e := ?_) (f := ?_) hO' ?_ ?_ ?_ ?_; rotate_left 4; (· exact rfl); (· exact inferInstance); (· simp; done); (· simp; done)); simp only [Act.put, List.setIfInBounds_toArray, List.set_cons_zero, List.set_cons_succ])
        first | (refine sch_look (o := ?_) (v := ?_) ?_ ?_ ?_ ?_; rotate_left 2; (· ((conv => lhs; whnf); try exact rfl)); (· rfl); (· intro w' hO'; skip; go_simp; (try exact rfl)); simp only [Act.put, List.setIfInBounds_toArray, List.set_cons_zero, List.set_cons_succ]) | (refine sch_pass (o := ?_) ?_ ?_ ?_; rotate_left; (· ((conv => lhs; whnf); try exact rfl)); (· rfl); simp only [Act.put, List.setIfInBounds_toArray, List.set_cons_zero, List.set_cons_succ]) | (refine sch_look (o := ?_) (v := .agg ?_) ?_ ?_ ?_ ?_; rotate_left 2; (· ((conv => lhs; whnf); try exact rfl)); (· rfl); (· intro w' hO'; refine run_opLoadS (b := ?_) (cs := ?_) (e := ?_) (f := ?_) hO' ?_ ?_ ?_ ?_; rotate_left 4; (· exact rfl); (· exact inferInstance); (· simp; done); (· simp; done)); simp only [Act.put, List.setIfInBounds_toArray, List.set_cons_zero, List.set_cons_succ])
        first | (refine sch_look (o := ?_) (v := ?_) ?_ ?_ ?_ ?_; rotate_left 2; (· ((conv => lhs; whnf); try exact rfl)); (· rfl); (· intro w' hO'; skip; go_simp; (try exact rfl)); simp only [Act.put, List.setIfInBounds_toArray, List.set_cons_zero, List.set_cons_succ]) | (refine sch_pass (o := ?_) ?_ ?_ ?_; rotate_left; (· ((conv => lhs; whnf); try exact rfl)); (· rfl); simp only [Act.put, List.setIfInBounds_toArray, List.set_cons_zero, List.set_cons_succ]) | (refine sch_look (o := ?_) (v := .agg ?_) ?_ ?_ ?_ ?_; rotate_left 2; (· ((conv => lhs; whnf); try exact rfl)); (· rfl); (· intro w' hO'; refine run_opLoadS (b := ?_) (cs := ?_) (e := ?_) (f := ?_) hO' ?_ ?_ ?_ ?_; rotate_left 4; (· exact rfl); (· exact inferInstance); (· simp; done); (· simp; done)); simp only [Act.put, List.setIfInBounds_toArray, List.set_cons_zero, List.set_cons_succ])
        first | (refine sch_look (o := ?_) (v := ?_) ?_ ?_ ?_ ?_; rotate_left 2; (· ((conv => lhs; whnf); try exact rfl)); (· rfl); (· intro w' hO'; skip; go_simp; (try exact rfl)); simp only [Act.put, List.setIfInBounds_toArray, List.set_cons_zero, List.set_cons_succ]) | (refine sch_pass (o := ?_) ?_ ?_ ?_; rotate_left; (· ((conv => lhs; whnf); try exact rfl)); (· rfl); simp only [Act.put, List.setIfInBounds_toArray, List.set_cons_zero, List.set_cons_succ]) | (refine sch_look (o := ?_) (v := .agg ?_) ?_ ?_ ?_ ?_; rotate_left 2; (· ((conv => lhs; whnf); try exact rfl)); (· rfl); (· intro w' hO'; refine run_opLoadS (b := ?_) (cs := ?_) (e := ?_) (f := ?_) hO' ?_ ?_ ?_ ?_; rotate_left 4; (· exact rfl); (· exact inferInstance); (· simp; done); (· simp; done)); simp only [Act.put, List.setIfInBounds_toArray, List.set_cons_zero, List.set_cons_succ])
        first | (refine sch_look (o := ?_) (v := ?_) ?_ ?_ ?_ ?_; rotate_left 2; (· ((conv => lhs; whnf); try exact rfl)); (· rfl); (· intro w' hO'; skip; go_simp; (try exact rfl)); simp only [Act.put, List.setIfInBounds_toArray, List.set_cons_zero, List.set_cons_succ]) | (refine sch_pass (o := ?_) ?_ ?_ ?_; rotate_left; (· ((conv => lhs; whnf); try exact rfl)); (· rfl); simp only [Act.put, List.setIfInBounds_toArray, List.set_cons_zero, List.set_cons_succ]) | (refine sch_look (o := ?_) (v := .agg ?_) ?_ ?_ ?_ ?_; rotate_left 2; (· ((conv => lhs; whnf); try exact rfl)); (· rfl); (· intro w' hO'; refine run_opLoadS (b := ?_) (cs := ?_) (e := ?_) (f := ?_) hO' ?_ ?_ ?_ ?_; rotate_left 4; (· exact rfl); (· exact inferInstance); (· simp; done); (· simp; done)); simp only [Act.put, List.setIfInBounds_toArray, List.set_cons_zero, List.set_cons_succ])
        first | (refine sch_look (o := ?_) (v := ?_) ?_ ?_ ?_ ?_; rotate_left 2; (· ((conv => lhs; whnf); try exact rfl)); (· rfl); (· intro w' hO'; skip; go_simp; (try exact rfl)); simp only [Act.put, List.setIfInBounds_toArray, List.set_cons_zero, List.set_cons_succ]) | (refine sch_pass (o := ?_) ?_ ?_ ?_; rotate_left; (· ((conv => lhs; whnf); try exact rfl)); (· rfl); simp only [Act.put, List.setIfInBounds_toArray, List.set_cons_zero, List.set_cons_succ]) | (refine sch_look (o := ?_) (v := .agg ?_) ?_ ?_ ?_ ?_; rotate_left 2; (· ((conv => lhs; whnf); try exact rfl)); (· rfl); (· intro w' hO'; refine run_opLoadS (b := ?_) (cs := ?_) (e := ?_) (f := ?_) hO' ?_ ?_ ?_ ?_; rotate_left 4; (· exact rfl); (· exact inferInstance); (· simp; done); (· simp; done)); simp only [Act.put, List.setIfInBounds_toArray, List.set_cons_zero, List.set_cons_succ])
        first | (refine sch_look (o := ?_) (v := ?_) ?_ ?_ ?_ ?_; rotate_left 2; (· ((conv => lhs; whnf); try exact rfl)); (· rfl); (· intro w' hO'; skip; go_simp; (try exact rfl)); simp only [Act.put, List.setIfInBounds_toArray, List.set_cons_zero, List.set_cons_succ]) | (refine sch_pass (o := ?_) ?_ ?_ ?_; rotate_left; (· ((conv => lhs; whnf); try exact rfl)); (· rfl); simp only [Act.put, List.setIfInBounds_toArray, List.set_cons_zero, List.set_cons_succ]) | (refine sch_look (o := ?_) (v := .agg ?_) ?_ ?_ ?_ ?_; rotate_left 2; (· ((conv => lhs; whnf); try exact rfl)); (· rfl); (· intro w' hO'; refine run_opLoadS (b := ?_) (cs := ?_) (e := ?_) (f := ?_) hO' ?_ ?_ ?_ ?_; rotate_left 4; (· exact rfl); (· exact inferInstance); (· simp; done); (· simp; done)); simp only [Act.put, List.setIfInBounds_toArray, List.set_cons_zero, List.set_cons_succ])
        (refine sch_pass (o := ?_) ?_ ?_ ?_; rotate_left; (· ((conv => lhs; whnf); try exact rfl)); (· rfl); simp only [Act.put, List.setIfInBounds_toArray, List.set_cons_zero, List.set_cons_succ])
        first | (refine sch_look (o := ?_) (v := ?_) ?_ ?_ ?_ ?_; rotate_left 2; (· ((conv => lhs; whnf); try exact rfl)); (· rfl); (· intro w' hO'; skip; go_simp; (try exact rfl)); simp only [Act.put, List.setIfInBounds_toArray, List.set_cons_zero, List.set_cons_succ]) | (refine sch_pass (o := ?_) ?_ ?_ ?_; rotate_left; (· ((conv => lhs; whnf); try exact rfl)); (· rfl); simp only [Act.put, List.setIfInBounds_toArray, List.set_cons_zero, List.set_cons_succ]) | (refine sch_look (o := ?_) (v := .agg ?_) ?_ ?_ ?_ ?_; rotate_left 2; (· ((conv => lhs; whnf); try exact rfl)); (· rfl); (· intro w' hO'; refine run_opLoadS (b := ?_) (cs := ?_) (e := ?_) (f := ?_) hO' ?_ ?_ ?_ ?_; rotate_left 4; (· exact rfl); (· exact inferInstance); (· simp; done); (· simp; done)); simp only [Act.put, List.setIfInBounds_toArray, List.set_cons_zero, List.set_cons_succ])
        first | (refine sch_look (o := ?_) (v := ?_) ?_ ?_ ?_ ?_; rotate_left 2; (· ((conv => lhs; whnf); try exact rfl)); (· rfl); (· intro w' hO'; skip; go_simp; (try exact rfl)); simp only [Act.put, List.setIfInBounds_toArray, List.set_cons_zero, List.set_cons_succ]) | (refine sch_pass (o := ?_) ?_ ?_ ?_; rotate_left; (· ((conv => lhs; whnf); try exact rfl)); (· rfl); simp only [Act.put, List.setIfInBounds_toArray, List.set_cons_zero, List.set_cons_succ]) | (refine sch_look (o := ?_) (v := .agg ?_) ?_ ?_ ?_ ?_; rotate_left 2; (· ((conv => lhs; whnf); try exact rfl)); (· rfl); (· intro w' hO'; refine run_opLoadS (b := ?_) (cs := ?_) (e := ?_) (f := ?_) hO' ?_ ?_ ?_ ?_; rotate_left 4; (· exact rfl); (· exact inferInstance); (· simp; done); (· simp; done)); simp only [Act.put, List.setIfInBounds_toArray, List.set_cons_zero, List.set_cons_succ])
        first | (refine sch_look (o := ?_) (v := ?_) ?_ ?_ ?_ ?_; rotate_left 2; (· ((conv => lhs; whnf); try exact rfl)); (· rfl); (· intro w' hO'; skip; go_simp; (try exact rfl)); simp only [Act.put, List.setIfInBounds_toArray, List.set_cons_zero, List.set_cons_succ]) | (refine sch_pass (o := ?_) ?_ ?_ ?_; rotate_left; (· ((conv => lhs; whnf); try exact rfl)); (· rfl); simp only [Act.put, List.setIfInBounds_toArray, List.set_cons_zero, List.set_cons_succ]) | (refine sch_look (o := ?_) (v := .agg ?_) ?_ ?_ ?_ ?_; rotate_left 2; (· ((conv => lhs; whnf); try exact rfl)); (· rfl); (· intro w' hO'; refine run_opLoadS (b := ?_) (cs := ?_) (e := ?_) (f := ?_) hO' ?_ ?_ ?_ ?_; rotate_left 4; (· exact rfl); (· exact inferInstance); (· simp; done); (· simp; done)); simp only [Act.put, List.setIfInBounds_toArray, List.set_cons_zero, List.set_cons_succ])
        refine sch_done ?_
        replace hO : Own E _ (SO4 ++ (SO3 ++ (SO2 ++ (SO1 ++ (A ++ ((pt kq (.cells #[.int .i64 d.k, .int .i64 d.n, .string d.s, .slice ea d.l.length ec] 30 (0, 0)) ++ I) ++ (SL ++ R))))))) := hO.as _
        go_wp2_with fail
        have hlt := HLT.out
        go_roundw
        case rel => exact ⟨j + 1, by go_num, hlt, hO⟩
        case measure => (clear hw0 hw1 q1 q2 q3 q4; simp [intOf]; omega)
    · obtain rfl : j = os3.length := Nat.le_antisymm hj (Nat.le_of_not_lt hlt)
      have hjj : ¬ (os3.length : Int) < os3.length := by omega
      clear hj hlt hn3 hn4
      go_wp2_with fail
      refine (awake9 E _ _ R I hG (hO.as (I ++ R))).mono ?_
      clear hO
      rintro e w9 ⟨rfl, hO⟩
      go_wp2_with fail
      go_ret
      exact ⟨rfl, hO⟩
end Go.Proofs.YticclennllklpaaDoor

/- Layer 9: what the tied cards share: the builder with the world's shape handed on; MaxLen's cell. -/
namespace Go.Proofs.YticclennllklpaaDoor.glue9
open Go Go.ChangeShapes Go.WideShapes Go.ChangeAt Go.RowKit

theorem own : ownKnob Tryd.prog.godebug = none := by kernel_rfl
theorem laidOut : laidOutB Tryd.prog = true := by kernel_rfl

/-- The builder, the world's shape handed on. -/
theorem handed_sh {H : Type} {enc : TypeId × Value → H} {a : Assume} {C : Checked} {os : Os} {f : FuncId} {fn : Func} {s : ChangeSpec} {conds : List PathCond} {apart fresh handsOn again : Bool} {X : World → Array Value → Prop}
    (own : ownKnob C.prog.godebug = none) (started : os.Started) (noInit : C.prog.inits.idxOf? f = none) (hfn : C.prog.funcs[f]? = some fn)
    (witness : ∃ (w : World) (tape : Tape) (i : Input), w.os = os ∧ (w.forCall tape i).Shaped C.prog ∧ i.vars = [] ∧ Input.okWide C.prog (w.forCall tape i) .any w.heap.size f i ∧
      ((s.pre enc C.prog fn conds apart (w.forCall tape i).memory i.args ∧ X (w.forCall tape i).memory i.args) ∧ sizedMet enc C.prog fn (OpenSpec.ofChange s) apart (w.forCall tape i).memory i.args) ∧ a.holds C.prog (lone (Frame.enter C.prog f i.args .normal) [] (w.forCall tape i)))
    (contract : ∀ (W : World) (base : Nat) (args : Array Value) (ds gs : List (DataW H)) (before : List MemPlace), W.ShapedOpen C.prog →
      (∀ (j : Nat) t v, fn.params[j]? = some t → args[j]? = some v → Value.okWide C.prog W .any base t v) →
      DataW.Whole enc C.prog fn.params.toList s.vars apart W args.toList ds gs before →
      conds.all (PathCond.test C.prog ⟨fn.params.toList, ds, s.plain.varTypes C.prog, gs⟩) = true →
      (DataW.weightsEach C.prog (fn.params.toList ++ s.plain.varTypes C.prog) (ds ++ gs)).all (· ≤ reachBytes) = true →
      Calls C.prog f args W fun e W' => ∃ v, e = .returned v ∧ s.post enc C.prog fn apart fresh handsOn again W args v W') :
    ReturnsInHanded a C os f .any (fun w args => (s.pre enc C.prog fn conds apart w args ∧ X w args) ∧ sizedMet enc C.prog fn (OpenSpec.ofChange s) apart w args) (s.post enc C.prog fn apart fresh handsOn again) := by
  refine returnsInHanded_of_calls own started noInit witness ?_
  intro w tape i _ hsh _ hok hpre _
  obtain ⟨_, _, _, fn', hfn', _, _, _, _, hval⟩ := hok
  have e : fn' = fn := Option.some.inj (hfn'.symm.trans hfn)
  subst e
  obtain ⟨⟨⟨ds, gs, before, hw, hc⟩, _⟩, hz⟩ := hpre
  have hw' := DataW.Whole.of_heap (w' := w.forCall tape i) (by rfl) hw
  refine (contract (w.forCall tape i) w.heap.size i.args ds gs before hsh hval hw' hc (hz.weights hw)).mono fun e W' ⟨v, he, hp⟩ => ?_
  subst he
  exact ChangeSpec.post_blind hp

set_option maxRecDepth 100000 in
theorem maxL_old {W : World} (h : W.ShapedOpen Tryd.prog) : MaxL W (Go.Own.oldFr W) := by
  obtain ⟨cs, hc, hn, hb⟩ := h.1 0 #[.int .i64 0] 3 (Nat.le_of_ble_eq_true (by kernel_rfl)) (by kernel_rfl)
  obtain ⟨ts, h1, h2, h3⟩ := hb (by kernel_rfl)
  have ht : ts = [3] := Option.some.inj (h1.symm.trans (by kernel_rfl))
  subst ht
  have hv : cs.size = 1 := hn
  obtain ⟨u, hu, hk⟩ := h3 0 cs[0] (by simp [hv])
  have hu' : 3 = u := by simpa using hu
  subst hu'
  clear hu
  have hk' : ∃ m, cs[0] = .int .i64 m := by
    unfold Cell.ok at hk
    rw [Tryd.underlying3] at hk
    revert hk
    cases cs[0] <;> simp
    intro h _
    exact h
  obtain ⟨m, hm⟩ := hk'
  refine ⟨m, fun Y w hO => ?_⟩
  have hmem : (0, Obj.cells cs 3) ∈ Go.Own.oldFr W := Go.Own.oldFr_mem hc
  have hg := hO.mem _ (List.mem_append_left _ hmem)
  simp [World.cell?, hg, hv, hm]
theorem laid_met (os : Os) (args : Array Value) : laidMetH Tryd.prog Rows.methodTurnsRow.laid ((World.laidAll Tryd.prog os Rows.methodTurnsRow.laid).forCall (fun _ _ => 0) ⟨#[], args, []⟩).memory := by
  rw [MakeChecks.laidMetH_plain _ _ _ (by kernel_rfl)]
  exact laidMet_laidAll _ (by kernel_rfl) (by kernel_rfl)
theorem shaped (os : Os) (args : Array Value) : ((World.laidAll Tryd.prog os Rows.methodTurnsRow.laid).forCall (fun _ _ => 0) ⟨#[], args, []⟩).Shaped Tryd.prog := World.shaped_of_ZipB (by kernel_rfl) (by kernel_rfl)
end Go.Proofs.YticclennllklpaaDoor.glue9
