/- Layer 9: MethodRanges. (printed by wip/gen/genRS.py) -/
import Derived.Test.YticclennllklpaaDoorK10
import Derived.Test.YticclennllklpaaDoorK11
import Derived.Test.YticclennllklpaaDoorRows
import Derived.Test.YticclennllklpaaDoorK4
import Derived.ProofKit
import Derived.OpenShut
import Derived.LaidMore
import Derived.Lay
import Derived.Stop.Joined
set_option linter.all false
/- Layer 9: MethodRanges. (printed by wip/gen/genRS.py) -/
namespace Go.Proofs.YticclennllklpaaDoor
open Go Go.RowKit Go.Own Go.Dt

theorem eight_lo {E w : World} {X : Fr} {b : Nat} {e : TypeId} {f : Nat × Nat} {c0 c1 c2 c3 c4 c5 c6 c7 : Value} (hO : Own E w X) [hh : Has X b (.cells #[c0, c1, c2, c3, c4, c5, c6, c7] e f)] : ∀ j v, [c0, c1, c2, c3][j]? = some v → w.cell? ((⟨b, 0, none⟩ : Addr).add j) = some v := by
  intro j v hj
  rw [add_lit, hO.cell (b := b)]
  match j, hj with
  | 0, hj => exact hj
  | 1, hj => exact hj
  | 2, hj => exact hj
  | 3, hj => exact hj
theorem eight_hi {E w : World} {X : Fr} {b : Nat} {e : TypeId} {f : Nat × Nat} {c0 c1 c2 c3 c4 c5 c6 c7 : Value} (hO : Own E w X) [hh : Has X b (.cells #[c0, c1, c2, c3, c4, c5, c6, c7] e f)] : ∀ j v, [c4, c5, c6, c7][j]? = some v → w.cell? ((⟨b, 4, none⟩ : Addr).add j) = some v := by
  intro j v hj
  rw [add_lit, hO.cell (b := b)]
  match j, hj with
  | 0, hj => exact hj
  | 1, hj => exact hj
  | 2, hj => exact hj
  | 3, hj => exact hj
theorem LAt.of {E : World} {F J K : Fr} {so : Option Addr} {co : Nat} {os : List Oe} {S : Fr} (h : LAt E F so co os S) (hp : J.Perm (F ++ K)) : LAt E J so co os S := ⟨h.row, fun o ho => (h.its o ho).of hp⟩
theorem rgR_mem {f t : Option Dt} {b : Bool} {es : List En} {x : En} (h : x ∈ rgR f t b es) : x ∈ es := by
  unfold rgR rgL at h
  split at h
  · split at h
    · exact (List.mem_filter.1 (List.mem_reverse.1 h)).1
    · exact (List.mem_filter.1 h).1
  · cases h
theorem rgR_le (f t : Option Dt) (b : Bool) (es : List En) : (rgR f t b es).length ≤ es.length := by
  unfold rgR rgL
  split
  · split
    · rw [List.length_reverse]; exact List.length_filter_le _ _
    · exact List.length_filter_le _ _
  · exact Nat.zero_le _
set_option maxRecDepth 100000 in
set_option maxHeartbeats 16000000 in
theorem methodRanges (E w : World) (X R I : Fr) (sa : Option Addr) (ca : Nat) (L : List OpB) (hL0 : OpsAtB E I sa L) (hwf : ∀ o ∈ L, o.y.d.wf) (hll : L.length ≤ 1954687338268) (d1 d2 : Dt) (ea1 ea2 : Option Addr) (ec1 ec2 : Nat) (hw1 : d1.wf) (hw2 : d2.wf) (hI1 : ItemsAt E I ea1 d1.l) (hI2 : ItemsAt E I ea2 d2.l) (how : Int) (hG : MaxL E I) (hO : Own E w X) [hp : Pick X I R] :
    Calls Tryd.prog 6 #[.slice sa L.length ca, .agg #[.int .i64 d1.k, .int .i64 d1.n, .string d1.s, .slice ea1 d1.l.length ec1, .int .i64 d2.k, .int .i64 d2.n, .string d2.s, .slice ea2 d2.l.length ec2], .int .i64 how] w fun e w' => e = .returned (.bool true) ∧ Own E w' (I ++ R) := by
  replace hO := hO.perm hp.perm
  clear hp
  have HLL := Lib.hid hll
  clear hll
  go_enter Tryd.func6, Tryd.ntmps6
  go_wp2_with (first | (refine at_box ?_; go_must (refine own_box (v := ?_) hO ?_ ?_ ?_; rotate_left; (· rfl); (· ((conv => lhs; whnf); try exact rfl)); clear hO; (try clear hF); intro eb _ hO; (try simp only [Value.cells] at hO); ((try simp only [List.nil_append, List.append_nil] at hO); have hF := Own.cells hO; simp only [cellsOf_append, cellsOf_pt] at hF); simp only [Act.put, List.setIfInBounds_toArray, List.set_cons_zero, List.set_cons_succ])))
  refine (newPlain E _ _ hO).mono ?_
  clear hO hF
  rintro e w1 ⟨p, rfl, hO⟩
  go_wp2_with fail
  refine (all9 E _ _ hO).mono ?_
  clear hO
  rintro e w2 ⟨kb, rfl, hO⟩
  go_wp2_with fail
  refine (playsP E _ _ (pt eb (.cells #[.int .i64 d1.k, .int .i64 d1.n, .string d1.s, .slice ea1 d1.l.length ec1, .int .i64 d2.k, .int .i64 d2.n, .string d2.s, .slice ea2 d2.l.length ec2] 54 (0, 0)) ++ R) (plainF p none 0 0) (pt kb (.cells #[.int .i64 1, .int .i64 2, .int .i64 3] 3 (0, 0))) I p 0 _ 3 (sl_three (E := E) kb) sa ca L hL0 hwf (by have := HLL.out; unfold CP; omega) ⟨[], PlainAt.new E p, rfl, Nat.le_refl _⟩ hG (hO.as (plainF p none 0 0 ++ (pt kb (.cells #[.int .i64 1, .int .i64 2, .int .i64 3] 3 (0, 0)) ++ (I ++ (pt eb (.cells #[.int .i64 d1.k, .int .i64 d1.n, .string d1.s, .slice ea1 d1.l.length ec1, .int .i64 d2.k, .int .i64 d2.n, .string d2.s, .slice ea2 d2.l.length ec2] 54 (0, 0)) ++ R)))))).mono ?_
  clear hO
  rintro e w3 ⟨A, so, co, os, SL, rfl, hL, hA, hO⟩
  replace hO : Own E w3 (SL ++ (A ++ ((pt eb (.cells #[.int .i64 d1.k, .int .i64 d1.n, .string d1.s, .slice ea1 d1.l.length ec1, .int .i64 d2.k, .int .i64 d2.n, .string d2.s, .slice ea2 d2.l.length ec2] 54 (0, 0)) ++ I) ++ R))) := hO.as _
  have hLF : LAt E (pt eb (.cells #[.int .i64 d1.k, .int .i64 d1.n, .string d1.s, .slice ea1 d1.l.length ec1, .int .i64 d2.k, .int .i64 d2.n, .string d2.s, .slice ea2 d2.l.length ec2] 54 (0, 0)) ++ I) so co os SL := hL.of List.perm_append_comm
  have hGF : MaxL E (pt eb (.cells #[.int .i64 d1.k, .int .i64 d1.n, .string d1.s, .slice ea1 d1.l.length ec1, .int .i64 d2.k, .int .i64 d2.n, .string d2.s, .slice ea2 d2.l.length ec2] 54 (0, 0)) ++ I) := by
    obtain ⟨m, hm⟩ := hG
    refine ⟨m, fun Y w h => hm (pt eb (.cells #[.int .i64 d1.k, .int .i64 d1.n, .string d1.s, .slice ea1 d1.l.length ec1, .int .i64 d2.k, .int .i64 d2.n, .string d2.s, .slice ea2 d2.l.length ec2] 54 (0, 0)) ++ Y) w (h.perm ?_)⟩
    rw [List.append_assoc]
    refine (List.perm_append_comm_assoc _ _ _)
  have hB1 : BdAt E (pt eb (.cells #[.int .i64 d1.k, .int .i64 d1.n, .string d1.s, .slice ea1 d1.l.length ec1, .int .i64 d2.k, .int .i64 d2.n, .string d2.s, .slice ea2 d2.l.length ec2] 54 (0, 0)) ++ I) (.pointer (some ⟨eb, 0, none⟩)) (some d1) := .inr ⟨_, d1, ea1, ec1, rfl, rfl, hw1, hI1.of List.perm_append_comm, fun Y w h => eight_lo h (hh := inferInstance)⟩
  have hB2 : BdAt E (pt eb (.cells #[.int .i64 d1.k, .int .i64 d1.n, .string d1.s, .slice ea1 d1.l.length ec1, .int .i64 d2.k, .int .i64 d2.n, .string d2.s, .slice ea2 d2.l.length ec2] 54 (0, 0)) ++ I) (.pointer (some ⟨eb, 4, none⟩)) (some d2) := .inr ⟨_, d2, ea2, ec2, rfl, rfl, hw2, hI2.of List.perm_append_comm, fun Y w h => eight_hi h (hh := inferInstance)⟩
  have hB0 : BdAt E (pt eb (.cells #[.int .i64 d1.k, .int .i64 d1.n, .string d1.s, .slice ea1 d1.l.length ec1, .int .i64 d2.k, .int .i64 d2.n, .string d2.s, .slice ea2 d2.l.length ec2] 54 (0, 0)) ++ I) (.pointer none) none := .inl ⟨rfl, rfl⟩
  have hle := hA.le
  have hes := hA.es
  obtain ⟨hs, hPA, hhs, hhl⟩ := hA
  have HOLE := Lib.hid (show (esO os).length ≤ 2000000000000 by have := HLL.out; omega)
  have hos : os.length ≤ 2000000000000 := by have := HOLE.out; rwa [esO_len] at this
  have hhs2 : hs.length ≤ 2000000000000 := by have := HLL.out; omega
  have HOK := Lib.hid (show ∀ e ∈ esO os, e.d.ok = true from fun e he => (hes.ok e he).1)
  have HOKO := Lib.hid (show ∀ o ∈ os, o.e.d.ok = true from fun o ho => HOK.out o.e (List.mem_map.2 ⟨o, ho, rfl⟩))
  have HWFO := Lib.hid (show ∀ o ∈ os, o.e.d.wf from fun o ho => (hes.ok o.e (List.mem_map.2 ⟨o, ho, rfl⟩)).2.1)
  have HHS := Lib.hid hhs
  have HOS := Lib.hid hos
  have HHL := Lib.hid hhs2
  clear hle hes hhs hhl hos hhs2 hL
  by_cases h1 : bits .and .i64 how 1 = 0 <;> by_cases h2 : bits .and .i64 how 2 = 0
  · go_wp2_with fail
    refine (pRange E _ _ (SL ++ R) A (pt eb (.cells #[.int .i64 d1.k, .int .i64 d1.n, .string d1.s, .slice ea1 d1.l.length ec1, .int .i64 d2.k, .int .i64 d2.n, .string d2.s, .slice ea2 d2.l.length ec2] 54 (0, 0)) ++ I) p hs HHL.out hPA (.pointer (some ⟨eb, 0, none⟩)) (.pointer (some ⟨eb, 4, none⟩)) (some d1) (some d2) _ hB1 hB2 hGF (hO.as ((A ++ (pt eb (.cells #[.int .i64 d1.k, .int .i64 d1.n, .string d1.s, .slice ea1 d1.l.length ec1, .int .i64 d2.k, .int .i64 d2.n, .string d2.s, .slice ea2 d2.l.length ec2] 54 (0, 0)) ++ I)) ++ (SL ++ R)))).mono ?_
    clear hO
    rintro e w4 ⟨so1, co1, os1, SO1, rfl, hes1, hL1, hO⟩
    go_wp2_with fail
    refine (refRange E _ _ (SO1 ++ (A ++ R)) SL (pt eb (.cells #[.int .i64 d1.k, .int .i64 d1.n, .string d1.s, .slice ea1 d1.l.length ec1, .int .i64 d2.k, .int .i64 d2.n, .string d2.s, .slice ea2 d2.l.length ec2] 54 (0, 0)) ++ I) so co os HOS.out HOKO.out HWFO.out hLF (.pointer (some ⟨eb, 0, none⟩)) (.pointer (some ⟨eb, 4, none⟩)) (some d1) (some d2) _ hB1 hB2 (hO.as ((SL ++ (pt eb (.cells #[.int .i64 d1.k, .int .i64 d1.n, .string d1.s, .slice ea1 d1.l.length ec1, .int .i64 d2.k, .int .i64 d2.n, .string d2.s, .slice ea2 d2.l.length ec2] 54 (0, 0)) ++ I)) ++ (SO1 ++ (A ++ R))))).mono ?_
    clear hO
    rintro e w5 ⟨so2, co2, os2, S2, rfl, hes2, hL2, hO⟩
    rw [HHS.out, ← hes2] at hes1
    have hE1 : EntsAt E ((SO1 ++ A) ++ (S2 ++ (pt eb (.cells #[.int .i64 d1.k, .int .i64 d1.n, .string d1.s, .slice ea1 d1.l.length ec1, .int .i64 d2.k, .int .i64 d2.n, .string d2.s, .slice ea2 d2.l.length ec2] 54 (0, 0)) ++ I))) so1 (esO os2) := by rw [← hes1]; exact hL1.ents.of (.refl _)
    have hE2 : EntsAt E ((SO1 ++ A) ++ (S2 ++ (pt eb (.cells #[.int .i64 d1.k, .int .i64 d1.n, .string d1.s, .slice ea1 d1.l.length ec1, .int .i64 d2.k, .int .i64 d2.n, .string d2.s, .slice ea2 d2.l.length ec2] 54 (0, 0)) ++ I))) so2 (esO os2) := hL2.ents.of List.perm_append_comm
    have hn1 : os1.length = (esO os2).length := by rw [← hes1, esO_len]
    have hn2 : os2.length = (esO os2).length := (esO_len os2).symm
    have hok2 : ∀ e ∈ esO os2, e.d.ok = true := fun e he => HOK.out e (by rw [hes2] at he; exact rgR_mem he)
    have hle2 : (esO os2).length ≤ 4000000000000 := by have h9 := HOLE.out; have h8 := rgR_le (some d1) (some d2) (bits .and .i64 how 4 == 0) (esO os); rw [← hes2] at h8; omega
    have HN1 := Lib.hid hn1
    have HN2 := Lib.hid hn2
    have HOK2 := Lib.hid hok2
    have HLE2 := Lib.hid hle2
    clear hes1 hes2 hL1 hL2 hn1 hn2 hok2 hle2
    go_wp2_with fail
    rw [HN1.out, HN2.out]
    refine (refSameAll E _ _ (SL ++ R) ((SO1 ++ A) ++ (S2 ++ (pt eb (.cells #[.int .i64 d1.k, .int .i64 d1.n, .string d1.s, .slice ea1 d1.l.length ec1, .int .i64 d2.k, .int .i64 d2.n, .string d2.s, .slice ea2 d2.l.length ec2] 54 (0, 0)) ++ I))) so1 so2 co1 co2 (esO os2) (esO os2) HLE2.out HOK2.out HOK2.out hE1 hE2 (hO.as (((SO1 ++ A) ++ (S2 ++ (pt eb (.cells #[.int .i64 d1.k, .int .i64 d1.n, .string d1.s, .slice ea1 d1.l.length ec1, .int .i64 d2.k, .int .i64 d2.n, .string d2.s, .slice ea2 d2.l.length ec2] 54 (0, 0)) ++ I))) ++ (SL ++ R)))).mono ?_
    rw [decide_eq_true rfl]
    clear hO hE1 hE2
    rintro e w6 ⟨rfl, hO⟩
    go_wp2_with fail
    refine (awake9 E _ _ R I hG (hO.as (I ++ R))).mono ?_
    clear hO
    rintro e w8 ⟨rfl, hO⟩
    go_wp2_with fail
    go_ret
    exact ⟨rfl, hO⟩
  · have h2b : (bits .and .i64 how 2 == 0) = false := beq_eq_false_iff_ne.2 h2
    clear h2
    go_wp2_with fail
    refine (pRange E _ _ (SL ++ R) A (pt eb (.cells #[.int .i64 d1.k, .int .i64 d1.n, .string d1.s, .slice ea1 d1.l.length ec1, .int .i64 d2.k, .int .i64 d2.n, .string d2.s, .slice ea2 d2.l.length ec2] 54 (0, 0)) ++ I) p hs HHL.out hPA (.pointer (some ⟨eb, 0, none⟩)) (.pointer none) (some d1) none _ hB1 hB0 hGF (hO.as ((A ++ (pt eb (.cells #[.int .i64 d1.k, .int .i64 d1.n, .string d1.s, .slice ea1 d1.l.length ec1, .int .i64 d2.k, .int .i64 d2.n, .string d2.s, .slice ea2 d2.l.length ec2] 54 (0, 0)) ++ I)) ++ (SL ++ R)))).mono ?_
    clear hO
    rintro e w4 ⟨so1, co1, os1, SO1, rfl, hes1, hL1, hO⟩
    go_wp2_with fail
    refine (refRange E _ _ (SO1 ++ (A ++ R)) SL (pt eb (.cells #[.int .i64 d1.k, .int .i64 d1.n, .string d1.s, .slice ea1 d1.l.length ec1, .int .i64 d2.k, .int .i64 d2.n, .string d2.s, .slice ea2 d2.l.length ec2] 54 (0, 0)) ++ I) so co os HOS.out HOKO.out HWFO.out hLF (.pointer (some ⟨eb, 0, none⟩)) (.pointer none) (some d1) none _ hB1 hB0 (hO.as ((SL ++ (pt eb (.cells #[.int .i64 d1.k, .int .i64 d1.n, .string d1.s, .slice ea1 d1.l.length ec1, .int .i64 d2.k, .int .i64 d2.n, .string d2.s, .slice ea2 d2.l.length ec2] 54 (0, 0)) ++ I)) ++ (SO1 ++ (A ++ R))))).mono ?_
    clear hO
    rintro e w5 ⟨so2, co2, os2, S2, rfl, hes2, hL2, hO⟩
    rw [HHS.out, ← hes2] at hes1
    have hE1 : EntsAt E ((SO1 ++ A) ++ (S2 ++ (pt eb (.cells #[.int .i64 d1.k, .int .i64 d1.n, .string d1.s, .slice ea1 d1.l.length ec1, .int .i64 d2.k, .int .i64 d2.n, .string d2.s, .slice ea2 d2.l.length ec2] 54 (0, 0)) ++ I))) so1 (esO os2) := by rw [← hes1]; exact hL1.ents.of (.refl _)
    have hE2 : EntsAt E ((SO1 ++ A) ++ (S2 ++ (pt eb (.cells #[.int .i64 d1.k, .int .i64 d1.n, .string d1.s, .slice ea1 d1.l.length ec1, .int .i64 d2.k, .int .i64 d2.n, .string d2.s, .slice ea2 d2.l.length ec2] 54 (0, 0)) ++ I))) so2 (esO os2) := hL2.ents.of List.perm_append_comm
    have hn1 : os1.length = (esO os2).length := by rw [← hes1, esO_len]
    have hn2 : os2.length = (esO os2).length := (esO_len os2).symm
    have hok2 : ∀ e ∈ esO os2, e.d.ok = true := fun e he => HOK.out e (by rw [hes2] at he; exact rgR_mem he)
    have hle2 : (esO os2).length ≤ 4000000000000 := by have h9 := HOLE.out; have h8 := rgR_le (some d1) none (bits .and .i64 how 4 == 0) (esO os); rw [← hes2] at h8; omega
    have HN1 := Lib.hid hn1
    have HN2 := Lib.hid hn2
    have HOK2 := Lib.hid hok2
    have HLE2 := Lib.hid hle2
    clear hes1 hes2 hL1 hL2 hn1 hn2 hok2 hle2
    go_wp2_with fail
    rw [HN1.out, HN2.out]
    refine (refSameAll E _ _ (SL ++ R) ((SO1 ++ A) ++ (S2 ++ (pt eb (.cells #[.int .i64 d1.k, .int .i64 d1.n, .string d1.s, .slice ea1 d1.l.length ec1, .int .i64 d2.k, .int .i64 d2.n, .string d2.s, .slice ea2 d2.l.length ec2] 54 (0, 0)) ++ I))) so1 so2 co1 co2 (esO os2) (esO os2) HLE2.out HOK2.out HOK2.out hE1 hE2 (hO.as (((SO1 ++ A) ++ (S2 ++ (pt eb (.cells #[.int .i64 d1.k, .int .i64 d1.n, .string d1.s, .slice ea1 d1.l.length ec1, .int .i64 d2.k, .int .i64 d2.n, .string d2.s, .slice ea2 d2.l.length ec2] 54 (0, 0)) ++ I))) ++ (SL ++ R)))).mono ?_
    rw [decide_eq_true rfl]
    clear hO hE1 hE2
    rintro e w6 ⟨rfl, hO⟩
    go_wp2_with fail
    refine (awake9 E _ _ R I hG (hO.as (I ++ R))).mono ?_
    clear hO
    rintro e w8 ⟨rfl, hO⟩
    go_wp2_with fail
    go_ret
    exact ⟨rfl, hO⟩
  · have h1b : (bits .and .i64 how 1 == 0) = false := beq_eq_false_iff_ne.2 h1
    clear h1
    go_wp2_with fail
    refine (pRange E _ _ (SL ++ R) A (pt eb (.cells #[.int .i64 d1.k, .int .i64 d1.n, .string d1.s, .slice ea1 d1.l.length ec1, .int .i64 d2.k, .int .i64 d2.n, .string d2.s, .slice ea2 d2.l.length ec2] 54 (0, 0)) ++ I) p hs HHL.out hPA (.pointer none) (.pointer (some ⟨eb, 4, none⟩)) none (some d2) _ hB0 hB2 hGF (hO.as ((A ++ (pt eb (.cells #[.int .i64 d1.k, .int .i64 d1.n, .string d1.s, .slice ea1 d1.l.length ec1, .int .i64 d2.k, .int .i64 d2.n, .string d2.s, .slice ea2 d2.l.length ec2] 54 (0, 0)) ++ I)) ++ (SL ++ R)))).mono ?_
    clear hO
    rintro e w4 ⟨so1, co1, os1, SO1, rfl, hes1, hL1, hO⟩
    go_wp2_with fail
    refine (refRange E _ _ (SO1 ++ (A ++ R)) SL (pt eb (.cells #[.int .i64 d1.k, .int .i64 d1.n, .string d1.s, .slice ea1 d1.l.length ec1, .int .i64 d2.k, .int .i64 d2.n, .string d2.s, .slice ea2 d2.l.length ec2] 54 (0, 0)) ++ I) so co os HOS.out HOKO.out HWFO.out hLF (.pointer none) (.pointer (some ⟨eb, 4, none⟩)) none (some d2) _ hB0 hB2 (hO.as ((SL ++ (pt eb (.cells #[.int .i64 d1.k, .int .i64 d1.n, .string d1.s, .slice ea1 d1.l.length ec1, .int .i64 d2.k, .int .i64 d2.n, .string d2.s, .slice ea2 d2.l.length ec2] 54 (0, 0)) ++ I)) ++ (SO1 ++ (A ++ R))))).mono ?_
    clear hO
    rintro e w5 ⟨so2, co2, os2, S2, rfl, hes2, hL2, hO⟩
    rw [HHS.out, ← hes2] at hes1
    have hE1 : EntsAt E ((SO1 ++ A) ++ (S2 ++ (pt eb (.cells #[.int .i64 d1.k, .int .i64 d1.n, .string d1.s, .slice ea1 d1.l.length ec1, .int .i64 d2.k, .int .i64 d2.n, .string d2.s, .slice ea2 d2.l.length ec2] 54 (0, 0)) ++ I))) so1 (esO os2) := by rw [← hes1]; exact hL1.ents.of (.refl _)
    have hE2 : EntsAt E ((SO1 ++ A) ++ (S2 ++ (pt eb (.cells #[.int .i64 d1.k, .int .i64 d1.n, .string d1.s, .slice ea1 d1.l.length ec1, .int .i64 d2.k, .int .i64 d2.n, .string d2.s, .slice ea2 d2.l.length ec2] 54 (0, 0)) ++ I))) so2 (esO os2) := hL2.ents.of List.perm_append_comm
    have hn1 : os1.length = (esO os2).length := by rw [← hes1, esO_len]
    have hn2 : os2.length = (esO os2).length := (esO_len os2).symm
    have hok2 : ∀ e ∈ esO os2, e.d.ok = true := fun e he => HOK.out e (by rw [hes2] at he; exact rgR_mem he)
    have hle2 : (esO os2).length ≤ 4000000000000 := by have h9 := HOLE.out; have h8 := rgR_le none (some d2) (bits .and .i64 how 4 == 0) (esO os); rw [← hes2] at h8; omega
    have HN1 := Lib.hid hn1
    have HN2 := Lib.hid hn2
    have HOK2 := Lib.hid hok2
    have HLE2 := Lib.hid hle2
    clear hes1 hes2 hL1 hL2 hn1 hn2 hok2 hle2
    go_wp2_with fail
    rw [HN1.out, HN2.out]
    refine (refSameAll E _ _ (SL ++ R) ((SO1 ++ A) ++ (S2 ++ (pt eb (.cells #[.int .i64 d1.k, .int .i64 d1.n, .string d1.s, .slice ea1 d1.l.length ec1, .int .i64 d2.k, .int .i64 d2.n, .string d2.s, .slice ea2 d2.l.length ec2] 54 (0, 0)) ++ I))) so1 so2 co1 co2 (esO os2) (esO os2) HLE2.out HOK2.out HOK2.out hE1 hE2 (hO.as (((SO1 ++ A) ++ (S2 ++ (pt eb (.cells #[.int .i64 d1.k, .int .i64 d1.n, .string d1.s, .slice ea1 d1.l.length ec1, .int .i64 d2.k, .int .i64 d2.n, .string d2.s, .slice ea2 d2.l.length ec2] 54 (0, 0)) ++ I))) ++ (SL ++ R)))).mono ?_
    rw [decide_eq_true rfl]
    clear hO hE1 hE2
    rintro e w6 ⟨rfl, hO⟩
    go_wp2_with fail
    refine (awake9 E _ _ R I hG (hO.as (I ++ R))).mono ?_
    clear hO
    rintro e w8 ⟨rfl, hO⟩
    go_wp2_with fail
    go_ret
    exact ⟨rfl, hO⟩
  · have h1b : (bits .and .i64 how 1 == 0) = false := beq_eq_false_iff_ne.2 h1
    have h2b : (bits .and .i64 how 2 == 0) = false := beq_eq_false_iff_ne.2 h2
    clear h1
    clear h2
    go_wp2_with fail
    refine (pRange E _ _ (SL ++ R) A (pt eb (.cells #[.int .i64 d1.k, .int .i64 d1.n, .string d1.s, .slice ea1 d1.l.length ec1, .int .i64 d2.k, .int .i64 d2.n, .string d2.s, .slice ea2 d2.l.length ec2] 54 (0, 0)) ++ I) p hs HHL.out hPA (.pointer none) (.pointer none) none none _ hB0 hB0 hGF (hO.as ((A ++ (pt eb (.cells #[.int .i64 d1.k, .int .i64 d1.n, .string d1.s, .slice ea1 d1.l.length ec1, .int .i64 d2.k, .int .i64 d2.n, .string d2.s, .slice ea2 d2.l.length ec2] 54 (0, 0)) ++ I)) ++ (SL ++ R)))).mono ?_
    clear hO
    rintro e w4 ⟨so1, co1, os1, SO1, rfl, hes1, hL1, hO⟩
    go_wp2_with fail
    refine (refRange E _ _ (SO1 ++ (A ++ R)) SL (pt eb (.cells #[.int .i64 d1.k, .int .i64 d1.n, .string d1.s, .slice ea1 d1.l.length ec1, .int .i64 d2.k, .int .i64 d2.n, .string d2.s, .slice ea2 d2.l.length ec2] 54 (0, 0)) ++ I) so co os HOS.out HOKO.out HWFO.out hLF (.pointer none) (.pointer none) none none _ hB0 hB0 (hO.as ((SL ++ (pt eb (.cells #[.int .i64 d1.k, .int .i64 d1.n, .string d1.s, .slice ea1 d1.l.length ec1, .int .i64 d2.k, .int .i64 d2.n, .string d2.s, .slice ea2 d2.l.length ec2] 54 (0, 0)) ++ I)) ++ (SO1 ++ (A ++ R))))).mono ?_
    clear hO
    rintro e w5 ⟨so2, co2, os2, S2, rfl, hes2, hL2, hO⟩
    rw [HHS.out, ← hes2] at hes1
    have hE1 : EntsAt E ((SO1 ++ A) ++ (S2 ++ (pt eb (.cells #[.int .i64 d1.k, .int .i64 d1.n, .string d1.s, .slice ea1 d1.l.length ec1, .int .i64 d2.k, .int .i64 d2.n, .string d2.s, .slice ea2 d2.l.length ec2] 54 (0, 0)) ++ I))) so1 (esO os2) := by rw [← hes1]; exact hL1.ents.of (.refl _)
    have hE2 : EntsAt E ((SO1 ++ A) ++ (S2 ++ (pt eb (.cells #[.int .i64 d1.k, .int .i64 d1.n, .string d1.s, .slice ea1 d1.l.length ec1, .int .i64 d2.k, .int .i64 d2.n, .string d2.s, .slice ea2 d2.l.length ec2] 54 (0, 0)) ++ I))) so2 (esO os2) := hL2.ents.of List.perm_append_comm
    have hn1 : os1.length = (esO os2).length := by rw [← hes1, esO_len]
    have hn2 : os2.length = (esO os2).length := (esO_len os2).symm
    have hok2 : ∀ e ∈ esO os2, e.d.ok = true := fun e he => HOK.out e (by rw [hes2] at he; exact rgR_mem he)
    have hle2 : (esO os2).length ≤ 4000000000000 := by have h9 := HOLE.out; have h8 := rgR_le none none (bits .and .i64 how 4 == 0) (esO os); rw [← hes2] at h8; omega
    have HN1 := Lib.hid hn1
    have HN2 := Lib.hid hn2
    have HOK2 := Lib.hid hok2
    have HLE2 := Lib.hid hle2
    clear hes1 hes2 hL1 hL2 hn1 hn2 hok2 hle2
    go_wp2_with fail
    rw [HN1.out, HN2.out]
    refine (refSameAll E _ _ (SL ++ R) ((SO1 ++ A) ++ (S2 ++ (pt eb (.cells #[.int .i64 d1.k, .int .i64 d1.n, .string d1.s, .slice ea1 d1.l.length ec1, .int .i64 d2.k, .int .i64 d2.n, .string d2.s, .slice ea2 d2.l.length ec2] 54 (0, 0)) ++ I))) so1 so2 co1 co2 (esO os2) (esO os2) HLE2.out HOK2.out HOK2.out hE1 hE2 (hO.as (((SO1 ++ A) ++ (S2 ++ (pt eb (.cells #[.int .i64 d1.k, .int .i64 d1.n, .string d1.s, .slice ea1 d1.l.length ec1, .int .i64 d2.k, .int .i64 d2.n, .string d2.s, .slice ea2 d2.l.length ec2] 54 (0, 0)) ++ I))) ++ (SL ++ R)))).mono ?_
    rw [decide_eq_true rfl]
    clear hO hE1 hE2
    rintro e w6 ⟨rfl, hO⟩
    go_wp2_with fail
    refine (awake9 E _ _ R I hG (hO.as (I ++ R))).mono ?_
    clear hO
    rintro e w8 ⟨rfl, hO⟩
    go_wp2_with fail
    go_ret
    exact ⟨rfl, hO⟩
end Go.Proofs.YticclennllklpaaDoor

/- Layer 9: what the tied cards share: the builder with the world's shape handed on; MaxLen's cell. -/
namespace Go.Proofs.YticclennllklpaaDoor.glue9
open Go Go.ChangeShapes Go.WideShapes Go.ChangeAt Go.RowKit

theorem own : ownKnob Tryd.prog.godebug = none := by kernel_rfl
theorem laidOut : laidOutB Tryd.prog = true := by kernel_rfl

/-- The builder, the world's shape handed on. -/
theorem handed_sh {H : Type} {enc : TypeId × Value → H} {a : Assume} {C : Checked} {os : Os} {f : FuncId} {fn : Func} {s : ChangeSpec} {conds : List PathCond} {apart fresh handsOn again : Bool} {X : World → Array Value → Prop}
    (own : ownKnob C.prog.godebug = none) (started : os.Started) (noInit : C.prog.inits.idxOf? f = none) (hfn : C.prog.funcs[f]? = some fn)
    (witness : ∃ (w : World) (tape : Tape) (i : Input), w.os = os ∧ (w.forCall tape i).Shaped C.prog ∧ i.vars = [] ∧ Input.okWide C.prog (w.forCall tape i) .any w.heap.size f i ∧
      ((s.pre enc C.prog fn conds apart (w.forCall tape i).memory i.args ∧ X (w.forCall tape i).memory i.args) ∧ sizedMet enc C.prog fn (OpenSpec.ofChange s) apart (w.forCall tape i).memory i.args) ∧ a.holds C.prog (lone (Frame.enter C.prog f i.args .normal) [] (w.forCall tape i)))
    (contract : ∀ (W : World) (base : Nat) (args : Array Value) (ds gs : List (DataW H)) (before : List MemPlace), W.ShapedOpen C.prog →
      (∀ (j : Nat) t v, fn.params[j]? = some t → args[j]? = some v → Value.okWide C.prog W .any base t v) →
      DataW.Whole enc C.prog fn.params.toList s.vars apart W args.toList ds gs before →
      conds.all (PathCond.test C.prog ⟨fn.params.toList, ds, s.plain.varTypes C.prog, gs⟩) = true →
      (DataW.weightsEach C.prog (fn.params.toList ++ s.plain.varTypes C.prog) (ds ++ gs)).all (· ≤ reachBytes) = true →
      Calls C.prog f args W fun e W' => ∃ v, e = .returned v ∧ s.post enc C.prog fn apart fresh handsOn again W args v W') :
    ReturnsInHanded a C os f .any (fun w args => (s.pre enc C.prog fn conds apart w args ∧ X w args) ∧ sizedMet enc C.prog fn (OpenSpec.ofChange s) apart w args) (s.post enc C.prog fn apart fresh handsOn again) := by
  refine returnsInHanded_of_calls own started noInit witness ?_
  intro w tape i _ hsh _ hok hpre _
  obtain ⟨_, _, _, fn', hfn', _, _, _, _, hval⟩ := hok
  have e : fn' = fn := Option.some.inj (hfn'.symm.trans hfn)
  subst e
  obtain ⟨⟨⟨ds, gs, before, hw, hc⟩, _⟩, hz⟩ := hpre
  have hw' := DataW.Whole.of_heap (w' := w.forCall tape i) (by rfl) hw
  refine (contract (w.forCall tape i) w.heap.size i.args ds gs before hsh hval hw' hc (hz.weights hw)).mono fun e W' ⟨v, he, hp⟩ => ?_
  subst he
  exact ChangeSpec.post_blind hp

set_option maxRecDepth 100000 in
theorem maxL_old {W : World} (h : W.ShapedOpen Tryd.prog) : MaxL W (Go.Own.oldFr W) := by
  obtain ⟨cs, hc, hn, hb⟩ := h.1 0 #[.int .i64 0] 3 (Nat.le_of_ble_eq_true (by kernel_rfl)) (by kernel_rfl)
  obtain ⟨ts, h1, h2, h3⟩ := hb (by kernel_rfl)
  have ht : ts = [3] := Option.some.inj (h1.symm.trans (by kernel_rfl))
  subst ht
  have hv : cs.size = 1 := hn
  obtain ⟨u, hu, hk⟩ := h3 0 cs[0] (by simp [hv])
  have hu' : 3 = u := by simpa using hu
  subst hu'
  clear hu
  have hk' : ∃ m, cs[0] = .int .i64 m := by
    unfold Cell.ok at hk
    rw [Tryd.underlying3] at hk
    revert hk
    cases cs[0] <;> simp
    intro h _
    exact h
  obtain ⟨m, hm⟩ := hk'
  refine ⟨m, fun Y w hO => ?_⟩
  have hmem : (0, Obj.cells cs 3) ∈ Go.Own.oldFr W := Go.Own.oldFr_mem hc
  have hg := hO.mem _ (List.mem_append_left _ hmem)
  simp [World.cell?, hg, hv, hm]
theorem laid_met (os : Os) (args : Array Value) : laidMetH Tryd.prog Rows.methodTurnsRow.laid ((World.laidAll Tryd.prog os Rows.methodTurnsRow.laid).forCall (fun _ _ => 0) ⟨#[], args, []⟩).memory := by
  rw [MakeChecks.laidMetH_plain _ _ _ (by kernel_rfl)]
  exact laidMet_laidAll _ (by kernel_rfl) (by kernel_rfl)
theorem shaped (os : Os) (args : Array Value) : ((World.laidAll Tryd.prog os Rows.methodTurnsRow.laid).forCall (fun _ _ => 0) ⟨#[], args, []⟩).Shaped Tryd.prog := World.shaped_of_ZipB (by kernel_rfl) (by kernel_rfl)
end Go.Proofs.YticclennllklpaaDoor.glue9
