/- Contracts of package disk: put.do, trim.do. -/
import Derived.Test.YtkkeplobomncgaaDisk1
set_option linter.all false
namespace Go.Proofs.Ytkkeplobomncgaa
open Go Go.RowKit Go.Own Go.Dk

set_option maxRecDepth 100000 in
set_option maxHeartbeats 4000000 in
theorem dTrimDo (E w : World) (X R : Fr) (d : Nat) (s : Nat → Value) (rv : Value) (k : Nat) (size n cap : Nat) (a : Option Addr) (hk : k < 4) (hn : size ≤ n) (hc : n ≤ cap) (hs : s k = .slice a n cap)
   (hO : Own E w X) [hp : PickPt X d (.cells (dcells s rv) 52 (0, 0)) R] :
    Calls Try.prog 92 #[.agg #[.int .i64 k, .int .i64 size], .pointer (some ⟨d, 0, none⟩)] w fun e w' => e = .returned (.tuple #[]) ∧ Own E w' (pt d (.cells (dcells (upd s k (.slice a size cap)) rv) 52 (0, 0)) ++ R) := by
  have hget := dcells_get s rv k hk
  rw [hs] at hget
  replace hO := hO.pickPt (b := d)
  clear hp
  have hk1 : (k : Int) < 4 := by omega
  have hk2 : (0 : Int) ≤ k := by omega
  have hn1 : (size : Int) ≤ n := by omega
  have hn3 : (size : Int) ≤ cap := by omega
  have hn2 : (0 : Int) ≤ size := by omega
  go_enter Try.func92, Try.ntmps92
  go_wp2_with ((refine at_box ?_; go_must (refine own_box (v := ?_) hO ?_ ?_ ?_; rotate_left; (· rfl); (· ((conv => lhs; whnf); try exact rfl)); clear hO; (try clear hF); intro _ _ hO; (try simp only [Value.cells] at hO); ((try simp only [List.nil_append, List.append_nil] at hO); have hF := Own.cells hO; simp only [cellsOf_append, cellsOf_pt] at hF); simp only [Act.put, List.setIfInBounds_toArray, List.set_cons_zero, List.set_cons_succ])))
  (refine own_still_tail 16 (by kernel_rfl) (by kernel_rfl) hO ?_; clear hO; (try clear hF); intro _ hO; ((try simp only [List.nil_append, List.append_nil] at hO); have hF := Own.cells hO; simp only [cellsOf_append, cellsOf_pt] at hF); simp only [List.take_succ_cons, List.take_zero, List.drop_succ_cons, List.drop_zero]; (repeat still_step); (try refine wpStill_nil ?_))
  (refine own_store (v := ?_) (off := 1 + k) (b := d) hO ?_ ?_ ?_ ?_ ?_ ?_ ?_; rotate_left; (· rfl); (· ((conv => lhs; whnf); try exact rfl)); (· ((conv => lhs; whnf); try exact rfl)); (· simp [Value.cells]); (· simp [Value.cells, Value.oneCell']); (· simp [Value.cells, dcells]; omega); clear hO; (try clear hF); intro _ hO; (try simp only [splice, Value.cells] at hO); ((try simp only [List.nil_append, List.append_nil] at hO); have hF := Own.cells hO; simp only [cellsOf_append, cellsOf_pt] at hF); simp only [Act.put, List.setIfInBounds_toArray, List.set_cons_zero, List.set_cons_succ])
  go_wp2
  go_end0
  simp only [dcells_set _ _ _ _ hk] at hO
  exact ⟨rfl, hO.as _⟩

set_option maxRecDepth 100000 in
set_option maxHeartbeats 4000000 in
theorem dPutDo (E w : World) (X R : Fr) (d : Nat) (s : Nat → Value) (rv : Value) (k p : Nat) (t : ByteArray) (l : List UInt8) (cap : Nat) (a : Option Addr) (A : Fr) (hk : k < 4) (hpt : p + t.size ≤ 4194304) (hll : l.length ≤ 4194304)
   (hs : s k = .slice a l.length cap) (hv : Sl 5 1 a l.length cap (bytesV l) A)
   (hO : Own E w X) [hp : Pick X (pt d (.cells (dcells s rv) 52 (0, 0)) ++ A) R] :
    Calls Try.prog 91 #[.agg #[.int .i64 k, .int .i64 p, .string t], .pointer (some ⟨d, 0, none⟩)] w fun e w' => e = .returned (.tuple #[]) ∧
      ∃ a' cap' A', Sl 5 1 a' (over l p t.data.toList).length cap' (bytesV (over l p t.data.toList)) A' ∧
      Own E w' ((pt d (.cells (dcells (upd s k (.slice a' (over l p t.data.toList).length cap')) rv) 52 (0, 0)) ++ A') ++ R) := by
  have hget := dcells_get s rv k hk
  rw [hs] at hget
  replace hO : Own E w (pt d (.cells (dcells s rv) 52 (0, 0)) ++ (A ++ R)) := by
    have := hO.perm hp.perm
    rwa [List.append_assoc] at this
  clear hp
  have hk1 : (k : Int) < 4 := by omega
  have hk2 : (0 : Int) ≤ k := by omega
  have hn1 : (p : Int) ≤ 4194304 := by omega
  have hn3 : (t.size : Int) ≤ 4194304 := by omega
  have hn4 : (l.length : Int) ≤ 4194304 := by omega
  by_cases hlt : l.length < p + t.size
  · have hlt' : 0 < (p : Int) + t.size - l.length := by omega
    go_enter Try.func91, Try.ntmps91
    go_wp2_with ((refine at_box ?_; go_must (refine own_box (v := ?_) hO ?_ ?_ ?_; rotate_left; (· rfl); (· ((conv => lhs; whnf); try exact rfl)); clear hO; (try clear hF); intro _ _ hO; (try simp only [Value.cells] at hO); ((try simp only [List.nil_append, List.append_nil] at hO); have hF := Own.cells hO; simp only [cellsOf_append, cellsOf_pt] at hF); simp only [Act.put, List.setIfInBounds_toArray, List.set_cons_zero, List.set_cons_succ])))
    (refine own_still (by kernel_rfl) (by kernel_rfl) hO ?_; clear hO; (try clear hF); intro _ hO; ((try simp only [List.nil_append, List.append_nil] at hO); have hF := Own.cells hO; simp only [cellsOf_append, cellsOf_pt] at hF); (repeat still_step); refine wpStill_nil ?_)
    go_wp2_with (at_builtin; go_must (refine own_append_zeros (xi := ?_) (m := p + t.size - l.length) sltBytes (by kernel_rfl) hO ?_ ?_ ?_ ?_ hv ?_ ?_ ?_ ?_ ?_; rotate_left; (· rfl); (· rfl); (· ((conv => lhs; whnf); try exact rfl)); (· omega); (· intro u hu; simp [Value.cells] at hu; subst hu; rfl); (· simp only [maxLen]; omega); (· omega); (· omega); clear hO; intro a1 cap1 A1 w1 hS hO; simp only [Act.put, List.setIfInBounds_toArray, List.set_cons_zero, List.set_cons_succ]))
    rw [zeroCells_byte, ← bytesV_append] at hS
    generalize hnn : l.length + (p + t.size - l.length) = n1 at *
    have hpn : (p : Int) ≤ n1 := by omega
    have hcl := hS.le
    (refine own_still_tail 6 (by kernel_rfl) (by kernel_rfl) hO ?_; clear hO; (try clear hF); intro _ hO; ((try simp only [List.nil_append, List.append_nil] at hO); have hF := Own.cells hO; simp only [cellsOf_append, cellsOf_pt] at hF); simp only [List.take_succ_cons, List.take_zero, List.drop_succ_cons, List.drop_zero]; (repeat still_step); (try refine wpStill_nil ?_))
    generalize hda : (if cap1 = p then a1 else Option.map (fun x => x.add p) a1) = da
    have hda2 : Hid (0 < t.size → da = a1.map (·.add p)) := by intro h0; rw [← hda, if_neg (by omega)]
    clear hda
    refine own_copy_str (dn := ?_) (dc := ?_) (l := p) (s := t) sltBytes hO ?_ ?_ ?_ hS hda2 ?_ ?_ ?_; rotate_left 2
    · rfl
    · ((conv => lhs; whnf); try exact rfl)
    · rfl
    · omega
    · omega
    clear hO; intro A2 _ hS2 hO; simp only [Act.put, List.setIfInBounds_toArray, List.set_cons_zero, List.set_cons_succ]
    go_wp2
    (refine own_still_tail 7 (by kernel_rfl) (by kernel_rfl) hO ?_; clear hO; (try clear hF); intro _ hO; ((try simp only [List.nil_append, List.append_nil] at hO); have hF := Own.cells hO; simp only [cellsOf_append, cellsOf_pt] at hF); simp only [List.take_succ_cons, List.take_zero, List.drop_succ_cons, List.drop_zero]; (repeat still_step); (try refine wpStill_nil ?_))
    (refine own_store (v := ?_) (off := 1 + k) (b := d) hO ?_ ?_ ?_ ?_ ?_ ?_ ?_; rotate_left; (· rfl); (· ((conv => lhs; whnf); try exact rfl)); (· ((conv => lhs; whnf); try exact rfl)); (· simp [Value.cells]); (· simp [Value.cells, Value.oneCell']); (· simp [Value.cells, dcells]; omega); clear hO; (try clear hF); intro _ hO; (try simp only [splice, Value.cells] at hO); ((try simp only [List.nil_append, List.append_nil] at hO); have hF := Own.cells hO; simp only [cellsOf_append, cellsOf_pt] at hF); simp only [Act.put, List.setIfInBounds_toArray, List.set_cons_zero, List.set_cons_succ])
    go_wp2
    go_end0
    simp only [dcells_set _ _ _ _ hk] at hO
    have hsz : t.data.toList.length = t.size := by rw [Array.length_toList]; rfl
    have hov : bytesV (over l p t.data.toList) = (bytesV (l ++ List.replicate (p + t.size - l.length) 0)).take p ++ bytesV t.data.toList ++ (bytesV (l ++ List.replicate (p + t.size - l.length) 0)).drop (p + t.size) := by
      simp only [over, bytesV_append, bytesV_take, bytesV_drop, hsz]
    have hol : (over l p t.data.toList).length = n1 := by rw [over_length, hsz]; omega
    rw [hol, hov]
    exact ⟨rfl, a1, cap1, A2, hS2, hO.as _⟩
  · have hS := hv
    have hr0 : l ++ List.replicate (p + t.size - l.length) 0 = l := by rw [show p + t.size - l.length = 0 by omega]; simp
    rw [← hr0] at hS
    have hlt' : (p : Int) + t.size - l.length ≤ 0 := by omega
    generalize hnn : (l ++ List.replicate (p + t.size - l.length) 0).length = n1 at *
    have hn1l : l.length = n1 := by rw [← hnn, hr0]
    obtain ⟨a1, rfl⟩ : ∃ x, x = a := ⟨_, rfl⟩
    obtain ⟨cap1, rfl⟩ : ∃ x, x = cap := ⟨_, rfl⟩
    obtain ⟨A1, rfl⟩ : ∃ x, x = A := ⟨_, rfl⟩
    go_enter Try.func91, Try.ntmps91
    go_wp2_with ((refine at_box ?_; go_must (refine own_box (v := ?_) hO ?_ ?_ ?_; rotate_left; (· rfl); (· ((conv => lhs; whnf); try exact rfl)); clear hO; (try clear hF); intro _ _ hO; (try simp only [Value.cells] at hO); ((try simp only [List.nil_append, List.append_nil] at hO); have hF := Own.cells hO; simp only [cellsOf_append, cellsOf_pt] at hF); simp only [Act.put, List.setIfInBounds_toArray, List.set_cons_zero, List.set_cons_succ])))
    (refine own_still (by kernel_rfl) (by kernel_rfl) hO ?_; clear hO; (try clear hF); intro _ hO; ((try simp only [List.nil_append, List.append_nil] at hO); have hF := Own.cells hO; simp only [cellsOf_append, cellsOf_pt] at hF); (repeat still_step); refine wpStill_nil ?_)
    go_wp2_with (go_at_call 0)
    have hpn : (p : Int) ≤ n1 := by omega
    have hcl := hS.le
    (refine own_still_tail 6 (by kernel_rfl) (by kernel_rfl) hO ?_; clear hO; (try clear hF); intro _ hO; ((try simp only [List.nil_append, List.append_nil] at hO); have hF := Own.cells hO; simp only [cellsOf_append, cellsOf_pt] at hF); simp only [List.take_succ_cons, List.take_zero, List.drop_succ_cons, List.drop_zero]; (repeat still_step); (try refine wpStill_nil ?_))
    generalize hda : (if cap1 = p then a1 else Option.map (fun x => x.add p) a1) = da
    have hda2 : Hid (0 < t.size → da = a1.map (·.add p)) := by intro h0; rw [← hda, if_neg (by omega)]
    clear hda
    refine own_copy_str (dn := ?_) (dc := ?_) (l := p) (s := t) sltBytes hO ?_ ?_ ?_ hS hda2 ?_ ?_ ?_; rotate_left 2
    · rfl
    · ((conv => lhs; whnf); try exact rfl)
    · rfl
    · omega
    · omega
    clear hO; intro A2 _ hS2 hO; simp only [Act.put, List.setIfInBounds_toArray, List.set_cons_zero, List.set_cons_succ]
    go_wp2
    (refine own_still_tail 7 (by kernel_rfl) (by kernel_rfl) hO ?_; clear hO; (try clear hF); intro _ hO; ((try simp only [List.nil_append, List.append_nil] at hO); have hF := Own.cells hO; simp only [cellsOf_append, cellsOf_pt] at hF); simp only [List.take_succ_cons, List.take_zero, List.drop_succ_cons, List.drop_zero]; (repeat still_step); (try refine wpStill_nil ?_))
    (refine own_store (v := ?_) (off := 1 + k) (b := d) hO ?_ ?_ ?_ ?_ ?_ ?_ ?_; rotate_left; (· rfl); (· ((conv => lhs; whnf); try exact rfl)); (· ((conv => lhs; whnf); try exact rfl)); (· simp [Value.cells]); (· simp [Value.cells, Value.oneCell']); (· simp [Value.cells, dcells]; omega); clear hO; (try clear hF); intro _ hO; (try simp only [splice, Value.cells] at hO); ((try simp only [List.nil_append, List.append_nil] at hO); have hF := Own.cells hO; simp only [cellsOf_append, cellsOf_pt] at hF); simp only [Act.put, List.setIfInBounds_toArray, List.set_cons_zero, List.set_cons_succ])
    go_wp2
    go_end0
    simp only [dcells_set _ _ _ _ hk] at hO
    have hsz : t.data.toList.length = t.size := by rw [Array.length_toList]; rfl
    have hov : bytesV (over l p t.data.toList) = (bytesV (l ++ List.replicate (p + t.size - l.length) 0)).take p ++ bytesV t.data.toList ++ (bytesV (l ++ List.replicate (p + t.size - l.length) 0)).drop (p + t.size) := by
      simp only [over, bytesV_append, bytesV_take, bytesV_drop, hsz]
    have hol : (over l p t.data.toList).length = n1 := by rw [over_length, hsz]; omega
    rw [hol, hov]
    exact ⟨rfl, a1, cap1, A2, hS2, hO.as _⟩
end Go.Proofs.Ytkkeplobomncgaa
