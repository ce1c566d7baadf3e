/- The sorter's contracts: New, taking, lay, Add, Runs, Sorted. -/
import Derived.Test.YtnfclieaendgeaaSortS
import Derived.Test.YtnfclieaendgeaaSrt3
set_option linter.all false
namespace Go.Proofs.Ytnfclieaendgeaa
open Go Go.RowKit Go.Own Go.Hp

theorem RoOk.of {E : World} {I J : Fr} {r : RO} (h : RoOk E I r) (hs : ∀ w, Own E w J → Own E w I) : RoOk E J r := h.more hs

/-- A sorter at block b: what is in hand, which runs there are. -/
def SSt (E : World) (b room : Nat) (hand : List ByteArray) (rs : List RO) (A : Fr) : Prop :=
  ∃ ha hc H ra rc Rw I, Sl 9 1 ha hand.length hc (hand.map .string) H ∧ Sl 23 1 ra rs.length rc (rs.map roV) Rw ∧ (∀ r ∈ rs, RoOk E I r ∧ Rise r.l) ∧
    A = pt b (.cells #[.int .i64 room, .slice ha hand.length hc, .slice ra rs.length rc, .bool false] 67 (0, 0)) ++ (H ++ (Rw ++ I))
/-- It is over. -/
def SOv (b : Nat) (A : Fr) : Prop := ∃ (room : Nat) (v1 v2 : Value) (B : Fr), 1 ≤ room ∧ room ≤ 65536 ∧ A = pt b (.cells #[.int .i64 room, v1, v2, .bool true] 67 (0, 0)) ++ B

def NewP (E : World) (X : Fr) (room : Int) (e : Ending) (w' : World) : Prop :=
  (1 ≤ room ∧ room ≤ 65536 ∧ ∃ b A, e = .returned (.tuple #[.pointer (some ⟨b, 0, none⟩), .int .i64 0]) ∧ SSt E b room.toNat [] [] A ∧ Own E w' (A ++ X)) ∨ (¬ (1 ≤ room ∧ room ≤ 65536) ∧ e = .returned (.tuple #[.pointer none, .int .i64 1]) ∧ Own E w' X)
set_option maxRecDepth 100000 in
set_option maxHeartbeats 16000000 in
theorem sNew (E w : World) (X : Fr) (room : Int) (hO : Own E w X) :
    Calls Try.prog 33 #[.int .i64 room] w (NewP E X room) := by
  by_cases h1 : room < 1
  · go_enter Try.func33, Try.ntmps33
    go_wp2_with fail
    go_ret2
    exact .inr ⟨fun h => by omega, rfl, hO⟩
  by_cases h2 : 65536 < room
  · go_enter Try.func33, Try.ntmps33
    go_wp2_with fail
    go_ret2
    exact .inr ⟨fun h => by omega, rfl, hO⟩
  go_enter Try.func33, Try.ntmps33
  go_wp2_with (first | (refine at_box ?_; go_must (refine own_box (v := ?_) hO ?_ ?_ ?_; rotate_left; (· rfl); (· ((conv => lhs; whnf); try exact rfl)); clear hO; (try clear hF); intro b _ hO; (try simp only [Value.cells] at hO); ((try simp only [List.nil_append, List.append_nil] at hO); have hF := Own.cells hO; simp only [cellsOf_append, cellsOf_pt] at hF); simp only [Act.put, List.setIfInBounds_toArray, List.set_cons_zero, List.set_cons_succ])))
  go_ret2
  obtain ⟨n, rfl⟩ : ∃ n : Nat, room = n := ⟨room.toNat, by omega⟩
  exact .inl ⟨by omega, by omega, b, _, rfl, ⟨none, 0, [], none, 0, [], [], Sl.nil _ _, Sl.nil _ _, fun r h => by (cases h), rfl⟩, by simpa using hO⟩

set_option maxRecDepth 100000 in
set_option maxHeartbeats 16000000 in
theorem sTaking (E w : World) (X R A : Fr) (b room : Nat) (hand : List ByteArray) (rs : List RO) (hA : SSt E b room hand rs A) (h1 : 1 ≤ room) (h2 : room ≤ 65536) (hO : Own E w X) [hp : Pick X A R] :
    Calls Try.prog 54 #[.pointer (some ⟨b, 0, none⟩)] w fun e w' => e = .returned (.int .i64 0) ∧ w = w' := by
  replace hO := hO.perm hp.perm
  obtain ⟨ha, hc, H, ra, rc, Rw, I, hH, hR, hI, rfl⟩ := hA
  have h3 : ¬ (room : Int) = 0 := by omega
  have h4 : ((room : Int) == 0) = false := by simp; omega
  ((try simp only [List.nil_append, List.append_nil] at hO); have hF := Own.cells hO; simp only [cellsOf_append, cellsOf_pt] at hF)
  go_enter Try.func54, Try.ntmps54
  go_wp2
  go_ret
  exact ⟨rfl, rfl⟩

set_option maxRecDepth 100000 in
set_option maxHeartbeats 16000000 in
theorem sTakingO (E w : World) (X R A : Fr) (b : Nat) (hA : SOv b A) (hO : Own E w X) [hp : Pick X A R] :
    Calls Try.prog 54 #[.pointer (some ⟨b, 0, none⟩)] w fun e w' => e = .returned (.int .i64 5) ∧ w = w' := by
  replace hO := hO.perm hp.perm
  obtain ⟨room, v1, v2, B, h1, h2, rfl⟩ := hA
  have h3 : ¬ (room : Int) = 0 := by omega
  have h4 : ((room : Int) == 0) = false := by simp; omega
  ((try simp only [List.nil_append, List.append_nil] at hO); have hF := Own.cells hO; simp only [cellsOf_append, cellsOf_pt] at hF)
  go_enter Try.func54, Try.ntmps54
  go_wp2
  go_ret
  exact ⟨rfl, rfl⟩

end Go.Proofs.Ytnfclieaendgeaa
