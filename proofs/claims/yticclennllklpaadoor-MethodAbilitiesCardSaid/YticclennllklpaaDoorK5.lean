/- Layer 9: Abilities: asking a method. -/
import Derived.Test.YticclennllklpaaDoorK4
import Derived.Test.YticclennllklpaaDoorRows
import Derived.ProofKit
import Derived.OpenShut
import Derived.LaidMore
import Derived.Lay
import Derived.Stop.Joined
set_option linter.all false
/- Layer 9: Abilities: asking a method. -/
namespace Go.Proofs.YticclennllklpaaDoor
open Go Go.RowKit Go.Own Go.Dt

theorem missing_some (want : Array (String × TypeId)) (got : Array Method) (h : (want.toList.filter fun x => !got.any fun m => m.name == x.1 && m.sig == x.2).isEmpty = false) : ∃ m, Instr.missingMethod want got = some m := by
  unfold Instr.missingMethod
  generalize hl : (want.toList.filter fun x => !got.any fun m => m.name == x.1 && m.sig == x.2) = l at h
  show ∃ m, (let (unexported, exported) := (l.map (·.1)).partition (·.contains '.')
    Instr.least exported <|> Instr.least (unexported.map fun id => (id.splitOn ".").getLastD id)) = some m
  rw [List.partition_eq_filter_filter]
  have hne : l.map (·.1) ≠ [] := by
    intro e
    rw [List.map_eq_nil_iff] at e
    rw [e] at h
    cases h
  generalize l.map (·.1) = ms at hne
  obtain ⟨x, hx⟩ := List.exists_mem_of_ne_nil _ hne
  simp only
  cases he : (ms.filter (not ∘ fun x => x.contains '.')) with
  | cons s r => exact ⟨_, rfl⟩
  | nil =>
    have hu : x ∈ ms.filter (fun x => x.contains '.') := by
      rw [List.mem_filter]
      refine ⟨hx, ?_⟩
      have := List.filter_eq_nil_iff.1 he x hx
      simpa using this
    cases hq : (ms.filter (fun x => x.contains '.')) with
    | nil => rw [hq] at hu; exact (nomatch hu)
    | cons s r => exact ⟨_, rfl⟩
/-- Does a type lack a method of an interface? -/
def lacks (P : Program) (ti t : TypeId) : Bool := match P.underlying ti, P.info? t with
  | some (.interface want), some i => !(want.toList.filter fun x => !i.methods.any fun m => m.name == x.1 && m.sig == x.2).isEmpty
  | _, _ => false
theorem ta_no {xT ti t : TypeId} {v : Value} (h : lacks Tryd.prog ti t = true) (hz : ∀ w, (zeroValue ti).run Tryd.prog w = .ok .nilIface w) (w : World) : (Instr.typeAssert (.iface t v) xT ti true).run Tryd.prog w = .ok (.tuple #[.nilIface, .bool false]) w := by
  unfold lacks at h
  cases hu : Tryd.prog.underlying ti with
  | none => rw [hu] at h; cases h
  | some u =>
    cases hi : Tryd.prog.info? t with
    | none => rw [hu, hi] at h; cases u <;> cases h
    | some i =>
      cases u with
      | interface want =>
        rw [hu, hi] at h
        have h2 : (want.toList.filter fun x => !i.methods.any fun m => m.name == x.1 && m.sig == x.2).isEmpty = false := by simpa using h
        obtain ⟨m, hm⟩ := missing_some want i.methods h2
        simp [Instr.typeAssert, run_underlying hu, typeInfo, hi, hm, hz]
      | _ => rw [hu, hi] at h; cases h
theorem taNilOrdered (w : World) : (Instr.typeAssert .nilIface 48 83 true).run Tryd.prog w = .ok (.tuple #[.nilIface, .bool false]) w := by kernel_rfl
theorem taBareOrdered (v : Value) (w : World) : (Instr.typeAssert (.iface 40 v) 48 83 true).run Tryd.prog w = .ok (.tuple #[.nilIface, .bool false]) w := ta_no (by kernel_rfl) (fun _ => by kernel_rfl) w
theorem taLoadedOrdered (v : Value) (w : World) : (Instr.typeAssert (.iface 42 v) 48 83 true).run Tryd.prog w = .ok (.tuple #[.nilIface, .bool false]) w := ta_no (by kernel_rfl) (fun _ => by kernel_rfl) w
theorem taBothOrdered (v : Value) (w : World) : (Instr.typeAssert (.iface 43 v) 48 83 true).run Tryd.prog w = .ok (.tuple #[.nilIface, .bool false]) w := ta_no (by kernel_rfl) (fun _ => by kernel_rfl) w
theorem taPlainOrdered (v : Value) (w : World) : (Instr.typeAssert (.iface 24 v) 48 83 true).run Tryd.prog w = .ok (.tuple #[.iface 24 v, .bool true]) w := by kernel_rfl
theorem taNilLoaded (w : World) : (Instr.typeAssert .nilIface 48 86 true).run Tryd.prog w = .ok (.tuple #[.nilIface, .bool false]) w := by kernel_rfl
theorem taBareLoaded (v : Value) (w : World) : (Instr.typeAssert (.iface 40 v) 48 86 true).run Tryd.prog w = .ok (.tuple #[.nilIface, .bool false]) w := ta_no (by kernel_rfl) (fun _ => by kernel_rfl) w
theorem taLoadedLoaded (v : Value) (w : World) : (Instr.typeAssert (.iface 42 v) 48 86 true).run Tryd.prog w = .ok (.tuple #[.iface 42 v, .bool true]) w := by kernel_rfl
theorem taBothLoaded (v : Value) (w : World) : (Instr.typeAssert (.iface 43 v) 48 86 true).run Tryd.prog w = .ok (.tuple #[.nilIface, .bool false]) w := ta_no (by kernel_rfl) (fun _ => by kernel_rfl) w
theorem taPlainLoaded (v : Value) (w : World) : (Instr.typeAssert (.iface 24 v) 48 86 true).run Tryd.prog w = .ok (.tuple #[.nilIface, .bool false]) w := ta_no (by kernel_rfl) (fun _ => by kernel_rfl) w
theorem taNilItems (w : World) : (Instr.typeAssert .nilIface 48 89 true).run Tryd.prog w = .ok (.tuple #[.nilIface, .bool false]) w := by kernel_rfl
theorem taBareItems (v : Value) (w : World) : (Instr.typeAssert (.iface 40 v) 48 89 true).run Tryd.prog w = .ok (.tuple #[.nilIface, .bool false]) w := ta_no (by kernel_rfl) (fun _ => by kernel_rfl) w
theorem taLoadedItems (v : Value) (w : World) : (Instr.typeAssert (.iface 42 v) 48 89 true).run Tryd.prog w = .ok (.tuple #[.nilIface, .bool false]) w := ta_no (by kernel_rfl) (fun _ => by kernel_rfl) w
theorem taBothItems (v : Value) (w : World) : (Instr.typeAssert (.iface 43 v) 48 89 true).run Tryd.prog w = .ok (.tuple #[.iface 43 v, .bool true]) w := by kernel_rfl
theorem taPlainItems (v : Value) (w : World) : (Instr.typeAssert (.iface 24 v) 48 89 true).run Tryd.prog w = .ok (.tuple #[.nilIface, .bool false]) w := ta_no (by kernel_rfl) (fun _ => by kernel_rfl) w
theorem taNilCounted (w : World) : (Instr.typeAssert .nilIface 48 92 true).run Tryd.prog w = .ok (.tuple #[.nilIface, .bool false]) w := by kernel_rfl
theorem taBareCounted (v : Value) (w : World) : (Instr.typeAssert (.iface 40 v) 48 92 true).run Tryd.prog w = .ok (.tuple #[.nilIface, .bool false]) w := ta_no (by kernel_rfl) (fun _ => by kernel_rfl) w
theorem taLoadedCounted (v : Value) (w : World) : (Instr.typeAssert (.iface 42 v) 48 92 true).run Tryd.prog w = .ok (.tuple #[.nilIface, .bool false]) w := ta_no (by kernel_rfl) (fun _ => by kernel_rfl) w
theorem taBothCounted (v : Value) (w : World) : (Instr.typeAssert (.iface 43 v) 48 92 true).run Tryd.prog w = .ok (.tuple #[.iface 43 v, .bool true]) w := by kernel_rfl
theorem taPlainCounted (v : Value) (w : World) : (Instr.typeAssert (.iface 24 v) 48 92 true).run Tryd.prog w = .ok (.tuple #[.nilIface, .bool false]) w := ta_no (by kernel_rfl) (fun _ => by kernel_rfl) w
theorem sltS9 : SlT Tryd.prog 45 9 1 16 (.string .empty) := ⟨by kernel_rfl, by kernel_rfl, rfl⟩
def AbP (E : World) (l : List ByteArray) (X : Fr) (e : Ending) (w' : World) : Prop :=
  ∃ (so : Option Addr) (co : Nat) (SO : Fr), e = .returned (.slice so l.length co) ∧ Sl 9 1 so l.length co (l.map Value.string) SO ∧ Own E w' (SO ++ X)
def sOrd : ByteArray := ⟨#[111, 114, 100, 101, 114, 101, 100]⟩
def sLoad : ByteArray := ⟨#[108, 111, 97, 100, 101, 100]⟩
def sItems : ByteArray := ⟨#[105, 116, 101, 109, 115]⟩
def sCount : ByteArray := ⟨#[99, 111, 117, 110, 116, 101, 100]⟩
set_option maxRecDepth 100000 in
set_option maxHeartbeats 16000000 in
theorem abNil (E w : World) (X : Fr) (hO : Own E w X) : Calls Tryd.prog 16 #[.nilIface] w (AbP E [] X) := by
  generalize hpost : AbP E [] X = POST
  have HPOST := Lib.hid hpost
  clear hpost
  have t0 := taNilOrdered
  have t1 := taNilLoaded
  have t2 := taNilItems
  have t3 := taNilCounted
  go_enter Tryd.func16, Tryd.ntmps16
  go_wp2_with fail
  rw [← HPOST.out]
  exact ⟨none, 0, [], rfl, Sl.nil _ _, hO⟩
set_option maxRecDepth 100000 in
set_option maxHeartbeats 16000000 in
theorem abBare (E w : World) (X : Fr) (hO : Own E w X) : Calls Tryd.prog 16 #[.iface 40 (.agg #[])] w (AbP E [] X) := by
  generalize hpost : AbP E [] X = POST
  have HPOST := Lib.hid hpost
  clear hpost
  have t0 := taBareOrdered (.agg #[])
  have t1 := taBareLoaded (.agg #[])
  have t2 := taBareItems (.agg #[])
  have t3 := taBareCounted (.agg #[])
  go_enter Tryd.func16, Tryd.ntmps16
  go_wp2_with fail
  rw [← HPOST.out]
  exact ⟨none, 0, [], rfl, Sl.nil _ _, hO⟩
set_option maxRecDepth 100000 in
set_option maxHeartbeats 16000000 in
theorem abLoaded (E w : World) (X : Fr) (hO : Own E w X) : Calls Tryd.prog 16 #[.iface 42 (.agg #[])] w (AbP E [sLoad] X) := by
  generalize hpost : AbP E [sLoad] X = POST
  have HPOST := Lib.hid hpost
  clear hpost
  have t0 := taLoadedOrdered (.agg #[])
  have t1 := taLoadedLoaded (.agg #[])
  have t2 := taLoadedItems (.agg #[])
  have t3 := taLoadedCounted (.agg #[])
  go_enter Tryd.func16, Tryd.ntmps16
  go_wp2_with (first | (refine at_bs ?_; go_must (refine own_build1 (v := ?_) sltS9 hO ?_ ?_ ?_ ?_ ?_ ?_; rotate_left; (· rfl); (· ((conv => lhs; whnf); try exact rfl)); (· rfl); (· decide); (· decide); clear hO; (try clear hF); intro b1 _ hO; (try simp only [Value.cells] at hO); ((try simp only [List.nil_append, List.append_nil] at hO); have hF := Own.cells hO; simp only [cellsOf_append, cellsOf_pt] at hF); simp only [Act.put, List.setIfInBounds_toArray, List.set_cons_zero, List.set_cons_succ])) | (refine at_append ?_; go_must (refine own_append_new (sz := 1) (bytes := 16) (z := .string .empty) (e := 9) (xv := .slice (some ⟨b1, 0, none⟩) 1 1) (m := 1) (news := [.string sLoad]) sltS9 (.inl (by kernel_rfl)) hO ?_ ?_ ?_ ?_ ?_ ?_ ?_ ?_ ?_ ?_; (· rfl); (· rfl); (· rfl); (· intro w; rfl); (· intro w' hO'; exact first_pt (sz := 1) rfl hO'); (· rfl); (· intro u hu; simp at hu; subst hu; rfl); (· simp only [maxLen]; omega); (· decide); clear hO; (try clear hF); intro so2 co2 SO2 w4 hSO2 hO; ((try simp only [List.nil_append, List.append_nil] at hO); have hF := Own.cells hO; simp only [cellsOf_append, cellsOf_pt] at hF); simp only [Act.put, List.setIfInBounds_toArray, List.set_cons_zero, List.set_cons_succ])))
  rw [← HPOST.out]
  exact ⟨so2, co2, SO2, rfl, hSO2, hO.as _⟩
set_option maxRecDepth 100000 in
set_option maxHeartbeats 16000000 in
theorem abPlain (E w : World) (X : Fr) (p : Nat) (hO : Own E w X) : Calls Tryd.prog 16 #[.iface 24 (.pointer (some ⟨p, 0, none⟩))] w (AbP E [sOrd] X) := by
  generalize hpost : AbP E [sOrd] X = POST
  have HPOST := Lib.hid hpost
  clear hpost
  have t0 := taPlainOrdered (.pointer (some ⟨p, 0, none⟩))
  have t1 := taPlainLoaded (.pointer (some ⟨p, 0, none⟩))
  have t2 := taPlainItems (.pointer (some ⟨p, 0, none⟩))
  have t3 := taPlainCounted (.pointer (some ⟨p, 0, none⟩))
  go_enter Tryd.func16, Tryd.ntmps16
  go_wp2_with (first | (refine at_bs ?_; go_must (refine own_build1 (v := ?_) sltS9 hO ?_ ?_ ?_ ?_ ?_ ?_; rotate_left; (· rfl); (· ((conv => lhs; whnf); try exact rfl)); (· rfl); (· decide); (· decide); clear hO; (try clear hF); intro b1 _ hO; (try simp only [Value.cells] at hO); ((try simp only [List.nil_append, List.append_nil] at hO); have hF := Own.cells hO; simp only [cellsOf_append, cellsOf_pt] at hF); simp only [Act.put, List.setIfInBounds_toArray, List.set_cons_zero, List.set_cons_succ])) | (refine at_append ?_; go_must (refine own_append_new (sz := 1) (bytes := 16) (z := .string .empty) (e := 9) (xv := .slice (some ⟨b1, 0, none⟩) 1 1) (m := 1) (news := [.string sOrd]) sltS9 (.inl (by kernel_rfl)) hO ?_ ?_ ?_ ?_ ?_ ?_ ?_ ?_ ?_ ?_; (· rfl); (· rfl); (· rfl); (· intro w; rfl); (· intro w' hO'; exact first_pt (sz := 1) rfl hO'); (· rfl); (· intro u hu; simp at hu; subst hu; rfl); (· simp only [maxLen]; omega); (· decide); clear hO; (try clear hF); intro so2 co2 SO2 w4 hSO2 hO; ((try simp only [List.nil_append, List.append_nil] at hO); have hF := Own.cells hO; simp only [cellsOf_append, cellsOf_pt] at hF); simp only [Act.put, List.setIfInBounds_toArray, List.set_cons_zero, List.set_cons_succ])))
  rw [← HPOST.out]
  exact ⟨so2, co2, SO2, rfl, hSO2, hO.as _⟩
end Go.Proofs.YticclennllklpaaDoor

/- Layer 9: MethodAbilities. -/
namespace Go.Proofs.YticclennllklpaaDoor
open Go Go.RowKit Go.Own Go.Dt

set_option maxRecDepth 100000 in
set_option maxHeartbeats 16000000 in
theorem abBoth (E w : World) (X : Fr) (hO : Own E w X) : Calls Tryd.prog 16 #[.iface 43 (.agg #[])] w (AbP E [sItems, sCount] X) := by
  generalize hpost : AbP E [sItems, sCount] X = POST
  have HPOST := Lib.hid hpost
  clear hpost
  have t0 := taBothOrdered (.agg #[])
  have t1 := taBothLoaded (.agg #[])
  have t2 := taBothItems (.agg #[])
  have t3 := taBothCounted (.agg #[])
  go_enter Tryd.func16, Tryd.ntmps16
  go_wp2_with (first | (refine at_bs ?_; go_must (refine own_build1 (v := ?_) sltS9 hO ?_ ?_ ?_ ?_ ?_ ?_; rotate_left; (· rfl); (· ((conv => lhs; whnf); try exact rfl)); (· rfl); (· decide); (· decide); clear hO; (try clear hF); intro b1 _ hO; (try simp only [Value.cells] at hO); ((try simp only [List.nil_append, List.append_nil] at hO); have hF := Own.cells hO; simp only [cellsOf_append, cellsOf_pt] at hF); simp only [Act.put, List.setIfInBounds_toArray, List.set_cons_zero, List.set_cons_succ])) | (refine at_append ?_; refine Stop.go ?_))
  refine ⟨?_⟩
  refine own_append_new (sz := 1) (bytes := 16) (z := .string .empty) (e := 9) (xv := .slice (some ⟨b1, 0, none⟩) 1 1) (m := 1) (news := [.string sItems]) sltS9 (.inl (by kernel_rfl)) hO ?_ ?_ ?_ ?_ ?_ ?_ ?_ ?_ ?_ ?_
  · rfl
  · rfl
  · rfl
  · intro w; rfl
  · intro w' hO'; exact first_pt (sz := 1) rfl hO'
  · rfl
  · intro u hu; simp at hu; subst hu; rfl
  · simp only [maxLen]; omega
  · decide
  clear hO hF
  intro so2 co2 SO2 w4 hSO2 hO
  ((try simp only [List.nil_append, List.append_nil] at hO); have hF := Own.cells hO; simp only [cellsOf_append, cellsOf_pt] at hF)
  simp only [Act.put, List.setIfInBounds_toArray, List.set_cons_zero, List.set_cons_succ]
  go_wp2_with (first | (refine at_bs ?_; go_must (refine own_build1 (v := ?_) sltS9 hO ?_ ?_ ?_ ?_ ?_ ?_; rotate_left; (· rfl); (· ((conv => lhs; whnf); try exact rfl)); (· rfl); (· decide); (· decide); clear hO; (try clear hF); intro b2 _ hO; (try simp only [Value.cells] at hO); ((try simp only [List.nil_append, List.append_nil] at hO); have hF := Own.cells hO; simp only [cellsOf_append, cellsOf_pt] at hF); simp only [Act.put, List.setIfInBounds_toArray, List.set_cons_zero, List.set_cons_succ])) | (refine at_append ?_; refine Stop.go ?_))
  refine ⟨?_⟩
  refine own_append (sz := 1) (bytes := 16) (z := .string .empty) (e := 9) (xv := .slice (some ⟨b2, 0, none⟩) 1 1) (m := 1) (news := [.string sCount]) sltS9 (.inl (by kernel_rfl)) hO ?_ ?_ ?_ hSO2 ?_ ?_ ?_ ?_ ?_ ?_ ?_
  · rfl
  · rfl
  · rfl
  · intro w; rfl
  · intro w' hO'; exact first_pt (sz := 1) rfl hO'
  · rfl
  · intro u hu; simp at hu; subst hu; rfl
  · simp only [maxLen]; omega
  · left; decide
  clear hO hF
  intro so3 co3 SO3 w5 hSO3 hO
  simp only [Act.put, List.setIfInBounds_toArray, List.set_cons_zero, List.set_cons_succ]
  go_wp2_with fail
  rw [← HPOST.out]
  exact ⟨so3, co3, SO3, rfl, hSO3, hO.as _⟩
theorem sltM9 : SlT Tryd.prog 44 48 1 16 .nilIface := ⟨by kernel_rfl, by kernel_rfl, rfl⟩
theorem tmod5 (x : Int) : ∃ p : Nat, p ≤ 4 ∧ ((¬ x.tmod 5 < 0 ∧ x.tmod 5 = p) ∨ (x.tmod 5 < 0 ∧ IntKind.i64.wrap (0 - x.tmod 5) = p ∧ IntKind.i64.wrap (- x.tmod 5) = p)) := by
  have h1 : x.tmod 5 < 5 := Int.tmod_lt_of_pos x (by decide)
  have h2 : -5 < x.tmod 5 := Int.lt_tmod_of_pos x (by decide)
  refine ⟨(x.tmod 5).natAbs, by omega, ?_⟩
  by_cases h : 0 ≤ x.tmod 5
  · exact .inl ⟨by omega, by omega⟩
  · refine .inr ⟨by omega, ?_, ?_⟩
    · rw [IntKind.wrap_i64]; omega
    · rw [IntKind.wrap_i64]; omega
def spS : ByteArray := ⟨#[32]⟩
def cat9 (l : List ByteArray) : ByteArray := l.foldl (fun s x => s ++ x ++ spS) ByteArray.empty
theorem cat9_snoc (l : List ByteArray) (x : ByteArray) : cat9 (l ++ [x]) = cat9 l ++ x ++ spS := by
  unfold cat9
  rw [List.foldl_append]
  rfl
set_option maxRecDepth 100000 in
set_option maxHeartbeats 16000000 in
theorem methodAbilities (E w : World) (X R I : Fr) (n : Int) (hG : MaxL E I) (hO : Own E w X) [hp : Pick X I R] :
    Calls Tryd.prog 4 #[.int .i64 n] w fun e w' => e = .returned (.bool true) ∧ Own E w' (I ++ R) := by
  replace hO := hO.perm hp.perm
  clear hp
  obtain ⟨k, hk, hx⟩ := tmod5 n
  have HX := Lib.hid hx
  clear hx
  go_enter Tryd.func4, Tryd.ntmps4
  go_wp2_with fail
  refine (newPlain E _ _ hO).mono ?_
  clear hO
  rintro e w1 ⟨p, rfl, hO⟩
  go_wp2_with (first | (refine at_bs ?_; refine own_buildN (cells := ?_) sltM9 hO ?_ ?_ ?_ ?_ ?_ ?_; rotate_left; (· rfl); (· decide); (· decide); (· rfl); (· simp [Instr.fill, Act.eval, Value.cells, Array.replicate_succ]; exact rfl); clear hO; (try clear hF); intro lb _ hO; ((try simp only [List.nil_append, List.append_nil] at hO); have hF := Own.cells hO; simp only [cellsOf_append, cellsOf_pt] at hF); simp only [Act.put, List.setIfInBounds_toArray, List.set_cons_zero, List.set_cons_succ]) | (refine at_bs ?_; refine Stop.go ?_))
  refine ⟨?_⟩
  refine own_buildN (cells := ?_) sltS9 hO ?_ ?_ ?_ ?_ ?_ ?_
  rotate_left
  · rfl
  · decide
  · decide
  · rfl
  · simp [Instr.fill, Act.eval, Value.cells, Array.replicate_succ]; exact rfl
  clear hO hF
  intro wb _ hO
  simp only [Act.put, List.setIfInBounds_toArray, List.set_cons_zero, List.set_cons_succ]
  obtain ⟨ms, hms⟩ : ∃ ms : Array Value, #[.nilIface, .iface 40 (.agg #[]), .iface 42 (.agg #[]), .iface 43 (.agg #[]), .iface 24 (.pointer (some ⟨p, 0, none⟩))] = ms := ⟨_, rfl⟩
  obtain ⟨ws, hws⟩ : ∃ ws : Array Value, (#[.string ⟨#[]⟩, .string ⟨#[]⟩, .string ⟨#[108, 111, 97, 100, 101, 100, 32]⟩, .string ⟨#[105, 116, 101, 109, 115, 32, 99, 111, 117, 110, 116, 101, 100, 32]⟩, .string ⟨#[111, 114, 100, 101, 114, 101, 100, 32]⟩] : Array Value) = ws := ⟨_, rfl⟩
  have hT : ∃ (m : Value) (l : List ByteArray), ms[k]? = some m ∧ ws[k]? = some (.string (cat9 l)) ∧ l.length ≤ 2 ∧ (∀ j (h : j < l.length), (cat9 (l.take j)).size ≤ 100 ∧ (l[j]'h).size ≤ 100) ∧ ∀ w X, Own E w X → Calls Tryd.prog 16 #[m] w (AbP E l X) := by
    subst hms hws
    match k, hk with
    | 0, _ => exact ⟨_, [], rfl, rfl, by decide, (fun j h => nomatch h), fun w X h => abNil E w X h⟩
    | 1, _ => exact ⟨_, [], rfl, rfl, by decide, (fun j h => nomatch h), fun w X h => abBare E w X h⟩
    | 2, _ => exact ⟨_, [sLoad], rfl, by kernel_rfl, by decide, (fun j h => match j, h with | 0, _ => ⟨Nat.le_of_ble_eq_true (by kernel_rfl), Nat.le_of_ble_eq_true (by kernel_rfl)⟩), fun w X h => abLoaded E w X h⟩
    | 3, _ => exact ⟨_, [sItems, sCount], rfl, by kernel_rfl, by decide, (fun j h => match j, h with | 0, _ => ⟨Nat.le_of_ble_eq_true (by kernel_rfl), Nat.le_of_ble_eq_true (by kernel_rfl)⟩ | 1, _ => ⟨Nat.le_of_ble_eq_true (by kernel_rfl), Nat.le_of_ble_eq_true (by kernel_rfl)⟩), fun w X h => abBoth E w X h⟩
    | 4, _ => exact ⟨_, [sOrd], rfl, by kernel_rfl, by decide, (fun j h => match j, h with | 0, _ => ⟨Nat.le_of_ble_eq_true (by kernel_rfl), Nat.le_of_ble_eq_true (by kernel_rfl)⟩), fun w X h => abPlain E w X p h⟩
  obtain ⟨m, l, hm, hwk, hl2, hl, hab⟩ := hT
  have hm' := hm
  rw [← hms] at hm'
  have hw' := hwk
  rw [← hws] at hw'
  have c1 := (hO.cell (b := lb) k).trans hm'
  have g0 : (0 : Int) ≤ (k : Int) := by omega
  have g1 : (k : Int) < ((5 : Nat) : Int) := by omega
  have g2 : decide ((k : Int) < 0) = false := decide_eq_false (by omega)
  have HW := Lib.hid hw'
  clear hm hwk hms hws hm' hw'
  rcases HX.out with ⟨h1, h2⟩ | ⟨h1, h2, h3⟩
  · have g3 : decide (n.tmod 5 < 0) = false := decide_eq_false (by omega)
    clear h1
    go_wp2_with (go_at_call 16; refine (hab _ _ hO).mono ?_; clear hO c1; rintro e w2 ⟨so, co, SO, rfl, hSO, hO⟩)
    have hO2 := hO
    clear hO
    go_loopw [6, 8] (fun t i wr => ∃ (j : Nat), t = .string (cat9 (l.take j)) ∧ i = .int .i64 (j : Int) ∧ j ≤ l.length ∧ wr = w2) (fun _ i _ => l.length - (intOf i).toNat)
    case atStart => exact ⟨0, rfl, rfl, Nat.zero_le _, rfl⟩
    case round =>
      obtain ⟨j, rfl, rfl, hj, rfl⟩ := hrel
      have hO := hO2
      by_cases hlt : j < l.length
      · have q1 : (j : Int) < l.length := by omega
        have q2 : (0 : Int) ≤ (j : Int) := by omega
        obtain ⟨sb, rfl⟩ := sl_some9 hSO (by omega)
        have c2 : wr.cell? ⟨sb, j, none⟩ = some (.string (l[j]'hlt)) := by
          have := hSO.cell hO ⟨sb, 0, none⟩ rfl j (by rw [List.length_map]; exact hlt)
          rw [add_lit, Nat.zero_add, List.getElem_map] at this
          exact this
        have HL := Lib.hid hlt
        obtain ⟨z1, z2⟩ := hl j hlt
        obtain ⟨x, hx⟩ : ∃ x, l[j]'hlt = x := ⟨_, rfl⟩
        rw [hx] at c2 z2
        have z3 : ¬ 9223372036854775807 < (cat9 (List.take j l)).size + x.size := by omega
        have z4 : ¬ 9223372036854775807 < (cat9 (List.take j l)).size + x.size + 1 := by omega
        clear z1 z2
        have HXX := Lib.hid (show ∀ h, l[j]'h = x from fun _ => hx)
        clear hx hlt hj
        go_wp2_with fail
        have hlt := HL.out
        go_roundw
        case rel =>
          refine ⟨j + 1, ?_, by go_num, hlt, by trivial⟩
          rw [List.take_succ_eq_append_getElem hlt, cat9_snoc, HXX.out hlt]
          rfl
        case measure => simp [intOf]; omega
      · obtain rfl : j = l.length := by omega
        rw [List.take_length]
        have q1 : ¬ ((l.length : Nat) : Int) < l.length := by omega
        have q3 : decide (((l.length : Nat) : Int) < l.length) = false := decide_eq_false q1
        have c3 := (hO.cell (b := wb) k).trans HW.out
        clear hlt hj
        go_wp2_with (go_at_call 9; go_loud (refine (awake9 E wr _ (SO ++ (pt wb (.cells #[.string ⟨#[]⟩, .string ⟨#[]⟩, .string ⟨#[108, 111, 97, 100, 101, 100, 32]⟩, .string ⟨#[105, 116, 101, 109, 115, 32, 99, 111, 117, 110, 116, 101, 100, 32]⟩, .string ⟨#[111, 114, 100, 101, 114, 101, 100, 32]⟩] 9 (0, 0)) ++ (pt lb (.cells #[.nilIface, .iface 40 (.agg #[]), .iface 42 (.agg #[]), .iface 43 (.agg #[]), .iface 24 (.pointer (some ⟨p, 0, none⟩))] 48 (0, 0)) ++ (plainF p none 0 0 ++ R)))) I hG (hO.as (I ++ (SO ++ (pt wb (.cells #[.string ⟨#[]⟩, .string ⟨#[]⟩, .string ⟨#[108, 111, 97, 100, 101, 100, 32]⟩, .string ⟨#[105, 116, 101, 109, 115, 32, 99, 111, 117, 110, 116, 101, 100, 32]⟩, .string ⟨#[111, 114, 100, 101, 114, 101, 100, 32]⟩] 9 (0, 0)) ++ (pt lb (.cells #[.nilIface, .iface 40 (.agg #[]), .iface 42 (.agg #[]), .iface 43 (.agg #[]), .iface 24 (.pointer (some ⟨p, 0, none⟩))] 48 (0, 0)) ++ (plainF p none 0 0 ++ R))))))).mono ?_; clear hO hO2; rintro e w3 ⟨rfl, hO⟩))
        go_ret
        exact ⟨rfl, hO.as _⟩
  · have g3 : decide (n.tmod 5 < 0) = true := decide_eq_true h1
    clear h1
    go_wp2_with (go_at_call 16; refine (hab _ _ hO).mono ?_; clear hO c1; rintro e w2 ⟨so, co, SO, rfl, hSO, hO⟩)
    have hO2 := hO
    clear hO
    go_loopw [6, 8] (fun t i wr => ∃ (j : Nat), t = .string (cat9 (l.take j)) ∧ i = .int .i64 (j : Int) ∧ j ≤ l.length ∧ wr = w2) (fun _ i _ => l.length - (intOf i).toNat)
    case atStart => exact ⟨0, rfl, rfl, Nat.zero_le _, rfl⟩
    case round =>
      obtain ⟨j, rfl, rfl, hj, rfl⟩ := hrel
      have hO := hO2
      by_cases hlt : j < l.length
      · have q1 : (j : Int) < l.length := by omega
        have q2 : (0 : Int) ≤ (j : Int) := by omega
        obtain ⟨sb, rfl⟩ := sl_some9 hSO (by omega)
        have c2 : wr.cell? ⟨sb, j, none⟩ = some (.string (l[j]'hlt)) := by
          have := hSO.cell hO ⟨sb, 0, none⟩ rfl j (by rw [List.length_map]; exact hlt)
          rw [add_lit, Nat.zero_add, List.getElem_map] at this
          exact this
        have HL := Lib.hid hlt
        obtain ⟨z1, z2⟩ := hl j hlt
        obtain ⟨x, hx⟩ : ∃ x, l[j]'hlt = x := ⟨_, rfl⟩
        rw [hx] at c2 z2
        have z3 : ¬ 9223372036854775807 < (cat9 (List.take j l)).size + x.size := by omega
        have z4 : ¬ 9223372036854775807 < (cat9 (List.take j l)).size + x.size + 1 := by omega
        clear z1 z2
        have HXX := Lib.hid (show ∀ h, l[j]'h = x from fun _ => hx)
        clear hx hlt hj
        go_wp2_with fail
        have hlt := HL.out
        go_roundw
        case rel =>
          refine ⟨j + 1, ?_, by go_num, hlt, by trivial⟩
          rw [List.take_succ_eq_append_getElem hlt, cat9_snoc, HXX.out hlt]
          rfl
        case measure => simp [intOf]; omega
      · obtain rfl : j = l.length := by omega
        rw [List.take_length]
        have q1 : ¬ ((l.length : Nat) : Int) < l.length := by omega
        have q3 : decide (((l.length : Nat) : Int) < l.length) = false := decide_eq_false q1
        have c3 := (hO.cell (b := wb) k).trans HW.out
        clear hlt hj
        go_wp2_with (go_at_call 9; go_loud (refine (awake9 E wr _ (SO ++ (pt wb (.cells #[.string ⟨#[]⟩, .string ⟨#[]⟩, .string ⟨#[108, 111, 97, 100, 101, 100, 32]⟩, .string ⟨#[105, 116, 101, 109, 115, 32, 99, 111, 117, 110, 116, 101, 100, 32]⟩, .string ⟨#[111, 114, 100, 101, 114, 101, 100, 32]⟩] 9 (0, 0)) ++ (pt lb (.cells #[.nilIface, .iface 40 (.agg #[]), .iface 42 (.agg #[]), .iface 43 (.agg #[]), .iface 24 (.pointer (some ⟨p, 0, none⟩))] 48 (0, 0)) ++ (plainF p none 0 0 ++ R)))) I hG (hO.as (I ++ (SO ++ (pt wb (.cells #[.string ⟨#[]⟩, .string ⟨#[]⟩, .string ⟨#[108, 111, 97, 100, 101, 100, 32]⟩, .string ⟨#[105, 116, 101, 109, 115, 32, 99, 111, 117, 110, 116, 101, 100, 32]⟩, .string ⟨#[111, 114, 100, 101, 114, 101, 100, 32]⟩] 9 (0, 0)) ++ (pt lb (.cells #[.nilIface, .iface 40 (.agg #[]), .iface 42 (.agg #[]), .iface 43 (.agg #[]), .iface 24 (.pointer (some ⟨p, 0, none⟩))] 48 (0, 0)) ++ (plainF p none 0 0 ++ R))))))).mono ?_; clear hO hO2; rintro e w3 ⟨rfl, hO⟩))
        go_ret
        exact ⟨rfl, hO.as _⟩
end Go.Proofs.YticclennllklpaaDoor

/- Layer 9: what the tied cards share: the builder with the world's shape handed on; MaxLen's cell. -/
namespace Go.Proofs.YticclennllklpaaDoor.glue9
open Go Go.ChangeShapes Go.WideShapes Go.ChangeAt Go.RowKit

theorem own : ownKnob Tryd.prog.godebug = none := by kernel_rfl
theorem laidOut : laidOutB Tryd.prog = true := by kernel_rfl

/-- The builder, the world's shape handed on. -/
theorem handed_sh {H : Type} {enc : TypeId × Value → H} {a : Assume} {C : Checked} {os : Os} {f : FuncId} {fn : Func} {s : ChangeSpec} {conds : List PathCond} {apart fresh handsOn again : Bool} {X : World → Array Value → Prop}
    (own : ownKnob C.prog.godebug = none) (started : os.Started) (noInit : C.prog.inits.idxOf? f = none) (hfn : C.prog.funcs[f]? = some fn)
    (witness : ∃ (w : World) (tape : Tape) (i : Input), w.os = os ∧ (w.forCall tape i).Shaped C.prog ∧ i.vars = [] ∧ Input.okWide C.prog (w.forCall tape i) .any w.heap.size f i ∧
      ((s.pre enc C.prog fn conds apart (w.forCall tape i).memory i.args ∧ X (w.forCall tape i).memory i.args) ∧ sizedMet enc C.prog fn (OpenSpec.ofChange s) apart (w.forCall tape i).memory i.args) ∧ a.holds C.prog (lone (Frame.enter C.prog f i.args .normal) [] (w.forCall tape i)))
    (contract : ∀ (W : World) (base : Nat) (args : Array Value) (ds gs : List (DataW H)) (before : List MemPlace), W.ShapedOpen C.prog →
      (∀ (j : Nat) t v, fn.params[j]? = some t → args[j]? = some v → Value.okWide C.prog W .any base t v) →
      DataW.Whole enc C.prog fn.params.toList s.vars apart W args.toList ds gs before →
      conds.all (PathCond.test C.prog ⟨fn.params.toList, ds, s.plain.varTypes C.prog, gs⟩) = true →
      (DataW.weightsEach C.prog (fn.params.toList ++ s.plain.varTypes C.prog) (ds ++ gs)).all (· ≤ reachBytes) = true →
      Calls C.prog f args W fun e W' => ∃ v, e = .returned v ∧ s.post enc C.prog fn apart fresh handsOn again W args v W') :
    ReturnsInHanded a C os f .any (fun w args => (s.pre enc C.prog fn conds apart w args ∧ X w args) ∧ sizedMet enc C.prog fn (OpenSpec.ofChange s) apart w args) (s.post enc C.prog fn apart fresh handsOn again) := by
  refine returnsInHanded_of_calls own started noInit witness ?_
  intro w tape i _ hsh _ hok hpre _
  obtain ⟨_, _, _, fn', hfn', _, _, _, _, hval⟩ := hok
  have e : fn' = fn := Option.some.inj (hfn'.symm.trans hfn)
  subst e
  obtain ⟨⟨⟨ds, gs, before, hw, hc⟩, _⟩, hz⟩ := hpre
  have hw' := DataW.Whole.of_heap (w' := w.forCall tape i) (by rfl) hw
  refine (contract (w.forCall tape i) w.heap.size i.args ds gs before hsh hval hw' hc (hz.weights hw)).mono fun e W' ⟨v, he, hp⟩ => ?_
  subst he
  exact ChangeSpec.post_blind hp

set_option maxRecDepth 100000 in
theorem maxL_old {W : World} (h : W.ShapedOpen Tryd.prog) : MaxL W (Go.Own.oldFr W) := by
  obtain ⟨cs, hc, hn, hb⟩ := h.1 0 #[.int .i64 0] 3 (Nat.le_of_ble_eq_true (by kernel_rfl)) (by kernel_rfl)
  obtain ⟨ts, h1, h2, h3⟩ := hb (by kernel_rfl)
  have ht : ts = [3] := Option.some.inj (h1.symm.trans (by kernel_rfl))
  subst ht
  have hv : cs.size = 1 := hn
  obtain ⟨u, hu, hk⟩ := h3 0 cs[0] (by simp [hv])
  have hu' : 3 = u := by simpa using hu
  subst hu'
  clear hu
  have hk' : ∃ m, cs[0] = .int .i64 m := by
    unfold Cell.ok at hk
    rw [Tryd.underlying3] at hk
    revert hk
    cases cs[0] <;> simp
    intro h _
    exact h
  obtain ⟨m, hm⟩ := hk'
  refine ⟨m, fun Y w hO => ?_⟩
  have hmem : (0, Obj.cells cs 3) ∈ Go.Own.oldFr W := Go.Own.oldFr_mem hc
  have hg := hO.mem _ (List.mem_append_left _ hmem)
  simp [World.cell?, hg, hv, hm]
theorem laid_met (os : Os) (args : Array Value) : laidMetH Tryd.prog Rows.methodTurnsRow.laid ((World.laidAll Tryd.prog os Rows.methodTurnsRow.laid).forCall (fun _ _ => 0) ⟨#[], args, []⟩).memory := by
  rw [MakeChecks.laidMetH_plain _ _ _ (by kernel_rfl)]
  exact laidMet_laidAll _ (by kernel_rfl) (by kernel_rfl)
theorem shaped (os : Os) (args : Array Value) : ((World.laidAll Tryd.prog os Rows.methodTurnsRow.laid).forCall (fun _ _ => 0) ⟨#[], args, []⟩).Shaped Tryd.prog := World.shaped_of_ZipB (by kernel_rfl) (by kernel_rfl)
end Go.Proofs.YticclennllklpaaDoor.glue9
