/- Layer 9: a method that nobody made. -/
import Derived.Test.YticclennllklpaaDoorK4
import Derived.Test.YticclennllklpaaDoorRows
import Derived.ProofKit
import Derived.OpenShut
import Derived.LaidMore
import Derived.Lay
import Derived.Stop.Joined
set_option linter.all false
/- Layer 9: a method that nobody made. -/
namespace Go.Proofs.YticclennllklpaaDoor
open Go Go.RowKit Go.Own Go.Dt

/-- nil, or a Plain that nobody made. -/
def DeadA (v : Value) (A : Fr) : Prop := (v = .pointer none ∧ A = []) ∨ ∃ p, v = .pointer (some ⟨p, 0, none⟩) ∧ A = pt p (.cells #[.bool false, .slice none 0 0] 66 (0, 0))
set_option maxRecDepth 100000 in
set_option maxHeartbeats 16000000 in
theorem dGiven (E w : World) (X A R : Fr) (v : Value) (hD : DeadA v A) (hO : Own E w X) [hp : Pick X A R] :
    Calls Tryd.prog 33 #[v] w fun e w' => e = .returned (.bool false) ∧ w = w' := by
  have hO1 := hO.perm hp.perm
  rcases hD with ⟨rfl, rfl⟩ | ⟨p, rfl, rfl⟩
  · clear hO hO1
    go_enter Tryd.func33, Tryd.ntmps33
    go_wp2_with fail
    go_ret
    exact ⟨rfl, rfl⟩
  · have hc : w.cell? ⟨p, 0, none⟩ = some (.bool false) := by rw [hO1.cell (b := p)]; rfl
    clear hO hO1
    go_enter Tryd.func33, Tryd.ntmps33
    go_wp2_with fail
    go_ret
    exact ⟨rfl, rfl⟩
set_option maxRecDepth 100000 in
set_option maxHeartbeats 16000000 in
theorem dName (E w : World) (X A R : Fr) (v : Value) (hD : DeadA v A) (hO : Own E w X) [hp : Pick X A R] :
    Calls Tryd.prog 25 #[v] w fun e w' => e = .returned (.string ⟨#[]⟩) ∧ w = w' := by
  go_enter Tryd.func25, Tryd.ntmps25
  go_wp2_with (go_at_call 33; refine (dGiven E _ _ A _ v hD hO).mono ?_; rintro e w1 ⟨rfl, rfl⟩)
  go_ret
  exact ⟨rfl, rfl⟩
set_option maxRecDepth 100000 in
set_option maxHeartbeats 16000000 in
theorem dCheck (E w : World) (X A R : Fr) (v : Value) (hD : DeadA v A) (hO : Own E w X) [hp : Pick X A R] :
    Calls Tryd.prog 104 #[v] w fun e w' => e = .returned (.bool false) ∧ w = w' := by
  go_enter Tryd.func104, Tryd.ntmps104
  go_wp2_with (go_at_call 33; refine (dGiven E _ _ A _ v hD hO).mono ?_; rintro e w1 ⟨rfl, rfl⟩)
  go_ret
  exact ⟨rfl, rfl⟩
set_option maxRecDepth 100000 in
set_option maxHeartbeats 16000000 in
theorem dDrop (E w : World) (X A R : Fr) (v : Value) (hD : DeadA v A) (hO : Own E w X) [hp : Pick X A R] :
    Calls Tryd.prog 106 #[v] w fun e w' => e = .returned (.int .i64 1) ∧ w = w' := by
  go_enter Tryd.func106, Tryd.ntmps106
  go_wp2_with (go_at_call 33; refine (dGiven E _ _ A _ v hD hO).mono ?_; rintro e w1 ⟨rfl, rfl⟩)
  go_ret
  exact ⟨rfl, rfl⟩
set_option maxRecDepth 100000 in
set_option maxHeartbeats 16000000 in
theorem dEntries (E w : World) (X A R : Fr) (v : Value) (hD : DeadA v A) (hO : Own E w X) [hp : Pick X A R] :
    Calls Tryd.prog 15 #[v] w fun e w' => e = .returned (.slice none 0 0) ∧ w = w' := by
  go_enter Tryd.func15, Tryd.ntmps15
  go_wp2_with (go_at_call 33; refine (dGiven E _ _ A _ v hD hO).mono ?_; rintro e w1 ⟨rfl, rfl⟩)
  go_ret
  exact ⟨rfl, rfl⟩
set_option maxRecDepth 100000 in
set_option maxHeartbeats 16000000 in
theorem pPages (w : World) (v : Value) :
    Calls Tryd.prog 18 #[v] w fun e w' => e = .returned (.slice none 0 0) ∧ w = w' := by
  go_enter Tryd.func18, Tryd.ntmps18
  go_wp2_with fail
  go_ret
  exact ⟨rfl, rfl⟩
set_option maxRecDepth 100000 in
set_option maxHeartbeats 16000000 in
theorem dRange (E w : World) (X A R : Fr) (v : Value) (hD : DeadA v A) (hO : Own E w X) [hp : Pick X A R] :
    Calls Tryd.prog 19 #[v, .pointer none, .pointer none, .bool false] w fun e w' => e = .returned (.tuple #[.slice none 0 0, .int .i64 1]) ∧ w = w' := by
  go_enter Tryd.func19, Tryd.ntmps19
  go_wp2_with (go_at_call 33; refine (dGiven E _ _ A _ v hD hO).mono ?_; rintro e w1 ⟨rfl, rfl⟩)
  go_ret2
  exact ⟨rfl, rfl⟩
set_option maxRecDepth 100000 in
set_option maxHeartbeats 16000000 in
theorem dFind0 (E w : World) (X A R : Fr) (v : Value) (hD : DeadA v A) (k n t : Int) (s : ByteArray) (sa : Option Addr) (l c : Nat) (hO : Own E w X) [hp : Pick X A R] :
    Calls Tryd.prog 27 #[v, .agg #[.int .i64 k, .int .i64 n, .string s, .slice sa l c, .int .i64 t]] w fun e w' => e = .returned (.tuple #[.int .i64 0, .bool false, .int .i64 1]) ∧ Own E w' (A ++ R) := by
  replace hO := hO.perm hp.perm
  clear hp
  go_enter Tryd.func27, Tryd.ntmps27
  go_wp2_with (first | (refine at_box ?_; go_must (refine own_box (v := ?_) hO ?_ ?_ ?_; rotate_left; (· rfl); (· ((conv => lhs; whnf); try exact rfl)); clear hO; (try clear hF); intro ob _ hO; (try simp only [Value.cells] at hO); ((try simp only [List.nil_append, List.append_nil] at hO); have hF := Own.cells hO; simp only [cellsOf_append, cellsOf_pt] at hF); simp only [Act.put, List.setIfInBounds_toArray, List.set_cons_zero, List.set_cons_succ])) | (go_at_call 33; refine (dGiven E _ _ A _ v hD hO).mono ?_; rintro e w1 ⟨rfl, rfl⟩))
  go_ret3
  exact ⟨rfl, hO.as _⟩
set_option maxRecDepth 100000 in
set_option maxHeartbeats 16000000 in
theorem dFind (E w : World) (X A R : Fr) (v : Value) (hD : DeadA v A) (k n : Int) (s : ByteArray) (sa : Option Addr) (l c : Nat) (hO : Own E w X) [hp : Pick X A R] :
    Calls Tryd.prog 26 #[v, .agg #[.int .i64 k, .int .i64 n, .string s, .slice sa l c]] w fun e w' => e = .returned (.tuple #[.slice none 0 0, .int .i64 1]) ∧ Own E w' (A ++ R) := by
  replace hO := hO.perm hp.perm
  clear hp
  go_enter Tryd.func26, Tryd.ntmps26
  go_wp2_with (first | (refine at_box ?_; go_must (refine own_box (v := ?_) hO ?_ ?_ ?_; rotate_left; (· rfl); (· ((conv => lhs; whnf); try exact rfl)); clear hO; (try clear hF); intro ob _ hO; (try simp only [Value.cells] at hO); ((try simp only [List.nil_append, List.append_nil] at hO); have hF := Own.cells hO; simp only [cellsOf_append, cellsOf_pt] at hF); simp only [Act.put, List.setIfInBounds_toArray, List.set_cons_zero, List.set_cons_succ])) | (refine at_load ?_; refine own_loadS (b := ?_) (cs := ?_) (e := ?_) (f := ?_) hO ?_ ?_ ?_ ?_ ?_ ?_; rotate_left 4; (· rfl); (· rfl); (· exact inferInstance); (· simp; done); (· simp [Value.cells]; done); simp only [Act.put, List.setIfInBounds_toArray, List.set_cons_zero, List.set_cons_succ]) | (go_at_call 27; refine (dFind0 E _ _ A _ v hD k n 0 s sa l c hO).mono ?_; clear hO; (try clear hF); rintro e w1 ⟨rfl, hO⟩))
  go_ret2
  exact ⟨rfl, hO.as _⟩
set_option maxRecDepth 100000 in
set_option maxHeartbeats 16000000 in
theorem dInsert (E w : World) (X A R : Fr) (v : Value) (hD : DeadA v A) (k n t : Int) (s : ByteArray) (sa : Option Addr) (l c : Nat) (hO : Own E w X) [hp : Pick X A R] :
    Calls Tryd.prog 11 #[v, .agg #[.int .i64 k, .int .i64 n, .string s, .slice sa l c, .int .i64 t]] w fun e w' => e = .returned (.int .i64 1) ∧ Own E w' (A ++ R) := by
  replace hO := hO.perm hp.perm
  clear hp
  go_enter Tryd.func11, Tryd.ntmps11
  go_wp2_with (first | (refine at_box ?_; go_must (refine own_box (v := ?_) hO ?_ ?_ ?_; rotate_left; (· rfl); (· ((conv => lhs; whnf); try exact rfl)); clear hO; (try clear hF); intro ob _ hO; (try simp only [Value.cells] at hO); ((try simp only [List.nil_append, List.append_nil] at hO); have hF := Own.cells hO; simp only [cellsOf_append, cellsOf_pt] at hF); simp only [Act.put, List.setIfInBounds_toArray, List.set_cons_zero, List.set_cons_succ])) | (refine at_load ?_; refine own_loadS (b := ?_) (cs := ?_) (e := ?_) (f := ?_) hO ?_ ?_ ?_ ?_ ?_ ?_; rotate_left 4; (· rfl); (· rfl); (· exact inferInstance); (· simp; done); (· simp [Value.cells]; done); simp only [Act.put, List.setIfInBounds_toArray, List.set_cons_zero, List.set_cons_succ]) | (go_at_call 27; refine (dFind0 E _ _ A _ v hD k n t s sa l c hO).mono ?_; clear hO; (try clear hF); rintro e w1 ⟨rfl, hO⟩))
  go_ret
  exact ⟨rfl, hO.as _⟩
set_option maxRecDepth 100000 in
set_option maxHeartbeats 16000000 in
theorem dDelete (E w : World) (X A R : Fr) (v : Value) (hD : DeadA v A) (k n t : Int) (s : ByteArray) (sa : Option Addr) (l c : Nat) (hO : Own E w X) [hp : Pick X A R] :
    Calls Tryd.prog 105 #[v, .agg #[.int .i64 k, .int .i64 n, .string s, .slice sa l c, .int .i64 t]] w fun e w' => e = .returned (.int .i64 1) ∧ Own E w' (A ++ R) := by
  replace hO := hO.perm hp.perm
  clear hp
  go_enter Tryd.func105, Tryd.ntmps105
  go_wp2_with (first | (refine at_box ?_; go_must (refine own_box (v := ?_) hO ?_ ?_ ?_; rotate_left; (· rfl); (· ((conv => lhs; whnf); try exact rfl)); clear hO; (try clear hF); intro ob _ hO; (try simp only [Value.cells] at hO); ((try simp only [List.nil_append, List.append_nil] at hO); have hF := Own.cells hO; simp only [cellsOf_append, cellsOf_pt] at hF); simp only [Act.put, List.setIfInBounds_toArray, List.set_cons_zero, List.set_cons_succ])) | (refine at_load ?_; refine own_loadS (b := ?_) (cs := ?_) (e := ?_) (f := ?_) hO ?_ ?_ ?_ ?_ ?_ ?_; rotate_left 4; (· rfl); (· rfl); (· exact inferInstance); (· simp; done); (· simp [Value.cells]; done); simp only [Act.put, List.setIfInBounds_toArray, List.set_cons_zero, List.set_cons_succ]) | (go_at_call 27; refine (dFind0 E _ _ A _ v hD k n t s sa l c hO).mono ?_; clear hO; (try clear hF); rintro e w1 ⟨rfl, hO⟩))
  go_ret
  exact ⟨rfl, hO.as _⟩
end Go.Proofs.YticclennllklpaaDoor

/- Layer 9: Nobody. -/
namespace Go.Proofs.YticclennllklpaaDoor
open Go Go.RowKit Go.Own Go.Dt

theorem ivFind (v : Value) (w : World) : Sem.run Tryd.prog (method 271 24 v "Find") w = .ok (26, v) w := by kernel_rfl
theorem ivInsert (v : Value) (w : World) : Sem.run Tryd.prog (method 271 24 v "Insert") w = .ok (11, v) w := by kernel_rfl
theorem ivDelete (v : Value) (w : World) : Sem.run Tryd.prog (method 271 24 v "Delete") w = .ok (105, v) w := by kernel_rfl
theorem ivEntries (v : Value) (w : World) : Sem.run Tryd.prog (method 271 24 v "Entries") w = .ok (15, v) w := by kernel_rfl
theorem ivPages (v : Value) (w : World) : Sem.run Tryd.prog (method 271 24 v "Pages") w = .ok (18, v) w := by kernel_rfl
theorem ivCheck (v : Value) (w : World) : Sem.run Tryd.prog (method 271 24 v "Check") w = .ok (104, v) w := by kernel_rfl
theorem ivDrop (v : Value) (w : World) : Sem.run Tryd.prog (method 271 24 v "Drop") w = .ok (106, v) w := by kernel_rfl
set_option maxRecDepth 100000 in
set_option maxHeartbeats 16000000 in
theorem nobody9 (E w : World) (X A R : Fr) (v : Value) (hD : DeadA v A) (k n t : Int) (s : ByteArray) (sa : Option Addr) (l c : Nat) (hO : Own E w X) [hp : Pick X A R] :
    Calls Tryd.prog 24 #[.iface 24 v, .agg #[.int .i64 k, .int .i64 n, .string s, .slice sa l c, .int .i64 t]] w fun e w' => e = .returned (.bool true) ∧ Own E w' (A ++ R) := by
  replace hO := hO.perm hp.perm
  clear hp
  have i0 := ivFind v
  have i1 := ivInsert v
  have i2 := ivDelete v
  have i3 := ivEntries v
  have i4 := ivPages v
  have i5 := ivCheck v
  have i6 := ivDrop v
  go_enter Tryd.func24, Tryd.ntmps24
  go_wp2_with (first | (refine at_box ?_; go_must (refine own_box (v := ?_) hO ?_ ?_ ?_; rotate_left; (· rfl); (· ((conv => lhs; whnf); try exact rfl)); clear hO; (try clear hF); intro ob _ hO; (try simp only [Value.cells] at hO); ((try simp only [List.nil_append, List.append_nil] at hO); have hF := Own.cells hO; simp only [cellsOf_append, cellsOf_pt] at hF); simp only [Act.put, List.setIfInBounds_toArray, List.set_cons_zero, List.set_cons_succ])) | (refine at_load ?_; refine own_loadS (b := ?_) (cs := ?_) (e := ?_) (f := ?_) hO ?_ ?_ ?_ ?_ ?_ ?_; rotate_left 4; (· rfl); (· rfl); (· exact inferInstance); (· simp; done); (· simp [Value.cells]; done); simp only [Act.put, List.setIfInBounds_toArray, List.set_cons_zero, List.set_cons_succ]) | (go_at_call 26; refine (dFind E _ _ A _ v hD k n s sa l c hO).mono ?_; clear hO; (try clear hF); rintro e w1 ⟨rfl, hO⟩; replace hO := hO.as (pt ob (.cells #[.int .i64 k, .int .i64 n, .string s, .slice sa l c, .int .i64 t] 32 (0, 0)) ++ (A ++ R)); ((try simp only [List.nil_append, List.append_nil] at hO); have hF := Own.cells hO; simp only [cellsOf_append, cellsOf_pt] at hF)) | (go_at_call 11; refine (dInsert E _ _ A _ v hD k n t s sa l c hO).mono ?_; clear hO; (try clear hF); rintro e w1 ⟨rfl, hO⟩; replace hO := hO.as (pt ob (.cells #[.int .i64 k, .int .i64 n, .string s, .slice sa l c, .int .i64 t] 32 (0, 0)) ++ (A ++ R)); ((try simp only [List.nil_append, List.append_nil] at hO); have hF := Own.cells hO; simp only [cellsOf_append, cellsOf_pt] at hF)) | (go_at_call 105; refine (dDelete E _ _ A _ v hD k n t s sa l c hO).mono ?_; clear hO; (try clear hF); rintro e w1 ⟨rfl, hO⟩; replace hO := hO.as (pt ob (.cells #[.int .i64 k, .int .i64 n, .string s, .slice sa l c, .int .i64 t] 32 (0, 0)) ++ (A ++ R)); ((try simp only [List.nil_append, List.append_nil] at hO); have hF := Own.cells hO; simp only [cellsOf_append, cellsOf_pt] at hF)) | (go_at_call 15; refine (dEntries E _ _ A _ v hD hO).mono ?_; rintro e w1 ⟨rfl, rfl⟩) | (go_at_call 18; refine (pPages _ v).mono ?_; rintro e w1 ⟨rfl, rfl⟩) | (go_at_call 104; refine (dCheck E _ _ A _ v hD hO).mono ?_; rintro e w1 ⟨rfl, rfl⟩) | (go_at_call 106; refine (dDrop E _ _ A _ v hD hO).mono ?_; rintro e w1 ⟨rfl, rfl⟩))
  go_ret
  exact ⟨rfl, hO.as _⟩
end Go.Proofs.YticclennllklpaaDoor

/- Layer 9: Abilities: asking a method. -/
namespace Go.Proofs.YticclennllklpaaDoor
open Go Go.RowKit Go.Own Go.Dt

theorem missing_some (want : Array (String × TypeId)) (got : Array Method) (h : (want.toList.filter fun x => !got.any fun m => m.name == x.1 && m.sig == x.2).isEmpty = false) : ∃ m, Instr.missingMethod want got = some m := by
  unfold Instr.missingMethod
  generalize hl : (want.toList.filter fun x => !got.any fun m => m.name == x.1 && m.sig == x.2) = l at h
  show ∃ m, (let (unexported, exported) := (l.map (·.1)).partition (·.contains '.')
    Instr.least exported <|> Instr.least (unexported.map fun id => (id.splitOn ".").getLastD id)) = some m
  rw [List.partition_eq_filter_filter]
  have hne : l.map (·.1) ≠ [] := by
    intro e
    rw [List.map_eq_nil_iff] at e
    rw [e] at h
    cases h
  generalize l.map (·.1) = ms at hne
  obtain ⟨x, hx⟩ := List.exists_mem_of_ne_nil _ hne
  simp only
  cases he : (ms.filter (not ∘ fun x => x.contains '.')) with
  | cons s r => exact ⟨_, rfl⟩
  | nil =>
    have hu : x ∈ ms.filter (fun x => x.contains '.') := by
      rw [List.mem_filter]
      refine ⟨hx, ?_⟩
      have := List.filter_eq_nil_iff.1 he x hx
      simpa using this
    cases hq : (ms.filter (fun x => x.contains '.')) with
    | nil => rw [hq] at hu; exact (nomatch hu)
    | cons s r => exact ⟨_, rfl⟩
/-- Does a type lack a method of an interface? -/
def lacks (P : Program) (ti t : TypeId) : Bool := match P.underlying ti, P.info? t with
  | some (.interface want), some i => !(want.toList.filter fun x => !i.methods.any fun m => m.name == x.1 && m.sig == x.2).isEmpty
  | _, _ => false
theorem ta_no {xT ti t : TypeId} {v : Value} (h : lacks Tryd.prog ti t = true) (hz : ∀ w, (zeroValue ti).run Tryd.prog w = .ok .nilIface w) (w : World) : (Instr.typeAssert (.iface t v) xT ti true).run Tryd.prog w = .ok (.tuple #[.nilIface, .bool false]) w := by
  unfold lacks at h
  cases hu : Tryd.prog.underlying ti with
  | none => rw [hu] at h; cases h
  | some u =>
    cases hi : Tryd.prog.info? t with
    | none => rw [hu, hi] at h; cases u <;> cases h
    | some i =>
      cases u with
      | interface want =>
        rw [hu, hi] at h
        have h2 : (want.toList.filter fun x => !i.methods.any fun m => m.name == x.1 && m.sig == x.2).isEmpty = false := by simpa using h
        obtain ⟨m, hm⟩ := missing_some want i.methods h2
        simp [Instr.typeAssert, run_underlying hu, typeInfo, hi, hm, hz]
      | _ => rw [hu, hi] at h; cases h
theorem taNilOrdered (w : World) : (Instr.typeAssert .nilIface 48 83 true).run Tryd.prog w = .ok (.tuple #[.nilIface, .bool false]) w := by kernel_rfl
theorem taBareOrdered (v : Value) (w : World) : (Instr.typeAssert (.iface 40 v) 48 83 true).run Tryd.prog w = .ok (.tuple #[.nilIface, .bool false]) w := ta_no (by kernel_rfl) (fun _ => by kernel_rfl) w
theorem taLoadedOrdered (v : Value) (w : World) : (Instr.typeAssert (.iface 42 v) 48 83 true).run Tryd.prog w = .ok (.tuple #[.nilIface, .bool false]) w := ta_no (by kernel_rfl) (fun _ => by kernel_rfl) w
theorem taBothOrdered (v : Value) (w : World) : (Instr.typeAssert (.iface 43 v) 48 83 true).run Tryd.prog w = .ok (.tuple #[.nilIface, .bool false]) w := ta_no (by kernel_rfl) (fun _ => by kernel_rfl) w
theorem taPlainOrdered (v : Value) (w : World) : (Instr.typeAssert (.iface 24 v) 48 83 true).run Tryd.prog w = .ok (.tuple #[.iface 24 v, .bool true]) w := by kernel_rfl
theorem taNilLoaded (w : World) : (Instr.typeAssert .nilIface 48 86 true).run Tryd.prog w = .ok (.tuple #[.nilIface, .bool false]) w := by kernel_rfl
theorem taBareLoaded (v : Value) (w : World) : (Instr.typeAssert (.iface 40 v) 48 86 true).run Tryd.prog w = .ok (.tuple #[.nilIface, .bool false]) w := ta_no (by kernel_rfl) (fun _ => by kernel_rfl) w
theorem taLoadedLoaded (v : Value) (w : World) : (Instr.typeAssert (.iface 42 v) 48 86 true).run Tryd.prog w = .ok (.tuple #[.iface 42 v, .bool true]) w := by kernel_rfl
theorem taBothLoaded (v : Value) (w : World) : (Instr.typeAssert (.iface 43 v) 48 86 true).run Tryd.prog w = .ok (.tuple #[.nilIface, .bool false]) w := ta_no (by kernel_rfl) (fun _ => by kernel_rfl) w
theorem taPlainLoaded (v : Value) (w : World) : (Instr.typeAssert (.iface 24 v) 48 86 true).run Tryd.prog w = .ok (.tuple #[.nilIface, .bool false]) w := ta_no (by kernel_rfl) (fun _ => by kernel_rfl) w
theorem taNilItems (w : World) : (Instr.typeAssert .nilIface 48 89 true).run Tryd.prog w = .ok (.tuple #[.nilIface, .bool false]) w := by kernel_rfl
theorem taBareItems (v : Value) (w : World) : (Instr.typeAssert (.iface 40 v) 48 89 true).run Tryd.prog w = .ok (.tuple #[.nilIface, .bool false]) w := ta_no (by kernel_rfl) (fun _ => by kernel_rfl) w
theorem taLoadedItems (v : Value) (w : World) : (Instr.typeAssert (.iface 42 v) 48 89 true).run Tryd.prog w = .ok (.tuple #[.nilIface, .bool false]) w := ta_no (by kernel_rfl) (fun _ => by kernel_rfl) w
theorem taBothItems (v : Value) (w : World) : (Instr.typeAssert (.iface 43 v) 48 89 true).run Tryd.prog w = .ok (.tuple #[.iface 43 v, .bool true]) w := by kernel_rfl
theorem taPlainItems (v : Value) (w : World) : (Instr.typeAssert (.iface 24 v) 48 89 true).run Tryd.prog w = .ok (.tuple #[.nilIface, .bool false]) w := ta_no (by kernel_rfl) (fun _ => by kernel_rfl) w
theorem taNilCounted (w : World) : (Instr.typeAssert .nilIface 48 92 true).run Tryd.prog w = .ok (.tuple #[.nilIface, .bool false]) w := by kernel_rfl
theorem taBareCounted (v : Value) (w : World) : (Instr.typeAssert (.iface 40 v) 48 92 true).run Tryd.prog w = .ok (.tuple #[.nilIface, .bool false]) w := ta_no (by kernel_rfl) (fun _ => by kernel_rfl) w
theorem taLoadedCounted (v : Value) (w : World) : (Instr.typeAssert (.iface 42 v) 48 92 true).run Tryd.prog w = .ok (.tuple #[.nilIface, .bool false]) w := ta_no (by kernel_rfl) (fun _ => by kernel_rfl) w
theorem taBothCounted (v : Value) (w : World) : (Instr.typeAssert (.iface 43 v) 48 92 true).run Tryd.prog w = .ok (.tuple #[.iface 43 v, .bool true]) w := by kernel_rfl
theorem taPlainCounted (v : Value) (w : World) : (Instr.typeAssert (.iface 24 v) 48 92 true).run Tryd.prog w = .ok (.tuple #[.nilIface, .bool false]) w := ta_no (by kernel_rfl) (fun _ => by kernel_rfl) w
theorem sltS9 : SlT Tryd.prog 45 9 1 16 (.string .empty) := ⟨by kernel_rfl, by kernel_rfl, rfl⟩
def AbP (E : World) (l : List ByteArray) (X : Fr) (e : Ending) (w' : World) : Prop :=
  ∃ (so : Option Addr) (co : Nat) (SO : Fr), e = .returned (.slice so l.length co) ∧ Sl 9 1 so l.length co (l.map Value.string) SO ∧ Own E w' (SO ++ X)
def sOrd : ByteArray := ⟨#[111, 114, 100, 101, 114, 101, 100]⟩
def sLoad : ByteArray := ⟨#[108, 111, 97, 100, 101, 100]⟩
def sItems : ByteArray := ⟨#[105, 116, 101, 109, 115]⟩
def sCount : ByteArray := ⟨#[99, 111, 117, 110, 116, 101, 100]⟩
set_option maxRecDepth 100000 in
set_option maxHeartbeats 16000000 in
theorem abNil (E w : World) (X : Fr) (hO : Own E w X) : Calls Tryd.prog 16 #[.nilIface] w (AbP E [] X) := by
  generalize hpost : AbP E [] X = POST
  have HPOST := Lib.hid hpost
  clear hpost
  have t0 := taNilOrdered
  have t1 := taNilLoaded
  have t2 := taNilItems
  have t3 := taNilCounted
  go_enter Tryd.func16, Tryd.ntmps16
  go_wp2_with fail
  rw [← HPOST.out]
  exact ⟨none, 0, [], rfl, Sl.nil _ _, hO⟩
set_option maxRecDepth 100000 in
set_option maxHeartbeats 16000000 in
theorem abBare (E w : World) (X : Fr) (hO : Own E w X) : Calls Tryd.prog 16 #[.iface 40 (.agg #[])] w (AbP E [] X) := by
  generalize hpost : AbP E [] X = POST
  have HPOST := Lib.hid hpost
  clear hpost
  have t0 := taBareOrdered (.agg #[])
  have t1 := taBareLoaded (.agg #[])
  have t2 := taBareItems (.agg #[])
  have t3 := taBareCounted (.agg #[])
  go_enter Tryd.func16, Tryd.ntmps16
  go_wp2_with fail
  rw [← HPOST.out]
  exact ⟨none, 0, [], rfl, Sl.nil _ _, hO⟩
set_option maxRecDepth 100000 in
set_option maxHeartbeats 16000000 in
theorem abLoaded (E w : World) (X : Fr) (hO : Own E w X) : Calls Tryd.prog 16 #[.iface 42 (.agg #[])] w (AbP E [sLoad] X) := by
  generalize hpost : AbP E [sLoad] X = POST
  have HPOST := Lib.hid hpost
  clear hpost
  have t0 := taLoadedOrdered (.agg #[])
  have t1 := taLoadedLoaded (.agg #[])
  have t2 := taLoadedItems (.agg #[])
  have t3 := taLoadedCounted (.agg #[])
  go_enter Tryd.func16, Tryd.ntmps16
  go_wp2_with (first | (refine at_bs ?_; go_must (refine own_build1 (v := ?_) sltS9 hO ?_ ?_ ?_ ?_ ?_ ?_; rotate_left; (· rfl); (· ((conv => lhs; whnf); try exact rfl)); (· rfl); (· decide); (· decide); clear hO; (try clear hF); intro b1 _ hO; (try simp only [Value.cells] at hO); ((try simp only [List.nil_append, List.append_nil] at hO); have hF := Own.cells hO; simp only [cellsOf_append, cellsOf_pt] at hF); simp only [Act.put, List.setIfInBounds_toArray, List.set_cons_zero, List.set_cons_succ])) | (refine at_append ?_; go_must (refine own_append_new (sz := 1) (bytes := 16) (z := .string .empty) (e := 9) (xv := .slice (some ⟨b1, 0, none⟩) 1 1) (m := 1) (news := [.string sLoad]) sltS9 (.inl (by kernel_rfl)) hO ?_ ?_ ?_ ?_ ?_ ?_ ?_ ?_ ?_ ?_; (· rfl); (· rfl); (· rfl); (· intro w; rfl); (· intro w' hO'; exact first_pt (sz := 1) rfl hO'); (· rfl); (· intro u hu; simp at hu; subst hu; rfl); (· simp only [maxLen]; omega); (· decide); clear hO; (try clear hF); intro so2 co2 SO2 w4 hSO2 hO; ((try simp only [List.nil_append, List.append_nil] at hO); have hF := Own.cells hO; simp only [cellsOf_append, cellsOf_pt] at hF); simp only [Act.put, List.setIfInBounds_toArray, List.set_cons_zero, List.set_cons_succ])))
  rw [← HPOST.out]
  exact ⟨so2, co2, SO2, rfl, hSO2, hO.as _⟩
set_option maxRecDepth 100000 in
set_option maxHeartbeats 16000000 in
theorem abPlain (E w : World) (X : Fr) (p : Nat) (hO : Own E w X) : Calls Tryd.prog 16 #[.iface 24 (.pointer (some ⟨p, 0, none⟩))] w (AbP E [sOrd] X) := by
  generalize hpost : AbP E [sOrd] X = POST
  have HPOST := Lib.hid hpost
  clear hpost
  have t0 := taPlainOrdered (.pointer (some ⟨p, 0, none⟩))
  have t1 := taPlainLoaded (.pointer (some ⟨p, 0, none⟩))
  have t2 := taPlainItems (.pointer (some ⟨p, 0, none⟩))
  have t3 := taPlainCounted (.pointer (some ⟨p, 0, none⟩))
  go_enter Tryd.func16, Tryd.ntmps16
  go_wp2_with (first | (refine at_bs ?_; go_must (refine own_build1 (v := ?_) sltS9 hO ?_ ?_ ?_ ?_ ?_ ?_; rotate_left; (· rfl); (· ((conv => lhs; whnf); try exact rfl)); (· rfl); (· decide); (· decide); clear hO; (try clear hF); intro b1 _ hO; (try simp only [Value.cells] at hO); ((try simp only [List.nil_append, List.append_nil] at hO); have hF := Own.cells hO; simp only [cellsOf_append, cellsOf_pt] at hF); simp only [Act.put, List.setIfInBounds_toArray, List.set_cons_zero, List.set_cons_succ])) | (refine at_append ?_; go_must (refine own_append_new (sz := 1) (bytes := 16) (z := .string .empty) (e := 9) (xv := .slice (some ⟨b1, 0, none⟩) 1 1) (m := 1) (news := [.string sOrd]) sltS9 (.inl (by kernel_rfl)) hO ?_ ?_ ?_ ?_ ?_ ?_ ?_ ?_ ?_ ?_; (· rfl); (· rfl); (· rfl); (· intro w; rfl); (· intro w' hO'; exact first_pt (sz := 1) rfl hO'); (· rfl); (· intro u hu; simp at hu; subst hu; rfl); (· simp only [maxLen]; omega); (· decide); clear hO; (try clear hF); intro so2 co2 SO2 w4 hSO2 hO; ((try simp only [List.nil_append, List.append_nil] at hO); have hF := Own.cells hO; simp only [cellsOf_append, cellsOf_pt] at hF); simp only [Act.put, List.setIfInBounds_toArray, List.set_cons_zero, List.set_cons_succ])))
  rw [← HPOST.out]
  exact ⟨so2, co2, SO2, rfl, hSO2, hO.as _⟩
end Go.Proofs.YticclennllklpaaDoor

/- Layer 9: MethodNobody. -/
namespace Go.Proofs.YticclennllklpaaDoor
open Go Go.RowKit Go.Own Go.Dt

theorem sltPP : SlT Tryd.prog 67 24 1 8 (.pointer none) := ⟨by kernel_rfl, by kernel_rfl, rfl⟩
set_option maxRecDepth 100000 in
set_option maxHeartbeats 16000000 in
theorem methodNobody (E w : World) (X R I : Fr) (k n t : Int) (s : ByteArray) (sa : Option Addr) (l c : Nat) (hG : MaxL E I) (hO : Own E w X) [hp : Pick X I R] :
    Calls Tryd.prog 8 #[.agg #[.int .i64 k, .int .i64 n, .string s, .slice sa l c, .int .i64 t]] w fun e w' => e = .returned (.bool true) ∧ Own E w' (I ++ R) := by
  replace hO := hO.perm hp.perm
  clear hp
  go_enter Tryd.func8, Tryd.ntmps8
  go_wp2_with (first | (refine at_box (t := 32) ?_; go_must (refine own_box (v := ?_) hO ?_ ?_ ?_; rotate_left; (· rfl); (· ((conv => lhs; whnf); try exact rfl)); clear hO; (try clear hF); intro ob _ hO; (try simp only [Value.cells] at hO); ((try simp only [List.nil_append, List.append_nil] at hO); have hF := Own.cells hO; simp only [cellsOf_append, cellsOf_pt] at hF); simp only [Act.put, List.setIfInBounds_toArray, List.set_cons_zero, List.set_cons_succ])) | (refine at_box (t := 66) ?_; go_must (refine own_box (v := ?_) hO ?_ ?_ ?_; rotate_left; (· rfl); (· ((conv => lhs; whnf); try exact rfl)); clear hO; (try clear hF); intro pb _ hO; (try simp only [Value.cells] at hO); ((try simp only [List.nil_append, List.append_nil] at hO); have hF := Own.cells hO; simp only [cellsOf_append, cellsOf_pt] at hF); simp only [Act.put, List.setIfInBounds_toArray, List.set_cons_zero, List.set_cons_succ])) | (refine at_bs ?_; go_must (refine own_buildN (cells := ?_) sltPP hO ?_ ?_ ?_ ?_ ?_ ?_; rotate_left; (· rfl); (· decide); (· decide); (· rfl); (· simp [Instr.fill, Act.eval, Value.cells, Array.replicate_succ]; exact rfl); clear hO; (try clear hF); intro lb _ hO; ((try simp only [List.nil_append, List.append_nil] at hO); have hF := Own.cells hO; simp only [cellsOf_append, cellsOf_pt] at hF); simp only [Act.put, List.setIfInBounds_toArray, List.set_cons_zero, List.set_cons_succ])))
  replace hO : Own E _ (pt lb (.cells #[.pointer none, .pointer (some ⟨pb, 0, none⟩)] 24 (0, 0)) ++ (pt pb (.cells #[.bool false, .slice none 0 0] 66 (0, 0)) ++ (pt ob (.cells #[.int .i64 k, .int .i64 n, .string s, .slice sa l c, .int .i64 t] 32 (0, 0)) ++ (I ++ R)))) := hO
  have hO1 := hO
  clear hO hF
  go_loopw [4] (fun i wr => ∃ (j : Nat), j ≤ 2 ∧ i = .int .i64 (j : Int) ∧ Own E wr (pt lb (.cells #[.pointer none, .pointer (some ⟨pb, 0, none⟩)] 24 (0, 0)) ++ (pt pb (.cells #[.bool false, .slice none 0 0] 66 (0, 0)) ++ (pt ob (.cells #[.int .i64 k, .int .i64 n, .string s, .slice sa l c, .int .i64 t] 32 (0, 0)) ++ (I ++ R))))) (fun i _ => 2 - (intOf i).toNat)
  case atStart => exact ⟨0, by decide, rfl, hO1⟩
  case round =>
    clear hO1
    obtain ⟨j, hj, rfl, hO⟩ := hrel
    ((try simp only [List.nil_append, List.append_nil] at hO); have hF := Own.cells hO; simp only [cellsOf_append, cellsOf_pt] at hF)
    obtain rfl | rfl | rfl : j = 0 ∨ j = 1 ∨ j = 2 := by omega
    · clear hj
      go_wp2_with (go_at_call 19; refine (dRange E _ _ ([]) _ (.pointer none) (.inl ⟨rfl, rfl⟩) hO).mono ?_; rintro e w1 ⟨rfl, rfl⟩)
      (try (go_wp2_with fail))
      refine region_sch (fun w' => Own E w' (pt lb (.cells #[.pointer none, .pointer (some ⟨pb, 0, none⟩)] 24 (0, 0)) ++ (pt pb (.cells #[.bool false, .slice none 0 0] 66 (0, 0)) ++ pt ob (.cells #[.int .i64 k, .int .i64 n, .string s, .slice sa l c, .int .i64 t] 32 (0, 0))))) (.look 0 (.look 1 (.look 2 (.look 3 (.look 4 (.look 5 (.act 6 (.look 7 (.look 8 (.look 9 (.look 10 (.look 11 (.look 12 (.act 13 (.look 14 (.look 15 (.look 16 (.look 17 (.look 18 (.look 19 (.look 20 (.look 21 (.look 22 (.look 23 (.look 24 .done))))))))))))))))))))))))) (by kernel_rfl) (by kernel_rfl) (fun _ _ d _ _ h => by cases d <;> exact h) ?_ ?_
      · exact hO.drew.as _
      replace hO := hO.drew
      generalize World.drew _ = wdr at hO ⊢
      first | (refine sch_look (o := ?_) (v := ?_) ?_ ?_ ?_ ?_; rotate_left 2; (· ((conv => lhs; whnf); try exact rfl)); (· rfl); (· intro w' hO'; have c0 : w'.cell? ⟨lb, 0, none⟩ = some (.pointer none) := (by rw [hO'.cell (b := lb)]; rfl); go_simp; (try exact rfl)); simp only [Act.put, List.setIfInBounds_toArray, List.set_cons_zero, List.set_cons_succ]) | (refine sch_pass (o := ?_) ?_ ?_ ?_; rotate_left; (· ((conv => lhs; whnf); try exact rfl)); (· rfl); simp only [Act.put, List.setIfInBounds_toArray, List.set_cons_zero, List.set_cons_succ]) | (refine sch_look (o := ?_) (v := .agg ?_) ?_ ?_ ?_ ?_; rotate_left 2; (· ((conv => lhs; whnf); try exact rfl)); (· rfl); (· intro w' hO'; refine run_opLoadS (b := ?_) (cs := ?_) (e := ?_) (f := ?_) hO' ?_ ?_ ?_ ?_; rotate_left 4; (· exact rfl); (· exact inferInstance); (· simp; done); (· simp; done)); simp only [Act.put, List.setIfInBounds_toArray, List.set_cons_zero, List.set_cons_succ])
      first | (refine sch_look (o := ?_) (v := ?_) ?_ ?_ ?_ ?_; rotate_left 2; (· ((conv => lhs; whnf); try exact rfl)); (· rfl); (· intro w' hO'; have c0 : w'.cell? ⟨lb, 0, none⟩ = some (.pointer none) := (by rw [hO'.cell (b := lb)]; rfl); go_simp; (try exact rfl)); simp only [Act.put, List.setIfInBounds_toArray, List.set_cons_zero, List.set_cons_succ]) | (refine sch_pass (o := ?_) ?_ ?_ ?_; rotate_left; (· ((conv => lhs; whnf); try exact rfl)); (· rfl); simp only [Act.put, List.setIfInBounds_toArray, List.set_cons_zero, List.set_cons_succ]) | (refine sch_look (o := ?_) (v := .agg ?_) ?_ ?_ ?_ ?_; rotate_left 2; (· ((conv => lhs; whnf); try exact rfl)); (· rfl); (· intro w' hO'; refine run_opLoadS (b := ?_) (cs := ?_) (e := ?_) (f := ?_) hO' ?_ ?_ ?_ ?_; rotate_left 4; (· exact rfl); (· exact inferInstance); (· simp; done); (· simp; done)); simp only [Act.put, List.setIfInBounds_toArray, List.set_cons_zero, List.set_cons_succ])
      first | (refine sch_look (o := ?_) (v := ?_) ?_ ?_ ?_ ?_; rotate_left 2; (· ((conv => lhs; whnf); try exact rfl)); (· rfl); (· intro w' hO'; have c0 : w'.cell? ⟨lb, 0, none⟩ = some (.pointer none) := (by rw [hO'.cell (b := lb)]; rfl); go_simp; (try exact rfl)); simp only [Act.put, List.setIfInBounds_toArray, List.set_cons_zero, List.set_cons_succ]) | (refine sch_pass (o := ?_) ?_ ?_ ?_; rotate_left; (· ((conv => lhs; whnf); try exact rfl)); (· rfl); simp only [Act.put, List.setIfInBounds_toArray, List.set_cons_zero, List.set_cons_succ]) | (refine sch_look (o := ?_) (v := .agg ?_) ?_ ?_ ?_ ?_; rotate_left 2; (· ((conv => lhs; whnf); try exact rfl)); (· rfl); (· intro w' hO'; refine run_opLoadS (b := ?_) (cs := ?_) (e := ?_) (f := ?_) hO' ?_ ?_ ?_ ?_; rotate_left 4; (· exact rfl); (· exact inferInstance); (· simp; done); (· simp; done)); simp only [Act.put, List.setIfInBounds_toArray, List.set_cons_zero, List.set_cons_succ])
      first | (refine sch_look (o := ?_) (v := ?_) ?_ ?_ ?_ ?_; rotate_left 2; (· ((conv => lhs; whnf); try exact rfl)); (· rfl); (· intro w' hO'; have c0 : w'.cell? ⟨lb, 0, none⟩ = some (.pointer none) := (by rw [hO'.cell (b := lb)]; rfl); go_simp; (try exact rfl)); simp only [Act.put, List.setIfInBounds_toArray, List.set_cons_zero, List.set_cons_succ]) | (refine sch_pass (o := ?_) ?_ ?_ ?_; rotate_left; (· ((conv => lhs; whnf); try exact rfl)); (· rfl); simp only [Act.put, List.setIfInBounds_toArray, List.set_cons_zero, List.set_cons_succ]) | (refine sch_look (o := ?_) (v := .agg ?_) ?_ ?_ ?_ ?_; rotate_left 2; (· ((conv => lhs; whnf); try exact rfl)); (· rfl); (· intro w' hO'; refine run_opLoadS (b := ?_) (cs := ?_) (e := ?_) (f := ?_) hO' ?_ ?_ ?_ ?_; rotate_left 4; (· exact rfl); (· exact inferInstance); (· simp; done); (· simp; done)); simp only [Act.put, List.setIfInBounds_toArray, List.set_cons_zero, List.set_cons_succ])
      first | (refine sch_look (o := ?_) (v := ?_) ?_ ?_ ?_ ?_; rotate_left 2; (· ((conv => lhs; whnf); try exact rfl)); (· rfl); (· intro w' hO'; have c0 : w'.cell? ⟨lb, 0, none⟩ = some (.pointer none) := (by rw [hO'.cell (b := lb)]; rfl); go_simp; (try exact rfl)); simp only [Act.put, List.setIfInBounds_toArray, List.set_cons_zero, List.set_cons_succ]) | (refine sch_pass (o := ?_) ?_ ?_ ?_; rotate_left; (· ((conv => lhs; whnf); try exact rfl)); (· rfl); simp only [Act.put, List.setIfInBounds_toArray, List.set_cons_zero, List.set_cons_succ]) | (refine sch_look (o := ?_) (v := .agg ?_) ?_ ?_ ?_ ?_; rotate_left 2; (· ((conv => lhs; whnf); try exact rfl)); (· rfl); (· intro w' hO'; refine run_opLoadS (b := ?_) (cs := ?_) (e := ?_) (f := ?_) hO' ?_ ?_ ?_ ?_; rotate_left 4; (· exact rfl); (· exact inferInstance); (· simp; done); (· simp; done)); simp only [Act.put, List.setIfInBounds_toArray, List.set_cons_zero, List.set_cons_succ])
      (refine sch_look (o := ?_) (v := .agg #[.int .i64 k, .int .i64 n, .string s, .slice sa l c, .int .i64 t]) ?_ ?_ ?_ ?_; rotate_left; (· ((conv => lhs; whnf); try exact rfl)); (· rfl); (· intro w' hO'; exact run_opLoadS (b := ob) (cs := #[.int .i64 k, .int .i64 n, .string s, .slice sa l c, .int .i64 t]) (e := 32) (f := _) hO' rfl inferInstance (by simp) (by simp)); simp only [Act.put, List.setIfInBounds_toArray, List.set_cons_zero, List.set_cons_succ])
      (refine sch_act (o := ?_) ?_ ?_; rotate_left; (· ((conv => lhs; whnf); try exact rfl)))
      go_wp2_with fail
      refine (nobody9 E _ _ ([]) _ (.pointer none) (.inl ⟨rfl, rfl⟩) k n t s sa l c (hO.as (pt lb (.cells #[.pointer none, .pointer (some ⟨pb, 0, none⟩)] 24 (0, 0)) ++ (pt pb (.cells #[.bool false, .slice none 0 0] 66 (0, 0)) ++ (pt ob (.cells #[.int .i64 k, .int .i64 n, .string s, .slice sa l c, .int .i64 t] 32 (0, 0)) ++ (I ++ R)))))).mono ?_
      clear hO
      rintro e w3 ⟨rfl, hO⟩
      replace hO := hO.as (pt lb (.cells #[.pointer none, .pointer (some ⟨pb, 0, none⟩)] 24 (0, 0)) ++ (pt pb (.cells #[.bool false, .slice none 0 0] 66 (0, 0)) ++ (pt ob (.cells #[.int .i64 k, .int .i64 n, .string s, .slice sa l c, .int .i64 t] 32 (0, 0)) ++ (I ++ R))))
      go_wp2_with fail
      refine ⟨hO.as _, ?_⟩
      first | (refine sch_look (o := ?_) (v := ?_) ?_ ?_ ?_ ?_; rotate_left 2; (· ((conv => lhs; whnf); try exact rfl)); (· rfl); (· intro w' hO'; have c0 : w'.cell? ⟨lb, 0, none⟩ = some (.pointer none) := (by rw [hO'.cell (b := lb)]; rfl); go_simp; (try exact rfl)); simp only [Act.put, List.setIfInBounds_toArray, List.set_cons_zero, List.set_cons_succ]) | (refine sch_pass (o := ?_) ?_ ?_ ?_; rotate_left; (· ((conv => lhs; whnf); try exact rfl)); (· rfl); simp only [Act.put, List.setIfInBounds_toArray, List.set_cons_zero, List.set_cons_succ]) | (refine sch_look (o := ?_) (v := .agg ?_) ?_ ?_ ?_ ?_; rotate_left 2; (· ((conv => lhs; whnf); try exact rfl)); (· rfl); (· intro w' hO'; refine run_opLoadS (b := ?_) (cs := ?_) (e := ?_) (f := ?_) hO' ?_ ?_ ?_ ?_; rotate_left 4; (· exact rfl); (· exact inferInstance); (· simp; done); (· simp; done)); simp only [Act.put, List.setIfInBounds_toArray, List.set_cons_zero, List.set_cons_succ])
      first | (refine sch_look (o := ?_) (v := ?_) ?_ ?_ ?_ ?_; rotate_left 2; (· ((conv => lhs; whnf); try exact rfl)); (· rfl); (· intro w' hO'; have c0 : w'.cell? ⟨lb, 0, none⟩ = some (.pointer none) := (by rw [hO'.cell (b := lb)]; rfl); go_simp; (try exact rfl)); simp only [Act.put, List.setIfInBounds_toArray, List.set_cons_zero, List.set_cons_succ]) | (refine sch_pass (o := ?_) ?_ ?_ ?_; rotate_left; (· ((conv => lhs; whnf); try exact rfl)); (· rfl); simp only [Act.put, List.setIfInBounds_toArray, List.set_cons_zero, List.set_cons_succ]) | (refine sch_look (o := ?_) (v := .agg ?_) ?_ ?_ ?_ ?_; rotate_left 2; (· ((conv => lhs; whnf); try exact rfl)); (· rfl); (· intro w' hO'; refine run_opLoadS (b := ?_) (cs := ?_) (e := ?_) (f := ?_) hO' ?_ ?_ ?_ ?_; rotate_left 4; (· exact rfl); (· exact inferInstance); (· simp; done); (· simp; done)); simp only [Act.put, List.setIfInBounds_toArray, List.set_cons_zero, List.set_cons_succ])
      first | (refine sch_look (o := ?_) (v := ?_) ?_ ?_ ?_ ?_; rotate_left 2; (· ((conv => lhs; whnf); try exact rfl)); (· rfl); (· intro w' hO'; have c0 : w'.cell? ⟨lb, 0, none⟩ = some (.pointer none) := (by rw [hO'.cell (b := lb)]; rfl); go_simp; (try exact rfl)); simp only [Act.put, List.setIfInBounds_toArray, List.set_cons_zero, List.set_cons_succ]) | (refine sch_pass (o := ?_) ?_ ?_ ?_; rotate_left; (· ((conv => lhs; whnf); try exact rfl)); (· rfl); simp only [Act.put, List.setIfInBounds_toArray, List.set_cons_zero, List.set_cons_succ]) | (refine sch_look (o := ?_) (v := .agg ?_) ?_ ?_ ?_ ?_; rotate_left 2; (· ((conv => lhs; whnf); try exact rfl)); (· rfl); (· intro w' hO'; refine run_opLoadS (b := ?_) (cs := ?_) (e := ?_) (f := ?_) hO' ?_ ?_ ?_ ?_; rotate_left 4; (· exact rfl); (· exact inferInstance); (· simp; done); (· simp; done)); simp only [Act.put, List.setIfInBounds_toArray, List.set_cons_zero, List.set_cons_succ])
      first | (refine sch_look (o := ?_) (v := ?_) ?_ ?_ ?_ ?_; rotate_left 2; (· ((conv => lhs; whnf); try exact rfl)); (· rfl); (· intro w' hO'; have c0 : w'.cell? ⟨lb, 0, none⟩ = some (.pointer none) := (by rw [hO'.cell (b := lb)]; rfl); go_simp; (try exact rfl)); simp only [Act.put, List.setIfInBounds_toArray, List.set_cons_zero, List.set_cons_succ]) | (refine sch_pass (o := ?_) ?_ ?_ ?_; rotate_left; (· ((conv => lhs; whnf); try exact rfl)); (· rfl); simp only [Act.put, List.setIfInBounds_toArray, List.set_cons_zero, List.set_cons_succ]) | (refine sch_look (o := ?_) (v := .agg ?_) ?_ ?_ ?_ ?_; rotate_left 2; (· ((conv => lhs; whnf); try exact rfl)); (· rfl); (· intro w' hO'; refine run_opLoadS (b := ?_) (cs := ?_) (e := ?_) (f := ?_) hO' ?_ ?_ ?_ ?_; rotate_left 4; (· exact rfl); (· exact inferInstance); (· simp; done); (· simp; done)); simp only [Act.put, List.setIfInBounds_toArray, List.set_cons_zero, List.set_cons_succ])
      first | (refine sch_look (o := ?_) (v := ?_) ?_ ?_ ?_ ?_; rotate_left 2; (· ((conv => lhs; whnf); try exact rfl)); (· rfl); (· intro w' hO'; have c0 : w'.cell? ⟨lb, 0, none⟩ = some (.pointer none) := (by rw [hO'.cell (b := lb)]; rfl); go_simp; (try exact rfl)); simp only [Act.put, List.setIfInBounds_toArray, List.set_cons_zero, List.set_cons_succ]) | (refine sch_pass (o := ?_) ?_ ?_ ?_; rotate_left; (· ((conv => lhs; whnf); try exact rfl)); (· rfl); simp only [Act.put, List.setIfInBounds_toArray, List.set_cons_zero, List.set_cons_succ]) | (refine sch_look (o := ?_) (v := .agg ?_) ?_ ?_ ?_ ?_; rotate_left 2; (· ((conv => lhs; whnf); try exact rfl)); (· rfl); (· intro w' hO'; refine run_opLoadS (b := ?_) (cs := ?_) (e := ?_) (f := ?_) hO' ?_ ?_ ?_ ?_; rotate_left 4; (· exact rfl); (· exact inferInstance); (· simp; done); (· simp; done)); simp only [Act.put, List.setIfInBounds_toArray, List.set_cons_zero, List.set_cons_succ])
      first | (refine sch_look (o := ?_) (v := ?_) ?_ ?_ ?_ ?_; rotate_left 2; (· ((conv => lhs; whnf); try exact rfl)); (· rfl); (· intro w' hO'; have c0 : w'.cell? ⟨lb, 0, none⟩ = some (.pointer none) := (by rw [hO'.cell (b := lb)]; rfl); go_simp; (try exact rfl)); simp only [Act.put, List.setIfInBounds_toArray, List.set_cons_zero, List.set_cons_succ]) | (refine sch_pass (o := ?_) ?_ ?_ ?_; rotate_left; (· ((conv => lhs; whnf); try exact rfl)); (· rfl); simp only [Act.put, List.setIfInBounds_toArray, List.set_cons_zero, List.set_cons_succ]) | (refine sch_look (o := ?_) (v := .agg ?_) ?_ ?_ ?_ ?_; rotate_left 2; (· ((conv => lhs; whnf); try exact rfl)); (· rfl); (· intro w' hO'; refine run_opLoadS (b := ?_) (cs := ?_) (e := ?_) (f := ?_) hO' ?_ ?_ ?_ ?_; rotate_left 4; (· exact rfl); (· exact inferInstance); (· simp; done); (· simp; done)); simp only [Act.put, List.setIfInBounds_toArray, List.set_cons_zero, List.set_cons_succ])
      (refine sch_act (o := ?_) ?_ ?_; rotate_left; (· ((conv => lhs; whnf); try exact rfl)))
      go_wp2_with fail
      refine (dName E _ _ ([]) _ (.pointer none) (.inl ⟨rfl, rfl⟩) hO).mono ?_
      rintro e w4 ⟨rfl, rfl⟩
      go_wp2_with fail
      refine ⟨hO.as _, ?_⟩
      first | (refine sch_look (o := ?_) (v := ?_) ?_ ?_ ?_ ?_; rotate_left 2; (· ((conv => lhs; whnf); try exact rfl)); (· rfl); (· intro w' hO'; have c0 : w'.cell? ⟨lb, 0, none⟩ = some (.pointer none) := (by rw [hO'.cell (b := lb)]; rfl); go_simp; (try exact rfl)); simp only [Act.put, List.setIfInBounds_toArray, List.set_cons_zero, List.set_cons_succ]) | (refine sch_pass (o := ?_) ?_ ?_ ?_; rotate_left; (· ((conv => lhs; whnf); try exact rfl)); (· rfl); simp only [Act.put, List.setIfInBounds_toArray, List.set_cons_zero, List.set_cons_succ]) | (refine sch_look (o := ?_) (v := .agg ?_) ?_ ?_ ?_ ?_; rotate_left 2; (· ((conv => lhs; whnf); try exact rfl)); (· rfl); (· intro w' hO'; refine run_opLoadS (b := ?_) (cs := ?_) (e := ?_) (f := ?_) hO' ?_ ?_ ?_ ?_; rotate_left 4; (· exact rfl); (· exact inferInstance); (· simp; done); (· simp; done)); simp only [Act.put, List.setIfInBounds_toArray, List.set_cons_zero, List.set_cons_succ])
      first | (refine sch_look (o := ?_) (v := ?_) ?_ ?_ ?_ ?_; rotate_left 2; (· ((conv => lhs; whnf); try exact rfl)); (· rfl); (· intro w' hO'; have c0 : w'.cell? ⟨lb, 0, none⟩ = some (.pointer none) := (by rw [hO'.cell (b := lb)]; rfl); go_simp; (try exact rfl)); simp only [Act.put, List.setIfInBounds_toArray, List.set_cons_zero, List.set_cons_succ]) | (refine sch_pass (o := ?_) ?_ ?_ ?_; rotate_left; (· ((conv => lhs; whnf); try exact rfl)); (· rfl); simp only [Act.put, List.setIfInBounds_toArray, List.set_cons_zero, List.set_cons_succ]) | (refine sch_look (o := ?_) (v := .agg ?_) ?_ ?_ ?_ ?_; rotate_left 2; (· ((conv => lhs; whnf); try exact rfl)); (· rfl); (· intro w' hO'; refine run_opLoadS (b := ?_) (cs := ?_) (e := ?_) (f := ?_) hO' ?_ ?_ ?_ ?_; rotate_left 4; (· exact rfl); (· exact inferInstance); (· simp; done); (· simp; done)); simp only [Act.put, List.setIfInBounds_toArray, List.set_cons_zero, List.set_cons_succ])
      first | (refine sch_look (o := ?_) (v := ?_) ?_ ?_ ?_ ?_; rotate_left 2; (· ((conv => lhs; whnf); try exact rfl)); (· rfl); (· intro w' hO'; have c0 : w'.cell? ⟨lb, 0, none⟩ = some (.pointer none) := (by rw [hO'.cell (b := lb)]; rfl); go_simp; (try exact rfl)); simp only [Act.put, List.setIfInBounds_toArray, List.set_cons_zero, List.set_cons_succ]) | (refine sch_pass (o := ?_) ?_ ?_ ?_; rotate_left; (· ((conv => lhs; whnf); try exact rfl)); (· rfl); simp only [Act.put, List.setIfInBounds_toArray, List.set_cons_zero, List.set_cons_succ]) | (refine sch_look (o := ?_) (v := .agg ?_) ?_ ?_ ?_ ?_; rotate_left 2; (· ((conv => lhs; whnf); try exact rfl)); (· rfl); (· intro w' hO'; refine run_opLoadS (b := ?_) (cs := ?_) (e := ?_) (f := ?_) hO' ?_ ?_ ?_ ?_; rotate_left 4; (· exact rfl); (· exact inferInstance); (· simp; done); (· simp; done)); simp only [Act.put, List.setIfInBounds_toArray, List.set_cons_zero, List.set_cons_succ])
      first | (refine sch_look (o := ?_) (v := ?_) ?_ ?_ ?_ ?_; rotate_left 2; (· ((conv => lhs; whnf); try exact rfl)); (· rfl); (· intro w' hO'; have c0 : w'.cell? ⟨lb, 0, none⟩ = some (.pointer none) := (by rw [hO'.cell (b := lb)]; rfl); go_simp; (try exact rfl)); simp only [Act.put, List.setIfInBounds_toArray, List.set_cons_zero, List.set_cons_succ]) | (refine sch_pass (o := ?_) ?_ ?_ ?_; rotate_left; (· ((conv => lhs; whnf); try exact rfl)); (· rfl); simp only [Act.put, List.setIfInBounds_toArray, List.set_cons_zero, List.set_cons_succ]) | (refine sch_look (o := ?_) (v := .agg ?_) ?_ ?_ ?_ ?_; rotate_left 2; (· ((conv => lhs; whnf); try exact rfl)); (· rfl); (· intro w' hO'; refine run_opLoadS (b := ?_) (cs := ?_) (e := ?_) (f := ?_) hO' ?_ ?_ ?_ ?_; rotate_left 4; (· exact rfl); (· exact inferInstance); (· simp; done); (· simp; done)); simp only [Act.put, List.setIfInBounds_toArray, List.set_cons_zero, List.set_cons_succ])
      first | (refine sch_look (o := ?_) (v := ?_) ?_ ?_ ?_ ?_; rotate_left 2; (· ((conv => lhs; whnf); try exact rfl)); (· rfl); (· intro w' hO'; have c0 : w'.cell? ⟨lb, 0, none⟩ = some (.pointer none) := (by rw [hO'.cell (b := lb)]; rfl); go_simp; (try exact rfl)); simp only [Act.put, List.setIfInBounds_toArray, List.set_cons_zero, List.set_cons_succ]) | (refine sch_pass (o := ?_) ?_ ?_ ?_; rotate_left; (· ((conv => lhs; whnf); try exact rfl)); (· rfl); simp only [Act.put, List.setIfInBounds_toArray, List.set_cons_zero, List.set_cons_succ]) | (refine sch_look (o := ?_) (v := .agg ?_) ?_ ?_ ?_ ?_; rotate_left 2; (· ((conv => lhs; whnf); try exact rfl)); (· rfl); (· intro w' hO'; refine run_opLoadS (b := ?_) (cs := ?_) (e := ?_) (f := ?_) hO' ?_ ?_ ?_ ?_; rotate_left 4; (· exact rfl); (· exact inferInstance); (· simp; done); (· simp; done)); simp only [Act.put, List.setIfInBounds_toArray, List.set_cons_zero, List.set_cons_succ])
      first | (refine sch_look (o := ?_) (v := ?_) ?_ ?_ ?_ ?_; rotate_left 2; (· ((conv => lhs; whnf); try exact rfl)); (· rfl); (· intro w' hO'; have c0 : w'.cell? ⟨lb, 0, none⟩ = some (.pointer none) := (by rw [hO'.cell (b := lb)]; rfl); go_simp; (try exact rfl)); simp only [Act.put, List.setIfInBounds_toArray, List.set_cons_zero, List.set_cons_succ]) | (refine sch_pass (o := ?_) ?_ ?_ ?_; rotate_left; (· ((conv => lhs; whnf); try exact rfl)); (· rfl); simp only [Act.put, List.setIfInBounds_toArray, List.set_cons_zero, List.set_cons_succ]) | (refine sch_look (o := ?_) (v := .agg ?_) ?_ ?_ ?_ ?_; rotate_left 2; (· ((conv => lhs; whnf); try exact rfl)); (· rfl); (· intro w' hO'; refine run_opLoadS (b := ?_) (cs := ?_) (e := ?_) (f := ?_) hO' ?_ ?_ ?_ ?_; rotate_left 4; (· exact rfl); (· exact inferInstance); (· simp; done); (· simp; done)); simp only [Act.put, List.setIfInBounds_toArray, List.set_cons_zero, List.set_cons_succ])
      first | (refine sch_look (o := ?_) (v := ?_) ?_ ?_ ?_ ?_; rotate_left 2; (· ((conv => lhs; whnf); try exact rfl)); (· rfl); (· intro w' hO'; have c0 : w'.cell? ⟨lb, 0, none⟩ = some (.pointer none) := (by rw [hO'.cell (b := lb)]; rfl); go_simp; (try exact rfl)); simp only [Act.put, List.setIfInBounds_toArray, List.set_cons_zero, List.set_cons_succ]) | (refine sch_pass (o := ?_) ?_ ?_ ?_; rotate_left; (· ((conv => lhs; whnf); try exact rfl)); (· rfl); simp only [Act.put, List.setIfInBounds_toArray, List.set_cons_zero, List.set_cons_succ]) | (refine sch_look (o := ?_) (v := .agg ?_) ?_ ?_ ?_ ?_; rotate_left 2; (· ((conv => lhs; whnf); try exact rfl)); (· rfl); (· intro w' hO'; refine run_opLoadS (b := ?_) (cs := ?_) (e := ?_) (f := ?_) hO' ?_ ?_ ?_ ?_; rotate_left 4; (· exact rfl); (· exact inferInstance); (· simp; done); (· simp; done)); simp only [Act.put, List.setIfInBounds_toArray, List.set_cons_zero, List.set_cons_succ])
      first | (refine sch_look (o := ?_) (v := ?_) ?_ ?_ ?_ ?_; rotate_left 2; (· ((conv => lhs; whnf); try exact rfl)); (· rfl); (· intro w' hO'; have c0 : w'.cell? ⟨lb, 0, none⟩ = some (.pointer none) := (by rw [hO'.cell (b := lb)]; rfl); go_simp; (try exact rfl)); simp only [Act.put, List.setIfInBounds_toArray, List.set_cons_zero, List.set_cons_succ]) | (refine sch_pass (o := ?_) ?_ ?_ ?_; rotate_left; (· ((conv => lhs; whnf); try exact rfl)); (· rfl); simp only [Act.put, List.setIfInBounds_toArray, List.set_cons_zero, List.set_cons_succ]) | (refine sch_look (o := ?_) (v := .agg ?_) ?_ ?_ ?_ ?_; rotate_left 2; (· ((conv => lhs; whnf); try exact rfl)); (· rfl); (· intro w' hO'; refine run_opLoadS (b := ?_) (cs := ?_) (e := ?_) (f := ?_) hO' ?_ ?_ ?_ ?_; rotate_left 4; (· exact rfl); (· exact inferInstance); (· simp; done); (· simp; done)); simp only [Act.put, List.setIfInBounds_toArray, List.set_cons_zero, List.set_cons_succ])
      first | (refine sch_look (o := ?_) (v := ?_) ?_ ?_ ?_ ?_; rotate_left 2; (· ((conv => lhs; whnf); try exact rfl)); (· rfl); (· intro w' hO'; have c0 : w'.cell? ⟨lb, 0, none⟩ = some (.pointer none) := (by rw [hO'.cell (b := lb)]; rfl); go_simp; (try exact rfl)); simp only [Act.put, List.setIfInBounds_toArray, List.set_cons_zero, List.set_cons_succ]) | (refine sch_pass (o := ?_) ?_ ?_ ?_; rotate_left; (· ((conv => lhs; whnf); try exact rfl)); (· rfl); simp only [Act.put, List.setIfInBounds_toArray, List.set_cons_zero, List.set_cons_succ]) | (refine sch_look (o := ?_) (v := .agg ?_) ?_ ?_ ?_ ?_; rotate_left 2; (· ((conv => lhs; whnf); try exact rfl)); (· rfl); (· intro w' hO'; refine run_opLoadS (b := ?_) (cs := ?_) (e := ?_) (f := ?_) hO' ?_ ?_ ?_ ?_; rotate_left 4; (· exact rfl); (· exact inferInstance); (· simp; done); (· simp; done)); simp only [Act.put, List.setIfInBounds_toArray, List.set_cons_zero, List.set_cons_succ])
      first | (refine sch_look (o := ?_) (v := ?_) ?_ ?_ ?_ ?_; rotate_left 2; (· ((conv => lhs; whnf); try exact rfl)); (· rfl); (· intro w' hO'; have c0 : w'.cell? ⟨lb, 0, none⟩ = some (.pointer none) := (by rw [hO'.cell (b := lb)]; rfl); go_simp; (try exact rfl)); simp only [Act.put, List.setIfInBounds_toArray, List.set_cons_zero, List.set_cons_succ]) | (refine sch_pass (o := ?_) ?_ ?_ ?_; rotate_left; (· ((conv => lhs; whnf); try exact rfl)); (· rfl); simp only [Act.put, List.setIfInBounds_toArray, List.set_cons_zero, List.set_cons_succ]) | (refine sch_look (o := ?_) (v := .agg ?_) ?_ ?_ ?_ ?_; rotate_left 2; (· ((conv => lhs; whnf); try exact rfl)); (· rfl); (· intro w' hO'; refine run_opLoadS (b := ?_) (cs := ?_) (e := ?_) (f := ?_) hO' ?_ ?_ ?_ ?_; rotate_left 4; (· exact rfl); (· exact inferInstance); (· simp; done); (· simp; done)); simp only [Act.put, List.setIfInBounds_toArray, List.set_cons_zero, List.set_cons_succ])
      first | (refine sch_look (o := ?_) (v := ?_) ?_ ?_ ?_ ?_; rotate_left 2; (· ((conv => lhs; whnf); try exact rfl)); (· rfl); (· intro w' hO'; have c0 : w'.cell? ⟨lb, 0, none⟩ = some (.pointer none) := (by rw [hO'.cell (b := lb)]; rfl); go_simp; (try exact rfl)); simp only [Act.put, List.setIfInBounds_toArray, List.set_cons_zero, List.set_cons_succ]) | (refine sch_pass (o := ?_) ?_ ?_ ?_; rotate_left; (· ((conv => lhs; whnf); try exact rfl)); (· rfl); simp only [Act.put, List.setIfInBounds_toArray, List.set_cons_zero, List.set_cons_succ]) | (refine sch_look (o := ?_) (v := .agg ?_) ?_ ?_ ?_ ?_; rotate_left 2; (· ((conv => lhs; whnf); try exact rfl)); (· rfl); (· intro w' hO'; refine run_opLoadS (b := ?_) (cs := ?_) (e := ?_) (f := ?_) hO' ?_ ?_ ?_ ?_; rotate_left 4; (· exact rfl); (· exact inferInstance); (· simp; done); (· simp; done)); simp only [Act.put, List.setIfInBounds_toArray, List.set_cons_zero, List.set_cons_succ])
      refine sch_done ?_
      go_wp2_with fail
      go_roundw
      case rel => exact ⟨1, by decide, rfl, hO.as _⟩
      case measure => simp [intOf]
    · clear hj
      go_wp2_with (go_at_call 19; refine (dRange E _ _ (pt pb (.cells #[.bool false, .slice none 0 0] 66 (0, 0))) _ (.pointer (some ⟨pb, 0, none⟩)) (.inr ⟨pb, rfl, rfl⟩) hO).mono ?_; rintro e w1 ⟨rfl, rfl⟩)
      (try (go_wp2_with fail))
      refine region_sch (fun w' => Own E w' (pt lb (.cells #[.pointer none, .pointer (some ⟨pb, 0, none⟩)] 24 (0, 0)) ++ (pt pb (.cells #[.bool false, .slice none 0 0] 66 (0, 0)) ++ pt ob (.cells #[.int .i64 k, .int .i64 n, .string s, .slice sa l c, .int .i64 t] 32 (0, 0))))) (.look 0 (.look 1 (.look 2 (.look 3 (.look 4 (.look 5 (.act 6 (.look 7 (.look 8 (.look 9 (.look 10 (.look 11 (.look 12 (.act 13 (.look 14 (.look 15 (.look 16 (.look 17 (.look 18 (.look 19 (.look 20 (.look 21 (.look 22 (.look 23 (.look 24 .done))))))))))))))))))))))))) (by kernel_rfl) (by kernel_rfl) (fun _ _ d _ _ h => by cases d <;> exact h) ?_ ?_
      · exact hO.drew.as _
      replace hO := hO.drew
      generalize World.drew _ = wdr at hO ⊢
      first | (refine sch_look (o := ?_) (v := ?_) ?_ ?_ ?_ ?_; rotate_left 2; (· ((conv => lhs; whnf); try exact rfl)); (· rfl); (· intro w' hO'; have c0 : w'.cell? ⟨lb, 1, none⟩ = some (.pointer (some ⟨pb, 0, none⟩)) := (by rw [hO'.cell (b := lb)]; rfl); go_simp; (try exact rfl)); simp only [Act.put, List.setIfInBounds_toArray, List.set_cons_zero, List.set_cons_succ]) | (refine sch_pass (o := ?_) ?_ ?_ ?_; rotate_left; (· ((conv => lhs; whnf); try exact rfl)); (· rfl); simp only [Act.put, List.setIfInBounds_toArray, List.set_cons_zero, List.set_cons_succ]) | (refine sch_look (o := ?_) (v := .agg ?_) ?_ ?_ ?_ ?_; rotate_left 2; (· ((conv => lhs; whnf); try exact rfl)); (· rfl); (· intro w' hO'; refine run_opLoadS (b := ?_) (cs := ?_) (e := ?_) (f := ?_) hO' ?_ ?_ ?_ ?_; rotate_left 4; (· exact rfl); (· exact inferInstance); (· simp; done); (· simp; done)); simp only [Act.put, List.setIfInBounds_toArray, List.set_cons_zero, List.set_cons_succ])
      first | (refine sch_look (o := ?_) (v := ?_) ?_ ?_ ?_ ?_; rotate_left 2; (· ((conv => lhs; whnf); try exact rfl)); (· rfl); (· intro w' hO'; have c0 : w'.cell? ⟨lb, 1, none⟩ = some (.pointer (some ⟨pb, 0, none⟩)) := (by rw [hO'.cell (b := lb)]; rfl); go_simp; (try exact rfl)); simp only [Act.put, List.setIfInBounds_toArray, List.set_cons_zero, List.set_cons_succ]) | (refine sch_pass (o := ?_) ?_ ?_ ?_; rotate_left; (· ((conv => lhs; whnf); try exact rfl)); (· rfl); simp only [Act.put, List.setIfInBounds_toArray, List.set_cons_zero, List.set_cons_succ]) | (refine sch_look (o := ?_) (v := .agg ?_) ?_ ?_ ?_ ?_; rotate_left 2; (· ((conv => lhs; whnf); try exact rfl)); (· rfl); (· intro w' hO'; refine run_opLoadS (b := ?_) (cs := ?_) (e := ?_) (f := ?_) hO' ?_ ?_ ?_ ?_; rotate_left 4; (· exact rfl); (· exact inferInstance); (· simp; done); (· simp; done)); simp only [Act.put, List.setIfInBounds_toArray, List.set_cons_zero, List.set_cons_succ])
      first | (refine sch_look (o := ?_) (v := ?_) ?_ ?_ ?_ ?_; rotate_left 2; (· ((conv => lhs; whnf); try exact rfl)); (· rfl); (· intro w' hO'; have c0 : w'.cell? ⟨lb, 1, none⟩ = some (.pointer (some ⟨pb, 0, none⟩)) := (by rw [hO'.cell (b := lb)]; rfl); go_simp; (try exact rfl)); simp only [Act.put, List.setIfInBounds_toArray, List.set_cons_zero, List.set_cons_succ]) | (refine sch_pass (o := ?_) ?_ ?_ ?_; rotate_left; (· ((conv => lhs; whnf); try exact rfl)); (· rfl); simp only [Act.put, List.setIfInBounds_toArray, List.set_cons_zero, List.set_cons_succ]) | (refine sch_look (o := ?_) (v := .agg ?_) ?_ ?_ ?_ ?_; rotate_left 2; (· ((conv => lhs; whnf); try exact rfl)); (· rfl); (· intro w' hO'; refine run_opLoadS (b := ?_) (cs := ?_) (e := ?_) (f := ?_) hO' ?_ ?_ ?_ ?_; rotate_left 4; (· exact rfl); (· exact inferInstance); (· simp; done); (· simp; done)); simp only [Act.put, List.setIfInBounds_toArray, List.set_cons_zero, List.set_cons_succ])
      first | (refine sch_look (o := ?_) (v := ?_) ?_ ?_ ?_ ?_; rotate_left 2; (· ((conv => lhs; whnf); try exact rfl)); (· rfl); (· intro w' hO'; have c0 : w'.cell? ⟨lb, 1, none⟩ = some (.pointer (some ⟨pb, 0, none⟩)) := (by rw [hO'.cell (b := lb)]; rfl); go_simp; (try exact rfl)); simp only [Act.put, List.setIfInBounds_toArray, List.set_cons_zero, List.set_cons_succ]) | (refine sch_pass (o := ?_) ?_ ?_ ?_; rotate_left; (· ((conv => lhs; whnf); try exact rfl)); (· rfl); simp only [Act.put, List.setIfInBounds_toArray, List.set_cons_zero, List.set_cons_succ]) | (refine sch_look (o := ?_) (v := .agg ?_) ?_ ?_ ?_ ?_; rotate_left 2; (· ((conv => lhs; whnf); try exact rfl)); (· rfl); (· intro w' hO'; refine run_opLoadS (b := ?_) (cs := ?_) (e := ?_) (f := ?_) hO' ?_ ?_ ?_ ?_; rotate_left 4; (· exact rfl); (· exact inferInstance); (· simp; done); (· simp; done)); simp only [Act.put, List.setIfInBounds_toArray, List.set_cons_zero, List.set_cons_succ])
      first | (refine sch_look (o := ?_) (v := ?_) ?_ ?_ ?_ ?_; rotate_left 2; (· ((conv => lhs; whnf); try exact rfl)); (· rfl); (· intro w' hO'; have c0 : w'.cell? ⟨lb, 1, none⟩ = some (.pointer (some ⟨pb, 0, none⟩)) := (by rw [hO'.cell (b := lb)]; rfl); go_simp; (try exact rfl)); simp only [Act.put, List.setIfInBounds_toArray, List.set_cons_zero, List.set_cons_succ]) | (refine sch_pass (o := ?_) ?_ ?_ ?_; rotate_left; (· ((conv => lhs; whnf); try exact rfl)); (· rfl); simp only [Act.put, List.setIfInBounds_toArray, List.set_cons_zero, List.set_cons_succ]) | (refine sch_look (o := ?_) (v := .agg ?_) ?_ ?_ ?_ ?_; rotate_left 2; (· ((conv => lhs; whnf); try exact rfl)); (· rfl); (· intro w' hO'; refine run_opLoadS (b := ?_) (cs := ?_) (e := ?_) (f := ?_) hO' ?_ ?_ ?_ ?_; rotate_left 4; (· exact rfl); (· exact inferInstance); (· simp; done); (· simp; done)); simp only [Act.put, List.setIfInBounds_toArray, List.set_cons_zero, List.set_cons_succ])
      (refine sch_look (o := ?_) (v := .agg #[.int .i64 k, .int .i64 n, .string s, .slice sa l c, .int .i64 t]) ?_ ?_ ?_ ?_; rotate_left; (· ((conv => lhs; whnf); try exact rfl)); (· rfl); (· intro w' hO'; exact run_opLoadS (b := ob) (cs := #[.int .i64 k, .int .i64 n, .string s, .slice sa l c, .int .i64 t]) (e := 32) (f := _) hO' rfl inferInstance (by simp) (by simp)); simp only [Act.put, List.setIfInBounds_toArray, List.set_cons_zero, List.set_cons_succ])
      (refine sch_act (o := ?_) ?_ ?_; rotate_left; (· ((conv => lhs; whnf); try exact rfl)))
      go_wp2_with fail
      refine (nobody9 E _ _ (pt pb (.cells #[.bool false, .slice none 0 0] 66 (0, 0))) _ (.pointer (some ⟨pb, 0, none⟩)) (.inr ⟨pb, rfl, rfl⟩) k n t s sa l c (hO.as (pt lb (.cells #[.pointer none, .pointer (some ⟨pb, 0, none⟩)] 24 (0, 0)) ++ (pt pb (.cells #[.bool false, .slice none 0 0] 66 (0, 0)) ++ (pt ob (.cells #[.int .i64 k, .int .i64 n, .string s, .slice sa l c, .int .i64 t] 32 (0, 0)) ++ (I ++ R)))))).mono ?_
      clear hO
      rintro e w3 ⟨rfl, hO⟩
      replace hO := hO.as (pt lb (.cells #[.pointer none, .pointer (some ⟨pb, 0, none⟩)] 24 (0, 0)) ++ (pt pb (.cells #[.bool false, .slice none 0 0] 66 (0, 0)) ++ (pt ob (.cells #[.int .i64 k, .int .i64 n, .string s, .slice sa l c, .int .i64 t] 32 (0, 0)) ++ (I ++ R))))
      go_wp2_with fail
      refine ⟨hO.as _, ?_⟩
      first | (refine sch_look (o := ?_) (v := ?_) ?_ ?_ ?_ ?_; rotate_left 2; (· ((conv => lhs; whnf); try exact rfl)); (· rfl); (· intro w' hO'; have c0 : w'.cell? ⟨lb, 1, none⟩ = some (.pointer (some ⟨pb, 0, none⟩)) := (by rw [hO'.cell (b := lb)]; rfl); go_simp; (try exact rfl)); simp only [Act.put, List.setIfInBounds_toArray, List.set_cons_zero, List.set_cons_succ]) | (refine sch_pass (o := ?_) ?_ ?_ ?_; rotate_left; (· ((conv => lhs; whnf); try exact rfl)); (· rfl); simp only [Act.put, List.setIfInBounds_toArray, List.set_cons_zero, List.set_cons_succ]) | (refine sch_look (o := ?_) (v := .agg ?_) ?_ ?_ ?_ ?_; rotate_left 2; (· ((conv => lhs; whnf); try exact rfl)); (· rfl); (· intro w' hO'; refine run_opLoadS (b := ?_) (cs := ?_) (e := ?_) (f := ?_) hO' ?_ ?_ ?_ ?_; rotate_left 4; (· exact rfl); (· exact inferInstance); (· simp; done); (· simp; done)); simp only [Act.put, List.setIfInBounds_toArray, List.set_cons_zero, List.set_cons_succ])
      first | (refine sch_look (o := ?_) (v := ?_) ?_ ?_ ?_ ?_; rotate_left 2; (· ((conv => lhs; whnf); try exact rfl)); (· rfl); (· intro w' hO'; have c0 : w'.cell? ⟨lb, 1, none⟩ = some (.pointer (some ⟨pb, 0, none⟩)) := (by rw [hO'.cell (b := lb)]; rfl); go_simp; (try exact rfl)); simp only [Act.put, List.setIfInBounds_toArray, List.set_cons_zero, List.set_cons_succ]) | (refine sch_pass (o := ?_) ?_ ?_ ?_; rotate_left; (· ((conv => lhs; whnf); try exact rfl)); (· rfl); simp only [Act.put, List.setIfInBounds_toArray, List.set_cons_zero, List.set_cons_succ]) | (refine sch_look (o := ?_) (v := .agg ?_) ?_ ?_ ?_ ?_; rotate_left 2; (· ((conv => lhs; whnf); try exact rfl)); (· rfl); (· intro w' hO'; refine run_opLoadS (b := ?_) (cs := ?_) (e := ?_) (f := ?_) hO' ?_ ?_ ?_ ?_; rotate_left 4; (· exact rfl); (· exact inferInstance); (· simp; done); (· simp; done)); simp only [Act.put, List.setIfInBounds_toArray, List.set_cons_zero, List.set_cons_succ])
      first | (refine sch_look (o := ?_) (v := ?_) ?_ ?_ ?_ ?_; rotate_left 2; (· ((conv => lhs; whnf); try exact rfl)); (· rfl); (· intro w' hO'; have c0 : w'.cell? ⟨lb, 1, none⟩ = some (.pointer (some ⟨pb, 0, none⟩)) := (by rw [hO'.cell (b := lb)]; rfl); go_simp; (try exact rfl)); simp only [Act.put, List.setIfInBounds_toArray, List.set_cons_zero, List.set_cons_succ]) | (refine sch_pass (o := ?_) ?_ ?_ ?_; rotate_left; (· ((conv => lhs; whnf); try exact rfl)); (· rfl); simp only [Act.put, List.setIfInBounds_toArray, List.set_cons_zero, List.set_cons_succ]) | (refine sch_look (o := ?_) (v := .agg ?_) ?_ ?_ ?_ ?_; rotate_left 2; (· ((conv => lhs; whnf); try exact rfl)); (· rfl); (· intro w' hO'; refine run_opLoadS (b := ?_) (cs := ?_) (e := ?_) (f := ?_) hO' ?_ ?_ ?_ ?_; rotate_left 4; (· exact rfl); (· exact inferInstance); (· simp; done); (· simp; done)); simp only [Act.put, List.setIfInBounds_toArray, List.set_cons_zero, List.set_cons_succ])
      first | (refine sch_look (o := ?_) (v := ?_) ?_ ?_ ?_ ?_; rotate_left 2; (· ((conv => lhs; whnf); try exact rfl)); (· rfl); (· intro w' hO'; have c0 : w'.cell? ⟨lb, 1, none⟩ = some (.pointer (some ⟨pb, 0, none⟩)) := (by rw [hO'.cell (b := lb)]; rfl); go_simp; (try exact rfl)); simp only [Act.put, List.setIfInBounds_toArray, List.set_cons_zero, List.set_cons_succ]) | (refine sch_pass (o := ?_) ?_ ?_ ?_; rotate_left; (· ((conv => lhs; whnf); try exact rfl)); (· rfl); simp only [Act.put, List.setIfInBounds_toArray, List.set_cons_zero, List.set_cons_succ]) | (refine sch_look (o := ?_) (v := .agg ?_) ?_ ?_ ?_ ?_; rotate_left 2; (· ((conv => lhs; whnf); try exact rfl)); (· rfl); (· intro w' hO'; refine run_opLoadS (b := ?_) (cs := ?_) (e := ?_) (f := ?_) hO' ?_ ?_ ?_ ?_; rotate_left 4; (· exact rfl); (· exact inferInstance); (· simp; done); (· simp; done)); simp only [Act.put, List.setIfInBounds_toArray, List.set_cons_zero, List.set_cons_succ])
      first | (refine sch_look (o := ?_) (v := ?_) ?_ ?_ ?_ ?_; rotate_left 2; (· ((conv => lhs; whnf); try exact rfl)); (· rfl); (· intro w' hO'; have c0 : w'.cell? ⟨lb, 1, none⟩ = some (.pointer (some ⟨pb, 0, none⟩)) := (by rw [hO'.cell (b := lb)]; rfl); go_simp; (try exact rfl)); simp only [Act.put, List.setIfInBounds_toArray, List.set_cons_zero, List.set_cons_succ]) | (refine sch_pass (o := ?_) ?_ ?_ ?_; rotate_left; (· ((conv => lhs; whnf); try exact rfl)); (· rfl); simp only [Act.put, List.setIfInBounds_toArray, List.set_cons_zero, List.set_cons_succ]) | (refine sch_look (o := ?_) (v := .agg ?_) ?_ ?_ ?_ ?_; rotate_left 2; (· ((conv => lhs; whnf); try exact rfl)); (· rfl); (· intro w' hO'; refine run_opLoadS (b := ?_) (cs := ?_) (e := ?_) (f := ?_) hO' ?_ ?_ ?_ ?_; rotate_left 4; (· exact rfl); (· exact inferInstance); (· simp; done); (· simp; done)); simp only [Act.put, List.setIfInBounds_toArray, List.set_cons_zero, List.set_cons_succ])
      first | (refine sch_look (o := ?_) (v := ?_) ?_ ?_ ?_ ?_; rotate_left 2; (· ((conv => lhs; whnf); try exact rfl)); (· rfl); (· intro w' hO'; have c0 : w'.cell? ⟨lb, 1, none⟩ = some (.pointer (some ⟨pb, 0, none⟩)) := (by rw [hO'.cell (b := lb)]; rfl); go_simp; (try exact rfl)); simp only [Act.put, List.setIfInBounds_toArray, List.set_cons_zero, List.set_cons_succ]) | (refine sch_pass (o := ?_) ?_ ?_ ?_; rotate_left; (· ((conv => lhs; whnf); try exact rfl)); (· rfl); simp only [Act.put, List.setIfInBounds_toArray, List.set_cons_zero, List.set_cons_succ]) | (refine sch_look (o := ?_) (v := .agg ?_) ?_ ?_ ?_ ?_; rotate_left 2; (· ((conv => lhs; whnf); try exact rfl)); (· rfl); (· intro w' hO'; refine run_opLoadS (b := ?_) (cs := ?_) (e := ?_) (f := ?_) hO' ?_ ?_ ?_ ?_; rotate_left 4; (· exact rfl); (· exact inferInstance); (· simp; done); (· simp; done)); simp only [Act.put, List.setIfInBounds_toArray, List.set_cons_zero, List.set_cons_succ])
      (refine sch_act (o := ?_) ?_ ?_; rotate_left; (· ((conv => lhs; whnf); try exact rfl)))
      go_wp2_with fail
      refine (dName E _ _ (pt pb (.cells #[.bool false, .slice none 0 0] 66 (0, 0))) _ (.pointer (some ⟨pb, 0, none⟩)) (.inr ⟨pb, rfl, rfl⟩) hO).mono ?_
      rintro e w4 ⟨rfl, rfl⟩
      go_wp2_with fail
      refine ⟨hO.as _, ?_⟩
      first | (refine sch_look (o := ?_) (v := ?_) ?_ ?_ ?_ ?_; rotate_left 2; (· ((conv => lhs; whnf); try exact rfl)); (· rfl); (· intro w' hO'; have c0 : w'.cell? ⟨lb, 1, none⟩ = some (.pointer (some ⟨pb, 0, none⟩)) := (by rw [hO'.cell (b := lb)]; rfl); go_simp; (try exact rfl)); simp only [Act.put, List.setIfInBounds_toArray, List.set_cons_zero, List.set_cons_succ]) | (refine sch_pass (o := ?_) ?_ ?_ ?_; rotate_left; (· ((conv => lhs; whnf); try exact rfl)); (· rfl); simp only [Act.put, List.setIfInBounds_toArray, List.set_cons_zero, List.set_cons_succ]) | (refine sch_look (o := ?_) (v := .agg ?_) ?_ ?_ ?_ ?_; rotate_left 2; (· ((conv => lhs; whnf); try exact rfl)); (· rfl); (· intro w' hO'; refine run_opLoadS (b := ?_) (cs := ?_) (e := ?_) (f := ?_) hO' ?_ ?_ ?_ ?_; rotate_left 4; (· exact rfl); (· exact inferInstance); (· simp; done); (· simp; done)); simp only [Act.put, List.setIfInBounds_toArray, List.set_cons_zero, List.set_cons_succ])
      first | (refine sch_look (o := ?_) (v := ?_) ?_ ?_ ?_ ?_; rotate_left 2; (· ((conv => lhs; whnf); try exact rfl)); (· rfl); (· intro w' hO'; have c0 : w'.cell? ⟨lb, 1, none⟩ = some (.pointer (some ⟨pb, 0, none⟩)) := (by rw [hO'.cell (b := lb)]; rfl); go_simp; (try exact rfl)); simp only [Act.put, List.setIfInBounds_toArray, List.set_cons_zero, List.set_cons_succ]) | (refine sch_pass (o := ?_) ?_ ?_ ?_; rotate_left; (· ((conv => lhs; whnf); try exact rfl)); (· rfl); simp only [Act.put, List.setIfInBounds_toArray, List.set_cons_zero, List.set_cons_succ]) | (refine sch_look (o := ?_) (v := .agg ?_) ?_ ?_ ?_ ?_; rotate_left 2; (· ((conv => lhs; whnf); try exact rfl)); (· rfl); (· intro w' hO'; refine run_opLoadS (b := ?_) (cs := ?_) (e := ?_) (f := ?_) hO' ?_ ?_ ?_ ?_; rotate_left 4; (· exact rfl); (· exact inferInstance); (· simp; done); (· simp; done)); simp only [Act.put, List.setIfInBounds_toArray, List.set_cons_zero, List.set_cons_succ])
      first | (refine sch_look (o := ?_) (v := ?_) ?_ ?_ ?_ ?_; rotate_left 2; (· ((conv => lhs; whnf); try exact rfl)); (· rfl); (· intro w' hO'; have c0 : w'.cell? ⟨lb, 1, none⟩ = some (.pointer (some ⟨pb, 0, none⟩)) := (by rw [hO'.cell (b := lb)]; rfl); go_simp; (try exact rfl)); simp only [Act.put, List.setIfInBounds_toArray, List.set_cons_zero, List.set_cons_succ]) | (refine sch_pass (o := ?_) ?_ ?_ ?_; rotate_left; (· ((conv => lhs; whnf); try exact rfl)); (· rfl); simp only [Act.put, List.setIfInBounds_toArray, List.set_cons_zero, List.set_cons_succ]) | (refine sch_look (o := ?_) (v := .agg ?_) ?_ ?_ ?_ ?_; rotate_left 2; (· ((conv => lhs; whnf); try exact rfl)); (· rfl); (· intro w' hO'; refine run_opLoadS (b := ?_) (cs := ?_) (e := ?_) (f := ?_) hO' ?_ ?_ ?_ ?_; rotate_left 4; (· exact rfl); (· exact inferInstance); (· simp; done); (· simp; done)); simp only [Act.put, List.setIfInBounds_toArray, List.set_cons_zero, List.set_cons_succ])
      first | (refine sch_look (o := ?_) (v := ?_) ?_ ?_ ?_ ?_; rotate_left 2; (· ((conv => lhs; whnf); try exact rfl)); (· rfl); (· intro w' hO'; have c0 : w'.cell? ⟨lb, 1, none⟩ = some (.pointer (some ⟨pb, 0, none⟩)) := (by rw [hO'.cell (b := lb)]; rfl); go_simp; (try exact rfl)); simp only [Act.put, List.setIfInBounds_toArray, List.set_cons_zero, List.set_cons_succ]) | (refine sch_pass (o := ?_) ?_ ?_ ?_; rotate_left; (· ((conv => lhs; whnf); try exact rfl)); (· rfl); simp only [Act.put, List.setIfInBounds_toArray, List.set_cons_zero, List.set_cons_succ]) | (refine sch_look (o := ?_) (v := .agg ?_) ?_ ?_ ?_ ?_; rotate_left 2; (· ((conv => lhs; whnf); try exact rfl)); (· rfl); (· intro w' hO'; refine run_opLoadS (b := ?_) (cs := ?_) (e := ?_) (f := ?_) hO' ?_ ?_ ?_ ?_; rotate_left 4; (· exact rfl); (· exact inferInstance); (· simp; done); (· simp; done)); simp only [Act.put, List.setIfInBounds_toArray, List.set_cons_zero, List.set_cons_succ])
      first | (refine sch_look (o := ?_) (v := ?_) ?_ ?_ ?_ ?_; rotate_left 2; (· ((conv => lhs; whnf); try exact rfl)); (· rfl); (· intro w' hO'; have c0 : w'.cell? ⟨lb, 1, none⟩ = some (.pointer (some ⟨pb, 0, none⟩)) := (by rw [hO'.cell (b := lb)]; rfl); go_simp; (try exact rfl)); simp only [Act.put, List.setIfInBounds_toArray, List.set_cons_zero, List.set_cons_succ]) | (refine sch_pass (o := ?_) ?_ ?_ ?_; rotate_left; (· ((conv => lhs; whnf); try exact rfl)); (· rfl); simp only [Act.put, List.setIfInBounds_toArray, List.set_cons_zero, List.set_cons_succ]) | (refine sch_look (o := ?_) (v := .agg ?_) ?_ ?_ ?_ ?_; rotate_left 2; (· ((conv => lhs; whnf); try exact rfl)); (· rfl); (· intro w' hO'; refine run_opLoadS (b := ?_) (cs := ?_) (e := ?_) (f := ?_) hO' ?_ ?_ ?_ ?_; rotate_left 4; (· exact rfl); (· exact inferInstance); (· simp; done); (· simp; done)); simp only [Act.put, List.setIfInBounds_toArray, List.set_cons_zero, List.set_cons_succ])
      first | (refine sch_look (o := ?_) (v := ?_) ?_ ?_ ?_ ?_; rotate_left 2; (· ((conv => lhs; whnf); try exact rfl)); (· rfl); (· intro w' hO'; have c0 : w'.cell? ⟨lb, 1, none⟩ = some (.pointer (some ⟨pb, 0, none⟩)) := (by rw [hO'.cell (b := lb)]; rfl); go_simp; (try exact rfl)); simp only [Act.put, List.setIfInBounds_toArray, List.set_cons_zero, List.set_cons_succ]) | (refine sch_pass (o := ?_) ?_ ?_ ?_; rotate_left; (· ((conv => lhs; whnf); try exact rfl)); (· rfl); simp only [Act.put, List.setIfInBounds_toArray, List.set_cons_zero, List.set_cons_succ]) | (refine sch_look (o := ?_) (v := .agg ?_) ?_ ?_ ?_ ?_; rotate_left 2; (· ((conv => lhs; whnf); try exact rfl)); (· rfl); (· intro w' hO'; refine run_opLoadS (b := ?_) (cs := ?_) (e := ?_) (f := ?_) hO' ?_ ?_ ?_ ?_; rotate_left 4; (· exact rfl); (· exact inferInstance); (· simp; done); (· simp; done)); simp only [Act.put, List.setIfInBounds_toArray, List.set_cons_zero, List.set_cons_succ])
      first | (refine sch_look (o := ?_) (v := ?_) ?_ ?_ ?_ ?_; rotate_left 2; (· ((conv => lhs; whnf); try exact rfl)); (· rfl); (· intro w' hO'; have c0 : w'.cell? ⟨lb, 1, none⟩ = some (.pointer (some ⟨pb, 0, none⟩)) := (by rw [hO'.cell (b := lb)]; rfl); go_simp; (try exact rfl)); simp only [Act.put, List.setIfInBounds_toArray, List.set_cons_zero, List.set_cons_succ]) | (refine sch_pass (o := ?_) ?_ ?_ ?_; rotate_left; (· ((conv => lhs; whnf); try exact rfl)); (· rfl); simp only [Act.put, List.setIfInBounds_toArray, List.set_cons_zero, List.set_cons_succ]) | (refine sch_look (o := ?_) (v := .agg ?_) ?_ ?_ ?_ ?_; rotate_left 2; (· ((conv => lhs; whnf); try exact rfl)); (· rfl); (· intro w' hO'; refine run_opLoadS (b := ?_) (cs := ?_) (e := ?_) (f := ?_) hO' ?_ ?_ ?_ ?_; rotate_left 4; (· exact rfl); (· exact inferInstance); (· simp; done); (· simp; done)); simp only [Act.put, List.setIfInBounds_toArray, List.set_cons_zero, List.set_cons_succ])
      first | (refine sch_look (o := ?_) (v := ?_) ?_ ?_ ?_ ?_; rotate_left 2; (· ((conv => lhs; whnf); try exact rfl)); (· rfl); (· intro w' hO'; have c0 : w'.cell? ⟨lb, 1, none⟩ = some (.pointer (some ⟨pb, 0, none⟩)) := (by rw [hO'.cell (b := lb)]; rfl); go_simp; (try exact rfl)); simp only [Act.put, List.setIfInBounds_toArray, List.set_cons_zero, List.set_cons_succ]) | (refine sch_pass (o := ?_) ?_ ?_ ?_; rotate_left; (· ((conv => lhs; whnf); try exact rfl)); (· rfl); simp only [Act.put, List.setIfInBounds_toArray, List.set_cons_zero, List.set_cons_succ]) | (refine sch_look (o := ?_) (v := .agg ?_) ?_ ?_ ?_ ?_; rotate_left 2; (· ((conv => lhs; whnf); try exact rfl)); (· rfl); (· intro w' hO'; refine run_opLoadS (b := ?_) (cs := ?_) (e := ?_) (f := ?_) hO' ?_ ?_ ?_ ?_; rotate_left 4; (· exact rfl); (· exact inferInstance); (· simp; done); (· simp; done)); simp only [Act.put, List.setIfInBounds_toArray, List.set_cons_zero, List.set_cons_succ])
      first | (refine sch_look (o := ?_) (v := ?_) ?_ ?_ ?_ ?_; rotate_left 2; (· ((conv => lhs; whnf); try exact rfl)); (· rfl); (· intro w' hO'; have c0 : w'.cell? ⟨lb, 1, none⟩ = some (.pointer (some ⟨pb, 0, none⟩)) := (by rw [hO'.cell (b := lb)]; rfl); go_simp; (try exact rfl)); simp only [Act.put, List.setIfInBounds_toArray, List.set_cons_zero, List.set_cons_succ]) | (refine sch_pass (o := ?_) ?_ ?_ ?_; rotate_left; (· ((conv => lhs; whnf); try exact rfl)); (· rfl); simp only [Act.put, List.setIfInBounds_toArray, List.set_cons_zero, List.set_cons_succ]) | (refine sch_look (o := ?_) (v := .agg ?_) ?_ ?_ ?_ ?_; rotate_left 2; (· ((conv => lhs; whnf); try exact rfl)); (· rfl); (· intro w' hO'; refine run_opLoadS (b := ?_) (cs := ?_) (e := ?_) (f := ?_) hO' ?_ ?_ ?_ ?_; rotate_left 4; (· exact rfl); (· exact inferInstance); (· simp; done); (· simp; done)); simp only [Act.put, List.setIfInBounds_toArray, List.set_cons_zero, List.set_cons_succ])
      first | (refine sch_look (o := ?_) (v := ?_) ?_ ?_ ?_ ?_; rotate_left 2; (· ((conv => lhs; whnf); try exact rfl)); (· rfl); (· intro w' hO'; have c0 : w'.cell? ⟨lb, 1, none⟩ = some (.pointer (some ⟨pb, 0, none⟩)) := (by rw [hO'.cell (b := lb)]; rfl); go_simp; (try exact rfl)); simp only [Act.put, List.setIfInBounds_toArray, List.set_cons_zero, List.set_cons_succ]) | (refine sch_pass (o := ?_) ?_ ?_ ?_; rotate_left; (· ((conv => lhs; whnf); try exact rfl)); (· rfl); simp only [Act.put, List.setIfInBounds_toArray, List.set_cons_zero, List.set_cons_succ]) | (refine sch_look (o := ?_) (v := .agg ?_) ?_ ?_ ?_ ?_; rotate_left 2; (· ((conv => lhs; whnf); try exact rfl)); (· rfl); (· intro w' hO'; refine run_opLoadS (b := ?_) (cs := ?_) (e := ?_) (f := ?_) hO' ?_ ?_ ?_ ?_; rotate_left 4; (· exact rfl); (· exact inferInstance); (· simp; done); (· simp; done)); simp only [Act.put, List.setIfInBounds_toArray, List.set_cons_zero, List.set_cons_succ])
      first | (refine sch_look (o := ?_) (v := ?_) ?_ ?_ ?_ ?_; rotate_left 2; (· ((conv => lhs; whnf); try exact rfl)); (· rfl); (· intro w' hO'; have c0 : w'.cell? ⟨lb, 1, none⟩ = some (.pointer (some ⟨pb, 0, none⟩)) := (by rw [hO'.cell (b := lb)]; rfl); go_simp; (try exact rfl)); simp only [Act.put, List.setIfInBounds_toArray, List.set_cons_zero, List.set_cons_succ]) | (refine sch_pass (o := ?_) ?_ ?_ ?_; rotate_left; (· ((conv => lhs; whnf); try exact rfl)); (· rfl); simp only [Act.put, List.setIfInBounds_toArray, List.set_cons_zero, List.set_cons_succ]) | (refine sch_look (o := ?_) (v := .agg ?_) ?_ ?_ ?_ ?_; rotate_left 2; (· ((conv => lhs; whnf); try exact rfl)); (· rfl); (· intro w' hO'; refine run_opLoadS (b := ?_) (cs := ?_) (e := ?_) (f := ?_) hO' ?_ ?_ ?_ ?_; rotate_left 4; (· exact rfl); (· exact inferInstance); (· simp; done); (· simp; done)); simp only [Act.put, List.setIfInBounds_toArray, List.set_cons_zero, List.set_cons_succ])
      refine sch_done ?_
      go_wp2_with fail
      go_roundw
      case rel => exact ⟨2, by decide, rfl, hO.as _⟩
      case measure => simp [intOf]
    · clear hj
      go_wp2_with (first | (go_at_call 16; refine (abNil E _ _ hO).mono ?_; clear hO; rintro e w3 ⟨so, co, SO, rfl, hSO, hO⟩) | (go_at_call 9; refine (awake9 E _ _ (SO ++ (pt lb (.cells #[.pointer none, .pointer (some ⟨pb, 0, none⟩)] 24 (0, 0)) ++ (pt pb (.cells #[.bool false, .slice none 0 0] 66 (0, 0)) ++ (pt ob (.cells #[.int .i64 k, .int .i64 n, .string s, .slice sa l c, .int .i64 t] 32 (0, 0)) ++ R)))) I hG (hO.as (I ++ (SO ++ (pt lb (.cells #[.pointer none, .pointer (some ⟨pb, 0, none⟩)] 24 (0, 0)) ++ (pt pb (.cells #[.bool false, .slice none 0 0] 66 (0, 0)) ++ (pt ob (.cells #[.int .i64 k, .int .i64 n, .string s, .slice sa l c, .int .i64 t] 32 (0, 0)) ++ R))))))).mono ?_; clear hO; rintro e w4 ⟨rfl, hO⟩))
      go_ret
      exact ⟨rfl, hO.as _⟩
end Go.Proofs.YticclennllklpaaDoor

/- Layer 9: what the tied cards share: the builder with the world's shape handed on; MaxLen's cell. -/
namespace Go.Proofs.YticclennllklpaaDoor.glue9
open Go Go.ChangeShapes Go.WideShapes Go.ChangeAt Go.RowKit

theorem own : ownKnob Tryd.prog.godebug = none := by kernel_rfl
theorem laidOut : laidOutB Tryd.prog = true := by kernel_rfl

/-- The builder, the world's shape handed on. -/
theorem handed_sh {H : Type} {enc : TypeId × Value → H} {a : Assume} {C : Checked} {os : Os} {f : FuncId} {fn : Func} {s : ChangeSpec} {conds : List PathCond} {apart fresh handsOn again : Bool} {X : World → Array Value → Prop}
    (own : ownKnob C.prog.godebug = none) (started : os.Started) (noInit : C.prog.inits.idxOf? f = none) (hfn : C.prog.funcs[f]? = some fn)
    (witness : ∃ (w : World) (tape : Tape) (i : Input), w.os = os ∧ (w.forCall tape i).Shaped C.prog ∧ i.vars = [] ∧ Input.okWide C.prog (w.forCall tape i) .any w.heap.size f i ∧
      ((s.pre enc C.prog fn conds apart (w.forCall tape i).memory i.args ∧ X (w.forCall tape i).memory i.args) ∧ sizedMet enc C.prog fn (OpenSpec.ofChange s) apart (w.forCall tape i).memory i.args) ∧ a.holds C.prog (lone (Frame.enter C.prog f i.args .normal) [] (w.forCall tape i)))
    (contract : ∀ (W : World) (base : Nat) (args : Array Value) (ds gs : List (DataW H)) (before : List MemPlace), W.ShapedOpen C.prog →
      (∀ (j : Nat) t v, fn.params[j]? = some t → args[j]? = some v → Value.okWide C.prog W .any base t v) →
      DataW.Whole enc C.prog fn.params.toList s.vars apart W args.toList ds gs before →
      conds.all (PathCond.test C.prog ⟨fn.params.toList, ds, s.plain.varTypes C.prog, gs⟩) = true →
      (DataW.weightsEach C.prog (fn.params.toList ++ s.plain.varTypes C.prog) (ds ++ gs)).all (· ≤ reachBytes) = true →
      Calls C.prog f args W fun e W' => ∃ v, e = .returned v ∧ s.post enc C.prog fn apart fresh handsOn again W args v W') :
    ReturnsInHanded a C os f .any (fun w args => (s.pre enc C.prog fn conds apart w args ∧ X w args) ∧ sizedMet enc C.prog fn (OpenSpec.ofChange s) apart w args) (s.post enc C.prog fn apart fresh handsOn again) := by
  refine returnsInHanded_of_calls own started noInit witness ?_
  intro w tape i _ hsh _ hok hpre _
  obtain ⟨_, _, _, fn', hfn', _, _, _, _, hval⟩ := hok
  have e : fn' = fn := Option.some.inj (hfn'.symm.trans hfn)
  subst e
  obtain ⟨⟨⟨ds, gs, before, hw, hc⟩, _⟩, hz⟩ := hpre
  have hw' := DataW.Whole.of_heap (w' := w.forCall tape i) (by rfl) hw
  refine (contract (w.forCall tape i) w.heap.size i.args ds gs before hsh hval hw' hc (hz.weights hw)).mono fun e W' ⟨v, he, hp⟩ => ?_
  subst he
  exact ChangeSpec.post_blind hp

set_option maxRecDepth 100000 in
theorem maxL_old {W : World} (h : W.ShapedOpen Tryd.prog) : MaxL W (Go.Own.oldFr W) := by
  obtain ⟨cs, hc, hn, hb⟩ := h.1 0 #[.int .i64 0] 3 (Nat.le_of_ble_eq_true (by kernel_rfl)) (by kernel_rfl)
  obtain ⟨ts, h1, h2, h3⟩ := hb (by kernel_rfl)
  have ht : ts = [3] := Option.some.inj (h1.symm.trans (by kernel_rfl))
  subst ht
  have hv : cs.size = 1 := hn
  obtain ⟨u, hu, hk⟩ := h3 0 cs[0] (by simp [hv])
  have hu' : 3 = u := by simpa using hu
  subst hu'
  clear hu
  have hk' : ∃ m, cs[0] = .int .i64 m := by
    unfold Cell.ok at hk
    rw [Tryd.underlying3] at hk
    revert hk
    cases cs[0] <;> simp
    intro h _
    exact h
  obtain ⟨m, hm⟩ := hk'
  refine ⟨m, fun Y w hO => ?_⟩
  have hmem : (0, Obj.cells cs 3) ∈ Go.Own.oldFr W := Go.Own.oldFr_mem hc
  have hg := hO.mem _ (List.mem_append_left _ hmem)
  simp [World.cell?, hg, hv, hm]
theorem laid_met (os : Os) (args : Array Value) : laidMetH Tryd.prog Rows.methodTurnsRow.laid ((World.laidAll Tryd.prog os Rows.methodTurnsRow.laid).forCall (fun _ _ => 0) ⟨#[], args, []⟩).memory := by
  rw [MakeChecks.laidMetH_plain _ _ _ (by kernel_rfl)]
  exact laidMet_laidAll _ (by kernel_rfl) (by kernel_rfl)
theorem shaped (os : Os) (args : Array Value) : ((World.laidAll Tryd.prog os Rows.methodTurnsRow.laid).forCall (fun _ _ => 0) ⟨#[], args, []⟩).Shaped Tryd.prog := World.shaped_of_ZipB (by kernel_rfl) (by kernel_rfl)
end Go.Proofs.YticclennllklpaaDoor.glue9
