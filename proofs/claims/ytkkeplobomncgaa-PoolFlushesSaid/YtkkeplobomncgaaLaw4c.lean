/- vestibulelaw04: the pages that the law keeps itself: find, pinned. -/
import Derived.Test.YtkkeplobomncgaaLaw4a
import Derived.Test.YtkkeplobomncgaaPool10
set_option linter.all false
namespace Go.Proofs.Ytkkeplobomncgaa
open Go Go.RowKit Go.Own Go.Dk

structure Ent where
  page : Nat
  bb : Nat
  bytes : List UInt8
  pins : Nat
  deriving Inhabited
def entB (e : Ent) : Value := .slice (some ⟨e.bb, 0, none⟩) 512 512
def entF (e : Ent) : Fr := pt e.bb (.cells (bytesV e.bytes).toArray 5 (0, 0))
def entsF (es : List Ent) : Fr := es.flatMap entF
theorem entsF_cons (e : Ent) (es : List Ent) : entsF (e :: es) = entF e ++ entsF es := rfl
theorem entsF_app (a b : List Ent) : entsF (a ++ b) = entsF a ++ entsF b := by simp [entsF]
theorem entsF_nil : entsF [] = [] := rfl
def ePage (e : Ent) : Value := .int .i64 e.page
def ePins (e : Ent) : Value := .int .i64 e.pins

/-- The law's own pages at block g. -/
def PgAt (g frames : Nat) (es : List Ent) (A : Fr) : Prop :=
  ∃ a1 c1 a2 c2 a3 c3 S1 S2 S3, Sl 3 1 a1 es.length c1 (es.map ePage) S1 ∧ Sl 25 1 a2 es.length c2 (es.map entB) S2 ∧ Sl 3 1 a3 es.length c3 (es.map ePins) S3 ∧
    A = pt g (.cells #[.int .i64 frames, .slice a1 es.length c1, .slice a2 es.length c2, .slice a3 es.length c3] 81 (0, 0)) ++ (S1 ++ (S2 ++ (S3 ++ entsF es)))
/-- They say what the pool's pages hold. -/
structure Rel (es : List Ent) (cont : Nat → List UInt8) (pins : Nat → Nat) : Prop where
  nodup : (es.map (·.page)).Nodup
  ent : ∀ e ∈ es, e.page < 4096 ∧ e.bytes = cont e.page ∧ e.pins = pins e.page
  out : ∀ k, (∀ e ∈ es, e.page ≠ k) → pins k = 0 ∧ cont k = List.replicate 512 0
  clen : ∀ k, (cont k).length = 512

theorem sl_get {e : TypeId} {E w : World} {X R A : Fr} {b n cap : Nat} {xs : List Value} (h : Sl e 1 (some ⟨b, 0, none⟩) n cap xs A) (hO : Own E w X) [hp : Pick X A R] (i : Nat) (v : Value) (hi : xs[i]? = some v) : w.cell? ⟨b, i, none⟩ = some v := by
  obtain ⟨hlt, hv⟩ := List.getElem?_eq_some_iff.1 hi
  have := h.cell hO ⟨b, 0, none⟩ rfl i hlt
  rw [add_lit, Nat.zero_add, hv] at this
  exact this
theorem esplit (es : List Ent) (m : Nat) (h : m < es.length) : ∃ pre e post, es = pre ++ e :: post ∧ pre.length = m := by
  refine ⟨es.take m, es[m], es.drop (m + 1), ?_, by rw [List.length_take]; omega⟩
  rw [List.getElem_cons_drop, List.take_append_drop]

set_option maxRecDepth 100000 in
set_option maxHeartbeats 4000000 in
theorem pgFind (E w : World) (X R A : Fr) (g frames : Nat) (es : List Ent) (k : Int) (m : Nat) (hm : m ≤ es.length) (hbe : ∀ i, i < m → ∀ e, es[i]? = some e → (e.page : Int) ≠ k) (hat : ∀ e, es[m]? = some e → (e.page : Int) = k) (hlen : es.length ≤ 4096) (hP : PgAt g frames es A) (hO : Own E w X) [hp : Pick X A R] :
    Calls Try.prog 51 #[.pointer (some ⟨g, 0, none⟩), .int .i64 k] w fun e w' => e = .returned (.int .i64 (if m < es.length then (m : Int) else -1)) ∧ Own E w' (A ++ R) := by
  replace hO := hO.perm hp.perm
  clear hp
  obtain ⟨a1, c1, a2, c2, a3, c3, S1, S2, S3, h1, h2, h3, rfl⟩ := hP
  have hO0 := hO
  have hl1 : (es.length : Int) ≤ 4096 := by omega
  have HB := Lib.hid hbe
  have HA := Lib.hid hat
  clear hO hbe hat
  generalize hn : es.length = n at h1 h2 h3 hO0 hm hlen hl1
  go_enter Try.func51, Try.ntmps51
  go_wp2_with fail
  go_loopw [5] (fun i wr => ∃ j : Nat, i = .int .i64 j ∧ j ≤ m ∧ Own E wr ((pt g (.cells #[.int .i64 frames, .slice a1 n c1, .slice a2 n c2, .slice a3 n c3] 81 (0, 0)) ++ (S1 ++ (S2 ++ (S3 ++ entsF es)))) ++ R)) (fun i _ => n - (intOf i).toNat)
  case atStart => exact ⟨0, rfl, by omega, hO0⟩
  case round =>
    clear hO0
    obtain ⟨j, rfl, hj, hO⟩ := hrel
    ((try simp only [List.nil_append, List.append_nil] at hO); have hF := Own.cells hO; simp only [cellsOf_append, cellsOf_pt] at hF)
    by_cases hjn : j < n
    · have hjn1 : (j : Int) < n := by omega
      have hj0 : (0 : Int) ≤ j := by omega
      obtain ⟨sb, rfl⟩ := sl_some4 h1 (by omega)
      obtain ⟨e, he⟩ : ∃ e, es[j]? = some e := ⟨es[j]'(by omega), List.getElem?_eq_getElem (by omega)⟩
      have hc := sl_get h1 hO j (.int .i64 e.page) (by rw [List.getElem?_map, he]; rfl)
      by_cases hjm : j = m
      · subst hjm
        have hk := HA.out e he
        go_wp2_with fail
        go_ret
        (try rw [if_pos hjn])
        exact ⟨rfl, hO.as _⟩
      · have hk := HB.out j (by omega) e he
        go_wp2_with fail
        go_roundw
        case rel => exact ⟨j + 1, by go_num, by omega, hO⟩
        case measure => simp [intOf]; omega
    · have hjn1 : ¬ (j : Int) < n := by omega
      go_wp2_with fail
      go_ret
      (try rw [if_neg (show ¬ m < n by omega)])
      exact ⟨rfl, hO.as _⟩

def npin (es : List Ent) : Nat := (es.filter (fun e => decide (0 < e.pins))).length
theorem npin_snoc (es : List Ent) (e : Ent) : npin (es ++ [e]) = npin es + if 0 < e.pins then 1 else 0 := by
  unfold npin
  rw [List.filter_append, List.length_append]
  congr 1
  by_cases h : 0 < e.pins <;> simp [h]
theorem npin_le (es : List Ent) : npin es ≤ es.length := List.length_filter_le _ _

set_option maxRecDepth 100000 in
set_option maxHeartbeats 4000000 in
theorem pgPinned (E w : World) (X R A : Fr) (g frames : Nat) (es : List Ent) (hlen : es.length ≤ 4096) (hP : PgAt g frames es A) (hO : Own E w X) [hp : Pick X A R] :
    Calls Try.prog 52 #[.pointer (some ⟨g, 0, none⟩)] w fun e w' => e = .returned (.int .i64 (npin es)) ∧ Own E w' (A ++ R) := by
  replace hO := hO.perm hp.perm
  clear hp
  obtain ⟨a1, c1, a2, c2, a3, c3, S1, S2, S3, h1, h2, h3, rfl⟩ := hP
  have hO0 := hO
  have hl1 : (es.length : Int) ≤ 4096 := by omega
  clear hO
  generalize hn : es.length = n at h1 h2 h3 hO0 hlen hl1
  go_enter Try.func52, Try.ntmps52
  go_wp2_with fail
  go_loopw [3, 4] (fun s i wr => ∃ j : Nat, i = .int .i64 j ∧ s = .int .i64 (npin (es.take j)) ∧ j ≤ n ∧ Own E wr ((pt g (.cells #[.int .i64 frames, .slice a1 n c1, .slice a2 n c2, .slice a3 n c3] 81 (0, 0)) ++ (S1 ++ (S2 ++ (S3 ++ entsF es)))) ++ R)) (fun _ i _ => n - (intOf i).toNat)
  case atStart => exact ⟨0, rfl, rfl, by omega, hO0⟩
  case round =>
    clear hO0
    obtain ⟨j, rfl, rfl, hj, hO⟩ := hrel
    have hnp : (npin (es.take j) : Int) ≤ 4096 := by have := npin_le (es.take j); rw [List.length_take] at this; omega
    ((try simp only [List.nil_append, List.append_nil] at hO); have hF := Own.cells hO; simp only [cellsOf_append, cellsOf_pt] at hF)
    by_cases hjn : j < n
    · have hjn1 : (j : Int) < n := by omega
      have hj0 : (0 : Int) ≤ j := by omega
      obtain ⟨sb, rfl⟩ := sl_some4 h3 (by omega)
      have hjl : j < es.length := by omega
      have hts : es.take (j + 1) = es.take j ++ [es[j]] := List.take_succ_eq_append_getElem hjl
      have hc := sl_get h3 hO j (.int .i64 es[j].pins) (by rw [List.getElem?_map, List.getElem?_eq_getElem hjl]; rfl)
      generalize es[j] = e at hts hc
      have hsn := npin_snoc (es.take j) e
      rw [← hts] at hsn
      clear hts
      by_cases hpp : 0 < e.pins
      · have hpi : (0 : Int) < e.pins := by omega
        rw [if_pos hpp] at hsn
        have HS := Lib.hid hsn
        clear hsn hpp
        go_wp2_with fail
        go_roundw
        case rel =>
          refine ⟨j + 1, by go_num, ?_, by omega, hO⟩
          rw [HS.out]
          rfl
        case measure => simp [intOf]; omega
      · have hpi : ¬ (0 : Int) < e.pins := by omega
        rw [if_neg hpp] at hsn
        have HS := Lib.hid hsn
        clear hsn hpp
        go_wp2_with fail
        go_roundw
        case rel =>
          refine ⟨j + 1, by go_num, ?_, by omega, hO⟩
          rw [HS.out]
          rfl
        case measure => simp [intOf]; omega
    · have hjn1 : ¬ (j : Int) < n := by omega
      go_wp2_with fail
      go_ret
      rw [List.take_of_length_le (by omega)]
      exact ⟨rfl, hO.as _⟩
end Go.Proofs.Ytkkeplobomncgaa
