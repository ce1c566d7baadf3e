/- Layer 7: HeapNobody. -/
import Derived.Test.YtkfkcloefgfkaaaK11
import Derived.Test.YtkfkcloefgfkaaaK2
import Derived.Deep.Slices
import Derived.Deep.Fields
import Derived.ChangeSame
import Derived.SizedLaws
set_option linter.all false
/- Layer 7: HeapNobody. -/
namespace Go.Proofs.Ytkfkcloefgfkaaa
open Go Go.RowKit Go.Own Go.Dk

theorem newNil (k : Int) (w : World) : Calls Try.prog 35 #[.pointer none, .int .i64 k] w fun e w' => e = .returned (.tuple #[.pointer none, .int .i64 1]) ∧ w = w' := by
  go_enter Try.func35, Try.ntmps35
  go_wp2_with fail
  refine (xRoot _ 1 k _ (.inl ⟨rfl, .inl rfl⟩)).mono ?_
  rintro e w1 ⟨rfl, rfl⟩
  go_wp2_with fail
  go_ret2
  exact ⟨rfl, rfl⟩
theorem newNo (E w : World) (X R A : Fr) (s d a N : Nat) (st0 st : SSt) (k : Int) (hk : ¬ (0 ≤ k ∧ k < 16)) (hA : Going s d a N st0 st A) (hN : N ≤ 8796000000000) (hO : Own E w X) [hp : Pick X A R] :
    Calls Try.prog 35 #[.pointer (some ⟨a, 0, none⟩), .int .i64 k] w fun e w' => e = .returned (.tuple #[.pointer none, .int .i64 1]) ∧ ∃ A', Going s d a N st0 st A' ∧ Own E w' (A' ++ R) := by
  replace hO := hO.perm hp.perm
  go_enter Try.func35, Try.ntmps35
  go_wp2_with fail
  refine (gRoot_no E _ _ _ A s d a N st0 st k hk hA hN hO).mono ?_
  clear hO hA
  rintro e w1 ⟨rfl, A, hA, hO⟩
  go_wp2_with fail
  go_ret2
  exact ⟨rfl, A, hA, hO.as _⟩
theorem sltHeaps : SlT Try.prog 96 77 1 8 (.pointer none) := ⟨by kernel_rfl, by kernel_rfl, rfl⟩
def nobF (bs bh : Nat) : Fr := pt bs (.cells #[.pointer none, .pointer (some ⟨bh, 0, none⟩)] 77 (0, 0)) ++ pt bh (.cells #[.pointer none, .int .i64 0] 95 (0, 0))
theorem nob_dead (E : World) (bs bh : Nat) (X : Fr) : DeadX E (nobF bs bh ++ X) (.pointer (some ⟨bh, 0, none⟩)) 1 := by
  refine DeadX.mk (va := .pointer none) (root := 0) (R := pt bs (.cells #[.pointer none, .pointer (some ⟨bh, 0, none⟩)] 77 (0, 0)) ++ X) ?_ (.inl rfl) (fun w Y _ => .inl ⟨rfl, .inl rfl⟩)
  unfold nobF
  rw [← List.append_assoc]
  exact List.Perm.append_right _ List.perm_append_comm
set_option maxRecDepth 100000 in
set_option maxHeartbeats 16000000 in
theorem heapNobody (E w : World) (X : Fr) (n : Int) (t : ByteArray) (hO : Own E w X) :
    Calls Try.prog 8 #[.int .i64 n, .string t] w fun e w' => e = .returned (.bool true) ∧ Own E w' X := by
  go_enter Try.func8, Try.ntmps8
  go_wp2_with fail
  refine (newNil 3 _).mono ?_
  rintro e w1 ⟨rfl, rfl⟩
  go_wp2_with fail
  refine (beg7 E _ _ hO).mono ?_
  clear hO
  rintro e w2 ⟨s, d, a, A, rfl, hA, hO⟩
  go_wp2_with fail
  have hnew : Calls Try.prog 35 #[.pointer (some ⟨a, 0, none⟩), .int .i64 n] w2 fun e w' => ∃ (v : Value) (x : Int), e = .returned (.tuple #[v, .int .i64 x]) ∧ ((0 ≤ n ∧ n < 16 ∧ x = 0 ∧ ∃ h : Nat, v = .pointer (some ⟨h, 0, none⟩)) ∨ (¬ (0 ≤ n ∧ n < 16) ∧ x = 1 ∧ v = .pointer none)) ∧ Own E w' X := by
    by_cases hn : 0 ≤ n ∧ n < 16
    · obtain ⟨k, rfl⟩ : ∃ k : Nat, n = k := ⟨n.toNat, by omega⟩
      refine (hNew E _ _ _ A s d a _ st00 st00 k (by omega) hA (by decide) hO).mono ?_
      rintro e w3 ⟨h, A, rfl, hA, hO⟩
      exact ⟨_, _, rfl, .inl ⟨hn.1, hn.2, rfl, h, rfl⟩, hO.as _⟩
    · refine (newNo E _ _ _ A s d a _ st00 st00 n hn hA (by decide) hO).mono ?_
      rintro e w3 ⟨rfl, A, hA, hO⟩
      exact ⟨_, _, rfl, .inr ⟨hn, rfl, rfl⟩, hO.as _⟩
  refine hnew.mono ?_
  clear hnew hO hA
  rintro e w3 ⟨v, x, rfl, hx, hO⟩
  have hO1 := hO
  have hx2 : (v = .pointer none ∧ x = 1 ∧ (¬ 0 ≤ n ∨ (0 ≤ n ∧ ¬ n < 16))) ∨ (∃ h : Nat, v = .pointer (some ⟨h, 0, none⟩) ∧ x = 0 ∧ 0 ≤ n ∧ n < 16) := by
    rcases hx with ⟨h1, h2, rfl, h, rfl⟩ | ⟨hn, rfl, rfl⟩
    · exact .inr ⟨h, rfl, rfl, h1, h2⟩
    · refine .inl ⟨rfl, rfl, ?_⟩
      by_cases h : 0 ≤ n
      · exact .inr ⟨h, fun h2 => hn ⟨h, h2⟩⟩
      · exact .inl h
  clear hx
  rcases hx2 with ⟨rfl, rfl, h1 | ⟨h1, h2⟩⟩ | ⟨h, rfl, rfl, h1, h2⟩
  all_goals (
    go_wp2_with (first | (refine at_box ?_; go_must (refine own_box (v := ?_) hO ?_ ?_ ?_; rotate_left; (· rfl); (· ((conv => lhs; whnf); try exact rfl)); clear hO; (try clear hF); intro bh _ hO; (try simp only [Value.cells] at hO); ((try simp only [List.nil_append, List.append_nil] at hO); have hF := Own.cells hO; simp only [cellsOf_append, cellsOf_pt] at hF); simp only [Act.put, List.setIfInBounds_toArray, List.set_cons_zero, List.set_cons_succ])) | (refine at_bs ?_; go_must (refine own_buildN (cells := ?_) sltHeaps hO ?_ ?_ ?_ ?_ ?_ ?_; rotate_left; (· rfl); (· decide); (· decide); (· rfl); (· simp [Instr.fill, Act.eval, Value.cells, Array.replicate_succ]; exact rfl); clear hO; (try clear hF); intro bs _ hO; ((try simp only [List.nil_append, List.append_nil] at hO); have hF := Own.cells hO; simp only [cellsOf_append, cellsOf_pt] at hF); simp only [Act.put, List.setIfInBounds_toArray, List.set_cons_zero, List.set_cons_succ])))
    replace hO := hO.as ((pt bs (.cells #[.pointer none, .pointer (some ⟨bh, 0, none⟩)] 77 (0, 0)) ++ pt bh (.cells #[.pointer none, .int .i64 0] 95 (0, 0))) ++ X)
    have hO1 : Own E _ (nobF bs bh ++ X) := hO
    clear hO hF
    go_loopw [14] (fun i wr => ∃ k : Nat, i = .int .i64 k ∧ k ≤ 2 ∧ Own E wr (nobF bs bh ++ X)) (fun i _ => 2 - (intOf i).toNat)
    case atStart => exact ⟨0, rfl, by decide, hO1⟩
    case round =>
      clear hO1
      obtain ⟨k, rfl, hk, hO⟩ := hrel
      by_cases hlt : k < 2
      · have hdead : ∃ (v : Value), DeadX E (nobF bs bh ++ X) v 1 ∧ wr.cell? ⟨bs, k, none⟩ = some v := by
          have hO2 := hO
          unfold nobF at hO2
          rw [List.append_assoc] at hO2
          match k, hlt with
          | 0, _ => exact ⟨.pointer none, DeadX.nil _ _, by rw [hO2.cell (b := bs)]; rfl⟩
          | 1, _ => exact ⟨.pointer (some ⟨bh, 0, none⟩), nob_dead E bs bh X, by rw [hO2.cell (b := bs)]; rfl⟩
        obtain ⟨v, hdd, hcell⟩ := hdead
        have g1 : (k : Int) < 2 := by omega
        have g2 : (0 : Int) ≤ k := by omega
        have HK := Lib.hid hlt
        clear hlt hk
        go_wp2_with (first
          | (go_at_call 36; go_must (refine (xhInsert E _ _ _ 1 _ hO hdd).mono ?_; clear hO; rintro e w5 ⟨rfl, hO⟩))
          | (go_at_call 39; go_must (refine (xhGet E _ _ _ 1 _ hO hdd).mono ?_; clear hO; rintro e w5 ⟨rfl, hO⟩))
          | (go_at_call 37; go_must (refine (xhKill E _ _ _ 1 _ hO hdd).mono ?_; clear hO; rintro e w5 ⟨rfl, hO⟩))
          | (go_at_call 38; go_must (refine (xhFree E _ _ _ 1 _ hO hdd).mono ?_; clear hO; rintro e w5 ⟨rfl, hO⟩))
          | (go_at_call 40; go_must (refine (xhTids E _ _ _ 1 hO hdd).mono ?_; clear hO; rintro e w5 ⟨rfl, hO⟩))
          | (go_at_call 44; go_must (refine (xhDead E _ _ _ 1 hO hdd).mono ?_; clear hO; rintro e w5 ⟨rfl, hO⟩))
          | (go_at_call 45; go_must (refine (xhPages E _ _ _ 1 hO hdd).mono ?_; clear hO; rintro e w5 ⟨rfl, hO⟩)))
        have hk3 := HK.out
        go_roundw
        case rel => exact ⟨k + 1, by go_num, by omega, hO⟩
        case measure => simp [intOf]; omega
      · obtain rfl : k = 2 := by omega
        go_wp2_with fail
        refine (awake7 E _ _ hO).mono ?_
        clear hO
        rintro e w5 ⟨rfl, hO⟩
        go_wp2_with fail
        go_ret
        exact ⟨rfl, hO.as _⟩)
end Go.Proofs.Ytkfkcloefgfkaaa

/- Arguments opened: a slice of structs as rows of cells; a list of what each row says. -/
namespace Go.Own
open Go.RowKit Go.ChangeShapes Go.WideShapes Go.Deep

theorem exists_list {α : Type} [Inhabited α] {P : Nat → α → Prop} : ∀ {n : Nat}, (∀ i, i < n → ∃ o, P i o) → ∃ L : List α, L.length = n ∧ ∀ i (h : i < L.length), P i L[i]
  | n, hp => by
    refine ⟨(List.range n).map fun i => if h : i < n then Classical.choose (hp i h) else default, by simp, ?_⟩
    intro i h
    have hi : i < n := by simpa using h
    simp only [List.getElem_map, List.getElem_range, hi, dite_true]
    exact Classical.choose_spec (hp i hi)

section
variable {H : Type} {enc : TypeId × Value → H} {P : Program} {w : World} {base : Nat} {spare : Nat → Bool} {held : Bool}
/-- A slice of structs of one-cell fields: each element a row of cells of the world, each field's cell read as data. -/
theorem open_rows {t e : TypeId} {fs : Array Field} {fuel : Nat} {v : Value} {x : DataW H × List MemPlace} (ht : P.underlying t = some (.slice e)) (he : P.underlying e = some (.struct fs))
    (hone : oneCellFields P fs = true) (hC : P.cellsOf e = fs.size) (h : DataW.trod enc P w base spare held fuel t [v] = some x) :
    ∃ (sa : Option Addr) (len cap : Nat), v = .slice sa len cap ∧ len ≤ cap ∧ cap ≤ maxLen ∧ (sa = none → len = 0 ∧ cap = 0) ∧ (len = 0 ∨ ∃ es sp, x.1 = .slice es sp ∧ es.length = len) ∧
      ∀ i, i < len → ∃ ad vs, sa = some ad ∧ vs.length = fs.size ∧ RowAt w (ad.add (i * fs.size)) vs ∧ ∃ n, ∀ (j : Nat) (f : Field), fs[j]? = some f → ∃ u y, vs[j]? = some u ∧ DataW.trod enc P w base spare held n f.type [u] = some y := by
  rcases open_slice ht h with ⟨h0, hx⟩ | ⟨a, len, cap, m, n, D, Pl, hcs, hb, hl, hm, hmm, hx, hi⟩
  · refine ⟨none, 0, 0, by simpa using h0, by omega, by simp [maxLen], fun _ => ⟨rfl, rfl⟩, .inl rfl, fun i hi => absurd hi (by omega)⟩
  · refine ⟨some a, len, cap, by simpa using hcs, hl, hm, by simp, .inr ⟨_, _, by rw [hx], by simp⟩, fun i him => ?_⟩
    have hlm : len ≤ m := by rw [hmm]; split <;> omega
    obtain ⟨cs', hc, ht'⟩ := hi i (by omega)
    rw [hC] at hc
    obtain ⟨ys, n', _, _, _, hyl, hf⟩ := DataW.trod_struct he ht'
    obtain ⟨_, hcl, hat⟩ := World.cells?_some hc
    refine ⟨a, cs', rfl, hcl, ?_, n', ?_⟩
    · intro j u hj
      have hjl : j < cs'.length := (List.getElem?_eq_some_iff.1 hj).1
      rw [hat j (by omega), hj]
    · intro j f hj
      obtain ⟨ho, hk⟩ := hone_of hone j f hj
      have hjl : j < fs.size := (Array.getElem?_eq_some_iff.1 hj).1
      have h1 := hf j f hj
      rw [ho, hk] at h1
      have h2 : (cs'.drop j).take 1 = [cs'[j]'(by omega)] := by
        rw [List.drop_eq_getElem_cons (by omega)]
        rfl
      rw [h2, List.getElem?_eq_getElem (by omega)] at h1
      exact ⟨_, _, List.getElem?_eq_getElem (by omega), h1⟩
end
end Go.Own
