/- Space: what the log's records make of the pages; a record is appended. -/
import Derived.Test.YtkfkcloefgfkaaaGreatK5
set_option linter.all false
/- Space: what the log's records make of the pages; a record is appended. -/
namespace Go.Dk
open Go.Own Go.RowKit

abbrev Es := List (Nat × List UInt8)
def repl (c : Nat → List UInt8) (recs : List Es) : Nat → List UInt8 := recs.foldl appE c
theorem repl_snoc (c : Nat → List UInt8) (recs : List Es) (es : Es) : repl c (recs ++ [es]) = appE (repl c recs) es := by simp [repl]
theorem appE_cons (c : Nat → List UInt8) (e : Nat × List UInt8) (es : Es) : appE c (e :: es) = appE (upd c e.1 e.2) es := rfl
theorem appE_pt : ∀ {es : Es} {c c2 : Nat → List UInt8} {k : Nat}, c k = c2 k → appE c es k = appE c2 es k
  | [], _, _, _, h => h
  | e :: es, c, c2, k, h => by
    rw [appE_cons, appE_cons]
    refine appE_pt ?_
    by_cases hk : k = e.1
    · subst hk; rw [upd_same, upd_same]
    · rw [upd_ne _ _ _ _ hk, upd_ne _ _ _ _ hk, h]
theorem appE_out : ∀ {es : Es} {c : Nat → List UInt8} {k : Nat}, (∀ e ∈ es, e.1 ≠ k) → appE c es k = c k
  | [], _, _, _ => rfl
  | e :: es, c, k, h => by
    rw [appE_cons, appE_out fun x hx => h x (List.mem_cons_of_mem _ hx), upd_ne _ _ _ _ (fun e' => h e (by simp) e'.symm)]
theorem appE_in : ∀ {es : Es} {c c2 : Nat → List UInt8} {k : Nat}, (∃ e ∈ es, e.1 = k) → appE c es k = appE c2 es k
  | [], _, _, _, h => by obtain ⟨e, he, _⟩ := h; cases he
  | e :: es, c, c2, k, h => by
    rw [appE_cons, appE_cons]
    by_cases hk : k = e.1
    · subst hk
      exact appE_pt (by rw [upd_same, upd_same])
    · obtain ⟨e', he, hek⟩ := h
      rcases List.mem_cons.1 he with rfl | he
      · exact absurd hek.symm hk
      · exact appE_in ⟨e', he, hek⟩
theorem repl_pt : ∀ {recs : List Es} {c c2 : Nat → List UInt8} {k : Nat}, c k = c2 k → repl c recs k = repl c2 recs k
  | [], _, _, _, h => h
  | es :: recs, c, c2, k, h => by
    show repl (appE c es) recs k = repl (appE c2 es) recs k
    exact repl_pt (appE_pt h)
/-- The records, laid over file 1, give the pages. -/
structure SpI (recs : List Es) (J : Nat → Prop) (cont : Nat → List UInt8) : Prop where
  ok : ∀ es ∈ recs, EsOk es ∧ es ≠ [] ∧ es.length ≤ 2032 ∧ ∀ e ∈ es, J e.1
  rp : ∀ c', (∀ k, k < 4096 → ¬ J k → c' k = cont k) → ∀ k, k < 4096 → repl c' recs k = cont k
theorem SpI.nil (cont : Nat → List UInt8) : SpI [] (fun _ => False) cont := ⟨by simp, fun c' h k hk => h k hk (fun h => h)⟩
theorem SpI.snoc {recs : List Es} {J : Nat → Prop} {cont : Nat → List UInt8} (h : SpI recs J cont) {es : Es} (h1 : EsOk es) (h2 : es ≠ []) (h3 : es.length ≤ 2032) : SpI (recs ++ [es]) (fun k => J k ∨ ∃ e ∈ es, e.1 = k) (appE cont es) := by
  refine ⟨fun x hx => ?_, fun c' hc k hk => ?_⟩
  · rcases List.mem_append.1 hx with hx | hx
    · obtain ⟨a, b, c, d⟩ := h.ok x hx
      exact ⟨a, b, c, fun e he => .inl (d e he)⟩
    · rw [List.mem_singleton] at hx
      subst hx
      exact ⟨h1, h2, h3, fun e he => .inr ⟨e, he, rfl⟩⟩
  · rw [repl_snoc]
    by_cases hin : ∃ e ∈ es, e.1 = k
    · exact appE_in hin
    · have hout : ∀ e ∈ es, e.1 ≠ k := fun e he e' => hin ⟨e, he, e'⟩
      rw [appE_out hout, appE_out hout]
      have := h.rp (fun j => if (∃ e ∈ es, e.1 = j) then cont j else c' j) (fun j hj hn => by
        split
        · rfl
        · rename_i hx
          rw [hc j hj (by rintro (h | h); exact hn h; exact hx h)]
          exact appE_out fun e he e' => hx ⟨e, he, e'⟩) k hk
      rw [← this]
      exact repl_pt (by (try dsimp only); rw [if_neg hin])
theorem SpI.recs {recs : List Es} {J : Nat → Prop} {cont : Nat → List UInt8} (h : SpI recs J cont) : Recs (recs.map recOf) := by
  intro s hs
  obtain ⟨es, he, rfl⟩ := List.mem_map.1 hs
  obtain ⟨h1, h2, h3, _⟩ := h.ok es he
  have h4 := List.length_pos_iff.2 h2
  rw [recOf_size h1]
  omega
theorem SpI.mono {recs : List Es} {J : Nat → Prop} {cont cont2 : Nat → List UInt8} (h : SpI recs J cont) (hc : ∀ k, k < 4096 → cont k = cont2 k) : SpI recs J cont2 :=
  ⟨h.ok, fun c' h1 k hk => (h.rp c' (fun j hj hn => (h1 j hj hn).trans (hc j hj).symm) k hk).trans (hc k hk)⟩
theorem apR_1 (rs : List Raw) (recs : List ByteArray) (t : ByteArray) : play (apR rs recs t) 1 = play rs 1 := by
  unfold apR
  split
  · rw [show rs ++ [Raw.put 0 ((encs recs).length + 4) t, .put 0 (encs recs).length (hdB t.size)] = (rs ++ [Raw.put 0 ((encs recs).length + 4) t]) ++ [.put 0 (encs recs).length (hdB t.size)] by simp]
    rw [play_snoc, play_snoc]
    simp only [Raw.app]
    rw [upd_ne _ _ _ _ (by decide), upd_ne _ _ _ _ (by decide)]
  · rfl
theorem apR_len (rs : List Raw) (recs : List ByteArray) (t : ByteArray) : (apR rs recs t).length ≤ rs.length + 2 := by
  unfold apR
  split <;> simp
end Go.Dk
namespace Go.Proofs.YtkfkcloefgfkaaaGreat
open Go Go.RowKit Go.Own Go.Dk

theorem PoolS.mono {J : Nat → Prop} {F0 : List UInt8} {p d most N : Nat} {cont : Nat → List UInt8} {pins : Nat → Nat} {A : Fr} (h : PoolS J F0 p d most N cont pins A) {J' : Nat → Prop} {N' : Nat} (hJ : ∀ k, J k → J' k) (hN : N ≤ N') : PoolS J' F0 p d most N' cont pins A := by
  obtain ⟨hand, fs, l, rs, P, D, hP, hI, hD, hh, hNN, hj, rfl⟩ := h
  exact ⟨hand, fs, l, rs, P, D, hP, hI, hD, hh, by omega, ⟨hj.1, fun k hk hn => hj.2 k hk fun h => hn (hJ k h)⟩, rfl⟩
theorem poolAppend {J : Nat → Prop} (E w : World) (X R PA : Fr) (l p d most N : Nat) (cont : Nat → List UInt8) (recs : List ByteArray) (t : ByteArray) (ht : t.size ≤ maxLen) (hS : PoolS J (encs recs) p d most N cont (fun _ => 0) PA) (hN : N ≤ 8796093022200) (hO : Own E w X) [hp : Pick X (logF l d recs ++ PA) R] :
    Calls Tryz.prog 54 #[.pointer (some ⟨l, 0, none⟩), .string t] w fun e w' => e = .returned (.int .i64 (apE recs t)) ∧ ∃ PA', PoolS J (encs (apL recs t)) p d most (N + 2) cont (fun _ => 0) PA' ∧ Own E w' (logF l d (apL recs t) ++ (PA' ++ R)) := by
  replace hO := hO.perm hp.perm
  clear hp
  obtain ⟨hand, fs, ml, rs, P, D, hP, hI, hD, hh, hNN, hj, rfl⟩ := hS
  refine (lAppend E _ _ _ D l d recs t rs hD hj.1 (by omega) ht hO).mono ?_
  rintro e w2 ⟨rfl, D', hD', hO⟩
  have h2 := apR_len rs recs t
  refine ⟨rfl, P ++ D', ⟨hand, fs, ml, _, P, D', hP, by rw [apR_1]; exact hI, hD', hh, by omega, ⟨play_ap hj.1 t, fun k hk hn => by rw [apR_1]; exact hj.2 k hk hn⟩, rfl⟩, hO.as _⟩
end Go.Proofs.YtkfkcloefgfkaaaGreat
