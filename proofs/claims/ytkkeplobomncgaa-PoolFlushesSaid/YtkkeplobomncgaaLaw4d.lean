/- vestibulelaw04: does: Unpin, Flush, and what is no call. -/
import Derived.Test.YtkkeplobomncgaaLaw4c
set_option linter.all false
namespace Go.Proofs.Ytkkeplobomncgaa
open Go Go.RowKit Go.Own Go.Dk

theorem ent_cases (es : List Ent) (k : Int) : (∃ pre e post, es = pre ++ e :: post ∧ (e.page : Int) = k) ∨ ∀ e ∈ es, (e.page : Int) ≠ k := by
  by_cases h : ∃ e ∈ es, (e.page : Int) = k
  · obtain ⟨f, hf, hk⟩ := h
    obtain ⟨pre, post, rfl⟩ := List.append_of_mem hf
    exact .inl ⟨pre, f, post, rfl, hk⟩
  · exact .inr fun f hf hk => h ⟨f, hf, hk⟩
theorem enodup_mid {pre post : List Ent} {e : Ent} (h : ((pre ++ e :: post).map (·.page)).Nodup) : ∀ g ∈ pre ++ post, g.page ≠ e.page := by
  intro g hg hh
  rw [List.map_append, List.map_cons] at h
  have h2 : ((e.page) :: ((pre.map (·.page)) ++ (post.map (·.page)))).Nodup := (List.perm_middle.nodup_iff).1 h
  rw [List.nodup_cons] at h2
  refine h2.1 ?_
  rw [← List.map_append]
  exact List.mem_map.2 ⟨g, hg, hh⟩
theorem Rel.len {es : List Ent} {cont : Nat → List UInt8} {pins : Nat → Nat} (h : Rel es cont pins) : es.length ≤ 4096 := by
  have := len_sub (L := List.range 4096) h.nodup (fun k hk => by
    obtain ⟨e, he, rfl⟩ := List.mem_map.1 hk
    exact List.mem_range.2 (h.ent e he).1)
  simpa using this
theorem PoolS.mono {p d most N M : Nat} {cont : Nat → List UInt8} {pins : Nat → Nat} {A : Fr} (h : PoolS p d most N cont pins A) (hNM : N ≤ M) : PoolS p d most M cont pins A := by
  obtain ⟨hand, fs, l, rs, P, D, hP, hI, hD, hh, hN, rfl⟩ := h
  exact ⟨hand, fs, l, rs, P, D, hP, hI, hD, hh, by omega, rfl⟩

theorem pgFind_yes (E w : World) (X R A : Fr) (g frames : Nat) (pre post : List Ent) (e : Ent) (hn : ((pre ++ e :: post).map (·.page)).Nodup) (hlen : (pre ++ e :: post).length ≤ 4096) (hP : PgAt g frames (pre ++ e :: post) A) (hO : Own E w X) [hp : Pick X A R] :
    Calls Try.prog 51 #[.pointer (some ⟨g, 0, none⟩), .int .i64 e.page] w fun x w' => x = .returned (.int .i64 pre.length) ∧ Own E w' (A ++ R) := by
  have hne := enodup_mid hn
  have h := pgFind E w X R A g frames (pre ++ e :: post) e.page pre.length (by simp) (fun i hi e' he' h => by
    rw [List.getElem?_append_left hi] at he'
    have := List.mem_of_getElem? he'
    exact hne e' (by simp [this]) (by omega)) (fun e' he' => by simp at he'; rw [he']) hlen hP hO
  rw [if_pos (by simp)] at h
  exact h
theorem pgFind_no (E w : World) (X R A : Fr) (g frames : Nat) (es : List Ent) (k : Int) (hk : ∀ e ∈ es, (e.page : Int) ≠ k) (hlen : es.length ≤ 4096) (hP : PgAt g frames es A) (hO : Own E w X) [hp : Pick X A R] :
    Calls Try.prog 51 #[.pointer (some ⟨g, 0, none⟩), .int .i64 k] w fun x w' => x = .returned (.int .i64 (-1)) ∧ Own E w' (A ++ R) := by
  have h := pgFind E w X R A g frames es k es.length (Nat.le_refl _) (fun i hi e' he' => hk e' (List.mem_of_getElem? he')) (fun e' he' => by simp at he') hlen hP hO
  rw [if_neg (by omega)] at h
  exact h

/-- Entries are exchanged. -/
theorem Rel.set {pre post : List Ent} {e e' : Ent} {cont : Nat → List UInt8} {pins : Nat → Nat} (h : Rel (pre ++ e :: post) cont pins) (hp : e'.page = e.page) (hl : e'.bytes.length = 512) : Rel (pre ++ e' :: post) (upd cont e.page e'.bytes) (upd pins e.page e'.pins) := by
  have hne := enodup_mid h.nodup
  have hmem : ∀ g, g ∈ pre ++ e' :: post ↔ g = e' ∨ g ∈ pre ++ post := by intro g; simp; exact ⟨by rintro (h | h | h) <;> simp [h], by rintro (h | h | h) <;> simp [h]⟩
  have hmem0 : ∀ g, g ∈ pre ++ e :: post ↔ g = e ∨ g ∈ pre ++ post := by intro g; simp; exact ⟨by rintro (h | h | h) <;> simp [h], by rintro (h | h | h) <;> simp [h]⟩
  refine ⟨?_, ?_, ?_, ?_⟩
  · have := h.nodup
    rw [List.map_append, List.map_cons] at this ⊢
    rw [hp]
    exact this
  · intro g hg
    rcases (hmem g).1 hg with rfl | hg
    · rw [hp, upd_same, upd_same]
      exact ⟨(h.ent e (by simp)).1, rfl, rfl⟩
    · rw [upd_ne _ _ _ _ (hne g hg), upd_ne _ _ _ _ (hne g hg)]
      exact h.ent g ((hmem0 g).2 (.inr hg))
  · intro k hk
    have hkp : k ≠ e.page := fun h' => hk e' ((hmem e').2 (.inl rfl)) (by rw [hp, h'])
    rw [upd_ne _ _ _ _ hkp, upd_ne _ _ _ _ hkp]
    refine h.out k fun g hg => ?_
    rcases (hmem0 g).1 hg with rfl | hg
    · exact fun h' => hkp h'.symm
    · exact hk g ((hmem g).2 (.inr hg))
  · intro k
    simp only [upd]
    split
    · exact hl
    · exact h.clen k

theorem sl_open {e : TypeId} {sz b n cap : Nat} {xs : List Value} {A : Fr} (h : Sl e sz (some ⟨b, 0, none⟩) n cap xs A) : ∃ rest, A = pt b (.cells (xs ++ rest).toArray e (0, 0)) := by
  obtain ⟨_, _, _, h | ⟨b', rest, hb, _, rfl⟩⟩ := h
  · cases h.1
  · cases hb
    exact ⟨rest, rfl⟩
theorem sl_set {e : TypeId} {b n cap : Nat} {xs rest : List Value} (h : Sl e 1 (some ⟨b, 0, none⟩) n cap xs (pt b (.cells (xs ++ rest).toArray e (0, 0)))) (i : Nat) (hi : i < xs.length) (v : Value) :
    Sl e 1 (some ⟨b, 0, none⟩) n cap (xs.set i v) (pt b (.cells ((xs ++ rest).toArray.setIfInBounds i v) e (0, 0))) := by
  obtain ⟨h1, h2, h3, h | ⟨b', rest', hb, hl, hh⟩⟩ := h
  · cases h.1
  · cases hb
    have he : xs ++ rest = xs ++ rest' := by
      simp only [pt, List.cons.injEq, Prod.mk.injEq, Obj.cells.injEq, true_and, and_true] at hh
      have := congrArg Array.toList hh
      simpa using this
    have he' := List.append_cancel_left he
    subst he'
    refine ⟨by simpa using h1, h2, h3, .inr ⟨b, rest, rfl, by simpa using hl, ?_⟩⟩
    rw [List.setIfInBounds_toArray, List.set_append_left _ _ hi]
theorem map_set_mid {α : Type} (f : α → Value) (pre post : List α) (e e' : α) (v : Value) (h : f e' = v) : ((pre ++ e :: post).map f).set pre.length v = (pre ++ e' :: post).map f := by
  rw [List.map_append, List.map_cons, List.map_append, List.map_cons, List.set_append_right _ _ (by simp), List.length_map, Nat.sub_self, List.set_cons_zero, h]

theorem pg_same {pre post : List Ent} {e e' : Ent} (hp : e'.page = e.page) (hb : e'.bb = e.bb) : (pre ++ e' :: post).map ePage = (pre ++ e :: post).map ePage ∧ (pre ++ e' :: post).map entB = (pre ++ e :: post).map entB ∧ (pre ++ e' :: post).length = (pre ++ e :: post).length := by
  simp [ePage, entB, hp, hb]
theorem row_mid {α : Type} (f : α → Value) (pre post : List α) (e : α) (rest : List Value) : ((pre ++ e :: post).map f ++ rest).toArray[pre.length]? = some (f e) := by
  rw [List.getElem?_toArray, List.getElem?_append_left (by simp), List.getElem?_map, List.getElem?_append_right (Nat.le_refl _), Nat.sub_self]
  rfl
def DoesPost (E : World) (p d g most N B : Nat) (R : Fr) (e : Ending) (w' : World) : Prop :=
  e = .returned (.bool true) ∧ ∃ A' G' es' cont' pins', PoolS p d most (N + 1) cont' pins' A' ∧ PgAt g most es' G' ∧ Rel es' cont' pins' ∧ (∀ k, pins' k ≤ B + 1) ∧ Own E w' (A' ++ (G' ++ R))
def opV (k p a : Int) (t : ByteArray) : Value := .agg #[.int .i64 k, .int .i64 p, .int .i64 a, .string t]

set_option maxRecDepth 100000 in
set_option maxHeartbeats 4000000 in
theorem does_other (E w : World) (X R A G : Fr) (p d g most N B : Nat) (es : List Ent) (cont : Nat → List UInt8) (pins : Nat → Nat) (kind page at_ : Int) (t : ByteArray) (hS : PoolS p d most N cont pins A) (hG : PgAt g most es G) (hR : Rel es cont pins) (hB : ∀ k, pins k ≤ B)
    (h1 : kind ≠ 1) (h2 : kind ≠ 2) (h3 : kind ≠ 3) (h4 : kind ≠ 4) (hO : Own E w X) [hp : Pick X (A ++ G) R] :
    Calls Try.prog 41 #[.pointer (some ⟨g, 0, none⟩), .pointer (some ⟨p, 0, none⟩), opV kind page at_ t] w (DoesPost E p d g most N B R) := by
  replace hO := hO.perm hp.perm
  clear hp
  have hlen := hR.len
  unfold opV
  rcases ent_cases es page with ⟨pre, e, post, rfl, rfl⟩ | hk
  · go_enter Try.func41, Try.ntmps41
    go_wp2_with (refine at_box ?_; go_must (refine own_box (v := ?_) hO ?_ ?_ ?_; rotate_left; (· rfl); (· ((conv => lhs; whnf); try exact rfl)); clear hO; (try clear hF); intro ob _ hO; (try simp only [Value.cells] at hO); ((try simp only [List.nil_append, List.append_nil] at hO); have hF := Own.cells hO; simp only [cellsOf_append, cellsOf_pt] at hF); simp only [Act.put, List.setIfInBounds_toArray, List.set_cons_zero, List.set_cons_succ]))
    refine (pgFind_yes E _ _ _ G g most pre post e hR.nodup hlen hG hO).mono ?_; rintro x w1 ⟨rfl, hO⟩
    clear hF
    ((try simp only [List.nil_append, List.append_nil] at hO); have hF := Own.cells hO; simp only [cellsOf_append, cellsOf_pt] at hF)
    go_wp2_with fail
    go_ret
    exact ⟨rfl, A, G, _, cont, pins, hS.mono (by omega), hG, hR, fun k => by have := hB k; omega, hO.as _⟩
  · rcases (show page < 0 ∨ 0 ≤ page by omega) with hp0 | hp0
    all_goals (
      go_enter Try.func41, Try.ntmps41
      go_wp2_with (refine at_box ?_; go_must (refine own_box (v := ?_) hO ?_ ?_ ?_; rotate_left; (· rfl); (· ((conv => lhs; whnf); try exact rfl)); clear hO; (try clear hF); intro ob _ hO; (try simp only [Value.cells] at hO); ((try simp only [List.nil_append, List.append_nil] at hO); have hF := Own.cells hO; simp only [cellsOf_append, cellsOf_pt] at hF); simp only [Act.put, List.setIfInBounds_toArray, List.set_cons_zero, List.set_cons_succ]))
      refine (pgFind_no E _ _ _ G g most es page hk hlen hG hO).mono ?_; rintro x w1 ⟨rfl, hO⟩
      clear hF
      ((try simp only [List.nil_append, List.append_nil] at hO); have hF := Own.cells hO; simp only [cellsOf_append, cellsOf_pt] at hF)
      go_wp2_with fail
      go_ret
      exact ⟨rfl, A, G, _, cont, pins, hS.mono (by omega), hG, hR, fun k => by have := hB k; omega, hO.as _⟩)

set_option maxRecDepth 100000 in
set_option maxHeartbeats 4000000 in
theorem does_flush (E w : World) (X R A G : Fr) (p d g most N B : Nat) (es : List Ent) (cont : Nat → List UInt8) (pins : Nat → Nat) (page at_ : Int) (t : ByteArray) (hS : PoolS p d most N cont pins A) (hG : PgAt g most es G) (hR : Rel es cont pins) (hB : ∀ k, pins k ≤ B) (hBB : B < 281474976710655)
    (hm : 0 < most) (hm2 : most ≤ 1024) (hNN : N ≤ 8796093022208) (ht : t.size ≤ maxLen) (hO : Own E w X) [hp : Pick X (A ++ G) R] :
    Calls Try.prog 41 #[.pointer (some ⟨g, 0, none⟩), .pointer (some ⟨p, 0, none⟩), opV 4 page at_ t] w (DoesPost E p d g most N B R) := by
  replace hO := hO.perm hp.perm
  clear hp
  have hlen := hR.len
  unfold opV
  rcases ent_cases es page with ⟨pre, e, post, rfl, rfl⟩ | hk
  · go_enter Try.func41, Try.ntmps41
    go_wp2_with (refine at_box ?_; go_must (refine own_box (v := ?_) hO ?_ ?_ ?_; rotate_left; (· rfl); (· ((conv => lhs; whnf); try exact rfl)); clear hO; (try clear hF); intro ob _ hO; (try simp only [Value.cells] at hO); ((try simp only [List.nil_append, List.append_nil] at hO); have hF := Own.cells hO; simp only [cellsOf_append, cellsOf_pt] at hF); simp only [Act.put, List.setIfInBounds_toArray, List.set_cons_zero, List.set_cons_succ]))
    refine (pgFind_yes E _ _ _ G g most pre post e hR.nodup hlen hG hO).mono ?_; rintro x w1 ⟨rfl, hO⟩
    clear hF
    ((try simp only [List.nil_append, List.append_nil] at hO); have hF := Own.cells hO; simp only [cellsOf_append, cellsOf_pt] at hF)
    go_wp2_with fail
    refine (pFlush E _ _ _ A p d most N cont pins hS hm hm2 hNN hO).mono ?_; rintro x w2 ⟨rfl, hand, fs, l, rs, P, D, hP, hI, hD, hh, hN, _, hO⟩
    go_wp2_with fail
    go_ret
    exact ⟨rfl, P ++ D, G, _, cont, pins, (show PoolS p d most N cont pins (P ++ D) from ⟨hand, fs, l, rs, P, D, hP, hI, hD, hh, hN, rfl⟩).mono (by omega), hG, hR, fun k => by have := hB k; omega, hO.as _⟩
  · rcases (show page < 0 ∨ 0 ≤ page by omega) with hp0 | hp0
    all_goals (
      go_enter Try.func41, Try.ntmps41
      go_wp2_with (refine at_box ?_; go_must (refine own_box (v := ?_) hO ?_ ?_ ?_; rotate_left; (· rfl); (· ((conv => lhs; whnf); try exact rfl)); clear hO; (try clear hF); intro ob _ hO; (try simp only [Value.cells] at hO); ((try simp only [List.nil_append, List.append_nil] at hO); have hF := Own.cells hO; simp only [cellsOf_append, cellsOf_pt] at hF); simp only [Act.put, List.setIfInBounds_toArray, List.set_cons_zero, List.set_cons_succ]))
      refine (pgFind_no E _ _ _ G g most es page hk hlen hG hO).mono ?_; rintro x w1 ⟨rfl, hO⟩
      clear hF
      ((try simp only [List.nil_append, List.append_nil] at hO); have hF := Own.cells hO; simp only [cellsOf_append, cellsOf_pt] at hF)
      go_wp2_with fail
      refine (pFlush E _ _ _ A p d most N cont pins hS hm hm2 hNN hO).mono ?_; rintro x w2 ⟨rfl, hand, fs, l, rs, P, D, hP, hI, hD, hh, hN, _, hO⟩
      go_wp2_with fail
      go_ret
      exact ⟨rfl, P ++ D, G, _, cont, pins, (show PoolS p d most N cont pins (P ++ D) from ⟨hand, fs, l, rs, P, D, hP, hI, hD, hh, hN, rfl⟩).mono (by omega), hG, hR, fun k => by have := hB k; omega, hO.as _⟩)

end Go.Proofs.Ytkkeplobomncgaa
