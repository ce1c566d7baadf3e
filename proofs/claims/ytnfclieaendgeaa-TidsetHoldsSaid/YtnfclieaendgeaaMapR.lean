/- Maps keyed by ints: ranging over one that stays as it is. -/
import Derived.Test.YtnfclieaendgeaaMap
set_option linter.all false
namespace Go.Own
open Go Go.RowKit Go.ChangeMaps

/-- An iterator at block r over the map at block b that holds l: the keys that were told, in order. -/
def Ranging (r b : Nat) (l : List (Int × Value)) (done : List Int) (A : Fr) : Prop :=
  ∃ (es : Array MapEntry) (clock : Nat) (xs : List MapEntry), MI es clock l ∧ (xs.map (·.born)).Nodup ∧ (∀ e ∈ xs, e ∈ es.toList) ∧ xs.map (·.key) = done.map (Value.int .i64) ∧
    A = pt r (.mapIter (some b) clock (xs.map (·.born)).toArray clock) ++ pt b (.map es clock)

theorem perm_of_sub : ∀ {a b : List Int}, a.Nodup → (∀ k ∈ a, k ∈ b) → b.length ≤ a.length → a.Perm b
  | [], b, _, _, hl => by
    have : b = [] := List.eq_nil_of_length_eq_zero (by simpa using hl)
    rw [this]
  | k :: a, b, hn, hs, hl => by
    rw [List.nodup_cons] at hn
    have hk : k ∈ b := hs k (by simp)
    have h1 := perm_of_sub (a := a) (b := b.erase k) hn.2 (fun j hj => (List.mem_erase_of_ne (by intro e; subst e; exact hn.1 hj)).2 (hs j (by simp [hj]))) (by
      rw [List.length_erase_of_mem hk]
      simp at hl
      omega)
    exact (h1.cons k).trans (List.perm_cons_erase hk).symm

theorem MI.key_inj {es : Array MapEntry} {c : Nat} {l : List (Int × Value)} (h : MI es c l) : (es.toList.map (·.key)).Nodup := by
  have e1 : es.toList.map (·.key) = (l.map (·.1)).map (Value.int .i64) := by
    have := congrArg (List.map Prod.fst) h.ent
    rw [List.map_map, List.map_map] at this
    rw [List.map_map]
    exact this
  rw [e1]
  exact List.Pairwise.map _ (fun a b hab e => hab (by injection e)) h.keys
theorem key_eq {es : List MapEntry} (h : (es.map (·.key)).Nodup) : ∀ {x e : MapEntry}, x ∈ es → e ∈ es → x.key = e.key → x = e := by
  induction es with
  | nil => intro x e hx; simp at hx
  | cons a es ih =>
    intro x e hx he hk
    rw [List.map_cons, List.nodup_cons] at h
    rcases List.mem_cons.1 hx with rfl | hx <;> rcases List.mem_cons.1 he with rfl | he
    · rfl
    · exact (h.1 (List.mem_map.2 ⟨e, by assumption, hk.symm⟩)).elim
    · exact (h.1 (List.mem_map.2 ⟨x, by assumption, hk⟩)).elim
    · exact ih h.2 hx he hk
theorem Ranging.nodup {r b : Nat} {l : List (Int × Value)} {done : List Int} {A : Fr} (h : Ranging r b l done A) : done.Nodup ∧ (∀ k ∈ done, k ∈ l.map (·.1)) := by
  obtain ⟨es, c, xs, hM, hn, hs, hk, rfl⟩ := h
  have hkn : (xs.map (·.key)).Nodup := by
    have h1 : xs.Pairwise (fun x y => x.born ≠ y.born) := by simpa [List.Nodup, List.pairwise_map] using hn
    rw [List.Nodup, List.pairwise_map]
    refine h1.imp_of_mem ?_
    intro x y hx hy hb e
    exact hb (by rw [key_eq hM.key_inj (hs x hx) (hs y hy) e])
  rw [hk] at hkn
  refine ⟨by
    rw [List.Nodup, List.pairwise_map] at hkn
    exact hkn.imp (fun h e => h (by rw [e])), fun k hkd => ?_⟩
  have : Value.int .i64 k ∈ xs.map (·.key) := by rw [hk]; exact List.mem_map.2 ⟨k, hkd, rfl⟩
  obtain ⟨e, he, hek⟩ := List.mem_map.1 this
  have : (e.key, e.val) ∈ l.map (fun p => (Value.int .i64 p.1, p.2)) := by rw [← hM.ent]; exact List.mem_map.2 ⟨e, hs e he, rfl⟩
  obtain ⟨p, hp, hpe⟩ := List.mem_map.1 this
  have e1 := congrArg Prod.fst hpe
  simp only [hek] at e1
  injection e1 with _ e2
  exact List.mem_map.2 ⟨p, hp, e2⟩
theorem len_of_sub : ∀ {a b : List Int}, a.Nodup → (∀ k ∈ a, k ∈ b) → a.length ≤ b.length
  | [], _, _, _ => by simp
  | k :: a, b, hn, hs => by
    rw [List.nodup_cons] at hn
    have hk : k ∈ b := hs k (by simp)
    have h1 := len_of_sub (a := a) (b := b.erase k) hn.2 (fun j hj => (List.mem_erase_of_ne (by intro e; subst e; exact hn.1 hj)).2 (hs j (by simp [hj])))
    rw [List.length_erase_of_mem hk] at h1
    have := List.length_pos_of_mem hk
    simp
    omega
theorem Ranging.le {r b : Nat} {l : List (Int × Value)} {done : List Int} {A : Fr} (h : Ranging r b l done A) : done.length ≤ l.length := by
  obtain ⟨h1, h2⟩ := h.nodup
  have := len_of_sub h1 h2
  rwa [List.length_map] at this
theorem Ranging.back {r b : Nat} {l : List (Int × Value)} {done : List Int} {A : Fr} (h : Ranging r b l done A) : ∃ I M, MapAt b l M ∧ A = I ++ M := by
  obtain ⟨es, c, xs, hM, _, _, _, rfl⟩ := h
  exact ⟨_, _, ⟨es, c, hM, rfl⟩, rfl⟩
theorem Ranging.map {r b : Nat} {l : List (Int × Value)} {done : List Int} {A : Fr} (h : Ranging r b l done A) : ∃ M, MapAt b l M ∧ A = A := by
  obtain ⟨es, c, xs, hM, _⟩ := h
  exact ⟨_, ⟨es, c, hM, rfl⟩, rfl⟩

section
variable {P : Program} {t kt et : TypeId} {E w : World} {X R A : Fr} {b r : Nat} {l : List (Int × Value)} {done : List Int}
variable {ops : Array Oper} {Q : Exit → Act → World → Prop} {rest : List Oper} {a : Act} {d : Option Tmp} {ty : TypeId} {pos : String} {aft : Array Edge} {g : Option (Nat × Bool)}

theorem own_range (ht : P.underlying t = some (.map kt et)) (hO : Own E w X) (hM : MapAt b l A) [hp : Pick X A R] {m : Operand}
    (hw : Region.wanted ⟨d, .range t m, ty, pos, aft, g⟩ (yielded ops a.tmps) = true) (hm : a.eval m = .map (some b))
    (next : ∀ r w1 A1, Ranging r b l [] A1 → Own E w1 (A1 ++ R) → wpList P ops Q rest (a.put d (.pointer (some ⟨r, 0, none⟩))) w1) :
    wpList P ops Q (⟨d, .range t m, ty, pos, aft, g⟩ :: rest) a w := by
  obtain ⟨es, c, hM, rfl⟩ := hM
  have hO1 := hO.perm hp.perm
  have hg : w.heap[b]? = some (.map es c) := hO1.mem (b, .map es c) (by simp [pt])
  have hr := run_range_map (P := P) w t kt et b es c ht hg
  refine wpList_run_value (v := .pointer (some ⟨w.heap.size, 0, none⟩)) (w1 := w.alloc (.mapIter (some b) c #[] c)) hw ?_ (next w.heap.size _ _ ⟨es, c, [], hM, by simp, by simp, rfl, rfl⟩ ?_)
  · simp [execOp, hm, hr]
  · have := hO1.alloc (.mapIter (some b) c #[] c)
    simpa [List.append_assoc] using this

theorem own_nextV (hO : Own E w X) (hM : Ranging r b l done A) [hp : Pick X A R] {m : Operand}
    (hw : Region.wanted ⟨d, .next m false, ty, pos, aft, g⟩ (yielded ops a.tmps) = true) (hm : a.eval m = .pointer (some ⟨r, 0, none⟩))
    (hend : done.Perm (l.map (·.1)) → wpList P ops Q rest (a.put d (.tuple #[.bool false])) w)
    (next : ∀ k v w1 A1, (k, v) ∈ l → Ranging r b l (done ++ [k]) A1 → Own E w1 (A1 ++ R) → (Instr.entry (.pointer (some ⟨r, 0, none⟩))).run P w1 = .ok (.tuple #[.int .i64 k, v]) w1 → wpList P ops Q rest (a.put d (.tuple #[.bool true, .int .i64 k, v])) w1) :
    wpList P ops Q (⟨d, .next m false, ty, pos, aft, g⟩ :: rest) a w := by
  obtain ⟨es, c, xs, hMI, hn, hs, hk, rfl⟩ := hM
  have hO1 := hO.perm hp.perm
  have hb : w.heap[b]? = some (.map es c) := hO1.mem (b, .map es c) (by simp [pt])
  have hr : w.heap[r]? = some (.mapIter (some b) c (xs.map (·.born)).toArray c) := hO1.mem (r, _) (by simp [pt])
  rcases run_next_at (P := P) w ty r b c c (xs.map (·.born)).toArray es c hr hb hMI.old (Nat.le_refl _) with ⟨h0, hrun⟩ | ⟨e, he, w1, hw1, hrun⟩
  · refine wpList_run_value (v := .tuple #[.bool false]) (w1 := w) hw ?_ (hend ?_)
    · simp [execOp, hm, hrun]
    · have hR : Ranging r b l done (pt r (.mapIter (some b) c (xs.map (·.born)).toArray c) ++ pt b (.map es c)) := ⟨es, c, xs, hMI, hn, hs, hk, rfl⟩
      obtain ⟨q1, q2⟩ := hR.nodup
      refine perm_of_sub q1 q2 ?_
      have hall := all_seen es _ h0
      have hsub : ∀ e ∈ es.toList, e ∈ xs := by
        intro e he
        have := hall e he
        rw [Array.contains_iff_mem] at this
        have hm' : e.born ∈ xs.map (·.born) := by simpa using this
        obtain ⟨x, hx, hxe⟩ := List.mem_map.1 hm'
        rw [← born_inj hMI.born (hs x hx) he hxe]
        exact hx
      have hle : es.toList.length ≤ xs.length := by
        have h2 : ∀ (L M : List Nat), L.Nodup → (∀ k ∈ L, k ∈ M) → L.length ≤ M.length := by
          intro L
          induction L with
          | nil => intro M _ _; simp
          | cons q L ih =>
            intro M hnd hsb
            rw [List.nodup_cons] at hnd
            have hq := hsb q (by simp)
            have := ih (M.erase q) hnd.2 (fun k hk => (List.mem_erase_of_ne (by intro e; subst e; exact hnd.1 hk)).2 (hsb k (by simp [hk])))
            rw [List.length_erase_of_mem hq] at this
            have := List.length_pos_of_mem hq
            simp
            omega
        have := h2 (es.toList.map (·.born)) (xs.map (·.born)) hMI.born (fun k hk => by
          obtain ⟨e, he, rfl⟩ := List.mem_map.1 hk
          exact List.mem_map.2 ⟨e, hsub e he, rfl⟩)
        simpa using this
      have l1 := congrArg List.length hMI.ent
      have l2 := congrArg List.length hk
      simp only [List.length_map] at l1 l2 ⊢
      omega
  · obtain ⟨he1, he2⟩ := mem_left he
    have hkv : (e.key, e.val) ∈ l.map (fun p => (Value.int .i64 p.1, p.2)) := by rw [← hMI.ent]; exact List.mem_map.2 ⟨e, he1, rfl⟩
    obtain ⟨p, hpl, hpe⟩ := List.mem_map.1 hkv
    have hpv : (p.1, e.val) ∈ l := by
      have h9 : p.2 = e.val := congrArg Prod.snd hpe
      rw [← h9]
      exact hpl
    have hke : e.key = .int .i64 p.1 := (congrArg Prod.fst hpe).symm
    have hnew : e.born ∉ xs.map (·.born) := by
      intro h
      have : (xs.map (·.born)).toArray.contains e.born = true := by rw [Array.contains_iff_mem]; simpa using h
      rw [this] at he2
      cases he2
    have hO2 : Own E w1 (pt r (.mapIter (some b) c (xs.map (·.born)).toArray c) ++ (pt b (.map es c) ++ R)) := by
      have : Own E w (pt r (.mapIter (some b) c (xs.map (·.born)).toArray c) ++ (pt b (.map es c) ++ R)) := by simpa [List.append_assoc] using hO1
      rcases hw1 with rfl | rfl
      · exact this
      · exact this.drew
    have hpush : (xs.map (·.born)).toArray.push e.born = ((xs ++ [e]).map (·.born)).toArray := by simp
    rw [hpush, hke] at hrun
    have hbn : b ≠ r := fun h => hO2.fresh (b, .map es c) (by simp [pt]) (by simp [h])
    have hrl : r < w1.heap.size := hO2.lt (b := r) (o := .mapIter (some b) c (xs.map (·.born)).toArray c) (by simp [pt])
    refine wpList_run_value (v := .tuple #[.bool true, .int .i64 p.1, e.val]) (w1 := setBlock w1 r (.mapIter (some b) c ((xs ++ [e]).map (·.born)).toArray c)) hw ?_ (next p.1 e.val _ _ hpv ⟨es, c, xs ++ [e], hMI, ?_, ?_, ?_, rfl⟩ ?_ ?_)
    · simp [execOp, hm, hrun]
    · rw [List.map_append, List.nodup_append]
      refine ⟨hn, by simp, ?_⟩
      intro x hx y hy
      simp at hy
      subst hy
      intro h
      exact hnew (h ▸ hx)
    · intro x hx
      rcases List.mem_append.1 hx with hx | hx
      · exact hs x hx
      · rw [List.mem_singleton.1 hx]; exact he1
    · rw [List.map_append, List.map_append, hk]
      simp [hke]
    · rw [List.append_assoc]
      refine hO2.modify rfl rfl rfl ?_ ?_
      · simp [setBlock, hrl]
      · intro j hj
        simp [setBlock, Ne.symm hj]
    · have h1 : (setBlock w1 r (.mapIter (some b) c ((xs ++ [e]).map (·.born)).toArray c)).heap[r]? = some (.mapIter (some b) c ((xs.map (·.born)).toArray.push e.born) c) := by simp [setBlock, hrl]
      have hb1 : w1.heap[b]? = some (.map es c) := hO2.mem (b, .map es c) (by simp [pt])
      have h2 : (setBlock w1 r (.mapIter (some b) c ((xs ++ [e]).map (·.born)).toArray c)).heap[b]? = some (.map es c) := by simp [setBlock, Ne.symm hbn, hb1]
      have := run_entry_at (P := P) _ r b c (xs.map (·.born)).toArray es c e h1 h2 he1 hMI.born
      rw [this, hke]

theorem own_next (hO : Own E w X) (hM : Ranging r b l done A) [hp : Pick X A R] {m : Operand}
    (hw : Region.wanted ⟨d, .next m false, ty, pos, aft, g⟩ (yielded ops a.tmps) = true) (hm : a.eval m = .pointer (some ⟨r, 0, none⟩))
    (hend : done.Perm (l.map (·.1)) → wpList P ops Q rest (a.put d (.tuple #[.bool false])) w)
    (next : ∀ k v w1 A1, Ranging r b l (done ++ [k]) A1 → Own E w1 (A1 ++ R) → (Instr.entry (.pointer (some ⟨r, 0, none⟩))).run P w1 = .ok (.tuple #[.int .i64 k, v]) w1 → wpList P ops Q rest (a.put d (.tuple #[.bool true, .int .i64 k, v])) w1) :
    wpList P ops Q (⟨d, .next m false, ty, pos, aft, g⟩ :: rest) a w := own_nextV hO hM hw hm hend fun k v w1 A1 _ => next k v w1 A1
end
theorem at_rng {P : Program} {ops : Array Oper} {Q : Exit → Act → World → Prop} {rest : List Oper} {a : Act} {w : World} {d : Option Tmp} {ty : TypeId} {pos : String} {aft : Array Edge} {g : Option (Nat × Bool)} {t : TypeId} {m : Operand} (h : wpList P ops Q (⟨d, .range t m, ty, pos, aft, g⟩ :: rest) a w) : wpList P ops Q (⟨d, .range t m, ty, pos, aft, g⟩ :: rest) a w := h
theorem at_nxt {P : Program} {ops : Array Oper} {Q : Exit → Act → World → Prop} {rest : List Oper} {a : Act} {w : World} {d : Option Tmp} {ty : TypeId} {pos : String} {aft : Array Edge} {g : Option (Nat × Bool)} {m : Operand} (h : wpList P ops Q (⟨d, .next m false, ty, pos, aft, g⟩ :: rest) a w) : wpList P ops Q (⟨d, .next m false, ty, pos, aft, g⟩ :: rest) a w := h
end Go.Own
