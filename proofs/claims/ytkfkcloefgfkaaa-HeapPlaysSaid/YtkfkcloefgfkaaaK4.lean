/- Maps keyed by ints: ranging over one that stays as it is. -/
import Derived.Test.YtkfkcloefgfkaaaK2
import Derived.Test.YtkfkcloefgfkaaaRows
import Derived.Test.YtkfkcloefgfkaaaK1
import Derived.Shelf.Sort.Plain
import Derived.Test.YtkfkcloefgfkaaaK3
set_option linter.all false
/- Maps keyed by ints: ranging over one that stays as it is. -/
namespace Go.Own
open Go Go.RowKit Go.ChangeMaps

/-- An iterator at block r over the map at block b that holds l: the keys that were told, in order. -/
def Ranging (r b : Nat) (l : List (Int × Value)) (done : List Int) (A : Fr) : Prop :=
  ∃ (es : Array MapEntry) (clock : Nat) (xs : List MapEntry), MI es clock l ∧ (xs.map (·.born)).Nodup ∧ (∀ e ∈ xs, e ∈ es.toList) ∧ xs.map (·.key) = done.map (Value.int .i64) ∧
    A = pt r (.mapIter (some b) clock (xs.map (·.born)).toArray clock) ++ pt b (.map es clock)

theorem perm_of_sub : ∀ {a b : List Int}, a.Nodup → (∀ k ∈ a, k ∈ b) → b.length ≤ a.length → a.Perm b
  | [], b, _, _, hl => by
    have : b = [] := List.eq_nil_of_length_eq_zero (by simpa using hl)
    rw [this]
  | k :: a, b, hn, hs, hl => by
    rw [List.nodup_cons] at hn
    have hk : k ∈ b := hs k (by simp)
    have h1 := perm_of_sub (a := a) (b := b.erase k) hn.2 (fun j hj => (List.mem_erase_of_ne (by intro e; subst e; exact hn.1 hj)).2 (hs j (by simp [hj]))) (by
      rw [List.length_erase_of_mem hk]
      simp at hl
      omega)
    exact (h1.cons k).trans (List.perm_cons_erase hk).symm

theorem MI.key_inj {es : Array MapEntry} {c : Nat} {l : List (Int × Value)} (h : MI es c l) : (es.toList.map (·.key)).Nodup := by
  have e1 : es.toList.map (·.key) = (l.map (·.1)).map (Value.int .i64) := by
    have := congrArg (List.map Prod.fst) h.ent
    rw [List.map_map, List.map_map] at this
    rw [List.map_map]
    exact this
  rw [e1]
  exact List.Pairwise.map _ (fun a b hab e => hab (by injection e)) h.keys
theorem key_eq {es : List MapEntry} (h : (es.map (·.key)).Nodup) : ∀ {x e : MapEntry}, x ∈ es → e ∈ es → x.key = e.key → x = e := by
  induction es with
  | nil => intro x e hx; simp at hx
  | cons a es ih =>
    intro x e hx he hk
    rw [List.map_cons, List.nodup_cons] at h
    rcases List.mem_cons.1 hx with rfl | hx <;> rcases List.mem_cons.1 he with rfl | he
    · rfl
    · exact (h.1 (List.mem_map.2 ⟨e, by assumption, hk.symm⟩)).elim
    · exact (h.1 (List.mem_map.2 ⟨x, by assumption, hk⟩)).elim
    · exact ih h.2 hx he hk
theorem Ranging.nodup {r b : Nat} {l : List (Int × Value)} {done : List Int} {A : Fr} (h : Ranging r b l done A) : done.Nodup ∧ (∀ k ∈ done, k ∈ l.map (·.1)) := by
  obtain ⟨es, c, xs, hM, hn, hs, hk, rfl⟩ := h
  have hkn : (xs.map (·.key)).Nodup := by
    have h1 : xs.Pairwise (fun x y => x.born ≠ y.born) := by simpa [List.Nodup, List.pairwise_map] using hn
    rw [List.Nodup, List.pairwise_map]
    refine h1.imp_of_mem ?_
    intro x y hx hy hb e
    exact hb (by rw [key_eq hM.key_inj (hs x hx) (hs y hy) e])
  rw [hk] at hkn
  refine ⟨by
    rw [List.Nodup, List.pairwise_map] at hkn
    exact hkn.imp (fun h e => h (by rw [e])), fun k hkd => ?_⟩
  have : Value.int .i64 k ∈ xs.map (·.key) := by rw [hk]; exact List.mem_map.2 ⟨k, hkd, rfl⟩
  obtain ⟨e, he, hek⟩ := List.mem_map.1 this
  have : (e.key, e.val) ∈ l.map (fun p => (Value.int .i64 p.1, p.2)) := by rw [← hM.ent]; exact List.mem_map.2 ⟨e, hs e he, rfl⟩
  obtain ⟨p, hp, hpe⟩ := List.mem_map.1 this
  have e1 := congrArg Prod.fst hpe
  simp only [hek] at e1
  injection e1 with _ e2
  exact List.mem_map.2 ⟨p, hp, e2⟩
theorem len_of_sub : ∀ {a b : List Int}, a.Nodup → (∀ k ∈ a, k ∈ b) → a.length ≤ b.length
  | [], _, _, _ => by simp
  | k :: a, b, hn, hs => by
    rw [List.nodup_cons] at hn
    have hk : k ∈ b := hs k (by simp)
    have h1 := len_of_sub (a := a) (b := b.erase k) hn.2 (fun j hj => (List.mem_erase_of_ne (by intro e; subst e; exact hn.1 hj)).2 (hs j (by simp [hj])))
    rw [List.length_erase_of_mem hk] at h1
    have := List.length_pos_of_mem hk
    simp
    omega
theorem Ranging.le {r b : Nat} {l : List (Int × Value)} {done : List Int} {A : Fr} (h : Ranging r b l done A) : done.length ≤ l.length := by
  obtain ⟨h1, h2⟩ := h.nodup
  have := len_of_sub h1 h2
  rwa [List.length_map] at this
theorem Ranging.back {r b : Nat} {l : List (Int × Value)} {done : List Int} {A : Fr} (h : Ranging r b l done A) : ∃ I M, MapAt b l M ∧ A = I ++ M := by
  obtain ⟨es, c, xs, hM, _, _, _, rfl⟩ := h
  exact ⟨_, _, ⟨es, c, hM, rfl⟩, rfl⟩
theorem Ranging.map {r b : Nat} {l : List (Int × Value)} {done : List Int} {A : Fr} (h : Ranging r b l done A) : ∃ M, MapAt b l M ∧ A = A := by
  obtain ⟨es, c, xs, hM, _⟩ := h
  exact ⟨_, ⟨es, c, hM, rfl⟩, rfl⟩

section
variable {P : Program} {t kt et : TypeId} {E w : World} {X R A : Fr} {b r : Nat} {l : List (Int × Value)} {done : List Int}
variable {ops : Array Oper} {Q : Exit → Act → World → Prop} {rest : List Oper} {a : Act} {d : Option Tmp} {ty : TypeId} {pos : String} {aft : Array Edge} {g : Option (Nat × Bool)}

theorem own_range (ht : P.underlying t = some (.map kt et)) (hO : Own E w X) (hM : MapAt b l A) [hp : Pick X A R] {m : Operand}
    (hw : Region.wanted ⟨d, .range t m, ty, pos, aft, g⟩ (yielded ops a.tmps) = true) (hm : a.eval m = .map (some b))
    (next : ∀ r w1 A1, Ranging r b l [] A1 → Own E w1 (A1 ++ R) → wpList P ops Q rest (a.put d (.pointer (some ⟨r, 0, none⟩))) w1) :
    wpList P ops Q (⟨d, .range t m, ty, pos, aft, g⟩ :: rest) a w := by
  obtain ⟨es, c, hM, rfl⟩ := hM
  have hO1 := hO.perm hp.perm
  have hg : w.heap[b]? = some (.map es c) := hO1.mem (b, .map es c) (by simp [pt])
  have hr := run_range_map (P := P) w t kt et b es c ht hg
  refine wpList_run_value (v := .pointer (some ⟨w.heap.size, 0, none⟩)) (w1 := w.alloc (.mapIter (some b) c #[] c)) hw ?_ (next w.heap.size _ _ ⟨es, c, [], hM, by simp, by simp, rfl, rfl⟩ ?_)
  · simp [execOp, hm, hr]
  · have := hO1.alloc (.mapIter (some b) c #[] c)
    simpa [List.append_assoc] using this

theorem own_nextV (hO : Own E w X) (hM : Ranging r b l done A) [hp : Pick X A R] {m : Operand}
    (hw : Region.wanted ⟨d, .next m false, ty, pos, aft, g⟩ (yielded ops a.tmps) = true) (hm : a.eval m = .pointer (some ⟨r, 0, none⟩))
    (hend : done.Perm (l.map (·.1)) → wpList P ops Q rest (a.put d (.tuple #[.bool false])) w)
    (next : ∀ k v w1 A1, (k, v) ∈ l → Ranging r b l (done ++ [k]) A1 → Own E w1 (A1 ++ R) → (Instr.entry (.pointer (some ⟨r, 0, none⟩))).run P w1 = .ok (.tuple #[.int .i64 k, v]) w1 → wpList P ops Q rest (a.put d (.tuple #[.bool true, .int .i64 k, v])) w1) :
    wpList P ops Q (⟨d, .next m false, ty, pos, aft, g⟩ :: rest) a w := by
  obtain ⟨es, c, xs, hMI, hn, hs, hk, rfl⟩ := hM
  have hO1 := hO.perm hp.perm
  have hb : w.heap[b]? = some (.map es c) := hO1.mem (b, .map es c) (by simp [pt])
  have hr : w.heap[r]? = some (.mapIter (some b) c (xs.map (·.born)).toArray c) := hO1.mem (r, _) (by simp [pt])
  rcases run_next_at (P := P) w ty r b c c (xs.map (·.born)).toArray es c hr hb hMI.old (Nat.le_refl _) with ⟨h0, hrun⟩ | ⟨e, he, w1, hw1, hrun⟩
  · refine wpList_run_value (v := .tuple #[.bool false]) (w1 := w) hw ?_ (hend ?_)
    · simp [execOp, hm, hrun]
    · have hR : Ranging r b l done (pt r (.mapIter (some b) c (xs.map (·.born)).toArray c) ++ pt b (.map es c)) := ⟨es, c, xs, hMI, hn, hs, hk, rfl⟩
      obtain ⟨q1, q2⟩ := hR.nodup
      refine perm_of_sub q1 q2 ?_
      have hall := all_seen es _ h0
      have hsub : ∀ e ∈ es.toList, e ∈ xs := by
        intro e he
        have := hall e he
        rw [Array.contains_iff_mem] at this
        have hm' : e.born ∈ xs.map (·.born) := by simpa using this
        obtain ⟨x, hx, hxe⟩ := List.mem_map.1 hm'
        rw [← born_inj hMI.born (hs x hx) he hxe]
        exact hx
      have hle : es.toList.length ≤ xs.length := by
        have h2 : ∀ (L M : List Nat), L.Nodup → (∀ k ∈ L, k ∈ M) → L.length ≤ M.length := by
          intro L
          induction L with
          | nil => intro M _ _; simp
          | cons q L ih =>
            intro M hnd hsb
            rw [List.nodup_cons] at hnd
            have hq := hsb q (by simp)
            have := ih (M.erase q) hnd.2 (fun k hk => (List.mem_erase_of_ne (by intro e; subst e; exact hnd.1 hk)).2 (hsb k (by simp [hk])))
            rw [List.length_erase_of_mem hq] at this
            have := List.length_pos_of_mem hq
            simp
            omega
        have := h2 (es.toList.map (·.born)) (xs.map (·.born)) hMI.born (fun k hk => by
          obtain ⟨e, he, rfl⟩ := List.mem_map.1 hk
          exact List.mem_map.2 ⟨e, hsub e he, rfl⟩)
        simpa using this
      have l1 := congrArg List.length hMI.ent
      have l2 := congrArg List.length hk
      simp only [List.length_map] at l1 l2 ⊢
      omega
  · obtain ⟨he1, he2⟩ := mem_left he
    have hkv : (e.key, e.val) ∈ l.map (fun p => (Value.int .i64 p.1, p.2)) := by rw [← hMI.ent]; exact List.mem_map.2 ⟨e, he1, rfl⟩
    obtain ⟨p, hpl, hpe⟩ := List.mem_map.1 hkv
    have hpv : (p.1, e.val) ∈ l := by
      have h9 : p.2 = e.val := congrArg Prod.snd hpe
      rw [← h9]
      exact hpl
    have hke : e.key = .int .i64 p.1 := (congrArg Prod.fst hpe).symm
    have hnew : e.born ∉ xs.map (·.born) := by
      intro h
      have : (xs.map (·.born)).toArray.contains e.born = true := by rw [Array.contains_iff_mem]; simpa using h
      rw [this] at he2
      cases he2
    have hO2 : Own E w1 (pt r (.mapIter (some b) c (xs.map (·.born)).toArray c) ++ (pt b (.map es c) ++ R)) := by
      have : Own E w (pt r (.mapIter (some b) c (xs.map (·.born)).toArray c) ++ (pt b (.map es c) ++ R)) := by simpa [List.append_assoc] using hO1
      rcases hw1 with rfl | rfl
      · exact this
      · exact this.drew
    have hpush : (xs.map (·.born)).toArray.push e.born = ((xs ++ [e]).map (·.born)).toArray := by simp
    rw [hpush, hke] at hrun
    have hbn : b ≠ r := fun h => hO2.fresh (b, .map es c) (by simp [pt]) (by simp [h])
    have hrl : r < w1.heap.size := hO2.lt (b := r) (o := .mapIter (some b) c (xs.map (·.born)).toArray c) (by simp [pt])
    refine wpList_run_value (v := .tuple #[.bool true, .int .i64 p.1, e.val]) (w1 := setBlock w1 r (.mapIter (some b) c ((xs ++ [e]).map (·.born)).toArray c)) hw ?_ (next p.1 e.val _ _ hpv ⟨es, c, xs ++ [e], hMI, ?_, ?_, ?_, rfl⟩ ?_ ?_)
    · simp [execOp, hm, hrun]
    · rw [List.map_append, List.nodup_append]
      refine ⟨hn, by simp, ?_⟩
      intro x hx y hy
      simp at hy
      subst hy
      intro h
      exact hnew (h ▸ hx)
    · intro x hx
      rcases List.mem_append.1 hx with hx | hx
      · exact hs x hx
      · rw [List.mem_singleton.1 hx]; exact he1
    · rw [List.map_append, List.map_append, hk]
      simp [hke]
    · rw [List.append_assoc]
      refine hO2.modify rfl rfl rfl ?_ ?_
      · simp [setBlock, hrl]
      · intro j hj
        simp [setBlock, Ne.symm hj]
    · have h1 : (setBlock w1 r (.mapIter (some b) c ((xs ++ [e]).map (·.born)).toArray c)).heap[r]? = some (.mapIter (some b) c ((xs.map (·.born)).toArray.push e.born) c) := by simp [setBlock, hrl]
      have hb1 : w1.heap[b]? = some (.map es c) := hO2.mem (b, .map es c) (by simp [pt])
      have h2 : (setBlock w1 r (.mapIter (some b) c ((xs ++ [e]).map (·.born)).toArray c)).heap[b]? = some (.map es c) := by simp [setBlock, Ne.symm hbn, hb1]
      have := run_entry_at (P := P) _ r b c (xs.map (·.born)).toArray es c e h1 h2 he1 hMI.born
      rw [this, hke]

theorem own_next (hO : Own E w X) (hM : Ranging r b l done A) [hp : Pick X A R] {m : Operand}
    (hw : Region.wanted ⟨d, .next m false, ty, pos, aft, g⟩ (yielded ops a.tmps) = true) (hm : a.eval m = .pointer (some ⟨r, 0, none⟩))
    (hend : done.Perm (l.map (·.1)) → wpList P ops Q rest (a.put d (.tuple #[.bool false])) w)
    (next : ∀ k v w1 A1, Ranging r b l (done ++ [k]) A1 → Own E w1 (A1 ++ R) → (Instr.entry (.pointer (some ⟨r, 0, none⟩))).run P w1 = .ok (.tuple #[.int .i64 k, v]) w1 → wpList P ops Q rest (a.put d (.tuple #[.bool true, .int .i64 k, v])) w1) :
    wpList P ops Q (⟨d, .next m false, ty, pos, aft, g⟩ :: rest) a w := own_nextV hO hM hw hm hend fun k v w1 A1 _ => next k v w1 A1
end
theorem at_rng {P : Program} {ops : Array Oper} {Q : Exit → Act → World → Prop} {rest : List Oper} {a : Act} {w : World} {d : Option Tmp} {ty : TypeId} {pos : String} {aft : Array Edge} {g : Option (Nat × Bool)} {t : TypeId} {m : Operand} (h : wpList P ops Q (⟨d, .range t m, ty, pos, aft, g⟩ :: rest) a w) : wpList P ops Q (⟨d, .range t m, ty, pos, aft, g⟩ :: rest) a w := h
theorem at_nxt {P : Program} {ops : Array Oper} {Q : Exit → Act → World → Prop} {rest : List Oper} {a : Act} {w : World} {d : Option Tmp} {ty : TypeId} {pos : String} {aft : Array Edge} {g : Option (Nat × Bool)} {m : Operand} (h : wpList P ops Q (⟨d, .next m false, ty, pos, aft, g⟩ :: rest) a w) : wpList P ops Q (⟨d, .next m false, ty, pos, aft, g⟩ :: rest) a w := h
end Go.Own

/- slices.Sort at ints, by the library's own contract. -/
namespace Go.Proofs.Ytkfkcloefgfkaaa
open Go Go.RowKit Go.Own Go.Sort

def Try.lay189_ren : Go.Shelf.Ren := ⟨fun | 189 => 67 | 125 => 108 | 257 => 107 | 128 => 144 | 129 => 145 | 294 => 135 | 295 => 136 | 296 => 137 | 297 => 138 | 298 => 139 | 299 => 140 | 216 => 141 | 300 => 142 | 301 => 143 | 328 => 151 | 329 => 152 | 330 => 153 | 331 => 154 | 332 => 155 | 215 => 156 | 343 => 160 | n => n, fun | 28 => 53 | 3 => 3 | 46 => 162 | 0 => 0 | 51 => 203 | 53 => 205 | 4 => 4 | 183 => 196 | 182 => 195 | 131 => 148 | 5 => 5 | 9 => 9 | 218 => 212 | 222 => 216 | 228 => 219 | 229 => 220 | n => n, fun | n => n⟩
theorem Try.lay189 : Go.Proofs.Lays.n189 Try.prog Try.lay189_ren where
  mixed := by kernel_rfl
  f125 := Try.func108.trans (congrArg some (by kernel_rfl))
  f128 := Try.func144.trans (congrArg some (by kernel_rfl))
  f129 := Try.func145.trans (congrArg some (by kernel_rfl))
  f189 := Try.func67.trans (congrArg some (by kernel_rfl))
  f215 := Try.func156.trans (congrArg some (by kernel_rfl))
  f216 := Try.func141.trans (congrArg some (by kernel_rfl))
  f257 := Try.func107.trans (congrArg some (by kernel_rfl))
  f294 := Try.func135.trans (congrArg some (by kernel_rfl))
  f295 := Try.func136.trans (congrArg some (by kernel_rfl))
  f296 := Try.func137.trans (congrArg some (by kernel_rfl))
  f297 := Try.func138.trans (congrArg some (by kernel_rfl))
  f298 := Try.func139.trans (congrArg some (by kernel_rfl))
  f299 := Try.func140.trans (congrArg some (by kernel_rfl))
  f300 := Try.func142.trans (congrArg some (by kernel_rfl))
  f301 := Try.func143.trans (congrArg some (by kernel_rfl))
  f328 := Try.func151.trans (congrArg some (by kernel_rfl))
  f329 := Try.func152.trans (congrArg some (by kernel_rfl))
  f330 := Try.func153.trans (congrArg some (by kernel_rfl))
  f331 := Try.func154.trans (congrArg some (by kernel_rfl))
  f332 := Try.func155.trans (congrArg some (by kernel_rfl))
  f343 := Try.func160.trans (congrArg some (by kernel_rfl))
  t0 := Try.underlying0
  a0 := Try.isAgg0
  z0 := Try.sizeOf0
  v0 := Try.zeroValue0
  t3 := Try.underlying3
  a3 := Try.isAgg3
  z3 := Try.sizeOf3
  v3 := Try.zeroValue3
  t4 := Try.underlying4
  a4 := Try.isAgg4
  z4 := Try.sizeOf4
  v4 := Try.zeroValue4
  t5 := Try.underlying5
  a5 := Try.isAgg5
  z5 := Try.sizeOf5
  v5 := Try.zeroValue5
  t9 := Try.underlying9
  a9 := Try.isAgg9
  z9 := Try.sizeOf9
  v9 := Try.zeroValue9
  t28 := Try.underlying53
  a28 := Try.isAgg53
  z28 := Try.sizeOf53
  v28 := Try.zeroValue53
  t46 := Try.underlying162
  a46 := Try.isAgg162
  z46 := Try.sizeOf162
  v46 := Try.zeroValue162
  t51 := Try.underlying203
  a51 := Try.isAgg203
  z51 := Try.sizeOf203
  v51 := Try.zeroValue203
  t53 := Try.underlying205
  a53 := Try.isAgg205
  z53 := Try.sizeOf205
  v53 := Try.zeroValue205
  t131 := Try.underlying148
  a131 := Try.isAgg148
  z131 := Try.sizeOf148
  v131 := Try.zeroValue148
  t182 := Try.underlying195
  a182 := Try.isAgg195
  z182 := Try.sizeOf195
  v182 := Try.zeroValue195
  t183 := Try.underlying196
  a183 := Try.isAgg196
  z183 := Try.sizeOf196
  v183 := Try.zeroValue196
  t218 := Try.underlying212
  a218 := Try.isAgg212
  z218 := Try.sizeOf212
  v218 := Try.zeroValue212
  t222 := Try.underlying216
  a222 := Try.isAgg216
  z222 := Try.sizeOf216
  v222 := Try.zeroValue216
  t228 := Try.underlying219
  a228 := Try.isAgg219
  z228 := Try.sizeOf219
  v228 := Try.zeroValue219
  t229 := Try.underlying220
  a229 := Try.isAgg220
  z229 := Try.sizeOf220
  v229 := Try.zeroValue220

theorem _root_.Go.Own.Own.grow {E w : World} {X : Fr} (h : Own E w X) (os : Array Obj) : Own E (grow w os) X := by
  refine ⟨h.os, h.tape, h.output, h.nodup, fun p hp => ?_⟩
  have := h.mem p hp
  have hlt : p.1 < w.heap.size := (Array.getElem?_eq_some_iff.1 this).1
  show (w.heap ++ os)[p.1]? = _
  rw [Array.getElem?_append_left hlt]
  exact this
theorem putCells_row (zs ys : List Int) (rest : List Value) (h : ys.length = zs.length) : putCells (Value.int .i64) 0 ys.toArray (zs.map (Value.int .i64) ++ rest).toArray = (ys.map (Value.int .i64) ++ rest).toArray := by
  apply Array.ext
  · simp [putCells, h]
  · intro j h1 h2
    simp only [putCells, Array.getElem_mapIdx, List.size_toArray]
    by_cases hj : j < ys.length
    · rw [if_pos ⟨by omega, by omega⟩]
      simp only [List.getElem_toArray, Nat.sub_zero]
      rw [List.getElem_append_left (by rw [List.length_map]; exact hj), List.getElem_map]
      simp [hj]
    · rw [if_neg (by omega)]
      simp only [List.getElem_toArray]
      rw [List.getElem_append_right (by rw [List.length_map]; omega), List.getElem_append_right (by rw [List.length_map]; omega)]
      congr 1
      simp [h]
def srt (zs : List Int) : List Int := zs.mergeSort fun x y => decide (x ≤ y)
theorem srt_length (zs : List Int) : (srt zs).length = zs.length := List.length_mergeSort zs

set_option maxRecDepth 100000 in
set_option maxHeartbeats 16000000 in
theorem sortI_nil_ins (p : Option Addr) (cap : Nat) (w : World) : Calls Try.prog 135 #[.slice p 0 cap, .int .i64 0, .int .i64 0] w fun e w' => e = .returned (.tuple #[]) ∧ w = w' := by
  go_enter Try.func135, Try.ntmps135
  go_wp2
  refine wp_loop_rounds 1 ?_
  rw [rounds_succ]
  go_wp2
  go_end0
  exact ⟨rfl, rfl⟩
set_option maxRecDepth 100000 in
set_option maxHeartbeats 16000000 in
theorem sortI_nil_pdq (p : Option Addr) (cap : Nat) (w : World) : Calls Try.prog 107 #[.slice p 0 cap, .int .i64 0, .int .i64 0, .int .i64 0] w fun e w' => e = .returned (.tuple #[]) ∧ w = w' := by
  go_enter Try.func107, Try.ntmps107
  go_wp2
  refine wp_loop_rounds 1 ?_
  rw [rounds_succ]
  go_wp2_with (go_at_call 135; refine (sortI_nil_ins p cap _).mono ?_; rintro e w' ⟨rfl, rfl⟩)
  refine bodyPost_ret (results_none rfl _ _ _) rfl ?_
  exact ⟨rfl, rfl⟩
set_option maxRecDepth 100000 in
set_option maxHeartbeats 16000000 in
theorem sortI_nil_len64 (w : World) : Calls Try.prog 145 #[.int .u64 0] w fun e w' => e = .returned (.int .i64 0) ∧ w = w' := by
  go_enter Try.func145, Try.ntmps145
  go_wp2
  go_ret
  have hl8 : wrap64 (wrap64 (Lib.len8 0)) = 0 := by decide +kernel
  refine ⟨?_, rfl⟩
  show Ending.returned (Value.int .i64 (wrap64 (wrap64 (Lib.len8 0)))) = _
  rw [hl8]
set_option maxRecDepth 100000 in
set_option maxHeartbeats 16000000 in
theorem sortI_nil_len (w : World) : Calls Try.prog 108 #[.int .u64 0] w fun e w' => e = .returned (.int .i64 0) ∧ w = w' := by
  go_enter Try.func108, Try.ntmps108
  go_wp2_with (go_at_call 145; refine (sortI_nil_len64 _).mono ?_; rintro e w' ⟨rfl, rfl⟩)
  go_ret
  exact ⟨rfl, rfl⟩
set_option maxRecDepth 100000 in
set_option maxHeartbeats 16000000 in
theorem sortI_nil (p : Option Addr) (cap : Nat) (w : World) : Calls Try.prog 67 #[.slice p 0 cap] w fun e w' => e = .returned (.tuple #[]) ∧ w = w' := by
  go_enter Try.func67, Try.ntmps67
  go_wp2_with (first | (go_at_call 108; refine (sortI_nil_len _).mono ?_; rintro e w' ⟨rfl, rfl⟩) | (go_at_call 107; refine (sortI_nil_pdq p cap _).mono ?_; rintro e w' ⟨rfl, rfl⟩))
  go_end0
  exact ⟨rfl, rfl⟩

theorem sortI (E w : World) (X R S : Fr) (a : Option Addr) (cap : Nat) (zs : List Int) (hS : Sl 3 1 a zs.length cap (zs.map (Value.int .i64)) S) (hz : zs.length < 4611686018427387904) (hO : Own E w X) [hp : Pick X S R] :
    Calls Try.prog 67 #[.slice a zs.length cap] w fun e w' => e = .returned (.tuple #[]) ∧ ∃ S', Sl 3 1 a zs.length cap ((srt zs).map (Value.int .i64)) S' ∧ Own E w' (S' ++ R) := by
  replace hO := hO.perm hp.perm
  clear hp
  by_cases h0 : zs = []
  · subst h0
    refine (sortI_nil a cap w).mono ?_
    rintro e w' ⟨rfl, rfl⟩
    exact ⟨rfl, S, by simpa [srt] using hS, hO⟩
  have hpos : 0 < zs.length := List.length_pos_iff.2 h0
  obtain ⟨h1, h2, h3, h4⟩ := hS
  rcases h4 with ⟨_, hc, _⟩ | ⟨b, rest, rfl, hl, rfl⟩
  · omega
  have hb : b < w.heap.size := hO.lt (b := b) (o := .cells (zs.map (Value.int .i64) ++ rest).toArray 3 (0, 0)) (by simp [pt])
  have hg : w.heap[b]? = some (.cells (zs.map (Value.int .i64) ++ rest).toArray 3 (0, 0)) := hO.mem (b, _) (by simp [pt])
  have hH : Holds (Value.int .i64) w b 0 zs.toArray := by
    intro j hj
    have hj' : j < zs.length := by simpa using hj
    have hcl := Own.cells hO
    simp only [cellsOf_append, cellsOf_pt] at hcl
    rw [Nat.zero_add]
    refine ⟨?_, hcl.1.2 j⟩
    rw [hcl.1.1 j]
    simp only [List.getElem?_toArray]
    rw [List.getElem?_append_left (by rw [List.length_map]; exact hj')]
    simp [hj']
  refine (Any.slices_Sort_int Try.lay189 b 0 cap zs w hH hb hz).mono ?_
  rintro e w' ⟨rfl, n, os, rfl⟩
  refine ⟨rfl, _, ⟨by rw [List.length_map, srt_length]; simp, h2, h3, .inr ⟨b, rest, rfl, by rw [List.length_append, List.length_map, srt_length]; rw [List.length_append, List.length_map] at hl; exact hl, rfl⟩⟩, ?_⟩
  refine Own.grow ?_ os
  have hO1 : Own E (Sort.ahead w n) (pt b (.cells (zs.map (Value.int .i64) ++ rest).toArray 3 (0, 0)) ++ R) := ⟨hO.os, hO.tape, hO.output, hO.nodup, hO.mem⟩
  refine hO1.modify rfl rfl rfl ?_ ?_
  · show (w.heap.modify b _)[b]? = _
    rw [Array.getElem?_modify, if_pos rfl, hg]
    simp only [Option.map_some, onCells]
    have := putCells_row zs (srt zs) rest (srt_length zs)
    unfold srt at this ⊢
    rw [this]
  · intro k hk
    show (w.heap.modify b _)[k]? = _
    rw [Array.getElem?_modify, if_neg (Ne.symm hk)]
    rfl

theorem srt_perm (zs : List Int) : (srt zs).Perm zs := List.mergeSort_perm zs _
theorem srt_sorted (zs : List Int) : (srt zs).Pairwise (fun x y => x ≤ y) := by
  have := List.pairwise_mergeSort (le := fun x y : Int => decide (x ≤ y)) (fun a b c h1 h2 => by simp at *; omega) (fun a b => by simp; omega) zs
  exact this.imp (fun h => by simpa using h)
/-- Numbers of which none stands twice rise. -/
theorem srt_rise {zs : List Int} (h : zs.Nodup) : (srt zs).Pairwise (fun x y => x < y) := by
  have h1 := srt_sorted zs
  have h2 : (srt zs).Nodup := (srt_perm zs).nodup_iff.2 h
  have h3 := h1.and h2
  exact h3.imp (fun ⟨a, b⟩ => by omega)
end Go.Proofs.Ytkfkcloefgfkaaa

/- The pool's contracts: Held. -/
namespace Go.Proofs.Ytkfkcloefgfkaaa
open Go Go.RowKit Go.Own Go.Dk

theorem sltInts : SlT Try.prog 53 3 1 8 (.int .i64 0) := ⟨by kernel_rfl, by kernel_rfl, rfl⟩
def HeldPost (E : World) (p d most hand : Nat) (fs : List Frm) (l : List (Int × Value)) (R : Fr) (e : Ending) (w' : World) : Prop :=
  ∃ (sa : Option Addr) (cap : Nat) (hs : List Int) (S P : Fr), e = .returned (.slice sa hs.length cap) ∧ hs.Perm (l.map (·.1)) ∧ hs.Pairwise (fun x y => x < y) ∧ Sl 3 1 sa hs.length cap (hs.map (Value.int .i64)) S ∧ PoolP p d most hand fs l P ∧ Own E w' (S ++ (P ++ R))

def slN : Value → Nat
  | .slice _ n _ => n
  | _ => 0

set_option maxRecDepth 100000 in
set_option maxHeartbeats 16000000 in
theorem pHeld (E w : World) (X R P : Fr) (p d most hand : Nat) (fs : List Frm) (l : List (Int × Value)) (hP : PoolP p d most hand fs l P) (hl : l.length ≤ 4096) (hm : 0 < most) (hO : Own E w X) [hp : Pick X P R] :
    Calls Try.prog 70 #[.pointer (some ⟨p, 0, none⟩)] w (HeldPost E p d most hand fs l R) := by
  replace hO := hO.perm hp.perm
  clear hp
  go_enter Try.func70, Try.ntmps70
  go_wp2_with fail
  refine (pGiven E _ _ _ P p d most hand _ l hP hm hO).mono ?_; rintro e w1 ⟨rfl, rfl⟩
  obtain ⟨la, lc, mb, S, M, hSS, hM, rfl⟩ := hP
  ((try simp only [List.nil_append, List.append_nil] at hO); have hF := Own.cells hO; simp only [cellsOf_append, cellsOf_pt] at hF)
  go_wp2_with (refine at_rng ?_; go_must (refine own_range (kt := 3) (et := 170) (b := mb) (l := l) (by kernel_rfl) hO hM ?_ ?_ ?_; (· rfl); (· rfl); clear hO; (try clear hF); intro r _ A1 hR hO; ((try simp only [List.nil_append, List.append_nil] at hO); have hF := Own.cells hO; simp only [cellsOf_append, cellsOf_pt] at hF); simp only [Act.put, List.setIfInBounds_toArray, List.set_cons_zero, List.set_cons_succ]))
  have hO0 := hO
  clear hO hF
  go_loopw [3] (fun s3 wr => ∃ (done : List Int) (sa : Option Addr) (cap : Nat) (Z A1 : Fr), s3 = .slice sa done.length cap ∧ Sl 3 1 sa done.length cap (done.map (Value.int .i64)) Z ∧ Ranging r mb l done A1 ∧
      Own E wr (pt p (.cells #[.pointer (some ⟨d, 0, none⟩), .int .i64 most, .slice la fs.length lc, .int .i64 hand, .map (some mb)] 166 (0, 0)) ++ (S ++ (Z ++ (A1 ++ (frmsF fs ++ R)))))) (fun s3 _ => l.length - slN s3)
  case atStart => exact ⟨[], none, 0, [], A1, rfl, Sl.nil _ _, hR, hO0.as _⟩
  case round =>
    clear hO0 hR
    obtain ⟨done, sa, cap, Z, A1, rfl, hZ, hR, hO⟩ := hrel
    have hle := hR.le
    ((try simp only [List.nil_append, List.append_nil] at hO); have hF := Own.cells hO; simp only [cellsOf_append, cellsOf_pt] at hF)
    go_wp2_with (refine at_nxt ?_; go_must (refine own_next (r := r) (b := mb) (l := l) (done := done) hO hR ?_ ?_ ?_ ?_; (· rfl); (· rfl)))
    · intro hperm
      simp only [Act.put, List.setIfInBounds_toArray, List.set_cons_zero, List.set_cons_succ]
      go_wp2_with fail
      refine (sortI E _ _ _ Z sa cap done hZ (by omega) hO).mono ?_; rintro e w1 ⟨rfl, Z2, hZ2, hO⟩
      go_wp2_with fail
      go_ret
      obtain ⟨I, M2, hM2, rfl⟩ := hR.back
      refine ⟨sa, cap, srt done, Z2, _, by rw [srt_length]; rfl, (srt_perm done).trans hperm, srt_rise hR.nodup.1, by rw [srt_length]; exact hZ2, ⟨la, lc, mb, S, M2, hSS, hM2, rfl⟩, ?_⟩
      exact hO.as _
    · intro k v w2 A2 hR2 hO hen
      simp only [Act.put, List.setIfInBounds_toArray, List.set_cons_zero, List.set_cons_succ]
      clear hF
      ((try simp only [List.nil_append, List.append_nil] at hO); have hF := Own.cells hO; simp only [cellsOf_append, cellsOf_pt] at hF)
      go_wp2_with (first | (refine at_bs ?_; go_must (refine own_build1 (v := ?_) sltInts hO ?_ ?_ ?_ ?_ ?_ ?_; rotate_left; (· rfl); (· ((conv => lhs; whnf); try exact rfl)); (· rfl); (· decide); (· decide); clear hO; (try clear hF); intro bs _ hO; (try simp only [Value.cells] at hO); ((try simp only [List.nil_append, List.append_nil] at hO); have hF := Own.cells hO; simp only [cellsOf_append, cellsOf_pt] at hF); simp only [Act.put, List.setIfInBounds_toArray, List.set_cons_zero, List.set_cons_succ])) | (refine at_append ?_; go_must (refine own_append_elem (b1 := ?_) (cs := ?_) (e1 := ?_) (f1 := ?_) sltInts hO ?_ ?_ ?_ hZ ?_ ?_ ?_ ?_ ?_ ?_ ?_; rotate_left 4; (· rfl); (· rfl); (· rfl); (· exact inferInstance); (· rfl); (· intro u hu; simp at hu; subst hu; rfl); (· first | omega | (simp only [maxLen]; omega)); (· decide); (· first | omega | (simp only [maxLen]; omega)); clear hO; (try clear hF); intro _ _ _ _ hS hO; ((try simp only [List.nil_append, List.append_nil] at hO); have hF := Own.cells hO; simp only [cellsOf_append, cellsOf_pt] at hF); simp only [Act.put, List.setIfInBounds_toArray, List.set_cons_zero, List.set_cons_succ])))
      have hlen1 : (done ++ [k]).length = done.length + 1 := by simp
      have hle2 := hR2.le
      go_roundw
      case rel => exact ⟨done ++ [k], _, _, _, A2, by rw [hlen1], (by rw [hlen1, List.map_append]; exact hS), hR2, hO.as _⟩
      case measure => simp [slN]; omega
end Go.Proofs.Ytkfkcloefgfkaaa

/- The pool's contracts: Flush. -/
namespace Go.Proofs.Ytkfkcloefgfkaaa
open Go Go.RowKit Go.Own Go.Dk

def FlushPost (E : World) (J : Nat → Prop) (F0 : List UInt8) (p d most N : Nat) (cont : Nat → List UInt8) (pins : Nat → Nat) (R : Fr) (e : Ending) (w' : World) : Prop :=
  e = .returned (.int .i64 0) ∧ ∃ hand fs l rs P D, PoolP p d most hand fs l P ∧ PInv most fs l (play rs 1) cont pins ∧ DiskAt d rs D ∧ (hand < fs.length ∨ hand = 0) ∧ rs.length + chg fs ≤ N ∧ JI J F0 rs cont ∧ (∀ f ∈ fs, f.changed = false) ∧ Own E w' (P ++ (D ++ R))
theorem wrR_len (rs : List Raw) (pre post : List Frm) (f : Frm) : (wrR rs f).length + chg (pre ++ { f with changed := false } :: post) = rs.length + chg (pre ++ f :: post) := by
  unfold wrR
  rw [chg_app, chg_cons, chg_app, chg_cons]
  cases hc : f.changed <;> simp
  omega

set_option maxRecDepth 100000 in
set_option maxHeartbeats 16000000 in
theorem pFlush (E w : World) (X R A : Fr) (p d most N : Nat) (cont : Nat → List UInt8) (pins : Nat → Nat) {J : Nat → Prop} {F0 : List UInt8} (hS : PoolS J F0 p d most N cont pins A) (hm : 0 < most) (hm2 : most ≤ 1024) (hNN : N ≤ 8796093022208) (hO : Own E w X) [hp : Pick X A R] :
    Calls Try.prog 110 #[.pointer (some ⟨p, 0, none⟩)] w (FlushPost E J F0 p d most N cont pins R) := by
  obtain ⟨hand, fs, l, rs, P, D, hP, hI, hD, hh, hN, hJ, rfl⟩ := hS
  replace hO := hO.perm hp.perm
  clear hp
  have hll : l.length = fs.length := by rw [hI.perm.length_eq, List.length_map]
  have hfl := hI.len
  go_enter Try.func110, Try.ntmps110
  go_wp2_with fail
  refine (pGiven E _ _ _ P p d most hand _ l hP hm hO).mono ?_; rintro e w1 ⟨rfl, rfl⟩
  go_wp2_with fail
  refine (pHeld E _ _ _ P p d most hand fs l hP (by omega) hm hO).mono ?_; rintro e w1 ⟨sa, cap, hs, S, P1, rfl, hperm, hrise, hS, hP1, hO⟩
  have hsl : hs.length = fs.length := by rw [hperm.length_eq, List.length_map, hll]
  have hsi : (hs.length : Int) ≤ 1024 := by omega
  have hin : ∀ k ∈ hs, ∃ f ∈ fs, (f.page : Int) = k := by
    intro k hk
    obtain ⟨q, hq, rfl⟩ := List.mem_map.1 (hperm.mem_iff.1 hk)
    obtain ⟨f, hf, rfl⟩ := List.mem_map.1 (hI.perm.mem_iff.1 hq)
    exact ⟨f, hf, rfl⟩
  have hin2 : ∀ f ∈ fs, (f.page : Int) ∈ hs := by
    intro f hf
    refine hperm.mem_iff.2 (List.mem_map.2 ⟨pairV f, hI.perm.mem_iff.2 (List.mem_map.2 ⟨f, hf, rfl⟩), rfl⟩)
  have HIN := Lib.hid hin
  have HIN2 := Lib.hid hin2
  have hO1 := hO
  clear hin hin2 hO hrise
  go_wp2_with fail
  go_loopw [11] (fun i wr => ∃ (j : Nat) (gs : List Frm) (rs : List Raw) (P D : Fr), i = .int .i64 j ∧ j ≤ hs.length ∧ PoolP p d most hand gs l P ∧ PInv most gs l (play rs 1) cont pins ∧ DiskAt d rs D ∧ rs.length + chg gs ≤ N ∧ JI J F0 rs cont ∧ gs.map (·.page) = fs.map (·.page) ∧
      (∀ f ∈ gs, (f.page : Int) ∈ hs.take j → f.changed = false) ∧ Own E wr (P ++ (D ++ (S ++ R)))) (fun i _ => hs.length - (intOf i).toNat)
  case atStart => exact ⟨0, fs, rs, P1, D, rfl, by omega, hP1, hI, hD, hN, hJ, rfl, fun f _ h => by simp at h, hO1.as _⟩
  case round =>
    clear hO1 hP hP1 hD hI hN hJ
    obtain ⟨j, gs, rs, P, D, rfl, hj, hP, hI, hD, hN, hJ, hpgs, hdone, hO⟩ := hrel
    by_cases hlt : j < hs.length
    · have hj1 : (j : Int) < hs.length := by omega
      have hj2 : (0 : Int) ≤ j := by omega
      obtain ⟨sb, rfl⟩ := sl_some4 hS (by omega)
      have hcell : wr.cell? ⟨sb, j, none⟩ = some (.int .i64 hs[j]) := by
        have := hS.cell hO ⟨sb, 0, none⟩ rfl j (by simpa using hlt)
        rw [add_lit, Nat.zero_add] at this
        rw [this]
        simp
      obtain ⟨f0, hf0, hf1⟩ := HIN.out hs[j] (List.getElem_mem _)
      have hgm : f0.page ∈ gs.map (·.page) := by rw [hpgs]; exact List.mem_map.2 ⟨f0, hf0, rfl⟩
      obtain ⟨f, hf, hfp⟩ := List.mem_map.1 hgm
      have hfk : (f.page : Int) = hs[j] := by rw [hfp, hf1]
      obtain ⟨pre, post, rfl⟩ := List.append_of_mem hf
      have hl := hI.look_in (f := f) (by simp)
      rw [hfk] at hl
      unfold ptrV at hl
      have hfb := (hI.pg f (by simp)).2.1
      have hfl : f.bytes.length = 512 := by rw [hfb]; exact hI.clen _
      have hpl := (hI.pg f (by simp)).1
      have HD := Lib.hid hdone
      have HK := Lib.hid hfk
      have HPG := Lib.hid hpgs
      clear hfb hf0 hf1 hgm hf hfp hfk hdone hpgs
      generalize hk : hs[j] = k at hcell hl HK
      have hP0 := hP
      obtain ⟨la, lc, mb, S1, M, hSS, hM, rfl⟩ := hP
      ((try simp only [List.nil_append, List.append_nil] at hO); have hF := Own.cells hO; simp only [cellsOf_append, cellsOf_pt] at hF)
      go_wp2_with (refine at_lookup ?_; go_must (refine own_lookup (kt := 3) (et := 170) (b := mb) (k := k) (l := l) (by kernel_rfl) (by kernel_rfl) zeroFP hO hM ?_ ?_ ?_ ?_; (· rfl); (· rfl); (· rfl); rw [hl]; simp only [Act.put, List.setIfInBounds_toArray, List.set_cons_zero, List.set_cons_succ]))
      refine (pWr E _ _ _ _ D p d most hand pre post f l rs hP0 hD hfl hpl (by omega) hO).mono ?_; rintro e w1 ⟨rfl, P2, D2, hP2, hD2, hO⟩
      go_wp2_with fail
      go_roundw
      case rel =>
        have hne := nodup_mid hI.nodup
        refine ⟨j + 1, pre ++ { f with changed := false } :: post, wrR rs f, P2, D2, by go_num, by omega, hP2, hI.wr rs rfl, hD2, by rw [wrR_len]; exact hN, hJ.wr hpl hI, ?_, ?_, hO.as _⟩
        · rw [← HPG.out]
          simp
        · intro g hg hgt
          have hg' : g = { f with changed := false } ∨ g ∈ pre ++ post := by
            simp at hg ⊢
            rcases hg with h | h | h <;> simp [h]
          rcases hg' with rfl | hg'
          · rfl
          · rw [List.take_succ_eq_append_getElem hlt, hk] at hgt
            rcases List.mem_append.1 hgt with h | h
            · refine HD.out g ?_ h
              simp at hg' ⊢
              rcases hg' with h | h <;> simp [h]
            · have h1 := List.mem_singleton.1 h
              rw [← HK.out] at h1
              exact absurd (Int.ofNat.inj h1) (hne g hg')
      case measure => simp [intOf]; omega
    · have hlt' : ¬ (j : Int) < hs.length := by omega
      go_wp2_with fail
      go_ret
      refine ⟨rfl, hand, gs, l, rs, P, D, hP, hI, hD, ?_, hN, hJ, ?_, hO.as _⟩
      · have := congrArg List.length hpgs
        simp only [List.length_map] at this
        rw [this]
        exact hh
      · intro f hf
        refine hdone f hf ?_
        rw [List.take_of_length_le (by omega)]
        have : f.page ∈ fs.map (·.page) := by rw [← hpgs]; exact List.mem_map.2 ⟨f, hf, rfl⟩
        obtain ⟨g, hg, e⟩ := List.mem_map.1 this
        rw [← e]
        exact HIN2.out g hg
end Go.Proofs.Ytkfkcloefgfkaaa

/- Space: numbers of four bytes. -/
namespace Go.Proofs.Ytkfkcloefgfkaaa
open Go Go.RowKit Go.Own Go.Dk

/-- Bytes that lie there, whatever happens elsewhere. -/
def BytesIn (E : World) (I : Fr) (sa : Option Addr) (l : List UInt8) : Prop := ∀ w, Own E w I → ∀ i (h : i < l.length), ∃ ad, sa = some ad ∧ w.cell? (ad.add i) = some (.int .u8 (l[i].toNat : Int))
theorem wrap_u (n : Nat) (h : n < 4611686018427387904) : IntKind.i64.wrap (n : Int) = (n : Int) := by
  simp only [IntKind.wrap, show IntKind.bits .i64 = 64 from rfl, show IntKind.signed .i64 = true from rfl]
  rw [Int.emod_eq_of_lt (by omega) (by omega), if_neg (by simp; omega)]
theorem or_u (a b i : Nat) (ha : a % 2 ^ i = 0) (hb : b < 2 ^ i) (hs : a + b < 4611686018427387904) : bits .or .i64 (a : Int) (b : Int) = ((a + b : Nat) : Int) := by
  have hw : ∀ m : Int, 0 ≤ m → m < 2 ^ 62 → IntKind.i64.wrap m = m := by
    intro m h0 h1
    obtain ⟨n, rfl⟩ : ∃ n : Nat, m = n := ⟨m.toNat, by omega⟩
    exact wrap_u n (by omega)
  rw [(bits_nat .i64 62 (by decide) hw a b (by omega) (by omega)).2]
  congr 1
  have h := Nat.two_pow_add_eq_or_of_lt (i := i) (b := b) hb (a / 2 ^ i)
  have h2 : 2 ^ i * (a / 2 ^ i) = a := by have := Nat.div_add_mod a (2 ^ i); omega
  rw [h2] at h
  exact h.symm
theorem num_or (b0 b1 b2 b3 : UInt8) : bits .or .i64 (bits .or .i64 (bits .or .i64 (IntKind.i64.wrap (IntKind.i64.wrap (b0.toNat : Int) * 16777216)) (IntKind.i64.wrap (IntKind.i64.wrap (b1.toNat : Int) * 65536))) (IntKind.i64.wrap (IntKind.i64.wrap (b2.toNat : Int) * 256))) (IntKind.i64.wrap (b3.toNat : Int)) = ((((b0.toNat * 256 + b1.toNat) * 256 + b2.toNat) * 256 + b3.toNat : Nat) : Int) := by
  have l0 := b0.toNat_lt
  have l1 := b1.toNat_lt
  have l2 := b2.toNat_lt
  have l3 := b3.toNat_lt
  have e (b : UInt8) (k : Nat) (hk : k ≤ 16777216) : IntKind.i64.wrap (IntKind.i64.wrap (b.toNat : Int) * (k : Int)) = ((b.toNat * k : Nat) : Int) := by
    have lb := b.toNat_lt
    have := Nat.mul_le_mul (Nat.le_of_lt lb) hk
    rw [wrap_u b.toNat (by omega), ← Int.natCast_mul, wrap_u _ (by omega)]
  have e0 := e b0 16777216 (by omega)
  have e1 := e b1 65536 (by omega)
  have e2 := e b2 256 (by omega)
  rw [show ((16777216 : Nat) : Int) = 16777216 from rfl] at e0
  rw [show ((65536 : Nat) : Int) = 65536 from rfl] at e1
  rw [show ((256 : Nat) : Int) = 256 from rfl] at e2
  rw [e0, e1, e2, wrap_u b3.toNat (by omega), or_u _ _ 24 (by omega) (by omega) (by omega), or_u _ _ 16 (by omega) (by omega) (by omega), or_u _ _ 8 (by omega) (by omega) (by omega)]
  omega
set_option maxRecDepth 100000 in
set_option maxHeartbeats 16000000 in
theorem sNumber (E w : World) (X R I : Fr) (sa : Option Addr) (n cap : Nat) (b0 b1 b2 b3 : UInt8) (r : List UInt8) (hn : n = (b0 :: b1 :: b2 :: b3 :: r).length) (hB : BytesIn E I sa (b0 :: b1 :: b2 :: b3 :: r)) (hO : Own E w X) [hp : Pick X I R] :
    Calls Try.prog 57 #[.slice sa n cap] w fun e w' => e = .returned (.int .i64 (val4 (b0 :: b1 :: b2 :: b3 :: r) : Nat)) ∧ Own E w' (I ++ R) := by
  replace hO := hO.perm hp.perm
  clear hp
  obtain ⟨ad, rfl, -⟩ := hB w (hO.as I) 0 (by simp)
  have hc : ∀ w', Own E w' I → w'.cell? ad = some (.int .u8 (b0.toNat : Int)) ∧ w'.cell? (ad.add 1) = some (.int .u8 (b1.toNat : Int)) ∧ w'.cell? (ad.add 2) = some (.int .u8 (b2.toNat : Int)) ∧ w'.cell? (ad.add 3) = some (.int .u8 (b3.toNat : Int)) := fun w' h => by
    have hg : ∀ i (hi : i < (b0 :: b1 :: b2 :: b3 :: r).length), w'.cell? (ad.add i) = some (.int .u8 ((b0 :: b1 :: b2 :: b3 :: r)[i].toNat : Int)) := fun i hi => by
      obtain ⟨_, h1, h2⟩ := hB w' h i hi
      cases h1
      exact h2
    refine ⟨?_, hg 1 (by simp), hg 2 (by simp), hg 3 (by simp)⟩
    have := hg 0 (by simp)
    simpa [Addr.add] using this
  have hn4 : (4 : Int) ≤ n := by subst hn; simp; omega
  have h0 : (0 : Int) < n := by omega
  have h1 : (1 : Int) < n := by omega
  have h2 : (2 : Int) < n := by omega
  have h3 : (3 : Int) < n := by omega
  have g0 : 0 < n := by omega
  have g1 : 1 < n := by omega
  have g2 : 2 < n := by omega
  have g3 : 3 < n := by omega
  clear hn hB
  go_enter Try.func57, Try.ntmps57
  go_wp2_with fail
  (try (go_wp2_with fail))
  refine region_sch (fun w' => Own E w' (I)) (.look 0 (.look 1 (.look 2 (.look 3 (.look 4 (.look 5 (.look 6 (.look 7 (.look 8 (.look 9 (.look 10 (.look 11 (.look 12 (.look 13 (.look 14 (.look 15 (.look 16 (.look 17 (.look 18 (.look 19 (.look 20 (.look 21 (.look 22 .done))))))))))))))))))))))) (by kernel_rfl) (by kernel_rfl) (fun _ _ d _ _ h => by cases d <;> exact h) ?_ ?_
  · exact hO.drew.as _
  replace hO := hO.drew
  generalize World.drew _ = wdr at hO ⊢
  first | (refine sch_look (o := ?_) (v := ?_) ?_ ?_ ?_ ?_; rotate_left 2; (· ((conv => lhs; whnf); try exact rfl)); (· rfl); (· intro w' hO'; obtain ⟨hc0, hc1, hc2, hc3⟩ := hc w' hO'; simp [Addr.add] at hc1 hc2 hc3; go_simp; (try exact rfl)); simp only [Act.put, List.setIfInBounds_toArray, List.set_cons_zero, List.set_cons_succ]) | (refine sch_pass (o := ?_) ?_ ?_ ?_; rotate_left; (· ((conv => lhs; whnf); try exact rfl)); (· rfl); simp only [Act.put, List.setIfInBounds_toArray, List.set_cons_zero, List.set_cons_succ]) | (refine sch_look (o := ?_) (v := .agg ?_) ?_ ?_ ?_ ?_; rotate_left 2; (· ((conv => lhs; whnf); try exact rfl)); (· rfl); (· intro w' hO'; refine run_opLoadS (b := ?_) (cs := ?_) (e := ?_) (f := ?_) hO' ?_ ?_ ?_ ?_; rotate_left 4; (· exact rfl); (· exact inferInstance); (· simp; done); (· simp; done)); simp only [Act.put, List.setIfInBounds_toArray, List.set_cons_zero, List.set_cons_succ])
  first | (refine sch_look (o := ?_) (v := ?_) ?_ ?_ ?_ ?_; rotate_left 2; (· ((conv => lhs; whnf); try exact rfl)); (· rfl); (· intro w' hO'; obtain ⟨hc0, hc1, hc2, hc3⟩ := hc w' hO'; simp [Addr.add] at hc1 hc2 hc3; go_simp; (try exact rfl)); simp only [Act.put, List.setIfInBounds_toArray, List.set_cons_zero, List.set_cons_succ]) | (refine sch_pass (o := ?_) ?_ ?_ ?_; rotate_left; (· ((conv => lhs; whnf); try exact rfl)); (· rfl); simp only [Act.put, List.setIfInBounds_toArray, List.set_cons_zero, List.set_cons_succ]) | (refine sch_look (o := ?_) (v := .agg ?_) ?_ ?_ ?_ ?_; rotate_left 2; (· ((conv => lhs; whnf); try exact rfl)); (· rfl); (· intro w' hO'; refine run_opLoadS (b := ?_) (cs := ?_) (e := ?_) (f := ?_) hO' ?_ ?_ ?_ ?_; rotate_left 4; (· exact rfl); (· exact inferInstance); (· simp; done); (· simp; done)); simp only [Act.put, List.setIfInBounds_toArray, List.set_cons_zero, List.set_cons_succ])
  first | (refine sch_look (o := ?_) (v := ?_) ?_ ?_ ?_ ?_; rotate_left 2; (· ((conv => lhs; whnf); try exact rfl)); (· rfl); (· intro w' hO'; obtain ⟨hc0, hc1, hc2, hc3⟩ := hc w' hO'; simp [Addr.add] at hc1 hc2 hc3; go_simp; (try exact rfl)); simp only [Act.put, List.setIfInBounds_toArray, List.set_cons_zero, List.set_cons_succ]) | (refine sch_pass (o := ?_) ?_ ?_ ?_; rotate_left; (· ((conv => lhs; whnf); try exact rfl)); (· rfl); simp only [Act.put, List.setIfInBounds_toArray, List.set_cons_zero, List.set_cons_succ]) | (refine sch_look (o := ?_) (v := .agg ?_) ?_ ?_ ?_ ?_; rotate_left 2; (· ((conv => lhs; whnf); try exact rfl)); (· rfl); (· intro w' hO'; refine run_opLoadS (b := ?_) (cs := ?_) (e := ?_) (f := ?_) hO' ?_ ?_ ?_ ?_; rotate_left 4; (· exact rfl); (· exact inferInstance); (· simp; done); (· simp; done)); simp only [Act.put, List.setIfInBounds_toArray, List.set_cons_zero, List.set_cons_succ])
  first | (refine sch_look (o := ?_) (v := ?_) ?_ ?_ ?_ ?_; rotate_left 2; (· ((conv => lhs; whnf); try exact rfl)); (· rfl); (· intro w' hO'; obtain ⟨hc0, hc1, hc2, hc3⟩ := hc w' hO'; simp [Addr.add] at hc1 hc2 hc3; go_simp; (try exact rfl)); simp only [Act.put, List.setIfInBounds_toArray, List.set_cons_zero, List.set_cons_succ]) | (refine sch_pass (o := ?_) ?_ ?_ ?_; rotate_left; (· ((conv => lhs; whnf); try exact rfl)); (· rfl); simp only [Act.put, List.setIfInBounds_toArray, List.set_cons_zero, List.set_cons_succ]) | (refine sch_look (o := ?_) (v := .agg ?_) ?_ ?_ ?_ ?_; rotate_left 2; (· ((conv => lhs; whnf); try exact rfl)); (· rfl); (· intro w' hO'; refine run_opLoadS (b := ?_) (cs := ?_) (e := ?_) (f := ?_) hO' ?_ ?_ ?_ ?_; rotate_left 4; (· exact rfl); (· exact inferInstance); (· simp; done); (· simp; done)); simp only [Act.put, List.setIfInBounds_toArray, List.set_cons_zero, List.set_cons_succ])
  first | (refine sch_look (o := ?_) (v := ?_) ?_ ?_ ?_ ?_; rotate_left 2; (· ((conv => lhs; whnf); try exact rfl)); (· rfl); (· intro w' hO'; obtain ⟨hc0, hc1, hc2, hc3⟩ := hc w' hO'; simp [Addr.add] at hc1 hc2 hc3; go_simp; (try exact rfl)); simp only [Act.put, List.setIfInBounds_toArray, List.set_cons_zero, List.set_cons_succ]) | (refine sch_pass (o := ?_) ?_ ?_ ?_; rotate_left; (· ((conv => lhs; whnf); try exact rfl)); (· rfl); simp only [Act.put, List.setIfInBounds_toArray, List.set_cons_zero, List.set_cons_succ]) | (refine sch_look (o := ?_) (v := .agg ?_) ?_ ?_ ?_ ?_; rotate_left 2; (· ((conv => lhs; whnf); try exact rfl)); (· rfl); (· intro w' hO'; refine run_opLoadS (b := ?_) (cs := ?_) (e := ?_) (f := ?_) hO' ?_ ?_ ?_ ?_; rotate_left 4; (· exact rfl); (· exact inferInstance); (· simp; done); (· simp; done)); simp only [Act.put, List.setIfInBounds_toArray, List.set_cons_zero, List.set_cons_succ])
  first | (refine sch_look (o := ?_) (v := ?_) ?_ ?_ ?_ ?_; rotate_left 2; (· ((conv => lhs; whnf); try exact rfl)); (· rfl); (· intro w' hO'; obtain ⟨hc0, hc1, hc2, hc3⟩ := hc w' hO'; simp [Addr.add] at hc1 hc2 hc3; go_simp; (try exact rfl)); simp only [Act.put, List.setIfInBounds_toArray, List.set_cons_zero, List.set_cons_succ]) | (refine sch_pass (o := ?_) ?_ ?_ ?_; rotate_left; (· ((conv => lhs; whnf); try exact rfl)); (· rfl); simp only [Act.put, List.setIfInBounds_toArray, List.set_cons_zero, List.set_cons_succ]) | (refine sch_look (o := ?_) (v := .agg ?_) ?_ ?_ ?_ ?_; rotate_left 2; (· ((conv => lhs; whnf); try exact rfl)); (· rfl); (· intro w' hO'; refine run_opLoadS (b := ?_) (cs := ?_) (e := ?_) (f := ?_) hO' ?_ ?_ ?_ ?_; rotate_left 4; (· exact rfl); (· exact inferInstance); (· simp; done); (· simp; done)); simp only [Act.put, List.setIfInBounds_toArray, List.set_cons_zero, List.set_cons_succ])
  first | (refine sch_look (o := ?_) (v := ?_) ?_ ?_ ?_ ?_; rotate_left 2; (· ((conv => lhs; whnf); try exact rfl)); (· rfl); (· intro w' hO'; obtain ⟨hc0, hc1, hc2, hc3⟩ := hc w' hO'; simp [Addr.add] at hc1 hc2 hc3; go_simp; (try exact rfl)); simp only [Act.put, List.setIfInBounds_toArray, List.set_cons_zero, List.set_cons_succ]) | (refine sch_pass (o := ?_) ?_ ?_ ?_; rotate_left; (· ((conv => lhs; whnf); try exact rfl)); (· rfl); simp only [Act.put, List.setIfInBounds_toArray, List.set_cons_zero, List.set_cons_succ]) | (refine sch_look (o := ?_) (v := .agg ?_) ?_ ?_ ?_ ?_; rotate_left 2; (· ((conv => lhs; whnf); try exact rfl)); (· rfl); (· intro w' hO'; refine run_opLoadS (b := ?_) (cs := ?_) (e := ?_) (f := ?_) hO' ?_ ?_ ?_ ?_; rotate_left 4; (· exact rfl); (· exact inferInstance); (· simp; done); (· simp; done)); simp only [Act.put, List.setIfInBounds_toArray, List.set_cons_zero, List.set_cons_succ])
  first | (refine sch_look (o := ?_) (v := ?_) ?_ ?_ ?_ ?_; rotate_left 2; (· ((conv => lhs; whnf); try exact rfl)); (· rfl); (· intro w' hO'; obtain ⟨hc0, hc1, hc2, hc3⟩ := hc w' hO'; simp [Addr.add] at hc1 hc2 hc3; go_simp; (try exact rfl)); simp only [Act.put, List.setIfInBounds_toArray, List.set_cons_zero, List.set_cons_succ]) | (refine sch_pass (o := ?_) ?_ ?_ ?_; rotate_left; (· ((conv => lhs; whnf); try exact rfl)); (· rfl); simp only [Act.put, List.setIfInBounds_toArray, List.set_cons_zero, List.set_cons_succ]) | (refine sch_look (o := ?_) (v := .agg ?_) ?_ ?_ ?_ ?_; rotate_left 2; (· ((conv => lhs; whnf); try exact rfl)); (· rfl); (· intro w' hO'; refine run_opLoadS (b := ?_) (cs := ?_) (e := ?_) (f := ?_) hO' ?_ ?_ ?_ ?_; rotate_left 4; (· exact rfl); (· exact inferInstance); (· simp; done); (· simp; done)); simp only [Act.put, List.setIfInBounds_toArray, List.set_cons_zero, List.set_cons_succ])
  first | (refine sch_look (o := ?_) (v := ?_) ?_ ?_ ?_ ?_; rotate_left 2; (· ((conv => lhs; whnf); try exact rfl)); (· rfl); (· intro w' hO'; obtain ⟨hc0, hc1, hc2, hc3⟩ := hc w' hO'; simp [Addr.add] at hc1 hc2 hc3; go_simp; (try exact rfl)); simp only [Act.put, List.setIfInBounds_toArray, List.set_cons_zero, List.set_cons_succ]) | (refine sch_pass (o := ?_) ?_ ?_ ?_; rotate_left; (· ((conv => lhs; whnf); try exact rfl)); (· rfl); simp only [Act.put, List.setIfInBounds_toArray, List.set_cons_zero, List.set_cons_succ]) | (refine sch_look (o := ?_) (v := .agg ?_) ?_ ?_ ?_ ?_; rotate_left 2; (· ((conv => lhs; whnf); try exact rfl)); (· rfl); (· intro w' hO'; refine run_opLoadS (b := ?_) (cs := ?_) (e := ?_) (f := ?_) hO' ?_ ?_ ?_ ?_; rotate_left 4; (· exact rfl); (· exact inferInstance); (· simp; done); (· simp; done)); simp only [Act.put, List.setIfInBounds_toArray, List.set_cons_zero, List.set_cons_succ])
  first | (refine sch_look (o := ?_) (v := ?_) ?_ ?_ ?_ ?_; rotate_left 2; (· ((conv => lhs; whnf); try exact rfl)); (· rfl); (· intro w' hO'; obtain ⟨hc0, hc1, hc2, hc3⟩ := hc w' hO'; simp [Addr.add] at hc1 hc2 hc3; go_simp; (try exact rfl)); simp only [Act.put, List.setIfInBounds_toArray, List.set_cons_zero, List.set_cons_succ]) | (refine sch_pass (o := ?_) ?_ ?_ ?_; rotate_left; (· ((conv => lhs; whnf); try exact rfl)); (· rfl); simp only [Act.put, List.setIfInBounds_toArray, List.set_cons_zero, List.set_cons_succ]) | (refine sch_look (o := ?_) (v := .agg ?_) ?_ ?_ ?_ ?_; rotate_left 2; (· ((conv => lhs; whnf); try exact rfl)); (· rfl); (· intro w' hO'; refine run_opLoadS (b := ?_) (cs := ?_) (e := ?_) (f := ?_) hO' ?_ ?_ ?_ ?_; rotate_left 4; (· exact rfl); (· exact inferInstance); (· simp; done); (· simp; done)); simp only [Act.put, List.setIfInBounds_toArray, List.set_cons_zero, List.set_cons_succ])
  first | (refine sch_look (o := ?_) (v := ?_) ?_ ?_ ?_ ?_; rotate_left 2; (· ((conv => lhs; whnf); try exact rfl)); (· rfl); (· intro w' hO'; obtain ⟨hc0, hc1, hc2, hc3⟩ := hc w' hO'; simp [Addr.add] at hc1 hc2 hc3; go_simp; (try exact rfl)); simp only [Act.put, List.setIfInBounds_toArray, List.set_cons_zero, List.set_cons_succ]) | (refine sch_pass (o := ?_) ?_ ?_ ?_; rotate_left; (· ((conv => lhs; whnf); try exact rfl)); (· rfl); simp only [Act.put, List.setIfInBounds_toArray, List.set_cons_zero, List.set_cons_succ]) | (refine sch_look (o := ?_) (v := .agg ?_) ?_ ?_ ?_ ?_; rotate_left 2; (· ((conv => lhs; whnf); try exact rfl)); (· rfl); (· intro w' hO'; refine run_opLoadS (b := ?_) (cs := ?_) (e := ?_) (f := ?_) hO' ?_ ?_ ?_ ?_; rotate_left 4; (· exact rfl); (· exact inferInstance); (· simp; done); (· simp; done)); simp only [Act.put, List.setIfInBounds_toArray, List.set_cons_zero, List.set_cons_succ])
  first | (refine sch_look (o := ?_) (v := ?_) ?_ ?_ ?_ ?_; rotate_left 2; (· ((conv => lhs; whnf); try exact rfl)); (· rfl); (· intro w' hO'; obtain ⟨hc0, hc1, hc2, hc3⟩ := hc w' hO'; simp [Addr.add] at hc1 hc2 hc3; go_simp; (try exact rfl)); simp only [Act.put, List.setIfInBounds_toArray, List.set_cons_zero, List.set_cons_succ]) | (refine sch_pass (o := ?_) ?_ ?_ ?_; rotate_left; (· ((conv => lhs; whnf); try exact rfl)); (· rfl); simp only [Act.put, List.setIfInBounds_toArray, List.set_cons_zero, List.set_cons_succ]) | (refine sch_look (o := ?_) (v := .agg ?_) ?_ ?_ ?_ ?_; rotate_left 2; (· ((conv => lhs; whnf); try exact rfl)); (· rfl); (· intro w' hO'; refine run_opLoadS (b := ?_) (cs := ?_) (e := ?_) (f := ?_) hO' ?_ ?_ ?_ ?_; rotate_left 4; (· exact rfl); (· exact inferInstance); (· simp; done); (· simp; done)); simp only [Act.put, List.setIfInBounds_toArray, List.set_cons_zero, List.set_cons_succ])
  first | (refine sch_look (o := ?_) (v := ?_) ?_ ?_ ?_ ?_; rotate_left 2; (· ((conv => lhs; whnf); try exact rfl)); (· rfl); (· intro w' hO'; obtain ⟨hc0, hc1, hc2, hc3⟩ := hc w' hO'; simp [Addr.add] at hc1 hc2 hc3; go_simp; (try exact rfl)); simp only [Act.put, List.setIfInBounds_toArray, List.set_cons_zero, List.set_cons_succ]) | (refine sch_pass (o := ?_) ?_ ?_ ?_; rotate_left; (· ((conv => lhs; whnf); try exact rfl)); (· rfl); simp only [Act.put, List.setIfInBounds_toArray, List.set_cons_zero, List.set_cons_succ]) | (refine sch_look (o := ?_) (v := .agg ?_) ?_ ?_ ?_ ?_; rotate_left 2; (· ((conv => lhs; whnf); try exact rfl)); (· rfl); (· intro w' hO'; refine run_opLoadS (b := ?_) (cs := ?_) (e := ?_) (f := ?_) hO' ?_ ?_ ?_ ?_; rotate_left 4; (· exact rfl); (· exact inferInstance); (· simp; done); (· simp; done)); simp only [Act.put, List.setIfInBounds_toArray, List.set_cons_zero, List.set_cons_succ])
  first | (refine sch_look (o := ?_) (v := ?_) ?_ ?_ ?_ ?_; rotate_left 2; (· ((conv => lhs; whnf); try exact rfl)); (· rfl); (· intro w' hO'; obtain ⟨hc0, hc1, hc2, hc3⟩ := hc w' hO'; simp [Addr.add] at hc1 hc2 hc3; go_simp; (try exact rfl)); simp only [Act.put, List.setIfInBounds_toArray, List.set_cons_zero, List.set_cons_succ]) | (refine sch_pass (o := ?_) ?_ ?_ ?_; rotate_left; (· ((conv => lhs; whnf); try exact rfl)); (· rfl); simp only [Act.put, List.setIfInBounds_toArray, List.set_cons_zero, List.set_cons_succ]) | (refine sch_look (o := ?_) (v := .agg ?_) ?_ ?_ ?_ ?_; rotate_left 2; (· ((conv => lhs; whnf); try exact rfl)); (· rfl); (· intro w' hO'; refine run_opLoadS (b := ?_) (cs := ?_) (e := ?_) (f := ?_) hO' ?_ ?_ ?_ ?_; rotate_left 4; (· exact rfl); (· exact inferInstance); (· simp; done); (· simp; done)); simp only [Act.put, List.setIfInBounds_toArray, List.set_cons_zero, List.set_cons_succ])
  first | (refine sch_look (o := ?_) (v := ?_) ?_ ?_ ?_ ?_; rotate_left 2; (· ((conv => lhs; whnf); try exact rfl)); (· rfl); (· intro w' hO'; obtain ⟨hc0, hc1, hc2, hc3⟩ := hc w' hO'; simp [Addr.add] at hc1 hc2 hc3; go_simp; (try exact rfl)); simp only [Act.put, List.setIfInBounds_toArray, List.set_cons_zero, List.set_cons_succ]) | (refine sch_pass (o := ?_) ?_ ?_ ?_; rotate_left; (· ((conv => lhs; whnf); try exact rfl)); (· rfl); simp only [Act.put, List.setIfInBounds_toArray, List.set_cons_zero, List.set_cons_succ]) | (refine sch_look (o := ?_) (v := .agg ?_) ?_ ?_ ?_ ?_; rotate_left 2; (· ((conv => lhs; whnf); try exact rfl)); (· rfl); (· intro w' hO'; refine run_opLoadS (b := ?_) (cs := ?_) (e := ?_) (f := ?_) hO' ?_ ?_ ?_ ?_; rotate_left 4; (· exact rfl); (· exact inferInstance); (· simp; done); (· simp; done)); simp only [Act.put, List.setIfInBounds_toArray, List.set_cons_zero, List.set_cons_succ])
  first | (refine sch_look (o := ?_) (v := ?_) ?_ ?_ ?_ ?_; rotate_left 2; (· ((conv => lhs; whnf); try exact rfl)); (· rfl); (· intro w' hO'; obtain ⟨hc0, hc1, hc2, hc3⟩ := hc w' hO'; simp [Addr.add] at hc1 hc2 hc3; go_simp; (try exact rfl)); simp only [Act.put, List.setIfInBounds_toArray, List.set_cons_zero, List.set_cons_succ]) | (refine sch_pass (o := ?_) ?_ ?_ ?_; rotate_left; (· ((conv => lhs; whnf); try exact rfl)); (· rfl); simp only [Act.put, List.setIfInBounds_toArray, List.set_cons_zero, List.set_cons_succ]) | (refine sch_look (o := ?_) (v := .agg ?_) ?_ ?_ ?_ ?_; rotate_left 2; (· ((conv => lhs; whnf); try exact rfl)); (· rfl); (· intro w' hO'; refine run_opLoadS (b := ?_) (cs := ?_) (e := ?_) (f := ?_) hO' ?_ ?_ ?_ ?_; rotate_left 4; (· exact rfl); (· exact inferInstance); (· simp; done); (· simp; done)); simp only [Act.put, List.setIfInBounds_toArray, List.set_cons_zero, List.set_cons_succ])
  first | (refine sch_look (o := ?_) (v := ?_) ?_ ?_ ?_ ?_; rotate_left 2; (· ((conv => lhs; whnf); try exact rfl)); (· rfl); (· intro w' hO'; obtain ⟨hc0, hc1, hc2, hc3⟩ := hc w' hO'; simp [Addr.add] at hc1 hc2 hc3; go_simp; (try exact rfl)); simp only [Act.put, List.setIfInBounds_toArray, List.set_cons_zero, List.set_cons_succ]) | (refine sch_pass (o := ?_) ?_ ?_ ?_; rotate_left; (· ((conv => lhs; whnf); try exact rfl)); (· rfl); simp only [Act.put, List.setIfInBounds_toArray, List.set_cons_zero, List.set_cons_succ]) | (refine sch_look (o := ?_) (v := .agg ?_) ?_ ?_ ?_ ?_; rotate_left 2; (· ((conv => lhs; whnf); try exact rfl)); (· rfl); (· intro w' hO'; refine run_opLoadS (b := ?_) (cs := ?_) (e := ?_) (f := ?_) hO' ?_ ?_ ?_ ?_; rotate_left 4; (· exact rfl); (· exact inferInstance); (· simp; done); (· simp; done)); simp only [Act.put, List.setIfInBounds_toArray, List.set_cons_zero, List.set_cons_succ])
  first | (refine sch_look (o := ?_) (v := ?_) ?_ ?_ ?_ ?_; rotate_left 2; (· ((conv => lhs; whnf); try exact rfl)); (· rfl); (· intro w' hO'; obtain ⟨hc0, hc1, hc2, hc3⟩ := hc w' hO'; simp [Addr.add] at hc1 hc2 hc3; go_simp; (try exact rfl)); simp only [Act.put, List.setIfInBounds_toArray, List.set_cons_zero, List.set_cons_succ]) | (refine sch_pass (o := ?_) ?_ ?_ ?_; rotate_left; (· ((conv => lhs; whnf); try exact rfl)); (· rfl); simp only [Act.put, List.setIfInBounds_toArray, List.set_cons_zero, List.set_cons_succ]) | (refine sch_look (o := ?_) (v := .agg ?_) ?_ ?_ ?_ ?_; rotate_left 2; (· ((conv => lhs; whnf); try exact rfl)); (· rfl); (· intro w' hO'; refine run_opLoadS (b := ?_) (cs := ?_) (e := ?_) (f := ?_) hO' ?_ ?_ ?_ ?_; rotate_left 4; (· exact rfl); (· exact inferInstance); (· simp; done); (· simp; done)); simp only [Act.put, List.setIfInBounds_toArray, List.set_cons_zero, List.set_cons_succ])
  first | (refine sch_look (o := ?_) (v := ?_) ?_ ?_ ?_ ?_; rotate_left 2; (· ((conv => lhs; whnf); try exact rfl)); (· rfl); (· intro w' hO'; obtain ⟨hc0, hc1, hc2, hc3⟩ := hc w' hO'; simp [Addr.add] at hc1 hc2 hc3; go_simp; (try exact rfl)); simp only [Act.put, List.setIfInBounds_toArray, List.set_cons_zero, List.set_cons_succ]) | (refine sch_pass (o := ?_) ?_ ?_ ?_; rotate_left; (· ((conv => lhs; whnf); try exact rfl)); (· rfl); simp only [Act.put, List.setIfInBounds_toArray, List.set_cons_zero, List.set_cons_succ]) | (refine sch_look (o := ?_) (v := .agg ?_) ?_ ?_ ?_ ?_; rotate_left 2; (· ((conv => lhs; whnf); try exact rfl)); (· rfl); (· intro w' hO'; refine run_opLoadS (b := ?_) (cs := ?_) (e := ?_) (f := ?_) hO' ?_ ?_ ?_ ?_; rotate_left 4; (· exact rfl); (· exact inferInstance); (· simp; done); (· simp; done)); simp only [Act.put, List.setIfInBounds_toArray, List.set_cons_zero, List.set_cons_succ])
  first | (refine sch_look (o := ?_) (v := ?_) ?_ ?_ ?_ ?_; rotate_left 2; (· ((conv => lhs; whnf); try exact rfl)); (· rfl); (· intro w' hO'; obtain ⟨hc0, hc1, hc2, hc3⟩ := hc w' hO'; simp [Addr.add] at hc1 hc2 hc3; go_simp; (try exact rfl)); simp only [Act.put, List.setIfInBounds_toArray, List.set_cons_zero, List.set_cons_succ]) | (refine sch_pass (o := ?_) ?_ ?_ ?_; rotate_left; (· ((conv => lhs; whnf); try exact rfl)); (· rfl); simp only [Act.put, List.setIfInBounds_toArray, List.set_cons_zero, List.set_cons_succ]) | (refine sch_look (o := ?_) (v := .agg ?_) ?_ ?_ ?_ ?_; rotate_left 2; (· ((conv => lhs; whnf); try exact rfl)); (· rfl); (· intro w' hO'; refine run_opLoadS (b := ?_) (cs := ?_) (e := ?_) (f := ?_) hO' ?_ ?_ ?_ ?_; rotate_left 4; (· exact rfl); (· exact inferInstance); (· simp; done); (· simp; done)); simp only [Act.put, List.setIfInBounds_toArray, List.set_cons_zero, List.set_cons_succ])
  first | (refine sch_look (o := ?_) (v := ?_) ?_ ?_ ?_ ?_; rotate_left 2; (· ((conv => lhs; whnf); try exact rfl)); (· rfl); (· intro w' hO'; obtain ⟨hc0, hc1, hc2, hc3⟩ := hc w' hO'; simp [Addr.add] at hc1 hc2 hc3; go_simp; (try exact rfl)); simp only [Act.put, List.setIfInBounds_toArray, List.set_cons_zero, List.set_cons_succ]) | (refine sch_pass (o := ?_) ?_ ?_ ?_; rotate_left; (· ((conv => lhs; whnf); try exact rfl)); (· rfl); simp only [Act.put, List.setIfInBounds_toArray, List.set_cons_zero, List.set_cons_succ]) | (refine sch_look (o := ?_) (v := .agg ?_) ?_ ?_ ?_ ?_; rotate_left 2; (· ((conv => lhs; whnf); try exact rfl)); (· rfl); (· intro w' hO'; refine run_opLoadS (b := ?_) (cs := ?_) (e := ?_) (f := ?_) hO' ?_ ?_ ?_ ?_; rotate_left 4; (· exact rfl); (· exact inferInstance); (· simp; done); (· simp; done)); simp only [Act.put, List.setIfInBounds_toArray, List.set_cons_zero, List.set_cons_succ])
  first | (refine sch_look (o := ?_) (v := ?_) ?_ ?_ ?_ ?_; rotate_left 2; (· ((conv => lhs; whnf); try exact rfl)); (· rfl); (· intro w' hO'; obtain ⟨hc0, hc1, hc2, hc3⟩ := hc w' hO'; simp [Addr.add] at hc1 hc2 hc3; go_simp; (try exact rfl)); simp only [Act.put, List.setIfInBounds_toArray, List.set_cons_zero, List.set_cons_succ]) | (refine sch_pass (o := ?_) ?_ ?_ ?_; rotate_left; (· ((conv => lhs; whnf); try exact rfl)); (· rfl); simp only [Act.put, List.setIfInBounds_toArray, List.set_cons_zero, List.set_cons_succ]) | (refine sch_look (o := ?_) (v := .agg ?_) ?_ ?_ ?_ ?_; rotate_left 2; (· ((conv => lhs; whnf); try exact rfl)); (· rfl); (· intro w' hO'; refine run_opLoadS (b := ?_) (cs := ?_) (e := ?_) (f := ?_) hO' ?_ ?_ ?_ ?_; rotate_left 4; (· exact rfl); (· exact inferInstance); (· simp; done); (· simp; done)); simp only [Act.put, List.setIfInBounds_toArray, List.set_cons_zero, List.set_cons_succ])
  first | (refine sch_look (o := ?_) (v := ?_) ?_ ?_ ?_ ?_; rotate_left 2; (· ((conv => lhs; whnf); try exact rfl)); (· rfl); (· intro w' hO'; obtain ⟨hc0, hc1, hc2, hc3⟩ := hc w' hO'; simp [Addr.add] at hc1 hc2 hc3; go_simp; (try exact rfl)); simp only [Act.put, List.setIfInBounds_toArray, List.set_cons_zero, List.set_cons_succ]) | (refine sch_pass (o := ?_) ?_ ?_ ?_; rotate_left; (· ((conv => lhs; whnf); try exact rfl)); (· rfl); simp only [Act.put, List.setIfInBounds_toArray, List.set_cons_zero, List.set_cons_succ]) | (refine sch_look (o := ?_) (v := .agg ?_) ?_ ?_ ?_ ?_; rotate_left 2; (· ((conv => lhs; whnf); try exact rfl)); (· rfl); (· intro w' hO'; refine run_opLoadS (b := ?_) (cs := ?_) (e := ?_) (f := ?_) hO' ?_ ?_ ?_ ?_; rotate_left 4; (· exact rfl); (· exact inferInstance); (· simp; done); (· simp; done)); simp only [Act.put, List.setIfInBounds_toArray, List.set_cons_zero, List.set_cons_succ])
  refine sch_done ?_
  go_wp2_with fail
  go_ret
  refine ⟨?_, hO.as _⟩
  exact congrArg (fun z => Ending.returned (Value.int .i64 z)) (num_or b0 b1 b2 b3)

theorem sNumber4 (E w : World) (X R I : Fr) (sa : Option Addr) (m cap n : Nat) (r : List UInt8) (hn : n < 4294967296) (hm : m = 4 + r.length) (hB : BytesIn E I sa (hd4 n ++ r)) (hO : Own E w X) [hp : Pick X I R] :
    Calls Try.prog 57 #[.slice sa m cap] w fun e w' => e = .returned (.int .i64 n) ∧ Own E w' (I ++ R) := by
  refine (sNumber E w X R I sa m cap _ _ _ _ r (by rw [hm]; simp; omega) hB hO).mono ?_
  rintro e w' ⟨rfl, hO⟩
  refine ⟨?_, hO⟩
  have := val4_hd4 n hn r
  exact congrArg (fun z : Nat => Ending.returned (Value.int .i64 (z : Int))) this
theorem dgV (n : Nat) (hn : n < 4294967296) : (#[.int .u8 ((n : Int) / 16777216), .int .u8 ((n : Int) / 65536 % 256), .int .u8 ((n : Int) / 256 % 256), .int .u8 ((n : Int) % 256)] : Array Value) = (bytesV (hd4 n)).toArray := by
  have e1 : (n : Int) / 16777216 = ((n / 16777216 % 256 : Nat) : Int) := by omega
  have e2 : (n : Int) / 65536 % 256 = ((n / 65536 % 256 : Nat) : Int) := by omega
  have e3 : (n : Int) / 256 % 256 = ((n / 256 % 256 : Nat) : Int) := by omega
  have e4 : (n : Int) % 256 = ((n % 256 : Nat) : Int) := by omega
  rw [e1, e2, e3, e4]
  rfl
set_option maxRecDepth 100000 in
set_option maxHeartbeats 16000000 in
theorem sDigits (E w : World) (X : Fr) (n : Nat) (hn : n < 4294967296) (hO : Own E w X) :
    Calls Try.prog 63 #[.int .i64 n] w fun e w' => e = .returned (.string (hdB n)) ∧ Own E w' X := by
  go_enter Try.func63, Try.ntmps63
  go_wp2_with (first | (refine at_bs ?_; go_must (refine own_buildN (cells := ?_) sltBytes hO ?_ ?_ ?_ ?_ ?_ ?_; rotate_left; (· rfl); (· decide); (· decide); (· rfl); (· simp [Instr.fill, Act.eval, Value.cells, Array.replicate_succ]; exact rfl); clear hO; (try clear hF); intro s _ hO; ((try simp only [List.nil_append, List.append_nil] at hO); have hF := Own.cells hO; simp only [cellsOf_append, cellsOf_pt] at hF); simp only [Act.put, List.setIfInBounds_toArray, List.set_cons_zero, List.set_cons_succ])) | (refine at_conv ?_; (rw [dgV n hn] at hO; refine own_bytes_str (e := 5) (ad := ?_) (n := ?_) (cap := ?_) (l := hd4 n) (by kernel_rfl) (by kernel_rfl) (by kernel_rfl) ?_ ?_ ?_ ?_ ?_ ?_; rotate_left 3; (· rfl); (· ((conv => lhs; whnf); try exact rfl)); (· rfl); (· intro b hb j v hj; cases hb; rw [add_lit, hO.cell (b := s)]; simpa using hj); (· intro h; cases h); simp only [Act.put, List.setIfInBounds_toArray, List.set_cons_zero, List.set_cons_succ])))
  go_ret
  exact ⟨rfl, hO.as _⟩
end Go.Proofs.Ytkfkcloefgfkaaa

/- Space: entries of a record, as plain lists. -/
namespace Go.Dk
open Go.Own Go.RowKit

/-- An entry of a record: a page and its bytes. -/
def recL (es : List (Nat × List UInt8)) : List UInt8 := es.flatMap fun e => hd4 e.1 ++ e.2
def recOf (es : List (Nat × List UInt8)) : ByteArray := ⟨(recL es).toArray⟩
def appE (c : Nat → List UInt8) (es : List (Nat × List UInt8)) : Nat → List UInt8 := es.foldl (fun c e => upd c e.1 e.2) c
def EsOk (es : List (Nat × List UInt8)) : Prop := ∀ e ∈ es, e.1 < 4096 ∧ e.2.length = 512
theorem recL_cons (e : Nat × List UInt8) (es : List (Nat × List UInt8)) : recL (e :: es) = hd4 e.1 ++ (e.2 ++ recL es) := by simp [recL]
theorem recL_len {es : List (Nat × List UInt8)} (h : EsOk es) : (recL es).length = 516 * es.length := by
  induction es with
  | nil => rfl
  | cons e es ih =>
    rw [recL_cons, List.length_append, List.length_append, ih (fun x hx => h x (List.mem_cons_of_mem _ hx)), (h e (by simp)).2, List.length_cons]
    have : (hd4 e.1).length = 4 := rfl
    omega
theorem recOf_size {es : List (Nat × List UInt8)} (h : EsOk es) : (recOf es).size = 516 * es.length := by
  rw [← recL_len h]
  simp [recOf, ByteArray.size]
theorem ba_ext {l : List UInt8} (i j : Nat) : (⟨l.toArray⟩ : ByteArray).extract i j = ⟨((l.take j).drop i).toArray⟩ := by
  apply ByteArray.ext
  rw [ByteArray.data_extract]
  simp only [List.extract_toArray, List.extract_eq_take_drop, List.drop_take]
theorem recOf_ex0 (e : Nat × List UInt8) (es : List (Nat × List UInt8)) : (recOf (e :: es)).extract 0 4 = hdB e.1 := by
  rw [recOf, ba_ext, recL_cons]
  rfl
theorem recOf_ex1 {e : Nat × List UInt8} {es : List (Nat × List UInt8)} (h : EsOk (e :: es)) : (recOf (e :: es)).extract 4 516 = ⟨e.2.toArray⟩ := by
  have h2 := (h e (by simp)).2
  have h4 : (hd4 e.1).length = 4 := rfl
  rw [recOf, ba_ext, recL_cons, ← List.append_assoc, List.take_append_of_le_length (by rw [List.length_append]; omega), List.take_of_length_le (by rw [List.length_append]; omega)]
  rfl
theorem recOf_ex2 {e : Nat × List UInt8} {es : List (Nat × List UInt8)} (h : EsOk (e :: es)) (n : Nat) (hn : n = (recOf (e :: es)).size) : (recOf (e :: es)).extract 516 n = recOf es := by
  have h2 := (h e (by simp)).2
  have h4 : (hd4 e.1).length = 4 := rfl
  have h5 := recL_len h
  rw [recOf_size h] at hn
  rw [recOf, ba_ext, List.take_of_length_le (by omega), recL_cons, ← List.append_assoc, List.drop_append_of_le_length (by rw [List.length_append]; omega), List.drop_of_length_le (by rw [List.length_append]; omega)]
  rfl
end Go.Dk

/- Space: apply, bytes. -/
namespace Go.Dk
theorem PInv.zero_clen {most : Nat} {fs : List Frm} {l : List (Int × Value)} {F : List UInt8} {cont : Nat → List UInt8} {pins : Nat → Nat} (h : PInv most fs l F cont pins) (k : Nat) : (cont k).length = 512 := h.clen k
theorem appE_snoc (c : Nat → List UInt8) (es : List (Nat × List UInt8)) (e : Nat × List UInt8) : appE c (es ++ [e]) = upd (appE c es) e.1 e.2 := by simp [appE]
end Go.Dk
namespace Go.Proofs.Ytkfkcloefgfkaaa
open Go Go.RowKit Go.Own Go.Dk

theorem putB_full (l s : List UInt8) (h : l.length = 512) (hs : s.length = 512) : putB l 0 s = s := by
  unfold putB
  rw [List.take_zero, List.nil_append, List.drop_of_length_le (by omega), List.append_nil]
def spF (s l p : Nat) (now : Option Addr) (mf : Nat) : Fr := pt s (.cells #[.pointer (some ⟨l, 0, none⟩), .pointer (some ⟨p, 0, none⟩), .pointer now, .map (some mf)] 71 (0, 0))
theorem PoolS.clen {J : Nat → Prop} {F0 : List UInt8} {p d most N : Nat} {cont : Nat → List UInt8} {pins : Nat → Nat} {A : Fr} (h : PoolS J F0 p d most N cont pins A) (k : Nat) : (cont k).length = 512 := by
  obtain ⟨hand, fs, l, rs, P, D, hP, hI, _⟩ := h
  exact hI.clen k
theorem bytesIn_pt {E : World} (b : Nat) (l : List UInt8) (tl : List Value) (e : TypeId) (f : Nat × Nat) : BytesIn E (pt b (.cells (bytesV l ++ tl).toArray e f)) (some ⟨b, 0, none⟩) l := by
  intro w hO i hi
  refine ⟨_, rfl, ?_⟩
  rw [add_lit, hO.cell (b := b)]
  simp [List.getElem?_append_left, bytesV, hi]
  rfl
theorem pinned_not {most : Nat} (hm : 0 < most) {Q : List Nat} (hl : Q.length = most) (h : ∀ k ∈ Q, 0 < (fun _ : Nat => 0) k) : False := by
  match Q, hl with
  | [], hl => simp at hl; omega
  | k :: _, _ => exact absurd (h k (by simp)) (by simp)
theorem pins_back (k : Nat) : upd (upd (fun _ : Nat => 0) k (0 + 1)) k (upd (fun _ : Nat => 0) k (0 + 1) k - 1) = fun _ => 0 := by
  funext i
  unfold upd
  by_cases h : i = k <;> simp [h]
def strN : Value → Nat
  | .string s => s.size
  | _ => 0
set_option maxRecDepth 100000 in
set_option maxHeartbeats 16000000 in
theorem sApply {J : Nat → Prop} {F0 : List UInt8} (E w : World) (X R PA : Fr) (s l p mf : Nat) (now : Option Addr) (d most N : Nat) (cont : Nat → List UInt8) (es : List (Nat × List UInt8)) (hes : EsOk es) (hJ : ∀ e ∈ es, J e.1) (hlen : es.length ≤ 1000000) (hS : PoolS J F0 p d most N cont (fun _ => 0) PA) (hm : 0 < most) (hm2 : most ≤ 1024)
    (hN : N + es.length ≤ 8796093022208) (hO : Own E w X) [hp : Pick X (spF s l p now mf ++ PA) R] :
    Calls Try.prog 55 #[.pointer (some ⟨s, 0, none⟩), .string (recOf es)] w fun e w' => e = .returned (.tuple #[]) ∧ ∃ PA', PoolS J F0 p d most (N + es.length) (appE cont es) (fun _ => 0) PA' ∧ Own E w' (spF s l p now mf ++ (PA' ++ R)) := by
  replace hO : Own E w (spF s l p now mf ++ (PA ++ R)) := by have := hO.perm hp.perm; rwa [List.append_assoc] at this
  clear hp
  go_enter Try.func55, Try.ntmps55
  have hO1 := hO
  clear hO
  go_wp2_with fail
  go_loopw [1] (fun s1 wr => ∃ (k : Nat) (PA : Fr), s1 = .string (recOf (es.drop k)) ∧ k ≤ es.length ∧ PoolS J F0 p d most (N + k) (appE cont (es.take k)) (fun _ => 0) PA ∧ Own E wr (spF s l p now mf ++ (PA ++ R))) (fun s1 _ => strN s1)
  case atStart => exact ⟨0, PA, rfl, Nat.zero_le _, hS, hO1⟩
  case round =>
    clear hO1 hS
    obtain ⟨k, PA, rfl, hk, hS, hO⟩ := hrel
    by_cases hkl : k < es.length
    · have hdk : es.drop k = es[k] :: es.drop (k + 1) := List.drop_eq_getElem_cons hkl
      have htk : es.take (k + 1) = es.take k ++ [es[k]] := List.take_succ_eq_append_getElem hkl
      have hme := hes es[k] (List.getElem_mem _)
      have hje := hJ es[k] (List.getElem_mem _)
      have hok : EsOk (es.drop k) := fun x hx => hes x (List.mem_of_mem_drop hx)
      have hcl := hS.clen
      rw [hdk] at hok ⊢
      generalize es[k] = e at hdk htk hme hje hok ⊢
      have hx0 := recOf_ex0 e (es.drop (k + 1))
      have hx1 := recOf_ex1 hok
      have hx2 := recOf_ex2 hok _ rfl
      have hsz := recOf_size hok
      rw [List.length_cons, List.length_drop] at hsz
      have hsz2 : (recOf (es.drop (k + 1))).size + 516 = (recOf (e :: es.drop (k + 1))).size := by
        rw [recOf_size (fun x hx => hok x (List.mem_cons_of_mem _ hx)), List.length_drop]
        omega
      generalize recOf (e :: es.drop (k + 1)) = r at hx0 hx1 hx2 hsz hsz2
      obtain ⟨pg, bs⟩ := e
      obtain ⟨hpg, hbl⟩ := hme
      have HTK := Lib.hid htk
      have HKL := Lib.hid hkl
      have HSZ := Lib.hid hsz2
      have hr1 : 516 ≤ r.size := by omega
      have hr2 : (516 : Int) ≤ r.size := by omega
      have hr3 : (4 : Int) ≤ r.size := by omega
      have hr4 : 4 ≤ r.size := by omega
      have hrm : (r.size : Int) ≤ 516000000 := by omega
      have hv : val4 (hd4 pg) = pg := by have := val4_hd4 pg (by omega) []; rwa [List.append_nil] at this
      clear hok hsz hsz2 hdk htk hkl
      dsimp only at hx0 hx1 hpg hbl
      unfold spF at hO
      have hF := Own.cells hO; simp only [cellsOf_append, cellsOf_pt] at hF
      go_wp2_with (first | (refine at_conv ?_; go_must (refine own_str_bytes (e := 5) (s := hdB pg) (by kernel_rfl) (by kernel_rfl) (by kernel_rfl) hO (by show 4 ≤ maxLen; decide) ?_ ?_ ?_; (· rfl); (· ((conv => lhs; whnf); try exact rfl)); clear hO; (try clear hF); intro bb cap tl fz _ hcap hcm hO; ((try simp only [List.nil_append, List.append_nil] at hO); have hF := Own.cells hO; simp only [cellsOf_append, cellsOf_pt] at hF); simp only [Act.put, List.setIfInBounds_toArray, List.set_cons_zero, List.set_cons_succ])))
      have hB : BytesIn E (pt bb (.cells (bytesV (hdB pg).data.toList ++ tl).toArray 5 fz)) (some ⟨bb, 0, none⟩) (hd4 pg ++ []) := bytesIn_pt bb (hd4 pg) tl 5 fz
      refine (sNumber4 E _ _ _ _ _ 4 cap pg [] (by omega) rfl hB hO).mono ?_
      clear hO hF
      rintro e w2 ⟨rfl, hO⟩
      have hF := Own.cells hO; simp only [cellsOf_append, cellsOf_pt] at hF
      go_wp2_with fail
      refine (pPin E _ _ _ PA p d most (N + k) (appE cont (es.take k)) (fun _ => 0) pg hS hm hm2 (by have := HKL.out; omega) hpg (by decide) hO).mono ?_
      clear hO hF
      rintro e w3 (⟨rfl, PA, hS, hO⟩ | ⟨_, _, ⟨Q, _, hQl, hQ⟩, _⟩)
      rotate_left
      · exact (pinned_not hm hQl hQ).elim
      have hF := Own.cells hO; simp only [cellsOf_append, cellsOf_pt] at hF
      (try (go_wp2_with fail))
      refine region_sch (fun w' => Own E w' (pt s (.cells #[.pointer (some ⟨l, 0, none⟩), .pointer (some ⟨p, 0, none⟩), .pointer now, .map (some mf)] 71 (0, 0)))) (.look 0 (.look 1 (.look 2 (.look 3 (.look 4 (.look 5 (.look 6 (.act 7 .done)))))))) (by kernel_rfl) (by kernel_rfl) (fun _ _ d _ _ h => by cases d <;> exact h) ?_ ?_
      · exact hO.drew.as _
      replace hO := hO.drew
      generalize World.drew _ = wdr at hO ⊢
      first | (refine sch_look (o := ?_) (v := ?_) ?_ ?_ ?_ ?_; rotate_left 2; (· ((conv => lhs; whnf); try exact rfl)); (· rfl); (· intro w' hO'; (have hF' := Own.cells hO'; simp only [cellsOf_append, cellsOf_pt] at hF'); go_simp; (try exact rfl)); simp only [Act.put, List.setIfInBounds_toArray, List.set_cons_zero, List.set_cons_succ]) | (refine sch_pass (o := ?_) ?_ ?_ ?_; rotate_left; (· ((conv => lhs; whnf); try exact rfl)); (· rfl); simp only [Act.put, List.setIfInBounds_toArray, List.set_cons_zero, List.set_cons_succ]) | (refine sch_look (o := ?_) (v := .agg ?_) ?_ ?_ ?_ ?_; rotate_left 2; (· ((conv => lhs; whnf); try exact rfl)); (· rfl); (· intro w' hO'; refine run_opLoadS (b := ?_) (cs := ?_) (e := ?_) (f := ?_) hO' ?_ ?_ ?_ ?_; rotate_left 4; (· exact rfl); (· exact inferInstance); (· simp; done); (· simp; done)); simp only [Act.put, List.setIfInBounds_toArray, List.set_cons_zero, List.set_cons_succ])
      first | (refine sch_look (o := ?_) (v := ?_) ?_ ?_ ?_ ?_; rotate_left 2; (· ((conv => lhs; whnf); try exact rfl)); (· rfl); (· intro w' hO'; (have hF' := Own.cells hO'; simp only [cellsOf_append, cellsOf_pt] at hF'); go_simp; (try exact rfl)); simp only [Act.put, List.setIfInBounds_toArray, List.set_cons_zero, List.set_cons_succ]) | (refine sch_pass (o := ?_) ?_ ?_ ?_; rotate_left; (· ((conv => lhs; whnf); try exact rfl)); (· rfl); simp only [Act.put, List.setIfInBounds_toArray, List.set_cons_zero, List.set_cons_succ]) | (refine sch_look (o := ?_) (v := .agg ?_) ?_ ?_ ?_ ?_; rotate_left 2; (· ((conv => lhs; whnf); try exact rfl)); (· rfl); (· intro w' hO'; refine run_opLoadS (b := ?_) (cs := ?_) (e := ?_) (f := ?_) hO' ?_ ?_ ?_ ?_; rotate_left 4; (· exact rfl); (· exact inferInstance); (· simp; done); (· simp; done)); simp only [Act.put, List.setIfInBounds_toArray, List.set_cons_zero, List.set_cons_succ])
      first | (refine sch_look (o := ?_) (v := ?_) ?_ ?_ ?_ ?_; rotate_left 2; (· ((conv => lhs; whnf); try exact rfl)); (· rfl); (· intro w' hO'; (have hF' := Own.cells hO'; simp only [cellsOf_append, cellsOf_pt] at hF'); go_simp; (try exact rfl)); simp only [Act.put, List.setIfInBounds_toArray, List.set_cons_zero, List.set_cons_succ]) | (refine sch_pass (o := ?_) ?_ ?_ ?_; rotate_left; (· ((conv => lhs; whnf); try exact rfl)); (· rfl); simp only [Act.put, List.setIfInBounds_toArray, List.set_cons_zero, List.set_cons_succ]) | (refine sch_look (o := ?_) (v := .agg ?_) ?_ ?_ ?_ ?_; rotate_left 2; (· ((conv => lhs; whnf); try exact rfl)); (· rfl); (· intro w' hO'; refine run_opLoadS (b := ?_) (cs := ?_) (e := ?_) (f := ?_) hO' ?_ ?_ ?_ ?_; rotate_left 4; (· exact rfl); (· exact inferInstance); (· simp; done); (· simp; done)); simp only [Act.put, List.setIfInBounds_toArray, List.set_cons_zero, List.set_cons_succ])
      first | (refine sch_look (o := ?_) (v := ?_) ?_ ?_ ?_ ?_; rotate_left 2; (· ((conv => lhs; whnf); try exact rfl)); (· rfl); (· intro w' hO'; (have hF' := Own.cells hO'; simp only [cellsOf_append, cellsOf_pt] at hF'); go_simp; (try exact rfl)); simp only [Act.put, List.setIfInBounds_toArray, List.set_cons_zero, List.set_cons_succ]) | (refine sch_pass (o := ?_) ?_ ?_ ?_; rotate_left; (· ((conv => lhs; whnf); try exact rfl)); (· rfl); simp only [Act.put, List.setIfInBounds_toArray, List.set_cons_zero, List.set_cons_succ]) | (refine sch_look (o := ?_) (v := .agg ?_) ?_ ?_ ?_ ?_; rotate_left 2; (· ((conv => lhs; whnf); try exact rfl)); (· rfl); (· intro w' hO'; refine run_opLoadS (b := ?_) (cs := ?_) (e := ?_) (f := ?_) hO' ?_ ?_ ?_ ?_; rotate_left 4; (· exact rfl); (· exact inferInstance); (· simp; done); (· simp; done)); simp only [Act.put, List.setIfInBounds_toArray, List.set_cons_zero, List.set_cons_succ])
      first | (refine sch_look (o := ?_) (v := ?_) ?_ ?_ ?_ ?_; rotate_left 2; (· ((conv => lhs; whnf); try exact rfl)); (· rfl); (· intro w' hO'; (have hF' := Own.cells hO'; simp only [cellsOf_append, cellsOf_pt] at hF'); go_simp; (try exact rfl)); simp only [Act.put, List.setIfInBounds_toArray, List.set_cons_zero, List.set_cons_succ]) | (refine sch_pass (o := ?_) ?_ ?_ ?_; rotate_left; (· ((conv => lhs; whnf); try exact rfl)); (· rfl); simp only [Act.put, List.setIfInBounds_toArray, List.set_cons_zero, List.set_cons_succ]) | (refine sch_look (o := ?_) (v := .agg ?_) ?_ ?_ ?_ ?_; rotate_left 2; (· ((conv => lhs; whnf); try exact rfl)); (· rfl); (· intro w' hO'; refine run_opLoadS (b := ?_) (cs := ?_) (e := ?_) (f := ?_) hO' ?_ ?_ ?_ ?_; rotate_left 4; (· exact rfl); (· exact inferInstance); (· simp; done); (· simp; done)); simp only [Act.put, List.setIfInBounds_toArray, List.set_cons_zero, List.set_cons_succ])
      first | (refine sch_look (o := ?_) (v := ?_) ?_ ?_ ?_ ?_; rotate_left 2; (· ((conv => lhs; whnf); try exact rfl)); (· rfl); (· intro w' hO'; (have hF' := Own.cells hO'; simp only [cellsOf_append, cellsOf_pt] at hF'); go_simp; (try exact rfl)); simp only [Act.put, List.setIfInBounds_toArray, List.set_cons_zero, List.set_cons_succ]) | (refine sch_pass (o := ?_) ?_ ?_ ?_; rotate_left; (· ((conv => lhs; whnf); try exact rfl)); (· rfl); simp only [Act.put, List.setIfInBounds_toArray, List.set_cons_zero, List.set_cons_succ]) | (refine sch_look (o := ?_) (v := .agg ?_) ?_ ?_ ?_ ?_; rotate_left 2; (· ((conv => lhs; whnf); try exact rfl)); (· rfl); (· intro w' hO'; refine run_opLoadS (b := ?_) (cs := ?_) (e := ?_) (f := ?_) hO' ?_ ?_ ?_ ?_; rotate_left 4; (· exact rfl); (· exact inferInstance); (· simp; done); (· simp; done)); simp only [Act.put, List.setIfInBounds_toArray, List.set_cons_zero, List.set_cons_succ])
      first | (refine sch_look (o := ?_) (v := ?_) ?_ ?_ ?_ ?_; rotate_left 2; (· ((conv => lhs; whnf); try exact rfl)); (· rfl); (· intro w' hO'; (have hF' := Own.cells hO'; simp only [cellsOf_append, cellsOf_pt] at hF'); go_simp; (try exact rfl)); simp only [Act.put, List.setIfInBounds_toArray, List.set_cons_zero, List.set_cons_succ]) | (refine sch_pass (o := ?_) ?_ ?_ ?_; rotate_left; (· ((conv => lhs; whnf); try exact rfl)); (· rfl); simp only [Act.put, List.setIfInBounds_toArray, List.set_cons_zero, List.set_cons_succ]) | (refine sch_look (o := ?_) (v := .agg ?_) ?_ ?_ ?_ ?_; rotate_left 2; (· ((conv => lhs; whnf); try exact rfl)); (· rfl); (· intro w' hO'; refine run_opLoadS (b := ?_) (cs := ?_) (e := ?_) (f := ?_) hO' ?_ ?_ ?_ ?_; rotate_left 4; (· exact rfl); (· exact inferInstance); (· simp; done); (· simp; done)); simp only [Act.put, List.setIfInBounds_toArray, List.set_cons_zero, List.set_cons_succ])
      (refine sch_act (o := ?_) ?_ ?_; rotate_left; (· ((conv => lhs; whnf); try exact rfl)))
      go_wp2_with fail
      refine (pWrite_ok E _ _ _ PA p d most (N + k) (appE cont (es.take k)) _ pg 0 ⟨bs.toArray⟩ hS hm (by simp [upd]) hje (by simp [ByteArray.size]; omega) hO).mono ?_
      clear hO
      (try clear hF)
      rintro e w4 ⟨rfl, PA, hS, hO⟩
      go_wp2_with fail
      refine ⟨hO.as _, ?_⟩
      refine sch_done ?_
      have hF := Own.cells hO; simp only [cellsOf_append, cellsOf_pt] at hF
      go_wp2_with fail
      refine (pUnpin_yes E _ _ _ PA p d most _ _ _ pg hS hm (by simp [upd]) (by simp [upd]) hO).mono ?_
      clear hO hF
      rintro e w5 ⟨rfl, PA, hS, hO⟩
      rw [pins_back] at hS
      go_wp2_with fail
      go_roundw
      case rel =>
        refine ⟨k + 1, PA, rfl, HKL.out, ?_, by unfold spF; exact hO.as _⟩
        rw [HTK.out, appE_snoc]
        have hb : putB (appE cont (es.take k) pg) 0 bs = bs := putB_full _ _ (hcl pg) hbl
        rw [hb] at hS
        exact hS
      case measure => have := HSZ.out; simp [strN]; omega
    · have hke : k = es.length := by omega
      subst hke
      rw [List.drop_of_length_le (Nat.le_refl _)]
      rw [List.take_of_length_le (Nat.le_refl _)] at hS
      have hr1 : ¬ (516 : Int) ≤ (recOf []).size := by decide
      go_wp2_with fail
      go_end0
      exact ⟨rfl, PA, hS, hO.as _⟩
end Go.Proofs.Ytkfkcloefgfkaaa

/- Rows of bytes that a conversion made (the model marks a place behind their end). -/
namespace Go.Own
open Go Go.RowKit
section
variable {P : Program} {ops : Array Oper} {Q : Exit → Act → World → Prop} {rest : List Oper} {a : Act} {E w : World} {X : Fr} {d : Option Tmp} {ty : TypeId} {pos : String} {aft : Array Edge} {g : Option (Nat × Bool)}
/-- No place of a row is frozen. -/
def Free (f : Nat × Nat) (n : Nat) : Prop := f.2 ≤ f.1 ∨ n ≤ f.1
theorem Free.not {f : Nat × Nat} {n i : Nat} (h : Free f n) (hi : i < n) : (decide (f.1 ≤ i) && decide (i < f.2)) = false := by
  rcases h with h | h
  · simp only [Bool.and_eq_false_iff, decide_eq_false_iff_not]; omega
  · simp only [Bool.and_eq_false_iff, decide_eq_false_iff_not]; omega
theorem free0 (n : Nat) : Free (0, 0) n := .inl (Nat.le_refl _)
/-- A slice of bytes that owns its row. -/
def PgB (e : TypeId) (b : Nat) (l : List UInt8) (cap : Nat) (A : Fr) : Prop :=
  l.length ≤ cap ∧ cap ≤ maxLen ∧ ∃ tl f, (bytesV l ++ tl).length = cap ∧ Free f cap ∧ A = pt b (.cells (bytesV l ++ tl).toArray e f)
theorem own_str_bytes2 {src dst e : TypeId} {x : Operand} {s : ByteArray}
    (hs : P.underlying src = some .string) (hd : P.underlying dst = some (.slice e)) (he : P.underlying e = some (.int .u8)) (hO : Own E w X) (hm : s.size ≤ maxLen)
    (hw : Region.wanted ⟨d, .convert src dst x, ty, pos, aft, g⟩ (yielded ops a.tmps) = true) (hx : a.eval x = .string s)
    (next : ∀ b cap A w1, PgB e b s.data.toList cap A → Own E w1 (A ++ X) → wpList P ops Q rest (a.put d (.slice (some ⟨b, 0, none⟩) s.size cap)) w1) :
    wpList P ops Q (⟨d, .convert src dst x, ty, pos, aft, g⟩ :: rest) a w := by
  have hrow : bytesRow s (grownCap w s.size 0 e) = (bytesV s.data.toList ++ List.replicate (grownCap w s.size 0 e - s.size) (Value.int .u8 0)).toArray := by
    rw [bytesRow, bytes_cells]
    simp
  have hsz : s.data.toList.length = s.size := by rw [Array.length_toList]; rfl
  have hge := grownCap_ge w s.size 0 e
  have hlen : (bytesV s.data.toList ++ List.replicate (grownCap w s.size 0 e - s.size) (Value.int .u8 0)).length = grownCap w s.size 0 e := by
    rw [List.length_append, bytesV_length, List.length_replicate, hsz]
    omega
  have hO1 := (hO.drew).alloc (.cells (bytesRow s (grownCap w s.size 0 e)) e ((bytesRow s (grownCap w s.size 0 e)).size, (bytesRow s (grownCap w s.size 0 e)).size + 1))
  refine wpList_run_value hw ?_ (next _ (grownCap w s.size 0 e) _ _ ⟨by rw [hsz]; exact hge, grownCap_le_maxLen w s.size 0 e hm, List.replicate (grownCap w s.size 0 e - s.size) (Value.int .u8 0), ((bytesRow s (grownCap w s.size 0 e)).size, (bytesRow s (grownCap w s.size 0 e)).size + 1), hlen, .inr (by rw [hrow, List.size_toArray, hlen]; exact Nat.le_refl _), rfl⟩ (by rw [← hrow]; exact hO1))
  have := run_bytes_of_string (P := P) w src dst e s hs hd he
  simp only [execOp, hx, this]
  simp [this]
theorem run_storeCells_ownF {b off : Nat} {e : TypeId} {f : Nat × Nat} (vs : List Value) : ∀ (i : Nat) (cs : Array Value) (w : World) (X R : Fr), Own E w X → PickPt X b (.cells cs e f) R →
    (∀ v ∈ vs, v.oneCell' = true) → off + i + vs.length ≤ cs.size → Free f cs.size →
    ∃ w1, (storeCells ⟨b, off, none⟩ vs i).run P w = .ok () w1 ∧ Own E w1 (pt b (.cells (splice cs (off + i) vs) e f) ++ R) := by
  induction vs with
  | nil => intro i cs w X R hO hp _ _ _; exact ⟨w, rfl, hO.pickPt⟩
  | cons v vs ih =>
    intro i cs w X R hO hp h1 hl hz
    have hg : w.heap[b]? = some (.cells cs e f) := (hO.pickPt (b := b)).get
    have hadd : (⟨b, off, none⟩ : Addr).add i = ⟨b, off + i, none⟩ := by unfold Addr.add; split <;> simp_all
    have hlt : off + i < cs.size := by simp at hl; omega
    have hc : w.cell? ⟨b, off + i, none⟩ = some cs[off + i] := by simp [World.cell?, hg, hlt]
    have hf : w.frozen? ⟨b, off + i, none⟩ = false := by
      have := hz.not hlt
      simpa [World.frozen?, hg] using this
    have hO1 := hO.setCell (b := b) (off + i) v
    obtain ⟨w1, hr, hO2⟩ := ih (i + 1) (cs.setIfInBounds (off + i) v) _ _ R hO1 ⟨.refl _⟩ (fun u hu => h1 u (List.mem_cons_of_mem _ hu)) (by simp at hl ⊢; omega) (by simpa using hz)
    refine ⟨w1, ?_, hO2⟩
    have hs := run_store P w ⟨b, off + i, none⟩ v .plain (h1 v (List.mem_cons_self ..))
    simp only [hc, hf, Bool.false_eq_true, if_false] at hs
    simp only [storeCells, hadd, Sem.run_bind, hs, Result.andThen_ok]
    exact hr
/-- copy(b[l:], s) into such a row. -/
theorem own_copyF {t tx e : TypeId} {bytes : Nat} {z : Value} {dx sx : Operand} {R A : Fr} {da : Option Addr} {b cap dn dc l : Nat} {s : ByteArray} {xs : List UInt8} (hT : SlT P t e 1 bytes z) (hO : Own E w X)
    (hw : Region.wanted ⟨d, .call { callee := .builtin .copy, args := #[dx, sx], argTypes := #[t, tx] }, ty, pos, aft, g⟩ (yielded ops a.tmps) = true)
    (hd : a.eval dx = .slice da dn dc) (hs : a.eval sx = .string s) (hv : PgB e b xs cap A) [hp : Pick X A R]
    (hda : 0 < s.size → da = some ⟨b, l, none⟩) (hn : s.size ≤ dn) (hl : l + s.size ≤ xs.length)
    (next : ∀ A' w1, PgB e b (xs.take l ++ s.data.toList ++ xs.drop (l + s.size)) cap A' → Own E w1 (A' ++ R) → wpList P ops Q rest (a.put d (.int .i64 s.size)) w1) :
    wpList P ops Q (⟨d, .call { callee := .builtin .copy, args := #[dx, sx], argTypes := #[t, tx] }, ty, pos, aft, g⟩ :: rest) a w := by
  have hO1 : Own E w (A ++ R) := hO.perm hp.perm
  have hmin : Nat.min s.size dn = s.size := Nat.min_eq_left hn
  have hsz : s.data.toList.length = s.size := by rw [Array.length_toList]; rfl
  have hcells : List.take s.size (List.map (fun b : UInt8 => Value.int .u8 b.toNat) s.data.toList) = bytesV s.data.toList := by
    rw [List.take_of_length_le (by rw [List.length_map, hsz]; omega)]; rfl
  by_cases h0 : s.size = 0
  · have hb : s.data.toList = [] := List.eq_nil_of_length_eq_zero (by rw [hsz, h0])
    have hr : (Builtin.copy_ #[t, tx] ty #[.slice da dn dc, .string s]).run P w = .ok (.int .i64 s.size) w := by
      cases da with
      | none => simp [Builtin.copy_, run_underlying hT.und, Builtin.lenOf, Builtin.firstCells, hT.size, h0, goInt]
      | some b => simp [Builtin.copy_, run_underlying hT.und, Builtin.lenOf, Builtin.firstCells, hT.size, h0, goInt, storeCells]
    refine wpList_run_value hw ?_ (next A w (by rw [hb, h0, Nat.add_zero, List.append_nil, List.take_append_drop]; exact hv) hO1)
    rw [execOp_copy, hd, hs]
    simp [hr]
  · have hda' := hda (by omega)
    subst hda'
    obtain ⟨hxc, hcm, tl, f, hlen, hfr, rfl⟩ := hv
    have hll : (bytesV s.data.toList).length = s.size := by rw [bytesV_length, hsz]
    have hxl : (bytesV xs).length = xs.length := bytesV_length _
    obtain ⟨w1, hst, hO2⟩ := run_storeCells_ownF (P := P) (b := b) (off := l) (e := e) (f := f) (bytesV s.data.toList) 0 (bytesV xs ++ tl).toArray w _ R hO1 inferInstance (bytesV_one _) (by
      simp only [List.size_toArray, List.length_append, hll, hxl]; omega) (by rw [List.size_toArray, hlen]; exact hfr)
    have hsp : splice (bytesV xs ++ tl).toArray (l + 0) (bytesV s.data.toList) = (bytesV (xs.take l ++ s.data.toList ++ xs.drop (l + s.size)) ++ tl).toArray := by
      have hpre : ((bytesV xs).take l).length = l := by rw [List.length_take]; omega
      have := splice_append (bytesV s.data.toList) ((bytesV xs).take l) ((bytesV xs).drop l ++ tl) (by simp only [List.length_append, List.length_drop, hll, hxl]; omega)
      rw [← List.append_assoc, List.take_append_drop, hpre] at this
      rw [Nat.add_zero, this, hll, List.drop_append_of_le_length (by rw [List.length_drop]; omega), List.drop_drop]
      simp [bytesV_append, bytesV, List.map_take, List.map_drop, List.append_assoc]
    rw [hsp] at hO2
    have hr : (Builtin.copy_ #[t, tx] ty #[.slice (some ⟨b, l, none⟩) dn dc, .string s]).run P w = .ok (.int .i64 s.size) w1 := by
      simp only [Builtin.copy_]
      have hm : min s.size dn = s.size := hmin
      simp [run_underlying hT.und, Builtin.lenOf, Builtin.firstCells, hT.size, hm, goInt]
      rw [hcells, hst]; simp
    refine wpList_run_value hw ?_ (next _ w1 ⟨?_, hcm, tl, f, ?_, hfr, rfl⟩ hO2)
    · rw [execOp_copy, hd, hs]
      simp [hr]
    · simp only [List.length_append, List.length_take, List.length_drop, hsz]; omega
    · rw [← hlen]
      simp only [List.length_append, bytesV_length, List.length_take, List.length_drop, hsz]; omega
end
end Go.Own

/- Space: bytes, given. -/
namespace Go.Proofs.Ytkfkcloefgfkaaa
open Go Go.RowKit Go.Own Go.Dk

def BytesP (E : World) (J : Nat → Prop) (F0 : List UInt8) (s l p : Nat) (now : Option Addr) (mf d most N : Nat) (cont : Nat → List UInt8) (k : Nat) (R : Fr) (e : Ending) (w' : World) : Prop :=
  ∃ b cap B PA', e = .returned (.slice (some ⟨b, 0, none⟩) 512 cap) ∧ PgB 5 b (cont k) cap B ∧ PoolS J F0 p d most N cont (fun _ => 0) PA' ∧ Own E w' (B ++ (spF s l p now mf ++ (PA' ++ R)))
set_option maxRecDepth 100000 in
set_option maxHeartbeats 16000000 in
theorem sBytes {J : Nat → Prop} {F0 : List UInt8} (E w : World) (X R PA : Fr) (s l p mf : Nat) (now : Option Addr) (d most N : Nat) (cont : Nat → List UInt8) (k : Nat) (hk : k < 4096) (hS : PoolS J F0 p d most N cont (fun _ => 0) PA) (hm : 0 < most) (hm2 : most ≤ 1024)
    (hN : N ≤ 8796093022208) (hO : Own E w X) [hp : Pick X (spF s l p now mf ++ PA) R] :
    Calls Try.prog 56 #[.pointer (some ⟨s, 0, none⟩), .int .i64 k] w (BytesP E J F0 s l p now mf d most N cont k R) := by
  replace hO : Own E w (spF s l p now mf ++ (PA ++ R)) := by have := hO.perm hp.perm; rwa [List.append_assoc] at this
  clear hp
  have hcl := hS.clen k
  unfold spF at hO
  have hF := Own.cells hO; simp only [cellsOf_append, cellsOf_pt] at hF
  go_enter Try.func56, Try.ntmps56
  go_wp2_with fail
  refine (pPin E _ _ _ PA p d most N cont (fun _ => 0) k hS hm hm2 hN hk (by decide) hO).mono ?_
  clear hO hF
  rintro e w3 (⟨rfl, PA, hS, hO⟩ | ⟨_, _, ⟨Q, _, hQl, hQ⟩, _⟩)
  rotate_left
  · exact (pinned_not hm hQl hQ).elim
  have hF := Own.cells hO; simp only [cellsOf_append, cellsOf_pt] at hF
  go_wp2_with fail
  refine (pRead_yes E _ _ _ PA p d most N cont _ k hS hm (by simp [upd]) hO).mono ?_
  rintro e w4 ⟨rfl, rfl⟩
  go_wp2_with fail
  refine (pUnpin_yes E _ _ _ PA p d most _ _ _ k hS hm (by simp [upd]) (by simp [upd]) hO).mono ?_
  clear hO hF
  rintro e w5 ⟨rfl, PA, hS, hO⟩
  rw [pins_back] at hS
  have hsz : (⟨(cont k).toArray⟩ : ByteArray).size = 512 := by simp [ByteArray.size, hcl]
  have hdt : (⟨(cont k).toArray⟩ : ByteArray).data.toList = cont k := by simp
  generalize (⟨(cont k).toArray⟩ : ByteArray) = t at hsz hdt
  go_wp2_with (first | (refine at_conv ?_; go_must (refine own_str_bytes2 (e := 5) (s := t) (by kernel_rfl) (by kernel_rfl) (by kernel_rfl) hO (by rw [hsz]; decide) ?_ ?_ ?_; (· rfl); (· ((conv => lhs; whnf); try exact rfl)); clear hO; (try clear hF); intro bb cap B _ hB hO; rw [hdt] at hB; rw [hsz]; simp only [Act.put, List.setIfInBounds_toArray, List.set_cons_zero, List.set_cons_succ])))
  go_ret
  exact ⟨bb, cap, B, PA, rfl, hB, hS, by unfold spF; exact hO.as _⟩
set_option maxRecDepth 100000 in
set_option maxHeartbeats 16000000 in
theorem sGiven (E w : World) (X R : Fr) (s l p mf : Nat) (now : Option Addr) (hO : Own E w X) [hp : Pick X (spF s l p now mf) R] :
    Calls Try.prog 58 #[.pointer (some ⟨s, 0, none⟩)] w fun e w' => e = .returned (.bool true) ∧ w = w' := by
  replace hO := hO.perm hp.perm
  unfold spF at hO
  ((try simp only [List.nil_append, List.append_nil] at hO); have hF := Own.cells hO; simp only [cellsOf_append, cellsOf_pt] at hF)
  go_enter Try.func58, Try.ntmps58
  go_wp2
  go_ret
  exact ⟨rfl, rfl⟩
end Go.Proofs.Ytkfkcloefgfkaaa

/- Maps keyed by ints: a key that is there gets another value; ranging with what each key holds. -/
namespace Go.Own
open Go Go.RowKit Go.ChangeMaps

/-- The list with k's value changed. -/
def mset (l : List (Int × Value)) (k : Int) (v : Value) : List (Int × Value) := l.map fun p => if p.1 == k then (k, v) else p

theorem findNow_set (k : Int) : ∀ (es : List MapEntry) (l : List (Int × Value)) (i : Nat), es.map (fun e => (e.key, e.val)) = l.map (fun p => (Value.int .i64 p.1, p.2)) → (l.map (·.1)).Nodup → ∀ v, mlook l k = some v →
    ∃ j, j < es.length ∧ Instr.findNow (.int .i64) (.int .i64 k) es i = some (some (i + j, v)) ∧ (es[j]?).map (·.key) = some (.int .i64 k) ∧
      ∀ u, (es.modify j (fun e => { e with key := .int .i64 k, val := u })).map (fun e => (e.key, e.val)) = (mset l k u).map (fun p => (Value.int .i64 p.1, p.2))
  | [], l, i, h, _, v, hv => by
    obtain rfl : l = [] := by simpa using h.symm
    simp [mlook] at hv
  | e :: es, [], i, h, _, _, _ => by simp at h
  | e :: es, p :: l, i, h, hnd, v, hl => by
    simp only [List.map_cons, List.cons.injEq] at h
    obtain ⟨hkv, ht⟩ := h
    obtain ⟨hk, hv⟩ := Prod.mk.inj hkv
    have hkk := hk
    rw [List.map_cons, List.nodup_cons] at hnd
    by_cases hp : p.1 = k
    · have : p.2 = v := by simpa [mlook, hp] using hl
      refine ⟨0, by simp, ?_, by simp [hkk, hp], fun u => ?_⟩
      · simp only [Instr.findNow, hkk, Instr.sameNow, if_true, hp, beq_self_eq_true, Nat.add_zero]
        simp_all
      · rw [List.modify_zero_cons, List.map_cons, ht]
        have hm : mset l k u = l := by
          unfold mset
          conv => rhs; rw [← List.map_id l]
          refine List.map_congr_left fun q hq => ?_
          have : ¬ q.1 = k := fun e => hnd.1 (List.mem_map.2 ⟨q, hq, by rw [e, hp]⟩)
          simp [this]
        have : mset (p :: l) k u = (k, u) :: mset l k u := by simp [mset, hp]
        rw [this, hm]
        rfl
    · have hne : (k == p.1) = false := by simp; exact fun e => hp e.symm
      have hne2 : (p.1 == k) = false := by simpa using hp
      have hl2 : mlook (p :: l) k = mlook l k := by simp [mlook, hne2]
      rw [hl2] at hl
      obtain ⟨j, hj, hf, hkey, he⟩ := findNow_set k es l (i + 1) ht hnd.2 v hl
      refine ⟨j + 1, by simpa using hj, ?_, by simpa using hkey, fun u => ?_⟩
      · simp only [Instr.findNow, hkk, Instr.sameNow, if_true, hne]
        rw [hf]
        congr 3
        omega
      · rw [List.modify_succ_cons, List.map_cons, he u]
        have : mset (p :: l) k u = p :: mset l k u := by simp [mset, hp]
        rw [this, List.map_cons, ← hkv]

section
variable {P : Program} {t kt et : TypeId} {E w : World} {X R A : Fr} {b : Nat} {l : List (Int × Value)}
variable {ops : Array Oper} {Q : Exit → Act → World → Prop} {rest : List Oper} {a : Act} {d : Option Tmp} {ty : TypeId} {pos : String} {aft : Array Edge} {g : Option (Nat × Bool)}

theorem modify_born (f : MapEntry → MapEntry) (hf : ∀ e, (f e).born = e.born) : ∀ (es : List MapEntry) (j : Nat), (es.modify j f).map (·.born) = es.map (·.born)
  | [], j => by simp
  | e :: es, 0 => by rw [List.modify_zero_cons, List.map_cons, List.map_cons, hf]
  | e :: es, j + 1 => by rw [List.modify_succ_cons, List.map_cons, List.map_cons, modify_born f hf es j]
theorem MI.set {es : Array MapEntry} {c : Nat} (h : MI es c l) {k : Int} {j : Nat} (v : Value) (he : (es.toList.modify j (fun e => { e with key := .int .i64 k, val := v })).map (fun e => (e.key, e.val)) = (mset l k v).map (fun p => (Value.int .i64 p.1, p.2))) :
    MI (es.modify j (fun e => { e with key := .int .i64 k, val := v })) c (mset l k v) := by
  have hb := modify_born (fun e => { e with key := .int .i64 k, val := v }) (fun _ => rfl) es.toList j
  have hkeys : (mset l k v).map (·.1) = l.map (·.1) := by
    unfold mset
    rw [List.map_map]
    refine List.map_congr_left fun q _ => ?_
    by_cases hq : q.1 = k <;> simp [hq]
  refine ⟨by rw [Array.toList_modify]; exact he, by rw [hkeys]; exact h.keys, by rw [Array.toList_modify, hb]; exact h.born, fun e he2 => ?_⟩
  rw [Array.toList_modify] at he2
  have h1 : e.born ∈ (es.toList.modify j (fun e => { e with key := .int .i64 k, val := v })).map (·.born) := List.mem_map.2 ⟨e, he2, rfl⟩
  rw [hb] at h1
  obtain ⟨e', h2, h3⟩ := List.mem_map.1 h1
  rw [← h3]
  exact h.old e' h2

theorem run_keyStays (k : Int) (w : World) : (Instr.keyThatStays (.int .i64 k) (.int .i64 k)).run P w = .ok (.int .i64 k) w := by
  simp [Instr.keyThatStays, Instr.sameBits]

theorem own_mapSet (ht : P.underlying t = some (.map kt et)) (hk : P.underlying kt = some (.int .i64)) (hO : Own E w X) (hM : MapAt b l A) [hp : Pick X A R] {m x y : Operand} {k : Int} {v v0 : Value}
    (hw : Region.wanted ⟨d, .mapUpdate t m x y, ty, pos, aft, g⟩ (yielded ops a.tmps) = true) (hm : a.eval m = .map (some b)) (hx : a.eval x = .int .i64 k) (hy : a.eval y = v) (hn : mlook l k = some v0)
    (next : ∀ w1 A1, MapAt b (mset l k v) A1 → Own E w1 (A1 ++ R) → wpList P ops Q rest (a.put d undef) w1) : wpList P ops Q (⟨d, .mapUpdate t m x y, ty, pos, aft, g⟩ :: rest) a w := by
  obtain ⟨es, c, hM, rfl⟩ := hM
  have hO1 := hO.perm hp.perm
  have hg : w.heap[b]? = some (.map es c) := hO1.mem (b, .map es c) (by simp [pt])
  obtain ⟨j, hj, hf, hkey, he⟩ := findNow_set k es.toList l 0 hM.ent hM.keys v0 hn
  rw [Nat.zero_add] at hf
  have hfk : (Instr.findKey kt (.int .i64 k) es.toList).run P w = .ok (some (j, v0)) w := by simp [Instr.findKey, run_underlying hk, Result.andThen, hf]
  have hkey2 : (Option.map (fun e => e.key) es[j]?).getD (Value.int .i64 k) = .int .i64 k := by
    have : es[j]? = es.toList[j]? := by simp
    rw [this, hkey]; rfl
  refine wpList_run_skip (w1 := setBlock w b (.map (es.modify j fun e => { e with key := .int .i64 k, val := v }) c)) hw ?_ (next _ _ ⟨_, _, hM.set v (he v), rfl⟩ ?_)
  · simp [execOp, hm, hx, hy, Instr.mapUpdate, run_underlying ht, Result.andThen, getObj, setObj, Sem.run, hg, run_checkInt hk, hfk, setBlock, hkey2, run_keyStays]
  · have hb : b < w.heap.size := hO1.hasLt (b := b) (o := .map es c)
    refine hO1.modify rfl rfl rfl ?_ ?_
    · simp [setBlock, hb]
    · intro j hj
      simp [setBlock, hj, Ne.symm hj]
end
theorem run_opLookup {P : Program} {t kt et : TypeId} {E w : World} {X R A : Fr} {b : Nat} {l : List (Int × Value)} {a : Act} {d : Option Tmp} {ty : TypeId} {pos : String} {aft : Array Edge} {g : Option (Nat × Bool)}
    (ht : P.underlying t = some (.map kt et)) (hk : P.underlying kt = some (.int .i64)) {z : Value} (hz : ∀ w, (zeroValue et).run P w = .ok z w) (hO : Own E w X) (hM : MapAt b l A) [hp : Pick X A R] {m x : Operand} {k : Int} {v : Value}
    (hm : a.eval m = .map (some b)) (hx : a.eval x = .int .i64 k) (hl : mlook l k = some v) :
    (execOp a.eval ⟨d, .lookup t m x false, ty, pos, aft, g⟩).run P w = .ok (.value v) w := by
  have := run_lookMap ht hk hz hO hM k
  rw [hl] at this
  simp only [Option.getD_some] at this
  simp [execOp, hm, hx, this]
/-- How many keys an iterator told. -/
def seenN (w : World) (r : Nat) : Nat := match w.heap[r]? with | some (.mapIter _ _ xs _) => xs.size | _ => 0
theorem Ranging.seen {E w : World} {X R A : Fr} {r b : Nat} {l : List (Int × Value)} {done : List Int} (h : Ranging r b l done A) (hO : Own E w X) [hp : Pick X A R] : seenN w r = done.length := by
  obtain ⟨es, c, xs, _, _, _, hk, rfl⟩ := h
  have hg : w.heap[r]? = some (.mapIter (some b) c (xs.map (·.born)).toArray c) := (hO.perm hp.perm).mem (r, _) (by simp [pt])
  unfold seenN
  rw [hg]
  have l2 := congrArg List.length hk
  simp only [List.length_map] at l2
  simp [l2]
/-- The number in a cell. -/
def cellN (w : World) (a : Addr) : Nat := match w.cell? a with | some (.int _ n) => n.toNat | _ => 0
end Go.Own

/- Space: an action's own pages. -/
namespace Go.Own
open Go Go.RowKit
section
variable {P : Program} {ops : Array Oper} {Q : Exit → Act → World → Prop} {rest : List Oper} {a : Act} {E w : World} {X R A : Fr} {d : Option Tmp} {ty : TypeId} {pos : String} {aft : Array Edge} {g : Option (Nat × Bool)} {t kt et : TypeId} {b : Nat} {l : List (Int × Value)}
theorem run_lookMapOk (ht : P.underlying t = some (.map kt et)) (hk : P.underlying kt = some (.int .i64)) {z : Value} (hz : ∀ w, (zeroValue et).run P w = .ok z w) (hO : Own E w X) (hM : MapAt b l A) [hp : Pick X A R] (k : Int) :
    (Instr.lookup t (.map (some b)) (.int .i64 k) true).run P w = .ok (.tuple #[(mlook l k).getD z, .bool (mlook l k).isSome]) w := by
  obtain ⟨es, c, hM, rfl⟩ := hM
  have hg : w.heap[b]? = some (.map es c) := (hO.perm hp.perm).mem (b, .map es c) (by simp [pt])
  have hf := run_findKey hk hM k w
  cases hl : mlook l k with
  | none => simp [Instr.lookup, run_underlying ht, Result.andThen, getObj, Sem.run, hg, run_checkInt hk, hf.1 hl, hz w]
  | some v =>
    obtain ⟨j, _, hf, _⟩ := hf.2 v hl
    simp [Instr.lookup, run_underlying ht, Result.andThen, getObj, Sem.run, hg, run_checkInt hk, hf]
theorem own_lookupOk (ht : P.underlying t = some (.map kt et)) (hk : P.underlying kt = some (.int .i64)) {z : Value} (hz : ∀ w, (zeroValue et).run P w = .ok z w) (hO : Own E w X) (hM : MapAt b l A) [hp : Pick X A R] {m x : Operand} {k : Int}
    (hw : Region.wanted ⟨d, .lookup t m x true, ty, pos, aft, g⟩ (yielded ops a.tmps) = true) (hm : a.eval m = .map (some b)) (hx : a.eval x = .int .i64 k)
    (next : wpList P ops Q rest (a.put d (.tuple #[(mlook l k).getD z, .bool (mlook l k).isSome])) w) : wpList P ops Q (⟨d, .lookup t m x true, ty, pos, aft, g⟩ :: rest) a w := by
  refine wpList_run_value hw ?_ next
  have := run_lookMapOk ht hk hz hO hM k
  simp [execOp, hm, hx, this]
end
end Go.Own
namespace Go.Dk
open Go.Own Go.RowKit
/-- A page as an action has it: its block and bytes. -/
structure Ov where
  k : Nat
  b : Nat
  cap : Nat
  l : List UInt8
  F : Fr
def OvOk (o : Ov) : Prop := o.k < 4096 ∧ o.l.length = 512 ∧ PgB 5 o.b o.l o.cap o.F
def ovV (o : Ov) : Value := .slice (some ⟨o.b, 0, none⟩) 512 o.cap
def ovP (o : Ov) : Int × Value := ((o.k : Int), ovV o)
def ovsF (l : List Ov) : Fr := l.flatMap (·.F)
theorem ovsF_nil : ovsF [] = [] := rfl
theorem ovsF_app (a b : List Ov) : ovsF (a ++ b) = ovsF a ++ ovsF b := by simp [ovsF]
theorem ovsF_cons (o : Ov) (b : List Ov) : ovsF (o :: b) = o.F ++ ovsF b := by simp [ovsF]
def oview (cont : Nat → List UInt8) (ovs : List Ov) (k : Nat) : List UInt8 := match ovs.find? (·.k == k) with | some o => o.l | none => cont k
theorem ov_cases (ovs : List Ov) (k : Nat) : (∃ pre o post, ovs = pre ++ o :: post ∧ o.k = k ∧ (∀ q ∈ pre, q.k ≠ k)) ∨ ∀ o ∈ ovs, o.k ≠ k := by
  induction ovs with
  | nil => exact .inr (by simp)
  | cons q l ih =>
    by_cases hq : q.k = k
    · exact .inl ⟨[], q, l, rfl, hq, by simp⟩
    · rcases ih with ⟨pre, o, post, rfl, ho, hp⟩ | h
      · exact .inl ⟨q :: pre, o, post, rfl, ho, by simpa [hq] using hp⟩
      · exact .inr (by simpa [hq] using h)
theorem ov_look_in {pre post : List Ov} {o : Ov} (h : ∀ q ∈ pre, q.k ≠ o.k) : mlook ((pre ++ o :: post).map ovP) (o.k : Int) = some (ovV o) := by
  unfold mlook
  rw [List.map_append, List.find?_append]
  have h1 : (pre.map ovP).find? (fun p => p.1 == (o.k : Int)) = none := by
    rw [List.find?_eq_none]
    intro p hp
    obtain ⟨q, hq, rfl⟩ := List.mem_map.1 hp
    have := h q hq
    simp only [ovP, beq_iff_eq]
    omega
  rw [h1]
  simp [ovP]
theorem ov_look_out {ovs : List Ov} {k : Nat} (h : ∀ q ∈ ovs, q.k ≠ k) : mlook (ovs.map ovP) (k : Int) = none := by
  unfold mlook
  rw [Option.map_eq_none_iff, List.find?_eq_none]
  intro p hp
  obtain ⟨q, hq, rfl⟩ := List.mem_map.1 hp
  have := h q hq
  simp only [ovP, beq_iff_eq]
  omega
theorem oview_in {cont : Nat → List UInt8} {pre post : List Ov} {o : Ov} (h : ∀ q ∈ pre, q.k ≠ o.k) : oview cont (pre ++ o :: post) o.k = o.l := by
  unfold oview
  rw [List.find?_append, List.find?_eq_none.2 (by intro q hq; simpa using h q hq)]
  simp
theorem oview_out {cont : Nat → List UInt8} {ovs : List Ov} {k : Nat} (h : ∀ q ∈ ovs, q.k ≠ k) : oview cont ovs k = cont k := by
  unfold oview
  rw [List.find?_eq_none.2 (by intro q hq; simpa using h q hq)]
end Go.Dk
namespace Go.Proofs.Ytkfkcloefgfkaaa
open Go Go.RowKit Go.Own Go.Dk

def actF (a s mp mg : Nat) (over : Bool) : Fr := pt a (.cells #[.pointer (some ⟨s, 0, none⟩), .map (some mp), .map (some mg), .bool over] 61 (0, 0))
set_option maxRecDepth 100000 in
set_option maxHeartbeats 16000000 in
theorem aGoing (E w : World) (X R : Fr) (a s mp mg : Nat) (over : Bool) (hO : Own E w X) [hp : Pick X (actF a s mp mg over) R] :
    Calls Try.prog 59 #[.pointer (some ⟨a, 0, none⟩)] w fun e w' => e = .returned (.int .i64 (if over then 5 else 0)) ∧ w = w' := by
  replace hO := hO.perm hp.perm
  unfold actF at hO
  ((try simp only [List.nil_append, List.append_nil] at hO); have hF := Own.cells hO; simp only [cellsOf_append, cellsOf_pt] at hF)
  cases over
  · go_enter Try.func59, Try.ntmps59
    go_wp2
    go_ret
    exact ⟨rfl, rfl⟩
  · go_enter Try.func59, Try.ntmps59
    go_wp2
    go_ret
    exact ⟨rfl, rfl⟩
end Go.Proofs.Ytkfkcloefgfkaaa
