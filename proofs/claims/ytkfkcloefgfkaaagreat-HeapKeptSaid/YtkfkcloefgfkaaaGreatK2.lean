/- Package disk: of a disk that nobody made; the statements' own check that something comes. -/
import Derived.Test.YtkfkcloefgfkaaaGreatK1
import Derived.Laws.IdiomStrings
import Derived.Maps.RangeRun
set_option linter.all false
/- Package disk: of a disk that nobody made; the statements' own check that something comes. -/
namespace Go.Proofs.YtkfkcloefgfkaaaGreat
open Go Go.RowKit Go.Own Go.Dk

set_option maxRecDepth 100000 in
set_option maxHeartbeats 16000000 in
theorem nWrite (v : Value) (f a : Int) (s : ByteArray) (w : World) (h : Nob w v) :
    Calls Tryz.prog 104 #[v, .int .i64 f, .int .i64 a, .string s] w fun e w' => e = .returned (.int .i64 1) ∧ w = w' := by
  go_enter Tryz.func104, Tryz.ntmps104
  go_wp2_with (go_at_call 149; refine (dGiven_no _ _ _ h).mono ?_; rintro e w1 ⟨rfl, rfl⟩)
  go_ret
  exact ⟨rfl, rfl⟩
set_option maxRecDepth 100000 in
set_option maxHeartbeats 16000000 in
theorem nTrim (v : Value) (f a : Int) (w : World) (h : Nob w v) :
    Calls Tryz.prog 112 #[v, .int .i64 f, .int .i64 a] w fun e w' => e = .returned (.int .i64 1) ∧ w = w' := by
  go_enter Tryz.func112, Tryz.ntmps112
  go_wp2_with (go_at_call 149; refine (dGiven_no _ _ _ h).mono ?_; rintro e w1 ⟨rfl, rfl⟩)
  go_ret
  exact ⟨rfl, rfl⟩
set_option maxRecDepth 100000 in
set_option maxHeartbeats 16000000 in
theorem nRead (v : Value) (f a n : Int) (w : World) (h : Nob w v) :
    Calls Tryz.prog 110 #[v, .int .i64 f, .int .i64 a, .int .i64 n] w fun e w' => e = .returned (.tuple #[.string ByteArray.empty, .int .i64 1]) ∧ w = w' := by
  go_enter Tryz.func110, Tryz.ntmps110
  go_wp2_with (go_at_call 149; refine (dGiven_no _ _ _ h).mono ?_; rintro e w1 ⟨rfl, rfl⟩)
  go_ret2
  exact ⟨rfl, rfl⟩
set_option maxRecDepth 100000 in
set_option maxHeartbeats 16000000 in
theorem nSize (v : Value) (f : Int) (w : World) (h : Nob w v) :
    Calls Tryz.prog 111 #[v, .int .i64 f] w fun e w' => e = .returned (.int .i64 0) ∧ w = w' := by
  go_enter Tryz.func111, Tryz.ntmps111
  go_wp2_with (go_at_call 149; refine (dGiven_no _ _ _ h).mono ?_; rintro e w1 ⟨rfl, rfl⟩)
  go_ret
  exact ⟨rfl, rfl⟩


--FI

end Go.Proofs.YtkfkcloefgfkaaaGreat

/- More laws for the walk: results that lie in a cell. -/
namespace Go.Own
open Go.RowKit

theorem run_loadVarS {P : Program} {E w : World} {X : Fr} {t : TypeId} {b : Nat} {cs : Array Value} {e : TypeId} {f : Nat × Nat} (hO : Own E w X) (hh : Has X b (.cells cs e f)) (ht : (isAgg t).run P w = .ok true w) (hs : (sizeOf t).run P w = .ok cs.size w) :
    (loadVar t ⟨b, 0, none⟩).run P w = .ok (.agg cs) w := by
  have hl := run_loadCells_list (P := P) w ⟨b, 0, none⟩ cs.toList (by
    intro j v hj
    rw [add_lit, hO.cell (b := b)]
    simpa using hj)
  rw [Array.length_toList] at hl
  simp [loadVar, ht, hs, hl]

theorem results_cell_tmp_own {P : Program} {E w : World} {X : Fr} {fn : Func} {p u : Tmp} {t : TypeId} {b : Nat} {cs : Array Value} {e : TypeId} {f : Nat × Nat} {tmps : Array Value} {v : Value} (h : fn.results = #[.cell p t, .tmp u]) (hO : Own E w X)
    (hp : tmps.getD p undef = .pointer (some ⟨b, 0, none⟩)) (hu : tmps.getD u undef = v) (hh : Has X b (.cells cs e f)) (ht : (isAgg t).run P w = .ok true w) (hs : (sizeOf t).run P w = .ok cs.size w) :
    (results fn tmps).run P w = .ok (.tuple #[.agg cs, v]) w := by
  rw [results_cell_tmp h, hp, hu]
  simp [asAddr, run_loadVarS hO hh ht hs]

theorem results_cell_own {P : Program} {E w : World} {X : Fr} {fn : Func} {p : Tmp} {t : TypeId} {b : Nat} {cs : Array Value} {e : TypeId} {f : Nat × Nat} {tmps : Array Value} (h : fn.results = #[.cell p t]) (hO : Own E w X)
    (hp : tmps.getD p undef = .pointer (some ⟨b, 0, none⟩)) (hh : Has X b (.cells cs e f)) (ht : (isAgg t).run P w = .ok true w) (hs : (sizeOf t).run P w = .ok cs.size w) :
    (results fn tmps).run P w = .ok (.agg cs) w := by
  have : (results fn tmps).run P w = ((asAddr (tmps.getD p undef)).run P w).andThen fun a w₁ => (loadVar t a).run P w₁ := by
    simp only [results, h]
    simp [Sem.run_bind, Result.andThen]
  rw [this, hp]
  simp [asAddr, run_loadVarS hO hh ht hs]

/-- The walk halts before a goal that bears this name. -/
structure Stop (p : Prop) : Prop where
  go : p

theorem run_opLoadS {P : Program} {E w : World} {X : Fr} {a : Act} {d : Option Tmp} {ty : TypeId} {pos : String} {aft : Array Edge} {g : Option (Nat × Bool)} {t : TypeId} {x : Operand} {b : Nat} {cs : Array Value} {e : TypeId} {f : Nat × Nat} (hO : Own E w X)
    (hx : a.eval x = .pointer (some ⟨b, 0, none⟩)) (hh : Has X b (.cells cs e f)) (ht : (isAgg t).run P w = .ok true w) (hs : (sizeOf t).run P w = .ok cs.size w) :
    (execOp a.eval ⟨d, .load t x, ty, pos, aft, g⟩).run P w = .ok (.value (.agg cs)) w := by
  have := run_loadVarS hO hh ht hs
  simp [execOp, Instr.loadAt, Instr.sureAddr, hx, this]

section laws
variable {P : Program} {ops : Array Oper} {Q : Exit → Act → World → Prop} {rest : List Oper} {a : Act} {E w : World} {X A R : Fr} {d : Option Tmp} {ty : TypeId} {pos : String} {aft : Array Edge} {g : Option (Nat × Bool)}
/-- append onto the nil slice: a slice of our own. -/
theorem own_append_new {xv : Value} {t tx e : TypeId} {sz bytes : Nat} {z : Value} {s x : Operand} {m : Nat} {news : List Value} (hT : SlT P t e sz bytes z)
    (htx : P.underlying tx = some (.slice e) ∨ P.underlying tx = some .string) (hO : Own E w X)
    (hw : Region.wanted ⟨d, .call { callee := .builtin .append, args := #[s, x], argTypes := #[t, tx] }, ty, pos, aft, g⟩ (yielded ops a.tmps) = true)
    (hs : a.eval s = .slice none 0 0) (hx : a.eval x = xv)
    (hlen : ∀ w, (Builtin.lenOf xv).run P w = .ok m w) (hnews : ∀ w', Own E w' X → (Builtin.firstCells sz m xv).run P w' = .ok news.toArray w')
    (hl : news.length = m * sz) (h1 : ∀ u ∈ news, u.oneCell' = true) (h63 : m ≤ maxLen) (hb : m * bytes ≤ 140737488355328)
    (next : ∀ a' cap' A' w1, Sl e sz a' m cap' news A' → Own E w1 (A' ++ X) → wpList P ops Q rest (a.put d (.slice a' m cap')) w1) :
    wpList P ops Q (⟨d, .call { callee := .builtin .append, args := #[s, x], argTypes := #[t, tx] }, ty, pos, aft, g⟩ :: rest) a w := by
  refine own_append (R := X) hT htx hO hw hs hx (Sl.nil e sz) hlen hnews hl h1 (by omega) (.inl (by simpa using hb)) ?_
  intro a' cap' A' w1 hS hO1
  simp only [Nat.zero_add, List.nil_append] at hS ⊢
  exact next a' cap' A' w1 hS hO1

/-- a store of a value of one cell or more; block, place and row are read off the goal. -/
theorem own_storeG {b off : Nat} {v : Value} {cs : Array Value} {e : TypeId} {R' : Fr} {t : TypeId} {x y : Operand} (hO : Own E w X) (hw : Region.wanted ⟨d, .store t x y, ty, pos, aft, g⟩ (yielded ops a.tmps) = true)
    (hx : a.eval x = .pointer (some ⟨b, off, none⟩)) (hy : a.eval y = v) (hp : PickPt X b (.cells cs e (0, 0)) R')
    (hs : (sizeOf t).run P w = .ok v.cells.size w) (h1 : ∀ u ∈ v.cells.toList, u.oneCell' = true) (hl : off + v.cells.size ≤ cs.size)
    (next : ∀ w1, Own E w1 (pt b (.cells (splice cs off v.cells.toList) e (0, 0)) ++ R') → wpList P ops Q rest (a.put d undef) w1) :
    wpList P ops Q (⟨d, .store t x y, ty, pos, aft, g⟩ :: rest) a w := own_store hO hw hx hy hs h1 hl next
end laws
end Go.Own

/- The log: records on file 0 of a disk; plain laws. -/
namespace Go.Dk
open Go.Own Go.RowKit

/-- A length's four bytes. -/
def hd4 (n : Nat) : List UInt8 := [UInt8.ofNat (n / 16777216), UInt8.ofNat (n / 65536), UInt8.ofNat (n / 256), UInt8.ofNat n]
def encR (s : ByteArray) : List UInt8 := hd4 s.size ++ s.data.toList
def encs (l : List ByteArray) : List UInt8 := l.flatMap encR
theorem encs_nil : encs [] = [] := rfl
theorem encs_cons (s : ByteArray) (l : List ByteArray) : encs (s :: l) = encR s ++ encs l := by simp [encs]
theorem encs_snoc (l : List ByteArray) (s : ByteArray) : encs (l ++ [s]) = encs l ++ encR s := by simp [encs]
theorem encR_length (s : ByteArray) : (encR s).length = 4 + s.size := by
  rw [encR, List.length_append, Array.length_toList]
  rfl

def val4 : List UInt8 → Nat
  | a :: b :: c :: d :: _ => ((a.toNat * 256 + b.toNat) * 256 + c.toNat) * 256 + d.toNat
  | _ => 0
theorem val4_hd4 (n : Nat) (hn : n < 4294967296) (r : List UInt8) : val4 (hd4 n ++ r) = n := by
  simp only [hd4, List.cons_append, List.nil_append, val4, UInt8.toNat_ofNat']
  omega

/-- No record begins there. -/
def Stuck (l : List UInt8) : Prop := l.length < 4 ∨ val4 l = 0 ∨ l.length - 4 < val4 l
def Recs (l : List ByteArray) : Prop := ∀ s ∈ l, 0 < s.size ∧ s.size < 4294967296

theorem encs_uniq : ∀ {a b : List ByteArray} {r : List UInt8}, Recs a → Recs b → encs a = encs b ++ r → Stuck r → a = b ∧ r = []
  | [], [], r, _, _, h, _ => ⟨rfl, by simpa [encs_nil] using h.symm⟩
  | s :: a, [], r, ha, _, h, hs => by
    exfalso
    rw [encs_nil, List.nil_append, encs_cons] at h
    have h1 := ha s (by simp)
    have hv : val4 r = s.size := by rw [← h, encR, List.append_assoc]; exact val4_hd4 _ h1.2 _
    have hl : r.length = 4 + s.size + (encs a).length := by rw [← h, List.length_append, encR_length]
    rcases hs with hs | hs | hs <;> omega
  | [], s :: b, r, _, hb, h, _ => by
    have := congrArg List.length h
    rw [encs_nil, encs_cons, List.length_append, List.length_append, encR_length] at this
    simp at this
    omega
  | t :: a, s :: b, r, ha, hb, h, hs => by
    rw [encs_cons, encs_cons, List.append_assoc] at h
    have h1 := ha t (by simp)
    have h2 := hb s (by simp)
    have hv : t.size = s.size := by
      have e1 := val4_hd4 t.size h1.2 (t.data.toList ++ encs a)
      have e2 := val4_hd4 s.size h2.2 (s.data.toList ++ (encs b ++ r))
      rw [← List.append_assoc] at e1 e2
      rw [← e1, ← e2]
      exact congrArg val4 h
    have hl : (encR t).length = (encR s).length := by rw [encR_length, encR_length, hv]
    obtain ⟨e1, e2⟩ := List.append_inj h hl
    have e3 : t = s := by
      rw [encR, encR, hv] at e1
      have := (List.append_inj e1 rfl).2
      exact ByteArray.ext (Array.toList_inj.1 this)
    obtain ⟨e4, e5⟩ := encs_uniq (fun x hx => ha x (by simp [hx])) (fun x hx => hb x (by simp [hx])) e2 hs
    exact ⟨by rw [e3, e4], e5⟩

theorem over_app (l s : List UInt8) : over l (l.length + 4) s = l ++ [0, 0, 0, 0] ++ s := by
  unfold over
  have h : l.length + 4 + s.length - l.length = 4 + s.length := by omega
  rw [h, List.drop_eq_nil_of_le (by simp; omega), List.append_nil, List.take_append, List.take_of_length_le (by omega)]
  have : l.length + 4 - l.length = 4 := by omega
  rw [this, List.take_replicate, Nat.min_eq_left (by omega)]
  rfl
theorem over_hd (l s : List UInt8) (h : List UInt8) (hh : h.length = 4) : over (l ++ [0, 0, 0, 0] ++ s) l.length h = l ++ h ++ s := by
  unfold over
  have e : l.length + h.length - (l ++ [0, 0, 0, 0] ++ s).length = 0 := by simp; omega
  rw [e, List.replicate_zero, List.append_nil, hh, List.append_assoc l, List.take_left, List.drop_append, List.drop_eq_nil_of_le (by omega)]
  have : l.length + 4 - l.length = 4 := by omega
  rw [this]
  rfl
end Go.Dk

/- A region that draws its order, where twice an operation may be first: a tree of schedules. -/
namespace Go.Own
open Go.RowKit

inductive Sch where
  | done
  | look (i : Nat) (s : Sch)
  | act (i : Nat) (s : Sch)
  | two (i : Nat) (s : Sch) (j : Nat) (t : Sch)

def Sch.len : Sch → Nat
  | .done => 0
  | .look _ s => s.len + 1
  | .act _ s => s.len + 1
  | .two _ s _ _ => s.len + 1

section
variable {P : Program} {ops : Array Oper} {Q : Exit → Act → World → Prop} {S : World → Prop}

def schB (ops : Array Oper) : Sch → Array Bool → Bool
  | .done, listed => (Region.ready .any ops listed).isEmpty
  | .look i s, listed => (Region.ready .any ops listed).contains i && Region.free .any ops listed i && schB ops s (listed.setIfInBounds i true)
  | .act i s, listed => decide (Region.ready .any ops listed = [i]) && schB ops s (listed.setIfInBounds i true)
  | .two i s j t, listed => decide (Region.ready .any ops listed = [i, j]) && decide (s.len = t.len) && schB ops s (listed.setIfInBounds i true) && schB ops t (listed.setIfInBounds j true)

def schL (P : Program) (ops : Array Oper) (Q : Exit → Act → World → Prop) (S : World → Prop) : Sch → Act → World → Prop
  | .done, a, w => Q .normal a w
  | .look i s, a, w => ∃ v, YieldsIf P ops S (ops.getD i default) v a ∧ schL P ops Q S s (a.put (ops.getD i default).dst v) w
  | .act i s, a, w => wpList P ops (fun e a' w' => match e with | .normal => S w' ∧ schL P ops Q S s a' w' | e => Q e a' w') [ops.getD i default] a w
  | .two i s j t, a, w => wpList P ops (fun e a' w' => match e with | .normal => S w' ∧ schL P ops Q S s a' w' | e => Q e a' w') [ops.getD i default] a w ∧
      wpList P ops (fun e a' w' => match e with | .normal => S w' ∧ schL P ops Q S t a' w' | e => Q e a' w') [ops.getD j default] a w

theorem wpOp_of_list {i : Nat} {o : Oper} {K : Act → World → Prop} {K' : Act → World → Prop} (ho : ops[i]? = some o) {a : Act} {w : World} (hK : ∀ a' w', S w' ∧ K a' w' → K' a' w')
    (h : wpList P ops (fun e a' w' => match e with | .normal => S w' ∧ K a' w' | e => Q e a' w') [o] a w) : wpOp P ops Q i K' a w := by
  unfold wpOp
  simp only [ho]
  unfold wpList at h
  split at h
  · rename_i hw
    rw [if_pos hw]
    rcases h with h | h
    · refine .inl ?_
      unfold Oper.wp at *
      generalize (execOp a.eval o).run P w = r at *
      have fin : ∀ a' w', wpList P ops (fun e a' w' => match e with | .normal => S w' ∧ K a' w' | e => Q e a' w') [] a' w' → K' a' w' := fun a' w' h => hK a' w' h
      cases r with
      | ok n w' =>
        cases n <;> simp only [Oper.upon] at h ⊢ <;> first
          | exact fin _ _ h
          | exact Calls.mono h (fun e w'' he => by cases e <;> first | exact fin _ _ he | exact he)
          | exact Rows.mono h (fun _ _ he => fin _ _ he)
      | halt x w' => cases x <;> simp only [Oper.upon] at h ⊢ <;> exact h
    · exact .inr h
  · rename_i hw
    rw [if_neg hw]
    exact hK _ _ h

theorem wpAnyH_of_sch (hsel : Region.noSelect ops = true) (hQ : ∀ c a d v w, Q (.panic c) (a.put d v) w → Q (.panic c) a w) : ∀ (s : Sch) (listed : Array Bool) (a : Act) (w : World), schB ops s listed = true → S w →
    schL P ops Q S s a w → wpAnyH P .any ops Q S s.len listed a w
  | .done, listed, a, w, hB, _, h => ⟨by simpa [schB] using hB, h⟩
  | .look i s, listed, a, w, hB, hS, h => by
    simp only [schB, Bool.and_eq_true] at hB
    obtain ⟨⟨hr, hf⟩, hB'⟩ := hB
    have hr' : i ∈ Region.ready .any ops listed := by simpa using hr
    obtain ⟨_, o, ho, _⟩ := mem_ready.1 hr'
    simp only [schL] at h
    have hd : ops.getD i default = o := by simp [ho]
    rw [hd] at h
    obtain ⟨v, hy, h⟩ := h
    exact wpAnyH_first ho (Region.noSelect_spec hsel) (fun c a w => hQ c a _ _ w) s.len listed a w (Region.free_spec ho hf) hr' hy hS
      (wpAnyH_of_sch hsel hQ s _ _ _ hB' hS h)
  | .act i s, listed, a, w, hB, hS, h => by
    simp only [schB, Bool.and_eq_true, decide_eq_true_eq] at hB
    obtain ⟨hr, hB'⟩ := hB
    have hr' : i ∈ Region.ready .any ops listed := by rw [hr]; simp
    obtain ⟨_, o, ho, _⟩ := mem_ready.1 hr'
    simp only [schL] at h
    have hd : ops.getD i default = o := by simp [ho]
    rw [hd] at h
    refine ⟨fun h0 => (by rw [h0] at hr; cases hr), fun j hj => ?_⟩
    rw [hr] at hj
    have hji : j = i := by simpa using hj
    subst hji
    exact wpOp_of_list ho (fun a' w' h' => ⟨h'.1, wpAnyH_of_sch hsel hQ s _ _ _ hB' h'.1 h'.2⟩) h
  | .two i s j t, listed, a, w, hB, hS, h => by
    simp only [schB, Bool.and_eq_true, decide_eq_true_eq] at hB
    obtain ⟨⟨⟨hr, hl⟩, hB1⟩, hB2⟩ := hB
    have hri : i ∈ Region.ready .any ops listed := by rw [hr]; simp
    have hrj : j ∈ Region.ready .any ops listed := by rw [hr]; simp
    obtain ⟨_, o, ho, _⟩ := mem_ready.1 hri
    obtain ⟨_, o', ho', _⟩ := mem_ready.1 hrj
    simp only [schL] at h
    have hd : ops.getD i default = o := by simp [ho]
    have hd' : ops.getD j default = o' := by simp [ho']
    rw [hd, hd'] at h
    refine ⟨fun h0 => (by rw [h0] at hr; cases hr), fun k hk => ?_⟩
    rw [hr] at hk
    have hk' : k = i ∨ k = j := by simpa using hk
    by_cases hki : k = i
    · subst hki
      exact wpOp_of_list ho (fun a' w' h' => ⟨h'.1, wpAnyH_of_sch hsel hQ s _ _ _ hB1 h'.1 h'.2⟩) h.1
    · have hkj : k = j := by rcases hk' with h | h; exact absurd h hki; exact h
      subst hkj
      refine wpOp_of_list ho' (fun a' w' h' => ⟨h'.1, ?_⟩) h.2
      have := wpAnyH_of_sch hsel hQ t _ _ _ hB2 h'.1 h'.2
      rw [← hl] at this
      exact this

theorem region_sch {id : Nat} {a : Act} {w : World} {l : List Oper} (S : World → Prop) (s : Sch) (hm : P.follows .mixedOrders = true)
    (hB : (Region.noSelect l.toArray && decide (s.len = l.length) && schB l.toArray s (Array.replicate l.length false)) = true)
    (hQ : ∀ c a d v w, Q (.panic c) (a.put d v) w → Q (.panic c) a w) (hS : S w.drew)
    (h : schL P l.toArray Q S s a w.drew) : (Code.region id l.toArray true).wp P Q a w := by
  simp only [Bool.and_eq_true, decide_eq_true_eq] at hB
  obtain ⟨⟨hsel, hlen⟩, hB⟩ := hB
  refine wp_region_any hm (wpAny_of_held (S := S) _ _ _ _ ?_)
  have := wpAnyH_of_sch hsel hQ s _ a w.drew hB hS h
  rw [hlen] at this
  simpa using this

theorem region_schO {E : World} {X : Fr} {id : Nat} {a : Act} {w : World} {l : List Oper} (hO : Own E w X) (s : Sch) (hm : P.follows .mixedOrders = true)
    (hB : (Region.noSelect l.toArray && decide (s.len = l.length) && schB l.toArray s (Array.replicate l.length false)) = true)
    (hQ : ∀ c a d v w, Q (.panic c) (a.put d v) w → Q (.panic c) a w)
    (h : ∀ w1, Own E w1 X → schL P l.toArray Q (fun w' => Own E w' X) s a w1) : (Code.region id l.toArray true).wp P Q a w :=
  region_sch _ s hm hB hQ hO.drew (h _ hO.drew)

theorem sch_look {i : Nat} {s : Sch} {a : Act} {w : World} {o : Oper} {v : Value} (ho : ops.getD i default = o) (hw : Region.wanted o (yielded ops a.tmps) = true) (hy : ∀ w, S w → (execOp a.eval o).run P w = .ok (.value v) w)
    (h : schL P ops Q S s (a.put o.dst v) w) : schL P ops Q S (.look i s) a w := by subst ho; exact ⟨v, .inl ⟨hw, hy⟩, h⟩
theorem sch_pass {i : Nat} {s : Sch} {a : Act} {w : World} {o : Oper} (ho : ops.getD i default = o) (hw : Region.wanted o (yielded ops a.tmps) = false)
    (h : schL P ops Q S s (a.put o.dst undef) w) : schL P ops Q S (.look i s) a w := by subst ho; exact ⟨undef, .inr ⟨hw, rfl⟩, h⟩
theorem sch_act {i : Nat} {s : Sch} {a : Act} {w : World} {o : Oper} (ho : ops.getD i default = o)
    (h : wpList P ops (fun e a' w' => match e with | .normal => S w' ∧ schL P ops Q S s a' w' | e => Q e a' w') [o] a w) : schL P ops Q S (.act i s) a w := by subst ho; exact h
theorem sch_two {i j : Nat} {s t : Sch} {a : Act} {w : World} {o o' : Oper} (ho : ops.getD i default = o) (ho' : ops.getD j default = o')
    (h : wpList P ops (fun e a' w' => match e with | .normal => S w' ∧ schL P ops Q S s a' w' | e => Q e a' w') [o] a w)
    (h' : wpList P ops (fun e a' w' => match e with | .normal => S w' ∧ schL P ops Q S t a' w' | e => Q e a' w') [o'] a w) : schL P ops Q S (.two i s j t) a w := by subst ho ho'; exact ⟨h, h'⟩
theorem sch_done {a : Act} {w : World} (h : Q .normal a w) : schL P ops Q S .done a w := h
end
end Go.Own

/- What came in stays as it was: cells of the world at the start. -/
namespace Go.Own
open Go.RowKit

theorem Own.oldCell {E w : World} {X R : Fr} (hO : Own E w X) [hp : Pick X (oldFr E) R] {a : Addr} {v : Value} (h : E.cell? a = some v) : w.cell? a = some v := by
  have hb := World.block_lt_of_cell? E a h
  have h1 := (hO.perm hp.perm).left
  have hk : E.heap[a.block]? = some (E.heap[a.block]'hb) := Array.getElem?_eq_getElem hb
  have := h1.mem _ (oldFr_mem hk)
  rw [← h]
  exact World.cell?_of_block (by rw [this, hk])

/-- The row at a holds these cells, in the world at the start. -/
def RowAt (E : World) (a : Addr) (cs : List Value) : Prop := ∀ j v, cs[j]? = some v → E.cell? (a.add j) = some v
theorem RowAt.at {E w : World} {X R : Fr} {a : Addr} {cs : List Value} (h : RowAt E a cs) (hO : Own E w X) [hp : Pick X (oldFr E) R] : ∀ j v, cs[j]? = some v → w.cell? (a.add j) = some v :=
  fun j v hj => hO.oldCell (h j v hj)

theorem run_opLoadC {P : Program} {w : World} {a : Act} {d : Option Tmp} {ty : TypeId} {pos : String} {aft : Array Edge} {g : Option (Nat × Bool)} {t : TypeId} {x : Operand} {ad : Addr} {cs : List Value} (hc : ∀ j v, cs[j]? = some v → w.cell? (ad.add j) = some v)
    (hx : a.eval x = .pointer (some ad)) (ht : (isAgg t).run P w = .ok true w) (hs : (sizeOf t).run P w = .ok cs.length w) :
    (execOp a.eval ⟨d, .load t x, ty, pos, aft, g⟩).run P w = .ok (.value (.agg cs.toArray)) w := by
  have := run_loadCells_list (P := P) w ad cs hc
  simp [execOp, Instr.loadAt, Instr.sureAddr, hx, loadVar, ht, hs, this]

theorem own_loadC {P : Program} {ops : Array Oper} {Q : Exit → Act → World → Prop} {rest : List Oper} {a : Act} {w : World} {d : Option Tmp} {ty : TypeId} {pos : String} {aft : Array Edge} {g : Option (Nat × Bool)} {t : TypeId} {x : Operand} {ad : Addr} {cs : List Value}
    (hw : Region.wanted ⟨d, .load t x, ty, pos, aft, g⟩ (yielded ops a.tmps) = true) (hc : ∀ j v, cs[j]? = some v → w.cell? (ad.add j) = some v)
    (hx : a.eval x = .pointer (some ad)) (ht : (isAgg t).run P w = .ok true w) (hs : (sizeOf t).run P w = .ok cs.length w)
    (next : wpList P ops Q rest (a.put d (.agg cs.toArray)) w) : wpList P ops Q (⟨d, .load t x, ty, pos, aft, g⟩ :: rest) a w :=
  wpList_run_value hw (run_opLoadC hc hx ht hs) next
end Go.Own

/- The log's contracts: Append, Len, Reset. -/
namespace Go.Dk
open Go.Own Go.RowKit

/-- The log at block l: of the disk d, with these records. -/
def logF (l d : Nat) (recs : List ByteArray) : Fr := pt l (.cells #[.pointer (some ⟨d, 0, none⟩), .int .i64 (encs recs).length, .int .i64 recs.length] 160 (0, 0))
/-- Can a record be appended? -/
def apOk (recs : List ByteArray) (t : ByteArray) : Prop := 0 < t.size ∧ t.size ≤ 1048576 ∧ (encs recs).length + 4 + t.size ≤ 4194304
instance (recs : List ByteArray) (t : ByteArray) : Decidable (apOk recs t) := inferInstanceAs (Decidable (_ ∧ _))
def apE (recs : List ByteArray) (t : ByteArray) : Int := if apOk recs t then 0 else if 0 < t.size ∧ t.size ≤ 1048576 then 2 else 30
def apL (recs : List ByteArray) (t : ByteArray) : List ByteArray := if apOk recs t then recs ++ [t] else recs
def hdB (n : Nat) : ByteArray := ⟨(hd4 n).toArray⟩
def apR (rs : List Raw) (recs : List ByteArray) (t : ByteArray) : List Raw := if apOk recs t then rs ++ [.put 0 ((encs recs).length + 4) t, .put 0 (encs recs).length (hdB t.size)] else rs
theorem play_ap {rs : List Raw} {recs : List ByteArray} (h : play rs 0 = encs recs) (t : ByteArray) : play (apR rs recs t) 0 = encs (apL recs t) := by
  unfold apR apL
  split
  · rw [show rs ++ [Raw.put 0 ((encs recs).length + 4) t, .put 0 (encs recs).length (hdB t.size)] = (rs ++ [Raw.put 0 ((encs recs).length + 4) t]) ++ [.put 0 (encs recs).length (hdB t.size)] by simp]
    rw [play_snoc, play_snoc]
    simp only [Raw.app, upd_same, h, over_app]
    rw [over_hd _ _ _ rfl, encs_snoc, encR]
    simp [hdB]
  · exact h

theorem encs_len : ∀ l : List ByteArray, l.length ≤ (encs l).length
  | [] => by simp
  | s :: l => by
    have := encs_len l
    rw [encs_cons, List.length_append, encR_length, List.length_cons]
    omega
theorem wrap_u8 (n : Nat) : IntKind.u8.wrap (n : Int) = ((UInt8.ofNat n).toNat : Int) := by
  simp only [IntKind.wrap, show IntKind.bits .u8 = 8 from rfl, show IntKind.signed .u8 = false from rfl, UInt8.toNat_ofNat']
  simp
theorem hdV (n : Nat) : #[Value.int .u8 (IntKind.u8.wrap ((n : Int) / 16777216)), .int .u8 (IntKind.u8.wrap ((n : Int) / 65536)), .int .u8 (IntKind.u8.wrap ((n : Int) / 256)), .int .u8 (IntKind.u8.wrap (n : Int))] = (bytesV (hd4 n)).toArray := by
  have e1 : (n : Int) / 16777216 = ((n / 16777216 : Nat) : Int) := by omega
  have e2 : (n : Int) / 65536 = ((n / 65536 : Nat) : Int) := by omega
  have e3 : (n : Int) / 256 = ((n / 256 : Nat) : Int) := by omega
  rw [e1, e2, e3, wrap_u8, wrap_u8, wrap_u8, wrap_u8]
  rfl
end Go.Dk
namespace Go.Proofs.YtkfkcloefgfkaaaGreat
open Go Go.RowKit Go.Own Go.Dk
theorem wr_1 {rs : List Raw} {recs : List ByteArray} {t : ByteArray} (h : apOk recs t) : wr rs 0 (((encs recs).length : Int) + 4) t = (rs ++ [.put 0 ((encs recs).length + 4) t], 0) := by
  obtain ⟨h1, h2, h3⟩ := h
  unfold wr
  rw [if_pos ⟨by decide, by omega, by omega, by omega⟩]
  congr 3
theorem wr_2 {rs : List Raw} {recs : List ByteArray} {t : ByteArray} (h : apOk recs t) : wr (rs ++ [.put 0 ((encs recs).length + 4) t]) 0 ((encs recs).length : Int) (hdB t.size) = (rs ++ [.put 0 ((encs recs).length + 4) t, .put 0 (encs recs).length (hdB t.size)], 0) := by
  obtain ⟨h1, h2, h3⟩ := h
  have h4 : (hdB t.size).size = 4 := rfl
  unfold wr
  rw [if_pos ⟨by decide, by omega, by omega, by omega⟩]
  simp
/-- What an append leaves. -/
def AP (E : World) (rs : List Raw) (recs : List ByteArray) (t : ByteArray) (l d : Nat) (R : Fr) (e : Ending) (w' : World) : Prop :=
  e = .returned (.int .i64 (apE recs t)) ∧ ∃ A', DiskAt d (apR rs recs t) A' ∧ Own E w' (logF l d (apL recs t) ++ (A' ++ R))




theorem tr_00 (rs : List Raw) : tr rs 0 0 = (rs ++ [.trim 0 0], 0) := by
  unfold tr
  rw [if_pos ⟨by decide, by omega, by omega⟩]
  rfl

set_option maxRecDepth 100000 in
set_option maxHeartbeats 16000000 in
theorem lReset (E w : World) (X R A : Fr) (l d : Nat) (recs : List ByteArray) (rs : List Raw) (hA : DiskAt d rs A) (hlen : rs.length ≤ 8796093022208) (hO : Own E w X) [hp : Pick X (logF l d recs ++ A) R] :
    Calls Tryz.prog 106 #[.pointer (some ⟨l, 0, none⟩)] w fun e w' => e = .returned (.int .i64 0) ∧ ∃ A', DiskAt d (rs ++ [.trim 0 0]) A' ∧ Own E w' (logF l d [] ++ (A' ++ R)) := by
  replace hO := hO.perm hp.perm
  clear hp
  unfold logF at hO
  ((try simp only [List.nil_append, List.append_nil] at hO); have hF := Own.cells hO; simp only [cellsOf_append, cellsOf_pt] at hF)
  go_enter Tryz.func106, Tryz.ntmps106
  go_wp2_with (first | (refine own_store (v := ?_) (off := 1) (b := l) hO ?_ ?_ ?_ ?_ ?_ ?_ ?_; rotate_left; (· rfl); (· ((conv => lhs; whnf); try exact rfl)); (· ((conv => lhs; whnf); try exact rfl)); (· simp [Value.cells]); (· simp [Value.cells, Value.oneCell']); (· simp [Value.cells]); clear hO; (try clear hF); intro _ hO; (try simp only [splice, Value.cells] at hO); ((try simp only [List.nil_append, List.append_nil] at hO); have hF := Own.cells hO; simp only [cellsOf_append, cellsOf_pt] at hF); simp only [Act.put, List.setIfInBounds_toArray, List.set_cons_zero, List.set_cons_succ]) | (refine own_store (v := ?_) (off := 2) (b := l) hO ?_ ?_ ?_ ?_ ?_ ?_ ?_; rotate_left; (· rfl); (· ((conv => lhs; whnf); try exact rfl)); (· ((conv => lhs; whnf); try exact rfl)); (· simp [Value.cells]); (· simp [Value.cells, Value.oneCell']); (· simp [Value.cells]); clear hO; (try clear hF); intro _ hO; (try simp only [splice, Value.cells] at hO); ((try simp only [List.nil_append, List.append_nil] at hO); have hF := Own.cells hO; simp only [cellsOf_append, cellsOf_pt] at hF); simp only [Act.put, List.setIfInBounds_toArray, List.set_cons_zero, List.set_cons_succ]) | (go_at_call 112; go_must (refine (dTrim E _ _ _ d rs A 0 0 hA hlen hO).mono ?_; rintro e w1 ⟨rfl, A1, hA1, hO⟩; ((try simp only [List.nil_append, List.append_nil] at hO); have hF := Own.cells hO; simp only [cellsOf_append, cellsOf_pt] at hF))))
  rw [tr_00] at hA1
  go_ret
  simp only [splice, Value.cells, List.setIfInBounds_toArray, List.set_cons_zero, List.set_cons_succ] at hO
  have h := hO.as (pt l (.cells #[.pointer (some ⟨d, 0, none⟩), .int .i64 0, .int .i64 0] 160 (0, 0)) ++ (A1 ++ R))
  exact ⟨rfl, A1, hA1, h⟩

set_option maxRecDepth 100000 in
set_option maxHeartbeats 16000000 in
theorem lAppend (E w : World) (X R A : Fr) (l d : Nat) (recs : List ByteArray) (t : ByteArray) (rs : List Raw) (hA : DiskAt d rs A) (hF : play rs 0 = encs recs) (hlen : rs.length + 1 ≤ 8796093022208) (ht : t.size ≤ maxLen) (hO : Own E w X) [hp : Pick X (logF l d recs ++ A) R] :
    Calls Tryz.prog 54 #[.pointer (some ⟨l, 0, none⟩), .string t] w (AP E rs recs t l d R) := by
  replace hO := hO.perm hp.perm
  clear hp
  have hle : (encs recs).length ≤ 4194304 := by rw [← hF]; exact play_le hA.1 0
  have hrl : (recs.length : Int) ≤ 4194304 := by have := encs_len recs; omega
  unfold maxLen at ht
  by_cases h0 : 0 < t.size
  case neg =>
    have ht0 : t = .empty := by
      obtain ⟨⟨x⟩⟩ := t
      have : x.length = 0 := by simpa [ByteArray.size] using h0
      obtain rfl := List.length_eq_zero_iff.1 this
      rfl
    subst ht0
    have he : ¬ apOk recs .empty := fun h => absurd h.1 (by decide)
    unfold AP apE apR apL
    rw [if_neg he, if_neg he, if_neg he, if_neg (by decide)]
    unfold logF at hO ⊢
    ((try simp only [List.nil_append, List.append_nil] at hO); have hF := Own.cells hO; simp only [cellsOf_append, cellsOf_pt] at hF)
    go_enter Tryz.func54, Tryz.ntmps54
    go_wp2
    go_ret
    exact ⟨rfl, A, hA, hO⟩
  have hne : (t.toList == []) = false := by
    obtain ⟨⟨x⟩⟩ := t
    cases x with
    | nil => simp [ByteArray.size] at h0
    | cons a x => rw [ByteArray.toList_eq]; rfl
  by_cases h1 : (t.size : Int) ≤ 1048576
  case neg =>
    have he : ¬ apOk recs t := fun h => by have := h.2.1; omega
    unfold AP apE apR apL
    rw [if_neg he, if_neg he, if_neg he, if_neg (by omega)]
    unfold logF at hO ⊢
    ((try simp only [List.nil_append, List.append_nil] at hO); have hF := Own.cells hO; simp only [cellsOf_append, cellsOf_pt] at hF)
    have h1' : (1048576 : Int) < t.size := by omega
    go_enter Tryz.func54, Tryz.ntmps54
    go_wp2
    go_ret
    exact ⟨rfl, A, hA, hO⟩
  by_cases h2 : ((encs recs).length : Int) + 4 + t.size ≤ 4194304
  case neg =>
    have he : ¬ apOk recs t := fun h => by have := h.2.2; omega
    unfold AP apE apR apL
    rw [if_neg he, if_neg he, if_neg he, if_pos (by omega)]
    unfold logF at hO ⊢
    ((try simp only [List.nil_append, List.append_nil] at hO); have hF := Own.cells hO; simp only [cellsOf_append, cellsOf_pt] at hF)
    have h1' : ¬ (1048576 : Int) < t.size := by omega
    have h2' : (4194304 : Int) < (encs recs).length + 4 + t.size := by omega
    go_enter Tryz.func54, Tryz.ntmps54
    go_wp2
    go_ret
    exact ⟨rfl, A, hA, hO⟩
  have he : apOk recs t := ⟨h0, by omega, by omega⟩
  unfold AP apE apR apL
  rw [if_pos he, if_pos he, if_pos he]
  unfold logF at hO ⊢
  have h1' : ¬ (1048576 : Int) < t.size := by omega
  have h2' : ¬ (4194304 : Int) < (encs recs).length + 4 + t.size := by omega
  ((try simp only [List.nil_append, List.append_nil] at hO); have hF := Own.cells hO; simp only [cellsOf_append, cellsOf_pt] at hF)
  go_enter Tryz.func54, Tryz.ntmps54
  go_wp2_with fail
  (refine own_still_tail 10 (by kernel_rfl) (by kernel_rfl) hO ?_; clear hO; (try clear hF); intro _ hO; ((try simp only [List.nil_append, List.append_nil] at hO); have hF := Own.cells hO; simp only [cellsOf_append, cellsOf_pt] at hF); simp only [List.take_succ_cons, List.take_zero, List.drop_succ_cons, List.drop_zero]; (repeat still_step); (try refine wpStill_nil ?_))
  go_wp2_with fail
  refine (dWrite E _ _ _ d rs A 0 _ t (by unfold maxLen; omega) hA (by omega) hO).mono ?_; rw [wr_1 he]; rintro e w1 ⟨rfl, A1, hA1, hO⟩; ((try simp only [List.nil_append, List.append_nil] at hO); have hF := Own.cells hO; simp only [cellsOf_append, cellsOf_pt] at hF)
  go_wp2_with fail
  refine region_sch (fun w' => Own E w' (pt l (.cells #[.pointer (some ⟨d, 0, none⟩), .int .i64 (encs recs).length, .int .i64 recs.length] 160 (0, 0)))) (.look 0 (.look 1 (.look 2 (.look 3 (.look 4 (.look 5 (.look 6 (.look 7 (.look 8 (.look 9 (.look 10 (.look 11 (.look 12 (.look 13 (.look 14 (.look 15 (.look 16 (.look 17 (.look 18 (.act 19 (.act 20 (.act 21 .done)))))))))))))))))))))) (by kernel_rfl) (by kernel_rfl) (fun _ _ d _ _ h => by cases d <;> exact h) ?_ ?_
  · exact hO.drew.as _
  replace hO := hO.drew
  generalize World.drew _ = w2 at hO ⊢
  (refine sch_look (o := ?_) (v := ?_) ?_ ?_ ?_ ?_; rotate_left 2; (· ((conv => lhs; whnf); try exact rfl)); (· rfl); (· intro w' hO'; (have hF' := Own.cells hO'; simp only [cellsOf_append, cellsOf_pt] at hF'); go_simp; (try exact rfl)); simp only [Act.put, List.setIfInBounds_toArray, List.set_cons_zero, List.set_cons_succ])
  (refine sch_look (o := ?_) (v := ?_) ?_ ?_ ?_ ?_; rotate_left 2; (· ((conv => lhs; whnf); try exact rfl)); (· rfl); (· intro w' hO'; (have hF' := Own.cells hO'; simp only [cellsOf_append, cellsOf_pt] at hF'); go_simp; (try exact rfl)); simp only [Act.put, List.setIfInBounds_toArray, List.set_cons_zero, List.set_cons_succ])
  (refine sch_look (o := ?_) (v := ?_) ?_ ?_ ?_ ?_; rotate_left 2; (· ((conv => lhs; whnf); try exact rfl)); (· rfl); (· intro w' hO'; (have hF' := Own.cells hO'; simp only [cellsOf_append, cellsOf_pt] at hF'); go_simp; (try exact rfl)); simp only [Act.put, List.setIfInBounds_toArray, List.set_cons_zero, List.set_cons_succ])
  (refine sch_look (o := ?_) (v := ?_) ?_ ?_ ?_ ?_; rotate_left 2; (· ((conv => lhs; whnf); try exact rfl)); (· rfl); (· intro w' hO'; (have hF' := Own.cells hO'; simp only [cellsOf_append, cellsOf_pt] at hF'); go_simp; (try exact rfl)); simp only [Act.put, List.setIfInBounds_toArray, List.set_cons_zero, List.set_cons_succ])
  (refine sch_look (o := ?_) (v := ?_) ?_ ?_ ?_ ?_; rotate_left 2; (· ((conv => lhs; whnf); try exact rfl)); (· rfl); (· intro w' hO'; (have hF' := Own.cells hO'; simp only [cellsOf_append, cellsOf_pt] at hF'); go_simp; (try exact rfl)); simp only [Act.put, List.setIfInBounds_toArray, List.set_cons_zero, List.set_cons_succ])
  (refine sch_look (o := ?_) (v := ?_) ?_ ?_ ?_ ?_; rotate_left 2; (· ((conv => lhs; whnf); try exact rfl)); (· rfl); (· intro w' hO'; (have hF' := Own.cells hO'; simp only [cellsOf_append, cellsOf_pt] at hF'); go_simp; (try exact rfl)); simp only [Act.put, List.setIfInBounds_toArray, List.set_cons_zero, List.set_cons_succ])
  (refine sch_look (o := ?_) (v := ?_) ?_ ?_ ?_ ?_; rotate_left 2; (· ((conv => lhs; whnf); try exact rfl)); (· rfl); (· intro w' hO'; (have hF' := Own.cells hO'; simp only [cellsOf_append, cellsOf_pt] at hF'); go_simp; (try exact rfl)); simp only [Act.put, List.setIfInBounds_toArray, List.set_cons_zero, List.set_cons_succ])
  (refine sch_look (o := ?_) (v := ?_) ?_ ?_ ?_ ?_; rotate_left 2; (· ((conv => lhs; whnf); try exact rfl)); (· rfl); (· intro w' hO'; (have hF' := Own.cells hO'; simp only [cellsOf_append, cellsOf_pt] at hF'); go_simp; (try exact rfl)); simp only [Act.put, List.setIfInBounds_toArray, List.set_cons_zero, List.set_cons_succ])
  (refine sch_look (o := ?_) (v := ?_) ?_ ?_ ?_ ?_; rotate_left 2; (· ((conv => lhs; whnf); try exact rfl)); (· rfl); (· intro w' hO'; (have hF' := Own.cells hO'; simp only [cellsOf_append, cellsOf_pt] at hF'); go_simp; (try exact rfl)); simp only [Act.put, List.setIfInBounds_toArray, List.set_cons_zero, List.set_cons_succ])
  (refine sch_look (o := ?_) (v := ?_) ?_ ?_ ?_ ?_; rotate_left 2; (· ((conv => lhs; whnf); try exact rfl)); (· rfl); (· intro w' hO'; (have hF' := Own.cells hO'; simp only [cellsOf_append, cellsOf_pt] at hF'); go_simp; (try exact rfl)); simp only [Act.put, List.setIfInBounds_toArray, List.set_cons_zero, List.set_cons_succ])
  (refine sch_look (o := ?_) (v := ?_) ?_ ?_ ?_ ?_; rotate_left 2; (· ((conv => lhs; whnf); try exact rfl)); (· rfl); (· intro w' hO'; (have hF' := Own.cells hO'; simp only [cellsOf_append, cellsOf_pt] at hF'); go_simp; (try exact rfl)); simp only [Act.put, List.setIfInBounds_toArray, List.set_cons_zero, List.set_cons_succ])
  (refine sch_look (o := ?_) (v := ?_) ?_ ?_ ?_ ?_; rotate_left 2; (· ((conv => lhs; whnf); try exact rfl)); (· rfl); (· intro w' hO'; (have hF' := Own.cells hO'; simp only [cellsOf_append, cellsOf_pt] at hF'); go_simp; (try exact rfl)); simp only [Act.put, List.setIfInBounds_toArray, List.set_cons_zero, List.set_cons_succ])
  (refine sch_look (o := ?_) (v := ?_) ?_ ?_ ?_ ?_; rotate_left 2; (· ((conv => lhs; whnf); try exact rfl)); (· rfl); (· intro w' hO'; (have hF' := Own.cells hO'; simp only [cellsOf_append, cellsOf_pt] at hF'); go_simp; (try exact rfl)); simp only [Act.put, List.setIfInBounds_toArray, List.set_cons_zero, List.set_cons_succ])
  (refine sch_look (o := ?_) (v := ?_) ?_ ?_ ?_ ?_; rotate_left 2; (· ((conv => lhs; whnf); try exact rfl)); (· rfl); (· intro w' hO'; (have hF' := Own.cells hO'; simp only [cellsOf_append, cellsOf_pt] at hF'); go_simp; (try exact rfl)); simp only [Act.put, List.setIfInBounds_toArray, List.set_cons_zero, List.set_cons_succ])
  (refine sch_look (o := ?_) (v := ?_) ?_ ?_ ?_ ?_; rotate_left 2; (· ((conv => lhs; whnf); try exact rfl)); (· rfl); (· intro w' hO'; (have hF' := Own.cells hO'; simp only [cellsOf_append, cellsOf_pt] at hF'); go_simp; (try exact rfl)); simp only [Act.put, List.setIfInBounds_toArray, List.set_cons_zero, List.set_cons_succ])
  (refine sch_look (o := ?_) (v := ?_) ?_ ?_ ?_ ?_; rotate_left 2; (· ((conv => lhs; whnf); try exact rfl)); (· rfl); (· intro w' hO'; (have hF' := Own.cells hO'; simp only [cellsOf_append, cellsOf_pt] at hF'); go_simp; (try exact rfl)); simp only [Act.put, List.setIfInBounds_toArray, List.set_cons_zero, List.set_cons_succ])
  (refine sch_look (o := ?_) (v := ?_) ?_ ?_ ?_ ?_; rotate_left 2; (· ((conv => lhs; whnf); try exact rfl)); (· rfl); (· intro w' hO'; (have hF' := Own.cells hO'; simp only [cellsOf_append, cellsOf_pt] at hF'); go_simp; (try exact rfl)); simp only [Act.put, List.setIfInBounds_toArray, List.set_cons_zero, List.set_cons_succ])
  (refine sch_look (o := ?_) (v := ?_) ?_ ?_ ?_ ?_; rotate_left 2; (· ((conv => lhs; whnf); try exact rfl)); (· rfl); (· intro w' hO'; (have hF' := Own.cells hO'; simp only [cellsOf_append, cellsOf_pt] at hF'); go_simp; (try exact rfl)); simp only [Act.put, List.setIfInBounds_toArray, List.set_cons_zero, List.set_cons_succ])
  (refine sch_look (o := ?_) (v := ?_) ?_ ?_ ?_ ?_; rotate_left 2; (· ((conv => lhs; whnf); try exact rfl)); (· rfl); (· intro w' hO'; (have hF' := Own.cells hO'; simp only [cellsOf_append, cellsOf_pt] at hF'); go_simp; (try exact rfl)); simp only [Act.put, List.setIfInBounds_toArray, List.set_cons_zero, List.set_cons_succ])
  (refine sch_act (o := ?_) ?_ ?_; rotate_left; (· ((conv => lhs; whnf); try exact rfl)))
  go_wp2_with (first | (refine at_bs ?_; go_must (refine own_buildN (cells := ?_) sltBytes hO ?_ ?_ ?_ ?_ ?_ ?_; rotate_left; (· rfl); (· decide); (· decide); (· rfl); (· simp [Instr.fill, Act.eval, Value.cells, Array.replicate_succ]; exact rfl); clear hO; (try clear hF); intro bh _ hO; ((try simp only [List.nil_append, List.append_nil] at hO); have hF := Own.cells hO; simp only [cellsOf_append, cellsOf_pt] at hF); simp only [Act.put, List.setIfInBounds_toArray, List.set_cons_zero, List.set_cons_succ])))
  rw [hdV] at hO
  refine ⟨hO.as _, ?_⟩
  clear hF
  ((try simp only [List.nil_append, List.append_nil] at hO); have hF := Own.cells hO; simp only [cellsOf_append, cellsOf_pt] at hF)
  (refine sch_act (o := ?_) ?_ ?_; rotate_left; (· ((conv => lhs; whnf); try exact rfl)))
  go_wp2_with (first | (refine at_conv ?_; go_must (refine own_bytes_str (e := 5) (ad := ?_) (n := ?_) (cap := ?_) (l := hd4 t.size) (by kernel_rfl) (by kernel_rfl) (by kernel_rfl) ?_ ?_ ?_ ?_ ?_ ?_; rotate_left 3; (· rfl); (· ((conv => lhs; whnf); try exact rfl)); (· rfl); (· intro b hb j v hj; cases hb; rw [add_lit, hO.cell (b := bh)]; simpa using hj); (· intro h; cases h); simp only [Act.put, List.setIfInBounds_toArray, List.set_cons_zero, List.set_cons_succ])))
  refine ⟨hO.as _, ?_⟩
  (refine sch_act (o := ?_) ?_ ?_; rotate_left; (· ((conv => lhs; whnf); try exact rfl)))
  go_wp2_with fail
  refine (dWrite E _ _ _ d _ A1 0 _ (hdB t.size) (by show 4 ≤ maxLen; decide) hA1 (by simp; omega) hO).mono ?_; rw [wr_2 he]; rintro e w1 ⟨rfl, A2, hA2, hO⟩; ((try simp only [List.nil_append, List.append_nil] at hO); have hF := Own.cells hO; simp only [cellsOf_append, cellsOf_pt] at hF)
  go_wp2_with fail
  refine ⟨hO.as _, ?_⟩
  refine sch_done ?_
  go_wp2_with (first | (refine own_store (v := ?_) (off := 1) (b := l) hO ?_ ?_ ?_ ?_ ?_ ?_ ?_; rotate_left; (· rfl); (· ((conv => lhs; whnf); try exact rfl)); (· ((conv => lhs; whnf); try exact rfl)); (· simp [Value.cells]); (· simp [Value.cells, Value.oneCell']); (· simp [Value.cells]); clear hO; (try clear hF); intro _ hO; (try simp only [splice, Value.cells] at hO); ((try simp only [List.nil_append, List.append_nil] at hO); have hF := Own.cells hO; simp only [cellsOf_append, cellsOf_pt] at hF); simp only [Act.put, List.setIfInBounds_toArray, List.set_cons_zero, List.set_cons_succ]) | (refine own_store (v := ?_) (off := 2) (b := l) hO ?_ ?_ ?_ ?_ ?_ ?_ ?_; rotate_left; (· rfl); (· ((conv => lhs; whnf); try exact rfl)); (· ((conv => lhs; whnf); try exact rfl)); (· simp [Value.cells]); (· simp [Value.cells, Value.oneCell']); (· simp [Value.cells]); clear hO; (try clear hF); intro _ hO; (try simp only [splice, Value.cells] at hO); ((try simp only [List.nil_append, List.append_nil] at hO); have hF := Own.cells hO; simp only [cellsOf_append, cellsOf_pt] at hF); simp only [Act.put, List.setIfInBounds_toArray, List.set_cons_zero, List.set_cons_succ]))
  simp only [splice, Value.cells, List.setIfInBounds_toArray, List.set_cons_zero, List.set_cons_succ] at hO
  go_ret
  have el : ((encs (recs ++ [t])).length : Int) = (encs recs).length + (4 + t.size) := by rw [encs_snoc, List.length_append, encR_length]; omega
  have en : ((recs ++ [t]).length : Int) = recs.length + 1 := by simp
  rw [el, en]
  exact ⟨rfl, A2, hA2, hO.as _⟩
end Go.Proofs.YtkfkcloefgfkaaaGreat

/- The log's contracts: nobody's log. -/
namespace Go.Proofs.YtkfkcloefgfkaaaGreat
open Go Go.RowKit Go.Own Go.Dk

/-- A pointer to no log: nil, or a log without a disk. -/
def NoLog (v : Value) (w : World) : Prop := v = .pointer none ∨ ∃ l, v = .pointer (some ⟨l, 0, none⟩) ∧ w.cell? ⟨l, 0, none⟩ = some (.pointer none)

set_option maxRecDepth 100000 in
set_option maxHeartbeats 16000000 in
theorem lAppend_no (w : World) (v : Value) (t : ByteArray) (h : NoLog v w) : Calls Tryz.prog 54 #[v, .string t] w fun e w' => e = .returned (.int .i64 1) ∧ w = w' := by
  rcases h with rfl | ⟨l, rfl, hl⟩
  · go_enter Tryz.func54, Tryz.ntmps54
    go_wp2
    go_ret
    exact ⟨rfl, rfl⟩
  · go_enter Tryz.func54, Tryz.ntmps54
    go_wp2
    go_ret
    exact ⟨rfl, rfl⟩

set_option maxRecDepth 100000 in
set_option maxHeartbeats 16000000 in
theorem lReset_no (w : World) (v : Value) (h : NoLog v w) : Calls Tryz.prog 106 #[v] w fun e w' => e = .returned (.int .i64 1) ∧ w = w' := by
  rcases h with rfl | ⟨l, rfl, hl⟩
  · go_enter Tryz.func106, Tryz.ntmps106
    go_wp2
    go_ret
    exact ⟨rfl, rfl⟩
  · go_enter Tryz.func106, Tryz.ntmps106
    go_wp2
    go_ret
    exact ⟨rfl, rfl⟩




set_option maxRecDepth 100000 in
set_option maxHeartbeats 16000000 in
theorem lOpen_no (w : World) : Calls Tryz.prog 58 #[.pointer none] w fun e w' => e = .returned (.tuple #[.pointer none, .slice none 0 0, .int .i64 1]) ∧ w = w' := by
  have hN : Nob w (.pointer none) := .inl rfl
  go_enter Tryz.func58, Tryz.ntmps58
  go_wp2_with fail
  refine (nSize _ 0 _ hN).mono ?_; rintro e w1 ⟨rfl, rfl⟩
  go_wp2_with fail
  refine (nRead _ 0 0 _ _ hN).mono ?_; rintro e w1 ⟨rfl, rfl⟩
  go_wp2_with fail
  go_ret3
  exact ⟨rfl, rfl⟩
end Go.Proofs.YtkfkcloefgfkaaaGreat

/- The log: Open. -/
namespace Go.Own
open Go Go.RowKit
theorem own_str_bytes {P : Program} {ops : Array Oper} {Q : Exit → Act → World → Prop} {rest : List Oper} {a : Act} {E w : World} {X : Fr} {d : Option Tmp} {ty : TypeId} {pos : String} {aft : Array Edge} {g : Option (Nat × Bool)} {src dst e : TypeId} {x : Operand} {s : ByteArray}
    (hs : P.underlying src = some .string) (hd : P.underlying dst = some (.slice e)) (he : P.underlying e = some (.int .u8)) (hO : Own E w X) (hm : s.size ≤ maxLen)
    (hw : Region.wanted ⟨d, .convert src dst x, ty, pos, aft, g⟩ (yielded ops a.tmps) = true) (hx : a.eval x = .string s)
    (next : ∀ b cap tl f w1, s.size ≤ cap → cap ≤ maxLen → Own E w1 (pt b (.cells (bytesV s.data.toList ++ tl).toArray e f) ++ X) → wpList P ops Q rest (a.put d (.slice (some ⟨b, 0, none⟩) s.size cap)) w1) :
    wpList P ops Q (⟨d, .convert src dst x, ty, pos, aft, g⟩ :: rest) a w := by
  have hrow : bytesRow s (grownCap w s.size 0 e) = (bytesV s.data.toList ++ List.replicate (grownCap w s.size 0 e - s.size) (Value.int .u8 0)).toArray := by
    rw [bytesRow, bytes_cells]
    simp
  have hO1 := (hO.drew).alloc (.cells (bytesRow s (grownCap w s.size 0 e)) e ((bytesRow s (grownCap w s.size 0 e)).size, (bytesRow s (grownCap w s.size 0 e)).size + 1))
  refine wpList_run_value hw ?_ (next _ (grownCap w s.size 0 e) (List.replicate (grownCap w s.size 0 e - s.size) (Value.int .u8 0)) _ _ (grownCap_ge w s.size 0 e) (grownCap_le_maxLen w s.size 0 e hm) (by rw [← hrow]; exact hO1))
  have := run_bytes_of_string (P := P) w src dst e s hs hd he
  simp only [execOp, hx, this]
  simp [this]
end Go.Own
namespace Go.Dk
open Go.Own Go.RowKit
theorem hd4_val4 {l : List UInt8} (h : 4 ≤ l.length) : hd4 (val4 l) = l.take 4 := by
  match l, h with
  | a :: b :: c :: d :: r, _ =>
    have ha := a.toNat_lt
    have hb := b.toNat_lt
    have hc := c.toNat_lt
    have hd := d.toNat_lt
    simp only [hd4, val4, List.take_succ_cons, List.take_zero]
    congr 1
    · apply UInt8.toNat_inj.1; simp only [UInt8.toNat_ofNat']; omega
    congr 1
    · apply UInt8.toNat_inj.1; simp only [UInt8.toNat_ofNat']; omega
    congr 1
    · apply UInt8.toNat_inj.1; simp only [UInt8.toNat_ofNat']; omega
    congr 1
    · apply UInt8.toNat_inj.1; simp only [UInt8.toNat_ofNat']; omega
theorem val4_lt (l : List UInt8) : val4 l < 4294967296 := by
  match l with
  | a :: b :: c :: d :: r =>
    have ha := a.toNat_lt
    have hb := b.toNat_lt
    have hc := c.toNat_lt
    have hd := d.toNat_lt
    simp only [val4]; omega
  | [] | [_] | [_, _] | [_, _, _] => simp [val4]

/-- The number that the first i bytes spell. -/
def pre (l : List UInt8) (i : Nat) : Nat := (l.take i).foldl (fun n b => n * 256 + b.toNat) 0
theorem pre_0 (l : List UInt8) : pre l 0 = 0 := by simp [pre]
theorem pre_succ (l : List UInt8) (i : Nat) (h : i < l.length) : pre l (i + 1) = pre l i * 256 + (l[i]).toNat := by
  rw [pre, List.take_succ_eq_append_getElem h, List.foldl_append]
  rfl
theorem pre_4 (l : List UInt8) (h : 4 ≤ l.length) : pre l 4 = val4 l := by
  match l, h with
  | a :: b :: c :: d :: r, _ => simp [pre, val4]
theorem pre_lt (l : List UInt8) : ∀ i, i ≤ l.length → pre l i < 256 ^ i
  | 0, _ => by simp [pre_0]
  | i + 1, h => by
    have h1 := pre_lt l i (by omega)
    have h2 := (l[i]).toNat_lt
    rw [pre_succ l i (by omega), Nat.pow_succ]
    omega

/-- The record that stands first, and what is behind it. -/
theorem rec_of {l : List UInt8} (h4 : 4 ≤ l.length) (hn : val4 l ≤ l.length - 4) : (⟨((l.drop 4).take (val4 l)).toArray⟩ : ByteArray).size = val4 l ∧ l.take (4 + val4 l) = encR ⟨((l.drop 4).take (val4 l)).toArray⟩ := by
  have hs : (⟨((l.drop 4).take (val4 l)).toArray⟩ : ByteArray).size = val4 l := by
    simp [ByteArray.size]
    omega
  refine ⟨hs, ?_⟩
  rw [encR, hs, hd4_val4 h4, List.take_add]
end Go.Dk

/- The log: Open's walk. -/
namespace Go.Proofs.YtkfkcloefgfkaaaGreat
open Go Go.RowKit Go.Own Go.Dk

theorem sltStrs : SlT Tryz.prog 104 9 1 16 (.string .empty) := ⟨by kernel_rfl, by kernel_rfl, rfl⟩
theorem sz_0 (rs : List Raw) : sz rs 0 = (play rs 0).length := by
  unfold sz
  rw [if_pos (by decide)]
  rfl
theorem rd_0 (rs : List Raw) : rd rs 0 0 (play rs 0).length = (⟨(play rs 0).toArray⟩, 0) := by
  unfold rd
  have e : (0 : Int).toNat = 0 := rfl
  rw [e, if_pos ⟨by decide, by omega, by omega, by omega, by omega⟩]
  simp

/-- What opening leaves. -/
def OP (E : World) (rs : List Raw) (d : Nat) (R : Fr) (e : Ending) (w' : World) : Prop :=
  ∃ (l : Nat) (recs : List ByteArray) (rest : List UInt8) (rs' : List Raw) (sa : Option Addr) (cp : Nat) (S A' : Fr), e = .returned (.tuple #[.pointer (some ⟨l, 0, none⟩), .slice sa recs.length cp, .int .i64 0]) ∧
    play rs 0 = encs recs ++ rest ∧ Stuck rest ∧ Recs recs ∧ (rs' = rs ∨ rs' = rs ++ [.trim 0 (encs recs).length]) ∧ play rs' 0 = encs recs ∧ DiskAt d rs' A' ∧
    Sl 9 1 sa recs.length cp (recs.map .string) S ∧ Own E w' (logF l d recs ++ (S ++ (A' ++ R)))

theorem tr_p {rs : List Raw} {F : List UInt8} {p : Nat} (hF : play rs 0 = F) (h : p ≤ F.length) : tr rs 0 p = (rs ++ [.trim 0 p], 0) := by
  unfold tr
  have e : (0 : Int).toNat = 0 := rfl
  rw [e, hF, if_pos ⟨by decide, by omega, by omega⟩]
  simp
theorem bytes_at {E w : World} {X : Fr} {b : Nat} {F : List UInt8} {tl : List Value} {e : TypeId} {f : Nat × Nat} (hO : Own E w X) (hh : Has X b (.cells (bytesV F ++ tl).toArray e f)) (i : Nat) (h : i < F.length) : w.cell? ⟨b, i, none⟩ = some (.int .u8 (F[i]).toNat) := by
  rw [hO.cell (b := b)]
  have : i < (bytesV F).length := by simpa [bytesV] using h
  simp only [List.getElem?_toArray, List.getElem?_append_left this]
  simp [bytesV, h, byteV]
theorem bytes_sub {E w : World} {X : Fr} {b : Nat} {F : List UInt8} {tl : List Value} {e : TypeId} {f : Nat × Nat} (hO : Own E w X) (hh : Has X b (.cells (bytesV F ++ tl).toArray e f)) (p k n : Nat) (h : p + k + n ≤ F.length) :
    ∀ ad, some (⟨b, p + k, none⟩ : Addr) = some ad → ∀ j v, (bytesV (((F.drop p).drop k).take n))[j]? = some v → w.cell? (ad.add j) = some v := by
  intro ad ha j v hj
  cases ha
  have hjl : j < n := by
    have := (List.getElem?_eq_some_iff.1 hj).1
    simp [bytesV] at this
    omega
  have hjn : (bytesV (((F.drop p).drop k).take n))[j]? = some (byteV (F[p + k + j]'(by omega))) := by
    rw [bytesV, List.getElem?_map, List.getElem?_take_of_lt hjl, List.getElem?_drop, List.getElem?_drop, ← Nat.add_assoc, List.getElem?_eq_getElem (by omega)]
    rfl
  rw [hjn] at hj
  cases hj
  rw [add_lit]
  exact bytes_at hO hh (p + k + j) (by omega)
theorem or_step (n c : Nat) (hn : n < 16777216) (hc : c < 256) : bits .or .i64 (wrap64 ((n : Int) * 256)) (wrap64 (c : Int)) = ((n * 256 + c : Nat) : Int) := by
  have e1 : wrap64 ((n : Int) * 256) = ((n * 256 : Nat) : Int) := by unfold wrap64; omega
  have e2 : wrap64 (c : Int) = (c : Int) := by unfold wrap64; omega
  have hw : ∀ m : Int, 0 ≤ m → m < 2 ^ 62 → IntKind.i64.wrap m = m := by
    intro m h0 h1
    simp only [IntKind.wrap, show IntKind.bits .i64 = 64 from rfl, show IntKind.signed .i64 = true from rfl]
    rw [Int.emod_eq_of_lt h0 (by omega), if_neg (by simp; omega)]
  rw [e1, e2, (bits_nat .i64 62 (by decide) hw (n * 256) c (by omega) (by omega)).2]
  congr 1
  have := Nat.two_pow_add_eq_or_of_lt (i := 8) (b := c) (by omega) n
  rw [show n * 256 = 2 ^ 8 * n by omega, ← this]
theorem encs_len : ∀ {l : List ByteArray}, Recs l → l.length ≤ (encs l).length
  | [], _ => by simp
  | s :: l, h => by
    have := encs_len (l := l) (fun x hx => h x (List.mem_cons_of_mem _ hx))
    rw [encs_cons, List.length_append, encR_length, List.length_cons]
    omega
def slLen : Value → Nat
  | .slice _ n _ => n
  | _ => 0

set_option maxRecDepth 100000 in
set_option maxHeartbeats 16000000 in
theorem lOpen (E w : World) (X R A : Fr) (d : Nat) (rs : List Raw) (hA : DiskAt d rs A) (hlen : rs.length ≤ 8796093022208) (hO : Own E w X) [hp : Pick X A R] :
    Calls Tryz.prog 58 #[.pointer (some ⟨d, 0, none⟩)] w (OP E rs d R) := by
  replace hO := hO.perm hp.perm
  clear hp
  have hle : (play rs 0).length ≤ 4194304 := play_le hA.1 0
  go_enter Tryz.func58, Tryz.ntmps58
  go_wp2_with fail
  refine (dSize E _ _ _ d rs A 0 hA hO).mono ?_; rw [sz_0]; rintro e w1 ⟨rfl, rfl⟩
  go_wp2_with fail
  refine (dRead E _ _ _ d rs A 0 0 _ hA hO).mono ?_; rw [rd_0]; rintro e w1 ⟨rfl, rfl⟩
  have hFs : (⟨(play rs 0).toArray⟩ : ByteArray).size = (play rs 0).length := by simp [ByteArray.size]
  go_wp2_with (first | (refine at_box ?_; go_must (refine own_box (v := ?_) hO ?_ ?_ ?_; rotate_left; (· rfl); (· ((conv => lhs; whnf); try exact rfl)); clear hO; (try clear hF); intro bl _ hO; (try simp only [Value.cells] at hO); ((try simp only [List.nil_append, List.append_nil] at hO); have hF := Own.cells hO; simp only [cellsOf_append, cellsOf_pt] at hF); simp only [Act.put, List.setIfInBounds_toArray, List.set_cons_zero, List.set_cons_succ])) | (refine at_conv ?_; go_must (refine own_str_bytes (e := 5) (s := ⟨(play rs 0).toArray⟩) (by kernel_rfl) (by kernel_rfl) (by kernel_rfl) hO (by rw [hFs]; unfold maxLen; omega) ?_ ?_ ?_; (· rfl); (· ((conv => lhs; whnf); try exact rfl)); clear hO; (try clear hF); intro bb cap tl fz _ hcap hcm hO; ((try simp only [List.nil_append, List.append_nil] at hO); have hF := Own.cells hO; simp only [cellsOf_append, cellsOf_pt] at hF); simp only [Act.put, List.setIfInBounds_toArray, List.set_cons_zero, List.set_cons_succ])))
  generalize hPF : play rs 0 = F at hle hFs hcap hO ⊢
  have hO0 := hO
  clear hO hF
  rw [hFs]
  go_loopw [8, 9] (fun s8 s9 wr => ∃ (out : List ByteArray) (p rc : Nat) (ra sa : Option Addr) (cp : Nat) (S : Fr), s8 = .slice sa out.length cp ∧ s9 = .slice ra (F.length - p) rc ∧ p ≤ F.length ∧ F.take p = encs out ∧ Recs out ∧
      (p < F.length → ra = some ⟨bb, p, none⟩) ∧ F.length - p ≤ rc ∧ rc ≤ maxLen ∧ Sl 9 1 sa out.length cp (out.map .string) S ∧
      Own E wr (pt bl (.cells #[.pointer (some ⟨d, 0, none⟩), .int .i64 p, .int .i64 0] 160 (0, 0)) ++ (S ++ (pt bb (.cells (bytesV F ++ tl).toArray 5 fz) ++ (A ++ R))))) (fun _ s9 _ => slLen s9)
  case atStart => exact ⟨[], 0, cap, _, none, 0, [], rfl, rfl, by omega, rfl, fun s hs => by simp at hs, fun _ => rfl, by omega, hcm, Sl.nil _ _, hO0.as _⟩
  case round =>
    clear hO0
    obtain ⟨out, p, rc, ra, sa, cp, S, rfl, rfl, hp, hTake, hRecs, hra, hrc, hrm, hSl, hO⟩ := hrel
    by_cases h4 : 4 ≤ F.length - p
    case neg =>
      have hStuck : Stuck (F.drop p) := .inl (by rw [List.length_drop]; omega)
      have h4' : ((F.length - p : Nat) : Int) < 4 := by omega
      ((try simp only [List.nil_append, List.append_nil] at hO); have hF := Own.cells hO; simp only [cellsOf_append, cellsOf_pt] at hF)
      (
        go_wp2_with (first | (refine own_store (v := ?_) (off := 2) (b := bl) hO ?_ ?_ ?_ ?_ ?_ ?_ ?_; rotate_left; (· rfl); (· ((conv => lhs; whnf); try exact rfl)); (· ((conv => lhs; whnf); try exact rfl)); (· simp [Value.cells]); (· simp [Value.cells, Value.oneCell']); (· simp [Value.cells]); clear hO; (try clear hF); intro _ hO; (try simp only [splice, Value.cells] at hO); ((try simp only [List.nil_append, List.append_nil] at hO); have hF := Own.cells hO; simp only [cellsOf_append, cellsOf_pt] at hF); simp only [Act.put, List.setIfInBounds_toArray, List.set_cons_zero, List.set_cons_succ]))
        simp only [splice, Value.cells, List.setIfInBounds_toArray, List.set_cons_zero, List.set_cons_succ] at hO
        refine region_sch (fun w' => Own E w' (pt bl (.cells #[.pointer (some ⟨d, 0, none⟩), .int .i64 p, .int .i64 out.length] 160 (0, 0)))) (.look 0 (.look 2 (.look 3 (.look 4 (.look 5 (.act 1 (.look 6 .done))))))) (by kernel_rfl) (by kernel_rfl) (fun _ _ d _ _ h => by cases d <;> exact h) ?_ ?_
        · exact hO.drew.as _
        replace hO := hO.drew
        generalize World.drew _ = w2 at hO ⊢
        (refine sch_look (o := ?_) (v := ?_) ?_ ?_ ?_ ?_; rotate_left 2; (· ((conv => lhs; whnf); try exact rfl)); (· rfl); (· intro w' hO'; (have hF' := Own.cells hO'; simp only [cellsOf_append, cellsOf_pt] at hF'); go_simp; (try exact rfl)); simp only [Act.put, List.setIfInBounds_toArray, List.set_cons_zero, List.set_cons_succ])
        (refine sch_look (o := ?_) (v := ?_) ?_ ?_ ?_ ?_; rotate_left 2; (· ((conv => lhs; whnf); try exact rfl)); (· rfl); (· intro w' hO'; (have hF' := Own.cells hO'; simp only [cellsOf_append, cellsOf_pt] at hF'); go_simp; (try exact rfl)); simp only [Act.put, List.setIfInBounds_toArray, List.set_cons_zero, List.set_cons_succ])
        (refine sch_look (o := ?_) (v := ?_) ?_ ?_ ?_ ?_; rotate_left 2; (· ((conv => lhs; whnf); try exact rfl)); (· rfl); (· intro w' hO'; (have hF' := Own.cells hO'; simp only [cellsOf_append, cellsOf_pt] at hF'); go_simp; (try exact rfl)); simp only [Act.put, List.setIfInBounds_toArray, List.set_cons_zero, List.set_cons_succ])
        (refine sch_look (o := ?_) (v := ?_) ?_ ?_ ?_ ?_; rotate_left 2; (· ((conv => lhs; whnf); try exact rfl)); (· rfl); (· intro w' hO'; (have hF' := Own.cells hO'; simp only [cellsOf_append, cellsOf_pt] at hF'); go_simp; (try exact rfl)); simp only [Act.put, List.setIfInBounds_toArray, List.set_cons_zero, List.set_cons_succ])
        (refine sch_look (o := ?_) (v := ?_) ?_ ?_ ?_ ?_; rotate_left 2; (· ((conv => lhs; whnf); try exact rfl)); (· rfl); (· intro w' hO'; (have hF' := Own.cells hO'; simp only [cellsOf_append, cellsOf_pt] at hF'); go_simp; (try exact rfl)); simp only [Act.put, List.setIfInBounds_toArray, List.set_cons_zero, List.set_cons_succ])
        (refine sch_act (o := ?_) ?_ ?_; rotate_left; (· ((conv => lhs; whnf); try exact rfl)))
        go_wp2_with fail
        refine (dSize E _ _ _ d rs A 0 hA hO).mono ?_; rw [sz_0, hPF]; rintro e w1 ⟨rfl, rfl⟩
        go_wp2_with fail
        refine ⟨hO.as _, ?_⟩
        (refine sch_look (o := ?_) (v := ?_) ?_ ?_ ?_ ?_; rotate_left 2; (· ((conv => lhs; whnf); try exact rfl)); (· rfl); (· intro w' hO'; (have hF' := Own.cells hO'; simp only [cellsOf_append, cellsOf_pt] at hF'); go_simp; (try exact rfl)); simp only [Act.put, List.setIfInBounds_toArray, List.set_cons_zero, List.set_cons_succ])
        refine sch_done ?_
        have hlE : (encs out).length = p := by rw [← hTake, List.length_take]; omega
        by_cases hpl : p < F.length
        · have hpl' : (p : Int) < F.length := by omega
          clear hF
          ((try simp only [List.nil_append, List.append_nil] at hO); have hF := Own.cells hO; simp only [cellsOf_append, cellsOf_pt] at hF)
          go_wp2_with fail
          refine (dTrim E _ _ _ d rs A 0 p hA hlen hO).mono ?_
          rw [tr_p hPF (by omega)]
          rintro e w1 ⟨rfl, A1, hA1, hO⟩
          go_wp2_with fail
          go_ret3
          exact ⟨bl, out, F.drop p, rs ++ [.trim 0 p], sa, cp, S, A1, rfl, by rw [hPF, ← hTake, List.take_append_drop], hStuck, hRecs, .inr (by rw [hlE]), by rw [play_snoc]; simp only [Raw.app, upd_same, hPF, hTake], hA1, hSl, by unfold logF; rw [hlE]; exact hO.as _⟩
        · first | (exfalso; omega; done) | skip
          all_goals (
          have hpl' : ¬ (p : Int) < F.length := by omega
          clear hF
          ((try simp only [List.nil_append, List.append_nil] at hO); have hF := Own.cells hO; simp only [cellsOf_append, cellsOf_pt] at hF)
          go_wp2_with fail
          go_ret3
          exact ⟨bl, out, F.drop p, rs, sa, cp, S, A, rfl, by rw [hPF, ← hTake, List.take_append_drop], hStuck, hRecs, .inl rfl, by rw [hPF, ← hTake, List.take_of_length_le (by omega)], hA, hSl, by unfold logF; rw [hlE]; exact hO.as _⟩))
    have hpl : p < F.length := by omega
    obtain rfl := hra hpl
    have h4' : ¬ ((F.length - p : Nat) : Int) < 4 := by omega
    have h5 : (4 : Int) ≤ rc := by omega
    have hO1 := hO
    go_wp2_with fail
    clear hO
    go_loopw [10, 34] (fun s10 s34 w' => ∃ i : Nat, s34 = .int .i64 i ∧ s10 = .int .i64 (pre (F.drop p) i) ∧ i ≤ 4 ∧ Own E w' (pt bl (.cells #[.pointer (some ⟨d, 0, none⟩), .int .i64 p, .int .i64 0] 160 (0, 0)) ++ (S ++ (pt bb (.cells (bytesV F ++ tl).toArray 5 fz) ++ (A ++ R))))) (fun _ s34 _ => 4 - (intOf s34).toNat)
    case atStart => exact ⟨0, rfl, by rw [pre_0]; rfl, by omega, hO1⟩
    case round =>
      clear hO1
      obtain ⟨i, rfl, rfl, hi, hO⟩ := hrel
      by_cases hi4 : i < 4
      · have hi4' : (i : Int) < 4 := by omega
        have hc := bytes_at (b := bb) (F := F) (tl := tl) (e := 5) (f := fz) hO inferInstance (p + i) (by omega)
        have hps := pre_succ (F.drop p) i (by rw [List.length_drop]; omega)
        rw [List.getElem_drop] at hps
        have hpl := pre_lt (F.drop p) i (by rw [List.length_drop]; omega)
        go_wp2_with fail
        go_roundw
        case rel =>
          have hlt : pre (F.drop p) i < 16777216 := Nat.lt_of_lt_of_le hpl (Nat.pow_le_pow_right (n := 256) (by decide) (show i ≤ 3 by omega))
          refine ⟨i + 1, by go_num, ?_, by omega, hO⟩
          rw [or_step _ _ hlt (F[p + i]'(by omega)).toNat_lt, hps]
        case measure => simp [intOf]; omega
      · have hi4' : ¬ (i : Int) < 4 := by omega
        obtain rfl : i = 4 := by omega
        rw [pre_4 _ (by rw [List.length_drop]; omega)]
        have hv := val4_lt (F.drop p)
        have hld : (F.drop p).length = F.length - p := List.length_drop
        by_cases hn0 : val4 (F.drop p) = 0
        · have hStuck : Stuck (F.drop p) := .inr (.inl hn0)
          rw [hn0]
          ((try simp only [List.nil_append, List.append_nil] at hO); have hF := Own.cells hO; simp only [cellsOf_append, cellsOf_pt] at hF)
          (
        go_wp2_with (first | (refine own_store (v := ?_) (off := 2) (b := bl) hO ?_ ?_ ?_ ?_ ?_ ?_ ?_; rotate_left; (· rfl); (· ((conv => lhs; whnf); try exact rfl)); (· ((conv => lhs; whnf); try exact rfl)); (· simp [Value.cells]); (· simp [Value.cells, Value.oneCell']); (· simp [Value.cells]); clear hO; (try clear hF); intro _ hO; (try simp only [splice, Value.cells] at hO); ((try simp only [List.nil_append, List.append_nil] at hO); have hF := Own.cells hO; simp only [cellsOf_append, cellsOf_pt] at hF); simp only [Act.put, List.setIfInBounds_toArray, List.set_cons_zero, List.set_cons_succ]))
        simp only [splice, Value.cells, List.setIfInBounds_toArray, List.set_cons_zero, List.set_cons_succ] at hO
        refine region_sch (fun w' => Own E w' (pt bl (.cells #[.pointer (some ⟨d, 0, none⟩), .int .i64 p, .int .i64 out.length] 160 (0, 0)))) (.look 0 (.look 2 (.look 3 (.look 4 (.look 5 (.act 1 (.look 6 .done))))))) (by kernel_rfl) (by kernel_rfl) (fun _ _ d _ _ h => by cases d <;> exact h) ?_ ?_
        · exact hO.drew.as _
        replace hO := hO.drew
        generalize World.drew _ = w2 at hO ⊢
        (refine sch_look (o := ?_) (v := ?_) ?_ ?_ ?_ ?_; rotate_left 2; (· ((conv => lhs; whnf); try exact rfl)); (· rfl); (· intro w' hO'; (have hF' := Own.cells hO'; simp only [cellsOf_append, cellsOf_pt] at hF'); go_simp; (try exact rfl)); simp only [Act.put, List.setIfInBounds_toArray, List.set_cons_zero, List.set_cons_succ])
        (refine sch_look (o := ?_) (v := ?_) ?_ ?_ ?_ ?_; rotate_left 2; (· ((conv => lhs; whnf); try exact rfl)); (· rfl); (· intro w' hO'; (have hF' := Own.cells hO'; simp only [cellsOf_append, cellsOf_pt] at hF'); go_simp; (try exact rfl)); simp only [Act.put, List.setIfInBounds_toArray, List.set_cons_zero, List.set_cons_succ])
        (refine sch_look (o := ?_) (v := ?_) ?_ ?_ ?_ ?_; rotate_left 2; (· ((conv => lhs; whnf); try exact rfl)); (· rfl); (· intro w' hO'; (have hF' := Own.cells hO'; simp only [cellsOf_append, cellsOf_pt] at hF'); go_simp; (try exact rfl)); simp only [Act.put, List.setIfInBounds_toArray, List.set_cons_zero, List.set_cons_succ])
        (refine sch_look (o := ?_) (v := ?_) ?_ ?_ ?_ ?_; rotate_left 2; (· ((conv => lhs; whnf); try exact rfl)); (· rfl); (· intro w' hO'; (have hF' := Own.cells hO'; simp only [cellsOf_append, cellsOf_pt] at hF'); go_simp; (try exact rfl)); simp only [Act.put, List.setIfInBounds_toArray, List.set_cons_zero, List.set_cons_succ])
        (refine sch_look (o := ?_) (v := ?_) ?_ ?_ ?_ ?_; rotate_left 2; (· ((conv => lhs; whnf); try exact rfl)); (· rfl); (· intro w' hO'; (have hF' := Own.cells hO'; simp only [cellsOf_append, cellsOf_pt] at hF'); go_simp; (try exact rfl)); simp only [Act.put, List.setIfInBounds_toArray, List.set_cons_zero, List.set_cons_succ])
        (refine sch_act (o := ?_) ?_ ?_; rotate_left; (· ((conv => lhs; whnf); try exact rfl)))
        go_wp2_with fail
        refine (dSize E _ _ _ d rs A 0 hA hO).mono ?_; rw [sz_0, hPF]; rintro e w1 ⟨rfl, rfl⟩
        go_wp2_with fail
        refine ⟨hO.as _, ?_⟩
        (refine sch_look (o := ?_) (v := ?_) ?_ ?_ ?_ ?_; rotate_left 2; (· ((conv => lhs; whnf); try exact rfl)); (· rfl); (· intro w' hO'; (have hF' := Own.cells hO'; simp only [cellsOf_append, cellsOf_pt] at hF'); go_simp; (try exact rfl)); simp only [Act.put, List.setIfInBounds_toArray, List.set_cons_zero, List.set_cons_succ])
        refine sch_done ?_
        have hlE : (encs out).length = p := by rw [← hTake, List.length_take]; omega
        by_cases hpl : p < F.length
        · have hpl' : (p : Int) < F.length := by omega
          clear hF
          ((try simp only [List.nil_append, List.append_nil] at hO); have hF := Own.cells hO; simp only [cellsOf_append, cellsOf_pt] at hF)
          go_wp2_with fail
          refine (dTrim E _ _ _ d rs A 0 p hA hlen hO).mono ?_
          rw [tr_p hPF (by omega)]
          rintro e w1 ⟨rfl, A1, hA1, hO⟩
          go_wp2_with fail
          go_ret3
          exact ⟨bl, out, F.drop p, rs ++ [.trim 0 p], sa, cp, S, A1, rfl, by rw [hPF, ← hTake, List.take_append_drop], hStuck, hRecs, .inr (by rw [hlE]), by rw [play_snoc]; simp only [Raw.app, upd_same, hPF, hTake], hA1, hSl, by unfold logF; rw [hlE]; exact hO.as _⟩
        · first | (exfalso; omega; done) | skip
          all_goals (
          have hpl' : ¬ (p : Int) < F.length := by omega
          clear hF
          ((try simp only [List.nil_append, List.append_nil] at hO); have hF := Own.cells hO; simp only [cellsOf_append, cellsOf_pt] at hF)
          go_wp2_with fail
          go_ret3
          exact ⟨bl, out, F.drop p, rs, sa, cp, S, A, rfl, by rw [hPF, ← hTake, List.take_append_drop], hStuck, hRecs, .inl rfl, by rw [hPF, ← hTake, List.take_of_length_le (by omega)], hA, hSl, by unfold logF; rw [hlE]; exact hO.as _⟩))
        by_cases hn1 : val4 (F.drop p) ≤ F.length - p - 4
        case neg =>
          have hStuck : Stuck (F.drop p) := .inr (.inr (by omega))
          generalize val4 (F.drop p) = n at hv hn0 hn1 ⊢
          have hn0' : ¬ (n : Int) = 0 := by omega
          have hn1' : ((F.length - p : Nat) : Int) - 4 < n := by omega
          ((try simp only [List.nil_append, List.append_nil] at hO); have hF := Own.cells hO; simp only [cellsOf_append, cellsOf_pt] at hF)
          (
        go_wp2_with (first | (refine own_store (v := ?_) (off := 2) (b := bl) hO ?_ ?_ ?_ ?_ ?_ ?_ ?_; rotate_left; (· rfl); (· ((conv => lhs; whnf); try exact rfl)); (· ((conv => lhs; whnf); try exact rfl)); (· simp [Value.cells]); (· simp [Value.cells, Value.oneCell']); (· simp [Value.cells]); clear hO; (try clear hF); intro _ hO; (try simp only [splice, Value.cells] at hO); ((try simp only [List.nil_append, List.append_nil] at hO); have hF := Own.cells hO; simp only [cellsOf_append, cellsOf_pt] at hF); simp only [Act.put, List.setIfInBounds_toArray, List.set_cons_zero, List.set_cons_succ]))
        simp only [splice, Value.cells, List.setIfInBounds_toArray, List.set_cons_zero, List.set_cons_succ] at hO
        refine region_sch (fun w' => Own E w' (pt bl (.cells #[.pointer (some ⟨d, 0, none⟩), .int .i64 p, .int .i64 out.length] 160 (0, 0)))) (.look 0 (.look 2 (.look 3 (.look 4 (.look 5 (.act 1 (.look 6 .done))))))) (by kernel_rfl) (by kernel_rfl) (fun _ _ d _ _ h => by cases d <;> exact h) ?_ ?_
        · exact hO.drew.as _
        replace hO := hO.drew
        generalize World.drew _ = w2 at hO ⊢
        (refine sch_look (o := ?_) (v := ?_) ?_ ?_ ?_ ?_; rotate_left 2; (· ((conv => lhs; whnf); try exact rfl)); (· rfl); (· intro w' hO'; (have hF' := Own.cells hO'; simp only [cellsOf_append, cellsOf_pt] at hF'); go_simp; (try exact rfl)); simp only [Act.put, List.setIfInBounds_toArray, List.set_cons_zero, List.set_cons_succ])
        (refine sch_look (o := ?_) (v := ?_) ?_ ?_ ?_ ?_; rotate_left 2; (· ((conv => lhs; whnf); try exact rfl)); (· rfl); (· intro w' hO'; (have hF' := Own.cells hO'; simp only [cellsOf_append, cellsOf_pt] at hF'); go_simp; (try exact rfl)); simp only [Act.put, List.setIfInBounds_toArray, List.set_cons_zero, List.set_cons_succ])
        (refine sch_look (o := ?_) (v := ?_) ?_ ?_ ?_ ?_; rotate_left 2; (· ((conv => lhs; whnf); try exact rfl)); (· rfl); (· intro w' hO'; (have hF' := Own.cells hO'; simp only [cellsOf_append, cellsOf_pt] at hF'); go_simp; (try exact rfl)); simp only [Act.put, List.setIfInBounds_toArray, List.set_cons_zero, List.set_cons_succ])
        (refine sch_look (o := ?_) (v := ?_) ?_ ?_ ?_ ?_; rotate_left 2; (· ((conv => lhs; whnf); try exact rfl)); (· rfl); (· intro w' hO'; (have hF' := Own.cells hO'; simp only [cellsOf_append, cellsOf_pt] at hF'); go_simp; (try exact rfl)); simp only [Act.put, List.setIfInBounds_toArray, List.set_cons_zero, List.set_cons_succ])
        (refine sch_look (o := ?_) (v := ?_) ?_ ?_ ?_ ?_; rotate_left 2; (· ((conv => lhs; whnf); try exact rfl)); (· rfl); (· intro w' hO'; (have hF' := Own.cells hO'; simp only [cellsOf_append, cellsOf_pt] at hF'); go_simp; (try exact rfl)); simp only [Act.put, List.setIfInBounds_toArray, List.set_cons_zero, List.set_cons_succ])
        (refine sch_act (o := ?_) ?_ ?_; rotate_left; (· ((conv => lhs; whnf); try exact rfl)))
        go_wp2_with fail
        refine (dSize E _ _ _ d rs A 0 hA hO).mono ?_; rw [sz_0, hPF]; rintro e w1 ⟨rfl, rfl⟩
        go_wp2_with fail
        refine ⟨hO.as _, ?_⟩
        (refine sch_look (o := ?_) (v := ?_) ?_ ?_ ?_ ?_; rotate_left 2; (· ((conv => lhs; whnf); try exact rfl)); (· rfl); (· intro w' hO'; (have hF' := Own.cells hO'; simp only [cellsOf_append, cellsOf_pt] at hF'); go_simp; (try exact rfl)); simp only [Act.put, List.setIfInBounds_toArray, List.set_cons_zero, List.set_cons_succ])
        refine sch_done ?_
        have hlE : (encs out).length = p := by rw [← hTake, List.length_take]; omega
        by_cases hpl : p < F.length
        · have hpl' : (p : Int) < F.length := by omega
          clear hF
          ((try simp only [List.nil_append, List.append_nil] at hO); have hF := Own.cells hO; simp only [cellsOf_append, cellsOf_pt] at hF)
          go_wp2_with fail
          refine (dTrim E _ _ _ d rs A 0 p hA hlen hO).mono ?_
          rw [tr_p hPF (by omega)]
          rintro e w1 ⟨rfl, A1, hA1, hO⟩
          go_wp2_with fail
          go_ret3
          exact ⟨bl, out, F.drop p, rs ++ [.trim 0 p], sa, cp, S, A1, rfl, by rw [hPF, ← hTake, List.take_append_drop], hStuck, hRecs, .inr (by rw [hlE]), by rw [play_snoc]; simp only [Raw.app, upd_same, hPF, hTake], hA1, hSl, by unfold logF; rw [hlE]; exact hO.as _⟩
        · first | (exfalso; omega; done) | skip
          all_goals (
          have hpl' : ¬ (p : Int) < F.length := by omega
          clear hF
          ((try simp only [List.nil_append, List.append_nil] at hO); have hF := Own.cells hO; simp only [cellsOf_append, cellsOf_pt] at hF)
          go_wp2_with fail
          go_ret3
          exact ⟨bl, out, F.drop p, rs, sa, cp, S, A, rfl, by rw [hPF, ← hTake, List.take_append_drop], hStuck, hRecs, .inl rfl, by rw [hPF, ← hTake, List.take_of_length_le (by omega)], hA, hSl, by unfold logF; rw [hlE]; exact hO.as _⟩))
        obtain ⟨hs1, hs2⟩ := rec_of (l := F.drop p) (by omega) (by omega)
        have hd4 : ((F.drop p).drop 4).take (val4 (F.drop p)) = ((F.drop p).drop 4).take (val4 (F.drop p)) := rfl
        generalize val4 (F.drop p) = n at hv hn0 hn1 hs1 hs2 ⊢
        clear hd4
        have hn0' : ¬ (n : Int) = 0 := by omega
        have hn1' : ¬ ((F.length - p : Nat) : Int) - 4 < n := by omega
        have hn2 : (4 : Int) + n ≤ rc := by omega
        have hn3 : (4 : Int) ≤ 4 + n := by omega
        have hon : out.length ≤ 4194304 := by have := encs_len hRecs; rw [← hTake, List.length_take] at this; omega
        have HS1 := Lib.hid hs1
        have HS2 := Lib.hid hs2
        clear hs1 hs2
        ((try simp only [List.nil_append, List.append_nil] at hO); have hF := Own.cells hO; simp only [cellsOf_append, cellsOf_pt] at hF)
        have hll : (((F.drop p).drop 4).take n).length = n := by rw [List.length_take, List.length_drop, List.length_drop]; omega
        go_wp2_with (first | (refine at_conv ?_; go_must (refine own_bytes_str (e := 5) (ad := some ⟨bb, p + 4, none⟩) (n := n) (cap := n) (l := ((F.drop p).drop 4).take n) (by kernel_rfl) (by kernel_rfl) (by kernel_rfl) ?_ ?_ ?_ ?_ ?_ ?_; (· rfl); (· ((conv => lhs; whnf); rw [Nat.add_sub_cancel_left])); (· exact hll); (· exact bytes_sub hO inferInstance p 4 n (by omega)); (· intro h; cases h); simp only [Act.put, List.setIfInBounds_toArray, List.set_cons_zero, List.set_cons_succ])) | (refine at_bs ?_; go_must (refine own_build1 (v := ?_) sltStrs hO ?_ ?_ ?_ ?_ ?_ ?_; rotate_left; (· rfl); (· ((conv => lhs; whnf); try exact rfl)); (· rfl); (· decide); (· decide); clear hO; (try clear hF); intro bs _ hO; (try simp only [Value.cells] at hO); ((try simp only [List.nil_append, List.append_nil] at hO); have hF := Own.cells hO; simp only [cellsOf_append, cellsOf_pt] at hF); simp only [Act.put, List.setIfInBounds_toArray, List.set_cons_zero, List.set_cons_succ])) | (refine at_append ?_; go_must (refine own_append_elem (b1 := ?_) (cs := ?_) (e1 := ?_) (f1 := ?_) sltStrs hO ?_ ?_ ?_ hSl ?_ ?_ ?_ ?_ ?_ ?_ ?_; rotate_left 4; (· rfl); (· rfl); (· rfl); (· exact inferInstance); (· rfl); (· intro u hu; simp at hu; subst hu; rfl); (· first | omega | (simp only [maxLen]; omega)); (· decide); (· first | omega | (simp only [maxLen]; omega)); clear hO; (try clear hF); intro _ _ _ _ hS hO; ((try simp only [List.nil_append, List.append_nil] at hO); have hF := Own.cells hO; simp only [cellsOf_append, cellsOf_pt] at hF); simp only [Act.put, List.setIfInBounds_toArray, List.set_cons_zero, List.set_cons_succ])) | (refine own_store (v := ?_) (off := 1) (b := bl) hO ?_ ?_ ?_ ?_ ?_ ?_ ?_; rotate_left; (· rfl); (· ((conv => lhs; whnf); try exact rfl)); (· ((conv => lhs; whnf); try exact rfl)); (· simp [Value.cells]); (· simp [Value.cells, Value.oneCell']); (· simp [Value.cells]); clear hO; (try clear hF); intro _ hO; (try simp only [splice, Value.cells] at hO); ((try simp only [List.nil_append, List.append_nil] at hO); have hF := Own.cells hO; simp only [cellsOf_append, cellsOf_pt] at hF); simp only [Act.put, List.setIfInBounds_toArray, List.set_cons_zero, List.set_cons_succ]))
        simp only [List.setIfInBounds_toArray, List.set_cons_zero, List.set_cons_succ] at hO
        rw [show (p : Int) + (4 + n) = ((p + (4 + n) : Nat) : Int) by omega] at hO
        go_roundw
        case rel =>
          have hs1 := HS1.out
          have hs2 := HS2.out
          have hlen1 : (out ++ [(⟨(((F.drop p).drop 4).take n).toArray⟩ : ByteArray)]).length = out.length + 1 := by simp
          refine ⟨out ++ [⟨(((F.drop p).drop 4).take n).toArray⟩], p + (4 + n), rc - (4 + n), _, _, _, _, by rw [hlen1], by rw [Nat.sub_sub], by omega, ?_, ?_, ?_, by omega, by omega, (by rw [hlen1, List.map_append]; exact hS), hO.as _⟩
          · rw [List.take_add, encs_snoc, hTake, hs2]
          · intro s hs
            rcases List.mem_append.1 hs with h | h
            · exact hRecs s h
            · cases List.mem_singleton.1 h
              omega
          · intro hlt
            rw [if_neg (by omega)]
        case measure => simp [slLen]; omega
end Go.Proofs.YtkfkcloefgfkaaaGreat

/- Maps keyed by ints: a map's block as the list of what it holds. -/
namespace Go.Own
open Go Go.RowKit Go.ChangeMaps

structure MI (es : Array MapEntry) (clock : Nat) (l : List (Int × Value)) : Prop where
  ent : es.toList.map (fun e => (e.key, e.val)) = l.map (fun p => (Value.int .i64 p.1, p.2))
  keys : (l.map (·.1)).Nodup
  born : (es.toList.map (·.born)).Nodup
  old : ∀ e ∈ es.toList, e.born < clock

def MapAt (b : Nat) (l : List (Int × Value)) (A : Fr) : Prop := ∃ es clock, MI es clock l ∧ A = pt b (.map es clock)

def mlook (l : List (Int × Value)) (k : Int) : Option Value := (l.find? (·.1 == k)).map (·.2)

theorem findNow_int (k : Int) : ∀ (es : List MapEntry) (l : List (Int × Value)) (i : Nat), es.map (fun e => (e.key, e.val)) = l.map (fun p => (Value.int .i64 p.1, p.2)) →
    (mlook l k = none → Instr.findNow (.int .i64) (.int .i64 k) es i = some none) ∧
    (∀ v, mlook l k = some v → ∃ j, j < es.length ∧ Instr.findNow (.int .i64) (.int .i64 k) es i = some (some (i + j, v)) ∧ ((l.map (·.1)).Nodup → (es.eraseIdx j).map (fun e => (e.key, e.val)) = (l.filter (·.1 != k)).map (fun p => (Value.int .i64 p.1, p.2))))
  | [], l, i, h => by
    obtain rfl : l = [] := by simpa using h.symm
    exact ⟨fun _ => rfl, fun v hv => by simp [mlook] at hv⟩
  | e :: es, [], i, h => by simp at h
  | e :: es, p :: l, i, h => by
    simp only [List.map_cons, List.cons.injEq] at h
    obtain ⟨hkv, ht⟩ := h
    obtain ⟨hk, hv⟩ := Prod.mk.inj hkv
    have ih := findNow_int k es l (i + 1) ht
    have hkk := hk
    by_cases hp : p.1 = k
    · refine ⟨fun hn => ?_, fun v hl => ?_⟩
      · simp [mlook, hp] at hn
      · have : p.2 = v := by simpa [mlook, hp] using hl
        refine ⟨0, by simp, ?_, fun hnd => ?_⟩
        · simp only [Instr.findNow, hkk, Instr.sameNow, if_true, hp, beq_self_eq_true, Nat.add_zero]
          simp_all
        · simp only [List.eraseIdx_cons_zero]
          rw [ht]
          have : (p :: l).filter (fun q => q.1 != k) = l := by
            rw [List.filter_cons_of_neg (by simp [hp])]
            rw [List.filter_eq_self]
            intro q hq
            simp only [List.map_cons, List.nodup_cons] at hnd
            have : q.1 ≠ p.1 := fun e => hnd.1 (List.mem_map.2 ⟨q, hq, e⟩)
            simp [← hp, this]
          rw [this]
    · have hne : (k == p.1) = false := by simp; exact fun e => hp e.symm
      have hne2 : (p.1 == k) = false := by simpa using hp
      have hl : mlook (p :: l) k = mlook l k := by simp [mlook, hne2]
      rw [hl]
      refine ⟨fun hn => ?_, fun v hv => ?_⟩
      · simp only [Instr.findNow, hkk, Instr.sameNow, if_true, hne]
        exact ih.1 hn
      · obtain ⟨j, hj, hf, he⟩ := ih.2 v hv
        refine ⟨j + 1, by simpa using hj, ?_, fun hnd => ?_⟩
        · simp only [Instr.findNow, hkk, Instr.sameNow, if_true, hne]
          rw [hf]
          congr 3
          omega
        · simp only [List.eraseIdx_cons_succ, List.map_cons]
          rw [he (by simpa using (List.nodup_cons.1 (by simpa using hnd)).2), List.filter_cons_of_pos (by simp [hp])]
          simp_all

section
variable {P : Program} {t kt et : TypeId} {E w : World} {X R A : Fr} {b : Nat} {l : List (Int × Value)}

theorem run_checkInt (hk : P.underlying kt = some (.int .i64)) (em : Bool) (k : Int) (w : World) : (Instr.checkKey em 10000 kt (.int .i64 k)).run P w = .ok () w := by
  rw [show (10000 : Nat) = 9999 + 1 from rfl, Instr.checkKey]
  simp [Sem.run_bind, run_underlying hk, Result.andThen]

theorem run_findKey (hk : P.underlying kt = some (.int .i64)) {es : Array MapEntry} {c : Nat} (hM : MI es c l) (k : Int) (w : World) :
    (mlook l k = none → (Instr.findKey kt (.int .i64 k) es.toList).run P w = .ok none w) ∧
    (∀ v, mlook l k = some v → ∃ j, j < es.size ∧ (Instr.findKey kt (.int .i64 k) es.toList).run P w = .ok (some (j, v)) w ∧ ((es.toList.eraseIdx j).map (fun e => (e.key, e.val)) = (l.filter (·.1 != k)).map (fun p => (Value.int .i64 p.1, p.2)))) := by
  have h := findNow_int k es.toList l 0 hM.ent
  refine ⟨fun hn => ?_, fun v hv => ?_⟩
  · simp [Instr.findKey, run_underlying hk, Result.andThen, h.1 hn]
  · obtain ⟨j, hj, hf, he⟩ := h.2 v hv
    refine ⟨j, by simpa using hj, ?_, he hM.keys⟩
    simp [Instr.findKey, run_underlying hk, Result.andThen, hf]

theorem run_lookMap (ht : P.underlying t = some (.map kt et)) (hk : P.underlying kt = some (.int .i64)) {z : Value} (hz : ∀ w, (zeroValue et).run P w = .ok z w) (hO : Own E w X) (hM : MapAt b l A) [hp : Pick X A R] (k : Int) :
    (Instr.lookup t (.map (some b)) (.int .i64 k) false).run P w = .ok ((mlook l k).getD z) w := by
  obtain ⟨es, c, hM, rfl⟩ := hM
  have hg : w.heap[b]? = some (.map es c) := (hO.perm hp.perm).mem (b, .map es c) (by simp [pt])
  have hf := run_findKey hk hM k w
  cases hl : mlook l k with
  | none => simp [Instr.lookup, run_underlying ht, Result.andThen, getObj, Sem.run, hg, run_checkInt hk, hf.1 hl, hz w]
  | some v =>
    obtain ⟨j, _, hf, _⟩ := hf.2 v hl
    simp [Instr.lookup, run_underlying ht, Result.andThen, getObj, Sem.run, hg, run_checkInt hk, hf]

variable {ops : Array Oper} {Q : Exit → Act → World → Prop} {rest : List Oper} {a : Act} {d : Option Tmp} {ty : TypeId} {pos : String} {aft : Array Edge} {g : Option (Nat × Bool)}

theorem own_lookup (ht : P.underlying t = some (.map kt et)) (hk : P.underlying kt = some (.int .i64)) {z : Value} (hz : ∀ w, (zeroValue et).run P w = .ok z w) (hO : Own E w X) (hM : MapAt b l A) [hp : Pick X A R] {m x : Operand} {k : Int}
    (hw : Region.wanted ⟨d, .lookup t m x false, ty, pos, aft, g⟩ (yielded ops a.tmps) = true) (hm : a.eval m = .map (some b)) (hx : a.eval x = .int .i64 k)
    (next : wpList P ops Q rest (a.put d ((mlook l k).getD z)) w) : wpList P ops Q (⟨d, .lookup t m x false, ty, pos, aft, g⟩ :: rest) a w := by
  refine wpList_run_value hw ?_ next
  have := run_lookMap ht hk hz hO hM k
  simp [execOp, hm, hx, this]

theorem MI.push {es : Array MapEntry} {c : Nat} (h : MI es c l) {k : Int} (hn : mlook l k = none) (v : Value) : MI (es.push ⟨.int .i64 k, v, c⟩) (c + 1) (l ++ [(k, v)]) := by
  refine ⟨by simp [h.ent], ?_, ?_, ?_⟩
  · rw [List.map_append, List.nodup_append]
    refine ⟨h.keys, by simp, ?_⟩
    intro x hx y hy
    simp at hy
    subst hy
    intro e
    subst e
    obtain ⟨p, hp, rfl⟩ := List.mem_map.1 hx
    simp [mlook] at hn
    exact hn _ _ hp rfl
  · rw [Array.toList_push, List.map_append, List.nodup_append]
    refine ⟨h.born, by simp, ?_⟩
    intro x hx y hy
    simp at hy
    subst hy
    obtain ⟨e, he, rfl⟩ := List.mem_map.1 hx
    have := h.old e he
    omega
  · intro e he
    simp at he
    rcases he with he | rfl
    · have := h.old e (by simpa using he)
      omega
    · simp

theorem own_mapNew (ht : P.underlying t = some (.map kt et)) (hk : P.underlying kt = some (.int .i64)) (hO : Own E w X) (hM : MapAt b l A) [hp : Pick X A R] {m x y : Operand} {k : Int} {v : Value}
    (hw : Region.wanted ⟨d, .mapUpdate t m x y, ty, pos, aft, g⟩ (yielded ops a.tmps) = true) (hm : a.eval m = .map (some b)) (hx : a.eval x = .int .i64 k) (hy : a.eval y = v) (hn : mlook l k = none)
    (next : ∀ w1 A1, MapAt b (l ++ [(k, v)]) A1 → Own E w1 (A1 ++ R) → wpList P ops Q rest (a.put d undef) w1) : wpList P ops Q (⟨d, .mapUpdate t m x y, ty, pos, aft, g⟩ :: rest) a w := by
  obtain ⟨es, c, hM, rfl⟩ := hM
  have hO1 := hO.perm hp.perm
  have hg : w.heap[b]? = some (.map es c) := hO1.mem (b, .map es c) (by simp [pt])
  have hf := (run_findKey hk hM k w).1 hn
  refine wpList_run_skip (w1 := setBlock w b (.map (es.push ⟨.int .i64 k, v, c⟩) (c + 1))) hw ?_ (next _ _ ⟨_, _, hM.push hn v, rfl⟩ ?_)
  · simp [execOp, hm, hx, hy, Instr.mapUpdate, run_underlying ht, Result.andThen, getObj, setObj, Sem.run, hg, run_checkInt hk, hf, setBlock]
  · have hb : b < w.heap.size := hO1.hasLt (b := b) (o := .map es c)
    refine hO1.modify rfl rfl rfl ?_ ?_
    · simp [setBlock, hb]
    · intro j hj
      simp [setBlock, hj, Ne.symm hj]

theorem MI.erase {es : Array MapEntry} {c : Nat} (h : MI es c l) {k : Int} {j : Nat} (hj : j < es.size) (he : (es.toList.eraseIdx j).map (fun e => (e.key, e.val)) = (l.filter (·.1 != k)).map (fun p => (Value.int .i64 p.1, p.2))) :
    MI (es.eraseIdxIfInBounds j) c (l.filter (·.1 != k)) := by
  have e1 : (es.eraseIdxIfInBounds j).toList = es.toList.eraseIdx j := by
    rw [Array.eraseIdxIfInBounds, dif_pos hj]
    simp
  refine ⟨by rw [e1, he], ?_, ?_, ?_⟩
  · exact h.keys.sublist (List.Sublist.map _ List.filter_sublist)
  · rw [e1]
    exact h.born.sublist (List.Sublist.map _ (List.eraseIdx_sublist _ _))
  · rw [e1]
    intro e he
    exact h.old e (List.mem_of_mem_eraseIdx he)

theorem own_mapDelete {ta : TypeId} (ht : P.underlying t = some (.map kt et)) (hk : P.underlying kt = some (.int .i64)) (hO : Own E w X) (hM : MapAt b l A) [hp : Pick X A R] {m x : Operand} {k : Int} {v : Value}
    (hw : Region.wanted ⟨d, .call { callee := .builtin .delete, args := #[m, x], argTypes := #[t, ta] }, ty, pos, aft, g⟩ (yielded ops a.tmps) = true) (hm : a.eval m = .map (some b)) (hx : a.eval x = .int .i64 k) (hn : mlook l k = some v)
    (next : ∀ w1 A1, MapAt b (l.filter (·.1 != k)) A1 → Own E w1 (A1 ++ R) → wpList P ops Q rest (a.put d (.tuple #[])) w1) : wpList P ops Q (⟨d, .call { callee := .builtin .delete, args := #[m, x], argTypes := #[t, ta] }, ty, pos, aft, g⟩ :: rest) a w := by
  obtain ⟨es, c, hM, rfl⟩ := hM
  have hO1 := hO.perm hp.perm
  have hg : w.heap[b]? = some (.map es c) := hO1.mem (b, .map es c) (by simp [pt])
  obtain ⟨j, hj, hf, he⟩ := (run_findKey hk hM k w).2 v hn
  refine wpList_run_value (v := .tuple #[]) (w1 := setBlock w b (.map (es.eraseIdxIfInBounds j) c)) hw ?_ (next _ _ ⟨_, _, hM.erase hj he, rfl⟩ ?_)
  · simp [execOp, resolve, invoke, builtin, hm, hx, Builtin.delete_, run_underlying ht, Result.andThen, getObj, setObj, Sem.run, hg, run_checkInt hk, hf, setBlock]
  · have hb : b < w.heap.size := hO1.hasLt (b := b) (o := .map es c)
    refine hO1.modify rfl rfl rfl ?_ ?_
    · simp [setBlock, hb]
    · intro j hj
      simp [setBlock, hj, Ne.symm hj]

theorem own_makeMap (hO : Own E w X) (hw : Region.wanted ⟨d, .makeMap t none, ty, pos, aft, g⟩ (yielded ops a.tmps) = true)
    (next : ∀ b A w1, MapAt b [] A → Own E w1 (A ++ X) → wpList P ops Q rest (a.put d (.map (some b))) w1) :
    wpList P ops Q (⟨d, .makeMap t none, ty, pos, aft, g⟩ :: rest) a w := by
  refine wpList_run_value (v := .map (some w.heap.size)) (w1 := w.alloc (.map #[] 0)) hw ?_ (next _ _ _ ⟨#[], 0, ⟨rfl, by simp, by simp, by simp⟩, rfl⟩ (hO.alloc _))
  have hmm : (Instr.makeMap t none).run P w = .ok (.map (some w.heap.size)) (w.alloc (.map #[] 0)) := by simp [Instr.makeMap]
  simp [execOp, hmm]
end
theorem at_lookup {P : Program} {ops : Array Oper} {Q : Exit → Act → World → Prop} {rest : List Oper} {a : Act} {w : World} {d : Option Tmp} {ty : TypeId} {pos : String} {aft : Array Edge} {g : Option (Nat × Bool)} {t : TypeId} {m x : Operand} {ok : Bool} (h : wpList P ops Q (⟨d, .lookup t m x ok, ty, pos, aft, g⟩ :: rest) a w) : wpList P ops Q (⟨d, .lookup t m x ok, ty, pos, aft, g⟩ :: rest) a w := h
theorem at_mapup {P : Program} {ops : Array Oper} {Q : Exit → Act → World → Prop} {rest : List Oper} {a : Act} {w : World} {d : Option Tmp} {ty : TypeId} {pos : String} {aft : Array Edge} {g : Option (Nat × Bool)} {t : TypeId} {m x y : Operand} (h : wpList P ops Q (⟨d, .mapUpdate t m x y, ty, pos, aft, g⟩ :: rest) a w) : wpList P ops Q (⟨d, .mapUpdate t m x y, ty, pos, aft, g⟩ :: rest) a w := h
theorem at_del {P : Program} {ops : Array Oper} {Q : Exit → Act → World → Prop} {rest : List Oper} {a : Act} {w : World} {d : Option Tmp} {ty : TypeId} {pos : String} {aft : Array Edge} {g : Option (Nat × Bool)} {x : Array Operand} {ats : Array TypeId} (h : wpList P ops Q (⟨d, .call { callee := .builtin .delete, args := x, argTypes := ats }, ty, pos, aft, g⟩ :: rest) a w) : wpList P ops Q (⟨d, .call { callee := .builtin .delete, args := x, argTypes := ats }, ty, pos, aft, g⟩ :: rest) a w := h
theorem at_mkMap {P : Program} {ops : Array Oper} {Q : Exit → Act → World → Prop} {rest : List Oper} {a : Act} {w : World} {d : Option Tmp} {ty : TypeId} {pos : String} {aft : Array Edge} {g : Option (Nat × Bool)} {t : TypeId} {n : Option Operand} (h : wpList P ops Q (⟨d, .makeMap t n, ty, pos, aft, g⟩ :: rest) a w) : wpList P ops Q (⟨d, .makeMap t n, ty, pos, aft, g⟩ :: rest) a w := h
end Go.Own

/- The pool: frames that hold pages of a disk's file 1, as plain lists. -/
namespace Go.Dk
open Go.Own Go.RowKit

structure Frm where
  blk : Nat
  bb : Nat
  page : Nat
  bytes : List UInt8
  pins : Nat
  changed : Bool
  lately : Bool

def frmF (f : Frm) : Fr := pt f.blk (.cells #[.int .i64 f.page, .slice (some ⟨f.bb, 0, none⟩) 512 512, .int .i64 f.pins, .bool f.changed, .bool f.lately] 208 (0, 0)) ++ pt f.bb (.cells (bytesV f.bytes).toArray 5 (0, 0))
def frmsF (fs : List Frm) : Fr := fs.flatMap frmF
theorem frmsF_nil : frmsF [] = [] := rfl
theorem frmsF_cons (f : Frm) (fs : List Frm) : frmsF (f :: fs) = frmF f ++ frmsF fs := rfl
theorem frmsF_app (a b : List Frm) : frmsF (a ++ b) = frmsF a ++ frmsF b := by simp [frmsF]
def ptrV (f : Frm) : Value := .pointer (some ⟨f.blk, 0, none⟩)
def pairV (f : Frm) : Int × Value := ((f.page : Int), ptrV f)

/-- A page of a file: noughts behind its end. -/
def pgOf (F : List UInt8) (k : Nat) : List UInt8 := (F.drop (512 * k)).take 512 ++ List.replicate (512 - ((F.drop (512 * k)).take 512).length) 0
theorem pgOf_length (F : List UInt8) (k : Nat) : (pgOf F k).length = 512 := by
  simp only [pgOf, List.length_append, List.length_replicate, List.length_take, List.length_drop]
  omega
/-- The byte at a place, nought behind the end. -/
theorem pgOf_get (F : List UInt8) (k i : Nat) (h : i < 512) : (pgOf F k)[i]? = some (F.getD (512 * k + i) 0) := by
  unfold pgOf
  by_cases hi : i < ((F.drop (512 * k)).take 512).length
  · rw [List.getElem?_append_left hi]
    simp only [List.length_take, List.length_drop] at hi
    rw [List.getElem?_take_of_lt h, List.getElem?_drop, List.getD_eq_getElem?_getD, List.getElem?_eq_getElem (by omega)]
    rfl
  · rw [List.getElem?_append_right (by omega)]
    simp only [List.length_take, List.length_drop] at hi ⊢
    rw [List.getElem?_replicate, if_pos (by omega), List.getD_eq_getElem?_getD, List.getElem?_eq_none (by omega)]
    rfl
theorem over_getD (l s : List UInt8) (k i : Nat) : (over l k s).getD i 0 = if k ≤ i ∧ i < k + s.length then s.getD (i - k) 0 else l.getD i 0 := by
  have hg : ∀ i, (l ++ List.replicate (k + s.length - l.length) (0 : UInt8)).getD i 0 = l.getD i 0 := by
    intro i
    simp only [List.getD_eq_getElem?_getD]
    by_cases h : i < l.length
    · rw [List.getElem?_append_left h]
    · rw [List.getElem?_append_right (by omega), List.getElem?_eq_none (l := l) (by omega), List.getElem?_replicate]
      split <;> rfl
  unfold over
  have hml : (l ++ List.replicate (k + s.length - l.length) (0 : UInt8)).length ≥ k + s.length := by simp; omega
  generalize l ++ List.replicate (k + s.length - l.length) (0 : UInt8) = m at hg hml
  have htl : (m.take k).length = k := by rw [List.length_take]; omega
  by_cases h1 : i < k
  · rw [if_neg (by omega), ← hg, List.append_assoc]
    simp only [List.getD_eq_getElem?_getD]
    rw [List.getElem?_append_left (by omega), List.getElem?_take_of_lt h1]
  · by_cases h2 : i < k + s.length
    · rw [if_pos ⟨by omega, h2⟩]
      simp only [List.getD_eq_getElem?_getD]
      rw [List.getElem?_append_left (by simp; omega), List.getElem?_append_right (by omega), htl]
    · rw [if_neg (by omega), ← hg]
      simp only [List.getD_eq_getElem?_getD]
      rw [List.getElem?_append_right (by simp; omega), List.getElem?_drop]
      congr 2
      simp only [List.length_append, htl]
      omega
theorem list_ext {a b : List UInt8} {n : Nat} (ha : a.length = n) (hb : b.length = n) (h : ∀ i, i < n → a[i]? = b[i]?) : a = b := by
  apply List.ext_getElem?
  intro i
  by_cases hi : i < n
  · exact h i hi
  · rw [List.getElem?_eq_none (by omega), List.getElem?_eq_none (by omega)]
theorem pgOf_over_same (F : List UInt8) (k : Nat) (s : List UInt8) (hs : s.length = 512) : pgOf (over F (512 * k) s) k = s := by
  refine list_ext (pgOf_length _ _) hs fun i hi => ?_
  rw [pgOf_get _ _ _ hi, over_getD, if_pos (by omega), List.getElem?_eq_getElem (by omega), List.getD_eq_getElem?_getD, show 512 * k + i - 512 * k = i by omega, List.getElem?_eq_getElem (by omega)]
  rfl
theorem pgOf_over_ne (F : List UInt8) (k j : Nat) (s : List UInt8) (hs : s.length = 512) (h : j ≠ k) : pgOf (over F (512 * k) s) j = pgOf F j := by
  refine list_ext (pgOf_length _ _) (pgOf_length _ _) fun i hi => ?_
  rw [pgOf_get _ _ _ hi, pgOf_get _ _ _ hi, over_getD, if_neg (by omega)]
theorem pgOf_nil (k : Nat) : pgOf [] k = List.replicate 512 0 := by unfold pgOf; rw [List.drop_nil, List.take_nil, List.nil_append, List.length_nil]

/-- The frames hold what the pages hold, or the disk does. -/
structure PInv (most : Nat) (fs : List Frm) (l : List (Int × Value)) (F : List UInt8) (cont : Nat → List UInt8) (pins : Nat → Nat) : Prop where
  len : fs.length ≤ most
  perm : l.Perm (fs.map pairV)
  nodup : (fs.map (·.page)).Nodup
  pg : ∀ f ∈ fs, f.page < 4096 ∧ f.bytes = cont f.page ∧ f.pins = pins f.page
  out : ∀ k, (∀ f ∈ fs, f.page ≠ k) → pins k = 0
  disk : ∀ k, k < 4096 → (∀ f ∈ fs, f.page = k → f.changed = false) → pgOf F k = cont k
  clen : ∀ k, (cont k).length = 512

theorem look_mem {l : List (Int × Value)} (hn : (l.map (·.1)).Nodup) {p : Int × Value} (h : p ∈ l) : mlook l p.1 = some p.2 := by
  induction l with
  | nil => simp at h
  | cons q l ih =>
    simp only [List.map_cons, List.nodup_cons] at hn
    rcases List.mem_cons.1 h with rfl | h
    · simp [mlook]
    · have hne : q.1 ≠ p.1 := fun e => hn.1 (List.mem_map.2 ⟨p, h, e.symm⟩)
      have := ih hn.2 h
      simp only [mlook] at this ⊢
      rw [List.find?_cons_of_neg (by simpa using hne)]
      exact this
theorem look_none_of {l : List (Int × Value)} {k : Int} (h : ∀ p ∈ l, p.1 ≠ k) : mlook l k = none := by
  simp only [mlook, Option.map_eq_none_iff, List.find?_eq_none]
  intro p hp
  simpa using h p hp

theorem pair_keys (fs : List Frm) (h : (fs.map (·.page)).Nodup) : ((fs.map pairV).map (·.1)).Nodup := by
  rw [List.map_map]
  have e : ((fun p : Int × Value => p.1) ∘ pairV) = (fun n : Nat => (n : Int)) ∘ (·.page) := rfl
  rw [e, ← List.map_map]
  exact List.Pairwise.map _ (fun a b hab e => hab (Int.ofNat.inj e)) h
theorem PInv.look_in {most : Nat} {fs : List Frm} {l : List (Int × Value)} {F : List UInt8} {cont : Nat → List UInt8} {pins : Nat → Nat} (h : PInv most fs l F cont pins) {f : Frm} (hf : f ∈ fs) : mlook l (f.page : Int) = some (ptrV f) := by
  have hn : (l.map (·.1)).Nodup := (h.perm.map _).nodup_iff.2 (pair_keys fs h.nodup)
  exact look_mem (p := pairV f) hn (h.perm.mem_iff.2 (List.mem_map.2 ⟨f, hf, rfl⟩))
theorem PInv.look_out {most : Nat} {fs : List Frm} {l : List (Int × Value)} {F : List UInt8} {cont : Nat → List UInt8} {pins : Nat → Nat} (h : PInv most fs l F cont pins) {k : Int} (hk : ∀ f ∈ fs, (f.page : Int) ≠ k) : mlook l k = none := by
  refine look_none_of fun p hp => ?_
  obtain ⟨f, hf, rfl⟩ := List.mem_map.1 (h.perm.mem_iff.1 hp)
  exact hk f hf
/-- Is a page in a frame? -/
theorem page_cases (fs : List Frm) (k : Int) : (∃ pre f post, fs = pre ++ f :: post ∧ (f.page : Int) = k) ∨ ∀ f ∈ fs, (f.page : Int) ≠ k := by
  by_cases h : ∃ f ∈ fs, (f.page : Int) = k
  · obtain ⟨f, hf, hk⟩ := h
    obtain ⟨pre, post, rfl⟩ := List.append_of_mem hf
    exact .inl ⟨pre, f, post, rfl, hk⟩
  · exact .inr fun f hf hk => h ⟨f, hf, hk⟩

theorem nodup_mid {pre post : List Frm} {f : Frm} (h : ((pre ++ f :: post).map (·.page)).Nodup) : ∀ g ∈ pre ++ post, g.page ≠ f.page := by
  intro g hg e
  rw [List.map_append, List.map_cons] at h
  have h2 : ((f.page) :: ((pre.map (·.page)) ++ (post.map (·.page)))).Nodup := (List.perm_middle.nodup_iff).1 h
  rw [List.nodup_cons] at h2
  refine h2.1 ?_
  rw [← List.map_append]
  exact List.mem_map.2 ⟨g, hg, e⟩

/-- A frame is exchanged for another one of the same page. -/
theorem PInv.set {most : Nat} {pre post : List Frm} {f f' : Frm} {l : List (Int × Value)} {F : List UInt8} {cont : Nat → List UInt8} {pins : Nat → Nat} (h : PInv most (pre ++ f :: post) l F cont pins)
    (hb : f'.blk = f.blk) (hp : f'.page = f.page) (hl : f'.bytes.length = 512) (hc : f'.changed = true ∨ (f'.bytes = f.bytes ∧ f'.changed = f.changed)) :
    PInv most (pre ++ f' :: post) l F (upd cont f.page f'.bytes) (upd pins f.page f'.pins) := by
  have hne := nodup_mid h.nodup
  have hmem : ∀ g, g ∈ pre ++ f' :: post ↔ g = f' ∨ g ∈ pre ++ post := by intro g; simp; exact ⟨by rintro (h | h | h) <;> simp [h], by rintro (h | h | h) <;> simp [h]⟩
  have hmem0 : ∀ g, g ∈ pre ++ f :: post ↔ g = f ∨ g ∈ pre ++ post := by intro g; simp; exact ⟨by rintro (h | h | h) <;> simp [h], by rintro (h | h | h) <;> simp [h]⟩
  refine ⟨by simpa using h.len, ?_, ?_, ?_, ?_, ?_, ?_⟩
  · have := h.perm
    rw [List.map_append, List.map_cons] at this ⊢
    have e : pairV f' = pairV f := by simp [pairV, ptrV, hb, hp]
    rw [e]
    exact this
  · have := h.nodup
    rw [List.map_append, List.map_cons] at this ⊢
    rw [hp]
    exact this
  · intro g hg
    rcases (hmem g).1 hg with rfl | hg
    · rw [hp, upd_same, upd_same]
      exact ⟨(h.pg f (by simp)).1, rfl, rfl⟩
    · rw [upd_ne _ _ _ _ (hne g hg), upd_ne _ _ _ _ (hne g hg)]
      exact h.pg g ((hmem0 g).2 (.inr hg))
  · intro k hk
    have hkp : k ≠ f.page := fun e => hk f' ((hmem f').2 (.inl rfl)) (by rw [hp, e])
    rw [upd_ne _ _ _ _ hkp]
    refine h.out k fun g hg => ?_
    rcases (hmem0 g).1 hg with rfl | hg
    · exact fun e => hkp e.symm
    · exact hk g ((hmem g).2 (.inr hg))
  · intro k hk4 hk
    by_cases hkp : k = f.page
    · subst hkp
      rw [upd_same]
      have hf' := hk f' ((hmem f').2 (.inl rfl)) hp
      rcases hc with hc | ⟨hc1, hc2⟩
      · rw [hc] at hf'; cases hf'
      · rw [hc1, (h.pg f (by simp)).2.1]
        refine h.disk _ hk4 fun g hg e => ?_
        rcases (hmem0 g).1 hg with rfl | hg
        · rw [← hc2]; exact hf'
        · exact absurd e (hne g hg)
    · rw [upd_ne _ _ _ _ hkp]
      refine h.disk k hk4 fun g hg e => ?_
      rcases (hmem0 g).1 hg with rfl | hg
      · exact absurd e.symm hkp
      · exact hk g ((hmem g).2 (.inr hg)) e
  · intro k
    simp only [upd]
    split
    · exact hl
    · exact h.clen k
/-- A changed frame is written to the disk. -/
theorem PInv.wrote {most : Nat} {pre post : List Frm} {f : Frm} {l : List (Int × Value)} {F : List UInt8} {cont : Nat → List UInt8} {pins : Nat → Nat} (h : PInv most (pre ++ f :: post) l F cont pins) :
    PInv most (pre ++ { f with changed := false } :: post) l (over F (512 * f.page) f.bytes) cont pins := by
  have hne := nodup_mid h.nodup
  have hfb : f.bytes = cont f.page := (h.pg f (by simp)).2.1
  have hfl : f.bytes.length = 512 := by rw [hfb]; exact h.clen _
  have hmem : ∀ g, g ∈ pre ++ { f with changed := false } :: post ↔ g = { f with changed := false } ∨ g ∈ pre ++ post := by intro g; simp; exact ⟨by rintro (h | h | h) <;> simp [h], by rintro (h | h | h) <;> simp [h]⟩
  have hmem0 : ∀ g, g ∈ pre ++ f :: post ↔ g = f ∨ g ∈ pre ++ post := by intro g; simp; exact ⟨by rintro (h | h | h) <;> simp [h], by rintro (h | h | h) <;> simp [h]⟩
  refine ⟨by simpa using h.len, ?_, ?_, ?_, ?_, ?_, h.clen⟩
  · simpa [pairV, ptrV] using h.perm
  · simpa using h.nodup
  · intro g hg
    rcases (hmem g).1 hg with rfl | hg
    · exact h.pg f (by simp)
    · exact h.pg g ((hmem0 g).2 (.inr hg))
  · intro k hk
    refine h.out k fun g hg => ?_
    rcases (hmem0 g).1 hg with rfl | hg
    · exact fun e => hk _ ((hmem _).2 (.inl rfl)) e
    · exact hk g ((hmem g).2 (.inr hg))
  · intro k hk4 hk
    by_cases hkp : k = f.page
    · subst hkp
      rw [pgOf_over_same _ _ _ hfl, hfb]
    · rw [pgOf_over_ne _ _ _ _ hfl hkp]
      refine h.disk k hk4 fun g hg e => ?_
      rcases (hmem0 g).1 hg with rfl | hg
      · exact absurd e.symm hkp
      · exact hk g ((hmem g).2 (.inr hg)) e
end Go.Dk

/- The pool's contracts: given, pinned, Unpin, Read, Pins. -/
namespace Go.Proofs.YtkfkcloefgfkaaaGreat
open Go Go.RowKit Go.Own Go.Dk

theorem zeroFP (w : World) : (zeroValue 205).run Tryz.prog w = .ok (.pointer none) w := by kernel_rfl

/-- The pool at block p: over the disk d, with these frames and this map. -/
def PoolP (p d most hand : Nat) (fs : List Frm) (l : List (Int × Value)) (A : Fr) : Prop :=
  ∃ la lc mb S M, Sl 205 1 la fs.length lc (fs.map ptrV) S ∧ MapAt mb l M ∧
    A = pt p (.cells #[.pointer (some ⟨d, 0, none⟩), .int .i64 most, .slice la fs.length lc, .int .i64 hand, .map (some mb)] 166 (0, 0)) ++ (S ++ (M ++ frmsF fs))

set_option maxRecDepth 100000 in
set_option maxHeartbeats 16000000 in
theorem pGiven (E w : World) (X R A : Fr) (p d most hand : Nat) (fs : List Frm) (l : List (Int × Value)) (hP : PoolP p d most hand fs l A) (hm : 0 < most) (hO : Own E w X) [hp : Pick X A R] :
    Calls Tryz.prog 151 #[.pointer (some ⟨p, 0, none⟩)] w fun e w' => e = .returned (.bool true) ∧ w = w' := by
  obtain ⟨la, lc, mb, S, M, hS, hM, rfl⟩ := hP
  replace hO := hO.perm hp.perm
  clear hp
  have hm1 : (0 : Int) < most := by omega
  ((try simp only [List.nil_append, List.append_nil] at hO); have hF := Own.cells hO; simp only [cellsOf_append, cellsOf_pt] at hF)
  go_enter Tryz.func151, Tryz.ntmps151
  go_wp2
  go_ret
  exact ⟨rfl, rfl⟩

set_option maxRecDepth 100000 in
set_option maxHeartbeats 16000000 in
theorem pPinned_yes (E w : World) (X R A : Fr) (p d most hand : Nat) (pre post : List Frm) (f : Frm) (l : List (Int × Value)) (hP : PoolP p d most hand (pre ++ f :: post) l A) (hl : mlook l (f.page : Int) = some (ptrV f)) (hf : 0 < f.pins) (hO : Own E w X) [hp : Pick X A R] :
    Calls Tryz.prog 155 #[.pointer (some ⟨p, 0, none⟩), .int .i64 f.page] w fun e w' => e = .returned (.pointer (some ⟨f.blk, 0, none⟩)) ∧ w = w' := by
  obtain ⟨la, lc, mb, S, M, hS, hM, rfl⟩ := hP
  replace hO := hO.perm hp.perm
  clear hp
  have hm1 : (0 : Int) < f.pins := by omega
  rw [frmsF_app, frmsF_cons] at hO
  unfold frmF at hO
  ((try simp only [List.nil_append, List.append_nil] at hO); have hF := Own.cells hO; simp only [cellsOf_append, cellsOf_pt] at hF)
  unfold ptrV at *
  go_enter Tryz.func155, Tryz.ntmps155
  go_wp2_with (refine at_lookup ?_; go_must (refine own_lookup (kt := 3) (et := 205) (b := mb) (k := f.page) (l := l) (by kernel_rfl) (by kernel_rfl) zeroFP hO hM ?_ ?_ ?_ ?_; (· rfl); (· rfl); (· rfl); rw [hl]; simp only [Act.put, List.setIfInBounds_toArray, List.set_cons_zero, List.set_cons_succ]))
  go_ret
  exact ⟨rfl, rfl⟩

set_option maxRecDepth 100000 in
set_option maxHeartbeats 16000000 in
theorem pPinned_no (E w : World) (X R A : Fr) (p d most hand : Nat) (fs : List Frm) (l : List (Int × Value)) (page : Int) (hP : PoolP p d most hand fs l A) (hl : ∀ f ∈ fs, (f.page : Int) = page → mlook l page = some (ptrV f) ∧ f.pins = 0) (hl2 : (∀ f ∈ fs, (f.page : Int) ≠ page) → mlook l page = none) (hO : Own E w X) [hp : Pick X A R] :
    Calls Tryz.prog 155 #[.pointer (some ⟨p, 0, none⟩), .int .i64 page] w fun e w' => e = .returned (.pointer none) ∧ w = w' := by
  obtain ⟨la, lc, mb, S, M, hS, hM, rfl⟩ := hP
  replace hO := hO.perm hp.perm
  clear hp
  rcases page_cases fs page with ⟨pre, f, post, rfl, hk⟩ | hk
  · obtain ⟨h1, h2⟩ := hl f (by simp) hk
    have hm1 : ¬ (0 : Int) < f.pins := by omega
    rw [frmsF_app, frmsF_cons] at hO
    unfold frmF at hO
    ((try simp only [List.nil_append, List.append_nil] at hO); have hF := Own.cells hO; simp only [cellsOf_append, cellsOf_pt] at hF)
    unfold ptrV at *
    clear hl hl2
    go_enter Tryz.func155, Tryz.ntmps155
    go_wp2_with (refine at_lookup ?_; go_must (refine own_lookup (kt := 3) (et := 205) (b := mb) (k := page) (l := l) (by kernel_rfl) (by kernel_rfl) zeroFP hO hM ?_ ?_ ?_ ?_; (· rfl); (· rfl); (· rfl); rw [h1]; simp only [Act.put, List.setIfInBounds_toArray, List.set_cons_zero, List.set_cons_succ]))
    go_ret
    exact ⟨rfl, rfl⟩
  · have h1 := hl2 hk
    ((try simp only [List.nil_append, List.append_nil] at hO); have hF := Own.cells hO; simp only [cellsOf_append, cellsOf_pt] at hF)
    clear hl hl2
    go_enter Tryz.func155, Tryz.ntmps155
    go_wp2_with (refine at_lookup ?_; go_must (refine own_lookup (kt := 3) (et := 205) (b := mb) (k := page) (l := l) (by kernel_rfl) (by kernel_rfl) zeroFP hO hM ?_ ?_ ?_ ?_; (· rfl); (· rfl); (· rfl); rw [h1]; simp only [Act.put, List.setIfInBounds_toArray, List.set_cons_zero, List.set_cons_succ]))
    go_ret
    exact ⟨rfl, rfl⟩
end Go.Proofs.YtkfkcloefgfkaaaGreat
