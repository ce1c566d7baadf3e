/- The walk's laws for slices, strings and bytes over 'Own'. -/
import Derived.Test.YtnfclieaendgeaaSl
set_option linter.all false
namespace Go.Own
open Go.RowKit

structure SlT (P : Program) (t e : TypeId) (sz bytes : Nat) (z : Value) : Prop where
  und : P.underlying t = some (.slice e)
  info : (P.info? e).map (fun i => (i.zero, i.size, i.bytes)) = some (some z, sz, bytes)
  zs : z.cells.size = sz

theorem SlT.parts {P : Program} {t e : TypeId} {sz bytes : Nat} {z : Value} (h : SlT P t e sz bytes z) : ∃ i, P.info? e = some i ∧ i.zero = some z ∧ i.size = sz ∧ i.bytes = bytes := by
  have hi := h.info
  cases hh : P.info? e with
  | none => rw [hh] at hi; simp at hi
  | some i => rw [hh] at hi; simp at hi; exact ⟨i, rfl, hi⟩

theorem SlT.size {P : Program} {t e : TypeId} {sz bytes : Nat} {z : Value} (h : SlT P t e sz bytes z) (w : World) : (sizeOf e).run P w = .ok sz w := by
  obtain ⟨i, hi, _, hs, _⟩ := h.parts
  simp [sizeOf, typeInfo, hi, hs]

def byteV (c : UInt8) : Value := .int .u8 c.toNat
def bytesV (l : List UInt8) : List Value := l.map byteV
theorem bytes_cells (s : ByteArray) : (Array.map (fun b : UInt8 => Value.int .u8 b.toNat) s.data) = (bytesV s.data.toList).toArray := by
  apply Array.ext'; simp only [Array.toList_map, bytesV]; rfl
theorem bytesV_length (l : List UInt8) : (bytesV l).length = l.length := by simp [bytesV]
theorem bytesV_append (l m : List UInt8) : bytesV (l ++ m) = bytesV l ++ bytesV m := by simp [bytesV]
theorem bytesV_take (l : List UInt8) (n : Nat) : bytesV (l.take n) = (bytesV l).take n := by simp [bytesV, List.map_take]
theorem bytesV_drop (l : List UInt8) (n : Nat) : bytesV (l.drop n) = (bytesV l).drop n := by simp [bytesV, List.map_drop]
theorem bytesV_one (l : List UInt8) : ∀ u ∈ bytesV l, u.oneCell' = true := by
  intro u hu
  obtain ⟨c, _, rfl⟩ := List.mem_map.1 hu
  rfl

theorem zeroCells_byte (m : Nat) : (Builtin.zeroCells (Value.cells (.int .u8 0)) m).toList = bytesV (List.replicate m 0) := by
  simp only [Builtin.zeroCells, Value.cells]
  apply List.ext_getElem
  · simp [bytesV_length]
  · intro i h1 h2
    simp [bytesV, byteV, Nat.mod_one]

section laws
variable {P : Program} {ops : Array Oper} {Q : Exit → Act → World → Prop} {rest : List Oper} {a : Act} {E w : World} {X A R : Fr} {d : Option Tmp} {ty : TypeId} {pos : String} {aft : Array Edge} {g : Option (Nat × Bool)}

theorem execOp_append (ρ : Operand → Value) (x y : Operand) (ats : Array TypeId) :
    execOp ρ ⟨d, .call { callee := .builtin .append, args := #[x, y], argTypes := ats }, ty, pos, aft, g⟩ = (do pure (.value (← Builtin.append_ ats ty #[ρ x, ρ y]))) := by
  simp [execOp, resolve, invoke, builtin]
theorem execOp_copy (ρ : Operand → Value) (x y : Operand) (ats : Array TypeId) :
    execOp ρ ⟨d, .call { callee := .builtin .copy, args := #[x, y], argTypes := ats }, ty, pos, aft, g⟩ = (do pure (.value (← Builtin.copy_ ats ty #[ρ x, ρ y]))) := by
  simp [execOp, resolve, invoke, builtin]

theorem own_appendG {t tx e : TypeId} {sz bytes : Nat} {z : Value} {s x : Operand} {sa : Option Addr} {n cap m : Nat} {xv : Value} {xs news : List Value} (hT : SlT P t e sz bytes z)
    (htx : P.underlying tx = some (.slice e) ∨ P.underlying tx = some .string) (hO : Own E w X)
    (hw : Region.wanted ⟨d, .call { callee := .builtin .append, args := #[s, x], argTypes := #[t, tx] }, ty, pos, aft, g⟩ (yielded ops a.tmps) = true)
    (hs : a.eval s = .slice sa n cap) (hx : a.eval x = xv) (hv : Sl e sz sa n cap xs A) [hp : Pick X A R]
    (hlen : ∀ w, (Builtin.lenOf xv).run P w = .ok m w) (hnews : ∀ w', Own E w' X → (Builtin.firstCells sz m xv).run P w' = .ok news.toArray w')
    (hl : news.length = m * sz) (h1 : ∀ u ∈ news, u.oneCell' = true) (h63 : n + m ≤ maxLen) (hb : cap < n + m → Builtin.nextslicecap (n + m) cap * bytes ≤ 281474976710656)
    (next : ∀ a' cap' A' w1, Sl e sz a' (n + m) cap' (xs ++ news) A' → Own E w1 (A' ++ R) → wpList P ops Q rest (a.put d (.slice a' (n + m) cap')) w1) :
    wpList P ops Q (⟨d, .call { callee := .builtin .append, args := #[s, x], argTypes := #[t, tx] }, ty, pos, aft, g⟩ :: rest) a w := by
  obtain ⟨i, hi, hz, hsz, hby⟩ := hT.parts
  obtain ⟨a', cap', A', w1, hr, hS, hO1⟩ := run_append_slG (ty := ty) t tx i z hT.und hi hz hsz hby hT.zs htx hO hv xv m news hlen hnews hl h1 h63 hb
  refine wpList_run_value hw ?_ (next a' cap' A' w1 hS hO1)
  rw [execOp_append, hs, hx]
  simp [hr]

theorem own_append {t tx e : TypeId} {sz bytes : Nat} {z : Value} {s x : Operand} {sa : Option Addr} {n cap m : Nat} {xv : Value} {xs news : List Value} (hT : SlT P t e sz bytes z)
    (htx : P.underlying tx = some (.slice e) ∨ P.underlying tx = some .string) (hO : Own E w X)
    (hw : Region.wanted ⟨d, .call { callee := .builtin .append, args := #[s, x], argTypes := #[t, tx] }, ty, pos, aft, g⟩ (yielded ops a.tmps) = true)
    (hs : a.eval s = .slice sa n cap) (hx : a.eval x = xv) (hv : Sl e sz sa n cap xs A) [hp : Pick X A R]
    (hlen : ∀ w, (Builtin.lenOf xv).run P w = .ok m w) (hnews : ∀ w', Own E w' X → (Builtin.firstCells sz m xv).run P w' = .ok news.toArray w')
    (hl : news.length = m * sz) (h1 : ∀ u ∈ news, u.oneCell' = true) (h63 : n + m ≤ maxLen) (hb : (n + m) * bytes ≤ 140737488355328 ∨ (m = 1 ∧ n * bytes ≤ 140737488355328 ∧ bytes ≤ 281474976710656))
    (next : ∀ a' cap' A' w1, Sl e sz a' (n + m) cap' (xs ++ news) A' → Own E w1 (A' ++ R) → wpList P ops Q rest (a.put d (.slice a' (n + m) cap')) w1) :
    wpList P ops Q (⟨d, .call { callee := .builtin .append, args := #[s, x], argTypes := #[t, tx] }, ty, pos, aft, g⟩ :: rest) a w := by
  obtain ⟨i, hi, hz, hsz, hby⟩ := hT.parts
  obtain ⟨a', cap', A', w1, hr, hS, hO1⟩ := run_append_sl (ty := ty) t tx i z hT.und hi hz hsz hby hT.zs htx hO hv xv m news hlen hnews hl h1 h63 hb
  refine wpList_run_value hw ?_ (next a' cap' A' w1 hS hO1)
  rw [execOp_append, hs, hx]
  simp [hr]

/-- append of one element out of a slice of one element that was just built. -/
theorem own_append_elem {b1 : Nat} {cs : Array Value} {e1 : TypeId} {f1 : Nat × Nat} {t e : TypeId} {sz bytes : Nat} {z : Value} {s x : Operand} {sa : Option Addr} {n cap : Nat} {xs : List Value} (hT : SlT P t e sz bytes z) (hO : Own E w X)
    (hw : Region.wanted ⟨d, .call { callee := .builtin .append, args := #[s, x], argTypes := #[t, t] }, ty, pos, aft, g⟩ (yielded ops a.tmps) = true)
    (hs : a.eval s = .slice sa n cap) (hx : a.eval x = .slice (some ⟨b1, 0, none⟩) 1 1) (hv : Sl e sz sa n cap xs A) [hp : Pick X A R] (hh : Has X b1 (.cells cs e1 f1))
    (hl : cs.size = sz) (h1 : ∀ u ∈ cs.toList, u.oneCell' = true) (hb : n * bytes ≤ 140737488355328) (hby : bytes ≤ 281474976710656) (h63 : n < maxLen)
    (next : ∀ a' cap' A' w1, Sl e sz a' (n + 1) cap' (xs ++ cs.toList) A' → Own E w1 (A' ++ R) → wpList P ops Q rest (a.put d (.slice a' (n + 1) cap')) w1) :
    wpList P ops Q (⟨d, .call { callee := .builtin .append, args := #[s, x], argTypes := #[t, t] }, ty, pos, aft, g⟩ :: rest) a w := by
  refine own_append (xv := .slice (some ⟨b1, 0, none⟩) 1 1) (m := 1) (news := cs.toList) hT (.inl hT.und) hO hw hs hx hv (fun w => by simp [Builtin.lenOf]) ?_ (by simp [hl]) h1 (by omega) (.inr ⟨rfl, hb, hby⟩) next
  intro w' hO'
  refine run_firstCells_some w' sz 1 ⟨b1, 0, none⟩ 1 1 cs.toList (by simp [hl]) ?_
  intro j v hj
  rw [add_lit, hO'.cell (b := b1)]
  simpa using hj

theorem own_append_zeros {t tx e : TypeId} {xi : Int} {sz bytes : Nat} {z : Value} {s x : Operand} {sa : Option Addr} {n cap m : Nat} {xs : List Value} (hT : SlT P t e sz bytes z) (htx : P.underlying tx = some (.int .i64)) (hO : Own E w X)
    (hw : Region.wanted ⟨d, .call { callee := .builtin .append, args := #[s, x], argTypes := #[t, tx] }, ty, pos, aft, g⟩ (yielded ops a.tmps) = true)
    (hs : a.eval s = .slice sa n cap) (hx : a.eval x = .int .i64 xi) (hxm : xi = m) (hv : Sl e sz sa n cap xs A) [hp : Pick X A R]
    (h1 : ∀ u ∈ z.cells.toList, u.oneCell' = true) (h63 : n + m ≤ maxLen) (hbp : 0 < bytes) (hb : (n + m) * bytes ≤ 140737488355328)
    (next : ∀ a' cap' A' w1, Sl e sz a' (n + m) cap' (xs ++ (Builtin.zeroCells z.cells m).toList) A' → Own E w1 (A' ++ R) → wpList P ops Q rest (a.put d (.slice a' (n + m) cap')) w1) :
    wpList P ops Q (⟨d, .call { callee := .builtin .append, args := #[s, x], argTypes := #[t, tx] }, ty, pos, aft, g⟩ :: rest) a w := by
  obtain ⟨i, hi, hz, hsz, hby⟩ := hT.parts
  subst hxm
  obtain ⟨a', cap', A', w1, hr, hS, hO1⟩ := run_append_zeros (ty := ty) t tx i z hT.und hi hz hsz hby hT.zs htx hO hv m h1 h63 hbp hb
  refine wpList_run_value hw ?_ (next a' cap' A' w1 hS hO1)
  rw [execOp_append, hs, hx]
  simp [hr]

theorem fill_one (place : Nat → Option (Nat × Nat)) (cells v : Array Value) (hp : place 0 = some (0, v.size)) (hs : cells.size = v.size) (u : Value) (hu : u.cells = v) :
    Instr.fill place cells [(0, u)] = some v := by
  simp only [Instr.fill, hp, hu]
  rw [if_neg (by simp; omega)]
  congr 1
  have key : ∀ (l : List Value) (pre post : List Value), l.length ≤ post.length →
      (l.zipIdx pre.length).foldl (fun cs (c, j) => cs.setIfInBounds (0 + j) c) (pre ++ post).toArray = (pre ++ l ++ post.drop l.length).toArray := by
    intro l
    induction l with
    | nil => intro pre post _; simp
    | cons c l ih =>
      intro pre post h
      match post, h with
      | p :: post, h =>
        have := ih (pre ++ [c]) post (by simpa using h)
        simp only [List.zipIdx_cons, List.foldl_cons]
        rw [show ((pre ++ p :: post).toArray.setIfInBounds (0 + pre.length) c) = ((pre ++ [c]) ++ post).toArray by simp]
        rw [show pre.length + 1 = (pre ++ [c]).length by simp, this]
        simp
  have hk := key v.toList [] cells.toList (by simp [hs])
  rw [← Array.foldl_toList, Array.toList_zipIdx]
  simp only [List.nil_append, List.length_nil, Array.toArray_toList] at hk
  rw [hk, List.drop_of_length_le (by simp; omega)]
  simp

/-- a slice of one element, built in place. -/
theorem own_build1 {t e : TypeId} {sz bytes : Nat} {z : Value} {x : Operand} {v : Value} (hT : SlT P t e sz bytes z) (hO : Own E w X)
    (hw : Region.wanted ⟨d, .buildSlice t 1 #[(0, x)], ty, pos, aft, g⟩ (yielded ops a.tmps) = true) (hx : a.eval x = v) (hv : v.cells.size = sz) (h0 : 0 < sz) (h24 : sz ≤ 16777216)
    (next : ∀ b w1, Own E w1 (pt b (.cells v.cells e) ++ X) → wpList P ops Q rest (a.put d (.slice (some ⟨b, 0, none⟩) 1 1)) w1) :
    wpList P ops Q (⟨d, .buildSlice t 1 #[(0, x)], ty, pos, aft, g⟩ :: rest) a w := by
  obtain ⟨i, hi, hz, hsz, hby⟩ := hT.parts
  refine wpList_run_value hw ?_ (next _ _ (hO.alloc _))
  have hne : sz ≠ 0 := by omega
  have hbig : ¬ (16777216 < sz) := by omega
  have hf : ∀ cells : Array Value, cells.size = sz → Instr.fill (fun i => some (i * sz, sz)) cells [(0, v)] = some v.cells := fun cells hc => fill_one _ _ _ (by simp [hv]) (by omega) v rfl
  simp [execOp, Instr.buildSlice, run_underlying hT.und, sizeOf, typeInfo, zeroValue, hi, hz, hsz, hx, hne, hbig, newRow]
  rw [hf _ (by simp)]
  simp

/-- a slice of several one-cell elements, built in place. -/
theorem own_buildN {t e : TypeId} {bytes k : Nat} {z : Value} {ps : Array (Nat × Operand)} {cells : Array Value} (hT : SlT P t e 1 bytes z) (hO : Own E w X)
    (hw : Region.wanted ⟨d, .buildSlice t k ps, ty, pos, aft, g⟩ (yielded ops a.tmps) = true) (h24 : k ≤ 16777216) (h0 : 0 < k) (hzz : z.cells = #[z])
    (hf : Instr.fill (fun i => some (i, 1)) (Array.replicate k z) (ps.toList.map fun p => (p.1, a.eval p.2)) = some cells)
    (next : ∀ b w1, Own E w1 (pt b (.cells cells e) ++ X) → wpList P ops Q rest (a.put d (.slice (some ⟨b, 0, none⟩) k k)) w1) :
    wpList P ops Q (⟨d, .buildSlice t k ps, ty, pos, aft, g⟩ :: rest) a w := by
  obtain ⟨i, hi, hz, hsz, hby⟩ := hT.parts
  refine wpList_run_value hw ?_ (next _ _ (hO.alloc _))
  have hbig : ¬ (16777216 < k) := by omega
  have hne : k ≠ 0 := by omega
  have hrow : (Array.range k).map (fun i => [z][i % 1]?.getD default) = Array.replicate k z := by
    apply Array.ext
    · simp
    · intro j h1 h2; simp [Nat.mod_one]
  simp [execOp, Instr.buildSlice, run_underlying hT.und, sizeOf, typeInfo, zeroValue, hi, hz, hsz, hbig, hne, newRow, hzz]
  rw [hrow, hf]
  simp

/-- copy of a string into a slice of ours, from l on. -/
theorem own_copy_str {t tx e : TypeId} {bytes : Nat} {z : Value} {dx sx : Operand} {sa da : Option Addr} {n cap dn dc l : Nat} {s : ByteArray} {xs : List Value} (hT : SlT P t e 1 bytes z) (hO : Own E w X)
    (hw : Region.wanted ⟨d, .call { callee := .builtin .copy, args := #[dx, sx], argTypes := #[t, tx] }, ty, pos, aft, g⟩ (yielded ops a.tmps) = true)
    (hd : a.eval dx = .slice da dn dc) (hs : a.eval sx = .string s) (hv : Sl e 1 sa n cap xs A) [hp : Pick X A R]
    (hda : 0 < s.size → da = sa.map (·.add l)) (hn : s.size ≤ dn) (hl : l + s.size ≤ n)
    (next : ∀ A' w1, Sl e 1 sa n cap (xs.take l ++ bytesV s.data.toList ++ xs.drop (l + s.size)) A' → Own E w1 (A' ++ R) → wpList P ops Q rest (a.put d (.int .i64 s.size)) w1) :
    wpList P ops Q (⟨d, .call { callee := .builtin .copy, args := #[dx, sx], argTypes := #[t, tx] }, ty, pos, aft, g⟩ :: rest) a w := by
  have hO1 : Own E w (A ++ R) := hO.perm hp.perm
  have hxl : xs.length = n := by rw [hv.1]; simp
  have hmin : Nat.min s.size dn = s.size := Nat.min_eq_left hn
  have hsz : s.data.toList.length = s.size := by rw [Array.length_toList]; rfl
  have hcells : List.take s.size (List.map (fun b : UInt8 => Value.int .u8 b.toNat) s.data.toList) = bytesV s.data.toList := by
    rw [List.take_of_length_le (by rw [List.length_map, hsz]; omega)]; rfl
  obtain ⟨A', w1, hr, hS, hO2⟩ : ∃ A' w1, (Builtin.copy_ #[t, tx] ty #[.slice da dn dc, .string s]).run P w = .ok (.int .i64 s.size) w1 ∧
      Sl e 1 sa n cap (xs.take l ++ bytesV s.data.toList ++ xs.drop (l + s.size)) A' ∧ Own E w1 (A' ++ R) := by
    by_cases h0 : s.size = 0
    · have hb : bytesV s.data.toList = [] := List.eq_nil_of_length_eq_zero (by rw [bytesV_length, hsz, h0])
      refine ⟨A, w, ?_, ?_, hO1⟩
      · cases da with
        | none => simp [Builtin.copy_, run_underlying hT.und, Builtin.lenOf, Builtin.firstCells, hT.size, h0, goInt]
        | some b => simp [Builtin.copy_, run_underlying hT.und, Builtin.lenOf, Builtin.firstCells, hT.size, h0, goInt, storeCells]
      · rw [hb, h0, Nat.add_zero, List.append_nil, List.take_append_drop]; exact hv
    · have hda' := hda (by omega)
      rcases hv.2.2.2 with ⟨ha, hc, hA⟩ | ⟨b, rst, ha, hl4, hA⟩
      · have := hv.2.1; omega
      · subst ha hA
        simp only [Option.map_some, add_lit, Nat.zero_add] at hda'
        have hll : (bytesV s.data.toList).length = s.size := by rw [bytesV_length, hsz]
        obtain ⟨w1, hst, hO2⟩ := run_storeCells_own (P := P) (b := b) (off := l) (e := e) (bytesV s.data.toList) 0 (xs ++ rst).toArray w _ R hO1 inferInstance (bytesV_one _) (by
          simp only [List.size_toArray, List.length_append, hll]; omega)
        have hsp : splice (xs ++ rst).toArray (l + 0) (bytesV s.data.toList) = ((xs.take l ++ bytesV s.data.toList ++ xs.drop (l + s.size)) ++ rst).toArray := by
          have hpre : (xs.take l).length = l := by rw [List.length_take]; omega
          have := splice_append (bytesV s.data.toList) (xs.take l) (xs.drop l ++ rst) (by simp only [List.length_append, List.length_drop, hll]; omega)
          rw [← List.append_assoc, List.take_append_drop, hpre] at this
          rw [Nat.add_zero, this, hll, List.drop_append_of_le_length (by rw [List.length_drop]; omega), List.drop_drop]
          simp [List.append_assoc]
        rw [hsp] at hO2
        refine ⟨_, w1, ?_, ⟨?_, hv.2.1, hv.2.2.1, .inr ⟨b, rst, rfl, ?_, rfl⟩⟩, hO2⟩
        · subst hda'
          simp only [Builtin.copy_]
          have hm : min s.size dn = s.size := hmin
          simp [run_underlying hT.und, Builtin.lenOf, Builtin.firstCells, hT.size, hm, goInt]
          rw [hcells, hst]; simp
        · simp only [List.length_append, List.length_take, List.length_drop, hll]; omega
        · rw [← hl4]; simp only [List.length_append, List.length_take, List.length_drop, hll]; omega
  refine wpList_run_value hw ?_ (next A' w1 hS hO2)
  rw [execOp_copy, hd, hs]
  simp [hr]

theorem forIn_bytes {w : World} (f : Value → ByteArray → Sem (ForInStep ByteArray))
    (hf : ∀ (n : Int) (r : ByteArray), (f (.int .u8 n) r).run P w = .ok (.yield (r.push (UInt8.ofNat n.toNat))) w) (l : List UInt8) (s : ByteArray) :
    (forIn (bytesV l) s f).run P w = .ok ⟨s.data ++ l.toArray⟩ w := by
  induction l generalizing s with
  | nil => simp [bytesV]
  | cons c l ih =>
    simp only [bytesV, List.map_cons, List.forIn_cons, Sem.run_bind, byteV, hf, Result.andThen]
    have := ih (s.push (UInt8.ofNat (c.toNat : Int).toNat))
    simp only [bytesV] at this
    refine Eq.trans this ?_
    congr 1
    simp [ByteArray.push]

theorem run_bytes_str {w : World} {src dst e : TypeId} (hs : P.underlying src = some (.slice e)) (he : P.underlying e = some (.int .u8)) (hd : P.underlying dst = some .string) {ad : Option Addr} {n cap : Nat} {l : List UInt8}
    (hn : l.length = n) (hc : ∀ b, ad = some b → ∀ j v, (bytesV l)[j]? = some v → w.cell? (b.add j) = some v) (h0 : ad = none → n = 0) :
    (convert src dst (.slice ad n cap)).run P w = .ok (.string ⟨l.toArray⟩) w := by
  rw [run_convert_bytes_string w src dst e _ n cap hs he hd]
  cases ad with
  | none =>
    have hl : l = [] := List.eq_nil_of_length_eq_zero (by rw [hn, h0 rfl])
    subst hl
    simp [Conv.bytesToString]; rfl
  | some b =>
    have hl := run_loadCells_list (P := P) w b (bytesV l) (hc b rfl)
    rw [bytesV_length, hn] at hl
    unfold Conv.bytesToString
    simp only [Sem.run_bind, hl, Result.andThen, List.forIn_toArray]
    rw [forIn_bytes _ (by intro n r; simp [Sem.run_pure])]
    simp [Sem.run_pure]

theorem add_add (b : Addr) (i j : Nat) : (b.add i).add j = b.add (i + j) := by
  unfold Addr.add
  by_cases hi : i = 0 <;> by_cases hj : j = 0 <;> simp [hi, hj, Nat.add_assoc]

theorem own_bytes_str {src dst e : TypeId} {x : Operand} {ad : Option Addr} {n cap : Nat} {l : List UInt8} (hs : P.underlying src = some (.slice e)) (he : P.underlying e = some (.int .u8)) (hd : P.underlying dst = some .string)
    (hw : Region.wanted ⟨d, .convert src dst x, ty, pos, aft, g⟩ (yielded ops a.tmps) = true) (hx : a.eval x = .slice ad n cap)
    (hn : l.length = n) (hc : ∀ b, ad = some b → ∀ j v, (bytesV l)[j]? = some v → w.cell? (b.add j) = some v) (h0 : ad = none → n = 0)
    (next : wpList P ops Q rest (a.put d (.string ⟨l.toArray⟩)) w) :
    wpList P ops Q (⟨d, .convert src dst x, ty, pos, aft, g⟩ :: rest) a w := by
  refine wpList_run_value hw ?_ next
  simp [execOp, hx, run_bytes_str hs he hd hn hc h0]

/-- a whole struct (or array) is loaded. -/
theorem own_loadS {t : TypeId} {x : Operand} {b : Nat} {cs : Array Value} {e : TypeId} {f : Nat × Nat} (hO : Own E w X) (hw : Region.wanted ⟨d, .load t x, ty, pos, aft, g⟩ (yielded ops a.tmps) = true)
    (hx : a.eval x = .pointer (some ⟨b, 0, none⟩)) (hh : Has X b (.cells cs e f)) (ht : (isAgg t).run P w = .ok true w) (hs : (sizeOf t).run P w = .ok cs.size w)
    (next : wpList P ops Q rest (a.put d (.agg cs)) w) : wpList P ops Q (⟨d, .load t x, ty, pos, aft, g⟩ :: rest) a w := by
  refine wpList_run_value hw ?_ next
  have hl := run_loadCells_list (P := P) w ⟨b, 0, none⟩ cs.toList (by
    intro j v hj
    rw [add_lit, hO.cell (b := b)]
    simpa using hj)
  rw [Array.length_toList] at hl
  simp [execOp, Instr.loadAt, Instr.sureAddr, hx, loadVar, ht, hs, hl]

theorem splice_all (cs : Array Value) (vs : List Value) (h : vs.length = cs.size) : splice cs 0 vs = vs.toArray := by
  have := splice_append vs [] cs.toList (by simp [h])
  simp only [List.nil_append, List.length_nil, Array.toArray_toList] at this
  rw [this, List.drop_of_length_le (by simp [h])]
  simp

/-- a whole struct (or array) is stored. -/
theorem own_storeS {t : TypeId} {x y : Operand} {b : Nat} {cs cs' : Array Value} {e : TypeId} (hO : Own E w X) (hw : Region.wanted ⟨d, .store t x y, ty, pos, aft, g⟩ (yielded ops a.tmps) = true)
    (hx : a.eval x = .pointer (some ⟨b, 0, none⟩)) (hy : a.eval y = .agg cs') (hp : PickPt X b (.cells cs e (0, 0)) R)
    (hs : (sizeOf t).run P w = .ok cs'.size w) (h1 : ∀ u ∈ cs'.toList, u.oneCell' = true) (hl : cs'.size = cs.size)
    (next : ∀ w1, Own E w1 (pt b (.cells cs' e (0, 0)) ++ R) → wpList P ops Q rest (a.put d undef) w1) :
    wpList P ops Q (⟨d, .store t x y, ty, pos, aft, g⟩ :: rest) a w := by
  refine own_store (v := .agg cs') (b := b) (off := 0) (cs := cs) (e := e) (R := R) hO hw hx hy hs h1 (by simp [Value.cells, hl]) ?_
  intro w1 hO1
  simp only [Value.cells] at hO1
  rw [splice_all _ _ (by simp [hl])] at hO1
  exact next w1 (by simpa using hO1)
end laws

theorem cut_cells {w : World} {F : List UInt8} {fa : Option Addr} {fc p m : Nat} (hcell : ∀ b, fa = some b → ∀ j v, (bytesV F)[j]? = some v → w.cell? (b.add j) = some v) (hp : p + m ≤ F.length) (hfc : F.length ≤ fc) :
    ∀ b, (if fc = p then fa else Option.map (fun x => x.add p) fa) = some b → ∀ j v, (bytesV ((F.drop p).take m))[j]? = some v → w.cell? (b.add j) = some v := by
  intro b hb j v hj
  rw [bytesV_take, bytesV_drop] at hj
  have hjm : j < m := by
    rcases Nat.lt_or_ge j m with h | h
    · exact h
    · rw [List.getElem?_eq_none (by rw [List.length_take]; omega)] at hj; cases hj
  rw [List.getElem?_take_of_lt hjm, List.getElem?_drop] at hj
  rw [if_neg (by omega)] at hb
  cases fa with
  | none => cases hb
  | some b0 =>
    simp at hb
    subst hb
    rw [add_add]
    exact hcell b0 rfl _ _ hj
theorem cut_none {fa : Option Addr} {fc p m : Nat} (hnil : fa = none → fc = 0) (hp : p + m ≤ fc) :
    (if fc = p then fa else Option.map (fun x => x.add p) fa) = none → m = 0 := by
  intro h
  split at h
  · omega
  · simp at h
    have := hnil h
    omega
end Go.Own
