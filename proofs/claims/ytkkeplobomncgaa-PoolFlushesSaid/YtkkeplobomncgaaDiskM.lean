/- The disk as plain lists: raw writes, and what the four files hold behind them. -/
import Derived.Test.YtkkeplobomncgaaArm
set_option linter.all false
namespace Go.Dk
open Go.Own Go.RowKit

def upd {α : Type} (f : Nat → α) (k : Nat) (v : α) : Nat → α := fun i => if i = k then v else f i
theorem upd_same {α : Type} (f : Nat → α) (k : Nat) (v : α) : upd f k v k = v := by simp [upd]
theorem upd_ne {α : Type} (f : Nat → α) (k i : Nat) (v : α) (h : i ≠ k) : upd f k v i = f i := by simp [upd, h]

inductive Raw where
  | put (file at_ : Nat) (s : ByteArray)
  | trim (file size : Nat)

/-- The text s written over l from k on, with noughts in between. -/
def over (l : List UInt8) (k : Nat) (s : List UInt8) : List UInt8 :=
  (l ++ List.replicate (k + s.length - l.length) 0).take k ++ s ++ (l ++ List.replicate (k + s.length - l.length) 0).drop (k + s.length)

theorem over_length (l : List UInt8) (k : Nat) (s : List UInt8) : (over l k s).length = max l.length (k + s.length) := by
  simp only [over, List.length_append, List.length_take, List.length_drop, List.length_replicate]; omega

def Raw.app : Raw → (Nat → List UInt8) → (Nat → List UInt8)
  | .put k p s, f => upd f k (over (f k) p s.data.toList)
  | .trim k n, f => upd f k ((f k).take n)

def Raw.ok : Raw → (Nat → List UInt8) → Prop
  | .put k p s, _ => k < 4 ∧ p + s.size ≤ 4194304
  | .trim k n, f => k < 4 ∧ n ≤ (f k).length

def play (rs : List Raw) : Nat → List UInt8 := rs.foldl (fun f r => r.app f) (fun _ => [])
theorem play_nil : play [] = fun _ => [] := rfl
theorem play_snoc (rs : List Raw) (r : Raw) : play (rs ++ [r]) = r.app (play rs) := by simp [play]

/-- Each raw write could be done when it was done. -/
def OkL (rs : List Raw) : Prop := ∀ i (h : i < rs.length), (rs[i]).ok (play (rs.take i))
theorem okL_nil : OkL [] := fun i h => by simp at h
theorem okL_snoc {rs : List Raw} {r : Raw} (h : OkL rs) (hr : r.ok (play rs)) : OkL (rs ++ [r]) := by
  intro i hi
  by_cases hlt : i < rs.length
  · have := h i hlt
    rw [List.getElem_append_left hlt, List.take_append_of_le_length (by omega)]
    exact this
  · have he : i = rs.length := by simp at hi; omega
    subst he
    simpa using hr
theorem okL_take {rs : List Raw} (h : OkL rs) (n : Nat) : OkL (rs.take n) := by
  intro i hi
  have hi' : i < rs.length := by simp at hi; omega
  have hin : i < n := by simp at hi; omega
  have := h i hi'
  rw [List.getElem_take, List.take_take, Nat.min_eq_left (by omega)]
  exact this

theorem play_le {rs : List Raw} (h : OkL rs) : ∀ k, (play rs k).length ≤ 4194304 := by
  have : ∀ n, n ≤ rs.length → ∀ k, (play (rs.take n) k).length ≤ 4194304 := by
    intro n
    induction n with
    | zero => intro _ k; simp [play]
    | succ n ih =>
      intro hn k
      have hlt : n < rs.length := by omega
      rw [List.take_succ_eq_append_getElem hlt, play_snoc]
      have hok := h n hlt
      cases hr : rs[n] with
      | put f p s =>
        rw [hr] at hok
        obtain ⟨_, hs⟩ := hok
        simp only [Raw.app, upd]
        split
        · rw [over_length]
          have := ih (by omega) f
          have hsz : s.data.toList.length = s.size := by rw [Array.length_toList]; rfl
          omega
        · exact ih (by omega) k
      | trim f m =>
        simp only [Raw.app, upd]
        split
        · rw [List.length_take]; have := ih (by omega) f; omega
        · exact ih (by omega) k
  intro k
  have := this rs.length (Nat.le_refl _) k
  simpa using this

def rawV : Raw → Value
  | .put k p s => .iface 99 (.agg #[.int .i64 k, .int .i64 p, .string s])
  | .trim k n => .iface 101 (.agg #[.int .i64 k, .int .i64 n])
theorem rawV_one (r : Raw) : (rawV r).oneCell' = true := by cases r <;> rfl
theorem rawV_cells (r : Raw) : (rawV r).cells = #[rawV r] := by cases r <;> rfl

def dcells (s : Nat → Value) (rv : Value) : Array Value := #[.bool true, s 0, s 1, s 2, s 3, rv]
theorem dcells_size (s : Nat → Value) (rv : Value) : (dcells s rv).size = 6 := rfl
theorem dcells_0 (s : Nat → Value) (rv : Value) : (dcells s rv)[0]? = some (.bool true) := rfl
theorem dcells_5 (s : Nat → Value) (rv : Value) : (dcells s rv)[5]? = some rv := rfl
theorem dcells_get (s : Nat → Value) (rv : Value) (k : Nat) (h : k < 4) : (dcells s rv)[1 + k]? = some (s k) := by
  match k, h with
  | 0, _ | 1, _ | 2, _ | 3, _ => rfl
theorem dcells_set (s : Nat → Value) (rv v : Value) (k : Nat) (h : k < 4) : (dcells s rv).setIfInBounds (1 + k) v = dcells (upd s k v) rv := by
  match k, h with
  | 0, _ | 1, _ | 2, _ | 3, _ => simp [dcells, upd]
theorem dcells_set5 (s : Nat → Value) (rv v : Value) : (dcells s rv).setIfInBounds 5 v = dcells s v := by simp [dcells]

attribute [go_sem] dcells_0 dcells_5

def files (FA : Nat → Fr) : Fr := FA 0 ++ (FA 1 ++ (FA 2 ++ FA 3))
theorem files_pick (FA : Nat → Fr) (k : Nat) (h : k < 4) : (files FA).Perm (FA k ++ files (upd FA k [])) := by
  match k, h with
  | 0, _ => simp [files, upd]
  | 1, _ => simp only [files, upd]; simp; exact (List.perm_append_comm_assoc _ _ _)
  | 2, _ => simp only [files, upd]; simp; exact ((List.Perm.append_left _ (List.perm_append_comm_assoc _ _ _)).trans (List.perm_append_comm_assoc _ _ _))
  | 3, _ => simp only [files, upd]; simp; exact ((List.Perm.append_left _ (List.Perm.append_left _ (List.perm_append_comm))).trans ((List.Perm.append_left _ (List.perm_append_comm_assoc _ _ _)).trans (List.perm_append_comm_assoc _ _ _)))
theorem files_put (FA : Nat → Fr) (k : Nat) (h : k < 4) (B : Fr) : (B ++ files (upd FA k [])).Perm (files (upd FA k B)) := by
  have h1 := files_pick (upd FA k B) k h
  rw [upd_same] at h1
  have e : upd (upd FA k B) k [] = upd FA k [] := by funext i; simp only [upd]; split <;> rfl
  rw [e] at h1
  exact h1.symm

theorem Own_putFile {E w : World} {X B A' RA R S : Fr} {FA : Nat → Fr} {k : Nat} (hO : Own E w X) (hk : k < 4) [hp : Pick X (B ++ (A' ++ (files (upd FA k []) ++ (RA ++ R)))) S] :
    Own E w ((B ++ (files (upd FA k A') ++ RA)) ++ R) := by
  refine (hO.as (B ++ (A' ++ (files (upd FA k []) ++ (RA ++ R))))).perm ?_
  simp only [List.append_assoc]
  refine List.Perm.append_left _ ?_
  rw [← List.append_assoc]
  exact List.Perm.append_right _ (files_put FA k hk A')

def fileVs (fa : Nat → Option Addr) (f : Nat → List UInt8) (fc : Nat → Nat) : Nat → Value := fun k => .slice (fa k) (f k).length (fc k)

/-- The disk at block d holds what the raw writes rs leave; A is all that it has. -/
def DiskAt (d : Nat) (rs : List Raw) (A : Fr) : Prop := OkL rs ∧ ∃ (fa : Nat → Option Addr) (fc : Nat → Nat) (FA : Nat → Fr) (ra : Option Addr) (rc : Nat) (RA : Fr),
  A = pt d (.cells (dcells (fileVs fa (play rs) fc) (.slice ra rs.length rc)) 52 (0, 0)) ++ (files FA ++ RA) ∧
  (∀ k, k < 4 → Sl 5 1 (fa k) (play rs k).length (fc k) (bytesV (play rs k)) (FA k)) ∧ Sl 96 1 ra rs.length rc (rs.map rawV) RA

theorem DiskAt.step_trim {d : Nat} {rs : List Raw} {k n : Nat} {fa : Nat → Option Addr} {fc : Nat → Nat} {FA : Nat → Fr} {ra : Option Addr} {rc : Nat} {RA : Fr} (hok : OkL rs) (hr : (Raw.trim k n).ok (play rs))
    (hf : ∀ k, k < 4 → Sl 5 1 (fa k) (play rs k).length (fc k) (bytesV (play rs k)) (FA k)) (hS : Sl 96 1 ra (rs.length + 1) rc (rs.map rawV ++ [rawV (.trim k n)]) RA) :
    DiskAt d (rs ++ [.trim k n]) (pt d (.cells (dcells (upd (fileVs fa (play rs) fc) k (.slice (fa k) n (fc k))) (.slice ra (rs.length + 1) rc)) 52 (0, 0)) ++ (files FA ++ RA)) := by
  have hl : ((play rs k).take n).length = n := by rw [List.length_take]; have := hr.2; omega
  refine ⟨okL_snoc hok hr, fa, fc, FA, ra, rc, RA, ?_, ?_, by simpa using hS⟩
  · congr 3
    · congr 1
      · funext i
        simp only [fileVs, play_snoc, Raw.app, upd]
        split
        · rename_i h; subst h; rw [hl]
        · rfl
      · simp
  · intro i hi
    simp only [play_snoc, Raw.app, upd]
    split
    · rename_i h
      subst h
      have := (hf i hi).take n hr.2
      rw [Nat.mul_one, ← bytesV_take] at this
      rw [hl]; exact this
    · exact hf i hi

theorem DiskAt.step_put {d : Nat} {rs : List Raw} {k p : Nat} {t : ByteArray} {fa : Nat → Option Addr} {fc : Nat → Nat} {FA : Nat → Fr} {ra a' : Option Addr} {rc cap' : Nat} {RA A' : Fr} (hok : OkL rs) (hr : (Raw.put k p t).ok (play rs))
    (hf : ∀ k, k < 4 → Sl 5 1 (fa k) (play rs k).length (fc k) (bytesV (play rs k)) (FA k)) (hS : Sl 96 1 ra (rs.length + 1) rc (rs.map rawV ++ [rawV (.put k p t)]) RA)
    (hA' : Sl 5 1 a' (over (play rs k) p t.data.toList).length cap' (bytesV (over (play rs k) p t.data.toList)) A') :
    DiskAt d (rs ++ [.put k p t]) (pt d (.cells (dcells (upd (fileVs fa (play rs) fc) k (.slice a' (over (play rs k) p t.data.toList).length cap')) (.slice ra (rs.length + 1) rc)) 52 (0, 0)) ++ (files (upd FA k A') ++ RA)) := by
  refine ⟨okL_snoc hok hr, upd fa k a', upd fc k cap', upd FA k A', ra, rc, RA, ?_, ?_, by simpa using hS⟩
  · congr 3
    · congr 1
      · funext i
        simp only [fileVs, play_snoc, Raw.app, upd]
        split <;> rfl
      · simp
  · intro i hi
    simp only [play_snoc, Raw.app, upd]
    split
    · exact hA'
    · exact hf i hi

theorem DiskAt.given {E w : World} {X R A : Fr} {d : Nat} {rs : List Raw} (hA : DiskAt d rs A) (hO : Own E w X) [hp : Pick X A R] : w.cell? ⟨d, 0, none⟩ = some (.bool true) := by
  obtain ⟨hok, fa, fc, FA, ra, rc, RA, rfl, hf, hra⟩ := hA
  have h1 := hO.perm hp.perm
  rw [h1.cell (b := d)]; rfl
theorem DiskAt.rcell {E w : World} {X R A : Fr} {d : Nat} {rs : List Raw} (hA : DiskAt d rs A) (hO : Own E w X) [hp : Pick X A R] : ∃ ra rc, w.cell? ⟨d, 5, none⟩ = some (.slice ra rs.length rc) ∧ rc ≤ maxLen ∧ rs.length ≤ rc := by
  obtain ⟨hok, fa, fc, FA, ra, rc, RA, rfl, hf, hra⟩ := hA
  have h1 := hO.perm hp.perm
  exact ⟨ra, rc, by rw [h1.cell (b := d)]; rfl, hra.cap_le, hra.le⟩
theorem DiskAt.fcell {E w : World} {X R A : Fr} {d : Nat} {rs : List Raw} (hA : DiskAt d rs A) (hO : Own E w X) [hp : Pick X A R] (k : Nat) (hk : k < 4) :
    ∃ fa fc, w.cell? ⟨d, 1 + k, none⟩ = some (.slice fa (play rs k).length fc) ∧ (play rs k).length ≤ fc ∧ fc ≤ maxLen ∧ (∀ b, fa = some b → ∀ j v, (bytesV (play rs k))[j]? = some v → w.cell? (b.add j) = some v) ∧ (fa = none → fc = 0) := by
  obtain ⟨hok, fa, fc, FA, ra, rc, RA, rfl, hf, hra⟩ := hA
  have h1 := hO.perm hp.perm
  refine ⟨fa k, fc k, by rw [h1.cell (b := d), dcells_get _ _ _ hk]; rfl, (hf k hk).le, (hf k hk).cap_le, ?_, ?_⟩
  · intro b hb j v hj
    obtain ⟨hlt, hv⟩ := List.getElem?_eq_some_iff.1 hj
    rw [List.append_assoc, List.append_assoc] at h1
    have h2 := h1.right.perm (List.Perm.append_right _ (files_pick FA k hk))
    rw [List.append_assoc] at h2
    rw [(hf k hk).cell h2 b hb j hlt, hv]
  · intro hn
    rcases (hf k hk).2.2.2 with ⟨_, hc, _⟩ | ⟨b, _, hb, _⟩
    · exact hc
    · rw [hn] at hb; cases hb

/-- Is there such a file? -/
def fileOk (n : Int) : Bool := decide (0 ≤ n) && decide (n < 4)
theorem fileOk_of {n : Int} (h : fileOk n = true) : ∃ k : Nat, n = k ∧ k < 4 := by
  simp [fileOk] at h
  exact ⟨n.toNat, by omega, by omega⟩

end Go.Dk
