/- A heap as a function of the places: what 'down' makes, in plain Lean. -/
import Derived.Test.YtnfclieaendgeaaOwn
set_option linter.all false
namespace Go.Hp

section
variable {α : Type}
def swp (f : Nat → α) (i j : Nat) : Nat → α := fun k => if k = i then f j else if k = j then f i else f k
theorem swp_i (f : Nat → α) (i j : Nat) : swp f i j i = f j := by simp [swp]
theorem swp_j (f : Nat → α) (i j : Nat) : swp f i j j = f i := by
  unfold swp
  by_cases h : j = i
  · rw [if_pos h, h]
  · rw [if_neg h, if_pos rfl]
theorem swp_o (f : Nat → α) (i j k : Nat) (h1 : k ≠ i) (h2 : k ≠ j) : swp f i j k = f k := by simp [swp, h1, h2]

/-- A sum over the places below n. -/
def tot (g : Nat → Nat) : Nat → Nat
  | 0 => 0
  | n + 1 => tot g n + g n
theorem tot_congr {g h : Nat → Nat} : ∀ {n : Nat}, (∀ k, k < n → g k = h k) → tot g n = tot h n
  | 0, _ => rfl
  | n + 1, H => by rw [tot, tot, tot_congr (fun k hk => H k (by omega)), H n (by omega)]
theorem tot_set (g : Nat → Nat) (i v : Nat) : ∀ (n : Nat), i < n → tot (fun k => if k = i then v else g k) n + g i = tot g n + v
  | 0, h => by omega
  | n + 1, h => by
    simp only [tot]
    by_cases hi : i = n
    · subst hi
      rw [if_pos rfl, tot_congr (g := fun k => if k = i then v else g k) (h := g) (fun k hk => if_neg (by omega))]
      omega
    · have := tot_set g i v n (by omega)
      rw [if_neg (Ne.symm hi)]
      omega
theorem tot_swp (m : α → Nat) (f : Nat → α) (i j n : Nat) (hi : i < n) (hj : j < n) : tot (fun k => m (swp f i j k)) n = tot (fun k => m (f k)) n := by
  have e : (fun k => m (swp f i j k)) = fun k => if k = i then m (f j) else (if k = j then m (f i) else m (f k)) := by
    funext k
    unfold swp
    split
    · rfl
    · split <;> rfl
  rw [e]
  have h1 := tot_set (fun k => if k = j then m (f i) else m (f k)) i (m (f j)) n hi
  have h2 := tot_set (fun k => m (f k)) j (m (f i)) n hj
  by_cases hij : i = j
  · subst hij
    rw [if_pos rfl] at h1
    omega
  · rw [if_neg hij] at h1
    omega

variable (le : α → α → Prop)
/-- From s on each is at most its children, below n; but for the one at x. -/
def Hpx (f : Nat → α) (s n x : Nat) : Prop :=
  (∀ p c, s ≤ p → p ≠ x → (c = 2 * p + 1 ∨ c = 2 * p + 2) → c < n → le (f p) (f c)) ∧
  (∀ p c, s ≤ p → (x = 2 * p + 1 ∨ x = 2 * p + 2) → (c = 2 * x + 1 ∨ c = 2 * x + 2) → c < n → le (f p) (f c))
def Hp (f : Nat → α) (s n : Nat) : Prop := ∀ p c, s ≤ p → (c = 2 * p + 1 ∨ c = 2 * p + 2) → c < n → le (f p) (f c)
variable {le}
theorem Hpx.start {f : Nat → α} {s n : Nat} (h : Hp le f (s + 1) n) : Hpx le f s n s :=
  ⟨fun p c h1 h2 h3 h4 => h p c (by omega) h3 h4, fun p c h1 h2 h3 h4 => absurd h1 (by omega)⟩
theorem Hpx.stop {f : Nat → α} {s n x : Nat} (h : Hpx le f s n x) (hx : ∀ c, (c = 2 * x + 1 ∨ c = 2 * x + 2) → c < n → le (f x) (f c)) : Hp le f s n := by
  intro p c h1 h2 h3
  by_cases hp : p = x
  · subst hp
    exact hx c h2 h3
  · exact h.1 p c h1 hp h2 h3
theorem Hpx.step {f : Nat → α} {s n x j : Nat} (h : Hpx le f s n x) (hs : s ≤ x) (hj : j = 2 * x + 1 ∨ j = 2 * x + 2) (hjn : j < n) (hjx : le (f j) (f x)) (hjo : ∀ c, (c = 2 * x + 1 ∨ c = 2 * x + 2) → c < n → le (f j) (f c)) :
    Hpx le (swp f x j) s n j := by
  have hne : j ≠ x := by omega
  refine ⟨fun p c h1 h2 h3 h4 => ?_, fun p c h1 h2 h3 h4 => ?_⟩
  · by_cases hp : p = x
    · subst hp
      rw [swp_i]
      by_cases hc : c = j
      · subst hc
        rw [swp_j]
        exact hjx
      · rw [swp_o _ _ _ _ (by omega) hc]
        exact hjo c h3 h4
    · rw [swp_o _ _ _ _ hp h2]
      by_cases hc : c = x
      · subst hc
        rw [swp_i]
        exact h.2 p j h1 h3 hj hjn
      · rw [swp_o _ _ _ _ hc (by omega)]
        exact h.1 p c h1 hp h3 h4
  · have hp : p = x := by omega
    subst hp
    rw [swp_i, swp_o _ _ _ _ (by omega) (by omega)]
    exact h.1 j c (by omega) hne h3 h4
/-- The root is at most all. -/
theorem Hp.root {f : Nat → α} {n : Nat} (h : Hp le f 0 n) (hr : ∀ a, le a a) (ht : ∀ a b c, le a b → le b c → le a c) : ∀ k, k < n → le (f 0) (f k) := by
  intro k
  induction k using Nat.strongRecOn with
  | ind k ih =>
    intro hk
    by_cases h0 : k = 0
    · subst h0
      exact hr _
    · refine ht _ _ _ (ih ((k - 1) / 2) (by omega) (by omega)) (h ((k - 1) / 2) k (Nat.zero_le _) (by omega) hk)
theorem Hp.less {f : Nat → α} {s n m : Nat} (h : Hp le f s n) (hm : m ≤ n) : Hp le f s m := fun p c h1 h2 h3 => h p c h1 h2 (by omega)
theorem Hp.top {f : Nat → α} {s n : Nat} (h : n ≤ 2 * s + 1) : Hp le f s n := fun p c h1 h2 h3 => by omega
end
end Go.Hp
