/- Sets of addresses: New, given, fine, Page, put. -/
import Derived.Test.YtnfclieaendgeaaTid2
import Derived.Test.YtnfclieaendgeaaMix2
set_option linter.all false
namespace Go.Proofs.Ytnfclieaendgeaa
open Go Go.RowKit Go.Own Go.Td

/-- A page's exact addresses, and where they lie. -/
structure Pg where
  p : Int
  l : List Int
  a : Option Addr
  cap : Nat
  F : Fr
def pgV (g : Pg) : Value := .slice g.a g.l.length g.cap
structure PgOk (g : Pg) : Prop where
  sl : Sl 3 1 g.a g.l.length g.cap (intV g.l) g.F
  ne : g.l ≠ []
  up : Up g.l
  on : ∀ t ∈ g.l, pg t = g.p
def pgsF (xs : List Pg) : Fr := (xs.map Pg.F).flatten
def pgsM (xs : List Pg) : List (Int × Value) := xs.map fun g => (g.p, pgV g)
def wsM (ws : List Int) : List (Int × Value) := ws.map fun p => (p, .bool true)
def setF (b me mw : Nat) (most n : Nat) : Fr := pt b (.cells #[.bool true, .int .i64 most, .int .i64 n, .map (some me), .map (some mw)] 56 (0, 0))
/-- A set at block b that holds T exactly, and W whole. -/
def SetAt (b most : Nat) (T W : List Int) (A : Fr) : Prop :=
  ∃ me mw xs ws ME MW, MapAt me (pgsM xs) ME ∧ MapAt mw (wsM ws) MW ∧ (∀ g ∈ xs, PgOk g) ∧ ((xs.map Pg.l).flatten).Perm T ∧ ws.Perm W ∧ A = setF b me mw most T.length ++ (ME ++ (MW ++ pgsF xs))

theorem zeroInts (w : World) : (zeroValue 33).run Try.prog w = .ok (.slice none 0 0) w := by kernel_rfl
theorem zeroBool (w : World) : (zeroValue 4).run Try.prog w = .ok (.bool false) w := by kernel_rfl
theorem sltInts : SlT Try.prog 33 3 1 8 (.int .i64 0) := ⟨by kernel_rfl, by kernel_rfl, rfl⟩

theorem mapAt_nodup {b : Nat} {l : List (Int × Value)} {A : Fr} (h : MapAt b l A) : (l.map (·.1)).Nodup := by
  obtain ⟨es, c, hM, _⟩ := h
  exact hM.keys
theorem look_ws : ∀ (ws : List Int) (p : Int), (mlook (wsM ws) p).getD (.bool false) = .bool (ws.contains p)
  | [], p => rfl
  | q :: ws, p => by
    have ih := look_ws ws p
    unfold mlook wsM at *
    by_cases h : q = p
    · subst h; simp
    · have h2 : (q == p) = false := by simpa using h
      have h3 : (p == q) = false := by simpa using fun e => h e.symm
      simp only [List.map_cons, List.find?_cons, h2, List.contains_cons, h3, Bool.false_or]
      exact ih
theorem look_ws_none {ws : List Int} {p : Int} (h : p ∉ ws) : mlook (wsM ws) p = none := by
  unfold mlook wsM
  rw [Option.map_eq_none_iff, List.find?_eq_none]
  intro q hq
  obtain ⟨r, hr, rfl⟩ := List.mem_map.1 hq
  simp
  exact fun e => h (e ▸ hr)
theorem look_ws_some {ws : List Int} {p : Int} (h : p ∈ ws) : mlook (wsM ws) p = some (.bool true) := by
  have h1 := look_ws ws p
  have h2 : ws.contains p = true := by simpa using h
  rw [h2] at h1
  cases hl : mlook (wsM ws) p with
  | none => rw [hl] at h1; cases h1
  | some v => rw [hl] at h1; simp at h1; rw [h1]
theorem pgsM_keys (xs : List Pg) : (pgsM xs).map (·.1) = xs.map Pg.p := by unfold pgsM; rw [List.map_map]; rfl
theorem look_pgs {xs : List Pg} (hn : (xs.map Pg.p).Nodup) {g : Pg} (hg : g ∈ xs) : mlook (pgsM xs) g.p = some (pgV g) := by
  induction xs with
  | nil => cases hg
  | cons h xs ih =>
    rw [List.map_cons, List.nodup_cons] at hn
    unfold mlook pgsM at *
    rcases List.mem_cons.1 hg with rfl | hg
    · simp
    · have hne : ¬ h.p = g.p := fun e => hn.1 (List.mem_map.2 ⟨g, hg, e.symm⟩)
      have hne2 : (h.p == g.p) = false := by simpa using hne
      simp only [List.map_cons, List.find?_cons, hne2]
      exact ih hn.2 hg
theorem look_pgs_none {xs : List Pg} {p : Int} (h : ∀ g ∈ xs, g.p ≠ p) : mlook (pgsM xs) p = none := by
  unfold mlook pgsM
  rw [Option.map_eq_none_iff, List.find?_eq_none]
  intro q hq
  obtain ⟨r, hr, rfl⟩ := List.mem_map.1 hq
  simp
  exact h r hr
/-- What stands exactly on a page. -/
theorem mem_page {xs : List Pg} {T : List Int} (hok : ∀ g ∈ xs, PgOk g) (hn : (xs.map Pg.p).Nodup) (hT : ((xs.map Pg.l).flatten).Perm T) {g : Pg} (hg : g ∈ xs) (t : Int) (ht : pg t = g.p) : t ∈ T ↔ t ∈ g.l := by
  rw [← hT.mem_iff, List.mem_flatten]
  constructor
  · rintro ⟨l, hl, htl⟩
    obtain ⟨h, hh, rfl⟩ := List.mem_map.1 hl
    have h1 := (hok h hh).on t htl
    have h2 : h = g := by
      have : ∀ {ys : List Pg}, (ys.map Pg.p).Nodup → h ∈ ys → g ∈ ys → h.p = g.p → h = g := by
        intro ys
        induction ys with
        | nil => intro _ h; cases h
        | cons y ys ih =>
          intro hn h1 h2 e
          rw [List.map_cons, List.nodup_cons] at hn
          rcases List.mem_cons.1 h1 with k1 | k1 <;> rcases List.mem_cons.1 h2 with k2 | k2
          · rw [k1, k2]
          · exact absurd (List.mem_map.2 ⟨g, k2, by rw [← e, k1]⟩) hn.1
          · exact absurd (List.mem_map.2 ⟨h, k1, by rw [e, k2]⟩) hn.1
          · exact ih hn.2 k1 k2 e
      exact this hn hh hg (by rw [← h1, ht])
    subst h2
    exact htl
  · exact fun h => ⟨g.l, List.mem_map.2 ⟨g, hg, rfl⟩, h⟩
theorem not_page {xs : List Pg} {T : List Int} (hok : ∀ g ∈ xs, PgOk g) (hT : ((xs.map Pg.l).flatten).Perm T) {t : Int} (h : ∀ g ∈ xs, g.p ≠ pg t) : t ∉ T := by
  rw [← hT.mem_iff, List.mem_flatten]
  rintro ⟨l, hl, htl⟩
  obtain ⟨g, hg, rfl⟩ := List.mem_map.1 hl
  exact h g hg ((hok g hg).on t htl).symm
theorem mset_pgs {pre post : List Pg} {g g' : Pg} (hn : ((pre ++ g :: post).map Pg.p).Nodup) (he : g'.p = g.p) : mset (pgsM (pre ++ g :: post)) g.p (pgV g') = pgsM (pre ++ g' :: post) := by
  rw [List.map_append, List.map_cons] at hn
  obtain ⟨h1, h2, h3⟩ := List.nodup_append.1 hn
  have ha : ∀ ys : List Pg, (∀ h ∈ ys, h.p ≠ g.p) → mset (pgsM ys) g.p (pgV g') = pgsM ys := by
    intro ys hy
    unfold mset pgsM
    rw [List.map_map]
    refine List.map_congr_left fun h hh => ?_
    have : (h.p == g.p) = false := by simpa using hy h hh
    show (if (h.p == g.p) = true then (g.p, pgV g') else (h.p, pgV h)) = (h.p, pgV h)
    rw [this]
    rfl
  have hs : ∀ a b : List (Int × Value), mset (a ++ b) g.p (pgV g') = mset a g.p (pgV g') ++ mset b g.p (pgV g') := fun a b => by unfold mset; rw [List.map_append]
  have hp : ∀ a b : List Pg, pgsM (a ++ b) = pgsM a ++ pgsM b := fun a b => by unfold pgsM; rw [List.map_append]
  rw [hp, hp, hs, ha pre fun h hh e => h3 _ (List.mem_map.2 ⟨h, hh, rfl⟩) _ (List.mem_cons_self ..) e]
  congr 1
  have hc : pgsM (g :: post) = (g.p, pgV g) :: pgsM post := rfl
  have hc' : pgsM (g' :: post) = (g'.p, pgV g') :: pgsM post := rfl
  have hm : mset ((g.p, pgV g) :: pgsM post) g.p (pgV g') = (g.p, pgV g') :: mset (pgsM post) g.p (pgV g') := by simp [mset]
  rw [hc, hc', hm, ha post fun h hh e => (List.nodup_cons.1 h2).1 (List.mem_map.2 ⟨h, hh, e⟩), he]
theorem psplit {xs : List Pg} {g : Pg} (h : g ∈ xs) : ∃ pre post, xs = pre ++ g :: post := List.append_of_mem h
theorem pgsF_app (xs ys : List Pg) : pgsF (xs ++ ys) = pgsF xs ++ pgsF ys := by unfold pgsF; rw [List.map_append, List.flatten_append]
theorem pgsF_cons (g : Pg) (xs : List Pg) : pgsF (g :: xs) = g.F ++ pgsF xs := by unfold pgsF; rw [List.map_cons, List.flatten_cons]

set_option maxRecDepth 100000 in
set_option maxHeartbeats 16000000 in
theorem tPage (w : World) (t : Int) (h : t ≤ 9223372036854775807) (h2 : -9223372036854775808 ≤ t) : Calls Try.prog 46 #[.int .i64 t] w fun e w' => e = .returned (.int .i64 (pg (max t 0))) ∧ w = w' := by
  have hmm : (max t 0).tdiv 64 = pg (max t 0) := by
    unfold pg
    rw [Int.tdiv_eq_ediv_of_nonneg (by omega)]
  go_enter Try.func46, Try.ntmps46
  go_wp2
  go_ret
  have hw : wrap64 (pg (max t 0)) = pg (max t 0) := by unfold pg wrap64; omega
  rw [hw]
  exact ⟨rfl, rfl⟩
set_option maxRecDepth 100000 in
set_option maxHeartbeats 16000000 in
theorem tFine (w : World) (t : Int) : Calls Try.prog 42 #[.int .i64 t] w fun e w' => e = .returned (.bool (decide (0 ≤ t ∧ t < 16777216))) ∧ w = w' := by
  by_cases h1 : 0 ≤ t
  · by_cases h2 : t < 16777216
    · rw [decide_eq_true ⟨h1, h2⟩]
      go_enter Try.func42, Try.ntmps42
      go_wp2
      go_ret
      exact ⟨rfl, rfl⟩
    · rw [decide_eq_false fun h => h2 h.2]
      go_enter Try.func42, Try.ntmps42
      go_wp2
      go_ret
      exact ⟨rfl, rfl⟩
  · rw [decide_eq_false fun h => h1 h.1]
    go_enter Try.func42, Try.ntmps42
    go_wp2
    go_ret
    exact ⟨rfl, rfl⟩
set_option maxRecDepth 100000 in
set_option maxHeartbeats 16000000 in
theorem tGiven (E w : World) (X R A : Fr) (b most : Nat) (T W : List Int) (hA : SetAt b most T W A) (hO : Own E w X) [hp : Pick X A R] :
    Calls Try.prog 41 #[.pointer (some ⟨b, 0, none⟩)] w fun e w' => e = .returned (.bool true) ∧ w = w' := by
  replace hO := hO.perm hp.perm
  obtain ⟨me, mw, xs, ws, ME, MW, hE, hW, hok, hT, hP, rfl⟩ := hA
  unfold setF at hO
  ((try simp only [List.nil_append, List.append_nil] at hO); have hF := Own.cells hO; simp only [cellsOf_append, cellsOf_pt] at hF)
  go_enter Try.func41, Try.ntmps41
  go_wp2
  go_ret
  exact ⟨rfl, rfl⟩
def TNewP (E : World) (X : Fr) (most : Int) (e : Ending) (w' : World) : Prop :=
  (0 ≤ most ∧ most ≤ 64 ∧ ∃ b A, e = .returned (.tuple #[.pointer (some ⟨b, 0, none⟩), .int .i64 0]) ∧ SetAt b most.toNat [] [] A ∧ Own E w' (A ++ X)) ∨ (¬ (0 ≤ most ∧ most ≤ 64) ∧ e = .returned (.tuple #[.pointer none, .int .i64 1]) ∧ Own E w' X)
set_option maxRecDepth 100000 in
set_option maxHeartbeats 16000000 in
theorem tNew (E w : World) (X : Fr) (most : Int) (hO : Own E w X) : Calls Try.prog 20 #[.int .i64 most] w (TNewP E X most) := by
  by_cases h1 : most < 0
  · go_enter Try.func20, Try.ntmps20
    go_wp2_with fail
    go_ret2
    exact .inr ⟨fun h => by omega, rfl, hO⟩
  by_cases h2 : 64 < most
  · go_enter Try.func20, Try.ntmps20
    go_wp2_with fail
    go_ret2
    exact .inr ⟨fun h => by omega, rfl, hO⟩
  go_enter Try.func20, Try.ntmps20
  go_wp2_with (first
    | (refine at_mkMap ?_; go_must (first
      | (refine own_makeMap hO ?_ ?_; (· rfl); clear hO; (try clear hF); intro mb MA _ hMA hO; simp only [Act.put, List.setIfInBounds_toArray, List.set_cons_zero, List.set_cons_succ])))
    | (refine at_box ?_; go_must (refine own_box (v := ?_) hO ?_ ?_ ?_; rotate_left; (· rfl); (· ((conv => lhs; whnf); try exact rfl)); clear hO; (try clear hF); intro b _ hO; (try simp only [Value.cells] at hO); ((try simp only [List.nil_append, List.append_nil] at hO); have hF := Own.cells hO; simp only [cellsOf_append, cellsOf_pt] at hF); simp only [Act.put, List.setIfInBounds_toArray, List.set_cons_zero, List.set_cons_succ])))
  rename_i mb1 MA1 _ hMA1 _ _
  go_ret2
  obtain ⟨n, rfl⟩ : ∃ n : Nat, most = n := ⟨most.toNat, by omega⟩
  refine .inl ⟨by omega, by omega, b, _, rfl, ⟨mb1, mb, [], [], MA1, MA, hMA1, hMA, fun g hg => by (cases hg), .refl _, .refl _, rfl⟩, ?_⟩
  have := hO.as (pt b (.cells #[.bool true, .int .i64 n, .int .i64 0, .map (some mb1), .map (some mb)] 56 (0, 0)) ++ (MA1 ++ (MA ++ X)))
  simpa [pgsF, setF] using this
end Go.Proofs.Ytnfclieaendgeaa
