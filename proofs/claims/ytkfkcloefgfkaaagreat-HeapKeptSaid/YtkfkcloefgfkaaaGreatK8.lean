/- Space: Open. -/
import Derived.Test.YtkfkcloefgfkaaaGreatK7
set_option linter.all false
/- Space: Open. -/
namespace Go.Proofs.YtkfkcloefgfkaaaGreat
open Go Go.RowKit Go.Own Go.Dk

/-- A disk as a space left it. -/
def DiskC (d : Nat) (recs : List Es) (J : Nat → Prop) (cont : Nat → List UInt8) (n : Nat) (D : Fr) : Prop :=
  ∃ rs, DiskAt d rs D ∧ play rs 0 = encs (recs.map recOf) ∧ SpI recs J cont ∧ (∀ k, k < 4096 → ¬ J k → pgOf (play rs 1) k = cont k) ∧ rs.length ≤ n
theorem PoolS.disk {J : Nat → Prop} {recs : List Es} {p d most N : Nat} {cont : Nat → List UInt8} {pins : Nat → Nat} {A : Fr} (h : PoolS J (encs (recs.map recOf)) p d most N cont pins A) (hI : SpI recs J cont) : ∃ P D, A = P ++ D ∧ DiskC d recs J cont N D := by
  obtain ⟨hand, fs, l, rs, P, D, hP, hPI, hD, hh, hN, hJ, rfl⟩ := h
  exact ⟨P, D, rfl, rs, hD, hJ.1, hI, hJ.2, by omega⟩
theorem DiskC.new {d : Nat} {D : Fr} (h : DiskAt d [] D) : DiskC d [] (fun _ => False) (fun _ => noughts) 0 D :=
  ⟨[], h, rfl, SpI.nil _, fun k _ _ => pgOf_nil k, Nat.le_refl _⟩
theorem _root_.Go.Dk.PInv.open (most : Nat) (F : List UInt8) : PInv most [] [] F (pgOf F) (fun _ => 0) :=
  ⟨Nat.zero_le _, .refl _, List.nodup_nil, fun f hf => absurd hf (by simp), fun _ _ => rfl, fun k _ _ => rfl, fun k => pgOf_length F k⟩
theorem PoolS.cont2 {J : Nat → Prop} {F0 : List UInt8} {p d most N : Nat} {cont cont2 : Nat → List UInt8} {pins : Nat → Nat} {A : Fr} (h : PoolS J F0 p d most N cont pins A) (hc : ∀ k, k < 4096 → cont k = cont2 k) (hl : ∀ k, (cont2 k).length = 512) : PoolS J F0 p d most N cont2 pins A := by
  obtain ⟨hand, fs, l, rs, P, D, hP, hI, hD, hh, hN, hJ, rfl⟩ := h
  refine ⟨hand, fs, l, rs, P, D, hP, ⟨hI.len, hI.perm, hI.nodup, fun f hf => ?_, hI.out, fun k hk h => (hI.disk k hk h).trans (hc k hk), hl⟩, hD, hh, hN, ⟨hJ.1, fun k hk hn => (hJ.2 k hk hn).trans (hc k hk)⟩, rfl⟩
  obtain ⟨h1, h2, h3⟩ := hI.pg f hf
  exact ⟨h1, h2.trans (hc _ h1), h3⟩
def lenE (recs : List Es) : Nat := (recs.map List.length).sum
theorem lenE_app (a b : List Es) : lenE (a ++ b) = lenE a + lenE b := by simp [lenE]
theorem lenE_le {recs : List Es} (h : ∀ es ∈ recs, EsOk es) : lenE recs ≤ (encs (recs.map recOf)).length := by
  induction recs with
  | nil => simp [lenE]
  | cons es recs ih =>
    have h1 := ih fun x hx => h x (List.mem_cons_of_mem _ hx)
    have h2 := recOf_size (h es (by simp))
    rw [List.map_cons, encs_cons, List.length_append, encR_length]
    have : lenE (es :: recs) = es.length + lenE recs := by simp [lenE]
    omega
theorem lenE_take (recs : List Es) (j : Nat) : lenE (recs.take j) ≤ lenE recs := by
  have := lenE_app (recs.take j) (recs.drop j)
  rw [List.take_append_drop] at this
  omega
/-- How many keys a map has. -/
def mapN (w : World) (b : Nat) : Nat := match w.heap[b]? with | some (.map es _) => es.size | _ => 0
theorem _root_.Go.Own.MapAt.size {E w : World} {X A R : Fr} {b : Nat} {l : List (Int × Value)} (h : MapAt b l A) (hO : Own E w X) [hp : Pick X A R] : mapN w b = l.length := by
  obtain ⟨es, c, hM, rfl⟩ := h
  have hg : w.heap[b]? = some (.map es c) := (hO.perm hp.perm).mem (b, .map es c) (by simp [pt])
  have := congrArg List.length hM.ent
  simp only [List.length_map] at this
  unfold mapN
  rw [hg]
  simpa using this
/-- What Open leaves. -/
def OpenP (E : World) (recs : List Es) (J : Nat → Prop) (d most n : Nat) (cont : Nat → List UInt8) (c : List Nat) (R : Fr) (e : Ending) (w' : World) : Prop :=
  ∃ (s l p mf : Nat) (PA MF : Fr), e = .returned (.tuple #[.pointer (some ⟨s, 0, none⟩), .int .i64 0]) ∧ PoolS J (encs (recs.map recOf)) p d most (n + 4194305) cont (fun _ => 0) PA ∧ MapAt mf (c.map gnP) MF ∧
    Own E w' (spF s l p none mf ++ (MF ++ (logF l d (recs.map recOf) ++ (PA ++ R))))
/-- The numbers from a place of a chain on. -/
def nextOf (c : List Nat) (j : Nat) : Nat := (c[j]?).getD 0
theorem chain_at {v : Nat → List UInt8} : ∀ {F : Nat} {c : List Nat}, Chain v F c → F = nextOf c 0 ∧ ∀ j (h : j < c.length), 0 < c[j] ∧ nextOf c (j + 1) < 4096 ∧ ∃ r, v c[j] = hd4 (nextOf c (j + 1)) ++ r
  | F, [], h => ⟨h, fun j hj => absurd hj (by simp)⟩
  | F, p :: c, ⟨h1, h2, q, r, h3, h4, h5⟩ => by
    obtain ⟨i1, i2⟩ := chain_at h5
    refine ⟨h1, fun j hj => ?_⟩
    cases j with
    | zero => exact ⟨h2, by rw [show nextOf (p :: c) (0 + 1) = nextOf c 0 from rfl, ← i1]; exact h4, r, by rw [show nextOf (p :: c) (0 + 1) = nextOf c 0 from rfl, ← i1]; exact h3⟩
    | succ j => exact i2 j (by simpa using hj)
set_option maxRecDepth 100000 in
set_option maxHeartbeats 16000000 in
theorem sOpen (E w : World) (X R D : Fr) (recs : List Es) (J : Nat → Prop) (d most n : Nat) (cont : Nat → List UInt8) (gone : List Nat) (T : Nat) (c : List Nat) (rt : Nat → Nat) (hD : DiskC d recs J cont n D) (hcl : ∀ k, (cont k).length = 512) (hV : View cont [] gone T c rt) (hm : 4 ≤ most) (hm2 : most ≤ 1024) (hN : n ≤ 8796080000000) (hO : Own E w X) [hp : Pick X D R] :
    Calls Tryz.prog 15 #[.pointer (some ⟨d, 0, none⟩), .int .i64 most] w (OpenP E recs J d most n cont c R) := by
  replace hO := hO.perm hp.perm
  clear hp
  generalize hpost : OpenP E recs J d most n cont c R = POST
  have HPOST := Lib.hid hpost
  clear hpost
  have hm3 : ¬ (most : Int) < 4 := by omega
  have hm4 : ¬ (1024 : Int) < most := by omega
  obtain ⟨rs, hDA, hF0, hI, hpg, hrn⟩ := hD
  go_enter Tryz.func15, Tryz.ntmps15
  go_wp2_with fail
  refine (lOpen E _ _ _ D d rs hDA (by omega) hO).mono ?_
  clear hO
  rintro e w1 ⟨l, brs, rest, rs', sa, cp, S, D', rfl, henc, hst, hrr, hrs', hF0', hDA', hS, hO⟩
  obtain ⟨hbr, hrest⟩ := encs_uniq hI.recs hrr (by rw [← hF0]; exact henc) hst
  subst hbr
  have hp1 : play rs' 1 = play rs 1 := by
    rcases hrs' with rfl | rfl
    · rfl
    · rw [play_snoc]
      simp only [Raw.app]
      rw [upd_ne _ _ _ _ (by decide)]
  have hrl : rs'.length ≤ n + 1 := by
    rcases hrs' with rfl | rfl
    · omega
    · simp; omega
  have hle : (play rs' 0).length ≤ 4194304 := play_le hDA'.1 0
  have hlE := lenE_le (fun es h => (hI.ok es h).1)
  rw [← hF0'] at hlE
  clear hDA henc hst hrr hrest hrs'
  ((try simp only [List.nil_append, List.append_nil] at hO); have hF := Own.cells hO; simp only [cellsOf_append, cellsOf_pt] at hF)
  go_wp2_with (first | (refine at_box ?_; go_must (refine own_box (v := ?_) hO ?_ ?_ ?_; rotate_left; (· rfl); (· ((conv => lhs; whnf); try exact rfl)); clear hO; (try clear hF); intro s _ hO; (try simp only [Value.cells] at hO); ((try simp only [List.nil_append, List.append_nil] at hO); have hF := Own.cells hO; simp only [cellsOf_append, cellsOf_pt] at hF); simp only [Act.put, List.setIfInBounds_toArray, List.set_cons_zero, List.set_cons_succ])) | (refine at_mkMap (t := 93) ?_; go_must (refine own_makeMap hO ?_ ?_; (· rfl); clear hO; (try clear hF); intro mf MF _ hMF hO; ((try simp only [List.nil_append, List.append_nil] at hO); have hF := Own.cells hO; simp only [cellsOf_append, cellsOf_pt] at hF); simp only [Act.put, List.setIfInBounds_toArray, List.set_cons_zero, List.set_cons_succ])))
  refine (pNew_ok E _ _ _ D' d most rs' hDA' (by omega) hm2 hO).mono ?_
  clear hO hF
  rintro e w3 ⟨p, P, rfl, hP, hO⟩
  have hS0 : PoolS J (encs (recs.map recOf)) p d most (n + 1) (pgOf (play rs' 1)) (fun _ => 0) (P ++ D') := ⟨0, [], [], rs', P, D', hP, PInv.open _ _, hDA', .inr rfl, hrl, ⟨hF0', fun _ _ _ => rfl⟩, rfl⟩
  rw [← hp1] at hpg
  have HPG := Lib.hid hpg
  have HLE := Lib.hid hlE
  have hrlen : ((recs.map recOf).length : Int) ≤ 4194304 := by
    have := encs_len hI.recs
    rw [← hF0'] at this
    omega
  have HHLE := Lib.hid hle
  clear hP hDA' hF0 hF0' hrl hpg hp1 hlE hle
  ((try simp only [List.nil_append, List.append_nil] at hO); have hF := Own.cells hO; simp only [cellsOf_append, cellsOf_pt] at hF)
  go_wp2_with (first | (refine own_store (v := ?_) (off := 1) (b := s) hO ?_ ?_ ?_ ?_ ?_ ?_ ?_; rotate_left; (· rfl); (· ((conv => lhs; whnf); try exact rfl)); (· ((conv => lhs; whnf); try exact rfl)); (· simp [Value.cells]); (· simp [Value.cells, Value.oneCell']); (· simp [Value.cells]); clear hO; (try clear hF); intro _ hO; (try simp only [splice, Value.cells] at hO); ((try simp only [List.nil_append, List.append_nil] at hO); have hF := Own.cells hO; simp only [cellsOf_append, cellsOf_pt] at hF); simp only [Act.put, List.setIfInBounds_toArray, List.set_cons_zero, List.set_cons_succ]))
  simp only [splice, Value.cells, List.setIfInBounds_toArray, List.set_cons_zero, List.set_cons_succ] at hO
  go_wp2_with fail
  have hO1 := hO
  clear hO hF
  go_loopw [43] (fun s43 wr => ∃ (j : Nat) (PA : Fr), s43 = .int .i64 j ∧ j ≤ recs.length ∧ PoolS J (encs (recs.map recOf)) p d most (n + 1 + lenE (recs.take j)) (repl (pgOf (play rs' 1)) (recs.take j)) (fun _ => 0) PA ∧
      Own E wr (pt s (.cells #[.pointer (some ⟨l, 0, none⟩), .pointer (some ⟨p, 0, none⟩), .pointer none, .map (some mf)] 102 (0, 0)) ++ (S ++ (MF ++ (logF l d (recs.map recOf) ++ (PA ++ R)))))) (fun s43 _ => recs.length - (intOf s43).toNat)
  case atStart => exact ⟨0, P ++ D', rfl, Nat.zero_le _, hS0, hO1.as _⟩
  case round =>
    clear hO1 hS0
    obtain ⟨j, PA, rfl, hj, hSP, hO⟩ := hrel
    by_cases hlt : j < recs.length
    · have hj1 : (j : Int) < (recs.map recOf).length := by rw [List.length_map]; omega
      have hj2 : (0 : Int) ≤ j := by omega
      obtain ⟨sb, rfl⟩ := sl_some4 hS (by rw [List.length_map]; omega)
      have hcell : wr.cell? ⟨sb, j, none⟩ = some (.string (recOf recs[j])) := by
        have := hS.cell hO ⟨sb, 0, none⟩ rfl j (by simpa using hlt)
        rw [add_lit, Nat.zero_add] at this
        rw [this]
        simp
      obtain ⟨he1, he2, he3, he4⟩ := hI.ok recs[j] (List.getElem_mem _)
      have htk : recs.take (j + 1) = recs.take j ++ [recs[j]] := List.take_succ_eq_append_getElem hlt
      have hle1 := lenE_take recs (j + 1)
      have hle2 : lenE (recs.take (j + 1)) = lenE (recs.take j) + recs[j].length := by rw [htk, lenE_app]; simp [lenE]
      have hle3 : lenE (recs.take j) + recs[j].length ≤ 4194304 := by have := HLE.out; have := HHLE.out; omega
      generalize recs[j] = es at hcell he1 he2 he3 he4 htk hle2 hle3
      have HTK := Lib.hid htk
      have HLT := Lib.hid hlt
      have HLE2 := Lib.hid hle2
      clear htk hlt hle1 hle2 he2
      ((try simp only [List.nil_append, List.append_nil] at hO); have hF := Own.cells hO; simp only [cellsOf_append, cellsOf_pt] at hF)
      go_wp2_with fail
      have hO' : Own E _ (spF s l p none mf ++ (PA ++ (S ++ (MF ++ (logF l d (recs.map recOf) ++ R))))) := hO.as (pt s (.cells #[.pointer (some ⟨l, 0, none⟩), .pointer (some ⟨p, 0, none⟩), .pointer none, .map (some mf)] 102 (0, 0)) ++ (PA ++ (S ++ (MF ++ (logF l d (recs.map recOf) ++ R)))))
      clear hO hF
      refine (sApply E _ _ _ PA s l p mf none d most (n + 1 + lenE (recs.take j)) _ es he1 he4 (by omega) hSP (by omega) hm2 (by omega) hO').mono ?_
      clear hO' hSP
      rintro e w5 ⟨rfl, PA, hSP, hO⟩
      go_wp2_with fail
      go_roundw
      case rel =>
        refine ⟨j + 1, PA, by go_num, by have := HLT.out; omega, ?_, by unfold spF at hO; exact hO.as _⟩
        rw [HLE2.out, HTK.out, repl_snoc, ← Nat.add_assoc]
        exact hSP
      case measure => have := HLT.out; simp [intOf]; omega
    · obtain rfl : j = recs.length := by omega
      rw [List.take_length] at hSP
      have hj1 : ¬ (recs.length : Int) < (recs.map recOf).length := by rw [List.length_map]; omega
      replace hSP := (hSP.cont2 (hI.rp _ HPG.out) hcl).mono (J' := J) (N' := n + 4194305) (fun _ h => h) (by have := HLE.out; have := HHLE.out; omega)
      ((try simp only [List.nil_append, List.append_nil] at hO); have hF := Own.cells hO; simp only [cellsOf_append, cellsOf_pt] at hF)
      go_wp2_with fail
      have hO' : Own E _ (spF s l p none mf ++ (PA ++ (MF ++ (logF l d (recs.map recOf) ++ R)))) := hO.as (pt s (.cells #[.pointer (some ⟨l, 0, none⟩), .pointer (some ⟨p, 0, none⟩), .pointer none, .map (some mf)] 102 (0, 0)) ++ (PA ++ (MF ++ (logF l d (recs.map recOf) ++ R))))
      clear hO hF hS
      refine (sBytes E _ _ _ PA s l p mf none d most (n + 4194305) cont 0 (by decide) hSP (by omega) hm2 (by omega) hO').mono ?_
      clear hO' hSP
      rintro e w5 ⟨b, cap, B, PA, rfl, hB, hSP, hO⟩
      obtain ⟨F, hM, hC⟩ := hV.ex
      obtain ⟨r, hr⟩ := hM.hd
      have hFb := hM.fb
      obtain ⟨hF1, hF2⟩ := chain_at hC
      have hlen : 512 - 4 = 4 + r.length := by
        have h1 := congrArg List.length hr
        rw [hM.len, List.length_append, List.length_append] at h1
        have e1 : (hd4 T).length = 4 := rfl
        have e2 : (hd4 F).length = 4 := rfl
        omega
      have hBB := BytesIn.drop (i := 4) (pgb_bytes (E := E) hB)
      rw [show cont 0 = oview cont [] 0 from rfl, hr, hd4_F] at hBB
      have hbc := hB.1
      rw [hcl 0] at hbc
      have hcapi : (512 : Int) ≤ cap := by omega
      have HLEN := Lib.hid hlen
      have HF2 := Lib.hid hF2
      have hcn := hV.nd
      clear hB hlen hr hV hM hC hF2
      subst hF1
      go_wp2_with fail
      refine (sNumber4 E _ _ _ B _ (512 - 4) _ (nextOf c 0) r (by omega) HLEN.out hBB hO).mono ?_
      clear hO hBB
      rintro e w6 ⟨rfl, hO⟩
      go_wp2_with fail
      have hO1 := hO
      clear hO
      go_loopw [13] (fun s13 wr => ∃ (j : Nat) (PA MF : Fr), s13 = .int .i64 (nextOf c j) ∧ j ≤ c.length ∧ PoolS J (encs (recs.map recOf)) p d most (n + 4194305) cont (fun _ => 0) PA ∧ MapAt mf ((c.take j).map gnP) MF ∧
          Own E wr (spF s l p none mf ++ (MF ++ (logF l d (recs.map recOf) ++ (PA ++ R))))) (fun _ w => c.length - mapN w mf)
      case atStart => exact ⟨0, PA, MF, rfl, Nat.zero_le _, hSP, hMF, hO1.as _⟩
      case round =>
        clear hO1 hSP hMF
        obtain ⟨j, PA, MF, rfl, hj, hSP, hMF, hO⟩ := hrel
        have hmn := hMF.size hO
        by_cases hlt : j < c.length
        · obtain ⟨h1, h2, r2, (h3 : cont c[j] = hd4 (nextOf c (j + 1)) ++ r2)⟩ := HF2.out j hlt
          have hnj : nextOf c j = c[j] := by unfold nextOf; rw [List.getElem?_eq_getElem hlt]; rfl
          have hk4 : c[j] < 4096 := by
            cases j with
            | zero => rw [← hnj]; exact hFb
            | succ i => rw [← hnj]; exact (HF2.out i (by omega)).2.1
          have htk : c.take (j + 1) = c.take j ++ [c[j]] := List.take_succ_eq_append_getElem hlt
          have hnot : ∀ q ∈ c.take j, (q : Int) ≠ (c[j] : Nat) := by
            intro q hq e
            have e' : q = c[j] := Int.ofNat.inj e
            have h4 : (c.take (j + 1)).Nodup := hcn.sublist (List.take_sublist _ _)
            rw [htk, List.nodup_append] at h4
            exact h4.2.2 q hq c[j] (by simp) e'
          rw [hnj]
          generalize c[j] = k at h1 h3 hk4 htk hnot hnj
          have hlk : mlook ((c.take j).map gnP) (k : Int) = none := gone_out hnot
          have hk0 : ¬ (k : Int) = 0 := by omega
          have hlen : 512 = 4 + r2.length := by
            have := hcl k
            rw [h3, List.length_append] at this
            exact this.symm
          have HTK := Lib.hid htk
          have HLT := Lib.hid hlt
          have HMN := Lib.hid hmn
          have H3 := Lib.hid h3
          have HL := Lib.hid hlen
          clear htk hlt hnot hnj hmn h3 hlen
          unfold spF at hO
          ((try simp only [List.nil_append, List.append_nil] at hO); have hF := Own.cells hO; simp only [cellsOf_append, cellsOf_pt] at hF)
          go_wp2_with (refine at_mapup ?_; go_must (refine own_mapNew (kt := 3) (et := 4) (b := mf) (k := k) (v := .bool true) (l := (c.take j).map gnP) (by kernel_rfl) (by kernel_rfl) hO hMF ?_ ?_ ?_ ?_ hlk ?_; (· rfl); (· rfl); (· rfl); (· rfl); clear hO; (try clear hF); intro _ MF2 hMF2 hO; ((try simp only [List.nil_append, List.append_nil] at hO); have hF := Own.cells hO; simp only [cellsOf_append, cellsOf_pt] at hF); simp only [Act.put, List.setIfInBounds_toArray, List.set_cons_zero, List.set_cons_succ]))
          have hO' : Own E _ (spF s l p none mf ++ (PA ++ (MF2 ++ (logF l d (recs.map recOf) ++ R)))) := hO.as (pt s (.cells #[.pointer (some ⟨l, 0, none⟩), .pointer (some ⟨p, 0, none⟩), .pointer none, .map (some mf)] 102 (0, 0)) ++ (PA ++ (MF2 ++ (logF l d (recs.map recOf) ++ R))))
          clear hO hF hMF
          refine (sBytes E _ _ _ PA s l p mf none d most (n + 4194305) cont k hk4 hSP (by omega) hm2 (by omega) hO').mono ?_
          clear hO' hSP
          rintro e w5 ⟨b, cap, B, PA, rfl, hB, hSP, hO⟩
          have hBB := pgb_bytes (E := E) hB
          rw [H3.out] at hBB
          clear hB
          go_wp2_with fail
          refine (sNumber4 E _ _ _ B _ 512 _ (nextOf c (j + 1)) r2 (by omega) HL.out hBB hO).mono ?_
          clear hO hBB
          rintro e w6 ⟨rfl, hO⟩
          go_wp2_with fail
          have hmn2 := hMF2.size hO
          have HMN2 := Lib.hid hmn2
          clear hmn2
          go_roundw
          case rel => exact ⟨j + 1, PA, MF2, rfl, by have := HLT.out; omega, hSP, by rw [HTK.out, List.map_append]; exact hMF2, hO.as _⟩
          case measure =>
            have h1 := HMN.out
            have h2 := HMN2.out
            have h3 := HLT.out
            rw [List.length_map, List.length_take] at h1
            rw [List.length_append, List.length_map, List.length_take, List.length_cons, List.length_nil] at h2
            omega
        · obtain rfl : j = c.length := by omega
          rw [List.take_length] at hMF
          have hn0 : nextOf c c.length = 0 := by unfold nextOf; rw [List.getElem?_eq_none (Nat.le_refl _)]; rfl
          rw [hn0]
          clear hn0
          go_wp2_with fail
          rw [← HPOST.out]
          exact ⟨s, l, p, mf, PA, MF, rfl, hSP, hMF, hO⟩
end Go.Proofs.YtkfkcloefgfkaaaGreat

/- Space: what a caller sees: a space that stands still, an action that goes on. -/
namespace Go.Proofs.YtkfkcloefgfkaaaGreat
open Go Go.RowKit Go.Own Go.Dk
theorem putB_get (M s : List UInt8) (k i : Nat) (h : k + s.length ≤ M.length) : (putB M k s)[i]? = if k ≤ i ∧ i < k + s.length then s[i - k]? else M[i]? := by
  unfold putB
  have hk : (M.take k).length = k := by rw [List.length_take]; omega
  by_cases h1 : i < k
  · rw [if_neg (by omega), List.append_assoc, List.getElem?_append_left (by omega), List.getElem?_take_of_lt h1]
  · by_cases h2 : i < k + s.length
    · rw [if_pos ⟨by omega, h2⟩, List.append_assoc, List.getElem?_append_right (by omega), List.getElem?_append_left (by omega), hk]
    · rw [if_neg (by omega), List.getElem?_append_right (by rw [List.length_append]; omega), List.getElem?_drop, List.length_append, hk]
      congr 1
      omega
theorem four_iff {l : List UInt8} {n : Nat} : (∃ r, l = hd4 n ++ r) ↔ l.take 4 = hd4 n := by
  constructor
  · rintro ⟨r, rfl⟩; rfl
  · intro h
    exact ⟨l.drop 4, by rw [← h, List.take_append_drop]⟩
theorem RootsAt.set {M : List UInt8} {rt : Nat → Nat} (h : RootsAt M rt) (hM : M.length = 512) {i n : Nat} (hi : i < 16) (hn : n < 4294967296) : RootsAt (putB M (8 + 4 * i) (hd4 n)) (upd rt i n) := by
  intro k hk
  have h4 : (hd4 n).length = 4 := rfl
  have hfit : 8 + 4 * i + (hd4 n).length ≤ M.length := by omega
  by_cases hki : k = i
  · subst hki
    rw [upd_same]
    refine ⟨hn, four_iff.2 ?_⟩
    apply List.ext_getElem?
    intro j
    rw [List.getElem?_take]
    split
    · rw [List.getElem?_drop, putB_get _ _ _ _ hfit, if_pos (by omega)]
      congr 1
      omega
    · rw [List.getElem?_eq_none (by omega)]
  · rw [upd_ne _ _ _ _ hki]
    obtain ⟨h1, h2⟩ := h k hk
    refine ⟨h1, four_iff.2 ?_⟩
    rw [← four_iff.1 h2]
    apply List.ext_getElem?
    intro j
    rw [List.getElem?_take, List.getElem?_take]
    split
    · rw [List.getElem?_drop, List.getElem?_drop, putB_get _ _ _ _ hfit, if_neg (by omega)]
    · rfl

theorem Meta.setR {M : List UInt8} {T F : Nat} {rt : Nat → Nat} (h : Meta M T F rt) {i n : Nat} (hi : i < 16) (hn : n < 4294967296) : Meta (putB M (8 + 4 * i) (hd4 n)) T F (upd rt i n) := by
  obtain ⟨r, hr⟩ := h.hd
  have h4 : (hd4 n).length = 4 := rfl
  refine ⟨by rw [putB_length (by rw [h.len, h4]; omega)]; exact h.len, ⟨?_, ?_⟩, RootsAt.set h.rts h.len hi hn, h.tb, h.fb⟩
  · exact (r.take (4 * i) ++ hd4 n) ++ M.drop (8 + 4 * i + 4)
  · unfold putB
    rw [h4, hr, List.take_append, List.take_append, List.take_of_length_le (by show 4 ≤ 8 + 4 * i; omega), List.take_of_length_le (l := hd4 F) (by show 4 ≤ 8 + 4 * i - 4; omega)]
    have e : 8 + 4 * i - (hd4 T).length - (hd4 F).length = 4 * i := by show 8 + 4 * i - 4 - 4 = 4 * i; omega
    rw [e]
    simp only [List.append_assoc]
/-- What a space holds: how many pages there are, the free ones, the roots, the bytes. -/
structure SSt where
  T : Nat
  c : List Nat
  rt : Nat → Nat
  v : Nat → List UInt8
/-- Is there such a page? -/
def SSt.has (st : SSt) (k : Int) : Prop := there st.T st.c k
instance (st : SSt) (k : Int) : Decidable (st.has k) := inferInstanceAs (Decidable (there _ _ _))
/-- A space on disk d that stands still. -/
def Idle (s d N : Nat) (st : SSt) (A : Fr) : Prop :=
  ∃ l p mf most J recs fr PA MF, 4 ≤ most ∧ most ≤ 1024 ∧ PoolS J (encs (List.map recOf recs)) p d most N st.v (fun _ => 0) PA ∧ MapAt mf (List.map gnP fr) MF ∧ SpI recs J st.v ∧ View st.v [] fr st.T st.c st.rt ∧
    A = spF s l p none mf ++ (MF ++ (logF l d (recs.map recOf) ++ PA))
/-- A space whose action goes on: st0 was committed, st is what the action sees. -/
def Going (s d a N : Nat) (st0 st : SSt) (A : Fr) : Prop :=
  ∃ l p mf mp mg most J recs fr ovs gone AA MF, 4 ≤ most ∧ most ≤ 1024 ∧ ActC J (encs (List.map recOf recs)) s l p mf d most N a mp mg st0.v ovs gone false AA ∧ View st0.v ovs gone st.T st.c st.rt ∧ st.v = oview st0.v ovs ∧ MapAt mf (List.map gnP fr) MF ∧ SpI recs J st0.v ∧ View st0.v [] fr st0.T st0.c st0.rt ∧
    A = AA ++ (MF ++ logF l d (recs.map recOf))
/-- An action that is over. -/
def Gone (s a : Nat) (A : Fr) : Prop := ∃ mp mg, A = actF a s mp mg true
theorem there_gone {T : Nat} {gone c : List Nat} (h : gone.Perm c) (k : Int) : there T gone k ↔ there T c k := by
  unfold there
  rw [h.mem_iff]
theorem gBegin (E w : World) (X R A : Fr) (s d N : Nat) (st : SSt) (hA : Idle s d N st A) (hO : Own E w X) [hp : Pick X A R] :
    Calls Tryz.prog 14 #[.pointer (some ⟨s, 0, none⟩)] w fun e w' => ∃ a A', e = .returned (.tuple #[.pointer (some ⟨a, 0, none⟩), .int .i64 0]) ∧ Going s d a N st st A' ∧ Own E w' (A' ++ R) := by
  replace hO := hO.perm hp.perm
  obtain ⟨l, p, mf, most, J, recs, fr, PA, MF, h4, hm2, hS, hMF, hI, hV, rfl⟩ := hA
  refine (sBegin E _ _ (logF l d (recs.map recOf) ++ (PA ++ R)) MF s l p mf fr hMF (hO.as ((spF s l p none mf ++ MF) ++ (logF l d (recs.map recOf) ++ (PA ++ R))))).mono ?_
  rintro e w' ⟨a, mp, mg, gone, MP, MG, MF, rfl, hg, hMP, hMG, hMF, hO⟩
  refine ⟨a, _, rfl, ⟨l, p, mf, mp, mg, most, J, recs, fr, [], gone, _, MF, h4, hm2, ⟨PA, MP, MG, hS, hMP, hMG, by simp, List.nodup_nil, rfl⟩, ⟨hV.ex, hV.nd, hV.wt, hg.trans hV.gn, hV.kb⟩, rfl, hMF, hI, hV, rfl⟩, ?_⟩
  rw [ovsF_nil]
  exact hO.as _
end Go.Proofs.YtkfkcloefgfkaaaGreat

/- Space: the calls as a caller sees them. -/
namespace Go.Proofs.YtkfkcloefgfkaaaGreat
open Go Go.RowKit Go.Own Go.Dk

theorem gRead (E w : World) (X R A : Fr) (s d a N : Nat) (st0 st : SSt) (k : Int) (hA : Going s d a N st0 st A) (hN : N ≤ 8796000000000) (hO : Own E w X) [hp : Pick X A R] :
    Calls Tryz.prog 124 #[.pointer (some ⟨a, 0, none⟩), .int .i64 k] w fun e w' => e = .returned (.tuple (if st.has k then #[.string ⟨(st.v k.toNat).toArray⟩, .int .i64 0] else #[.string .empty, .int .i64 3])) ∧ ∃ A', Going s d a N st0 st A' ∧ Own E w' (A' ++ R) := by
  replace hO := hO.perm hp.perm
  obtain ⟨l, p, mf, mp, mg, most, J, recs, fr, ovs, gone, AA, MF, h4, hm2, hA, hV, hv, hMF, hI, hV0, rfl⟩ := hA
  obtain ⟨r0, hr0⟩ := hV.zero
  refine (aRead E _ _ (MF ++ (logF l d (recs.map recOf) ++ R)) AA s l p mf d most N a mp mg st0.v ovs gone false st.T r0 k hr0 hV.tb hA (by omega) hm2 (by omega) (hO.as (AA ++ (MF ++ (logF l d (recs.map recOf) ++ R))))).mono ?_
  rintro e w' ⟨he, AA, hA, hO⟩
  refine ⟨?_, _, ⟨l, p, mf, mp, mg, most, J, recs, fr, ovs, gone, AA, MF, h4, hm2, hA, hV, hv, hMF, hI, hV0, rfl⟩, hO.as _⟩
  rw [he, if_neg (by decide), hv]
  by_cases hk : st.has k
  · rw [if_pos hk, if_pos ((there_gone hV.gn k).2 hk)]
  · rw [if_neg hk, if_neg fun h => hk ((there_gone hV.gn k).1 h)]
theorem gWrite (E w : World) (X R A : Fr) (s d a N : Nat) (st0 st : SSt) (k at_ : Int) (t : ByteArray) (hA : Going s d a N st0 st A) (hN : N ≤ 8796000000000) (hO : Own E w X) [hp : Pick X A R] :
    Calls Tryz.prog 120 #[.pointer (some ⟨a, 0, none⟩), .int .i64 k, .int .i64 at_, .string t] w fun e w' =>
      e = .returned (.int .i64 (if st.has k then (if 0 ≤ at_ ∧ at_ + t.size ≤ 512 then 0 else 1) else 3)) ∧
      ∃ A', Going s d a N st0 (if st.has k ∧ 0 ≤ at_ ∧ at_ + t.size ≤ 512 then { st with v := upd st.v k.toNat (putB (st.v k.toNat) at_.toNat t.data.toList) } else st) A' ∧ Own E w' (A' ++ R) := by
  replace hO := hO.perm hp.perm
  obtain ⟨l, p, mf, mp, mg, most, J, recs, fr, ovs, gone, AA, MF, h4, hm2, hA, hV, hv, hMF, hI, hV0, rfl⟩ := hA
  obtain ⟨r0, hr0⟩ := hV.zero
  refine (aWrite E _ _ (MF ++ (logF l d (recs.map recOf) ++ R)) AA s l p mf d most N a mp mg st0.v ovs gone false st.T r0 k at_ t hr0 hV.tb hA (by omega) hm2 (by omega) (hO.as (AA ++ (MF ++ (logF l d (recs.map recOf) ++ R))))).mono ?_
  rintro e w' ⟨he, ovs', AA, hA, hO, hz, hnz⟩
  have hE : wrE false st.T gone k at_ t = (if st.has k then (if 0 ≤ at_ ∧ at_ + t.size ≤ 512 then 0 else 1) else 3) := by
    unfold wrE
    rw [if_neg (by decide)]
    by_cases hk : st.has k
    · rw [if_pos hk, if_pos ((there_gone hV.gn k).2 hk)]
    · rw [if_neg hk, if_neg fun h => hk ((there_gone hV.gn k).1 h)]
  refine ⟨by rw [he, hE], ?_⟩
  by_cases hc : st.has k ∧ 0 ≤ at_ ∧ at_ + t.size ≤ 512
  · rw [hE, if_pos hc.1, if_pos hc.2] at hz
    have hP := hz rfl
    rw [if_pos hc]
    have hk := hc.1
    have h1 : 1 ≤ k := hk.1
    have h2 : k ≤ st.T := hk.2.1
    have h3 : k.toNat ∉ st.c := hk.2.2
    refine ⟨_, ⟨l, p, mf, mp, mg, most, J, recs, fr, ovs', gone, AA, MF, h4, hm2, hA, ⟨?_, hV.nd, hV.wt, hV.gn, ?_⟩, ?_, hMF, hI, hV0, rfl⟩, hO.as _⟩
    · obtain ⟨F, hM, hC⟩ := hV.ex
      refine ⟨F, ?_, hC.congr fun x hx => ?_⟩
      · rw [hP.1, if_neg (by omega)]; exact hM
      · rw [hP.1, if_neg]; exact fun e => h3 (e ▸ hx)
    · intro o ho
      rcases (hP.2 o.k).1 ⟨o, ho, rfl⟩ with h | ⟨q, hq, h⟩
      · have hTT : ({ st with v := upd st.v k.toNat (putB (st.v k.toNat) at_.toNat t.data.toList) } : SSt).T = st.T := rfl
        omega
      · have := hV.kb q hq; show o.k ≤ st.T; omega
    · funext j
      show upd st.v k.toNat _ j = _
      rw [hP.1 j, hv]
      rfl
  · rw [if_neg hc]
    have h0 : wrE false st.T gone k at_ t ≠ 0 := by
      rw [hE]
      by_cases h1 : st.has k
      · rw [if_pos h1, if_neg fun h => hc ⟨h1, h⟩]; decide
      · rw [if_neg h1]; decide
    rw [hnz h0] at hA
    exact ⟨_, ⟨l, p, mf, mp, mg, most, J, recs, fr, ovs, gone, AA, MF, h4, hm2, hA, hV, hv, hMF, hI, hV0, rfl⟩, hO.as _⟩
/-- A state in which page k is new, of noughts. -/
def SSt.Alloc (st : SSt) (k : Nat) (st' : SSt) : Prop :=
  ((st.c = k :: st'.c ∧ st'.T = st.T) ∨ (st.c = [] ∧ st'.c = [] ∧ k = st.T + 1 ∧ st'.T = st.T + 1)) ∧ 1 ≤ k ∧ k < 4096 ∧ st'.rt = st.rt ∧ (∀ j, j ≠ 0 → st'.v j = if j = k then noughts else st.v j)
theorem gAlloc (E w : World) (X R A : Fr) (s d a N : Nat) (st0 st : SSt) (hA : Going s d a N st0 st A) (hN : N ≤ 8796000000000) (hO : Own E w X) [hp : Pick X A R] :
    Calls Tryz.prog 80 #[.pointer (some ⟨a, 0, none⟩)] w fun e w' =>
      (st.c = [] ∧ st.T = 4095 ∧ e = .returned (.tuple #[.int .i64 0, .int .i64 2]) ∧ ∃ A', Going s d a N st0 st A' ∧ Own E w' (A' ++ R)) ∨
      (∃ k st' A', st.Alloc k st' ∧ e = .returned (.tuple #[.int .i64 k, .int .i64 0]) ∧ Going s d a N st0 st' A' ∧ Own E w' (A' ++ R)) := by
  replace hO := hO.perm hp.perm
  obtain ⟨l, p, mf, mp, mg, most, J, recs, fr, ovs, gone, AA, MF, h4, hm2, hA, hV, hv, hMF, hI, hV0, rfl⟩ := hA
  refine (aAlloc E _ _ (MF ++ (logF l d (recs.map recOf) ++ R)) AA s l p mf d most N a mp mg st0.v ovs gone st.T st.c st.rt hV hA (by omega) hm2 (by omega) (hO.as (AA ++ (MF ++ (logF l d (recs.map recOf) ++ R))))).mono ?_
  rintro e w' (⟨h1, h2, rfl, AA, hA, hO⟩ | ⟨k, T', c', ovs', gone', AA, h1, h2, h3, rfl, hV', hv', hA, hO⟩)
  · exact .inl ⟨h1, h2, rfl, _, ⟨l, p, mf, mp, mg, most, J, recs, fr, ovs, gone, AA, MF, h4, hm2, hA, hV, hv, hMF, hI, hV0, rfl⟩, hO.as _⟩
  · exact .inr ⟨k, ⟨T', c', st.rt, oview st0.v ovs'⟩, _, ⟨h1, h2, h3, rfl, fun j hj => by rw [hv]; exact hv' j hj⟩, rfl, ⟨l, p, mf, mp, mg, most, J, recs, fr, ovs', gone', AA, MF, h4, hm2, hA, hV', rfl, hMF, hI, hV0, rfl⟩, hO.as _⟩
/-- A state in which page k is free. -/
def SSt.Free (st : SSt) (k : Nat) (st' : SSt) : Prop := st'.T = st.T ∧ st'.c = k :: st.c ∧ st'.rt = st.rt ∧ ∀ j, j ≠ 0 → j ≠ k → st'.v j = st.v j
theorem gFree (E w : World) (X R A : Fr) (s d a N : Nat) (st0 st : SSt) (k : Int) (hA : Going s d a N st0 st A) (hN : N ≤ 8796000000000) (hO : Own E w X) [hp : Pick X A R] :
    Calls Tryz.prog 90 #[.pointer (some ⟨a, 0, none⟩), .int .i64 k] w fun e w' =>
      (¬ st.has k ∧ e = .returned (.int .i64 3) ∧ ∃ A', Going s d a N st0 st A' ∧ Own E w' (A' ++ R)) ∨
      (st.has k ∧ e = .returned (.int .i64 0) ∧ ∃ st' A', st.Free k.toNat st' ∧ Going s d a N st0 st' A' ∧ Own E w' (A' ++ R)) := by
  replace hO := hO.perm hp.perm
  obtain ⟨l, p, mf, mp, mg, most, J, recs, fr, ovs, gone, AA, MF, h4, hm2, hA, hV, hv, hMF, hI, hV0, rfl⟩ := hA
  refine (aFree E _ _ (MF ++ (logF l d (recs.map recOf) ++ R)) AA s l p mf d most N a mp mg st0.v ovs gone st.T st.c st.rt k hV hA (by omega) hm2 (by omega) (hO.as (AA ++ (MF ++ (logF l d (recs.map recOf) ++ R))))).mono ?_
  rintro e w' (⟨h1, rfl, AA, hA, hO⟩ | ⟨h1, rfl, ovs', gone', AA, hV', hv', hA, hO⟩)
  · rw [there_gone hV.gn] at h1
    exact .inl ⟨h1, rfl, _, ⟨l, p, mf, mp, mg, most, J, recs, fr, ovs, gone, AA, MF, h4, hm2, hA, hV, hv, hMF, hI, hV0, rfl⟩, hO.as _⟩
  · rw [there_gone hV.gn] at h1
    exact .inr ⟨h1, rfl, ⟨st.T, k.toNat :: st.c, st.rt, oview st0.v ovs'⟩, _, ⟨rfl, rfl, rfl, fun j h0 hj => by rw [hv]; exact hv' j h0 hj⟩, ⟨l, p, mf, mp, mg, most, J, recs, fr, ovs', gone', AA, MF, h4, hm2, hA, hV', rfl, hMF, hI, hV0, rfl⟩, hO.as _⟩
theorem gRoot (E w : World) (X R A : Fr) (s d a N : Nat) (st0 st : SSt) (k : Int) (hA : Going s d a N st0 st A) (hN : N ≤ 8796000000000) (hO : Own E w X) [hp : Pick X A R] :
    Calls Tryz.prog 44 #[.pointer (some ⟨a, 0, none⟩), .int .i64 k] w fun e w' => e = .returned (.tuple (if 0 ≤ k ∧ k < 16 then #[.int .i64 (st.rt k.toNat), .int .i64 0] else #[.int .i64 0, .int .i64 1])) ∧ ∃ A', Going s d a N st0 st A' ∧ Own E w' (A' ++ R) := by
  replace hO := hO.perm hp.perm
  obtain ⟨l, p, mf, mp, mg, most, J, recs, fr, ovs, gone, AA, MF, h4, hm2, hA, hV, hv, hMF, hI, hV0, rfl⟩ := hA
  obtain ⟨F, hM, hC⟩ := hV.ex
  refine (aRoot E _ _ (MF ++ (logF l d (recs.map recOf) ++ R)) AA s l p mf d most N a mp mg st0.v ovs gone false st.rt k hM.rts hA (by omega) hm2 (by omega) (hO.as (AA ++ (MF ++ (logF l d (recs.map recOf) ++ R))))).mono ?_
  rintro e w' ⟨he, AA, hA, hO⟩
  exact ⟨by rw [he, if_neg (by decide)], _, ⟨l, p, mf, mp, mg, most, J, recs, fr, ovs, gone, AA, MF, h4, hm2, hA, hV, hv, hMF, hI, hV0, rfl⟩, hO.as _⟩
theorem gSetRoot (E w : World) (X R A : Fr) (s d a N : Nat) (st0 st : SSt) (k n : Int) (hA : Going s d a N st0 st A) (hN : N ≤ 8796000000000) (hO : Own E w X) [hp : Pick X A R] :
    Calls Tryz.prog 82 #[.pointer (some ⟨a, 0, none⟩), .int .i64 k, .int .i64 n] w fun e w' =>
      (¬ (0 ≤ k ∧ k < 16 ∧ 0 ≤ n ∧ n ≤ 2147483647) ∧ e = .returned (.int .i64 1) ∧ ∃ A', Going s d a N st0 st A' ∧ Own E w' (A' ++ R)) ∨
      ((0 ≤ k ∧ k < 16 ∧ 0 ≤ n ∧ n ≤ 2147483647) ∧ e = .returned (.int .i64 0) ∧ ∃ v' A', (∀ j, j ≠ 0 → v' j = st.v j) ∧ Going s d a N st0 { st with rt := upd st.rt k.toNat n.toNat, v := v' } A' ∧ Own E w' (A' ++ R)) := by
  replace hO := hO.perm hp.perm
  obtain ⟨l, p, mf, mp, mg, most, J, recs, fr, ovs, gone, AA, MF, h4, hm2, hA, hV, hv, hMF, hI, hV0, rfl⟩ := hA
  refine (aSetRoot E _ _ (MF ++ (logF l d (recs.map recOf) ++ R)) AA s l p mf d most N a mp mg st0.v ovs gone false k n hA (by omega) hm2 (by omega) (hO.as (AA ++ (MF ++ (logF l d (recs.map recOf) ++ R))))).mono ?_
  rintro e w' ⟨he, ovs', AA, hA, hO, hz, hnz⟩
  by_cases hc : 0 ≤ k ∧ k < 16 ∧ 0 ≤ n ∧ n ≤ 2147483647
  · have h0 : srE false k n = 0 := by unfold srE; rw [if_neg (by decide), if_pos hc]
    have hP := hz h0
    rw [h0] at he
    obtain ⟨F, hM, hC⟩ := hV.ex
    refine .inr ⟨hc, he, oview st0.v ovs', _, fun j hj => by rw [hP.1, if_neg hj, hv], ⟨l, p, mf, mp, mg, most, J, recs, fr, ovs', gone, AA, MF, h4, hm2, hA, ⟨⟨F, ?_, hC.congr fun x hx => ?_⟩, hV.nd, hV.wt, hV.gn, ?_⟩, rfl, hMF, hI, hV0, rfl⟩, hO.as _⟩
    · rw [hP.1, if_pos rfl]
      exact hM.setR (by omega) (by omega)
    · rw [hP.1, if_neg]
      have := hV.wt x hx
      omega
    · intro o ho
      rcases (hP.2 o.k).1 ⟨o, ho, rfl⟩ with h | ⟨q, hq, h⟩
      · show o.k ≤ st.T; omega
      · have := hV.kb q hq; show o.k ≤ st.T; omega
  · have h0 : srE false k n = 1 := by unfold srE; rw [if_neg (by decide), if_neg hc]
    rw [hnz (by rw [h0]; decide)] at hA
    rw [h0] at he
    exact .inl ⟨hc, he, _, ⟨l, p, mf, mp, mg, most, J, recs, fr, ovs, gone, AA, MF, h4, hm2, hA, hV, hv, hMF, hI, hV0, rfl⟩, hO.as _⟩
theorem gAbort (E w : World) (X R A : Fr) (s d a N : Nat) (st0 st : SSt) (hA : Going s d a N st0 st A) (hO : Own E w X) [hp : Pick X A R] :
    Calls Tryz.prog 53 #[.pointer (some ⟨a, 0, none⟩)] w fun e w' => e = .returned (.int .i64 0) ∧ ∃ A' B, Idle s d N st0 A' ∧ Gone s a B ∧ Own E w' (A' ++ (B ++ R)) := by
  replace hO := hO.perm hp.perm
  obtain ⟨l, p, mf, mp, mg, most, J, recs, fr, ovs, gone, AA, MF, h4, hm2, hA, hV, hv, hMF, hI, hV0, rfl⟩ := hA
  obtain ⟨PA, MP, MG, hS, hMP, hMG, hok, hnd, rfl⟩ := hA
  refine (aAbort E _ _ (MF ++ (logF l d (recs.map recOf) ++ (PA ++ R))) s l p mf a mp mg (some ⟨a, 0, none⟩) (hO.as ((actF a s mp mg false ++ spF s l p (some ⟨a, 0, none⟩) mf) ++ (MF ++ (logF l d (recs.map recOf) ++ (PA ++ R)))))).mono ?_
  rintro e w' ⟨rfl, hO⟩
  exact ⟨rfl, _, _, ⟨l, p, mf, most, J, recs, fr, PA, MF, h4, hm2, hS, hMF, hI, hV0, rfl⟩, ⟨mp, mg, rfl⟩, hO.as _⟩
theorem ovs_len2 {ovs : List Ov} {T : Nat} (hn : (ovs.map (·.k)).Nodup) (hk : ∀ o ∈ ovs, o.k ≤ T) : ovs.length ≤ T + 1 := by
  have h1 : ((ovs.map (·.k)).map (fun n : Nat => (n : Int))).Nodup := List.Pairwise.map _ (fun a b hab e => hab (Int.ofNat.inj e)) hn
  have := len_of_sub (b := (List.range (T + 1)).map (fun k : Nat => (k : Int))) h1 fun k hk' => by
    obtain ⟨n, hn, rfl⟩ := List.mem_map.1 hk'
    obtain ⟨o, ho, rfl⟩ := List.mem_map.1 hn
    exact List.mem_map.2 ⟨o.k, List.mem_range.2 (by have := hk o ho; omega), rfl⟩
  simpa using this
theorem gCommit (E w : World) (X R A : Fr) (s d a N : Nat) (st0 st : SSt) (hT : st.T ≤ 2031) (hA : Going s d a N st0 st A) (hN : N ≤ 8796000000000) (hO : Own E w X) [hp : Pick X A R] :
    Calls Tryz.prog 13 #[.pointer (some ⟨a, 0, none⟩)] w fun e w' => e = .returned (.int .i64 0) ∧ ∃ A' B, Idle s d (N + 5000) st A' ∧ Gone s a B ∧ Own E w' (A' ++ (B ++ R)) := by
  replace hO := hO.perm hp.perm
  obtain ⟨l, p, mf, mp, mg, most, J, recs, fr, ovs, gone, AA, MF, h4, hm2, hA, hV, hv, hMF, hI, hV0, rfl⟩ := hA
  have hlen : ovs.length ≤ 2032 := by
    obtain ⟨_, _, _, _, _, _, _, hnd, _⟩ := hA
    have := ovs_len2 hnd hV.kb
    omega
  refine (aCommit E _ _ (MF ++ R) AA recs s l p mf d most N a mp mg st0.v ovs gone hI hA (by omega) hm2 (by omega) (hO.as ((AA ++ logF l d (recs.map recOf)) ++ (MF ++ R)))).mono ?_
  rintro e w' (⟨h1, _⟩ | ⟨_, rfl, recs', J', PA, MG, hI', hMG, hS, hO⟩)
  · omega
  · rw [← hv] at hI' hS
    refine ⟨rfl, _, _, ⟨l, p, mg, most, J', recs', gone, PA, MG, h4, hm2, hS, hMG, hI', ?_, rfl⟩, ⟨mp, mg, rfl⟩, hO.as _⟩
    obtain ⟨F, hM, hC⟩ := hV.ex
    rw [← hv] at hM hC
    exact ⟨⟨F, hM, hC⟩, hV.nd, hV.wt, hV.gn, by simp⟩
theorem gPages (E w : World) (X R A : Fr) (s d N : Nat) (st : SSt) (hA : Idle s d N st A) (hN : N ≤ 8796000000000) (hO : Own E w X) [hp : Pick X A R] :
    Calls Tryz.prog 19 #[.pointer (some ⟨s, 0, none⟩)] w fun e w' => ∃ (sa : Option Addr) (cap : Nat) (hs : List Int) (S A' : Fr), e = .returned (.tuple #[.int .i64 st.T, .slice sa hs.length cap]) ∧ hs.Perm (st.c.map fun n : Nat => (n : Int)) ∧ hs.Pairwise (fun x y => x < y) ∧
      Sl 3 1 sa hs.length cap (hs.map (Value.int .i64)) S ∧ Idle s d N st A' ∧ Own E w' (S ++ (A' ++ R)) := by
  replace hO := hO.perm hp.perm
  obtain ⟨l, p, mf, most, J, recs, fr, PA, MF, h4, hm2, hS, hMF, hI, hV, rfl⟩ := hA
  obtain ⟨r0, hr0⟩ := hV.zero
  have hfl : fr.length ≤ 4096 := by
    rw [hV.gn.length_eq]
    have h1 : (st.c.map (fun n : Nat => (n : Int))).Nodup := List.Pairwise.map _ (fun a b hab e => hab (Int.ofNat.inj e)) hV.nd
    have := len_of_sub (b := (List.range 4096).map (fun k : Nat => (k : Int))) h1 fun k hk' => by
      obtain ⟨n, hn, rfl⟩ := List.mem_map.1 hk'
      exact List.mem_map.2 ⟨n, List.mem_range.2 (by have := hV.wt n hn; have := hV.tb; omega), rfl⟩
    simpa using this
  refine (sPages E _ _ (logF l d (recs.map recOf) ++ R) PA MF s l p mf none d most N st.v fr st.T r0 hr0 hV.tb hfl hMF hS (by omega) hm2 (by omega) (hO.as ((spF s l p none mf ++ (MF ++ PA)) ++ (logF l d (recs.map recOf) ++ R)))).mono ?_
  rintro e w' ⟨sa, cap, hs, S, PA, MF, rfl, hperm, hrise, hSl, hS, hMF, hO⟩
  exact ⟨sa, cap, hs, S, _, rfl, hperm.trans (hV.gn.map _), hrise, hSl, ⟨l, p, mf, most, J, recs, fr, PA, MF, h4, hm2, hS, hMF, hI, hV, rfl⟩, hO.as _⟩


/-- A space without pages. -/
def st00 : SSt := ⟨0, [], fun _ => 0, fun _ => noughts⟩
theorem view00 : View st00.v [] [] st00.T st00.c st00.rt := by
  refine ⟨⟨0, ⟨noughts_len, ⟨noughts.drop 8, ?_⟩, fun k hk => ⟨by show (0 : Nat) < 4294967296; decide, four_iff.2 ?_⟩, by decide, by decide⟩, rfl⟩, List.nodup_nil, by simp [st00], .refl _, by simp⟩
  · show noughts = _
    rfl
  · show ((noughts.drop (8 + 4 * k)).take 4) = hd4 0
    unfold noughts
    rw [List.drop_replicate, List.take_replicate, Nat.min_eq_left (by omega)]
    decide
theorem gOpen00 (E w : World) (X R D : Fr) (d most : Nat) (hD : DiskAt d [] D) (hm : 4 ≤ most) (hm2 : most ≤ 1024) (hO : Own E w X) [hp : Pick X D R] :
    Calls Tryz.prog 15 #[.pointer (some ⟨d, 0, none⟩), .int .i64 most] w fun e w' => ∃ s A, e = .returned (.tuple #[.pointer (some ⟨s, 0, none⟩), .int .i64 0]) ∧ Idle s d 4194305 st00 A ∧ Own E w' (A ++ R) := by
  refine (sOpen E _ X R D [] _ d most 0 st00.v [] st00.T st00.c st00.rt (DiskC.new hD) (fun _ => noughts_len) view00 hm hm2 (by decide) hO).mono ?_
  rintro e w' ⟨s, l, p, mf, PA, MF, rfl, hS, hMF, hO⟩
  rw [Nat.zero_add] at hS
  exact ⟨s, _, rfl, ⟨l, p, mf, most, _, [], [], PA, MF, hm, hm2, hS, hMF, SpI.nil _, view00, rfl⟩, hO.as _⟩
theorem gOpen (E w : World) (X R A : Fr) (s d most N : Nat) (st : SSt) (hA : Idle s d N st A) (hm : 4 ≤ most) (hm2 : most ≤ 1024) (hN : N ≤ 8796000000000) (hO : Own E w X) [hp : Pick X A R] :
    Calls Tryz.prog 15 #[.pointer (some ⟨d, 0, none⟩), .int .i64 most] w fun e w' => ∃ s A, e = .returned (.tuple #[.pointer (some ⟨s, 0, none⟩), .int .i64 0]) ∧ Idle s d (N + 4194305) st A ∧ Own E w' (A ++ R) := by
  replace hO := hO.perm hp.perm
  obtain ⟨l, p, mf, most0, J, recs, fr, PA, MF, _, _, hS, hMF, hI, hV, rfl⟩ := hA
  have hcl := hS.clen
  obtain ⟨P, D, rfl, hD⟩ := hS.disk hI
  refine (sOpen E _ _ R D recs J d most N st.v fr st.T st.c st.rt hD hcl hV hm hm2 (by omega) (hO.as (D ++ R))).mono ?_
  rintro e w' ⟨s, l, p, mf, PA, MF, rfl, hS, hMF, hO⟩
  exact ⟨s, _, rfl, ⟨l, p, mf, most, J, recs, st.c, PA, MF, hm, hm2, hS, hMF, hI, ⟨hV.ex, hV.nd, hV.wt, .refl _, by simp⟩, rfl⟩, hO.as _⟩
theorem gRead_ok (E w : World) (X R A : Fr) (s d a N : Nat) (st0 st : SSt) (k : Nat) (hk : st.has k) (hA : Going s d a N st0 st A) (hN : N ≤ 8796000000000) (hO : Own E w X) [hp : Pick X A R] :
    Calls Tryz.prog 124 #[.pointer (some ⟨a, 0, none⟩), .int .i64 k] w fun e w' => e = .returned (.tuple #[.string ⟨(st.v k).toArray⟩, .int .i64 0]) ∧ ∃ A', Going s d a N st0 st A' ∧ Own E w' (A' ++ R) := by
  have h := gRead E w X R A s d a N st0 st k hA hN hO
  rwa [if_pos hk] at h
theorem gRead_no (E w : World) (X R A : Fr) (s d a N : Nat) (st0 st : SSt) (k : Int) (hk : ¬ st.has k) (hA : Going s d a N st0 st A) (hN : N ≤ 8796000000000) (hO : Own E w X) [hp : Pick X A R] :
    Calls Tryz.prog 124 #[.pointer (some ⟨a, 0, none⟩), .int .i64 k] w fun e w' => e = .returned (.tuple #[.string .empty, .int .i64 3]) ∧ ∃ A', Going s d a N st0 st A' ∧ Own E w' (A' ++ R) := by
  have h := gRead E w X R A s d a N st0 st k hA hN hO
  rwa [if_neg hk] at h
/-- A page is written. -/
def SSt.put (st : SSt) (k at_ : Nat) (t : List UInt8) : SSt := { st with v := upd st.v k (putB (st.v k) at_ t) }
theorem gWrite_ok (E w : World) (X R A : Fr) (s d a N : Nat) (st0 st : SSt) (k at_ : Nat) (t : ByteArray) (hk : st.has k) (hat : at_ + t.size ≤ 512) (hA : Going s d a N st0 st A) (hN : N ≤ 8796000000000) (hO : Own E w X) [hp : Pick X A R] :
    Calls Tryz.prog 120 #[.pointer (some ⟨a, 0, none⟩), .int .i64 k, .int .i64 at_, .string t] w fun e w' => e = .returned (.int .i64 0) ∧ ∃ A', Going s d a N st0 (st.put k at_ t.data.toList) A' ∧ Own E w' (A' ++ R) := by
  have h := gWrite E w X R A s d a N st0 st k at_ t hA hN hO
  have h2 : 0 ≤ (at_ : Int) ∧ (at_ : Int) + t.size ≤ 512 := by omega
  rw [if_pos hk, if_pos h2] at h
  simp only [if_pos (And.intro hk h2)] at h
  exact h
theorem gRoot_ok (E w : World) (X R A : Fr) (s d a N : Nat) (st0 st : SSt) (k : Nat) (hk : k < 16) (hA : Going s d a N st0 st A) (hN : N ≤ 8796000000000) (hO : Own E w X) [hp : Pick X A R] :
    Calls Tryz.prog 44 #[.pointer (some ⟨a, 0, none⟩), .int .i64 k] w fun e w' => e = .returned (.tuple #[.int .i64 (st.rt k), .int .i64 0]) ∧ ∃ A', Going s d a N st0 st A' ∧ Own E w' (A' ++ R) := by
  have h := gRoot E w X R A s d a N st0 st k hA hN hO
  rwa [if_pos (by omega)] at h
theorem gRoot_no (E w : World) (X R A : Fr) (s d a N : Nat) (st0 st : SSt) (k : Int) (hk : ¬ (0 ≤ k ∧ k < 16)) (hA : Going s d a N st0 st A) (hN : N ≤ 8796000000000) (hO : Own E w X) [hp : Pick X A R] :
    Calls Tryz.prog 44 #[.pointer (some ⟨a, 0, none⟩), .int .i64 k] w fun e w' => e = .returned (.tuple #[.int .i64 0, .int .i64 1]) ∧ ∃ A', Going s d a N st0 st A' ∧ Own E w' (A' ++ R) := by
  have h := gRoot E w X R A s d a N st0 st k hA hN hO
  rwa [if_neg hk] at h
theorem gSetRoot_ok (E w : World) (X R A : Fr) (s d a N : Nat) (st0 st : SSt) (k n : Nat) (hk : k < 16) (hn : n ≤ 2147483647) (hA : Going s d a N st0 st A) (hN : N ≤ 8796000000000) (hO : Own E w X) [hp : Pick X A R] :
    Calls Tryz.prog 82 #[.pointer (some ⟨a, 0, none⟩), .int .i64 k, .int .i64 n] w fun e w' => e = .returned (.int .i64 0) ∧ ∃ v' A', (∀ j, j ≠ 0 → v' j = st.v j) ∧ Going s d a N st0 { st with rt := upd st.rt k n, v := v' } A' ∧ Own E w' (A' ++ R) := by
  refine (gSetRoot E w X R A s d a N st0 st k n hA hN hO).mono ?_
  rintro e w' (⟨h, _⟩ | ⟨_, rfl, v', A', h1, h2, h3⟩)
  · exact (h (by omega)).elim
  · exact ⟨rfl, v', A', h1, h2, h3⟩
theorem gFree_ok (E w : World) (X R A : Fr) (s d a N : Nat) (st0 st : SSt) (k : Nat) (hk : st.has k) (hA : Going s d a N st0 st A) (hN : N ≤ 8796000000000) (hO : Own E w X) [hp : Pick X A R] :
    Calls Tryz.prog 90 #[.pointer (some ⟨a, 0, none⟩), .int .i64 k] w fun e w' => e = .returned (.int .i64 0) ∧ ∃ st' A', st.Free k st' ∧ Going s d a N st0 st' A' ∧ Own E w' (A' ++ R) := by
  refine (gFree E w X R A s d a N st0 st k hA hN hO).mono ?_
  rintro e w' (⟨h, _⟩ | ⟨_, h⟩)
  · exact (h hk).elim
  · exact h
end Go.Proofs.YtkfkcloefgfkaaaGreat

/- Space: actions that are over, actions and spaces that nobody made. -/
namespace Go.Proofs.YtkfkcloefgfkaaaGreat
open Go Go.RowKit Go.Own Go.Dk

/-- An action that nobody began (n = 1), or that is over (n = 5). -/
def DeadA (w : World) (v : Value) (n : Int) : Prop :=
  (n = 1 ∧ (v = .pointer none ∨ ∃ a, v = .pointer (some ⟨a, 0, none⟩) ∧ w.cell? ⟨a, 0, none⟩ = some (.pointer none))) ∨
  (n = 5 ∧ ∃ a s, v = .pointer (some ⟨a, 0, none⟩) ∧ w.cell? ⟨a, 0, none⟩ = some (.pointer (some ⟨s, 0, none⟩)) ∧ w.cell? ⟨a, 3, none⟩ = some (.bool true))
theorem DeadA.or {w : World} {v : Value} {n : Int} (h : DeadA w v n) : n = 1 ∨ n = 5 := by
  rcases h with ⟨h, _⟩ | ⟨h, _⟩
  · exact .inl h
  · exact .inr h
theorem Gone.dead {E w : World} {X A R : Fr} {s a : Nat} (h : Gone s a A) (hO : Own E w X) [hp : Pick X A R] : DeadA w (.pointer (some ⟨a, 0, none⟩)) 5 := by
  obtain ⟨mp, mg, rfl⟩ := h
  have hO1 := hO.perm hp.perm
  unfold actF at hO1
  refine .inr ⟨rfl, a, s, rfl, ?_, ?_⟩
  · rw [hO1.cell (b := a)]; rfl
  · rw [hO1.cell (b := a)]; rfl
set_option maxRecDepth 100000 in
set_option maxHeartbeats 16000000 in
theorem xGoing (v : Value) (n : Int) (w : World) (h : DeadA w v n) : Calls Tryz.prog 50 #[v] w fun e w' => e = .returned (.int .i64 n) ∧ w = w' := by
  rcases h with ⟨rfl, rfl | ⟨a, rfl, hc⟩⟩ | ⟨rfl, a, s, rfl, hc, hd⟩
  all_goals (
    go_enter Tryz.func50, Tryz.ntmps50
    go_wp2
    go_ret
    exact ⟨rfl, rfl⟩)
set_option maxRecDepth 100000 in
set_option maxHeartbeats 16000000 in
theorem xThere (v : Value) (n k : Int) (w : World) (h : DeadA w v n) : Calls Tryz.prog 133 #[v, .int .i64 k] w fun e w' => e = .returned (.int .i64 n) ∧ w = w' := by
  rcases h.or with rfl | rfl
  all_goals (
    go_enter Tryz.func133, Tryz.ntmps133
    go_wp2_with fail
    refine (xGoing _ _ _ h).mono ?_
    rintro e w1 ⟨rfl, rfl⟩
    go_wp2_with fail
    go_ret
    exact ⟨rfl, rfl⟩)
set_option maxRecDepth 100000 in
set_option maxHeartbeats 16000000 in
theorem xRead (v : Value) (n k : Int) (w : World) (h : DeadA w v n) : Calls Tryz.prog 124 #[v, .int .i64 k] w fun e w' => e = .returned (.tuple #[.string .empty, .int .i64 n]) ∧ w = w' := by
  rcases h.or with rfl | rfl
  all_goals (
    go_enter Tryz.func124, Tryz.ntmps124
    go_wp2_with fail
    refine (xThere _ _ _ _ h).mono ?_
    rintro e w1 ⟨rfl, rfl⟩
    go_wp2_with fail
    go_ret2
    exact ⟨rfl, rfl⟩)
set_option maxRecDepth 100000 in
set_option maxHeartbeats 16000000 in
theorem xWrite (v : Value) (n k at_ : Int) (t : ByteArray) (w : World) (h : DeadA w v n) : Calls Tryz.prog 120 #[v, .int .i64 k, .int .i64 at_, .string t] w fun e w' => e = .returned (.int .i64 n) ∧ w = w' := by
  rcases h.or with rfl | rfl
  all_goals (
    go_enter Tryz.func120, Tryz.ntmps120
    go_wp2_with fail
    refine (xThere _ _ _ _ h).mono ?_
    rintro e w1 ⟨rfl, rfl⟩
    go_wp2_with fail
    go_ret
    exact ⟨rfl, rfl⟩)
set_option maxRecDepth 100000 in
set_option maxHeartbeats 16000000 in
theorem xFree (v : Value) (n k : Int) (w : World) (h : DeadA w v n) : Calls Tryz.prog 90 #[v, .int .i64 k] w fun e w' => e = .returned (.int .i64 n) ∧ w = w' := by
  rcases h.or with rfl | rfl
  all_goals (
    go_enter Tryz.func90, Tryz.ntmps90
    go_wp2_with fail
    refine (xThere _ _ _ _ h).mono ?_
    rintro e w1 ⟨rfl, rfl⟩
    go_wp2_with fail
    go_ret
    exact ⟨rfl, rfl⟩)
set_option maxRecDepth 100000 in
set_option maxHeartbeats 16000000 in
theorem xAlloc (v : Value) (n : Int) (w : World) (h : DeadA w v n) : Calls Tryz.prog 80 #[v] w fun e w' => e = .returned (.tuple #[.int .i64 0, .int .i64 n]) ∧ w = w' := by
  rcases h.or with rfl | rfl
  all_goals (
    go_enter Tryz.func80, Tryz.ntmps80
    go_wp2_with fail
    refine (xGoing _ _ _ h).mono ?_
    rintro e w1 ⟨rfl, rfl⟩
    go_wp2_with fail
    go_ret2
    exact ⟨rfl, rfl⟩)
set_option maxRecDepth 100000 in
set_option maxHeartbeats 16000000 in
theorem xRoot (v : Value) (n k : Int) (w : World) (h : DeadA w v n) : Calls Tryz.prog 44 #[v, .int .i64 k] w fun e w' => e = .returned (.tuple #[.int .i64 0, .int .i64 n]) ∧ w = w' := by
  rcases h.or with rfl | rfl
  all_goals (
    go_enter Tryz.func44, Tryz.ntmps44
    go_wp2_with fail
    refine (xGoing _ _ _ h).mono ?_
    rintro e w1 ⟨rfl, rfl⟩
    go_wp2_with fail
    go_ret2
    exact ⟨rfl, rfl⟩)
set_option maxRecDepth 100000 in
set_option maxHeartbeats 16000000 in
theorem xSetRoot (v : Value) (n k m : Int) (w : World) (h : DeadA w v n) : Calls Tryz.prog 82 #[v, .int .i64 k, .int .i64 m] w fun e w' => e = .returned (.int .i64 n) ∧ w = w' := by
  rcases h.or with rfl | rfl
  all_goals (
    go_enter Tryz.func82, Tryz.ntmps82
    go_wp2_with fail
    refine (xGoing _ _ _ h).mono ?_
    rintro e w1 ⟨rfl, rfl⟩
    go_wp2_with fail
    go_ret
    exact ⟨rfl, rfl⟩)
set_option maxRecDepth 100000 in
set_option maxHeartbeats 16000000 in
theorem xCommit (v : Value) (n : Int) (w : World) (h : DeadA w v n) : Calls Tryz.prog 13 #[v] w fun e w' => e = .returned (.int .i64 n) ∧ w = w' := by
  rcases h.or with rfl | rfl
  all_goals (
    go_enter Tryz.func13, Tryz.ntmps13
    go_wp2_with fail
    refine (xGoing _ _ _ h).mono ?_
    rintro e w1 ⟨rfl, rfl⟩
    go_wp2_with fail
    go_ret
    exact ⟨rfl, rfl⟩)
set_option maxRecDepth 100000 in
set_option maxHeartbeats 16000000 in
theorem xAbort (v : Value) (n : Int) (w : World) (h : DeadA w v n) : Calls Tryz.prog 53 #[v] w fun e w' => e = .returned (.int .i64 n) ∧ w = w' := by
  rcases h.or with rfl | rfl
  all_goals (
    go_enter Tryz.func53, Tryz.ntmps53
    go_wp2_with fail
    refine (xGoing _ _ _ h).mono ?_
    rintro e w1 ⟨rfl, rfl⟩
    go_wp2_with fail
    go_ret
    exact ⟨rfl, rfl⟩)
/-- A space that nobody opened. -/
def NoS (w : World) (v : Value) : Prop := v = .pointer none ∨ ∃ s, v = .pointer (some ⟨s, 0, none⟩) ∧ w.cell? ⟨s, 1, none⟩ = some (.pointer none)
set_option maxRecDepth 100000 in
set_option maxHeartbeats 16000000 in
theorem nsGiven (v : Value) (w : World) (h : NoS w v) : Calls Tryz.prog 57 #[v] w fun e w' => e = .returned (.bool false) ∧ w = w' := by
  rcases h with rfl | ⟨s, rfl, hc⟩
  all_goals (
    go_enter Tryz.func57, Tryz.ntmps57
    go_wp2
    go_ret
    exact ⟨rfl, rfl⟩)
set_option maxRecDepth 100000 in
set_option maxHeartbeats 16000000 in
theorem nsBegin (v : Value) (w : World) (h : NoS w v) : Calls Tryz.prog 14 #[v] w fun e w' => e = .returned (.tuple #[.pointer none, .int .i64 1]) ∧ w = w' := by
  go_enter Tryz.func14, Tryz.ntmps14
  go_wp2_with fail
  refine (nsGiven _ _ h).mono ?_
  rintro e w1 ⟨rfl, rfl⟩
  go_wp2_with fail
  go_ret2
  exact ⟨rfl, rfl⟩
set_option maxRecDepth 100000 in
set_option maxHeartbeats 16000000 in
theorem nsPages (v : Value) (w : World) (h : NoS w v) : Calls Tryz.prog 19 #[v] w fun e w' => e = .returned (.tuple #[.int .i64 0, .slice none 0 0]) ∧ w = w' := by
  go_enter Tryz.func19, Tryz.ntmps19
  go_wp2_with fail
  refine (nsGiven _ _ h).mono ?_
  rintro e w1 ⟨rfl, rfl⟩
  go_wp2_with fail
  go_ret2
  exact ⟨rfl, rfl⟩




end Go.Proofs.YtkfkcloefgfkaaaGreat

/- Heap: slots, pages, New, first. -/
namespace Go.Dk
open Go.Own Go.RowKit

/-- A place of a page. -/
structure Slot where
  st : Nat
  row : ByteArray
def SlotOk (x : Slot) : Prop := x.st ≤ 2 ∧ x.row.size ≤ 400
def slotV (x : Slot) : List Value := [.int .i64 x.st, .string x.row]
def slV (l : List Slot) : List Value := l.flatMap slotV
theorem slV_length (l : List Slot) : (slV l).length = l.length * 2 := by
  induction l with
  | nil => rfl
  | cons x l ih => rw [slV, List.flatMap_cons, List.length_append, List.length_cons]; show 2 + (slV l).length = _; omega
theorem slV_app (a b : List Slot) : slV (a ++ b) = slV a ++ slV b := by simp [slV]
def slotB (x : Slot) : List UInt8 := UInt8.ofNat x.st :: UInt8.ofNat (x.row.size / 256) :: UInt8.ofNat x.row.size :: x.row.data.toList
def slotsB (l : List Slot) : List UInt8 := l.flatMap slotB
def pagP (next : Nat) (l : List Slot) : List UInt8 := UInt8.ofNat (next / 256) :: UInt8.ofNat next :: UInt8.ofNat l.length :: slotsB l
def pageB (next : Nat) (l : List Slot) : List UInt8 := pagP next l ++ List.replicate (512 - (pagP next l).length) 0
theorem row_len (s : ByteArray) : s.data.toList.length = s.size := by rw [Array.length_toList]; rfl
theorem slotB_len (x : Slot) : (slotB x).length = 3 + x.row.size := by
  unfold slotB
  rw [List.length_cons, List.length_cons, List.length_cons, row_len]
  omega
theorem slotsB_app (a b : List Slot) : slotsB (a ++ b) = slotsB a ++ slotsB b := by simp [slotsB]
theorem slotsB_cons (x : Slot) (b : List Slot) : slotsB (x :: b) = slotB x ++ slotsB b := by simp [slotsB]
theorem pagP_len (next : Nat) (l : List Slot) : (pagP next l).length = 3 + (slotsB l).length := by
  unfold pagP
  rw [List.length_cons, List.length_cons, List.length_cons]
  omega
/-- A page of slots. -/
structure PgOk (next : Nat) (l : List Slot) : Prop where
  nx : next < 4096
  len : l.length ≤ 64
  fit : (pagP next l).length ≤ 512
  ok : ∀ x ∈ l, SlotOk x
theorem pageB_len {next : Nat} {l : List Slot} (h : PgOk next l) : (pageB next l).length = 512 := by
  have := h.fit
  unfold pageB
  rw [List.length_append, List.length_replicate]
  omega
/-- Where slot j begins. -/
def offS (l : List Slot) (j : Nat) : Nat := 3 + (slotsB (l.take j)).length
theorem offS_succ {l : List Slot} {j : Nat} (h : j < l.length) : offS l (j + 1) = offS l j + (3 + (l[j]).row.size) := by
  unfold offS
  rw [List.take_succ_eq_append_getElem h, slotsB_app, List.length_append, slotsB_cons, List.length_append, slotB_len]
  show 3 + (_ + (_ + 0)) = _
  omega
theorem offS_le {next : Nat} {l : List Slot} {j : Nat} (h : j ≤ l.length) : offS l j ≤ (pagP next l).length := by
  rw [pagP_len]
  unfold offS
  have : slotsB l = slotsB (l.take j) ++ slotsB (l.drop j) := by rw [← slotsB_app, List.take_append_drop]
  rw [this, List.length_append]
  omega
/-- The bytes from slot j on. -/
theorem page_drop {next : Nat} {l : List Slot} {j : Nat} (h : j < l.length) : ∃ r, (pageB next l).drop (offS l j) = slotB l[j] ++ r := by
  have e : slotsB l = slotsB (l.take j) ++ (slotB l[j] ++ slotsB (l.drop (j + 1))) := by
    rw [← slotsB_cons, ← slotsB_app]
    congr 1
    rw [← List.drop_eq_getElem_cons h, List.take_append_drop]
  refine ⟨slotsB (l.drop (j + 1)) ++ List.replicate (512 - (pagP next l).length) 0, ?_⟩
  have h1 : pageB next l = (UInt8.ofNat (next / 256) :: UInt8.ofNat next :: UInt8.ofNat l.length :: slotsB (l.take j)) ++ (slotB l[j] ++ (slotsB (l.drop (j + 1)) ++ List.replicate (512 - (pagP next l).length) 0)) := by
    unfold pageB
    generalize List.replicate (512 - (pagP next l).length) (0 : UInt8) = z
    rw [pagP, e]
    simp only [List.cons_append, List.append_assoc]
  rw [h1]
  have h2 : offS l j = (UInt8.ofNat (next / 256) :: UInt8.ofNat next :: UInt8.ofNat l.length :: slotsB (l.take j)).length := by
    unfold offS
    rw [List.length_cons, List.length_cons, List.length_cons]
    omega
  rw [h2, List.drop_left]
end Go.Dk
namespace Go.Proofs.YtkfkcloefgfkaaaGreat
open Go Go.RowKit Go.Own Go.Dk

def heapF (h a root : Nat) : Fr := pt h (.cells #[.pointer (some ⟨a, 0, none⟩), .int .i64 root] 86 (0, 0))
set_option maxRecDepth 100000 in
set_option maxHeartbeats 16000000 in
theorem hNew (E w : World) (X R A : Fr) (s d a N : Nat) (st0 st : SSt) (root : Nat) (hr : root < 16) (hA : Going s d a N st0 st A) (hN : N ≤ 8796000000000) (hO : Own E w X) [hp : Pick X A R] :
    Calls Tryz.prog 11 #[.pointer (some ⟨a, 0, none⟩), .int .i64 root] w fun e w' => ∃ h A', e = .returned (.tuple #[.pointer (some ⟨h, 0, none⟩), .int .i64 0]) ∧ Going s d a N st0 st A' ∧ Own E w' (heapF h a root ++ (A' ++ R)) := by
  replace hO := hO.perm hp.perm
  clear hp
  go_enter Tryz.func11, Tryz.ntmps11
  go_wp2_with fail
  refine (gRoot_ok E _ _ _ A s d a N st0 st root hr hA hN hO).mono ?_
  clear hO hA
  rintro e w1 ⟨rfl, A, hA, hO⟩
  go_wp2_with (first | (refine at_box ?_; go_must (refine own_box (v := ?_) hO ?_ ?_ ?_; rotate_left; (· rfl); (· ((conv => lhs; whnf); try exact rfl)); clear hO; (try clear hF); intro h _ hO; (try simp only [Value.cells] at hO); ((try simp only [List.nil_append, List.append_nil] at hO); have hF := Own.cells hO; simp only [cellsOf_append, cellsOf_pt] at hF); simp only [Act.put, List.setIfInBounds_toArray, List.set_cons_zero, List.set_cons_succ])))
  go_ret2
  exact ⟨h, A, rfl, hA, hO⟩
set_option maxRecDepth 100000 in
set_option maxHeartbeats 16000000 in
theorem hFirst (E w : World) (X R A : Fr) (s d a N h : Nat) (st0 st : SSt) (root : Nat) (hr : root < 16) (hA : Going s d a N st0 st A) (hN : N ≤ 8796000000000) (hO : Own E w X) [hp : Pick X (heapF h a root ++ A) R] :
    Calls Tryz.prog 93 #[.pointer (some ⟨h, 0, none⟩)] w fun e w' => e = .returned (.tuple #[.int .i64 (st.rt root), .int .i64 0]) ∧ ∃ A', Going s d a N st0 st A' ∧ Own E w' (heapF h a root ++ (A' ++ R)) := by
  replace hO : Own E w (heapF h a root ++ (A ++ R)) := by have := hO.perm hp.perm; rwa [List.append_assoc] at this
  clear hp
  go_enter Tryz.func93, Tryz.ntmps93
  unfold heapF at hO
  ((try simp only [List.nil_append, List.append_nil] at hO); have hF := Own.cells hO; simp only [cellsOf_append, cellsOf_pt] at hF)
  go_wp2_with fail
  (try (go_wp2_with fail))
  refine region_sch (fun w' => Own E w' (pt h (.cells #[.pointer (some ⟨a, 0, none⟩), .int .i64 root] 86 (0, 0)))) (.look 0 (.look 1 (.look 2 (.look 3 (.look 4 (.look 5 (.look 6 (.look 7 (.act 8 (.look 9 (.look 10 (.look 11 (.look 12 .done))))))))))))) (by kernel_rfl) (by kernel_rfl) (fun _ _ d _ _ h => by cases d <;> exact h) ?_ ?_
  · exact hO.drew.as _
  replace hO := hO.drew
  generalize World.drew _ = wdr at hO ⊢
  first | (refine sch_look (o := ?_) (v := ?_) ?_ ?_ ?_ ?_; rotate_left 2; (· ((conv => lhs; whnf); try exact rfl)); (· rfl); (· intro w' hO'; (have hF' := Own.cells hO'; simp only [cellsOf_append, cellsOf_pt] at hF'); go_simp; (try exact rfl)); simp only [Act.put, List.setIfInBounds_toArray, List.set_cons_zero, List.set_cons_succ]) | (refine sch_pass (o := ?_) ?_ ?_ ?_; rotate_left; (· ((conv => lhs; whnf); try exact rfl)); (· rfl); simp only [Act.put, List.setIfInBounds_toArray, List.set_cons_zero, List.set_cons_succ]) | (refine sch_look (o := ?_) (v := .agg ?_) ?_ ?_ ?_ ?_; rotate_left 2; (· ((conv => lhs; whnf); try exact rfl)); (· rfl); (· intro w' hO'; refine run_opLoadS (b := ?_) (cs := ?_) (e := ?_) (f := ?_) hO' ?_ ?_ ?_ ?_; rotate_left 4; (· exact rfl); (· exact inferInstance); (· simp; done); (· simp; done)); simp only [Act.put, List.setIfInBounds_toArray, List.set_cons_zero, List.set_cons_succ])
  first | (refine sch_look (o := ?_) (v := ?_) ?_ ?_ ?_ ?_; rotate_left 2; (· ((conv => lhs; whnf); try exact rfl)); (· rfl); (· intro w' hO'; (have hF' := Own.cells hO'; simp only [cellsOf_append, cellsOf_pt] at hF'); go_simp; (try exact rfl)); simp only [Act.put, List.setIfInBounds_toArray, List.set_cons_zero, List.set_cons_succ]) | (refine sch_pass (o := ?_) ?_ ?_ ?_; rotate_left; (· ((conv => lhs; whnf); try exact rfl)); (· rfl); simp only [Act.put, List.setIfInBounds_toArray, List.set_cons_zero, List.set_cons_succ]) | (refine sch_look (o := ?_) (v := .agg ?_) ?_ ?_ ?_ ?_; rotate_left 2; (· ((conv => lhs; whnf); try exact rfl)); (· rfl); (· intro w' hO'; refine run_opLoadS (b := ?_) (cs := ?_) (e := ?_) (f := ?_) hO' ?_ ?_ ?_ ?_; rotate_left 4; (· exact rfl); (· exact inferInstance); (· simp; done); (· simp; done)); simp only [Act.put, List.setIfInBounds_toArray, List.set_cons_zero, List.set_cons_succ])
  first | (refine sch_look (o := ?_) (v := ?_) ?_ ?_ ?_ ?_; rotate_left 2; (· ((conv => lhs; whnf); try exact rfl)); (· rfl); (· intro w' hO'; (have hF' := Own.cells hO'; simp only [cellsOf_append, cellsOf_pt] at hF'); go_simp; (try exact rfl)); simp only [Act.put, List.setIfInBounds_toArray, List.set_cons_zero, List.set_cons_succ]) | (refine sch_pass (o := ?_) ?_ ?_ ?_; rotate_left; (· ((conv => lhs; whnf); try exact rfl)); (· rfl); simp only [Act.put, List.setIfInBounds_toArray, List.set_cons_zero, List.set_cons_succ]) | (refine sch_look (o := ?_) (v := .agg ?_) ?_ ?_ ?_ ?_; rotate_left 2; (· ((conv => lhs; whnf); try exact rfl)); (· rfl); (· intro w' hO'; refine run_opLoadS (b := ?_) (cs := ?_) (e := ?_) (f := ?_) hO' ?_ ?_ ?_ ?_; rotate_left 4; (· exact rfl); (· exact inferInstance); (· simp; done); (· simp; done)); simp only [Act.put, List.setIfInBounds_toArray, List.set_cons_zero, List.set_cons_succ])
  first | (refine sch_look (o := ?_) (v := ?_) ?_ ?_ ?_ ?_; rotate_left 2; (· ((conv => lhs; whnf); try exact rfl)); (· rfl); (· intro w' hO'; (have hF' := Own.cells hO'; simp only [cellsOf_append, cellsOf_pt] at hF'); go_simp; (try exact rfl)); simp only [Act.put, List.setIfInBounds_toArray, List.set_cons_zero, List.set_cons_succ]) | (refine sch_pass (o := ?_) ?_ ?_ ?_; rotate_left; (· ((conv => lhs; whnf); try exact rfl)); (· rfl); simp only [Act.put, List.setIfInBounds_toArray, List.set_cons_zero, List.set_cons_succ]) | (refine sch_look (o := ?_) (v := .agg ?_) ?_ ?_ ?_ ?_; rotate_left 2; (· ((conv => lhs; whnf); try exact rfl)); (· rfl); (· intro w' hO'; refine run_opLoadS (b := ?_) (cs := ?_) (e := ?_) (f := ?_) hO' ?_ ?_ ?_ ?_; rotate_left 4; (· exact rfl); (· exact inferInstance); (· simp; done); (· simp; done)); simp only [Act.put, List.setIfInBounds_toArray, List.set_cons_zero, List.set_cons_succ])
  first | (refine sch_look (o := ?_) (v := ?_) ?_ ?_ ?_ ?_; rotate_left 2; (· ((conv => lhs; whnf); try exact rfl)); (· rfl); (· intro w' hO'; (have hF' := Own.cells hO'; simp only [cellsOf_append, cellsOf_pt] at hF'); go_simp; (try exact rfl)); simp only [Act.put, List.setIfInBounds_toArray, List.set_cons_zero, List.set_cons_succ]) | (refine sch_pass (o := ?_) ?_ ?_ ?_; rotate_left; (· ((conv => lhs; whnf); try exact rfl)); (· rfl); simp only [Act.put, List.setIfInBounds_toArray, List.set_cons_zero, List.set_cons_succ]) | (refine sch_look (o := ?_) (v := .agg ?_) ?_ ?_ ?_ ?_; rotate_left 2; (· ((conv => lhs; whnf); try exact rfl)); (· rfl); (· intro w' hO'; refine run_opLoadS (b := ?_) (cs := ?_) (e := ?_) (f := ?_) hO' ?_ ?_ ?_ ?_; rotate_left 4; (· exact rfl); (· exact inferInstance); (· simp; done); (· simp; done)); simp only [Act.put, List.setIfInBounds_toArray, List.set_cons_zero, List.set_cons_succ])
  first | (refine sch_look (o := ?_) (v := ?_) ?_ ?_ ?_ ?_; rotate_left 2; (· ((conv => lhs; whnf); try exact rfl)); (· rfl); (· intro w' hO'; (have hF' := Own.cells hO'; simp only [cellsOf_append, cellsOf_pt] at hF'); go_simp; (try exact rfl)); simp only [Act.put, List.setIfInBounds_toArray, List.set_cons_zero, List.set_cons_succ]) | (refine sch_pass (o := ?_) ?_ ?_ ?_; rotate_left; (· ((conv => lhs; whnf); try exact rfl)); (· rfl); simp only [Act.put, List.setIfInBounds_toArray, List.set_cons_zero, List.set_cons_succ]) | (refine sch_look (o := ?_) (v := .agg ?_) ?_ ?_ ?_ ?_; rotate_left 2; (· ((conv => lhs; whnf); try exact rfl)); (· rfl); (· intro w' hO'; refine run_opLoadS (b := ?_) (cs := ?_) (e := ?_) (f := ?_) hO' ?_ ?_ ?_ ?_; rotate_left 4; (· exact rfl); (· exact inferInstance); (· simp; done); (· simp; done)); simp only [Act.put, List.setIfInBounds_toArray, List.set_cons_zero, List.set_cons_succ])
  first | (refine sch_look (o := ?_) (v := ?_) ?_ ?_ ?_ ?_; rotate_left 2; (· ((conv => lhs; whnf); try exact rfl)); (· rfl); (· intro w' hO'; (have hF' := Own.cells hO'; simp only [cellsOf_append, cellsOf_pt] at hF'); go_simp; (try exact rfl)); simp only [Act.put, List.setIfInBounds_toArray, List.set_cons_zero, List.set_cons_succ]) | (refine sch_pass (o := ?_) ?_ ?_ ?_; rotate_left; (· ((conv => lhs; whnf); try exact rfl)); (· rfl); simp only [Act.put, List.setIfInBounds_toArray, List.set_cons_zero, List.set_cons_succ]) | (refine sch_look (o := ?_) (v := .agg ?_) ?_ ?_ ?_ ?_; rotate_left 2; (· ((conv => lhs; whnf); try exact rfl)); (· rfl); (· intro w' hO'; refine run_opLoadS (b := ?_) (cs := ?_) (e := ?_) (f := ?_) hO' ?_ ?_ ?_ ?_; rotate_left 4; (· exact rfl); (· exact inferInstance); (· simp; done); (· simp; done)); simp only [Act.put, List.setIfInBounds_toArray, List.set_cons_zero, List.set_cons_succ])
  first | (refine sch_look (o := ?_) (v := ?_) ?_ ?_ ?_ ?_; rotate_left 2; (· ((conv => lhs; whnf); try exact rfl)); (· rfl); (· intro w' hO'; (have hF' := Own.cells hO'; simp only [cellsOf_append, cellsOf_pt] at hF'); go_simp; (try exact rfl)); simp only [Act.put, List.setIfInBounds_toArray, List.set_cons_zero, List.set_cons_succ]) | (refine sch_pass (o := ?_) ?_ ?_ ?_; rotate_left; (· ((conv => lhs; whnf); try exact rfl)); (· rfl); simp only [Act.put, List.setIfInBounds_toArray, List.set_cons_zero, List.set_cons_succ]) | (refine sch_look (o := ?_) (v := .agg ?_) ?_ ?_ ?_ ?_; rotate_left 2; (· ((conv => lhs; whnf); try exact rfl)); (· rfl); (· intro w' hO'; refine run_opLoadS (b := ?_) (cs := ?_) (e := ?_) (f := ?_) hO' ?_ ?_ ?_ ?_; rotate_left 4; (· exact rfl); (· exact inferInstance); (· simp; done); (· simp; done)); simp only [Act.put, List.setIfInBounds_toArray, List.set_cons_zero, List.set_cons_succ])
  (refine sch_act (o := ?_) ?_ ?_; rotate_left; (· ((conv => lhs; whnf); try exact rfl)))
  go_wp2_with fail
  refine (gRoot_ok E _ _ _ A s d a N st0 st root hr hA hN hO).mono ?_
  clear hO hA
  (try clear hF)
  rintro e w4 ⟨rfl, A, hA, hO⟩
  go_wp2_with fail
  refine ⟨hO.as _, ?_⟩
  first | (refine sch_look (o := ?_) (v := ?_) ?_ ?_ ?_ ?_; rotate_left 2; (· ((conv => lhs; whnf); try exact rfl)); (· rfl); (· intro w' hO'; (have hF' := Own.cells hO'; simp only [cellsOf_append, cellsOf_pt] at hF'); go_simp; (try exact rfl)); simp only [Act.put, List.setIfInBounds_toArray, List.set_cons_zero, List.set_cons_succ]) | (refine sch_pass (o := ?_) ?_ ?_ ?_; rotate_left; (· ((conv => lhs; whnf); try exact rfl)); (· rfl); simp only [Act.put, List.setIfInBounds_toArray, List.set_cons_zero, List.set_cons_succ]) | (refine sch_look (o := ?_) (v := .agg ?_) ?_ ?_ ?_ ?_; rotate_left 2; (· ((conv => lhs; whnf); try exact rfl)); (· rfl); (· intro w' hO'; refine run_opLoadS (b := ?_) (cs := ?_) (e := ?_) (f := ?_) hO' ?_ ?_ ?_ ?_; rotate_left 4; (· exact rfl); (· exact inferInstance); (· simp; done); (· simp; done)); simp only [Act.put, List.setIfInBounds_toArray, List.set_cons_zero, List.set_cons_succ])
  first | (refine sch_look (o := ?_) (v := ?_) ?_ ?_ ?_ ?_; rotate_left 2; (· ((conv => lhs; whnf); try exact rfl)); (· rfl); (· intro w' hO'; (have hF' := Own.cells hO'; simp only [cellsOf_append, cellsOf_pt] at hF'); go_simp; (try exact rfl)); simp only [Act.put, List.setIfInBounds_toArray, List.set_cons_zero, List.set_cons_succ]) | (refine sch_pass (o := ?_) ?_ ?_ ?_; rotate_left; (· ((conv => lhs; whnf); try exact rfl)); (· rfl); simp only [Act.put, List.setIfInBounds_toArray, List.set_cons_zero, List.set_cons_succ]) | (refine sch_look (o := ?_) (v := .agg ?_) ?_ ?_ ?_ ?_; rotate_left 2; (· ((conv => lhs; whnf); try exact rfl)); (· rfl); (· intro w' hO'; refine run_opLoadS (b := ?_) (cs := ?_) (e := ?_) (f := ?_) hO' ?_ ?_ ?_ ?_; rotate_left 4; (· exact rfl); (· exact inferInstance); (· simp; done); (· simp; done)); simp only [Act.put, List.setIfInBounds_toArray, List.set_cons_zero, List.set_cons_succ])
  first | (refine sch_look (o := ?_) (v := ?_) ?_ ?_ ?_ ?_; rotate_left 2; (· ((conv => lhs; whnf); try exact rfl)); (· rfl); (· intro w' hO'; (have hF' := Own.cells hO'; simp only [cellsOf_append, cellsOf_pt] at hF'); go_simp; (try exact rfl)); simp only [Act.put, List.setIfInBounds_toArray, List.set_cons_zero, List.set_cons_succ]) | (refine sch_pass (o := ?_) ?_ ?_ ?_; rotate_left; (· ((conv => lhs; whnf); try exact rfl)); (· rfl); simp only [Act.put, List.setIfInBounds_toArray, List.set_cons_zero, List.set_cons_succ]) | (refine sch_look (o := ?_) (v := .agg ?_) ?_ ?_ ?_ ?_; rotate_left 2; (· ((conv => lhs; whnf); try exact rfl)); (· rfl); (· intro w' hO'; refine run_opLoadS (b := ?_) (cs := ?_) (e := ?_) (f := ?_) hO' ?_ ?_ ?_ ?_; rotate_left 4; (· exact rfl); (· exact inferInstance); (· simp; done); (· simp; done)); simp only [Act.put, List.setIfInBounds_toArray, List.set_cons_zero, List.set_cons_succ])
  first | (refine sch_look (o := ?_) (v := ?_) ?_ ?_ ?_ ?_; rotate_left 2; (· ((conv => lhs; whnf); try exact rfl)); (· rfl); (· intro w' hO'; (have hF' := Own.cells hO'; simp only [cellsOf_append, cellsOf_pt] at hF'); go_simp; (try exact rfl)); simp only [Act.put, List.setIfInBounds_toArray, List.set_cons_zero, List.set_cons_succ]) | (refine sch_pass (o := ?_) ?_ ?_ ?_; rotate_left; (· ((conv => lhs; whnf); try exact rfl)); (· rfl); simp only [Act.put, List.setIfInBounds_toArray, List.set_cons_zero, List.set_cons_succ]) | (refine sch_look (o := ?_) (v := .agg ?_) ?_ ?_ ?_ ?_; rotate_left 2; (· ((conv => lhs; whnf); try exact rfl)); (· rfl); (· intro w' hO'; refine run_opLoadS (b := ?_) (cs := ?_) (e := ?_) (f := ?_) hO' ?_ ?_ ?_ ?_; rotate_left 4; (· exact rfl); (· exact inferInstance); (· simp; done); (· simp; done)); simp only [Act.put, List.setIfInBounds_toArray, List.set_cons_zero, List.set_cons_succ])
  refine sch_done ?_
  go_wp2_with fail
  go_ret2
  exact ⟨rfl, A, hA, by unfold heapF; exact hO.as _⟩
end Go.Proofs.YtkfkcloefgfkaaaGreat
