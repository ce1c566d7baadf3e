/- Space: Pages, Pinned, flush, Checkpoint. -/
import Derived.Test.YtkfkcloefgfkaaaK5
set_option linter.all false
/- Space: Pages, Pinned, flush, Checkpoint. -/
namespace Go.Proofs.Ytkfkcloefgfkaaa
open Go Go.RowKit Go.Own Go.Dk

def PagesP (E : World) (J : Nat → Prop) (F0 : List UInt8) (s l p : Nat) (now : Option Addr) (mf d most N : Nat) (cont : Nat → List UInt8) (fr : List Nat) (T : Nat) (R : Fr) (e : Ending) (w' : World) : Prop :=
  ∃ (sa : Option Addr) (cap : Nat) (hs : List Int) (S PA MF : Fr), e = .returned (.tuple #[.int .i64 T, .slice sa hs.length cap]) ∧ hs.Perm (fr.map fun n : Nat => (n : Int)) ∧ hs.Pairwise (fun x y => x < y) ∧
    Sl 3 1 sa hs.length cap (hs.map (Value.int .i64)) S ∧ PoolS J F0 p d most N cont (fun _ => 0) PA ∧ MapAt mf (fr.map gnP) MF ∧ Own E w' (S ++ (spF s l p now mf ++ (MF ++ (PA ++ R))))
set_option maxRecDepth 100000 in
set_option maxHeartbeats 16000000 in
theorem sPages {J : Nat → Prop} {F0 : List UInt8} (E w : World) (X R PA MF : Fr) (s l p mf : Nat) (now : Option Addr) (d most N : Nat) (cont : Nat → List UInt8) (fr : List Nat) (T : Nat) (r0 : List UInt8) (hr0 : cont 0 = hd4 T ++ r0) (hT : T < 4096) (hfl : fr.length ≤ 4096) (hMF : MapAt mf (fr.map gnP) MF) (hS : PoolS J F0 p d most N cont (fun _ => 0) PA) (hm : 0 < most) (hm2 : most ≤ 1024) (hN : N ≤ 8796093022208) (hO : Own E w X) [hp : Pick X (spF s l p now mf ++ (MF ++ PA)) R] :
    Calls Try.prog 31 #[.pointer (some ⟨s, 0, none⟩)] w (PagesP E J F0 s l p now mf d most N cont fr T R) := by
  replace hO := hO.perm hp.perm
  clear hp
  generalize hpost : PagesP E J F0 s l p now mf d most N cont fr T R = POST
  have HPOST := Lib.hid hpost
  clear hpost
  go_enter Try.func31, Try.ntmps31
  go_wp2_with fail
  refine (sGiven E _ _ _ s l p mf now hO).mono ?_
  rintro e w1 ⟨rfl, rfl⟩
  unfold spF at hO
  ((try simp only [List.nil_append, List.append_nil] at hO); have hF := Own.cells hO; simp only [cellsOf_append, cellsOf_pt] at hF)
  have hlen : (fr.map gnP).length = fr.length := by simp
  go_wp2_with (refine at_rng ?_; go_must (refine own_range (kt := 3) (et := 4) (b := mf) (l := fr.map gnP) (by kernel_rfl) hO hMF ?_ ?_ ?_; (· rfl); (· rfl); clear hO; (try clear hF); intro r _ A1 hR hO; ((try simp only [List.nil_append, List.append_nil] at hO); have hF := Own.cells hO; simp only [cellsOf_append, cellsOf_pt] at hF); simp only [Act.put, List.setIfInBounds_toArray, List.set_cons_zero, List.set_cons_succ]))
  have hO1 := hO
  clear hO hF hMF
  go_loopw [4] (fun s4 wr => ∃ (done : List Int) (sa : Option Addr) (cap : Nat) (Z A1 : Fr), s4 = .slice sa done.length cap ∧ Sl 3 1 sa done.length cap (done.map (Value.int .i64)) Z ∧ Ranging r mf (fr.map gnP) done A1 ∧
      Own E wr (pt s (.cells #[.pointer (some ⟨l, 0, none⟩), .pointer (some ⟨p, 0, none⟩), .pointer now, .map (some mf)] 71 (0, 0)) ++ (Z ++ (A1 ++ (PA ++ R))))) (fun s4 _ => fr.length - slN s4)
  case atStart => exact ⟨[], none, 0, [], A1, rfl, Sl.nil _ _, hR, hO1.as _⟩
  case round =>
    clear hO1 hR
    obtain ⟨done, sa, cap, Z, A1, rfl, hZ, hR, hO⟩ := hrel
    have hle := hR.le
    ((try simp only [List.nil_append, List.append_nil] at hO); have hF := Own.cells hO; simp only [cellsOf_append, cellsOf_pt] at hF)
    go_wp2_with (refine at_nxt ?_; go_must (refine own_next (r := r) (b := mf) (l := fr.map gnP) (done := done) hO hR ?_ ?_ ?_ ?_; (· rfl); (· rfl)))
    · intro hperm
      simp only [Act.put, List.setIfInBounds_toArray, List.set_cons_zero, List.set_cons_succ]
      go_wp2_with fail
      refine (sortI E _ _ _ Z sa cap done hZ (by omega) hO).mono ?_; rintro e w1 ⟨rfl, Z2, hZ2, hO⟩
      obtain ⟨I, M2, hM2, rfl⟩ := hR.back
      have hnd := hR.nodup.1
      clear hF
      go_wp2_with fail
      have hO' : Own E w1 (spF s l p now mf ++ (PA ++ (Z2 ++ (M2 ++ R)))) := by unfold spF; exact hO.as _
      clear hO
      refine (sBytes E _ _ _ PA s l p mf now d most N cont 0 (by decide) hS hm hm2 hN hO').mono ?_
      clear hO' hS
      rintro e w2 ⟨b, bcap, B, PA, rfl, hB, hS, hO⟩
      have hBB := pgb_bytes (E := E) hB
      rw [hr0] at hBB
      have hrl : 512 = 4 + r0.length := by
        have := hS.clen 0
        rw [hr0, List.length_append] at this
        exact this.symm
      have hbc := hB.1
      rw [hS.clen 0] at hbc
      have hbi : (512 : Int) ≤ bcap := by omega
      have HRL := Lib.hid hrl
      have HP := Lib.hid hperm
      have HR0 := Lib.hid hr0
      clear hrl hB hperm hr0
      go_wp2_with fail
      refine (sNumber4 E _ _ _ B _ 512 _ T r0 (by omega) HRL.out hBB hO).mono ?_
      clear hO
      rintro e w3 ⟨rfl, hO⟩
      go_wp2_with fail
      rw [← HPOST.out]
      refine ⟨sa, cap, srt done, Z2, PA, M2, by rw [srt_length]; rfl, (srt_perm done).trans (by have := HP.out; rwa [gnP_keys] at this), srt_rise hnd, by rw [srt_length]; exact hZ2, hS, hM2, hO.as _⟩
    · intro k v w2 A2 hR2 hO hen
      simp only [Act.put, List.setIfInBounds_toArray, List.set_cons_zero, List.set_cons_succ]
      clear hF
      ((try simp only [List.nil_append, List.append_nil] at hO); have hF := Own.cells hO; simp only [cellsOf_append, cellsOf_pt] at hF)
      go_wp2_with (first | (refine at_bs ?_; go_must (refine own_build1 (v := ?_) sltInts hO ?_ ?_ ?_ ?_ ?_ ?_; rotate_left; (· rfl); (· ((conv => lhs; whnf); try exact rfl)); (· rfl); (· decide); (· decide); clear hO; (try clear hF); intro bs _ hO; (try simp only [Value.cells] at hO); ((try simp only [List.nil_append, List.append_nil] at hO); have hF := Own.cells hO; simp only [cellsOf_append, cellsOf_pt] at hF); simp only [Act.put, List.setIfInBounds_toArray, List.set_cons_zero, List.set_cons_succ])) | (refine at_append ?_; go_must (refine own_append_elem (b1 := ?_) (cs := ?_) (e1 := ?_) (f1 := ?_) sltInts hO ?_ ?_ ?_ hZ ?_ ?_ ?_ ?_ ?_ ?_ ?_; rotate_left 4; (· rfl); (· rfl); (· rfl); (· exact inferInstance); (· rfl); (· intro u hu; simp at hu; subst hu; rfl); (· first | omega | (simp only [maxLen]; omega)); (· decide); (· first | omega | (simp only [maxLen]; omega)); clear hO; (try clear hF); intro _ _ _ _ hS hO; ((try simp only [List.nil_append, List.append_nil] at hO); have hF := Own.cells hO; simp only [cellsOf_append, cellsOf_pt] at hF); simp only [Act.put, List.setIfInBounds_toArray, List.set_cons_zero, List.set_cons_succ])))
      have hlen1 : (done ++ [k]).length = done.length + 1 := by simp
      have hle2 := hR2.le
      go_roundw
      case rel => exact ⟨done ++ [k], _, _, _, A2, by rw [hlen1], (by rw [hlen1, List.map_append]; exact hS), hR2, hO.as _⟩
      case measure => simp [slN]; omega
end Go.Proofs.Ytkfkcloefgfkaaa

/- Space: Pinned, flush, Checkpoint. -/
namespace Go.Proofs.Ytkfkcloefgfkaaa
open Go Go.RowKit Go.Own Go.Dk

def PinnedP (E : World) (J : Nat → Prop) (F0 : List UInt8) (s l p : Nat) (now : Option Addr) (mf d most N : Nat) (cont : Nat → List UInt8) (R : Fr) (e : Ending) (w' : World) : Prop :=
  ∃ PA, e = .returned (.int .i64 0) ∧ PoolS J F0 p d most N cont (fun _ => 0) PA ∧ Own E w' (spF s l p now mf ++ (PA ++ R))
set_option maxRecDepth 100000 in
set_option maxHeartbeats 16000000 in
theorem sPinned {J : Nat → Prop} {F0 : List UInt8} (E w : World) (X R PA : Fr) (s l p mf : Nat) (now : Option Addr) (d most N : Nat) (cont : Nat → List UInt8) (hS : PoolS J F0 p d most N cont (fun _ => 0) PA) (hm : 0 < most) (hm2 : most ≤ 1024) (hO : Own E w X) [hp : Pick X (spF s l p now mf ++ PA) R] :
    Calls Try.prog 33 #[.pointer (some ⟨s, 0, none⟩)] w (PinnedP E J F0 s l p now mf d most N cont R) := by
  replace hO : Own E w (spF s l p now mf ++ (PA ++ R)) := by have := hO.perm hp.perm; rwa [List.append_assoc] at this
  clear hp
  generalize hpost : PinnedP E J F0 s l p now mf d most N cont R = POST
  have HPOST := Lib.hid hpost
  clear hpost
  go_enter Try.func33, Try.ntmps33
  go_wp2_with fail
  refine (sGiven E _ _ _ s l p mf now hO).mono ?_
  rintro e w1 ⟨rfl, rfl⟩
  unfold spF at hO
  ((try simp only [List.nil_append, List.append_nil] at hO); have hF := Own.cells hO; simp only [cellsOf_append, cellsOf_pt] at hF)
  obtain ⟨hand, fs, ml, rs, P, D, hP, hI, hD, hh, hNN, hJ, rfl⟩ := hS
  have hll : ml.length = fs.length := by rw [hI.perm.length_eq, List.length_map]
  have hfl := hI.len
  go_wp2_with fail
  refine (pHeld E _ _ _ P p d most hand fs ml hP (by omega) hm hO).mono ?_
  clear hO hF hP
  rintro e w1 ⟨sa, cap, hs, S, P, rfl, hperm, hrise, hSS, hP, hO⟩
  have hsl : hs.length = fs.length := by rw [hperm.length_eq, List.length_map, hll]
  have hsi : (hs.length : Int) ≤ 1024 := by omega
  have hin : ∀ k ∈ hs, ∃ q : Nat, k = q := by
    intro k hk
    obtain ⟨q, hq, rfl⟩ := List.mem_map.1 (hperm.mem_iff.1 hk)
    obtain ⟨f, hf, rfl⟩ := List.mem_map.1 (hI.perm.mem_iff.1 hq)
    exact ⟨f.page, rfl⟩
  have hS : PoolS J F0 p d most N cont (fun _ => 0) (P ++ D) := ⟨hand, fs, ml, rs, P, D, hP, hI, hD, hh, hNN, hJ, rfl⟩
  have HIN := Lib.hid hin
  have hO1 := hO
  clear hin hO hrise hperm hP hI hD hh hNN hJ hsl hll
  go_wp2_with fail
  go_loopw [3, 14] (fun s3 i wr => ∃ j : Nat, s3 = .int .i64 0 ∧ i = .int .i64 j ∧ j ≤ hs.length ∧
      Own E wr (S ++ (pt s (.cells #[.pointer (some ⟨l, 0, none⟩), .pointer (some ⟨p, 0, none⟩), .pointer now, .map (some mf)] 71 (0, 0)) ++ ((P ++ D) ++ R)))) (fun _ i _ => hs.length - (intOf i).toNat)
  case atStart => exact ⟨0, rfl, rfl, by omega, hO1.as _⟩
  case round =>
    clear hO1
    obtain ⟨j, rfl, rfl, hj, hO⟩ := hrel
    by_cases hlt : j < hs.length
    · have hj1 : (j : Int) < hs.length := by omega
      have hj2 : (0 : Int) ≤ j := by omega
      obtain ⟨sb, rfl⟩ := sl_some4 hSS (by omega)
      have hcell : wr.cell? ⟨sb, j, none⟩ = some (.int .i64 hs[j]) := by
        have := hSS.cell hO ⟨sb, 0, none⟩ rfl j (by simpa using hlt)
        rw [add_lit, Nat.zero_add] at this
        rw [this]
        simp
      obtain ⟨q, hq⟩ := HIN.out hs[j] (List.getElem_mem _)
      rw [hq] at hcell
      clear hq
      ((try simp only [List.nil_append, List.append_nil] at hO); have hF := Own.cells hO; simp only [cellsOf_append, cellsOf_pt] at hF)
      go_wp2_with fail
      refine (pPins E _ _ _ _ p d most N cont (fun _ => 0) q hS hm hO).mono ?_
      rintro e w2 ⟨rfl, rfl⟩
      go_wp2_with fail
      go_roundw
      case rel => exact ⟨j + 1, rfl, by go_num, by omega, hO.as _⟩
      case measure => simp [intOf]; omega
    · have hlt' : ¬ (j : Int) < hs.length := by omega
      ((try simp only [List.nil_append, List.append_nil] at hO); have hF := Own.cells hO; simp only [cellsOf_append, cellsOf_pt] at hF)
      go_wp2_with fail
      rw [← HPOST.out]
      exact ⟨P ++ D, rfl, hS, by unfold spF; exact hO.as _⟩
theorem trim0_1 (rs : List Raw) : play (rs ++ [.trim 0 0]) 1 = play rs 1 := by
  rw [play_snoc]
  simp only [Raw.app]
  rw [upd_ne _ _ _ _ (by decide)]
theorem trim0_0 (rs : List Raw) : play (rs ++ [.trim 0 0]) 0 = [] := by
  rw [play_snoc]
  simp only [Raw.app, upd_same, List.take_zero]
def FlushP (E : World) (s l p : Nat) (now : Option Addr) (mf d most N : Nat) (cont : Nat → List UInt8) (R : Fr) (e : Ending) (w' : World) : Prop :=
  ∃ PA, e = .returned (.tuple #[]) ∧ PoolS (fun _ => False) [] p d most (N + 1) cont (fun _ => 0) PA ∧ Own E w' (spF s l p now mf ++ (logF l d [] ++ (PA ++ R)))
set_option maxRecDepth 100000 in
set_option maxHeartbeats 16000000 in
theorem sFlush {J : Nat → Prop} {F0 : List UInt8} (E w : World) (X R PA : Fr) (s l p mf : Nat) (now : Option Addr) (d most N : Nat) (cont : Nat → List UInt8) (recs : List ByteArray) (hS : PoolS J F0 p d most N cont (fun _ => 0) PA) (hm : 0 < most) (hm2 : most ≤ 1024) (hN : N ≤ 8796093022200) (hO : Own E w X) [hp : Pick X (spF s l p now mf ++ (logF l d recs ++ PA)) R] :
    Calls Try.prog 69 #[.pointer (some ⟨s, 0, none⟩)] w (FlushP E s l p now mf d most N cont R) := by
  replace hO : Own E w (spF s l p now mf ++ (logF l d recs ++ (PA ++ R))) := by have := hO.perm hp.perm; rwa [List.append_assoc, List.append_assoc] at this
  clear hp
  generalize hpost : FlushP E s l p now mf d most N cont R = POST
  have HPOST := Lib.hid hpost
  clear hpost
  go_enter Try.func69, Try.ntmps69
  unfold spF at hO
  ((try simp only [List.nil_append, List.append_nil] at hO); have hF := Own.cells hO; simp only [cellsOf_append, cellsOf_pt] at hF)
  go_wp2_with fail
  refine (pFlush E _ _ _ PA p d most N cont (fun _ => 0) hS hm hm2 (by omega) hO).mono ?_
  clear hO hF hS
  rintro e w2 ⟨rfl, hand, fs, ml, rs, P, D, hP, hI, hD, hh, hNN, hJ, hall, hO⟩
  ((try simp only [List.nil_append, List.append_nil] at hO); have hF := Own.cells hO; simp only [cellsOf_append, cellsOf_pt] at hF)
  go_wp2_with fail
  refine (lReset E _ _ _ D l d recs rs hD (by omega) hO).mono ?_
  clear hO hF
  rintro e w3 ⟨rfl, D, hD, hO⟩
  go_wp2_with fail
  go_end0
  rw [← HPOST.out]
  refine ⟨P ++ D, rfl, ⟨hand, fs, ml, _, P, D, hP, by rw [trim0_1]; exact hI, hD, hh, by simp; omega, ⟨trim0_0 rs, fun k hk _ => ?_⟩, rfl⟩, by unfold spF; exact hO.as _⟩
  rw [trim0_1]
  exact hI.disk k hk fun f hf _ => hall f hf
set_option maxRecDepth 100000 in
set_option maxHeartbeats 16000000 in
theorem sCheckpoint {J : Nat → Prop} {F0 : List UInt8} (E w : World) (X R PA : Fr) (s l p mf : Nat) (d most N : Nat) (cont : Nat → List UInt8) (recs : List ByteArray) (hS : PoolS J F0 p d most N cont (fun _ => 0) PA) (hm : 0 < most) (hm2 : most ≤ 1024) (hN : N ≤ 8796093022200) (hO : Own E w X) [hp : Pick X (spF s l p none mf ++ (logF l d recs ++ PA)) R] :
    Calls Try.prog 32 #[.pointer (some ⟨s, 0, none⟩)] w fun e w' => e = .returned (.int .i64 0) ∧ ∃ PA, PoolS (fun _ => False) [] p d most (N + 1) cont (fun _ => 0) PA ∧ Own E w' (spF s l p none mf ++ (logF l d [] ++ (PA ++ R))) := by
  replace hO : Own E w (spF s l p none mf ++ (logF l d recs ++ (PA ++ R))) := by have := hO.perm hp.perm; rwa [List.append_assoc, List.append_assoc] at this
  clear hp
  go_enter Try.func32, Try.ntmps32
  go_wp2_with fail
  refine (sGiven E _ _ _ s l p mf none hO).mono ?_
  rintro e w1 ⟨rfl, rfl⟩
  have hO0 := hO
  unfold spF at hO
  ((try simp only [List.nil_append, List.append_nil] at hO); have hF := Own.cells hO; simp only [cellsOf_append, cellsOf_pt] at hF)
  go_wp2_with fail
  refine (sFlush E _ _ _ PA s l p mf none d most N cont recs hS hm hm2 hN hO0).mono ?_
  clear hO hF hS hO0
  rintro e w2 ⟨PA, rfl, hS, hO⟩
  go_wp2_with fail
  go_ret
  exact ⟨rfl, PA, hS, hO⟩
end Go.Proofs.Ytkfkcloefgfkaaa

/- Space: what the log's records make of the pages; a record is appended. -/
namespace Go.Dk
open Go.Own Go.RowKit

abbrev Es := List (Nat × List UInt8)
def repl (c : Nat → List UInt8) (recs : List Es) : Nat → List UInt8 := recs.foldl appE c
theorem repl_snoc (c : Nat → List UInt8) (recs : List Es) (es : Es) : repl c (recs ++ [es]) = appE (repl c recs) es := by simp [repl]
theorem appE_cons (c : Nat → List UInt8) (e : Nat × List UInt8) (es : Es) : appE c (e :: es) = appE (upd c e.1 e.2) es := rfl
theorem appE_pt : ∀ {es : Es} {c c2 : Nat → List UInt8} {k : Nat}, c k = c2 k → appE c es k = appE c2 es k
  | [], _, _, _, h => h
  | e :: es, c, c2, k, h => by
    rw [appE_cons, appE_cons]
    refine appE_pt ?_
    by_cases hk : k = e.1
    · subst hk; rw [upd_same, upd_same]
    · rw [upd_ne _ _ _ _ hk, upd_ne _ _ _ _ hk, h]
theorem appE_out : ∀ {es : Es} {c : Nat → List UInt8} {k : Nat}, (∀ e ∈ es, e.1 ≠ k) → appE c es k = c k
  | [], _, _, _ => rfl
  | e :: es, c, k, h => by
    rw [appE_cons, appE_out fun x hx => h x (List.mem_cons_of_mem _ hx), upd_ne _ _ _ _ (fun e' => h e (by simp) e'.symm)]
theorem appE_in : ∀ {es : Es} {c c2 : Nat → List UInt8} {k : Nat}, (∃ e ∈ es, e.1 = k) → appE c es k = appE c2 es k
  | [], _, _, _, h => by obtain ⟨e, he, _⟩ := h; cases he
  | e :: es, c, c2, k, h => by
    rw [appE_cons, appE_cons]
    by_cases hk : k = e.1
    · subst hk
      exact appE_pt (by rw [upd_same, upd_same])
    · obtain ⟨e', he, hek⟩ := h
      rcases List.mem_cons.1 he with rfl | he
      · exact absurd hek.symm hk
      · exact appE_in ⟨e', he, hek⟩
theorem repl_pt : ∀ {recs : List Es} {c c2 : Nat → List UInt8} {k : Nat}, c k = c2 k → repl c recs k = repl c2 recs k
  | [], _, _, _, h => h
  | es :: recs, c, c2, k, h => by
    show repl (appE c es) recs k = repl (appE c2 es) recs k
    exact repl_pt (appE_pt h)
/-- The records, laid over file 1, give the pages. -/
structure SpI (recs : List Es) (J : Nat → Prop) (cont : Nat → List UInt8) : Prop where
  ok : ∀ es ∈ recs, EsOk es ∧ es ≠ [] ∧ es.length ≤ 2032 ∧ ∀ e ∈ es, J e.1
  rp : ∀ c', (∀ k, k < 4096 → ¬ J k → c' k = cont k) → ∀ k, k < 4096 → repl c' recs k = cont k
theorem SpI.nil (cont : Nat → List UInt8) : SpI [] (fun _ => False) cont := ⟨by simp, fun c' h k hk => h k hk (fun h => h)⟩
theorem SpI.snoc {recs : List Es} {J : Nat → Prop} {cont : Nat → List UInt8} (h : SpI recs J cont) {es : Es} (h1 : EsOk es) (h2 : es ≠ []) (h3 : es.length ≤ 2032) : SpI (recs ++ [es]) (fun k => J k ∨ ∃ e ∈ es, e.1 = k) (appE cont es) := by
  refine ⟨fun x hx => ?_, fun c' hc k hk => ?_⟩
  · rcases List.mem_append.1 hx with hx | hx
    · obtain ⟨a, b, c, d⟩ := h.ok x hx
      exact ⟨a, b, c, fun e he => .inl (d e he)⟩
    · rw [List.mem_singleton] at hx
      subst hx
      exact ⟨h1, h2, h3, fun e he => .inr ⟨e, he, rfl⟩⟩
  · rw [repl_snoc]
    by_cases hin : ∃ e ∈ es, e.1 = k
    · exact appE_in hin
    · have hout : ∀ e ∈ es, e.1 ≠ k := fun e he e' => hin ⟨e, he, e'⟩
      rw [appE_out hout, appE_out hout]
      have := h.rp (fun j => if (∃ e ∈ es, e.1 = j) then cont j else c' j) (fun j hj hn => by
        split
        · rfl
        · rename_i hx
          rw [hc j hj (by rintro (h | h); exact hn h; exact hx h)]
          exact appE_out fun e he e' => hx ⟨e, he, e'⟩) k hk
      rw [← this]
      exact repl_pt (by (try dsimp only); rw [if_neg hin])
theorem SpI.recs {recs : List Es} {J : Nat → Prop} {cont : Nat → List UInt8} (h : SpI recs J cont) : Recs (recs.map recOf) := by
  intro s hs
  obtain ⟨es, he, rfl⟩ := List.mem_map.1 hs
  obtain ⟨h1, h2, h3, _⟩ := h.ok es he
  have h4 := List.length_pos_iff.2 h2
  rw [recOf_size h1]
  omega
theorem SpI.mono {recs : List Es} {J : Nat → Prop} {cont cont2 : Nat → List UInt8} (h : SpI recs J cont) (hc : ∀ k, k < 4096 → cont k = cont2 k) : SpI recs J cont2 :=
  ⟨h.ok, fun c' h1 k hk => (h.rp c' (fun j hj hn => (h1 j hj hn).trans (hc j hj).symm) k hk).trans (hc k hk)⟩
theorem apR_1 (rs : List Raw) (recs : List ByteArray) (t : ByteArray) : play (apR rs recs t) 1 = play rs 1 := by
  unfold apR
  split
  · rw [show rs ++ [Raw.put 0 ((encs recs).length + 4) t, .put 0 (encs recs).length (hdB t.size)] = (rs ++ [Raw.put 0 ((encs recs).length + 4) t]) ++ [.put 0 (encs recs).length (hdB t.size)] by simp]
    rw [play_snoc, play_snoc]
    simp only [Raw.app]
    rw [upd_ne _ _ _ _ (by decide), upd_ne _ _ _ _ (by decide)]
  · rfl
theorem apR_len (rs : List Raw) (recs : List ByteArray) (t : ByteArray) : (apR rs recs t).length ≤ rs.length + 2 := by
  unfold apR
  split <;> simp
end Go.Dk
namespace Go.Proofs.Ytkfkcloefgfkaaa
open Go Go.RowKit Go.Own Go.Dk

theorem PoolS.mono {J : Nat → Prop} {F0 : List UInt8} {p d most N : Nat} {cont : Nat → List UInt8} {pins : Nat → Nat} {A : Fr} (h : PoolS J F0 p d most N cont pins A) {J' : Nat → Prop} {N' : Nat} (hJ : ∀ k, J k → J' k) (hN : N ≤ N') : PoolS J' F0 p d most N' cont pins A := by
  obtain ⟨hand, fs, l, rs, P, D, hP, hI, hD, hh, hNN, hj, rfl⟩ := h
  exact ⟨hand, fs, l, rs, P, D, hP, hI, hD, hh, by omega, ⟨hj.1, fun k hk hn => hj.2 k hk fun h => hn (hJ k h)⟩, rfl⟩
theorem poolAppend {J : Nat → Prop} (E w : World) (X R PA : Fr) (l p d most N : Nat) (cont : Nat → List UInt8) (recs : List ByteArray) (t : ByteArray) (ht : t.size ≤ maxLen) (hS : PoolS J (encs recs) p d most N cont (fun _ => 0) PA) (hN : N ≤ 8796093022200) (hO : Own E w X) [hp : Pick X (logF l d recs ++ PA) R] :
    Calls Try.prog 68 #[.pointer (some ⟨l, 0, none⟩), .string t] w fun e w' => e = .returned (.int .i64 (apE recs t)) ∧ ∃ PA', PoolS J (encs (apL recs t)) p d most (N + 2) cont (fun _ => 0) PA' ∧ Own E w' (logF l d (apL recs t) ++ (PA' ++ R)) := by
  replace hO := hO.perm hp.perm
  clear hp
  obtain ⟨hand, fs, ml, rs, P, D, hP, hI, hD, hh, hNN, hj, rfl⟩ := hS
  refine (lAppend E _ _ _ D l d recs t rs hD hj.1 (by omega) ht hO).mono ?_
  rintro e w2 ⟨rfl, D', hD', hO⟩
  have h2 := apR_len rs recs t
  refine ⟨rfl, P ++ D', ⟨hand, fs, ml, _, P, D', hP, by rw [apR_1]; exact hI, hD', hh, by omega, ⟨play_ap hj.1 t, fun k hk hn => by rw [apR_1]; exact hj.2 k hk hn⟩, rfl⟩, hO.as _⟩
end Go.Proofs.Ytkfkcloefgfkaaa
