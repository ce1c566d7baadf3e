/- Space: total, there, Read. -/
import Derived.Test.YtkfkcloefgfkaaaGreatK4
import Derived.Test.YtkfkcloefgfkaaaGreatK2
set_option linter.all false
/- Space: total, there, Read. -/
namespace Go.Proofs.YtkfkcloefgfkaaaGreat
open Go Go.RowKit Go.Own Go.Dk

theorem pgb_bytes {E : World} {e : TypeId} {b cap : Nat} {l : List UInt8} {A : Fr} (h : PgB e b l cap A) : BytesIn E A (some ⟨b, 0, none⟩) l := by
  obtain ⟨_, _, tl, f, _, _, rfl⟩ := h
  exact bytesIn_pt b l tl e f
theorem BytesIn.more {E : World} {I K : Fr} {sa : Option Addr} {l : List UInt8} (h : BytesIn E I sa l) (hs : ∀ w, Own E w K → Own E w I) : BytesIn E K sa l := fun w hO => h w (hs w hO)
/-- The state behind a page that was looked at: the block lies somewhere in the frame. -/
theorem page_out {J : Nat → Prop} {F0 : List UInt8} {E w : World} {s l p mf d most N a mp mg : Nat} {cont : Nat → List UInt8} {ovs : List Ov} {gone : List Nat} {over : Bool} {k : Nat} {R A : Fr} {o : Ov}
    (hA : ActC J F0 s l p mf d most N a mp mg cont ovs gone over A) (hc : ((∃ pre post, ovs = pre ++ o :: post ∧ ∀ q ∈ pre, q.k ≠ k) ∧ Own E w (A ++ R)) ∨ ((∀ q ∈ ovs, q.k ≠ k) ∧ Own E w (o.F ++ (A ++ R)))) (hok : OvOk o) :
    ∃ Y, Own E w (Y ++ R) ∧ BytesIn E Y (some ⟨o.b, 0, none⟩) o.l ∧ ∀ w, Own E w (Y ++ R) → Own E w (A ++ R) := by
  rcases hc with ⟨⟨pre, post, rfl, _⟩, hO⟩ | ⟨_, hO⟩
  · refine ⟨A, hO, ?_, fun _ h => h⟩
    obtain ⟨PA, MP, MG, _, _, _, _, _, rfl⟩ := hA
    refine (pgb_bytes hok.2.2).more fun w h => ?_
    rw [ovsF_app, ovsF_cons] at h
    exact h.as o.F
  · refine ⟨o.F ++ A, hO.as _, (pgb_bytes hok.2.2).more fun w h => h.as o.F, fun _ h => h.as _⟩
set_option maxRecDepth 100000 in
set_option maxHeartbeats 16000000 in
theorem aTotal {J : Nat → Prop} {F0 : List UInt8} (E w : World) (X R A : Fr) (s l p mf d most N a mp mg : Nat) (cont : Nat → List UInt8) (ovs : List Ov) (gone : List Nat) (over : Bool) (T : Nat) (r : List UInt8) (hT : oview cont ovs 0 = hd4 T ++ r) (hT2 : T < 4294967296) (hA : ActC J F0 s l p mf d most N a mp mg cont ovs gone over A) (hm : 0 < most) (hm2 : most ≤ 1024) (hN : N ≤ 8796093022208) (hO : Own E w X) [hp : Pick X A R] :
    Calls Tryz.prog 118 #[.pointer (some ⟨a, 0, none⟩)] w fun e w' => e = .returned (.int .i64 T) ∧ ∃ A', ActC J F0 s l p mf d most N a mp mg cont ovs gone over A' ∧ Own E w' (A' ++ R) := by
  replace hO := hO.perm hp.perm
  clear hp
  go_enter Tryz.func118, Tryz.ntmps118
  go_wp2_with fail
  refine (aPage E _ _ _ A s l p mf d most N a mp mg cont ovs gone over 0 (by decide) hA hm hm2 hN hO).mono ?_
  clear hO hA
  rintro e w2 ⟨o, A, hk, hok, hol, rfl, hA, hc⟩
  obtain ⟨Y, hO, hB, hY⟩ := page_out hA hc hok
  have hl := hok.2.1
  have hcap := hok.2.2.1
  rw [hol, hT] at hB
  rw [hl] at hcap
  have hcapi : (512 : Int) ≤ o.cap := by omega
  have hc0 : ¬ (o.cap = 0) := by omega
  have hr : 512 = 4 + r.length := by rw [hol, hT, List.length_append] at hl; exact hl.symm
  have HR := Lib.hid hr
  clear hl hol hc hok hr hk hT
  unfold ovV
  go_wp2_with fail
  refine (sNumber4 E _ _ _ Y _ 512 _ T r hT2 HR.out hB hO).mono ?_
  clear hO
  rintro e w3 ⟨rfl, hO⟩
  go_wp2_with fail
  go_ret
  exact ⟨rfl, A, hA, hY _ hO⟩
end Go.Proofs.YtkfkcloefgfkaaaGreat

/- Space: there. -/
namespace Go.Proofs.YtkfkcloefgfkaaaGreat
open Go Go.RowKit Go.Own Go.Dk

theorem gone_in {gone : List Nat} {k : Nat} (h : k ∈ gone) : mlook (gone.map gnP) (k : Int) = some (.bool true) := by
  unfold mlook
  induction gone with
  | nil => cases h
  | cons q l ih =>
    by_cases hq : q = k
    · subst hq
      simp [gnP]
    · rw [List.map_cons, List.find?_cons_of_neg (by simp only [gnP, beq_iff_eq]; omega)]
      exact ih ((List.mem_cons.1 h).resolve_left (Ne.symm hq))
theorem gone_out {gone : List Nat} {k : Int} (h : ∀ q ∈ gone, (q : Int) ≠ k) : mlook (gone.map gnP) k = none := by
  unfold mlook
  rw [Option.map_eq_none_iff, List.find?_eq_none]
  intro p hp
  obtain ⟨q, hq, rfl⟩ := List.mem_map.1 hp
  have := h q hq
  simpa [gnP] using this
/-- Is a page there? -/
def there (T : Nat) (gone : List Nat) (p : Int) : Prop := 1 ≤ p ∧ p ≤ T ∧ p.toNat ∉ gone
instance (T : Nat) (gone : List Nat) (p : Int) : Decidable (there T gone p) := inferInstanceAs (Decidable (_ ∧ _))
theorem zeroBool5 (w : World) : (zeroValue 4).run Tryz.prog w = .ok (.bool false) w := by kernel_rfl
set_option maxRecDepth 100000 in
set_option maxHeartbeats 16000000 in
theorem aThere {J : Nat → Prop} {F0 : List UInt8} (E w : World) (X R A : Fr) (s l p mf d most N a mp mg : Nat) (cont : Nat → List UInt8) (ovs : List Ov) (gone : List Nat) (over : Bool) (T : Nat) (r : List UInt8) (k : Int) (hT : oview cont ovs 0 = hd4 T ++ r) (hT2 : T < 4294967296) (hA : ActC J F0 s l p mf d most N a mp mg cont ovs gone over A) (hm : 0 < most) (hm2 : most ≤ 1024) (hN : N ≤ 8796093022208) (hO : Own E w X) [hp : Pick X A R] :
    Calls Tryz.prog 133 #[.pointer (some ⟨a, 0, none⟩), .int .i64 k] w fun e w' => e = .returned (.int .i64 (if over then 5 else if there T gone k then 0 else 3)) ∧ ∃ A', ActC J F0 s l p mf d most N a mp mg cont ovs gone over A' ∧ Own E w' (A' ++ R) := by
  replace hO := hO.perm hp.perm
  clear hp
  generalize hz : (if over then (5 : Int) else if there T gone k then 0 else 3) = z
  have HZ := Lib.hid hz
  clear hz
  go_enter Tryz.func133, Tryz.ntmps133
  go_wp2_with fail
  obtain ⟨PA, MP, MG, hS, hMP, hMG, hok, hnd, rfl⟩ := hA
  refine (aGoing E _ _ _ a s mp mg over hO).mono ?_
  rintro e w2 ⟨rfl, rfl⟩
  have hA : ActC J F0 s l p mf d most N a mp mg cont ovs gone over _ := ⟨PA, MP, MG, hS, hMP, hMG, hok, hnd, rfl⟩
  cases over
  rotate_left
  · go_wp2_with fail
    go_ret
    exact ⟨by rw [← HZ.out]; rfl, _, hA, hO⟩
  by_cases h1 : k < 1
  · have hd1 : decide (k < 1) = true := by simpa using h1
    have hno : ¬ there T gone k := fun h => by have := h.1; omega
    have HNO := Lib.hid hno
    clear hno
    go_wp2_with fail
    go_ret
    exact ⟨by rw [← HZ.out, if_neg (by decide), if_neg HNO.out]; rfl, _, hA, hO⟩
  have hd1 : decide (k < 1) = false := by simpa using h1
  have H1 := Lib.hid h1
  clear h1
  go_wp2_with fail
  refine (aTotal E _ _ _ _ s l p mf d most N a mp mg cont ovs gone false T r hT hT2 hA hm hm2 hN hO).mono ?_
  clear hO hA hS hMP hMG hok hnd
  rintro e w3 ⟨rfl, A, hA, hO⟩
  by_cases h2 : (T : Int) < k
  · have hd2 : decide ((T : Int) < k) = true := by simpa using h2
    have hno : ¬ there T gone k := fun h => by have := h.2.1; omega
    have HNO := Lib.hid hno
    clear hno
    go_wp2_with fail
    go_ret
    exact ⟨by rw [← HZ.out, if_neg (by decide), if_neg HNO.out]; rfl, _, hA, hO⟩
  have hd2 : decide ((T : Int) < k) = false := by simpa using h2
  have H2 := Lib.hid h2
  clear h2
  obtain ⟨PA, MP, MG, hS, hMP, hMG, hok, hnd, rfl⟩ := hA
  have hA : ActC J F0 s l p mf d most N a mp mg cont ovs gone false _ := ⟨PA, MP, MG, hS, hMP, hMG, hok, hnd, rfl⟩
  have hO0 := hO
  unfold actF at hO
  have hF := Own.cells hO; simp only [cellsOf_append, cellsOf_pt] at hF
  by_cases h3 : k.toNat ∈ gone
  · have hl := gone_in h3
    rw [show ((k.toNat : Nat) : Int) = k by have := H1.out; omega] at hl
    have hno : ¬ there T gone k := fun h => h.2.2 h3
    have HNO := Lib.hid hno
    clear hno h3
    go_wp2_with (refine at_lookup ?_; go_must (refine own_lookup (kt := 3) (et := 4) (b := mg) (k := k) (l := gone.map gnP) (by kernel_rfl) (by kernel_rfl) zeroBool5 hO hMG ?_ ?_ ?_ ?_; (· rfl); (· rfl); (· rfl); rw [hl]; simp only [Act.put, List.setIfInBounds_toArray, List.set_cons_zero, List.set_cons_succ]))
    go_ret
    exact ⟨by rw [← HZ.out, if_neg (by decide), if_neg HNO.out]; rfl, _, hA, hO0⟩
  · have hl := gone_out (gone := gone) (k := k) fun q hq e => h3 (by rw [← e]; simpa using hq)
    have hye : there T gone k := ⟨by have := H1.out; omega, by have := H2.out; omega, h3⟩
    have HYE := Lib.hid hye
    clear hye h3
    go_wp2_with (refine at_lookup ?_; go_must (refine own_lookup (kt := 3) (et := 4) (b := mg) (k := k) (l := gone.map gnP) (by kernel_rfl) (by kernel_rfl) zeroBool5 hO hMG ?_ ?_ ?_ ?_; (· rfl); (· rfl); (· rfl); rw [hl]; simp only [Act.put, List.setIfInBounds_toArray, List.set_cons_zero, List.set_cons_succ]))
    go_ret
    exact ⟨by rw [← HZ.out, if_neg (by decide), if_pos HYE.out]; rfl, _, hA, hO0⟩
end Go.Proofs.YtkfkcloefgfkaaaGreat

/- Space: Read, Write. -/
namespace Go.Proofs.YtkfkcloefgfkaaaGreat
open Go Go.RowKit Go.Own Go.Dk

theorem bytesIn_at {E : World} {Y : Fr} {ad : Addr} {l : List UInt8} (h : BytesIn E Y (some ad) l) : ∀ w, Own E w Y → ∀ j v, (bytesV l)[j]? = some v → w.cell? (ad.add j) = some v := by
  intro w hO j v hj
  have hjl : j < l.length := by
    have := (List.getElem?_eq_some_iff.1 hj).1
    rwa [bytesV_length] at this
  obtain ⟨_, h1, h2⟩ := h w hO j hjl
  cases h1
  rw [h2, ← hj]
  simp [bytesV, hjl]
  rfl
def ReadP (E : World) (J : Nat → Prop) (F0 : List UInt8) (s l p mf d most N a mp mg : Nat) (cont : Nat → List UInt8) (ovs : List Ov) (gone : List Nat) (over : Bool) (T : Nat) (k : Int) (R : Fr) (e : Ending) (w' : World) : Prop :=
  (e = .returned (.tuple (if over then #[.string .empty, .int .i64 5] else if there T gone k then #[.string ⟨(oview cont ovs k.toNat).toArray⟩, .int .i64 0] else #[.string .empty, .int .i64 3]))) ∧ ∃ A', ActC J F0 s l p mf d most N a mp mg cont ovs gone over A' ∧ Own E w' (A' ++ R)
set_option maxRecDepth 100000 in
set_option maxHeartbeats 16000000 in
theorem aRead {J : Nat → Prop} {F0 : List UInt8} (E w : World) (X R A : Fr) (s l p mf d most N a mp mg : Nat) (cont : Nat → List UInt8) (ovs : List Ov) (gone : List Nat) (over : Bool) (T : Nat) (r : List UInt8) (k : Int) (hT : oview cont ovs 0 = hd4 T ++ r) (hT2 : T < 4096) (hA : ActC J F0 s l p mf d most N a mp mg cont ovs gone over A) (hm : 0 < most) (hm2 : most ≤ 1024) (hN : N ≤ 8796093022208) (hO : Own E w X) [hp : Pick X A R] :
    Calls Tryz.prog 124 #[.pointer (some ⟨a, 0, none⟩), .int .i64 k] w (ReadP E J F0 s l p mf d most N a mp mg cont ovs gone over T k R) := by
  replace hO := hO.perm hp.perm
  clear hp
  generalize hpost : ReadP E J F0 s l p mf d most N a mp mg cont ovs gone over T k R = POST
  have HPOST := Lib.hid hpost
  clear hpost
  go_enter Tryz.func124, Tryz.ntmps124
  go_wp2_with fail
  refine (aThere E _ _ _ A s l p mf d most N a mp mg cont ovs gone over T r k hT (by omega) hA hm hm2 hN hO).mono ?_
  clear hO hA
  rintro e w2 ⟨rfl, A, hA, hO⟩
  cases over
  rotate_left
  · rw [if_pos rfl]
    go_wp2_with fail
    rw [← HPOST.out]
    exact ⟨rfl, A, hA, hO⟩
  rw [if_neg (by decide)]
  by_cases ht : there T gone k
  · rw [if_pos ht]
    obtain ⟨n, rfl⟩ : ∃ n : Nat, k = n := ⟨k.toNat, by have := ht.1; omega⟩
    have hn : n < 4096 := by have := ht.2.1; omega
    have HT := Lib.hid ht
    clear ht
    go_wp2_with fail
    refine (aPage E _ _ _ A s l p mf d most N a mp mg cont ovs gone false n hn hA hm hm2 hN hO).mono ?_
    clear hO hA
    rintro e w3 ⟨o, A, rfl, hok, hol, rfl, hA, hc⟩
    obtain ⟨Y, hO, hB, hY⟩ := page_out hA hc hok
    have hl := hok.2.1
    have hBc := bytesIn_at hB
    have HOL := Lib.hid hol
    clear hol hc hok
    unfold ovV
    go_wp2_with (first | (refine at_conv ?_; go_must (refine own_bytes_str (e := 5) (ad := ?_) (n := ?_) (cap := ?_) (l := o.l) (by kernel_rfl) (by kernel_rfl) (by kernel_rfl) ?_ ?_ ?_ ?_ ?_ ?_; rotate_left 3; (· rfl); (· ((conv => lhs; whnf); try exact rfl)); (· exact hl); (· intro b hb j v hj; cases hb; exact hBc _ (hO.as Y) j v hj); (· intro h; cases h); simp only [Act.put, List.setIfInBounds_toArray, List.set_cons_zero, List.set_cons_succ])))
    rw [← HPOST.out]
    refine ⟨?_, A, hA, hY _ hO⟩
    rw [if_neg (by decide), if_pos HT.out, show ((o.k : Nat) : Int).toNat = o.k by simp, ← HOL.out]
    rfl
  · rw [if_neg ht]
    have HT := Lib.hid ht
    clear ht
    go_wp2_with fail
    rw [← HPOST.out]
    refine ⟨?_, A, hA, hO⟩
    rw [if_neg (by decide), if_neg HT.out]
    rfl
end Go.Proofs.YtkfkcloefgfkaaaGreat

/- Space: Write. -/
namespace Go.Proofs.YtkfkcloefgfkaaaGreat
open Go Go.RowKit Go.Own Go.Dk

/-- Why bytes may not be written. -/
def wrE (over : Bool) (T : Nat) (gone : List Nat) (k at_ : Int) (t : ByteArray) : Int := if over then 5 else if there T gone k then (if 0 ≤ at_ ∧ at_ + t.size ≤ 512 then 0 else 1) else 3
def WriteP (E : World) (J : Nat → Prop) (F0 : List UInt8) (s l p mf d most N a mp mg : Nat) (cont : Nat → List UInt8) (ovs : List Ov) (gone : List Nat) (over : Bool) (T : Nat) (k at_ : Int) (t : ByteArray) (R : Fr) (e : Ending) (w' : World) : Prop :=
  e = .returned (.int .i64 (wrE over T gone k at_ t)) ∧ ∃ ovs' A', ActC J F0 s l p mf d most N a mp mg cont ovs' gone over A' ∧ Own E w' (A' ++ R) ∧
    (wrE over T gone k at_ t = 0 → PutO cont ovs k.toNat (putB (oview cont ovs k.toNat) at_.toNat t.data.toList) ovs') ∧ (wrE over T gone k at_ t ≠ 0 → ovs' = ovs)
set_option maxRecDepth 100000 in
set_option maxHeartbeats 16000000 in
theorem aWrite {J : Nat → Prop} {F0 : List UInt8} (E w : World) (X R A : Fr) (s l p mf d most N a mp mg : Nat) (cont : Nat → List UInt8) (ovs : List Ov) (gone : List Nat) (over : Bool) (T : Nat) (r : List UInt8) (k at_ : Int) (t : ByteArray) (hT : oview cont ovs 0 = hd4 T ++ r) (hT2 : T < 4096) (hA : ActC J F0 s l p mf d most N a mp mg cont ovs gone over A) (hm : 0 < most) (hm2 : most ≤ 1024) (hN : N ≤ 8796093022208) (hO : Own E w X) [hp : Pick X A R] :
    Calls Tryz.prog 120 #[.pointer (some ⟨a, 0, none⟩), .int .i64 k, .int .i64 at_, .string t] w (WriteP E J F0 s l p mf d most N a mp mg cont ovs gone over T k at_ t R) := by
  replace hO := hO.perm hp.perm
  clear hp
  generalize hpost : WriteP E J F0 s l p mf d most N a mp mg cont ovs gone over T k at_ t R = POST
  have HPOST := Lib.hid hpost
  clear hpost
  go_enter Tryz.func120, Tryz.ntmps120
  go_wp2_with fail
  refine (aThere E _ _ _ A s l p mf d most N a mp mg cont ovs gone over T r k hT (by omega) hA hm hm2 hN hO).mono ?_
  clear hO hA
  rintro e w2 ⟨rfl, A, hA, hO⟩
  cases over
  rotate_left
  · rw [if_pos rfl]
    go_wp2_with fail
    rw [← HPOST.out]
    exact ⟨rfl, ovs, A, hA, hO, fun h => absurd h (by simp [wrE]), fun _ => rfl⟩
  rw [if_neg (by decide)]
  by_cases ht : there T gone k
  rotate_left
  · rw [if_neg ht]
    have HT := Lib.hid ht
    clear ht
    go_wp2_with fail
    rw [← HPOST.out]
    have h3 : wrE false T gone k at_ t = 3 := by unfold wrE; rw [if_neg (by decide), if_neg HT.out]
    exact ⟨by rw [h3]; rfl, ovs, A, hA, hO, fun h => absurd h (by rw [h3]; decide), fun _ => rfl⟩
  rw [if_pos ht]
  obtain ⟨n, rfl⟩ : ∃ n : Nat, k = n := ⟨k.toNat, by have := ht.1; omega⟩
  have hn : n < 4096 := by have := ht.2.1; omega
  have HT := Lib.hid ht
  clear ht
  by_cases hok : 0 ≤ at_ ∧ at_ + t.size ≤ 512
  · obtain ⟨m, rfl⟩ : ∃ m : Nat, at_ = m := ⟨at_.toNat, by omega⟩
    have h1 : ¬ (m : Int) < 0 := by omega
    have h2 : ¬ (512 : Int) < m := by omega
    have h3 : ¬ (512 : Int) - m < t.size := by omega
    have h4 : m + t.size ≤ 512 := by omega
    have h5 : (m : Int) ≤ 512 := by omega
    have HOK := Lib.hid hok
    clear hok
    go_wp2_with fail
    refine (aPut E _ _ _ A s l p mf d most N a mp mg cont ovs gone false n m t hn h4 hA hm hm2 hN hO).mono ?_
    clear hO hA
    rintro e w3 ⟨ovs', A, rfl, hP, hA, hO⟩
    go_wp2_with fail
    rw [← HPOST.out]
    have h0 : wrE false T gone n m t = 0 := by unfold wrE; rw [if_neg (by decide), if_pos HT.out, if_pos HOK.out]
    exact ⟨by rw [h0]; rfl, ovs', A, hA, hO, fun _ => by simpa using hP, fun h => absurd h0 h⟩
  · have h0 : wrE false T gone n at_ t = 1 := by unfold wrE; rw [if_neg (by decide), if_pos HT.out, if_neg hok]
    have H0 := Lib.hid h0
    have HOK := Lib.hid hok
    clear h0 hok
    by_cases h1 : at_ < 0
    · have hd1 : decide (at_ < 0) = true := by simpa using h1
      go_wp2_with fail
      rw [← HPOST.out]
      exact ⟨by rw [H0.out]; rfl, ovs, A, hA, hO, fun h => absurd h (by rw [H0.out]; decide), fun _ => rfl⟩
    · by_cases h2 : 512 < at_
      · have hd1 : decide (at_ < 0) = false := by simpa using h1
        have hd2 : decide (512 < at_) = true := by simpa using h2
        go_wp2_with fail
        rw [← HPOST.out]
        exact ⟨by rw [H0.out]; rfl, ovs, A, hA, hO, fun h => absurd h (by rw [H0.out]; decide), fun _ => rfl⟩
      · obtain ⟨m, rfl⟩ : ∃ m : Nat, at_ = m := ⟨at_.toNat, by omega⟩
        have h3 : (512 : Int) - m < t.size := by have := HOK.out; omega
        have h4 : ¬ (m : Int) < 0 := by omega
        have h5 : (m : Int) ≤ 512 := by omega
        go_wp2_with fail
        rw [← HPOST.out]
        exact ⟨by rw [H0.out]; rfl, ovs, A, hA, hO, fun h => absurd h (by rw [H0.out]; decide), fun _ => rfl⟩
end Go.Proofs.YtkfkcloefgfkaaaGreat

/- Space: Root. -/
namespace Go.Proofs.YtkfkcloefgfkaaaGreat
open Go Go.RowKit Go.Own Go.Dk

theorem BytesIn.drop {E : World} {Y : Fr} {b i : Nat} {l : List UInt8} (h : BytesIn E Y (some ⟨b, 0, none⟩) l) : BytesIn E Y (some ⟨b, i, none⟩) (l.drop i) := by
  intro w hO j hj
  rw [List.length_drop] at hj
  obtain ⟨_, h1, h2⟩ := h w hO (i + j) (by omega)
  cases h1
  refine ⟨_, rfl, ?_⟩
  rw [add_lit, Nat.zero_add] at h2
  rw [add_lit, h2]
  simp [List.getElem_drop]
def RootsAt (M : List UInt8) (rt : Nat → Nat) : Prop := ∀ k, k < 16 → rt k < 4294967296 ∧ ∃ r, M.drop (8 + 4 * k) = hd4 (rt k) ++ r
def RootP (E : World) (J : Nat → Prop) (F0 : List UInt8) (s l p mf d most N a mp mg : Nat) (cont : Nat → List UInt8) (ovs : List Ov) (gone : List Nat) (over : Bool) (rt : Nat → Nat) (k : Int) (R : Fr) (e : Ending) (w' : World) : Prop :=
  e = .returned (.tuple (if over then #[.int .i64 0, .int .i64 5] else if 0 ≤ k ∧ k < 16 then #[.int .i64 (rt k.toNat), .int .i64 0] else #[.int .i64 0, .int .i64 1])) ∧ ∃ A', ActC J F0 s l p mf d most N a mp mg cont ovs gone over A' ∧ Own E w' (A' ++ R)
set_option maxRecDepth 100000 in
set_option maxHeartbeats 16000000 in
theorem aRoot {J : Nat → Prop} {F0 : List UInt8} (E w : World) (X R A : Fr) (s l p mf d most N a mp mg : Nat) (cont : Nat → List UInt8) (ovs : List Ov) (gone : List Nat) (over : Bool) (rt : Nat → Nat) (k : Int) (hR : RootsAt (oview cont ovs 0) rt) (hA : ActC J F0 s l p mf d most N a mp mg cont ovs gone over A) (hm : 0 < most) (hm2 : most ≤ 1024) (hN : N ≤ 8796093022208) (hO : Own E w X) [hp : Pick X A R] :
    Calls Tryz.prog 44 #[.pointer (some ⟨a, 0, none⟩), .int .i64 k] w (RootP E J F0 s l p mf d most N a mp mg cont ovs gone over rt k R) := by
  replace hO := hO.perm hp.perm
  clear hp
  generalize hpost : RootP E J F0 s l p mf d most N a mp mg cont ovs gone over rt k R = POST
  have HPOST := Lib.hid hpost
  clear hpost
  go_enter Tryz.func44, Tryz.ntmps44
  go_wp2_with fail
  obtain ⟨PA, MP, MG, hS, hMP, hMG, hok, hnd, rfl⟩ := hA
  refine (aGoing E _ _ _ a s mp mg over hO).mono ?_
  rintro e w2 ⟨rfl, rfl⟩
  have hA : ActC J F0 s l p mf d most N a mp mg cont ovs gone over _ := ⟨PA, MP, MG, hS, hMP, hMG, hok, hnd, rfl⟩
  cases over
  rotate_left
  · go_wp2_with fail
    rw [← HPOST.out]
    exact ⟨rfl, _, hA, hO⟩
  by_cases hk : 0 ≤ k ∧ k < 16
  · obtain ⟨n, rfl⟩ : ∃ n : Nat, k = n := ⟨k.toNat, by omega⟩
    have hn : n < 16 := by omega
    have h1 : ¬ (n : Int) < 0 := by omega
    have h2 : ¬ (16 : Int) ≤ n := by omega
    have HK := Lib.hid hk
    clear hk
    go_wp2_with fail
    refine (aPage E _ _ _ _ s l p mf d most N a mp mg cont ovs gone false 0 (by decide) hA hm hm2 hN hO).mono ?_
    clear hO hA hS hMP hMG hok hnd
    rintro e w3 ⟨o, A, h0, hok, hol, rfl, hA, hc⟩
    obtain ⟨Y, hO, hB, hY⟩ := page_out hA hc hok
    have hl := hok.2.1
    have hcap := hok.2.2.1
    obtain ⟨hr1, r, hr2⟩ := hR n hn
    have hB2 := BytesIn.drop (i := 8 + 4 * n) hB
    rw [hol, hr2] at hB2
    rw [hl] at hcap
    have hlen : 512 - (8 + 4 * n) = 4 + r.length := by
      have := congrArg List.length hr2
      rw [List.length_drop, ← hol, hl, List.length_append] at this
      exact this
    have HLEN := Lib.hid hlen
    have hcapi : (512 : Int) ≤ o.cap := by omega
    have hw1 : wrap64 (4 * (n : Int)) = 4 * (n : Int) := by unfold wrap64; omega
    have hw2 : wrap64 (8 + 4 * (n : Int)) = 8 + 4 * (n : Int) := by unfold wrap64; omega
    have hw3 : IntKind.i64.wrap (4 * (n : Int)) = ((4 * n : Nat) : Int) := by rw [show 4 * (n : Int) = ((4 * n : Nat) : Int) by omega]; exact wrap_u _ (by omega)
    have hw4 : IntKind.i64.wrap (8 + ((4 * n : Nat) : Int)) = ((8 + 4 * n : Nat) : Int) := by rw [show 8 + ((4 * n : Nat) : Int) = ((8 + 4 * n : Nat) : Int) by omega]; exact wrap_u _ (by omega)
    clear hB hl hol hok hc hr2 h0 hlen hR
    unfold ovV
    go_wp2_with fail
    refine (sNumber4 E _ _ _ Y _ (512 - (8 + 4 * n)) _ (rt n) r hr1 HLEN.out hB2 hO).mono ?_
    clear hO
    rintro e w4 ⟨rfl, hO⟩
    go_wp2_with fail
    rw [← HPOST.out]
    refine ⟨?_, A, hA, hY _ hO⟩
    rw [if_neg (by decide), if_pos HK.out, show ((n : Nat) : Int).toNat = n by simp]
    rfl
  · have HK := Lib.hid hk
    by_cases h1 : k < 0
    · have hd1 : decide (k < 0) = true := by simpa using h1
      clear hk
      go_wp2_with fail
      rw [← HPOST.out]
      refine ⟨?_, _, hA, hO⟩
      rw [if_neg (by decide), if_neg HK.out]
      rfl
    · have h2 : (16 : Int) ≤ k := by omega
      have hd1 : decide (k < 0) = false := by simpa using h1
      have hd2 : decide (16 ≤ k) = true := by simpa using h2
      clear hk
      go_wp2_with fail
      rw [← HPOST.out]
      refine ⟨?_, _, hA, hO⟩
      rw [if_neg (by decide), if_neg HK.out]
      rfl
end Go.Proofs.YtkfkcloefgfkaaaGreat

/- Space: SetRoot. -/
namespace Go.Proofs.YtkfkcloefgfkaaaGreat
open Go Go.RowKit Go.Own Go.Dk

def srE (over : Bool) (k n : Int) : Int := if over then 5 else if 0 ≤ k ∧ k < 16 ∧ 0 ≤ n ∧ n ≤ 2147483647 then 0 else 1
def SetRootP (E : World) (J : Nat → Prop) (F0 : List UInt8) (s l p mf d most N a mp mg : Nat) (cont : Nat → List UInt8) (ovs : List Ov) (gone : List Nat) (over : Bool) (k n : Int) (R : Fr) (e : Ending) (w' : World) : Prop :=
  e = .returned (.int .i64 (srE over k n)) ∧ ∃ ovs' A', ActC J F0 s l p mf d most N a mp mg cont ovs' gone over A' ∧ Own E w' (A' ++ R) ∧
    (srE over k n = 0 → PutO cont ovs 0 (putB (oview cont ovs 0) (8 + 4 * k.toNat) (hd4 n.toNat)) ovs') ∧ (srE over k n ≠ 0 → ovs' = ovs)
set_option maxRecDepth 100000 in
set_option maxHeartbeats 16000000 in
theorem aSetRoot {J : Nat → Prop} {F0 : List UInt8} (E w : World) (X R A : Fr) (s l p mf d most N a mp mg : Nat) (cont : Nat → List UInt8) (ovs : List Ov) (gone : List Nat) (over : Bool) (k n : Int) (hA : ActC J F0 s l p mf d most N a mp mg cont ovs gone over A) (hm : 0 < most) (hm2 : most ≤ 1024) (hN : N ≤ 8796093022208) (hO : Own E w X) [hp : Pick X A R] :
    Calls Tryz.prog 82 #[.pointer (some ⟨a, 0, none⟩), .int .i64 k, .int .i64 n] w (SetRootP E J F0 s l p mf d most N a mp mg cont ovs gone over k n R) := by
  replace hO := hO.perm hp.perm
  clear hp
  generalize hpost : SetRootP E J F0 s l p mf d most N a mp mg cont ovs gone over k n R = POST
  have HPOST := Lib.hid hpost
  clear hpost
  go_enter Tryz.func82, Tryz.ntmps82
  go_wp2_with fail
  obtain ⟨PA, MP, MG, hS, hMP, hMG, hok, hnd, rfl⟩ := hA
  refine (aGoing E _ _ _ a s mp mg over hO).mono ?_
  rintro e w2 ⟨rfl, rfl⟩
  have hA : ActC J F0 s l p mf d most N a mp mg cont ovs gone over _ := ⟨PA, MP, MG, hS, hMP, hMG, hok, hnd, rfl⟩
  cases over
  rotate_left
  · go_wp2_with fail
    rw [← HPOST.out]
    exact ⟨rfl, ovs, _, hA, hO, fun h => absurd h (by simp [srE]), fun _ => rfl⟩
  by_cases hk : 0 ≤ k ∧ k < 16 ∧ 0 ≤ n ∧ n ≤ 2147483647
  · obtain ⟨i, rfl⟩ : ∃ i : Nat, k = i := ⟨k.toNat, by omega⟩
    obtain ⟨m, rfl⟩ : ∃ m : Nat, n = m := ⟨n.toNat, by omega⟩
    have hi : i < 16 := by omega
    have h1 : ¬ (i : Int) < 0 := by omega
    have h2 : ¬ (16 : Int) ≤ i := by omega
    have h3 : ¬ (m : Int) < 0 := by omega
    have h4 : ¬ (2147483647 : Int) < m := by omega
    have hm4 : m < 4294967296 := by omega
    have HK := Lib.hid hk
    have hw1 : wrap64 (4 * (i : Int)) = 4 * (i : Int) := by unfold wrap64; omega
    have hw2 : wrap64 (8 + 4 * (i : Int)) = 8 + 4 * (i : Int) := by unfold wrap64; omega
    have hw3 : IntKind.i64.wrap (4 * (i : Int)) = ((4 * i : Nat) : Int) := by rw [show 4 * (i : Int) = ((4 * i : Nat) : Int) by omega]; exact wrap_u _ (by omega)
    have hw4 : IntKind.i64.wrap (8 + ((4 * i : Nat) : Int)) = ((8 + 4 * i : Nat) : Int) := by rw [show 8 + ((4 * i : Nat) : Int) = ((8 + 4 * i : Nat) : Int) by omega]; exact wrap_u _ (by omega)
    clear hk
    go_wp2_with fail
    refine (sDigits E _ _ m hm4 hO).mono ?_
    clear hO
    rintro e w3 ⟨rfl, hO⟩
    go_wp2_with fail
    refine (aPut E _ _ _ _ s l p mf d most N a mp mg cont ovs gone false 0 (8 + 4 * i) (hdB m) (by decide) (by show 8 + 4 * i + 4 ≤ 512; omega) hA hm hm2 hN hO).mono ?_
    clear hO hA hS hMP hMG hok hnd
    rintro e w4 ⟨ovs', A, rfl, hP, hA, hO⟩
    go_wp2_with fail
    rw [← HPOST.out]
    have h0 : srE false i m = 0 := by unfold srE; rw [if_neg (by decide), if_pos HK.out]
    exact ⟨by rw [h0]; rfl, ovs', A, hA, hO, fun _ => by simpa [hdB] using hP, fun h => absurd h0 h⟩
  · have h0 : srE false k n = 1 := by unfold srE; rw [if_neg (by decide), if_neg hk]
    have H0 := Lib.hid h0
    have HK := Lib.hid hk
    clear h0 hk
    by_cases h1 : k < 0
    · have hd1 : decide (k < 0) = true := by simpa using h1
      go_wp2_with fail
      rw [← HPOST.out]
      exact ⟨by rw [H0.out]; rfl, ovs, _, hA, hO, fun h => absurd h (by rw [H0.out]; decide), fun _ => rfl⟩
    have hd1 : decide (k < 0) = false := by simpa using h1
    by_cases h2 : 16 ≤ k
    · have hd2 : decide (16 ≤ k) = true := by simpa using h2
      go_wp2_with fail
      rw [← HPOST.out]
      exact ⟨by rw [H0.out]; rfl, ovs, _, hA, hO, fun h => absurd h (by rw [H0.out]; decide), fun _ => rfl⟩
    have hd2 : decide (16 ≤ k) = false := by simpa using h2
    by_cases h3 : n < 0
    · have hd3 : decide (n < 0) = true := by simpa using h3
      go_wp2_with fail
      rw [← HPOST.out]
      exact ⟨by rw [H0.out]; rfl, ovs, _, hA, hO, fun h => absurd h (by rw [H0.out]; decide), fun _ => rfl⟩
    have hd3 : decide (n < 0) = false := by simpa using h3
    have hd4 : decide (2147483647 < n) = true := by simp; have := HK.out; omega
    go_wp2_with fail
    rw [← HPOST.out]
    exact ⟨by rw [H0.out]; rfl, ovs, _, hA, hO, fun h => absurd h (by rw [H0.out]; decide), fun _ => rfl⟩
end Go.Proofs.YtkfkcloefgfkaaaGreat

/- Space: Abort. -/
namespace Go.Proofs.YtkfkcloefgfkaaaGreat
open Go Go.RowKit Go.Own Go.Dk

set_option maxRecDepth 100000 in
set_option maxHeartbeats 16000000 in
theorem aAbort (E w : World) (X R : Fr) (s l p mf a mp mg : Nat) (now : Option Addr) (hO : Own E w X) [hp : Pick X (actF a s mp mg false ++ spF s l p now mf) R] :
    Calls Tryz.prog 53 #[.pointer (some ⟨a, 0, none⟩)] w fun e w' => e = .returned (.int .i64 0) ∧ Own E w' (actF a s mp mg true ++ (spF s l p none mf ++ R)) := by
  replace hO := hO.perm hp.perm
  clear hp
  go_enter Tryz.func53, Tryz.ntmps53
  go_wp2_with fail
  refine (aGoing E _ _ _ a s mp mg false hO).mono ?_
  rintro e w2 ⟨rfl, rfl⟩
  unfold actF spF at hO
  ((try simp only [List.nil_append, List.append_nil] at hO); have hF := Own.cells hO; simp only [cellsOf_append, cellsOf_pt] at hF)
  go_wp2_with (first | (refine own_store (v := ?_) (off := 3) (b := a) hO ?_ ?_ ?_ ?_ ?_ ?_ ?_; rotate_left; (· rfl); (· ((conv => lhs; whnf); try exact rfl)); (· ((conv => lhs; whnf); try exact rfl)); (· simp [Value.cells]); (· simp [Value.cells, Value.oneCell']); (· simp [Value.cells]); clear hO; (try clear hF); intro _ hO; (try simp only [splice, Value.cells] at hO); ((try simp only [List.nil_append, List.append_nil] at hO); have hF := Own.cells hO; simp only [cellsOf_append, cellsOf_pt] at hF); simp only [Act.put, List.setIfInBounds_toArray, List.set_cons_zero, List.set_cons_succ]) | (refine own_store (v := ?_) (off := 2) (b := s) hO ?_ ?_ ?_ ?_ ?_ ?_ ?_; rotate_left; (· rfl); (· ((conv => lhs; whnf); try exact rfl)); (· ((conv => lhs; whnf); try exact rfl)); (· simp [Value.cells]); (· simp [Value.cells, Value.oneCell']); (· simp [Value.cells]); clear hO; (try clear hF); intro _ hO; (try simp only [splice, Value.cells] at hO); ((try simp only [List.nil_append, List.append_nil] at hO); have hF := Own.cells hO; simp only [cellsOf_append, cellsOf_pt] at hF); simp only [Act.put, List.setIfInBounds_toArray, List.set_cons_zero, List.set_cons_succ]))
  (try simp only [splice, Value.cells, List.setIfInBounds_toArray, List.set_cons_zero, List.set_cons_succ] at hO)
  go_ret
  refine ⟨rfl, ?_⟩
  unfold actF spF
  exact hO.as _
end Go.Proofs.YtkfkcloefgfkaaaGreat

/- Space: a page is laid among an action's pages. -/
namespace Go.Dk
open Go.Own Go.RowKit
def ovset (ovs : List Ov) (o' : Ov) : List Ov := if ∃ o ∈ ovs, o.k = o'.k then ovs.map (fun o => if o.k = o'.k then o' else o) else ovs ++ [o']
theorem ovset_out {ovs : List Ov} {o' : Ov} (h : ∀ o ∈ ovs, o.k ≠ o'.k) : ovset ovs o' = ovs ++ [o'] := by
  unfold ovset
  rw [if_neg]
  rintro ⟨o, ho, e⟩
  exact h o ho e
theorem ovset_in {pre post : List Ov} {o o' : Ov} (hn : ((pre ++ o :: post).map (·.k)).Nodup) (hk : o'.k = o.k) : ovset (pre ++ o :: post) o' = pre ++ o' :: post := by
  have hne : ∀ q ∈ pre ++ post, q.k ≠ o.k := by
    intro q hq e
    rw [List.map_append, List.map_cons] at hn
    have h2 := (List.perm_middle.nodup_iff).1 hn
    rw [List.nodup_cons] at h2
    refine h2.1 ?_
    rw [← List.map_append]
    exact List.mem_map.2 ⟨q, hq, e⟩
  unfold ovset
  rw [if_pos ⟨o, by simp, hk.symm⟩, List.map_append, List.map_cons, if_pos hk.symm]
  have hid : ∀ l : List Ov, (∀ q ∈ l, q.k ≠ o.k) → l.map (fun o => if o.k = o'.k then o' else o) = l := by
    intro l hl
    conv => rhs; rw [← List.map_id l]
    refine List.map_congr_left fun q hq => ?_
    rw [if_neg (by rw [hk]; exact hl q hq)]
    rfl
  rw [hid pre fun q hq => hne q (by simp [hq]), hid post fun q hq => hne q (by simp [hq])]
theorem ovset_mem {ovs : List Ov} {o' q : Ov} (h : q ∈ ovset ovs o') : q = o' ∨ q ∈ ovs := by
  unfold ovset at h
  split at h
  · obtain ⟨o, ho, rfl⟩ := List.mem_map.1 h
    split
    · exact .inl rfl
    · exact .inr ho
  · rcases List.mem_append.1 h with h | h
    · exact .inr h
    · exact .inl (by simpa using h)
theorem ovset_ok {ovs : List Ov} {o' : Ov} (h : ∀ o ∈ ovs, OvOk o) (h' : OvOk o') : ∀ o ∈ ovset ovs o', OvOk o := by
  intro q hq
  rcases ovset_mem hq with rfl | hq
  · exact h'
  · exact h q hq
theorem ovset_nd {ovs : List Ov} {o' : Ov} (h : (ovs.map (·.k)).Nodup) : ((ovset ovs o').map (·.k)).Nodup := by
  rcases ov_cases ovs o'.k with ⟨pre, o, post, rfl, hk, _⟩ | hno
  · rw [ovset_in h hk.symm]
    rw [List.map_append, List.map_cons] at h ⊢
    rw [← hk]
    exact h
  · rw [ovset_out hno, List.map_append, List.nodup_append]
    refine ⟨h, by simp, fun x hx y hy => ?_⟩
    simp only [List.map_cons, List.map_nil, List.mem_singleton] at hy
    subst hy
    obtain ⟨q, hq, rfl⟩ := List.mem_map.1 hx
    exact hno q hq
theorem ovset_put {cont : Nat → List UInt8} {ovs : List Ov} {o' : Ov} (h : (ovs.map (·.k)).Nodup) : PutO cont ovs o'.k o'.l (ovset ovs o') := by
  rcases ov_cases ovs o'.k with ⟨pre, o, post, rfl, hk, hp⟩ | hno
  · rw [ovset_in h hk.symm, ← hk]
    exact putO_in (by rw [hk]; exact hp) hk.symm
  · rw [ovset_out hno]
    exact putO_out hno
theorem ovset_fr {E w : World} {R : Fr} {ovs : List Ov} {o' : Ov} (h : (ovs.map (·.k)).Nodup) (hO : Own E w (o'.F ++ (ovsF ovs ++ R))) : Own E w (ovsF (ovset ovs o') ++ R) := by
  rcases ov_cases ovs o'.k with ⟨pre, o, post, rfl, hk, hp⟩ | hno
  · rw [ovset_in h hk.symm]
    rw [ovsF_app, ovsF_cons] at hO ⊢
    exact hO.as _
  · rw [ovset_out hno, ovsF_app, ovsF_cons, ovsF_nil]
    exact hO.as _
end Go.Dk
namespace Go.Own
open Go Go.RowKit Go.Dk
theorem own_ovPut {P : Program} {t kt et : TypeId} {E w : World} {X R A : Fr} {b : Nat} {ovs : List Ov}
    {ops : Array Oper} {Q : Exit → Act → World → Prop} {rest : List Oper} {a : Act} {d : Option Tmp} {ty : TypeId} {pos : String} {aft : Array Edge} {g : Option (Nat × Bool)}
    (ht : P.underlying t = some (.map kt et)) (hk : P.underlying kt = some (.int .i64)) (hO : Own E w X) (hnd : (ovs.map (·.k)).Nodup) (hM : MapAt b (ovs.map ovP) A) [hp : Pick X A R] {m x y : Operand} (o' : Ov)
    (hw : Region.wanted ⟨d, .mapUpdate t m x y, ty, pos, aft, g⟩ (yielded ops a.tmps) = true) (hm : a.eval m = .map (some b)) (hx : a.eval x = .int .i64 o'.k) (hy : a.eval y = ovV o')
    (next : ∀ w1 A1, MapAt b ((ovset ovs o').map ovP) A1 → Own E w1 (A1 ++ R) → wpList P ops Q rest (a.put d undef) w1) : wpList P ops Q (⟨d, .mapUpdate t m x y, ty, pos, aft, g⟩ :: rest) a w := by
  rcases ov_cases ovs o'.k with ⟨pre, o, post, rfl, hk', hpre⟩ | hno
  · refine own_mapSet (v0 := ovV o) ht hk hO hM hw hm hx hy (by rw [← hk']; exact ov_look_in (by rw [hk']; exact hpre)) fun w1 A1 hM1 hO1 => next w1 A1 ?_ hO1
    rw [ovset_in hnd hk'.symm, ← mset_ov hnd hk'.symm, hk']
    exact hM1
  · refine own_mapNew ht hk hO hM hw hm hx hy (ov_look_out hno) fun w1 A1 hM1 hO1 => next w1 A1 ?_ hO1
    rw [ovset_out hno, List.map_append]
    exact hM1
end Go.Own

/- Space: the meta page and the chain of free pages, as plain lists. -/
namespace Go.Proofs.YtkfkcloefgfkaaaGreat
open Go Go.RowKit Go.Own Go.Dk

structure Meta (M : List UInt8) (T F : Nat) (rt : Nat → Nat) : Prop where
  len : M.length = 512
  hd : ∃ r, M = hd4 T ++ (hd4 F ++ r)
  rts : RootsAt M rt
  tb : T < 4096
  fb : F < 4096
/-- The free pages: each begins with the next one. -/
def Chain (v : Nat → List UInt8) : Nat → List Nat → Prop
  | F, [] => F = 0
  | F, p :: c => F = p ∧ 0 < p ∧ ∃ q r, v p = hd4 q ++ r ∧ q < 4096 ∧ Chain v q c
theorem Chain.congr {v v' : Nat → List UInt8} : ∀ {F : Nat} {c : List Nat}, Chain v F c → (∀ p ∈ c, v' p = v p) → Chain v' F c
  | _, [], h, _ => h
  | _, p :: c, ⟨h1, h2, q, r, h3, h4, h5⟩, hv => ⟨h1, h2, q, r, by rw [hv p (by simp)]; exact h3, h4, h5.congr fun x hx => hv x (List.mem_cons_of_mem _ hx)⟩
theorem Meta.setT {M : List UInt8} {T F : Nat} {rt : Nat → Nat} (h : Meta M T F rt) {T' : Nat} (hT : T' < 4096) : Meta (putB M 0 (hd4 T')) T' F rt := by
  obtain ⟨r, hr⟩ := h.hd
  have e : putB M 0 (hd4 T') = hd4 T' ++ (hd4 F ++ r) := by
    unfold putB
    rw [hr]
    rfl
  have hl : (hd4 T').length = 4 := rfl
  refine ⟨by rw [putB_length (by rw [h.len]; show _ + 4 ≤ 512; decide)]; exact h.len, ⟨r, e⟩, fun k hk => ?_, hT, h.fb⟩
  obtain ⟨h1, r', h2⟩ := h.rts k hk
  refine ⟨h1, r', ?_⟩
  rw [e, ← h2, hr, ← List.drop_drop, ← List.drop_drop]
  rfl
theorem Meta.setF {M : List UInt8} {T F : Nat} {rt : Nat → Nat} (h : Meta M T F rt) {F' : Nat} (hF : F' < 4096) : Meta (putB M 4 (hd4 F')) T F' rt := by
  obtain ⟨r, hr⟩ := h.hd
  have e : putB M 4 (hd4 F') = hd4 T ++ (hd4 F' ++ r) := by
    unfold putB
    rw [hr]
    rfl
  refine ⟨by rw [putB_length (by rw [h.len]; show _ + 4 ≤ 512; decide)]; exact h.len, ⟨r, e⟩, fun k hk => ?_, h.tb, hF⟩
  obtain ⟨h1, r', h2⟩ := h.rts k hk
  refine ⟨h1, r', ?_⟩
  rw [e, ← h2, hr, ← List.drop_drop, ← List.drop_drop]
  rfl
/-- What an action sees, with the pages that are free. -/
structure View (cont : Nat → List UInt8) (ovs : List Ov) (gone : List Nat) (T : Nat) (c : List Nat) (rt : Nat → Nat) : Prop where
  ex : ∃ F, Meta (oview cont ovs 0) T F rt ∧ Chain (oview cont ovs) F c
  nd : c.Nodup
  wt : ∀ p ∈ c, 1 ≤ p ∧ p ≤ T
  gn : gone.Perm c
  kb : ∀ o ∈ ovs, o.k ≤ T
theorem View.zero {cont : Nat → List UInt8} {ovs : List Ov} {gone : List Nat} {T : Nat} {c : List Nat} {rt : Nat → Nat} (h : View cont ovs gone T c rt) : ∃ r, oview cont ovs 0 = hd4 T ++ r := by
  obtain ⟨F, hM, _⟩ := h.ex
  obtain ⟨r, hr⟩ := hM.hd
  exact ⟨_, hr⟩
theorem View.tb {cont : Nat → List UInt8} {ovs : List Ov} {gone : List Nat} {T : Nat} {c : List Nat} {rt : Nat → Nat} (h : View cont ovs gone T c rt) : T < 4096 := by
  obtain ⟨F, hM, _⟩ := h.ex
  exact hM.tb
end Go.Proofs.YtkfkcloefgfkaaaGreat

/- A region that draws its order and whose last operation (number z) waits for all that look: nothing is asked of the world behind it. -/
namespace Go.Own
open Go.RowKit

section
variable {P : Program} {ops : Array Oper} {Q : Exit → Act → World → Prop} {S : World → Prop} {z : Nat} {md : Region.Mode}

/-- Whatever order is picked from here on, and S holds behind every operation but the last one. -/
def wpAnyK (P : Program) (md : Region.Mode) (ops : Array Oper) (Q : Exit → Act → World → Prop) (S : World → Prop) (z : Nat) : Nat → Array Bool → Act → World → Prop
  | 0, listed, a, w => Region.ready md ops listed = [] ∧ Q .normal a w
  | fuel + 1, listed, a, w =>
    (Region.ready md ops listed = [] → Q .normal a w) ∧
    ∀ i ∈ Region.ready md ops listed, wpOp P ops Q i (fun a' w' => (i ≠ z → S w') ∧ wpAnyK P md ops Q S z fuel (listed.setIfInBounds i true) a' w') a w

theorem wpAny_of_K : ∀ (fuel : Nat) (listed : Array Bool) (a : Act) (w : World), wpAnyK P md ops Q S z fuel listed a w → wpAny P md ops Q fuel listed a w
  | 0, _, _, _, h => h
  | fuel + 1, _, _, _, h => ⟨h.1, fun i hi => wpOp_mono (fun a' w' h' => wpAny_of_K fuel _ a' w' h'.2) (h.2 i hi)⟩

/-- The last operation waits for number i. -/
def zwaits (md : Region.Mode) (ops : Array Oper) (z i : Nat) : Bool := match ops[z]? with
  | some o => o.after.any fun e => Region.binds md e && e.on == i
  | none => true

theorem wpAnyK_first {i : Nat} {oi : Oper} {v : Value} (hi : ops[i]? = some oi) (hz : zwaits md ops z i = true) (hsel : ∀ (j : Nat) (o : Oper) cs b, ops[j]? = some o → o.op ≠ .select cs b)
    (hQ : ∀ c a w, Q (.panic c) (a.put oi.dst v) w → Q (.panic c) a w) :
    ∀ (fuel : Nat) (listed : Array Bool) (a : Act) (w : World),
      (∀ j oj, ops[j]? = some oj → j ≠ i → listed.getD j true = false → (∀ e ∈ oj.after, Region.binds md e = true → e.on ≠ i) → oi.apart ops oj = true) →
      i ∈ Region.ready md ops listed → YieldsIf P ops S oi v a → S w →
      wpAnyK P md ops Q S z fuel (listed.setIfInBounds i true) (a.put oi.dst v) w → wpAnyK P md ops Q S z (fuel + 1) listed a w := by
  intro fuel
  induction fuel with
  | zero =>
    intro listed a w _ hr hy hS H
    refine ⟨fun h => (by rw [h] at hr; cases hr), fun j hj => ?_⟩
    by_cases hji : j = i
    · subst hji; exact hy.wpOp hi hS ⟨fun _ => hS, H⟩
    · have := ready_mono hj hji
      rw [H.1] at this
      cases this
  | succ fuel ih =>
    intro listed a w hfree hr hy hS H
    refine ⟨fun h => (by rw [h] at hr; cases hr), fun j hj => ?_⟩
    by_cases hji : j = i
    · subst hji; exact hy.wpOp hi hS ⟨fun _ => hS, H⟩
    · have h1 := H.2 j (ready_mono hj hji)
      obtain ⟨hjun, oj, hoj, hall⟩ := mem_ready.1 hj
      have hnot : ∀ e ∈ oj.after, Region.binds md e = true → e.on ≠ i := fun e he hb heq => by
        have h1 := hall e he hb
        have h0 := (mem_ready.1 hr).1
        rw [heq] at h1
        rcases Nat.lt_or_ge i listed.size with h' | h'
        · simp [h'] at h0 h1; rw [h0] at h1; cases h1
        · simp [Array.getElem?_eq_none h'] at h1
      have hjz : j ≠ z := fun e => by
        subst e
        unfold zwaits at hz
        rw [hoj] at hz
        simp only [Array.any_eq_true, Bool.and_eq_true, beq_iff_eq] at hz
        obtain ⟨k, hk, hb, hon⟩ := hz
        exact hnot _ (Array.getElem_mem hk) hb hon
      have h2 := wpOp_putIf hoj (hfree j oj hoj hji hjun hnot) (fun cs b => hsel i oi cs b hi) (fun cs b => hsel j oj cs b hoj) hQ hy h1
      have hfree' : ∀ k ok, ops[k]? = some ok → k ≠ i → (listed.setIfInBounds j true).getD k true = false →
          (∀ e ∈ ok.after, Region.binds md e = true → e.on ≠ i) → oi.apart ops ok = true := fun k ok hk hki hun hno => by
        refine hfree k ok hk hki ?_ hno
        by_cases hjk : j = k
        · subst hjk; exact hjun
        · rw [getD_set_ne true hjk] at hun; exact hun
      refine wpOp_mono (fun a' w' h3 => ⟨fun _ => h3.2.1 hjz, ih (listed.setIfInBounds j true) a' w' hfree' (ready_mono hr (Ne.symm hji)) h3.1 (h3.2.1 hjz) ?_⟩) h2
      rw [Array.setIfInBounds_comm _ _ hji]
      exact h3.2.2

def kB (ops : Array Oper) (z : Nat) : Sch → Array Bool → Bool
  | .done, listed => (Region.ready .any ops listed).isEmpty
  | .look i s, listed => (Region.ready .any ops listed).contains i && Region.free .any ops listed i && zwaits .any ops z i && kB ops z s (listed.setIfInBounds i true)
  | .act i s, listed => decide (Region.ready .any ops listed = [i]) && (i != z || (match s with | .done => true | _ => false)) && kB ops z s (listed.setIfInBounds i true)
  | .two _ _ _ _, _ => false

def kL (P : Program) (ops : Array Oper) (Q : Exit → Act → World → Prop) (S : World → Prop) (z : Nat) : Sch → Act → World → Prop
  | .done, a, w => Q .normal a w
  | .look i s, a, w => ∃ v, YieldsIf P ops S (ops.getD i default) v a ∧ kL P ops Q S z s (a.put (ops.getD i default).dst v) w
  | .act i s, a, w => wpList P ops (fun e a' w' => match e with | .normal => (i ≠ z → S w') ∧ kL P ops Q S z s a' w' | e => Q e a' w') [ops.getD i default] a w
  | .two _ _ _ _, _, _ => False

theorem wpOp_of_listK {i : Nat} {o : Oper} {K : Act → World → Prop} {K' : Act → World → Prop} (ho : ops[i]? = some o) {a : Act} {w : World} (hK : ∀ a' w', K a' w' → K' a' w')
    (h : wpList P ops (fun e a' w' => match e with | .normal => K a' w' | e => Q e a' w') [o] a w) : wpOp P ops Q i K' a w := by
  unfold wpOp
  simp only [ho]
  unfold wpList at h
  split at h
  · rename_i hw
    rw [if_pos hw]
    rcases h with h | h
    · refine .inl ?_
      unfold Oper.wp at *
      generalize (execOp a.eval o).run P w = r at *
      have fin : ∀ a' w', wpList P ops (fun e a' w' => match e with | .normal => K a' w' | e => Q e a' w') [] a' w' → K' a' w' := fun a' w' h => hK a' w' h
      cases r with
      | ok n w' =>
        cases n <;> simp only [Oper.upon] at h ⊢ <;> first
          | exact fin _ _ h
          | exact Calls.mono h (fun e w'' he => by cases e <;> first | exact fin _ _ he | exact he)
          | exact Rows.mono h (fun _ _ he => fin _ _ he)
      | halt x w' => cases x <;> simp only [Oper.upon] at h ⊢ <;> exact h
    · exact .inr h
  · rename_i hw
    rw [if_neg hw]
    exact hK _ _ h

/-- In the states where S is known. -/
theorem wpAnyK_of_sch (hsel : Region.noSelect ops = true) (hQ : ∀ c a d v w, Q (.panic c) (a.put d v) w → Q (.panic c) a w) : ∀ (s : Sch) (listed : Array Bool) (a : Act) (w : World), kB ops z s listed = true → S w →
    kL P ops Q S z s a w → wpAnyK P .any ops Q S z s.len listed a w
  | .done, listed, a, w, hB, _, h => ⟨by simpa [kB] using hB, h⟩
  | .look i s, listed, a, w, hB, hS, h => by
    simp only [kB, Bool.and_eq_true] at hB
    obtain ⟨⟨⟨hr, hf⟩, hz⟩, hB'⟩ := hB
    have hr' : i ∈ Region.ready .any ops listed := by simpa using hr
    obtain ⟨_, o, ho, _⟩ := mem_ready.1 hr'
    simp only [kL] at h
    have hd : ops.getD i default = o := by simp [ho]
    rw [hd] at h
    obtain ⟨v, hy, h⟩ := h
    exact wpAnyK_first ho hz (Region.noSelect_spec hsel) (fun c a w => hQ c a _ _ w) s.len listed a w (Region.free_spec ho hf) hr' hy hS
      (wpAnyK_of_sch hsel hQ s _ _ _ hB' hS h)
  | .act i s, listed, a, w, hB, hS, h => by
    simp only [kB, Bool.and_eq_true, decide_eq_true_eq] at hB
    obtain ⟨⟨hr, hzd⟩, hB'⟩ := hB
    have hr' : i ∈ Region.ready .any ops listed := by rw [hr]; simp
    obtain ⟨_, o, ho, _⟩ := mem_ready.1 hr'
    simp only [kL] at h
    have hd : ops.getD i default = o := by simp [ho]
    rw [hd] at h
    refine ⟨fun h0 => (by rw [h0] at hr; cases hr), fun j hj => ?_⟩
    rw [hr] at hj
    have hji : j = i := by simpa using hj
    subst hji
    refine wpOp_of_listK ho (fun a' w' h' => ⟨h'.1, ?_⟩) h
    by_cases hz : j = z
    · cases s with
      | done => exact ⟨by simpa [kB] using hB', h'.2⟩
      | look i s => simp [hz] at hzd
      | act i s => simp [hz] at hzd
      | two i s j t => simp [hz] at hzd
    · exact wpAnyK_of_sch hsel hQ s _ _ _ hB' (h'.1 hz) h'.2
  | .two _ _ _ _, _, _, _, hB, _, _ => by simp [kB] at hB

theorem region_k {id : Nat} {a : Act} {w : World} {l : List Oper} (S : World → Prop) (z : Nat) (s : Sch) (hm : P.follows .mixedOrders = true)
    (hB : (Region.noSelect l.toArray && decide (s.len = l.length) && kB l.toArray z s (Array.replicate l.length false)) = true)
    (hQ : ∀ c a d v w, Q (.panic c) (a.put d v) w → Q (.panic c) a w) (hS : S w.drew)
    (h : kL P l.toArray Q S z s a w.drew) : (Code.region id l.toArray true).wp P Q a w := by
  simp only [Bool.and_eq_true, decide_eq_true_eq] at hB
  obtain ⟨⟨hsel, hlen⟩, hB⟩ := hB
  refine wp_region_any hm (wpAny_of_K (S := S) (z := z) _ _ _ _ ?_)
  have := wpAnyK_of_sch hsel hQ s _ a w.drew hB hS h
  rw [hlen] at this
  simpa using this
theorem region_kO {E : World} {X : Fr} {id : Nat} {a : Act} {w : World} {l : List Oper} (hO : Own E w X) (z : Nat) (s : Sch) (hm : P.follows .mixedOrders = true)
    (hB : (Region.noSelect l.toArray && decide (s.len = l.length) && kB l.toArray z s (Array.replicate l.length false)) = true)
    (hQ : ∀ c a d v w, Q (.panic c) (a.put d v) w → Q (.panic c) a w)
    (h : ∀ w1, Own E w1 X → kL P l.toArray Q (fun w' => Own E w' X) z s a w1) : (Code.region id l.toArray true).wp P Q a w :=
  region_k _ z s hm hB hQ hO.drew (h _ hO.drew)
theorem k_look {i : Nat} {s : Sch} {a : Act} {w : World} {o : Oper} {v : Value} (ho : ops.getD i default = o) (hw : Region.wanted o (yielded ops a.tmps) = true) (hy : ∀ w, S w → (execOp a.eval o).run P w = .ok (.value v) w)
    (h : kL P ops Q S z s (a.put o.dst v) w) : kL P ops Q S z (.look i s) a w := by subst ho; exact ⟨v, .inl ⟨hw, hy⟩, h⟩
theorem k_pass {i : Nat} {s : Sch} {a : Act} {w : World} {o : Oper} (ho : ops.getD i default = o) (hw : Region.wanted o (yielded ops a.tmps) = false)
    (h : kL P ops Q S z s (a.put o.dst undef) w) : kL P ops Q S z (.look i s) a w := by subst ho; exact ⟨undef, .inr ⟨hw, rfl⟩, h⟩
theorem k_act {i : Nat} {s : Sch} {a : Act} {w : World} {o : Oper} (ho : ops.getD i default = o)
    (h : wpList P ops (fun e a' w' => match e with | .normal => (i ≠ z → S w') ∧ kL P ops Q S z s a' w' | e => Q e a' w') [o] a w) : kL P ops Q S z (.act i s) a w := by subst ho; exact h
theorem k_done {a : Act} {w : World} (h : Q .normal a w) : kL P ops Q S z .done a w := h
end
end Go.Own

/- Space: Alloc. -/
namespace Go.Dk
theorem filter_perm {gone : List Nat} {k : Nat} {c : List Nat} (h : gone.Perm (k :: c)) (hn : (k :: c).Nodup) : (gone.filter (· != k)).Perm c := by
  refine (h.filter _).trans ?_
  rw [List.filter_cons_of_neg (by simp), List.filter_eq_self.2]
  intro q hq
  have : q ≠ k := fun e => (List.nodup_cons.1 hn).1 (e ▸ hq)
  simp [this]
theorem hd4_F {T F : Nat} {r : List UInt8} : (hd4 T ++ (hd4 F ++ r)).drop 4 = hd4 F ++ r := rfl
end Go.Dk
namespace Go.Proofs.YtkfkcloefgfkaaaGreat
open Go Go.RowKit Go.Own Go.Dk

theorem gone_filter (gone : List Nat) (k : Nat) : (gone.map gnP).filter (·.1 != (k : Int)) = (gone.filter (· != k)).map gnP := by
  induction gone with
  | nil => rfl
  | cons q l ih =>
    by_cases hq : q = k
    · subst hq
      rw [List.map_cons, List.filter_cons_of_neg (p := fun x : Int × Value => x.1 != (q : Int)) (by simp [gnP]), List.filter_cons_of_neg (p := fun x => x != q) (by simp), ih]
    · have h1 : ((gnP q).1 != (k : Int)) = true := by simp only [gnP, bne_iff_ne]; omega
      have h2 : (q != k) = true := by simpa using hq
      rw [List.map_cons, List.filter_cons_of_pos (p := fun x : Int × Value => x.1 != (k : Int)) h1, List.filter_cons_of_pos (p := fun x => x != k) h2, ih, List.map_cons]
/-- A new page of noughts. -/
def noughts : List UInt8 := List.replicate 512 0
theorem noughts_len : noughts.length = 512 := List.length_replicate
def noughtF (b : Nat) : Fr := pt b (.cells (bytesV noughts).toArray 5 (0, 0))
def nought (k b : Nat) : Ov := ⟨k, b, 512, noughts, noughtF b⟩
theorem nought_ok {k b : Nat} (h : k < 4096) : OvOk (nought k b) :=
  ⟨h, noughts_len, Nat.le_of_eq noughts_len, (by decide : 512 ≤ maxLen), [], (0, 0), by rw [List.append_nil, bytesV_length]; exact noughts_len, free0 _, by rw [List.append_nil]; rfl⟩
theorem act_laid {J : Nat → Prop} {F0 : List UInt8} {E w : World} {R PA M2 MG : Fr} {s l p mf d most N a mp mg : Nat} {cont : Nat → List UInt8} {ovs1 : List Ov} {gone : List Nat} {k bb : Nat} (hk : k < 4096)
    (hS : PoolS J F0 p d most N cont (fun _ => 0) PA) (hM2 : MapAt mp ((ovset ovs1 (nought k bb)).map ovP) M2) (hMG : MapAt mg (gone.map gnP) MG) (hok : ∀ o ∈ ovs1, OvOk o) (hnd : (ovs1.map (·.k)).Nodup)
    (hO : Own E w (noughtF bb ++ (ovsF ovs1 ++ (actF a s mp mg false ++ (M2 ++ (MG ++ (spF s l p (some ⟨a, 0, none⟩) mf ++ (PA ++ R)))))))) :
    ∃ A', ActC J F0 s l p mf d most N a mp mg cont (ovset ovs1 (nought k bb)) gone false A' ∧ Own E w (A' ++ R) :=
  ⟨_, ⟨PA, M2, MG, hS, hM2, hMG, ovset_ok hok (nought_ok hk), ovset_nd hnd, rfl⟩, (ovset_fr (o' := nought k bb) hnd hO).as _⟩
theorem view_laid {cont : Nat → List UInt8} {ovs ovs1 : List Ov} {k bb : Nat} {x : List UInt8} (h0 : k ≠ 0) (hP : PutO cont ovs 0 x ovs1) (hnd : (ovs1.map (·.k)).Nodup) :
    (oview cont (ovset ovs1 (nought k bb)) 0 = x) ∧ (∀ j, j ≠ 0 → oview cont (ovset ovs1 (nought k bb)) j = if j = k then noughts else oview cont ovs j) ∧ ∀ o ∈ ovset ovs1 (nought k bb), o.k = 0 ∨ o.k = k ∨ ∃ q ∈ ovs, q.k = o.k := by
  have h1 := (ovset_put (cont := cont) (o' := nought k bb) hnd).1
  refine ⟨?_, fun j hj => ?_, fun o ho => ?_⟩
  · rw [h1, if_neg (by exact fun e => h0 e.symm), hP.1, if_pos rfl]
  · rw [h1, hP.1, if_neg hj]
    rfl
  · rcases ovset_mem ho with rfl | ho
    · exact .inr (.inl rfl)
    · rcases (hP.2 o.k).1 ⟨o, ho, rfl⟩ with h | h
      · exact .inl h
      · exact .inr (.inr h)
/-- What Alloc does: no page more; or the page p is there, of noughts. -/
def AllocP (E : World) (J : Nat → Prop) (F0 : List UInt8) (s l p mf d most N a mp mg : Nat) (cont : Nat → List UInt8) (ovs : List Ov) (gone : List Nat) (T : Nat) (c : List Nat) (rt : Nat → Nat) (R : Fr) (e : Ending) (w' : World) : Prop :=
  (c = [] ∧ T = 4095 ∧ e = .returned (.tuple #[.int .i64 0, .int .i64 2]) ∧ ∃ A', ActC J F0 s l p mf d most N a mp mg cont ovs gone false A' ∧ Own E w' (A' ++ R)) ∨
  (∃ (k T' : Nat) (c' : List Nat) (ovs' : List Ov) (gone' : List Nat) (A' : Fr), ((c = k :: c' ∧ T' = T) ∨ (c = [] ∧ c' = [] ∧ k = T + 1 ∧ T' = T + 1)) ∧ 1 ≤ k ∧ k < 4096 ∧ e = .returned (.tuple #[.int .i64 k, .int .i64 0]) ∧
    View cont ovs' gone' T' c' rt ∧ (∀ j, j ≠ 0 → oview cont ovs' j = if j = k then noughts else oview cont ovs j) ∧
    ActC J F0 s l p mf d most N a mp mg cont ovs' gone' false A' ∧ Own E w' (A' ++ R))
set_option maxRecDepth 100000 in
set_option maxHeartbeats 16000000 in
theorem aAlloc {J : Nat → Prop} {F0 : List UInt8} (E w : World) (X R A : Fr) (s l p mf d most N a mp mg : Nat) (cont : Nat → List UInt8) (ovs : List Ov) (gone : List Nat) (T : Nat) (c : List Nat) (rt : Nat → Nat) (hV : View cont ovs gone T c rt) (hA : ActC J F0 s l p mf d most N a mp mg cont ovs gone false A) (hm : 0 < most) (hm2 : most ≤ 1024) (hN : N ≤ 8796093022208) (hO : Own E w X) [hp : Pick X A R] :
    Calls Tryz.prog 80 #[.pointer (some ⟨a, 0, none⟩)] w (AllocP E J F0 s l p mf d most N a mp mg cont ovs gone T c rt R) := by
  replace hO := hO.perm hp.perm
  clear hp
  generalize hpost : AllocP E J F0 s l p mf d most N a mp mg cont ovs gone T c rt R = POST
  have HPOST := Lib.hid hpost
  clear hpost
  go_enter Tryz.func80, Tryz.ntmps80
  go_wp2_with fail
  obtain ⟨PA, MP, MG, hS, hMP, hMG, hok, hnd, rfl⟩ := hA
  refine (aGoing E _ _ _ a s mp mg false hO).mono ?_
  rintro e w2 ⟨rfl, rfl⟩
  have hA : ActC J F0 s l p mf d most N a mp mg cont ovs gone false _ := ⟨PA, MP, MG, hS, hMP, hMG, hok, hnd, rfl⟩
  go_wp2_with fail
  refine (aPage E _ _ _ _ s l p mf d most N a mp mg cont ovs gone false 0 (by decide) hA hm hm2 hN hO).mono ?_
  clear hO hA hS hMP hMG hok hnd
  rintro e w3 ⟨o, A, h0, hok, hol, rfl, hA, hc⟩
  obtain ⟨Y, hO, hB, hY⟩ := page_out hA hc hok
  obtain ⟨F, hM, hC⟩ := hV.ex
  obtain ⟨r, hr⟩ := hM.hd
  have hFb := hM.fb
  have hlen : 512 - 4 = 4 + r.length := by
    have h1 := congrArg List.length hr
    rw [hM.len, List.length_append, List.length_append] at h1
    have e1 : (hd4 T).length = 4 := rfl
    have e2 : (hd4 F).length = 4 := rfl
    omega
  have hB2 := BytesIn.drop (i := 4) hB
  rw [hol, hr, hd4_F] at hB2
  have hcap := hok.2.2.1
  rw [hok.2.1] at hcap
  have hcapi : (512 : Int) ≤ o.cap := by omega
  have HLEN := Lib.hid hlen
  have HV := Lib.hid hV
  have HM := Lib.hid hM
  have HC := Lib.hid hC
  clear hB hol hok hc h0 hlen hr hV hM hC
  unfold ovV
  go_wp2_with fail
  refine (sNumber4 E _ _ _ Y _ (512 - 4) _ F r (by omega) HLEN.out hB2 hO).mono ?_
  clear hO
  rintro e w4 ⟨rfl, hO⟩
  replace hO := hY _ hO
  clear hY hB2
  cases c with
  | nil =>
    have hF0 : F = 0 := HC.out
    subst hF0
    clear HC
    obtain ⟨r0, hr0⟩ := HV.out.zero
    have hTb := HV.out.tb
    go_wp2_with fail
    refine (aTotal E _ _ _ A s l p mf d most N a mp mg cont ovs gone false T r0 hr0 (by omega) hA hm hm2 hN hO).mono ?_
    clear hO hA hr0
    rintro e w5 ⟨rfl, A, hA, hO⟩
    by_cases hT : T = 4095
    · subst hT
      go_wp2_with fail
      rw [← HPOST.out]
      exact .inl ⟨rfl, rfl, rfl, A, hA, hO⟩
    · have hT1 : ¬ (4096 : Int) ≤ (T : Int) + 1 := by omega
      have hT2 : T + 1 < 4096 := by omega
      go_wp2_with fail
      refine (sDigits E _ _ (T + 1) (by omega) hO).mono ?_
      clear hO
      rintro e w6 ⟨rfl, hO⟩
      go_wp2_with fail
      refine (aPut E _ _ _ A s l p mf d most N a mp mg cont ovs gone false 0 0 (hdB (T + 1)) (by decide) (by show 0 + 4 ≤ 512; omega) hA hm hm2 hN hO).mono ?_
      clear hO hA
      rintro e w7 ⟨ovs1, A, rfl, hP, ⟨PA, MP, MG, hS, hMP, hMG, hok, hnd, rfl⟩, hO⟩
      unfold actF at hO
      ((try simp only [List.nil_append, List.append_nil] at hO); have hF := Own.cells hO; simp only [cellsOf_append, cellsOf_pt] at hF)
      go_wp2_with fail
      (try (go_wp2_with fail))
      refine region_k (fun w' => Own E w' (pt a (.cells #[.pointer (some ⟨s, 0, none⟩), .map (some mp), .map (some mg), .bool false] 95 (0, 0)))) 6 (.look 0 (.look 1 (.look 2 (.look 3 (.look 4 (.act 5 (.act 6 .done))))))) (by kernel_rfl) (by kernel_rfl) (fun _ _ d _ _ h => by cases d <;> exact h) ?_ ?_
      · exact hO.drew.as _
      replace hO := hO.drew
      generalize World.drew _ = wdr at hO ⊢
      first | (refine k_look (o := ?_) (v := ?_) ?_ ?_ ?_ ?_; rotate_left 2; (· ((conv => lhs; whnf); try exact rfl)); (· rfl); (· intro w' hO'; (have hF' := Own.cells hO'; simp only [cellsOf_append, cellsOf_pt] at hF'); go_simp; (try exact rfl)); simp only [Act.put, List.setIfInBounds_toArray, List.set_cons_zero, List.set_cons_succ]) | (refine k_pass (o := ?_) ?_ ?_ ?_; rotate_left; (· ((conv => lhs; whnf); try exact rfl)); (· rfl); simp only [Act.put, List.setIfInBounds_toArray, List.set_cons_zero, List.set_cons_succ]) | (refine k_look (o := ?_) (v := .agg ?_) ?_ ?_ ?_ ?_; rotate_left 2; (· ((conv => lhs; whnf); try exact rfl)); (· rfl); (· intro w' hO'; refine run_opLoadS (b := ?_) (cs := ?_) (e := ?_) (f := ?_) hO' ?_ ?_ ?_ ?_; rotate_left 4; (· exact rfl); (· exact inferInstance); (· simp; done); (· simp; done)); simp only [Act.put, List.setIfInBounds_toArray, List.set_cons_zero, List.set_cons_succ])
      first | (refine k_look (o := ?_) (v := ?_) ?_ ?_ ?_ ?_; rotate_left 2; (· ((conv => lhs; whnf); try exact rfl)); (· rfl); (· intro w' hO'; (have hF' := Own.cells hO'; simp only [cellsOf_append, cellsOf_pt] at hF'); go_simp; (try exact rfl)); simp only [Act.put, List.setIfInBounds_toArray, List.set_cons_zero, List.set_cons_succ]) | (refine k_pass (o := ?_) ?_ ?_ ?_; rotate_left; (· ((conv => lhs; whnf); try exact rfl)); (· rfl); simp only [Act.put, List.setIfInBounds_toArray, List.set_cons_zero, List.set_cons_succ]) | (refine k_look (o := ?_) (v := .agg ?_) ?_ ?_ ?_ ?_; rotate_left 2; (· ((conv => lhs; whnf); try exact rfl)); (· rfl); (· intro w' hO'; refine run_opLoadS (b := ?_) (cs := ?_) (e := ?_) (f := ?_) hO' ?_ ?_ ?_ ?_; rotate_left 4; (· exact rfl); (· exact inferInstance); (· simp; done); (· simp; done)); simp only [Act.put, List.setIfInBounds_toArray, List.set_cons_zero, List.set_cons_succ])
      first | (refine k_look (o := ?_) (v := ?_) ?_ ?_ ?_ ?_; rotate_left 2; (· ((conv => lhs; whnf); try exact rfl)); (· rfl); (· intro w' hO'; (have hF' := Own.cells hO'; simp only [cellsOf_append, cellsOf_pt] at hF'); go_simp; (try exact rfl)); simp only [Act.put, List.setIfInBounds_toArray, List.set_cons_zero, List.set_cons_succ]) | (refine k_pass (o := ?_) ?_ ?_ ?_; rotate_left; (· ((conv => lhs; whnf); try exact rfl)); (· rfl); simp only [Act.put, List.setIfInBounds_toArray, List.set_cons_zero, List.set_cons_succ]) | (refine k_look (o := ?_) (v := .agg ?_) ?_ ?_ ?_ ?_; rotate_left 2; (· ((conv => lhs; whnf); try exact rfl)); (· rfl); (· intro w' hO'; refine run_opLoadS (b := ?_) (cs := ?_) (e := ?_) (f := ?_) hO' ?_ ?_ ?_ ?_; rotate_left 4; (· exact rfl); (· exact inferInstance); (· simp; done); (· simp; done)); simp only [Act.put, List.setIfInBounds_toArray, List.set_cons_zero, List.set_cons_succ])
      first | (refine k_look (o := ?_) (v := ?_) ?_ ?_ ?_ ?_; rotate_left 2; (· ((conv => lhs; whnf); try exact rfl)); (· rfl); (· intro w' hO'; (have hF' := Own.cells hO'; simp only [cellsOf_append, cellsOf_pt] at hF'); go_simp; (try exact rfl)); simp only [Act.put, List.setIfInBounds_toArray, List.set_cons_zero, List.set_cons_succ]) | (refine k_pass (o := ?_) ?_ ?_ ?_; rotate_left; (· ((conv => lhs; whnf); try exact rfl)); (· rfl); simp only [Act.put, List.setIfInBounds_toArray, List.set_cons_zero, List.set_cons_succ]) | (refine k_look (o := ?_) (v := .agg ?_) ?_ ?_ ?_ ?_; rotate_left 2; (· ((conv => lhs; whnf); try exact rfl)); (· rfl); (· intro w' hO'; refine run_opLoadS (b := ?_) (cs := ?_) (e := ?_) (f := ?_) hO' ?_ ?_ ?_ ?_; rotate_left 4; (· exact rfl); (· exact inferInstance); (· simp; done); (· simp; done)); simp only [Act.put, List.setIfInBounds_toArray, List.set_cons_zero, List.set_cons_succ])
      first | (refine k_look (o := ?_) (v := ?_) ?_ ?_ ?_ ?_; rotate_left 2; (· ((conv => lhs; whnf); try exact rfl)); (· rfl); (· intro w' hO'; (have hF' := Own.cells hO'; simp only [cellsOf_append, cellsOf_pt] at hF'); go_simp; (try exact rfl)); simp only [Act.put, List.setIfInBounds_toArray, List.set_cons_zero, List.set_cons_succ]) | (refine k_pass (o := ?_) ?_ ?_ ?_; rotate_left; (· ((conv => lhs; whnf); try exact rfl)); (· rfl); simp only [Act.put, List.setIfInBounds_toArray, List.set_cons_zero, List.set_cons_succ]) | (refine k_look (o := ?_) (v := .agg ?_) ?_ ?_ ?_ ?_; rotate_left 2; (· ((conv => lhs; whnf); try exact rfl)); (· rfl); (· intro w' hO'; refine run_opLoadS (b := ?_) (cs := ?_) (e := ?_) (f := ?_) hO' ?_ ?_ ?_ ?_; rotate_left 4; (· exact rfl); (· exact inferInstance); (· simp; done); (· simp; done)); simp only [Act.put, List.setIfInBounds_toArray, List.set_cons_zero, List.set_cons_succ])
      (refine k_act (o := ?_) ?_ ?_; rotate_left; (· ((conv => lhs; whnf); try exact rfl)))
      go_wp2_with (first | (refine at_mks ?_; go_must (refine own_makeBytes (e := 5) (n := 512) sltBytes hO ?_ ?_ ?_ (by decide) ?_; (· rfl); (· rfl); (· rfl); clear hO; (try clear hF); intro bb _ hO; ((try simp only [List.nil_append, List.append_nil] at hO); have hF := Own.cells hO; simp only [cellsOf_append, cellsOf_pt] at hF); simp only [Act.put, List.setIfInBounds_toArray, List.set_cons_zero, List.set_cons_succ])))
      refine ⟨hO.as _, ?_⟩
      (refine k_act (o := ?_) ?_ ?_; rotate_left; (· ((conv => lhs; whnf); try exact rfl)))
      go_wp2_with (refine at_mapup ?_; go_must (refine own_ovPut (kt := 3) (et := 97) (b := mp) (by kernel_rfl) (by kernel_rfl) hO hnd hMP (nought (T + 1) bb) ?_ ?_ ?_ ?_ ?_; (· rfl); (· rfl); (· rfl); (· rfl); clear hO; (try clear hF); intro _ M2 hM2 hO; ((try simp only [List.nil_append, List.append_nil] at hO); have hF := Own.cells hO; simp only [cellsOf_append, cellsOf_pt] at hF); simp only [Act.put, List.setIfInBounds_toArray, List.set_cons_zero, List.set_cons_succ]))
      refine k_done ?_
      go_wp2_with fail
      rw [← HPOST.out]
      obtain ⟨A', hA, hO⟩ := act_laid (R := R) (l := l) (mf := mf) (a := a) (s := s) hT2 hS hM2 hMG hok hnd (by unfold actF noughtF noughts; exact hO.as _)
      obtain ⟨v0, v1, v2⟩ := view_laid (bb := bb) (Nat.succ_ne_zero T) hP hnd
      refine .inr ⟨T + 1, T + 1, [], _, gone, A', .inr ⟨rfl, rfl, rfl, rfl⟩, by omega, hT2, rfl, ⟨⟨0, ?_, rfl⟩, List.nodup_nil, by simp, HV.out.gn, fun o ho => ?_⟩, v1, hA, hO⟩
      · rw [v0]
        exact HM.out.setT hT2
      · rcases v2 o ho with h | h | ⟨q, hq, h⟩
        · omega
        · omega
        · have := HV.out.kb q hq; omega
  | cons k c =>
    obtain ⟨rfl, hk0, q, r2, hq, hqb, hC2⟩ := HC.out
    have hkT := HV.out.wt F (by simp)
    have hk1 : ¬ (F : Int) = 0 := by omega
    go_wp2_with fail
    refine (aPage E _ _ _ A s l p mf d most N a mp mg cont ovs gone false F hFb hA hm hm2 hN hO).mono ?_
    clear hO hA
    rintro e w5 ⟨o, A, rfl, hok, hol, rfl, hA, hc⟩
    obtain ⟨Y, hO, hB, hY⟩ := page_out hA hc hok
    have hB4 : ∀ w, Own E w Y → ∀ j v, (bytesV (hd4 q))[j]? = some v → w.cell? (Addr.add ⟨o.b, 0, none⟩ j) = some v := by
      intro w' hO' j v hj
      refine bytesIn_at hB w' hO' j v ?_
      rw [hol, hq, bytesV_append, List.getElem?_append_left (List.getElem?_eq_some_iff.1 hj).1]
      exact hj
    have hcap := hok.2.2.1
    rw [hok.2.1] at hcap
    have hcapi : (512 : Int) ≤ o.cap := by omega
    have hc4 : (4 : Int) ≤ o.cap := by omega
    have HQ := Lib.hid hq
    have HC2 := Lib.hid hC2
    clear hB hol hok hc hq hC2
    unfold ovV
    go_wp2_with (first | (refine at_conv ?_; go_must (refine own_bytes_str (e := 5) (ad := ?_) (n := ?_) (cap := ?_) (l := hd4 q) (by kernel_rfl) (by kernel_rfl) (by kernel_rfl) ?_ ?_ ?_ ?_ ?_ ?_; rotate_left 3; (· rfl); (· ((conv => lhs; whnf); try exact rfl)); (· rfl); (· intro b hb j v hj; cases hb; exact hB4 _ (hO.as Y) j v hj); (· intro h; cases h); simp only [Act.put, List.setIfInBounds_toArray, List.set_cons_zero, List.set_cons_succ])))
    replace hO := hY _ hO
    clear hY hB4
    refine (aPut E _ _ _ A s l p mf d most N a mp mg cont ovs gone false 0 4 (hdB q) (by decide) (by show 4 + 4 ≤ 512; omega) hA hm hm2 hN hO).mono ?_
    clear hO hA
    rintro e w7 ⟨ovs1, A, rfl, hP, ⟨PA, MP, MG, hS, hMP, hMG, hok, hnd, rfl⟩, hO⟩
    unfold actF at hO
    ((try simp only [List.nil_append, List.append_nil] at hO); have hF := Own.cells hO; simp only [cellsOf_append, cellsOf_pt] at hF)
    have hlg := gone_in ((HV.out.gn.mem_iff (a := o.k)).2 (by simp))
    go_wp2_with (refine at_del ?_; go_must (refine own_mapDelete (kt := 3) (et := 4) (b := mg) (k := o.k) (v := .bool true) (l := gone.map gnP) (by kernel_rfl) (by kernel_rfl) hO hMG ?_ ?_ ?_ hlg ?_; (· rfl); (· rfl); (· rfl); clear hO; (try clear hF); intro _ MG2 hMG2 hO; ((try simp only [List.nil_append, List.append_nil] at hO); have hF := Own.cells hO; simp only [cellsOf_append, cellsOf_pt] at hF); simp only [Act.put, List.setIfInBounds_toArray, List.set_cons_zero, List.set_cons_succ]))
    rw [gone_filter] at hMG2
    (try (go_wp2_with fail))
    refine region_k (fun w' => Own E w' (pt a (.cells #[.pointer (some ⟨s, 0, none⟩), .map (some mp), .map (some mg), .bool false] 95 (0, 0)))) 6 (.look 0 (.look 1 (.look 2 (.look 3 (.look 4 (.act 5 (.act 6 .done))))))) (by kernel_rfl) (by kernel_rfl) (fun _ _ d _ _ h => by cases d <;> exact h) ?_ ?_
    · exact hO.drew.as _
    replace hO := hO.drew
    generalize World.drew _ = wdr at hO ⊢
    first | (refine k_look (o := ?_) (v := ?_) ?_ ?_ ?_ ?_; rotate_left 2; (· ((conv => lhs; whnf); try exact rfl)); (· rfl); (· intro w' hO'; (have hF' := Own.cells hO'; simp only [cellsOf_append, cellsOf_pt] at hF'); go_simp; (try exact rfl)); simp only [Act.put, List.setIfInBounds_toArray, List.set_cons_zero, List.set_cons_succ]) | (refine k_pass (o := ?_) ?_ ?_ ?_; rotate_left; (· ((conv => lhs; whnf); try exact rfl)); (· rfl); simp only [Act.put, List.setIfInBounds_toArray, List.set_cons_zero, List.set_cons_succ]) | (refine k_look (o := ?_) (v := .agg ?_) ?_ ?_ ?_ ?_; rotate_left 2; (· ((conv => lhs; whnf); try exact rfl)); (· rfl); (· intro w' hO'; refine run_opLoadS (b := ?_) (cs := ?_) (e := ?_) (f := ?_) hO' ?_ ?_ ?_ ?_; rotate_left 4; (· exact rfl); (· exact inferInstance); (· simp; done); (· simp; done)); simp only [Act.put, List.setIfInBounds_toArray, List.set_cons_zero, List.set_cons_succ])
    first | (refine k_look (o := ?_) (v := ?_) ?_ ?_ ?_ ?_; rotate_left 2; (· ((conv => lhs; whnf); try exact rfl)); (· rfl); (· intro w' hO'; (have hF' := Own.cells hO'; simp only [cellsOf_append, cellsOf_pt] at hF'); go_simp; (try exact rfl)); simp only [Act.put, List.setIfInBounds_toArray, List.set_cons_zero, List.set_cons_succ]) | (refine k_pass (o := ?_) ?_ ?_ ?_; rotate_left; (· ((conv => lhs; whnf); try exact rfl)); (· rfl); simp only [Act.put, List.setIfInBounds_toArray, List.set_cons_zero, List.set_cons_succ]) | (refine k_look (o := ?_) (v := .agg ?_) ?_ ?_ ?_ ?_; rotate_left 2; (· ((conv => lhs; whnf); try exact rfl)); (· rfl); (· intro w' hO'; refine run_opLoadS (b := ?_) (cs := ?_) (e := ?_) (f := ?_) hO' ?_ ?_ ?_ ?_; rotate_left 4; (· exact rfl); (· exact inferInstance); (· simp; done); (· simp; done)); simp only [Act.put, List.setIfInBounds_toArray, List.set_cons_zero, List.set_cons_succ])
    first | (refine k_look (o := ?_) (v := ?_) ?_ ?_ ?_ ?_; rotate_left 2; (· ((conv => lhs; whnf); try exact rfl)); (· rfl); (· intro w' hO'; (have hF' := Own.cells hO'; simp only [cellsOf_append, cellsOf_pt] at hF'); go_simp; (try exact rfl)); simp only [Act.put, List.setIfInBounds_toArray, List.set_cons_zero, List.set_cons_succ]) | (refine k_pass (o := ?_) ?_ ?_ ?_; rotate_left; (· ((conv => lhs; whnf); try exact rfl)); (· rfl); simp only [Act.put, List.setIfInBounds_toArray, List.set_cons_zero, List.set_cons_succ]) | (refine k_look (o := ?_) (v := .agg ?_) ?_ ?_ ?_ ?_; rotate_left 2; (· ((conv => lhs; whnf); try exact rfl)); (· rfl); (· intro w' hO'; refine run_opLoadS (b := ?_) (cs := ?_) (e := ?_) (f := ?_) hO' ?_ ?_ ?_ ?_; rotate_left 4; (· exact rfl); (· exact inferInstance); (· simp; done); (· simp; done)); simp only [Act.put, List.setIfInBounds_toArray, List.set_cons_zero, List.set_cons_succ])
    first | (refine k_look (o := ?_) (v := ?_) ?_ ?_ ?_ ?_; rotate_left 2; (· ((conv => lhs; whnf); try exact rfl)); (· rfl); (· intro w' hO'; (have hF' := Own.cells hO'; simp only [cellsOf_append, cellsOf_pt] at hF'); go_simp; (try exact rfl)); simp only [Act.put, List.setIfInBounds_toArray, List.set_cons_zero, List.set_cons_succ]) | (refine k_pass (o := ?_) ?_ ?_ ?_; rotate_left; (· ((conv => lhs; whnf); try exact rfl)); (· rfl); simp only [Act.put, List.setIfInBounds_toArray, List.set_cons_zero, List.set_cons_succ]) | (refine k_look (o := ?_) (v := .agg ?_) ?_ ?_ ?_ ?_; rotate_left 2; (· ((conv => lhs; whnf); try exact rfl)); (· rfl); (· intro w' hO'; refine run_opLoadS (b := ?_) (cs := ?_) (e := ?_) (f := ?_) hO' ?_ ?_ ?_ ?_; rotate_left 4; (· exact rfl); (· exact inferInstance); (· simp; done); (· simp; done)); simp only [Act.put, List.setIfInBounds_toArray, List.set_cons_zero, List.set_cons_succ])
    first | (refine k_look (o := ?_) (v := ?_) ?_ ?_ ?_ ?_; rotate_left 2; (· ((conv => lhs; whnf); try exact rfl)); (· rfl); (· intro w' hO'; (have hF' := Own.cells hO'; simp only [cellsOf_append, cellsOf_pt] at hF'); go_simp; (try exact rfl)); simp only [Act.put, List.setIfInBounds_toArray, List.set_cons_zero, List.set_cons_succ]) | (refine k_pass (o := ?_) ?_ ?_ ?_; rotate_left; (· ((conv => lhs; whnf); try exact rfl)); (· rfl); simp only [Act.put, List.setIfInBounds_toArray, List.set_cons_zero, List.set_cons_succ]) | (refine k_look (o := ?_) (v := .agg ?_) ?_ ?_ ?_ ?_; rotate_left 2; (· ((conv => lhs; whnf); try exact rfl)); (· rfl); (· intro w' hO'; refine run_opLoadS (b := ?_) (cs := ?_) (e := ?_) (f := ?_) hO' ?_ ?_ ?_ ?_; rotate_left 4; (· exact rfl); (· exact inferInstance); (· simp; done); (· simp; done)); simp only [Act.put, List.setIfInBounds_toArray, List.set_cons_zero, List.set_cons_succ])
    (refine k_act (o := ?_) ?_ ?_; rotate_left; (· ((conv => lhs; whnf); try exact rfl)))
    go_wp2_with (first | (refine at_mks ?_; go_must (refine own_makeBytes (e := 5) (n := 512) sltBytes hO ?_ ?_ ?_ (by decide) ?_; (· rfl); (· rfl); (· rfl); clear hO; (try clear hF); intro bb _ hO; ((try simp only [List.nil_append, List.append_nil] at hO); have hF := Own.cells hO; simp only [cellsOf_append, cellsOf_pt] at hF); simp only [Act.put, List.setIfInBounds_toArray, List.set_cons_zero, List.set_cons_succ])))
    refine ⟨hO.as _, ?_⟩
    (refine k_act (o := ?_) ?_ ?_; rotate_left; (· ((conv => lhs; whnf); try exact rfl)))
    go_wp2_with (refine at_mapup ?_; go_must (refine own_ovPut (kt := 3) (et := 97) (b := mp) (by kernel_rfl) (by kernel_rfl) hO hnd hMP (nought o.k bb) ?_ ?_ ?_ ?_ ?_; (· rfl); (· rfl); (· rfl); (· rfl); clear hO; (try clear hF); intro _ M2 hM2 hO; ((try simp only [List.nil_append, List.append_nil] at hO); have hF := Own.cells hO; simp only [cellsOf_append, cellsOf_pt] at hF); simp only [Act.put, List.setIfInBounds_toArray, List.set_cons_zero, List.set_cons_succ]))
    refine k_done ?_
    go_wp2_with fail
    rw [← HPOST.out]
    obtain ⟨A', hA, hO⟩ := act_laid (R := R) (l := l) (mf := mf) (a := a) (s := s) hFb hS hM2 hMG2 hok hnd (by unfold actF noughtF noughts; exact hO.as _)
    obtain ⟨v0, v1, v2⟩ := view_laid (bb := bb) (by omega : o.k ≠ 0) hP hnd
    have hcn := List.nodup_cons.1 HV.out.nd
    refine .inr ⟨o.k, T, c, _, _, A', .inl ⟨rfl, rfl⟩, by omega, hFb, rfl, ⟨⟨q, ?_, ?_⟩, hcn.2, fun x hx => HV.out.wt x (List.mem_cons_of_mem _ hx), filter_perm HV.out.gn HV.out.nd, fun o' ho => ?_⟩, v1, hA, hO⟩
    · rw [v0]
      exact HM.out.setF hqb
    · refine HC2.out.congr fun x hx => ?_
      rw [v1 x (by have := HV.out.wt x (List.mem_cons_of_mem _ hx); omega), if_neg]
      exact fun e => hcn.1 (e ▸ hx)
    · rcases v2 o' ho with h | h | ⟨q, hq, h⟩
      · omega
      · omega
      · have := HV.out.kb q hq; omega
end Go.Proofs.YtkfkcloefgfkaaaGreat

/- Space: Free. -/
namespace Go.Proofs.YtkfkcloefgfkaaaGreat
open Go Go.RowKit Go.Own Go.Dk

/-- What Free does: there is no such page; or it is free from now on. -/
def FreeP (E : World) (J : Nat → Prop) (F0 : List UInt8) (s l p mf d most N a mp mg : Nat) (cont : Nat → List UInt8) (ovs : List Ov) (gone : List Nat) (T : Nat) (c : List Nat) (rt : Nat → Nat) (k : Int) (R : Fr) (e : Ending) (w' : World) : Prop :=
  (¬ there T gone k ∧ e = .returned (.int .i64 3) ∧ ∃ A', ActC J F0 s l p mf d most N a mp mg cont ovs gone false A' ∧ Own E w' (A' ++ R)) ∨
  (there T gone k ∧ e = .returned (.int .i64 0) ∧ ∃ (ovs' : List Ov) (gone' : List Nat) (A' : Fr), View cont ovs' gone' T (k.toNat :: c) rt ∧ (∀ j, j ≠ 0 → j ≠ k.toNat → oview cont ovs' j = oview cont ovs j) ∧
    ActC J F0 s l p mf d most N a mp mg cont ovs' gone' false A' ∧ Own E w' (A' ++ R))
set_option maxRecDepth 100000 in
set_option maxHeartbeats 16000000 in
theorem aFree {J : Nat → Prop} {F0 : List UInt8} (E w : World) (X R A : Fr) (s l p mf d most N a mp mg : Nat) (cont : Nat → List UInt8) (ovs : List Ov) (gone : List Nat) (T : Nat) (c : List Nat) (rt : Nat → Nat) (k : Int) (hV : View cont ovs gone T c rt) (hA : ActC J F0 s l p mf d most N a mp mg cont ovs gone false A) (hm : 0 < most) (hm2 : most ≤ 1024) (hN : N ≤ 8796093022208) (hO : Own E w X) [hp : Pick X A R] :
    Calls Tryz.prog 90 #[.pointer (some ⟨a, 0, none⟩), .int .i64 k] w (FreeP E J F0 s l p mf d most N a mp mg cont ovs gone T c rt k R) := by
  replace hO := hO.perm hp.perm
  clear hp
  generalize hpost : FreeP E J F0 s l p mf d most N a mp mg cont ovs gone T c rt k R = POST
  have HPOST := Lib.hid hpost
  clear hpost
  obtain ⟨r0, hr0⟩ := hV.zero
  have hTb := hV.tb
  go_enter Tryz.func90, Tryz.ntmps90
  go_wp2_with fail
  refine (aThere E _ _ _ A s l p mf d most N a mp mg cont ovs gone false T r0 k hr0 (by omega) hA hm hm2 hN hO).mono ?_
  clear hO hA hr0
  rintro e w2 ⟨rfl, A, hA, hO⟩
  rw [if_neg (by decide)]
  by_cases ht : there T gone k
  rotate_left
  · rw [if_neg ht]
    have HT := Lib.hid ht
    clear ht
    go_wp2_with fail
    rw [← HPOST.out]
    exact .inl ⟨HT.out, rfl, A, hA, hO⟩
  rw [if_pos ht]
  obtain ⟨n, rfl⟩ : ∃ n : Nat, k = n := ⟨k.toNat, by have := ht.1; omega⟩
  have hn1 : n ≠ 0 := by have := ht.1; omega
  have hnT : n ≤ T := by have := ht.2.1; omega
  have hng : n ∉ gone := ht.2.2
  have hn : n < 4096 := by omega
  have HT := Lib.hid ht
  obtain ⟨F, hM, hC⟩ := hV.ex
  obtain ⟨r, hr⟩ := hM.hd
  have hFb := hM.fb
  have HV := Lib.hid hV
  have HM := Lib.hid hM
  have HC := Lib.hid hC
  have HR := Lib.hid hr
  have HNG := Lib.hid hng
  clear ht hV hM hC hr hng
  obtain ⟨PA, MP, MG, hS, hMP, hMG, hok, hnd, rfl⟩ := hA
  unfold actF at hO
  ((try simp only [List.nil_append, List.append_nil] at hO); have hF := Own.cells hO; simp only [cellsOf_append, cellsOf_pt] at hF)
  go_wp2_with fail
  (try (go_wp2_with fail))
  refine region_k (fun w' => Own E w' (pt a (.cells #[.pointer (some ⟨s, 0, none⟩), .map (some mp), .map (some mg), .bool false] 95 (0, 0)))) 6 (.look 0 (.look 1 (.look 2 (.look 3 (.look 4 (.act 5 (.act 6 .done))))))) (by kernel_rfl) (by kernel_rfl) (fun _ _ d _ _ h => by cases d <;> exact h) ?_ ?_
  · exact hO.drew.as _
  replace hO := hO.drew
  generalize World.drew _ = wdr at hO ⊢
  first | (refine k_look (o := ?_) (v := ?_) ?_ ?_ ?_ ?_; rotate_left 2; (· ((conv => lhs; whnf); try exact rfl)); (· rfl); (· intro w' hO'; (have hF' := Own.cells hO'; simp only [cellsOf_append, cellsOf_pt] at hF'); go_simp; (try exact rfl)); simp only [Act.put, List.setIfInBounds_toArray, List.set_cons_zero, List.set_cons_succ]) | (refine k_pass (o := ?_) ?_ ?_ ?_; rotate_left; (· ((conv => lhs; whnf); try exact rfl)); (· rfl); simp only [Act.put, List.setIfInBounds_toArray, List.set_cons_zero, List.set_cons_succ]) | (refine k_look (o := ?_) (v := .agg ?_) ?_ ?_ ?_ ?_; rotate_left 2; (· ((conv => lhs; whnf); try exact rfl)); (· rfl); (· intro w' hO'; refine run_opLoadS (b := ?_) (cs := ?_) (e := ?_) (f := ?_) hO' ?_ ?_ ?_ ?_; rotate_left 4; (· exact rfl); (· exact inferInstance); (· simp; done); (· simp; done)); simp only [Act.put, List.setIfInBounds_toArray, List.set_cons_zero, List.set_cons_succ])
  first | (refine k_look (o := ?_) (v := ?_) ?_ ?_ ?_ ?_; rotate_left 2; (· ((conv => lhs; whnf); try exact rfl)); (· rfl); (· intro w' hO'; (have hF' := Own.cells hO'; simp only [cellsOf_append, cellsOf_pt] at hF'); go_simp; (try exact rfl)); simp only [Act.put, List.setIfInBounds_toArray, List.set_cons_zero, List.set_cons_succ]) | (refine k_pass (o := ?_) ?_ ?_ ?_; rotate_left; (· ((conv => lhs; whnf); try exact rfl)); (· rfl); simp only [Act.put, List.setIfInBounds_toArray, List.set_cons_zero, List.set_cons_succ]) | (refine k_look (o := ?_) (v := .agg ?_) ?_ ?_ ?_ ?_; rotate_left 2; (· ((conv => lhs; whnf); try exact rfl)); (· rfl); (· intro w' hO'; refine run_opLoadS (b := ?_) (cs := ?_) (e := ?_) (f := ?_) hO' ?_ ?_ ?_ ?_; rotate_left 4; (· exact rfl); (· exact inferInstance); (· simp; done); (· simp; done)); simp only [Act.put, List.setIfInBounds_toArray, List.set_cons_zero, List.set_cons_succ])
  first | (refine k_look (o := ?_) (v := ?_) ?_ ?_ ?_ ?_; rotate_left 2; (· ((conv => lhs; whnf); try exact rfl)); (· rfl); (· intro w' hO'; (have hF' := Own.cells hO'; simp only [cellsOf_append, cellsOf_pt] at hF'); go_simp; (try exact rfl)); simp only [Act.put, List.setIfInBounds_toArray, List.set_cons_zero, List.set_cons_succ]) | (refine k_pass (o := ?_) ?_ ?_ ?_; rotate_left; (· ((conv => lhs; whnf); try exact rfl)); (· rfl); simp only [Act.put, List.setIfInBounds_toArray, List.set_cons_zero, List.set_cons_succ]) | (refine k_look (o := ?_) (v := .agg ?_) ?_ ?_ ?_ ?_; rotate_left 2; (· ((conv => lhs; whnf); try exact rfl)); (· rfl); (· intro w' hO'; refine run_opLoadS (b := ?_) (cs := ?_) (e := ?_) (f := ?_) hO' ?_ ?_ ?_ ?_; rotate_left 4; (· exact rfl); (· exact inferInstance); (· simp; done); (· simp; done)); simp only [Act.put, List.setIfInBounds_toArray, List.set_cons_zero, List.set_cons_succ])
  first | (refine k_look (o := ?_) (v := ?_) ?_ ?_ ?_ ?_; rotate_left 2; (· ((conv => lhs; whnf); try exact rfl)); (· rfl); (· intro w' hO'; (have hF' := Own.cells hO'; simp only [cellsOf_append, cellsOf_pt] at hF'); go_simp; (try exact rfl)); simp only [Act.put, List.setIfInBounds_toArray, List.set_cons_zero, List.set_cons_succ]) | (refine k_pass (o := ?_) ?_ ?_ ?_; rotate_left; (· ((conv => lhs; whnf); try exact rfl)); (· rfl); simp only [Act.put, List.setIfInBounds_toArray, List.set_cons_zero, List.set_cons_succ]) | (refine k_look (o := ?_) (v := .agg ?_) ?_ ?_ ?_ ?_; rotate_left 2; (· ((conv => lhs; whnf); try exact rfl)); (· rfl); (· intro w' hO'; refine run_opLoadS (b := ?_) (cs := ?_) (e := ?_) (f := ?_) hO' ?_ ?_ ?_ ?_; rotate_left 4; (· exact rfl); (· exact inferInstance); (· simp; done); (· simp; done)); simp only [Act.put, List.setIfInBounds_toArray, List.set_cons_zero, List.set_cons_succ])
  first | (refine k_look (o := ?_) (v := ?_) ?_ ?_ ?_ ?_; rotate_left 2; (· ((conv => lhs; whnf); try exact rfl)); (· rfl); (· intro w' hO'; (have hF' := Own.cells hO'; simp only [cellsOf_append, cellsOf_pt] at hF'); go_simp; (try exact rfl)); simp only [Act.put, List.setIfInBounds_toArray, List.set_cons_zero, List.set_cons_succ]) | (refine k_pass (o := ?_) ?_ ?_ ?_; rotate_left; (· ((conv => lhs; whnf); try exact rfl)); (· rfl); simp only [Act.put, List.setIfInBounds_toArray, List.set_cons_zero, List.set_cons_succ]) | (refine k_look (o := ?_) (v := .agg ?_) ?_ ?_ ?_ ?_; rotate_left 2; (· ((conv => lhs; whnf); try exact rfl)); (· rfl); (· intro w' hO'; refine run_opLoadS (b := ?_) (cs := ?_) (e := ?_) (f := ?_) hO' ?_ ?_ ?_ ?_; rotate_left 4; (· exact rfl); (· exact inferInstance); (· simp; done); (· simp; done)); simp only [Act.put, List.setIfInBounds_toArray, List.set_cons_zero, List.set_cons_succ])
  (refine k_act (o := ?_) ?_ ?_; rotate_left; (· ((conv => lhs; whnf); try exact rfl)))
  go_wp2_with (first | (refine at_mks ?_; go_must (refine own_makeBytes (e := 5) (n := 512) sltBytes hO ?_ ?_ ?_ (by decide) ?_; (· rfl); (· rfl); (· rfl); clear hO; (try clear hF); intro bb _ hO; ((try simp only [List.nil_append, List.append_nil] at hO); have hF := Own.cells hO; simp only [cellsOf_append, cellsOf_pt] at hF); simp only [Act.put, List.setIfInBounds_toArray, List.set_cons_zero, List.set_cons_succ])))
  refine ⟨hO.as _, ?_⟩
  (refine k_act (o := ?_) ?_ ?_; rotate_left; (· ((conv => lhs; whnf); try exact rfl)))
  go_wp2_with (refine at_mapup ?_; go_must (refine own_ovPut (kt := 3) (et := 97) (b := mp) (by kernel_rfl) (by kernel_rfl) hO hnd hMP (nought n bb) ?_ ?_ ?_ ?_ ?_; (· rfl); (· rfl); (· rfl); (· rfl); clear hO; (try clear hF); intro _ M2 hM2 hO; ((try simp only [List.nil_append, List.append_nil] at hO); have hF := Own.cells hO; simp only [cellsOf_append, cellsOf_pt] at hF); simp only [Act.put, List.setIfInBounds_toArray, List.set_cons_zero, List.set_cons_succ]))
  refine k_done ?_
  obtain ⟨A, hA, hO'⟩ := act_laid (R := R) (l := l) (mf := mf) (a := a) (s := s) hn hS hM2 hMG hok hnd (by unfold actF noughtF noughts; exact hO.as _)
  clear hO
  have hO := hO'
  clear hO'
  have hv1 : ∀ j, oview cont (ovset ovs (nought n bb)) j = if j = n then noughts else oview cont ovs j := (ovset_put (cont := cont) (o' := nought n bb) hnd).1
  have hv2 := (ovset_put (cont := cont) (o' := nought n bb) hnd).2
  generalize ovset ovs (nought n bb) = ovs1 at hA hv1 hv2 hM2
  have HV1 := Lib.hid hv1
  have HV2 := Lib.hid hv2
  clear hv1 hv2 hF hM2 hMP hMG hok hnd hS
  go_wp2_with fail
  refine (aPage E _ _ _ A s l p mf d most N a mp mg cont ovs1 gone false 0 (by decide) hA hm hm2 hN hO).mono ?_
  clear hO hA
  rintro e w3 ⟨o, A, h0, hok, hol, rfl, hA, hc⟩
  obtain ⟨Y, hO, hB, hY⟩ := page_out hA hc hok
  rw [HV1.out 0, if_neg (by exact fun e => hn1 e.symm)] at hol
  have hB4 : ∀ w, Own E w Y → ∀ j v, (bytesV (hd4 F))[j]? = some v → w.cell? (Addr.add ⟨o.b, 4, none⟩ j) = some v := by
    intro w' hO' j v hj
    refine bytesIn_at (BytesIn.drop (i := 4) hB) w' hO' j v ?_
    rw [hol, HR.out, hd4_F, bytesV_append, List.getElem?_append_left (List.getElem?_eq_some_iff.1 hj).1]
    exact hj
  have hcap := hok.2.2.1
  rw [hok.2.1] at hcap
  have hcapi : (512 : Int) ≤ o.cap := by omega
  have hc4 : (8 : Int) ≤ o.cap := by omega
  clear hB hol hok hc h0
  unfold ovV
  go_wp2_with (first | (refine at_conv ?_; go_must (refine own_bytes_str (e := 5) (ad := ?_) (n := ?_) (cap := ?_) (l := hd4 F) (by kernel_rfl) (by kernel_rfl) (by kernel_rfl) ?_ ?_ ?_ ?_ ?_ ?_; rotate_left 3; (· rfl); (· ((conv => lhs; whnf); try exact rfl)); (· rfl); (· intro b hb j v hj; cases hb; exact hB4 _ (hO.as Y) j v hj); (· intro h; cases h); simp only [Act.put, List.setIfInBounds_toArray, List.set_cons_zero, List.set_cons_succ])))
  replace hO := hY _ hO
  clear hY hB4
  refine (aPut E _ _ _ A s l p mf d most N a mp mg cont ovs1 gone false n 0 (hdB F) hn (by show 0 + 4 ≤ 512; omega) hA hm hm2 hN hO).mono ?_
  clear hO hA
  rintro e w7 ⟨ovs2, A, rfl, hP2, hA, hO⟩
  have HP2 := Lib.hid hP2
  clear hP2
  go_wp2_with fail
  refine (sDigits E _ _ n (by omega) hO).mono ?_
  clear hO
  rintro e w6 ⟨rfl, hO⟩
  go_wp2_with fail
  refine (aPut E _ _ _ A s l p mf d most N a mp mg cont ovs2 gone false 0 4 (hdB n) (by decide) (by show 4 + 4 ≤ 512; omega) hA hm hm2 hN hO).mono ?_
  clear hO hA
  rintro e w8 ⟨ovs3, A, rfl, hP3, ⟨PA, MP, MG, hS, hMP, hMG, hok, hnd, rfl⟩, hO⟩
  have HP3 := Lib.hid hP3
  clear hP3
  unfold actF at hO
  ((try simp only [List.nil_append, List.append_nil] at hO); have hF := Own.cells hO; simp only [cellsOf_append, cellsOf_pt] at hF)
  have hlg : mlook (gone.map gnP) (n : Int) = none := gone_out (fun q hq e => HNG.out ((Int.ofNat.inj e) ▸ hq))
  go_wp2_with (refine at_mapup ?_; go_must (refine own_mapNew (kt := 3) (et := 4) (b := mg) (k := n) (v := .bool true) (l := gone.map gnP) (by kernel_rfl) (by kernel_rfl) hO hMG ?_ ?_ ?_ ?_ hlg ?_; (· rfl); (· rfl); (· rfl); (· rfl); clear hO; (try clear hF); intro _ MG2 hMG2 hO; ((try simp only [List.nil_append, List.append_nil] at hO); have hF := Own.cells hO; simp only [cellsOf_append, cellsOf_pt] at hF); simp only [Act.put, List.setIfInBounds_toArray, List.set_cons_zero, List.set_cons_succ]))
  rw [← HPOST.out]
  have hP3 := HP3.out
  have hP2 := HP2.out
  have hM0 : oview cont ovs2 0 = oview cont ovs 0 := by
    rw [hP2.1, if_neg (by exact fun e => hn1 e.symm), HV1.out 0, if_neg (by exact fun e => hn1 e.symm)]
  have hv : ∀ j, j ≠ 0 → j ≠ n → oview cont ovs3 j = oview cont ovs j := fun j h0 h1 => by
    rw [hP3.1, if_neg h0, hP2.1, if_neg h1, HV1.out j, if_neg h1]
  have hvn : oview cont ovs3 n = hd4 F ++ noughts.drop 4 := by
    rw [hP3.1, if_neg hn1, hP2.1, if_pos rfl, HV1.out n, if_pos rfl]
    rfl
  refine .inr ⟨HT.out, rfl, ovs3, gone ++ [n], _, ⟨⟨n, ?_, rfl, by omega, F, _, hvn, hFb, ?_⟩, ?_, ?_, ?_, ?_⟩, hv, ⟨PA, MP, MG2, hS, hMP, by rw [List.map_append]; exact hMG2, hok, hnd, rfl⟩, by unfold actF; exact hO.as _⟩
  · rw [hP3.1, if_pos rfl, hM0]
    exact HM.out.setF hn
  · refine HC.out.congr fun x hx => ?_
    have := HV.out.wt x hx
    exact hv x (by omega) fun e => HNG.out ((HV.out.gn.mem_iff).2 (e ▸ hx))
  · exact List.nodup_cons.2 ⟨fun h => HNG.out ((HV.out.gn.mem_iff).2 h), HV.out.nd⟩
  · intro x hx
    rcases List.mem_cons.1 hx with rfl | hx
    · exact ⟨by omega, hnT⟩
    · exact HV.out.wt x hx
  · have := HV.out.gn
    exact (List.perm_append_comm).trans (this.cons n)
  · intro o' ho
    rcases (hP3.2 o'.k).1 ⟨o', ho, rfl⟩ with h | ⟨q1, hq1, h⟩
    · omega
    · rcases (hP2.2 q1.k).1 ⟨q1, hq1, rfl⟩ with h2 | ⟨q2, hq2, h2⟩
      · omega
      · rcases (HV2.out q2.k).1 ⟨q2, hq2, rfl⟩ with h3 | ⟨q3, hq3, h3⟩
        · have h3' : q2.k = n := h3
          omega
        · have := HV.out.kb q3 hq3; omega
end Go.Proofs.YtkfkcloefgfkaaaGreat

/- Space: Begin. -/
namespace Go.Proofs.YtkfkcloefgfkaaaGreat
open Go Go.RowKit Go.Own Go.Dk

/-- What Begin leaves: an action that has all free pages, and no page of its own. -/
def BeginP (E : World) (s l p mf : Nat) (fr : List Nat) (R : Fr) (e : Ending) (w' : World) : Prop :=
  ∃ (a mp mg : Nat) (gone : List Nat) (MP MG MF : Fr), e = .returned (.tuple #[.pointer (some ⟨a, 0, none⟩), .int .i64 0]) ∧ gone.Perm fr ∧ MapAt mp [] MP ∧ MapAt mg (gone.map gnP) MG ∧ MapAt mf (fr.map gnP) MF ∧
    Own E w' (actF a s mp mg false ++ (MP ++ (MG ++ (MF ++ (spF s l p (some ⟨a, 0, none⟩) mf ++ R)))))
theorem gnP_keys (l : List Nat) : (l.map gnP).map (·.1) = l.map (fun n : Nat => (n : Int)) := by
  rw [List.map_map]; rfl
theorem nat_perm {a b : List Nat} (h : (a.map (fun n : Nat => (n : Int))).Perm (b.map (fun n : Nat => (n : Int)))) : a.Perm b := by
  have := h.map Int.toNat
  rw [List.map_map, List.map_map] at this
  have e : (Int.toNat ∘ fun n : Nat => (n : Int)) = id := by funext n; simp
  rwa [e, List.map_id, List.map_id] at this
set_option maxRecDepth 100000 in
set_option maxHeartbeats 16000000 in
theorem sBegin (E w : World) (X R MF : Fr) (s l p mf : Nat) (fr : List Nat) (hMF : MapAt mf (fr.map gnP) MF) (hO : Own E w X) [hp : Pick X (spF s l p none mf ++ MF) R] :
    Calls Tryz.prog 14 #[.pointer (some ⟨s, 0, none⟩)] w (BeginP E s l p mf fr R) := by
  replace hO := hO.perm hp.perm
  clear hp
  generalize hpost : BeginP E s l p mf fr R = POST
  have HPOST := Lib.hid hpost
  clear hpost
  go_enter Tryz.func14, Tryz.ntmps14
  go_wp2_with fail
  refine (sGiven E _ _ _ s l p mf none hO).mono ?_
  rintro e w1 ⟨rfl, rfl⟩
  unfold spF at hO
  ((try simp only [List.nil_append, List.append_nil] at hO); have hF := Own.cells hO; simp only [cellsOf_append, cellsOf_pt] at hF)
  have hlen : (fr.map gnP).length = fr.length := by simp
  go_wp2_with (first | (refine at_box ?_; go_must (refine own_box (v := ?_) hO ?_ ?_ ?_; rotate_left; (· rfl); (· ((conv => lhs; whnf); try exact rfl)); clear hO; (try clear hF); intro a _ hO; (try simp only [Value.cells] at hO); ((try simp only [List.nil_append, List.append_nil] at hO); have hF := Own.cells hO; simp only [cellsOf_append, cellsOf_pt] at hF); simp only [Act.put, List.setIfInBounds_toArray, List.set_cons_zero, List.set_cons_succ])) | (refine at_mkMap (t := 92) ?_; go_must (refine own_makeMap hO ?_ ?_; (· rfl); clear hO; (try clear hF); intro mp MP _ hMP hO; ((try simp only [List.nil_append, List.append_nil] at hO); have hF := Own.cells hO; simp only [cellsOf_append, cellsOf_pt] at hF); simp only [Act.put, List.setIfInBounds_toArray, List.set_cons_zero, List.set_cons_succ])) | (refine at_mkMap (t := 93) ?_; go_must (refine own_makeMap hO ?_ ?_; (· rfl); clear hO; (try clear hF); intro mg MG _ hMG hO; ((try simp only [List.nil_append, List.append_nil] at hO); have hF := Own.cells hO; simp only [cellsOf_append, cellsOf_pt] at hF); simp only [Act.put, List.setIfInBounds_toArray, List.set_cons_zero, List.set_cons_succ])) | (refine at_rng ?_; go_must (refine own_range (kt := 3) (et := 4) (b := mf) (l := fr.map gnP) (by kernel_rfl) hO hMF ?_ ?_ ?_; (· rfl); (· rfl); clear hO; (try clear hF); intro r _ A1 hR hO; ((try simp only [List.nil_append, List.append_nil] at hO); have hF := Own.cells hO; simp only [cellsOf_append, cellsOf_pt] at hF); simp only [Act.put, List.setIfInBounds_toArray, List.set_cons_zero, List.set_cons_succ])))
  replace hO := hO.as (pt a (.cells #[.pointer (some ⟨s, 0, none⟩), .map (some mp), .map (some mg), .bool false] 95 (0, 0)) ++ (MP ++ (MG ++ (A1 ++ (pt s (.cells #[.pointer (some ⟨l, 0, none⟩), .pointer (some ⟨p, 0, none⟩), .pointer none, .map (some mf)] 102 (0, 0)) ++ R)))))
  have hO1 := hO
  clear hO hF hMF
  go_loopw [5] (fun _ wr => ∃ (done : List Nat) (MG A1 : Fr), Ranging r mf (fr.map gnP) (done.map (fun n : Nat => (n : Int))) A1 ∧ MapAt mg (done.map gnP) MG ∧ Own E wr (actF a s mp mg false ++ (MP ++ (MG ++ (A1 ++ (spF s l p none mf ++ R)))))) (fun _ w => fr.length - seenN w r)
  case atStart => exact ⟨[], MG, A1, hR, hMG, hO1⟩
  case round =>
    clear hO1 hR hMG
    obtain ⟨done, MG, A1, hR, hMG, hO⟩ := hrel
    have hseen := hR.seen hO
    have HSEEN := Lib.hid hseen
    have hdl := hR.le
    clear hseen
    unfold actF spF at hO
    ((try simp only [List.nil_append, List.append_nil] at hO); have hF := Own.cells hO; simp only [cellsOf_append, cellsOf_pt] at hF)
    go_wp2_with (refine at_nxt ?_; go_must (refine own_nextV (r := r) (b := mf) (l := fr.map gnP) (done := done.map (fun n : Nat => (n : Int))) hO hR ?_ ?_ ?_ ?_; (· rfl); (· rfl)))
    · intro hperm
      simp only [Act.put, List.setIfInBounds_toArray, List.set_cons_zero, List.set_cons_succ]
      rw [gnP_keys] at hperm
      have hgp := nat_perm hperm
      obtain ⟨I, M2, hM2, rfl⟩ := hR.back
      go_wp2_with (first | (refine own_store (v := ?_) (off := 2) (b := s) hO ?_ ?_ ?_ ?_ ?_ ?_ ?_; rotate_left; (· rfl); (· ((conv => lhs; whnf); try exact rfl)); (· ((conv => lhs; whnf); try exact rfl)); (· simp [Value.cells]); (· simp [Value.cells, Value.oneCell']); (· simp [Value.cells]); clear hO; (try clear hF); intro _ hO; (try simp only [splice, Value.cells] at hO); ((try simp only [List.nil_append, List.append_nil] at hO); have hF := Own.cells hO; simp only [cellsOf_append, cellsOf_pt] at hF); simp only [Act.put, List.setIfInBounds_toArray, List.set_cons_zero, List.set_cons_succ]))
      (try simp only [splice, Value.cells, List.setIfInBounds_toArray, List.set_cons_zero, List.set_cons_succ] at hO)
      rw [← HPOST.out]
      exact ⟨a, mp, mg, done, MP, MG, M2, rfl, hgp, hMP, hMG, hM2, by unfold actF spF; exact hO.as _⟩
    · intro k v w2 A2 hkv hR2 hO hen
      simp only [Act.put, List.setIfInBounds_toArray, List.set_cons_zero, List.set_cons_succ]
      obtain ⟨q, hq, hqk⟩ := List.mem_map.1 hkv
      obtain ⟨rfl, rfl⟩ := Prod.mk.inj hqk
      have hnd := hR2.nodup.1
      have hqn : ∀ x ∈ done, (x : Int) ≠ (q : Int) := by
        intro x hx e
        rw [List.nodup_append] at hnd
        exact hnd.2.2 _ (List.mem_map.2 ⟨x, hx, rfl⟩) _ (by simp) e
      have hlq : mlook (done.map gnP) (q : Int) = none := gone_out hqn
      have hle2 := hR2.le
      have hsn := hR2.seen hO
      have HSN := Lib.hid hsn
      clear hF hnd hqn hsn
      ((try simp only [List.nil_append, List.append_nil] at hO); have hF := Own.cells hO; simp only [cellsOf_append, cellsOf_pt] at hF)
      go_wp2_with (refine at_mapup ?_; go_must (refine own_mapNew (kt := 3) (et := 4) (b := mg) (k := q) (v := .bool true) (l := done.map gnP) (by kernel_rfl) (by kernel_rfl) hO hMG ?_ ?_ ?_ ?_ hlq ?_; (· rfl); (· rfl); (· rfl); (· rfl); clear hO; (try clear hF); intro w3 MG2 hMG2 hO; ((try simp only [List.nil_append, List.append_nil] at hO); have hF := Own.cells hO; simp only [cellsOf_append, cellsOf_pt] at hF); simp only [Act.put, List.setIfInBounds_toArray, List.set_cons_zero, List.set_cons_succ]))
      go_roundw
      case rel => exact ⟨done ++ [q], MG2, A2, by rw [List.map_append]; exact hR2, by rw [List.map_append]; exact hMG2, by unfold actF spF; exact hO.as _⟩
      case measure =>
        have h1 := hR2.seen hO
        have h2 := HSEEN.out
        simp only [List.length_append, List.length_map, List.length_cons, List.length_nil] at h1 h2 hle2
        omega
set_option maxRecDepth 100000 in
set_option maxHeartbeats 16000000 in
theorem sBegin_busy (E w : World) (X R : Fr) (s l p mf : Nat) (ad : Addr) (hO : Own E w X) [hp : Pick X (spF s l p (some ad) mf) R] :
    Calls Tryz.prog 14 #[.pointer (some ⟨s, 0, none⟩)] w fun e w' => e = .returned (.tuple #[.pointer none, .int .i64 50]) ∧ w = w' := by
  replace hO := hO.perm hp.perm
  clear hp
  go_enter Tryz.func14, Tryz.ntmps14
  go_wp2_with fail
  refine (sGiven E _ _ _ s l p mf (some ad) hO).mono ?_
  rintro e w1 ⟨rfl, rfl⟩
  unfold spF at hO
  ((try simp only [List.nil_append, List.append_nil] at hO); have hF := Own.cells hO; simp only [cellsOf_append, cellsOf_pt] at hF)
  go_wp2_with fail
  go_ret2
  exact ⟨rfl, rfl⟩
end Go.Proofs.YtkfkcloefgfkaaaGreat

/- Space: Pages, Pinned, flush, Checkpoint. -/
namespace Go.Proofs.YtkfkcloefgfkaaaGreat
open Go Go.RowKit Go.Own Go.Dk

def PagesP (E : World) (J : Nat → Prop) (F0 : List UInt8) (s l p : Nat) (now : Option Addr) (mf d most N : Nat) (cont : Nat → List UInt8) (fr : List Nat) (T : Nat) (R : Fr) (e : Ending) (w' : World) : Prop :=
  ∃ (sa : Option Addr) (cap : Nat) (hs : List Int) (S PA MF : Fr), e = .returned (.tuple #[.int .i64 T, .slice sa hs.length cap]) ∧ hs.Perm (fr.map fun n : Nat => (n : Int)) ∧ hs.Pairwise (fun x y => x < y) ∧
    Sl 3 1 sa hs.length cap (hs.map (Value.int .i64)) S ∧ PoolS J F0 p d most N cont (fun _ => 0) PA ∧ MapAt mf (fr.map gnP) MF ∧ Own E w' (S ++ (spF s l p now mf ++ (MF ++ (PA ++ R))))
set_option maxRecDepth 100000 in
set_option maxHeartbeats 16000000 in
theorem sPages {J : Nat → Prop} {F0 : List UInt8} (E w : World) (X R PA MF : Fr) (s l p mf : Nat) (now : Option Addr) (d most N : Nat) (cont : Nat → List UInt8) (fr : List Nat) (T : Nat) (r0 : List UInt8) (hr0 : cont 0 = hd4 T ++ r0) (hT : T < 4096) (hfl : fr.length ≤ 4096) (hMF : MapAt mf (fr.map gnP) MF) (hS : PoolS J F0 p d most N cont (fun _ => 0) PA) (hm : 0 < most) (hm2 : most ≤ 1024) (hN : N ≤ 8796093022208) (hO : Own E w X) [hp : Pick X (spF s l p now mf ++ (MF ++ PA)) R] :
    Calls Tryz.prog 19 #[.pointer (some ⟨s, 0, none⟩)] w (PagesP E J F0 s l p now mf d most N cont fr T R) := by
  replace hO := hO.perm hp.perm
  clear hp
  generalize hpost : PagesP E J F0 s l p now mf d most N cont fr T R = POST
  have HPOST := Lib.hid hpost
  clear hpost
  go_enter Tryz.func19, Tryz.ntmps19
  go_wp2_with fail
  refine (sGiven E _ _ _ s l p mf now hO).mono ?_
  rintro e w1 ⟨rfl, rfl⟩
  unfold spF at hO
  ((try simp only [List.nil_append, List.append_nil] at hO); have hF := Own.cells hO; simp only [cellsOf_append, cellsOf_pt] at hF)
  have hlen : (fr.map gnP).length = fr.length := by simp
  go_wp2_with (refine at_rng ?_; go_must (refine own_range (kt := 3) (et := 4) (b := mf) (l := fr.map gnP) (by kernel_rfl) hO hMF ?_ ?_ ?_; (· rfl); (· rfl); clear hO; (try clear hF); intro r _ A1 hR hO; ((try simp only [List.nil_append, List.append_nil] at hO); have hF := Own.cells hO; simp only [cellsOf_append, cellsOf_pt] at hF); simp only [Act.put, List.setIfInBounds_toArray, List.set_cons_zero, List.set_cons_succ]))
  have hO1 := hO
  clear hO hF hMF
  go_loopw [4] (fun s4 wr => ∃ (done : List Int) (sa : Option Addr) (cap : Nat) (Z A1 : Fr), s4 = .slice sa done.length cap ∧ Sl 3 1 sa done.length cap (done.map (Value.int .i64)) Z ∧ Ranging r mf (fr.map gnP) done A1 ∧
      Own E wr (pt s (.cells #[.pointer (some ⟨l, 0, none⟩), .pointer (some ⟨p, 0, none⟩), .pointer now, .map (some mf)] 102 (0, 0)) ++ (Z ++ (A1 ++ (PA ++ R))))) (fun s4 _ => fr.length - slN s4)
  case atStart => exact ⟨[], none, 0, [], A1, rfl, Sl.nil _ _, hR, hO1.as _⟩
  case round =>
    clear hO1 hR
    obtain ⟨done, sa, cap, Z, A1, rfl, hZ, hR, hO⟩ := hrel
    have hle := hR.le
    ((try simp only [List.nil_append, List.append_nil] at hO); have hF := Own.cells hO; simp only [cellsOf_append, cellsOf_pt] at hF)
    go_wp2_with (refine at_nxt ?_; go_must (refine own_next (r := r) (b := mf) (l := fr.map gnP) (done := done) hO hR ?_ ?_ ?_ ?_; (· rfl); (· rfl)))
    · intro hperm
      simp only [Act.put, List.setIfInBounds_toArray, List.set_cons_zero, List.set_cons_succ]
      go_wp2_with fail
      refine (sortI E _ _ _ Z sa cap done hZ (by omega) hO).mono ?_; rintro e w1 ⟨rfl, Z2, hZ2, hO⟩
      obtain ⟨I, M2, hM2, rfl⟩ := hR.back
      have hnd := hR.nodup.1
      clear hF
      go_wp2_with fail
      have hO' : Own E w1 (spF s l p now mf ++ (PA ++ (Z2 ++ (M2 ++ R)))) := by unfold spF; exact hO.as _
      clear hO
      refine (sBytes E _ _ _ PA s l p mf now d most N cont 0 (by decide) hS hm hm2 hN hO').mono ?_
      clear hO' hS
      rintro e w2 ⟨b, bcap, B, PA, rfl, hB, hS, hO⟩
      have hBB := pgb_bytes (E := E) hB
      rw [hr0] at hBB
      have hrl : 512 = 4 + r0.length := by
        have := hS.clen 0
        rw [hr0, List.length_append] at this
        exact this.symm
      have hbc := hB.1
      rw [hS.clen 0] at hbc
      have hbi : (512 : Int) ≤ bcap := by omega
      have HRL := Lib.hid hrl
      have HP := Lib.hid hperm
      have HR0 := Lib.hid hr0
      clear hrl hB hperm hr0
      go_wp2_with fail
      refine (sNumber4 E _ _ _ B _ 512 _ T r0 (by omega) HRL.out hBB hO).mono ?_
      clear hO
      rintro e w3 ⟨rfl, hO⟩
      go_wp2_with fail
      rw [← HPOST.out]
      refine ⟨sa, cap, srt done, Z2, PA, M2, by rw [srt_length]; rfl, (srt_perm done).trans (by have := HP.out; rwa [gnP_keys] at this), srt_rise hnd, by rw [srt_length]; exact hZ2, hS, hM2, hO.as _⟩
    · intro k v w2 A2 hR2 hO hen
      simp only [Act.put, List.setIfInBounds_toArray, List.set_cons_zero, List.set_cons_succ]
      clear hF
      ((try simp only [List.nil_append, List.append_nil] at hO); have hF := Own.cells hO; simp only [cellsOf_append, cellsOf_pt] at hF)
      go_wp2_with (first | (refine at_bs ?_; go_must (refine own_build1 (v := ?_) sltInts hO ?_ ?_ ?_ ?_ ?_ ?_; rotate_left; (· rfl); (· ((conv => lhs; whnf); try exact rfl)); (· rfl); (· decide); (· decide); clear hO; (try clear hF); intro bs _ hO; (try simp only [Value.cells] at hO); ((try simp only [List.nil_append, List.append_nil] at hO); have hF := Own.cells hO; simp only [cellsOf_append, cellsOf_pt] at hF); simp only [Act.put, List.setIfInBounds_toArray, List.set_cons_zero, List.set_cons_succ])) | (refine at_append ?_; go_must (refine own_append_elem (b1 := ?_) (cs := ?_) (e1 := ?_) (f1 := ?_) sltInts hO ?_ ?_ ?_ hZ ?_ ?_ ?_ ?_ ?_ ?_ ?_; rotate_left 4; (· rfl); (· rfl); (· rfl); (· exact inferInstance); (· rfl); (· intro u hu; simp at hu; subst hu; rfl); (· first | omega | (simp only [maxLen]; omega)); (· decide); (· first | omega | (simp only [maxLen]; omega)); clear hO; (try clear hF); intro _ _ _ _ hS hO; ((try simp only [List.nil_append, List.append_nil] at hO); have hF := Own.cells hO; simp only [cellsOf_append, cellsOf_pt] at hF); simp only [Act.put, List.setIfInBounds_toArray, List.set_cons_zero, List.set_cons_succ])))
      have hlen1 : (done ++ [k]).length = done.length + 1 := by simp
      have hle2 := hR2.le
      go_roundw
      case rel => exact ⟨done ++ [k], _, _, _, A2, by rw [hlen1], (by rw [hlen1, List.map_append]; exact hS), hR2, hO.as _⟩
      case measure => simp [slN]; omega
end Go.Proofs.YtkfkcloefgfkaaaGreat

/- Space: Pinned, flush, Checkpoint. -/
namespace Go.Proofs.YtkfkcloefgfkaaaGreat
open Go Go.RowKit Go.Own Go.Dk

def PinnedP (E : World) (J : Nat → Prop) (F0 : List UInt8) (s l p : Nat) (now : Option Addr) (mf d most N : Nat) (cont : Nat → List UInt8) (R : Fr) (e : Ending) (w' : World) : Prop :=
  ∃ PA, e = .returned (.int .i64 0) ∧ PoolS J F0 p d most N cont (fun _ => 0) PA ∧ Own E w' (spF s l p now mf ++ (PA ++ R))


theorem trim0_1 (rs : List Raw) : play (rs ++ [.trim 0 0]) 1 = play rs 1 := by
  rw [play_snoc]
  simp only [Raw.app]
  rw [upd_ne _ _ _ _ (by decide)]
theorem trim0_0 (rs : List Raw) : play (rs ++ [.trim 0 0]) 0 = [] := by
  rw [play_snoc]
  simp only [Raw.app, upd_same, List.take_zero]
def FlushP (E : World) (s l p : Nat) (now : Option Addr) (mf d most N : Nat) (cont : Nat → List UInt8) (R : Fr) (e : Ending) (w' : World) : Prop :=
  ∃ PA, e = .returned (.tuple #[]) ∧ PoolS (fun _ => False) [] p d most (N + 1) cont (fun _ => 0) PA ∧ Own E w' (spF s l p now mf ++ (logF l d [] ++ (PA ++ R)))
set_option maxRecDepth 100000 in
set_option maxHeartbeats 16000000 in
theorem sFlush {J : Nat → Prop} {F0 : List UInt8} (E w : World) (X R PA : Fr) (s l p mf : Nat) (now : Option Addr) (d most N : Nat) (cont : Nat → List UInt8) (recs : List ByteArray) (hS : PoolS J F0 p d most N cont (fun _ => 0) PA) (hm : 0 < most) (hm2 : most ≤ 1024) (hN : N ≤ 8796093022200) (hO : Own E w X) [hp : Pick X (spF s l p now mf ++ (logF l d recs ++ PA)) R] :
    Calls Tryz.prog 55 #[.pointer (some ⟨s, 0, none⟩)] w (FlushP E s l p now mf d most N cont R) := by
  replace hO : Own E w (spF s l p now mf ++ (logF l d recs ++ (PA ++ R))) := by have := hO.perm hp.perm; rwa [List.append_assoc, List.append_assoc] at this
  clear hp
  generalize hpost : FlushP E s l p now mf d most N cont R = POST
  have HPOST := Lib.hid hpost
  clear hpost
  go_enter Tryz.func55, Tryz.ntmps55
  unfold spF at hO
  ((try simp only [List.nil_append, List.append_nil] at hO); have hF := Own.cells hO; simp only [cellsOf_append, cellsOf_pt] at hF)
  go_wp2_with fail
  refine (pFlush E _ _ _ PA p d most N cont (fun _ => 0) hS hm hm2 (by omega) hO).mono ?_
  clear hO hF hS
  rintro e w2 ⟨rfl, hand, fs, ml, rs, P, D, hP, hI, hD, hh, hNN, hJ, hall, hO⟩
  ((try simp only [List.nil_append, List.append_nil] at hO); have hF := Own.cells hO; simp only [cellsOf_append, cellsOf_pt] at hF)
  go_wp2_with fail
  refine (lReset E _ _ _ D l d recs rs hD (by omega) hO).mono ?_
  clear hO hF
  rintro e w3 ⟨rfl, D, hD, hO⟩
  go_wp2_with fail
  go_end0
  rw [← HPOST.out]
  refine ⟨P ++ D, rfl, ⟨hand, fs, ml, _, P, D, hP, by rw [trim0_1]; exact hI, hD, hh, by simp; omega, ⟨trim0_0 rs, fun k hk _ => ?_⟩, rfl⟩, by unfold spF; exact hO.as _⟩
  rw [trim0_1]
  exact hI.disk k hk fun f hf _ => hall f hf


end Go.Proofs.YtkfkcloefgfkaaaGreat
