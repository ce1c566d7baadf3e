/- vestibulelaw04: does: Unpin. -/
import Derived.Test.YtkkeplobomncgaaLaw4d
set_option linter.all false
namespace Go.Proofs.Ytkkeplobomncgaa
open Go Go.RowKit Go.Own Go.Dk

set_option maxRecDepth 100000 in
set_option maxHeartbeats 4000000 in
theorem does_unpin (E w : World) (X R A G : Fr) (p d g most N B : Nat) (es : List Ent) (cont : Nat → List UInt8) (pins : Nat → Nat) (page at_ : Int) (t : ByteArray) (hS : PoolS p d most N cont pins A) (hG : PgAt g most es G) (hR : Rel es cont pins) (hB : ∀ k, pins k ≤ B) (hBB : B < 281474976710655)
    (hm : 0 < most) (hm2 : most ≤ 1024) (hNN : N ≤ 8796093022208) (ht : t.size ≤ maxLen) (hO : Own E w X) [hp : Pick X (A ++ G) R] :
    Calls Try.prog 41 #[.pointer (some ⟨g, 0, none⟩), .pointer (some ⟨p, 0, none⟩), opV 2 page at_ t] w (DoesPost E p d g most N B R) := by
  replace hO := hO.perm hp.perm
  clear hp
  have hlen := hR.len
  unfold opV
  rcases ent_cases es page with ⟨pre, e, post, rfl, rfl⟩ | hk
  · go_enter Try.func41, Try.ntmps41
    go_wp2_with (refine at_box ?_; go_must (refine own_box (v := ?_) hO ?_ ?_ ?_; rotate_left; (· rfl); (· ((conv => lhs; whnf); try exact rfl)); clear hO; (try clear hF); intro ob _ hO; (try simp only [Value.cells] at hO); ((try simp only [List.nil_append, List.append_nil] at hO); have hF := Own.cells hO; simp only [cellsOf_append, cellsOf_pt] at hF); simp only [Act.put, List.setIfInBounds_toArray, List.set_cons_zero, List.set_cons_succ]))
    refine (pgFind_yes E _ _ _ G g most pre post e hR.nodup hlen hG hO).mono ?_; rintro x w1 ⟨rfl, hO⟩
    clear hF
    ((try simp only [List.nil_append, List.append_nil] at hO); have hF := Own.cells hO; simp only [cellsOf_append, cellsOf_pt] at hF)
    have hep := (hR.ent e (by simp)).2.2
    obtain ⟨a1, c1, a2, c2, a3, c3, S1, S2, S3, h1, h2, h3, rfl⟩ := hG
    obtain ⟨sb, rfl⟩ := sl_some4 h3 (by simp; omega)
    have hi0 : (0 : Int) ≤ pre.length := by omega
    have hiL : (pre.length : Int) < (pre ++ e :: post).length := by simp; omega
    by_cases hpos : 0 < e.pins
    · have hpi : ¬ e.pins = 0 := by omega
      have hpe : ((e.pins : Int) == 0) = false := by simp; omega
      have hpj : (0 : Int) < e.pins := by omega
      have hpb : (e.pins : Int) < 281474976710655 := by have := hB e.page; omega
      go_wp2_with fail
      refine (pUnpin_yes E _ _ _ A p d most N cont pins e.page hS hm (by omega) (by omega) hO).mono ?_; rintro x w2 ⟨rfl, A1, hS1, hO⟩
      have hRs := hR.set (e' := { e with pins := e.pins - 1 }) rfl (by rw [(hR.ent e (by simp)).2.1]; exact hR.clen _)
      have HR := Lib.hid hRs
      have HEP := Lib.hid hep
      clear hep hRs
      obtain ⟨rest, rfl⟩ := sl_open h3
      have hrow : ((pre ++ e :: post).map ePins ++ rest).toArray[pre.length]? = some (.int .i64 e.pins) := row_mid ePins pre post e rest
      generalize hrw : ((pre ++ e :: post).map ePins ++ rest).toArray = row at hO hrow
      generalize hln : (pre ++ e :: post).length = ln at hO hiL
      have hrs : pre.length < row.size := by rw [← hrw, List.size_toArray, List.length_append, List.length_map, List.length_append, List.length_cons]; omega
      have HRS := Lib.hid hrs
      clear hrs
      have hw : wrap64 ((e.pins : Int) - 1) = ((e.pins - 1 : Nat) : Int) := by unfold wrap64; omega
      clear hF hpj hpb
      ((try simp only [List.nil_append, List.append_nil] at hO); have hF := Own.cells hO; simp only [cellsOf_append, cellsOf_pt] at hF)
      go_wp2_with (first | (refine own_store (v := ?_) (off := pre.length) (b := sb) hO ?_ ?_ ?_ ?_ ?_ ?_ ?_; rotate_left; (· rfl); (· ((conv => lhs; whnf); try exact rfl)); (· ((conv => lhs; whnf); try exact rfl)); (· simp [Value.cells]); (· simp [Value.cells, Value.oneCell']); (· have hrs := HRS.out; simp [Value.cells]; omega); clear hO; (try clear hF); intro _ hO; (try simp only [splice, Value.cells] at hO); ((try simp only [List.nil_append, List.append_nil] at hO); have hF := Own.cells hO; simp only [cellsOf_append, cellsOf_pt] at hF); simp only [Act.put, List.setIfInBounds_toArray, List.set_cons_zero, List.set_cons_succ]))
      go_ret
      subst hrw hln
      have h4 := sl_set h3 pre.length (by simp) (.int .i64 ((e.pins - 1 : Nat) : Int))
      rw [map_set_mid ePins pre post e { e with pins := e.pins - 1 } (.int .i64 ((e.pins - 1 : Nat) : Int)) rfl] at h4
      obtain ⟨q1, q2, q3⟩ := pg_same (pre := pre) (post := post) (e := e) (e' := { e with pins := e.pins - 1 }) rfl rfl
      refine ⟨rfl, A1, _, pre ++ { e with pins := e.pins - 1 } :: post, cont, _, hS1.mono (by omega), ⟨a1, c1, a2, c2, _, c3, S1, S2, _, by rw [q1, q3]; exact h1, by rw [q2, q3]; exact h2, by rw [q3]; exact h4, rfl⟩, ?_, ?_, ?_⟩
      · have h5 := HR.out
        have e1 : upd cont e.page e.bytes = cont := by rw [(hR.ent e (by simp)).2.1]; exact upd_id _ _
        rw [e1] at h5
        rw [← HEP.out]
        exact h5
      · intro k
        simp only [upd]
        split
        · have := hB e.page; omega
        · have := hB k; omega
      · rw [entsF_app, entsF_cons, hw] at hO
        rw [q3, entsF_app, entsF_cons, show entF { e with pins := e.pins - 1 } = entF e from rfl]
        exact hO.as _
    · have hp0 : e.pins = 0 := by omega
      have hpz : pins e.page = 0 := by omega
      obtain ⟨rest, rfl⟩ := sl_open h3
      have hrow : ((pre ++ e :: post).map ePins ++ rest).toArray[pre.length]? = some (.int .i64 e.pins) := row_mid ePins pre post e rest
      rw [hp0] at hrow
      generalize hrw : ((pre ++ e :: post).map ePins ++ rest).toArray = row at hO hrow
      generalize hln : (pre ++ e :: post).length = ln at hO hiL
      clear hF
      ((try simp only [List.nil_append, List.append_nil] at hO); have hF := Own.cells hO; simp only [cellsOf_append, cellsOf_pt] at hF)
      go_wp2_with fail
      refine (pUnpin_no E _ _ _ A p d most N cont pins _ hS hm (fun k hkk => (congrArg pins (Int.ofNat.inj hkk)).trans hpz) hO).mono ?_; rintro x w2 ⟨rfl, rfl⟩
      go_wp2_with fail
      go_ret
      subst hrw hln
      exact ⟨rfl, A, _, _, cont, pins, hS.mono (by omega), ⟨a1, c1, a2, c2, _, c3, S1, S2, _, h1, h2, h3, rfl⟩, hR, fun k => by have := hB k; omega, hO.as _⟩
  · rcases (show page < 0 ∨ 0 ≤ page by omega) with hp0 | hp0
    all_goals (
      go_enter Try.func41, Try.ntmps41
      go_wp2_with (refine at_box ?_; go_must (refine own_box (v := ?_) hO ?_ ?_ ?_; rotate_left; (· rfl); (· ((conv => lhs; whnf); try exact rfl)); clear hO; (try clear hF); intro ob _ hO; (try simp only [Value.cells] at hO); ((try simp only [List.nil_append, List.append_nil] at hO); have hF := Own.cells hO; simp only [cellsOf_append, cellsOf_pt] at hF); simp only [Act.put, List.setIfInBounds_toArray, List.set_cons_zero, List.set_cons_succ]))
      refine (pgFind_no E _ _ _ G g most es page hk hlen hG hO).mono ?_; rintro x w1 ⟨rfl, hO⟩
      clear hF
      ((try simp only [List.nil_append, List.append_nil] at hO); have hF := Own.cells hO; simp only [cellsOf_append, cellsOf_pt] at hF)
      go_wp2_with fail
      refine (pUnpin_no E _ _ _ A p d most N cont pins page hS hm (fun k hkk => (hR.out k (fun e he h => hk e he (by rw [h]; exact hkk))).1) hO).mono ?_; rintro x w2 ⟨rfl, rfl⟩
      go_wp2_with fail
      go_ret
      exact ⟨rfl, A, G, _, cont, pins, hS.mono (by omega), hG, hR, fun k => by have := hB k; omega, hO.as _⟩)
end Go.Proofs.Ytkkeplobomncgaa
