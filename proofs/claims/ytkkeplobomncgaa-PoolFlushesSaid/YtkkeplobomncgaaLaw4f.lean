/- vestibulelaw04: does: Write. -/
import Derived.Test.YtkkeplobomncgaaLaw4d
set_option linter.all false
namespace Go.Proofs.Ytkkeplobomncgaa
open Go Go.RowKit Go.Own Go.Dk

theorem putB_get (l s : List UInt8) (k j : Nat) (h : k + s.length ≤ l.length) : (putB l k s)[j]? = if k ≤ j ∧ j < k + s.length then s[j - k]? else l[j]? := by
  unfold putB
  have hk : (l.take k).length = k := by rw [List.length_take]; omega
  by_cases h1 : j < k
  · rw [if_neg (by omega), List.append_assoc, List.getElem?_append_left (by omega), List.getElem?_take_of_lt h1]
  · by_cases h2 : j < k + s.length
    · rw [if_pos ⟨by omega, h2⟩, List.getElem?_append_left (by rw [List.length_append]; omega), List.getElem?_append_right (by omega), hk]
    · rw [if_neg (by omega), List.getElem?_append_right (by rw [List.length_append]; omega), List.getElem?_drop, List.length_append, hk]
      congr 1
      omega
theorem putB_step (l s : List UInt8) (k i : Nat) (hi : i < s.length) (h : k + s.length ≤ l.length) : (putB l k (s.take i)).set (k + i) s[i] = putB l k (s.take (i + 1)) := by
  have h1 : (s.take i).length = i := by rw [List.length_take]; omega
  have h2 : (s.take (i + 1)).length = i + 1 := by rw [List.length_take]; omega
  apply List.ext_getElem?
  intro j
  rw [List.getElem?_set, putB_get _ _ _ _ (by omega), putB_get _ _ _ _ (by omega), h1, h2]
  have hl : (putB l k (s.take i)).length = l.length := putB_length (by omega)
  by_cases hj : k + i = j
  · subst hj
    rw [if_pos rfl, if_pos (by omega), if_pos (by omega), List.getElem?_take_of_lt (by omega), Nat.add_sub_cancel_left, List.getElem?_eq_getElem hi]
  · rw [if_neg hj]
    by_cases h3 : k ≤ j ∧ j < k + i
    · rw [if_pos h3, if_pos (by omega), List.getElem?_take_of_lt (by omega), List.getElem?_take_of_lt (by omega)]
    · rw [if_neg h3, if_neg (by omega)]
theorem bytesV_set (l : List UInt8) (i : Nat) (c : UInt8) : (bytesV l).toArray.setIfInBounds i (.int .u8 c.toNat) = (bytesV (l.set i c)).toArray := by
  rw [List.setIfInBounds_toArray]
  congr 1
  unfold bytesV
  rw [List.map_set]
  rfl

set_option maxRecDepth 100000 in
set_option maxHeartbeats 4000000 in
theorem does_write (E w : World) (X R A G : Fr) (p d g most N B : Nat) (es : List Ent) (cont : Nat → List UInt8) (pins : Nat → Nat) (page at_ : Int) (t : ByteArray) (hS : PoolS p d most N cont pins A) (hG : PgAt g most es G) (hR : Rel es cont pins) (hB : ∀ k, pins k ≤ B) (hBB : B < 281474976710655)
    (hm : 0 < most) (hm2 : most ≤ 1024) (hNN : N ≤ 8796093022208) (ht : t.size ≤ maxLen) (hO : Own E w X) [hp : Pick X (A ++ G) R] :
    Calls Try.prog 41 #[.pointer (some ⟨g, 0, none⟩), .pointer (some ⟨p, 0, none⟩), opV 3 page at_ t] w (DoesPost E p d g most N B R) := by
  replace hO := hO.perm hp.perm
  clear hp
  have hlen := hR.len
  unfold opV
  unfold maxLen at ht
  rcases ent_cases es page with ⟨pre, e, post, rfl, rfl⟩ | hk
  · have hep := (hR.ent e (by simp)).2.2
    go_enter Try.func41, Try.ntmps41
    go_wp2_with (refine at_box ?_; go_must (refine own_box (v := ?_) hO ?_ ?_ ?_; rotate_left; (· rfl); (· ((conv => lhs; whnf); try exact rfl)); clear hO; (try clear hF); intro ob _ hO; (try simp only [Value.cells] at hO); ((try simp only [List.nil_append, List.append_nil] at hO); have hF := Own.cells hO; simp only [cellsOf_append, cellsOf_pt] at hF); simp only [Act.put, List.setIfInBounds_toArray, List.set_cons_zero, List.set_cons_succ]))
    refine (pgFind_yes E _ _ _ G g most pre post e hR.nodup hlen hG hO).mono ?_; rintro x w1 ⟨rfl, hO⟩
    clear hF
    ((try simp only [List.nil_append, List.append_nil] at hO); have hF := Own.cells hO; simp only [cellsOf_append, cellsOf_pt] at hF)
    obtain ⟨a1, c1, a2, c2, a3, c3, S1, S2, S3, h1, h2, h3, rfl⟩ := hG
    obtain ⟨sb, rfl⟩ := sl_some4 h3 (by simp; omega)
    obtain ⟨sb2, rfl⟩ := sl_some4 h2 (by simp; omega)
    have hi0 : (0 : Int) ≤ pre.length := by omega
    have hiL : (pre.length : Int) < (pre ++ e :: post).length := by simp; omega
    by_cases hpos : 0 < e.pins
    · have hpi : ¬ e.pins = 0 := by omega
      have hpe : ((e.pins : Int) == 0) = false := by simp; omega
      by_cases hbad : at_ < 0 ∨ 512 < at_ ∨ 512 - at_ < t.size
      · have hpp : 0 < pins e.page := by omega
        clear hep
        have hcase : at_ < 0 ∨ (0 ≤ at_ ∧ 512 < at_) ∨ (0 ≤ at_ ∧ at_ ≤ 512 ∧ 512 - at_ < t.size) := by omega
        rcases hcase with hb1 | ⟨hb1, hb2⟩ | ⟨hb1, hb2, hb3⟩
        all_goals (
          go_wp2_with fail
          refine (pWrite_bad E _ _ _ A p d most N cont pins e.page at_ t hS hm hpp hbad hO).mono ?_; rintro x w2 ⟨rfl, rfl⟩
          have hc := sl_get h3 hO pre.length (.int .i64 e.pins) (by rw [List.getElem?_map, List.getElem?_append_right (Nat.le_refl _), Nat.sub_self]; rfl)
          generalize hln : (pre ++ e :: post).length = ln at hO hiL
          clear hF hbad
          ((try simp only [List.nil_append, List.append_nil] at hO); have hF := Own.cells hO; simp only [cellsOf_append, cellsOf_pt] at hF)
          go_wp2_with fail
          go_ret
          subst hln
          exact ⟨rfl, A, _, _, cont, pins, hS.mono (by omega), ⟨a1, c1, _, c2, _, c3, S1, S2, S3, h1, h2, h3, rfl⟩, hR, fun k => by have := hB k; omega, hO.as _⟩)
      · obtain ⟨a, rfl⟩ := Int.eq_ofNat_of_zero_le (show 0 ≤ at_ by omega)
        have hat : a + t.size ≤ 512 := by omega
        have hb1 : ¬ (a : Int) < 0 := by omega
        have hb2 : ¬ (512 : Int) < a := by omega
        have hb3 : ¬ (512 : Int) - a < t.size := by omega
        have hpp : 0 < pins e.page := by omega
        have HEP := Lib.hid hep
        clear hbad hep
        go_wp2_with fail
        refine (pWrite_ok E _ _ _ A p d most N cont pins e.page a t hS hm hpp hat hO).mono ?_; rintro x w2 ⟨rfl, A1, hS1, hO⟩
        have hc := sl_get h3 hO pre.length (.int .i64 e.pins) (by rw [List.getElem?_map, List.getElem?_append_right (Nat.le_refl _), Nat.sub_self]; rfl)
        generalize hln : (pre ++ e :: post).length = ln at hO hiL
        clear hF
        ((try simp only [List.nil_append, List.append_nil] at hO); have hF := Own.cells hO; simp only [cellsOf_append, cellsOf_pt] at hF)
        go_wp2_with fail
        obtain ⟨rest2, hS2⟩ := sl_open h2
        have hfb := (hR.ent e (by simp)).2.1
        have hbl : e.bytes.length = 512 := by rw [hfb]; exact hR.clen _
        have hsz : t.data.toList.length = t.size := by rw [Array.length_toList]; rfl
        have hO0 := hO
        rw [entsF_app, entsF_cons] at hO0
        unfold entF at hO0
        clear hF hO hc
        go_loopw [12] (fun i wr => ∃ j : Nat, i = .int .i64 j ∧ j ≤ t.size ∧ Own E wr (pt ob (.cells #[.int .i64 3, .int .i64 e.page, .int .i64 a, .string t] 84 (0, 0)) ++ (A1 ++ (pt g (.cells #[.int .i64 most, .slice a1 ln c1, .slice (some ⟨sb2, 0, none⟩) ln c2, .slice (some ⟨sb, 0, none⟩) ln c3] 81 (0, 0)) ++ (S1 ++ (S2 ++ (S3 ++ (entsF pre ++ (pt e.bb (.cells (bytesV (putB e.bytes a (t.data.toList.take j))).toArray 5 (0, 0)) ++ (entsF post ++ R)))))))))) (fun i _ => t.size - (intOf i).toNat)
        case atStart =>
          refine ⟨0, rfl, by omega, ?_⟩
          rw [List.take_zero, putB_nil]
          exact hO0.as _
        case round =>
          clear hO0
          obtain ⟨j, rfl, hj, hO⟩ := hrel
          by_cases hlt : j < t.size
          · have hj1 : (j : Int) < t.size := by omega
            have hj0 : (0 : Int) ≤ j := by omega
            have hj2 : (a : Int) + j < 512 := by omega
            have hj3 : (0 : Int) ≤ (a : Int) + j := by omega
            have hstep := putB_step e.bytes t.data.toList a j (by omega) (by omega)
            have hbj : (putB e.bytes a (t.data.toList.take j)).length = 512 := by rw [putB_length (by rw [List.length_take]; omega), hbl]
            generalize putB e.bytes a (t.data.toList.take j) = bj at hO hstep hbj
            have HST := Lib.hid hstep
            have HBJ := Lib.hid hbj
            clear hstep hbj
            ((try simp only [List.nil_append, List.append_nil] at hO); have hF := Own.cells hO; simp only [cellsOf_append, cellsOf_pt] at hF)
            go_wp2_with fail
            refine own_still_tail 15 (by kernel_rfl) (by kernel_rfl) hO ?_; clear hO hF; intro w3 hO; ((try simp only [List.nil_append, List.append_nil] at hO); have hF := Own.cells hO; simp only [cellsOf_append, cellsOf_pt] at hF)
            have hc : w3.cell? ⟨sb2, pre.length, none⟩ = some (.slice (some ⟨e.bb, 0, none⟩) 512 512) := sl_get h2 hO pre.length (entB e) (by rw [List.getElem?_map, List.getElem?_append_right (Nat.le_refl _), Nat.sub_self]; rfl)
            simp only [List.take_succ_cons, List.take_zero, List.drop_succ_cons, List.drop_zero]; (repeat still_step); (try refine wpStill_nil ?_)
            go_wp2_with (first | (refine own_store (v := ?_) (off := a + j) (b := e.bb) hO ?_ ?_ ?_ ?_ ?_ ?_ ?_; rotate_left; (· rfl); (· ((conv => lhs; whnf); try exact rfl)); (· ((conv => lhs; whnf); try exact rfl)); (· simp [Value.cells]); (· simp [Value.cells, Value.oneCell']); (· have hbj := HBJ.out; simp [Value.cells, bytesV]; omega); clear hO; (try clear hF); intro _ hO; (try simp only [splice, Value.cells] at hO); ((try simp only [List.nil_append, List.append_nil] at hO); have hF := Own.cells hO; simp only [cellsOf_append, cellsOf_pt] at hF); simp only [Act.put, List.setIfInBounds_toArray, List.set_cons_zero, List.set_cons_succ]))
            go_roundw
            case rel =>
              refine ⟨j + 1, by go_num, by omega, ?_⟩
              rw [← HST.out, show t.data.toList[j]'(by omega) = t[j]'(by omega) from rfl]
              have hO2 := hO
              rw [bytesV_set] at hO2
              exact hO2.as _
            case measure => simp [intOf]; omega
          · have hj1 : ¬ (j : Int) < t.size := by omega
            ((try simp only [List.nil_append, List.append_nil] at hO); have hF := Own.cells hO; simp only [cellsOf_append, cellsOf_pt] at hF)
            go_wp2_with fail
            go_ret
            subst hln
            have hjt : j = t.size := by omega
            rw [List.take_of_length_le (by omega)] at hO
            have hRs := hR.set (e' := { e with bytes := putB e.bytes a t.data.toList }) rfl (by rw [putB_length (by omega)]; exact hbl)
            have e2 : upd pins e.page e.pins = pins := by rw [HEP.out]; exact upd_id _ _
            rw [e2] at hRs
            obtain ⟨q1, q2, q3⟩ := pg_same (pre := pre) (post := post) (e := e) (e' := { e with bytes := putB e.bytes a t.data.toList }) rfl rfl
            have q4 : (pre ++ { e with bytes := putB e.bytes a t.data.toList } :: post).map ePins = (pre ++ e :: post).map ePins := by simp [ePins]
            rw [← hfb] at hS1
            refine ⟨rfl, A1, _, pre ++ { e with bytes := putB e.bytes a t.data.toList } :: post, _, pins, hS1, ⟨a1, c1, _, c2, _, c3, S1, S2, S3, by rw [q1, q3]; exact h1, by rw [q2, q3]; exact h2, by rw [q4, q3]; exact h3, rfl⟩, hRs, fun k => by have := hB k; omega, ?_⟩
            rw [q3, entsF_app, entsF_cons]
            unfold entF
            exact hO.as _
    · have hp0 : e.pins = 0 := by omega
      have hpz : pins e.page = 0 := by omega
      go_wp2_with fail
      refine (pWrite_no E _ _ _ A p d most N cont pins e.page at_ t hS hm (fun k hkk => (congrArg pins (Int.ofNat.inj hkk)).trans hpz) hO).mono ?_; rintro x w2 ⟨rfl, rfl⟩
      have hc := sl_get h3 hO pre.length (.int .i64 e.pins) (by rw [List.getElem?_map, List.getElem?_append_right (Nat.le_refl _), Nat.sub_self]; rfl)
      rw [hp0] at hc
      generalize hln : (pre ++ e :: post).length = ln at hO hiL
      clear hF hep hp0 hpz
      ((try simp only [List.nil_append, List.append_nil] at hO); have hF := Own.cells hO; simp only [cellsOf_append, cellsOf_pt] at hF)
      go_wp2_with fail
      go_ret
      subst hln
      exact ⟨rfl, A, _, _, cont, pins, hS.mono (by omega), ⟨a1, c1, _, c2, _, c3, S1, S2, S3, h1, h2, h3, rfl⟩, hR, fun k => by have := hB k; omega, hO.as _⟩
  · rcases (show page < 0 ∨ 0 ≤ page by omega) with hp0 | hp0
    all_goals (
      go_enter Try.func41, Try.ntmps41
      go_wp2_with (refine at_box ?_; go_must (refine own_box (v := ?_) hO ?_ ?_ ?_; rotate_left; (· rfl); (· ((conv => lhs; whnf); try exact rfl)); clear hO; (try clear hF); intro ob _ hO; (try simp only [Value.cells] at hO); ((try simp only [List.nil_append, List.append_nil] at hO); have hF := Own.cells hO; simp only [cellsOf_append, cellsOf_pt] at hF); simp only [Act.put, List.setIfInBounds_toArray, List.set_cons_zero, List.set_cons_succ]))
      refine (pgFind_no E _ _ _ G g most es page hk hlen hG hO).mono ?_; rintro x w1 ⟨rfl, hO⟩
      clear hF
      ((try simp only [List.nil_append, List.append_nil] at hO); have hF := Own.cells hO; simp only [cellsOf_append, cellsOf_pt] at hF)
      go_wp2_with fail
      refine (pWrite_no E _ _ _ A p d most N cont pins page at_ t hS hm (fun k hkk => (hR.out k (fun e he h => hk e he (by rw [h]; exact hkk))).1) hO).mono ?_; rintro x w2 ⟨rfl, rfl⟩
      go_wp2_with fail
      go_ret
      exact ⟨rfl, A, G, _, cont, pins, hS.mono (by omega), hG, hR, fun k => by have := hB k; omega, hO.as _⟩)
end Go.Proofs.Ytkkeplobomncgaa
