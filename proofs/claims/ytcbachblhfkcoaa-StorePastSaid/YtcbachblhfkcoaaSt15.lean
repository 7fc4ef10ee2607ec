/-
  typebarlaw47.StorePast: the walk. Conditions: the argument can be read.
-/
import Derived.Test.YtcbachblhfkcoaaSt14
namespace Go.Proofs.Ytcbachblhfkcoaa
open Go.RowKit

/-- The document's past, in its box. -/
def RBox (w : World) (F : Nat → Prop) (b : Nat) (xs : List (List Int)) : Prop :=
  ∃ A n c B m d, Bx w b #[.slice A n c, .int .i64 0, .slice B m d] 37 ∧ Txs w F F A n c xs

set_option maxRecDepth 100000 in
set_option maxHeartbeats 3200000 in
theorem storePast_walk (s : ByteArray) (hs : s.size ≤ maxLen) (w : World) : Calls Try.prog 13 #[.string s] w fun e w' => e = .returned (.bool true) ∧ Kp w w' := by
  unfold maxLen at hs
  obtain ⟨t, ht⟩ : ∃ t, t = cutS s 600 := ⟨_, rfl⟩
  have hts : t.size ≤ 600 := by rw [ht]; exact cutS_size s 600
  have HR := Lib.hid fun wx => readR_any t (by omega) wx
  have HP := Lib.hid fun wx => storePast_any t (by omega) wx
  have hlm := readF_mem _ (by8 t) (Nat.le_refl _)
  have hll := (readF_len _ (by8 t) (Nat.le_refl _)).2
  rw [by8_length] at hlm hll
  generalize (readF (by8 t)).1 = ls at *
  have HLM := Lib.hid hlm
  have HTT := Lib.hid ht
  clear ht hlm
  go_enter Try.func13, Try.ntmps13
  go_upto_if 10 with fail
  go_cut [0] (fun v wx => v = .string t ∧ wx = w)
  case first =>
    by_cases h : 600 < s.size
    · have HT2 : Hid (t = s.extract 0 600) := by show _ = _; rw [HTT.out, cutS, if_pos h]
      have hi : (600 : Int) < (s.size : Int) := by omega
      go_wp2_with fail
      go_meet
      exact ⟨by rw [HT2.out], rfl⟩
    · have HT2 : Hid (t = s) := by show _ = _; rw [HTT.out, cutS, if_neg h]
      have hi : ¬ (600 : Int) < (s.size : Int) := by omega
      go_wp2_with fail
      go_meet
      exact ⟨by rw [HT2.out], rfl⟩
  case rest =>
    obtain ⟨rfl, hw⟩ := hcut
    replace hw := hw.symm
    subst hw
    go_wp2_with fail
    refine (HR.out w).mono ?_
    rintro e w2 ⟨A2, n2, c2, vs2, rfl, ho2, k2⟩
    obtain ⟨F, hFd⟩ : ∃ F : Nat → Prop, F = fun k => k ≠ w2.heap.size := ⟨_, rfl⟩
    have hFn : ∀ k, w2.heap.size < k → F k := fun k hk => by rw [hFd]; show k ≠ _; omega
    have hFl : ∀ k, k < w2.heap.size → F k := fun k hk => by rw [hFd]; show k ≠ _; omega
    have hFo : ∀ k, F k → k ≠ w2.heap.size := fun k hk => by rw [hFd] at hk; exact hk
    have HFN := Lib.hid hFn
    have HFO := Lib.hid hFo
    have hT2 : Txs w2 F F A2 n2 c2 ls := ho2.txs.weak (fun k hk _ => hFl k hk) (fun k hk _ => hFl k hk)
    have hn2 : n2 ≤ 600 := by rw [← hT2.len]; omega
    have hle2 := hT2.le
    have hc2 := hT2.cap
    unfold maxLen at hc2
    have HL2 := Lib.hid hT2.len
    clear ho2 hFd hFn hFl hFo hll
    go_upto_block 0 with fail
    have ka := (Kp.refl w2).alloc (.cells #[.slice none 0 0, .int .i64 0, .slice none 0 0] 37)
    have b0 := Bx.new w2 #[.slice none 0 0, .int .i64 0, .slice none 0 0] 37
    have hTa := hT2.kp ka
    have kwa := k2.trans ka
    generalize w2.alloc (.cells #[.slice none 0 0, .int .i64 0, .slice none 0 0] 37) = w3 at *
    go_cut [6] (fun _ wx => RBox wx F w2.heap.size (pastL ls).reverse ∧ Kp w2 wx)
    case first =>
      go_wp2_with fail
      go_loopg [6] n2 (fun g iv wr => ∃ (k : Nat), k + g = n2 ∧ iv = .int .i64 k ∧ RBox wr F w2.heap.size (pastL (ls.take k)).reverse ∧ Txs wr F F A2 n2 c2 ls ∧ Kp w2 wr)
      case atStart => exact ⟨0, by omega, rfl, ⟨none, 0, 0, none, 0, 0, b0, Txs.nil _ _ _⟩, hTa, ka⟩
      case round =>
        obtain ⟨k, hk, rfl, ⟨A1, n1, c1, B1, m1, d1, hbx, hT1⟩, hTl, kw⟩ := hrel
        obtain ⟨p0, p1, p2, q0, q1, q2⟩ := hbx.three
        by_cases hlt : k < n2
        · obtain ⟨ad, B, m, d, rfl, hc, hr⟩ := hTl.get hlt
          have hlL : k < ls.length := by rw [HL2.out]; exact hlt
          have hts : (pastL (ls.take (k + 1))).reverse = addR (pastL (ls.take k)).reverse (ls[k]?.getD []) := by
            rw [List.take_succ_eq_append_getElem hlL, pastL_snoc, List.getElem?_eq_getElem hlL]
            exact addM_rev _ _ (pastL_len _)
          have HTS := Lib.hid hts
          have hn1 : n1 ≤ 500 := by rw [← hT1.len, List.length_reverse]; exact pastL_len _
          have hlb := hbx.lt
          have HF1 := Lib.hid fun (g : Nat) (hg : wr.heap.size ≤ g) => HFN.out g (Nat.lt_of_lt_of_le hlb hg)
          clear hts
          go_wp2
          refine wp_region_still_tail 5 (by kernel_rfl) (by kernel_rfl) ?_
          simp only [List.take_succ_cons, List.take_zero, List.drop_succ_cons, List.drop_zero]
          repeat still_step
          refine wpStill_nil ?_
          change wpList _ _ _ _ _ wr.drew
          go_wp2_with fail
          refine (refAdd_any F A1 B1 B n1 c1 m1 d1 m d 0 (pastL (ls.take k)).reverse (ls[k]?.getD []) wr.drew (hT1.kp (Kp.refl _).drew) (Sl.drew hr) (by omega) (fun g hg => HF1.out g (by simpa using hg))).mono ?_
          rintro e w4 ⟨A4, n4, c4, rfl, hX4, k4⟩
          have b4 := (Bx.drew hbx).kp k4
          have hTl4 := (hTl.kp (Kp.refl _).drew).kp k4
          have kw4 := kw.drew.trans k4
          clear p0 p1 p2 q0 q1 q2 hc hT1 hr hbx hTl k4
          obtain ⟨p0, p1, p2, q0, q1, q2⟩ := b4.three
          go_wp2_with fail
          go_roundg (n2 - (k + 1))
          case measure => omega
          case rel =>
            refine ⟨k + 1, by omega, by go_num, ?_, hTl4.set3 HFO.out HFO.out, kw4.set3 (Nat.le_refl _) _ _ _⟩
            rw [HTS.out]
            exact ⟨A4, n4, c4, none, 0, 0, b4.set3 _ _ _, hX4.set3 HFO.out HFO.out⟩
        · obtain rfl : k = n2 := by omega
          have HB : Hid (RBox wr F w2.heap.size (pastL ls).reverse) := by
            show RBox _ _ _ _
            have hta : ls.take k = ls := List.take_of_length_le (by rw [HL2.out]; omega)
            rw [hta] at hT1
            exact ⟨A1, n1, c1, B1, m1, d1, hbx, hT1⟩
          clear hbx hT1 p0 p1 p2 q0 q1 q2
          go_wp2_with fail
          go_meet
          exact ⟨HB.out, kw⟩
    case rest =>
      obtain ⟨⟨A1, n1, c1, B1, m1, d1, hbx, hX⟩, kw⟩ := hcut
      obtain ⟨w4, hw4⟩ : ∃ w4 : World, w4 = wc := ⟨_, rfl⟩
      subst hw4
      have kw4 := k2.trans kw
      go_wp2_with fail
      refine (HP.out w4).mono ?_
      rintro e w5 ⟨A5, n5, c5, B5, m5, d5, rfl, hT5, hS5, k5⟩
      have bx5 := hbx.kp k5
      have hX5 := hX.any.kp k5
      have kw5 := kw4.trans k5
      have hL20 : ∀ y ∈ pastL ls, y.length ≤ 1099511627776 := fun y hy => by have := pastL_mem HLM.out y hy; omega
      have HL20 := Lib.hid hL20
      have hn5 : n5 ≤ 2000 := by have := hT5.len; have := pastL_len ls; omega
      clear hbx hX k5 kw hL20 kw4 ka kwa b0 hTa k2 hT2
      go_upto_region 10 with fail
      have kb := (Kp.refl w5).alloc (.cells #[.slice A5 n5 c5, .int .i64 0, .slice B5 m5 d5] 27)
      have b6 := Bx.new w5 #[.slice A5 n5 c5, .int .i64 0, .slice B5 m5 d5] 27
      have bx6 := bx5.kp kb
      have hX6 := hX5.kp kb
      have hT6 := hT5.kp kb
      have kw6 := kw5.trans kb
      generalize w5.alloc (.cells #[.slice A5 n5 c5, .int .i64 0, .slice B5 m5 d5] 27) = w6 at *
      generalize w5.heap.size = q5 at *
      have bp := b6.drew
      have bx := bx6.drew
      have KK := kw6.drew
      have hT7 := hT6.kp (Kp.refl _).drew
      have hX7 := hX6.kp (Kp.refl _).drew
      clear bx5 hX5 hT5 hS5 kw5 kb b6 bx6 hX6 hT6 kw6
      obtain ⟨k0, k1, k2, _, _, _⟩ := bp.three
      obtain ⟨l0, l1, l2, _, _, _⟩ := bx.three
      go_region_held3 (fun w' => w'.cell? ⟨q5, 0, none⟩ = some (.slice A5 n5 c5) ∧ w'.cell? ⟨q5, 1, none⟩ = some (.int .i64 0) ∧ w'.cell? ⟨q5, 2, none⟩ = some (.slice B5 m5 d5) ∧ w'.cell? ⟨w2.heap.size, 0, none⟩ = some (.slice A1 n1 c1))
        (first | (with_reducible exact ⟨k0, k1, k2, l0⟩) | go_keep)
        (first
          | (go_at_call 24; go_loud (refine (past_all Any A5 B5 n5 c5 m5 d5 0 (pastL ls) _ hT7 hn5 HL20.out).mono ?_); rintro e w8 ⟨A8, n8, c8, rfl, hT8, hk4⟩; have bp := bp.kp hk4; have bx := bx.kp hk4; have KK := KK.trans hk4; have hX7 := hX7.kp hk4; obtain ⟨k0, k1, k2, _, _, _⟩ := bp.three; obtain ⟨l0, l1, l2, _, _, _⟩ := bx.three)
          | (go_at_call 33; go_loud (refine (sameTexts_true _ _ _ _ A8 A1 n8 c8 n1 c1 (pastL ls).reverse _ hT8 hX7).mono ?_); rintro e w9 ⟨rfl, hd6⟩; have hk4 := hd6.kp; have bp := bp.kp hk4; have bx := bx.kp hk4; have KK := KK.trans hk4; obtain ⟨k0, k1, k2, _, _, _⟩ := bp.three; obtain ⟨l0, l1, l2, _, _, _⟩ := bx.three)
          | (go_at_call 19; go_loud (refine (past_at A5 B5 n5 c5 m5 d5 0 _).mono ?_); rintro e w4 ⟨rfl, hk4⟩; have bp := bp.kp hk4; have bx := bx.kp hk4; have KK := KK.trans hk4; obtain ⟨k0, k1, k2, _, _, _⟩ := bp.three; obtain ⟨l0, l1, l2, _, _, _⟩ := bx.three)
          | (go_at_call 30; go_loud (refine (awake47 _).mono ?_); rintro e w4 ⟨rfl, hk4⟩; have bp := bp.kp hk4; have bx := bx.kp hk4; have KK := KK.trans hk4; obtain ⟨k0, k1, k2, _, _, _⟩ := bp.three; obtain ⟨l0, l1, l2, _, _, _⟩ := bx.three))
      all_goals go_wp2_with fail
      all_goals
        go_ret
        exact ⟨rfl, KK⟩
end Go.Proofs.Ytcbachblhfkcoaa
