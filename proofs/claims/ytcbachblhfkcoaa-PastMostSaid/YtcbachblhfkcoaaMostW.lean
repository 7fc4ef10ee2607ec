/-
  typebarlaw20.PastMost: the walk: it returns true, and what was in memory stays. No conditions.
-/
import Derived.Test.YtcbachblhfkcoaaPastBackW
import Derived.Test.YtcbachblhfkcoaaAll
import Derived.Test.YtcbachblhfkcoaaBits
import Derived.Test.YtcbachblhfkcoaaMostM
import Derived.Test.YtcbachblhfkcoaaTexts
namespace Go.Proofs.Ytcbachblhfkcoaa
open Go.RowKit

set_option maxRecDepth 100000 in
set_option maxHeartbeats 3200000 in
theorem pastMost_walk (n0 : Int) (_ : (Lit.int .i64 n0).wf = true) (tw : Int) (_ : (Lit.int .i64 tw).wf = true) (w : World) : Calls Try.prog 5 #[.int .i64 n0, .int .i64 tw] w fun e w' => e = .returned (.bool true) ∧ Kp w w' := by
  obtain ⟨r, hr, hb⟩ := and_below n0 5 (by omega)
  obtain ⟨t, ht, hbt⟩ := and_below tw 2 (by omega)
  have hb' : bits .and .i64 n0 31 = (r : Int) := hb
  have hbt' : bits .and .i64 tw 3 = (t : Int) := hbt
  clear hb hbt
  obtain ⟨F, hFd⟩ : ∃ F : Nat → Prop, F = fun k => k ≠ w.heap.size := ⟨_, rfl⟩
  have hFn : ∀ k, w.heap.size < k → F k := fun k hk => by rw [hFd]; show k ≠ _; omega
  have hFo : ∀ k, F k → k ≠ w.heap.size := fun k hk => by rw [hFd] at hk; exact hk
  have HFN := Lib.hid hFn
  have HFO := Lib.hid hFo
  clear hFd hFn hFo
  have hr32 : r < 32 := hr
  have ht4 : t < 4 := ht
  clear hr ht
  go_enter Try.func5, Try.ntmps5
  go_upto_block 0 with fail
  go_cut [6] (fun _ wx => PBox wx F w.heap.size (Lm (490 + r)) 0 [] ∧ Kp w wx)
  case first =>
    go_wp2_with fail
    go_loopg [6] (490 + r) (fun g i wr => ∃ k : Nat, k + g = 490 + r ∧ i = .int .i64 k ∧ PBox wr F w.heap.size (Lm k) 0 [] ∧ Kp w wr)
    case atStart => exact ⟨0, by omega, rfl, ⟨none, 0, 0, none, 0, 0, Bx.new _ _ _, Txs.nil _ _ _, Ru.nil _ _⟩, (Kp.refl _).alloc _⟩
    case round =>
      obtain ⟨k, hk, rfl, ⟨A1, n1, c1, B1, m1, d1, hbx, hT, hS⟩, hkp⟩ := hrel
      by_cases hlt : k < 490 + r
      · have hn1 : n1 ≤ 500 := by have := hT.len; rw [Lm_length] at this; omega
        have hlb := hbx.lt
        obtain ⟨p0, p1, p2, q0, q1, q2⟩ := hbx.three
        go_wp2_with fail
        have ka := (Kp.refl wr).alloc (.cells #[.int .i32 (k : Int)] 21)
        refine (past_add F F A1 B1 _ n1 c1 m1 d1 1 1 0 (Lm k) [(k : Int)] _ (fun q hq => HFN.out q (by simp at hq; omega)) (hT.kp ka) (Ru.one_at wr F _ rfl (HFN.out _ hlb) (k : Int) _) (by omega) (by omega)).mono ?_
        rintro e w1 ⟨A3, n3, c3, B3, m3, d3, rfl, hT3, hS3, k3⟩
        rw [Lm_step] at hT3
        have b3 := (hbx.kp ka).kp k3
        have hkp3 := (hkp.trans ka).trans k3
        clear p0 p1 p2 q0 q1 q2 hbx hT hS hkp ka k3
        obtain ⟨p0, p1, p2, q0, q1, q2⟩ := b3.three
        go_upto_region 7 with fail
        have hpb := pbox_store (at_ := 0) HFO.out b3 hT3 hS3
        have hkp4 := hkp3.set3 (Nat.le_refl _) (.slice A3 n3 c3) (.int .i64 0) (.slice B3 m3 d3)
        clear p0 p1 p2 q0 q1 q2 b3 hT3 hS3 hkp3
        generalize (((w1.setCell ⟨w.heap.size, 0, none⟩ (.slice A3 n3 c3)).setCell ⟨w.heap.size, 1, none⟩ (.int .i64 0)).setCell ⟨w.heap.size, 2, none⟩ (.slice B3 m3 d3)) = w2 at *
        clear hn1 hlb
        obtain ⟨A1, n1, c1, B1, m1, d1, hbx, hT, hS⟩ := hpb
        have hn1 : n1 ≤ 500 := by have := hT.len; rw [Lm_length] at this; omega
        have hlb := hbx.lt
        obtain ⟨p0, p1, p2, q0, q1, q2⟩ := hbx.three
        by_cases h1 : t = 1
        · have hb1 : ((t : Int) == 1) = true := by simp; omega
          have hb2 : ((t : Int) == 2) = false := by simp; omega
          go_wp2_with fail
          have ka := (Kp.refl w2).alloc (.cells #[.int .i32 (k : Int)] 21)
          refine (past_add F F A1 B1 _ n1 c1 m1 d1 1 1 0 (Lm (k + 1)) [(k : Int)] _ (fun q hq => HFN.out q (by simp at hq; omega)) (hT.kp ka) (Ru.one_at w2 F _ rfl (HFN.out _ hlb) (k : Int) _) (by omega) (by omega)).mono ?_
          rintro e w3 ⟨A3, n3, c3, B3, m3, d3, rfl, hT3, hS3, k3⟩
          rw [Lm_same] at hT3
          have b3 := (hbx.kp ka).kp k3
          have hkp3 := (hkp4.trans ka).trans k3
          clear p0 p1 p2 q0 q1 q2 hbx hT hS hkp4 ka k3
          obtain ⟨p0, p1, p2, q0, q1, q2⟩ := b3.three
          go_wp2_with fail
          go_roundg (490 + r - (k + 1))
          case measure => omega
          case rel => exact ⟨k + 1, by omega, by go_num, pbox_store HFO.out b3 hT3 hS3, hkp3.set3 (Nat.le_refl _) _ _ _⟩
        · have hb1 : ((t : Int) == 1) = false := by simp; omega
          by_cases h2 : t = 2
          · have hb2 : ((t : Int) == 2) = true := by simp; omega
            go_wp2_with fail
            refine (past_add F F A1 B1 none n1 c1 m1 d1 0 0 0 (Lm (k + 1)) [] _ (fun q hq => HFN.out q (by omega)) hT (Ru.nil _ _) (by omega) (by omega)).mono ?_
            rintro e w3 ⟨A3, n3, c3, B3, m3, d3, rfl, hT3, hS3, k3⟩
            rw [addM_nil] at hT3
            have b3 := hbx.kp k3
            have hkp3 := hkp4.trans k3
            clear p0 p1 p2 q0 q1 q2 hbx hT hS hkp4 k3
            obtain ⟨p0, p1, p2, q0, q1, q2⟩ := b3.three
            go_wp2_with fail
            go_roundg (490 + r - (k + 1))
            case measure => omega
            case rel => exact ⟨k + 1, by omega, by go_num, pbox_store HFO.out b3 hT3 hS3, hkp3.set3 (Nat.le_refl _) _ _ _⟩
          · have hb2 : ((t : Int) == 2) = false := by simp; omega
            go_wp2_with fail
            go_roundg (490 + r - (k + 1))
            case measure => omega
            case rel => exact ⟨k + 1, by omega, by go_num, ⟨A1, n1, c1, B1, m1, d1, hbx, hT, hS⟩, hkp4⟩
      · obtain rfl : k = 490 + r := by omega
        go_wp2_with fail
        go_meet
        exact ⟨⟨A1, n1, c1, B1, m1, d1, hbx, hT, hS⟩, hkp⟩
  case rest =>
    obtain ⟨⟨A1, n1, c1, B1, m1, d1, hbx, hT, hS⟩, hkp⟩ := hcut
    have hn1 : n1 = min (490 + r) 500 := by have := hT.len; rw [Lm_length] at this; exact this.symm
    have HN1 := Lib.hid hn1
    have hn5 : n1 ≤ 500 := by omega
    clear hn1
    obtain ⟨p0, p1, p2, q0, q1, q2⟩ := hbx.three
    go_wp2_with fail
    refine (past_all F A1 B1 n1 c1 m1 d1 0 (Lm (490 + r)) wc hT (by omega) (fun x hx => by rw [Lm_mem hx]; omega)).mono ?_
    rintro e w1 ⟨A2, n2, c2, rfl, hT2, k1⟩
    have hbx1 := hbx.kp k1
    have hkp1 := hkp.trans k1
    have hn2 : n2 = n1 := by rw [← hT2.len, List.length_reverse, hT.len]
    clear p0 p1 p2 q0 q1 q2 hbx hT hS k1
    subst hn2
    go_upto_if 40 with fail
    go_cut [8] (fun v wx => v = .int .i64 n2 ∧ w1 = wx)
    case first =>
      have := HN1.out
      by_cases h : 10 < r
      · go_wp2_with fail
        go_meet
        exact ⟨by have e : n2 = 500 := by omega
                  rw [e]; rfl, rfl⟩
      · go_wp2_with fail
        go_meet
        exact ⟨by have e : n2 = 490 + r := by omega
                  rw [e]; rfl, rfl⟩
    case rest =>
      obtain ⟨rfl, rfl⟩ := hcut
      obtain ⟨p0, p1, p2, q0, q1, q2⟩ := hbx1.three
      go_wp2_with fail
      refine (past_len A1 B1 n2 c1 m1 d1 0 w1).mono ?_
      rintro e w2 ⟨rfl, k2⟩
      have hT3 := hT2.kp k2
      have hkp2 := hkp1.trans k2
      clear p0 p1 p2 q0 q1 q2 hbx1 hT2 hkp1 k2
      go_wp2_with fail
      go_loopg [9] n2 (fun g i wr => ∃ k : Nat, k + g = n2 ∧ i = .int .i64 k ∧ Kp w wr ∧ Txs wr (From w.heap.size) (From w.heap.size) A2 n2 c2 (Lm (490 + r)).reverse)
      case atStart => exact ⟨0, by omega, rfl, hkp2, hT3.weak (fun k _ h => by have := hkp.size; unfold From at *; omega) (fun k _ h => by have := hkp.size; unfold From at *; omega)⟩
      case round =>
        obtain ⟨k, hk, rfl, hkr, hT⟩ := hrel
        have hle := hT.le
        have hcl := hT.cap
        unfold maxLen at hcl
        by_cases hlt : k < n2
        · obtain ⟨ad, B2, m2, d2, rfl, hc, hr2⟩ := hT.get hlt
          rw [Lm_rev (490 + r) k (by have := HN1.out; omega)] at hr2
          have e : ((490 + r : Nat) : Int) - 1 - k = 490 + (r : Int) - 1 - k := by omega
          rw [e] at hr2
          have hN : k < 490 + r := by have := HN1.out; omega
          have ka := (Kp.refl wr).alloc (.cells #[.int .i32 (490 + (r : Int) - 1 - k)] 21)
          have hr3 := hr2.kp ka
          have hT4 := hT.kp ka
          have hkr4 := hkr.trans ka
          clear hT hr2
          go_wp2_with fail
          refine (same_any _ Any B2 _ m2 d2 1 1 [490 + (r : Int) - 1 - k] [490 + (r : Int) - 1 - k] _ hr3 (Ru.one_at wr Any _ rfl trivial _ _)).mono ?_
          rintro e w3 ⟨rfl, hd3⟩
          rw [(sameB_iff _ _).2 rfl]
          have hT5 := hT4.kp hd3.kp
          have hkr5 := hkr4.trans hd3.kp
          clear hT4 hkr4 hkr hr3 ka hd3
          go_wp2_with fail
          go_roundg (n2 - (k + 1))
          case measure => omega
          case rel => exact ⟨k + 1, by omega, by go_num, hkr5, hT5⟩
        · go_wp2_with fail
          refine (awake20 wr).mono ?_
          rintro e w3 ⟨rfl, k3⟩
          go_wp2_with fail
          go_ret
          exact ⟨rfl, hkr.trans k3⟩
end Go.Proofs.Ytcbachblhfkcoaa
