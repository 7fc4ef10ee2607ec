/-
  typebarlaw20.PastExpands: the walk: it returns true, and what was in memory stays. Conditions: the arguments can be read.
-/
import Derived.Test.YtcbachblhfkcoaaPlaysW
import Derived.Test.YtcbachblhfkcoaaExP
namespace Go.Proofs.Ytcbachblhfkcoaa
open Go.RowKit

set_option maxRecDepth 100000 in
set_option maxHeartbeats 6400000 in
theorem pastExpands_walk' (A S : Option Addr) (n c m d : Nat) (T : List (List Int)) (s : List Int) (w : World) (hT : Txs w Any Any A n c T) (hs0 : Ru w Any S m d s) :
    Calls Try.prog 6 #[.slice A n c, .slice S m d] w fun e w' => e = .returned (.bool true) ∧ Kp w w' := by
  have hnc := hT.cap
  have hnl := hT.le
  have hml := hs0.le
  have hmc := hs0.cap
  unfold maxLen at hnc hmc
  obtain ⟨F, hFd⟩ : ∃ F : Nat → Prop, F = fun k => k ≠ w.heap.size ∧ k ≠ w.heap.size + 1 := ⟨_, rfl⟩
  have hFn : ∀ k, w.heap.size + 2 ≤ k → F k := fun k hk => by rw [hFd]; show k ≠ _ ∧ k ≠ _; omega
  have hFl : ∀ k, k < w.heap.size → F k := fun k hk => by rw [hFd]; show k ≠ _ ∧ k ≠ _; omega
  have hFo : ∀ k, F k → k ≠ w.heap.size ∧ k ≠ w.heap.size + 1 := fun k hk => by rw [hFd] at hk; exact hk
  have HFN := Lib.hid hFn
  have HFL := Lib.hid hFl
  have HFO := Lib.hid hFo
  clear hFd hFn hFl hFo
  have hs1 := Sl.take hs0 (k := min m 40) (by omega)
  rw [Nat.mul_one, R32_take] at hs1
  have HS : Hid (Ru w F S (min m 40) d (s.take (min m 40))) := Sl.weak hs1 fun k hk _ => HFL.out k hk
  clear hs1
  generalize s.take (min m 40) = s' at *
  have hq40 : min m 40 ≤ 40 := by omega
  have HFEW := Lib.hid fun wx => few_any S m d 40 hml (by unfold maxLen; omega) (by omega) wx
  have HT := Lib.hid (hT.weak (F' := F) (G' := F) (fun k hk _ => HFL.out k hk) (fun k hk _ => HFL.out k hk))
  generalize min m 40 = q at *
  clear hT hs0
  go_enter Try.func6, Try.ntmps6
  go_upto_block 0 with (go_at_call 14; refine (HFEW.out _).mono ?_; rintro e w' ⟨rfl, rfl⟩)
  go_cut [7] (fun _ wx => PlayI w.heap.size w wx F 12)
  case first =>
    go_wp2_with fail
    go_loopg [7] 12 (fun g i wr => ∃ j : Nat, j + g = 12 ∧ i = .int .i64 j ∧ PlayI w.heap.size w wr F j)
    case atStart =>
      have b1 := Bx.new (w.alloc (.cells #[.slice none 0 0, .int .i64 0, .slice none 0 0] 27)) #[.slice none 0 0, .int .i64 0, .slice none 0 0] 37
      rw [World.size_alloc] at b1
      exact ⟨0, rfl, rfl, [], 0, [], none, 0, 0, none, 0, 0, none, 0, 0, none, 0, 0, ⟨⟨(Bx.new w _ _).alloc _, b1⟩, ⟨Txs.nil _ _ _, Txs.nil _ _ _, Ru.nil _ _, Ru.nil _ _⟩, ((Kp.refl _).alloc _).alloc _⟩, ⟨by simp, by simp, by simp⟩⟩
    case round =>
      obtain ⟨j, hj, rfl, L, at_, st, A1, n1, c1, B1, m1, d1, A2, n2, c2, B2, m2, d2, hst, hb⟩ := hrel
      by_cases hlt : j < n ∧ j < 12
      · obtain ⟨h1, h2⟩ := hlt
        have h2b : decide ((j : Int) < 12) = true := by simp; omega
        obtain ⟨ad, B, mm, e_, rfl, q0, hr⟩ := (HT.out.kp hst.2.2).get h1
        have hml := hr.len
        have hme := hr.le
        have hmc := hr.cap
        unfold maxLen at hmc
        have hxl := few_len (T[j]?.getD []) mm 20 hml
        have hr2 := Sl.take hr (k := min mm 20) (by omega)
        rw [Nat.mul_one, R32_take] at hr2
        have hrF : Ru wr F B (min mm 20) e_ ((T[j]?.getD []).take (min mm 20)) := hr2
        generalize (T[j]?.getD []).take (min mm 20) = x at *
        have hm20 : min mm 20 ≤ 20 := by omega
        have HF20 := Lib.hid fun wx => few_any B mm e_ 20 hme (by unfold maxLen; omega) (by omega) wx
        have hrl := hst.2.1.1.len
        have hF1 := fun (wx : World) (hz : w.heap.size + 2 ≤ wx.heap.size) (k : Nat) (hk : wx.heap.size ≤ k) => HFN.out k (by omega)
        have HF1 := Lib.hid hF1
        clear hF1 hr hr2 hml hmc
        have hsz1 : w.heap.size + 2 ≤ wr.heap.size := by have := hst.1.2.lt; omega
        generalize min mm 20 = m' at *
        obtain ⟨r0, r1, r2, r3, r4, r5⟩ := hst.1.1.three
        go_wp2_with (go_at_call 14; refine (HF20.out _).mono ?_; rintro e w' ⟨rfl, rfl⟩)
        refine (past_add F F A1 B1 B n1 c1 m1 d1 m' e_ at_ L x wr (HF1.out wr hsz1) hst.2.1.1 hrF (by have := hb.out.1; omega) (by omega)).mono ?_
        rintro e w2 ⟨A3, n3, c3, B3, m3, d3, rfl, hT3, hS3, k2⟩
        have st2 := hst.kp k2
        have hx2 := hrF.kp k2
        have hsz2 : w.heap.size + 2 ≤ w2.heap.size := by have := k2.size; omega
        clear q0 r0 r1 r2 r3 r4 r5 k2 hst hrF
        obtain ⟨r0, r1, r2, r3, r4, r5⟩ := st2.1.1.three
        obtain ⟨x0, x1, x2, x3, x4, x5⟩ := st2.1.2.three
        have n1' : w.heap.size + 1 ≠ w.heap.size := by omega
        go_upto_region 9 with fail
        have bp3 := Bx.set3 st2.1.1 (.slice A3 n3 c3) (.int .i64 0) (.slice B3 m3 d3)
        have bx3 := Bx.far3 (u := .slice A3 n3 c3) (v := .int .i64 0) (s := .slice B3 m3 d3) st2.1.2 n1'
        have hT3' := Txs.set3 (b := w.heap.size) (u := .slice A3 n3 c3) (v := .int .i64 0) (s := .slice B3 m3 d3) hT3 (fun k h => (HFO.out k h).1) (fun k h => (HFO.out k h).1)
        have hX3 := Txs.set3 (b := w.heap.size) (u := .slice A3 n3 c3) (v := .int .i64 0) (s := .slice B3 m3 d3) st2.2.1.2.1 (fun k h => (HFO.out k h).1) (fun k h => (HFO.out k h).1)
        have hS3' := Ru.set3 (b := w.heap.size) (u := .slice A3 n3 c3) (v := .int .i64 0) (s := .slice B3 m3 d3) hS3 (fun k h => (HFO.out k h).1)
        have hx3 := Ru.set3 (b := w.heap.size) (u := .slice A3 n3 c3) (v := .int .i64 0) (s := .slice B3 m3 d3) hx2 (fun k h => (HFO.out k h).1)
        have kp3 := Kp.set3 (b := w.heap.size) st2.2.2 (Nat.le_refl _) (.slice A3 n3 c3) (.int .i64 0) (.slice B3 m3 d3)
        have hsz3 : w.heap.size + 2 ≤ (((w2.setCell ⟨w.heap.size, 0, none⟩ (.slice A3 n3 c3)).setCell ⟨w.heap.size, 1, none⟩ (.int .i64 0)).setCell ⟨w.heap.size, 2, none⟩ (.slice B3 m3 d3)).heap.size := by rw [size_set3]; exact hsz2
        clear r0 r1 r2 r3 r4 r5 x0 x1 x2 x3 x4 x5 st2 hx2 hsz2 hT3 hS3
        generalize (((w2.setCell ⟨w.heap.size, 0, none⟩ (.slice A3 n3 c3)).setCell ⟨w.heap.size, 1, none⟩ (.int .i64 0)).setCell ⟨w.heap.size, 2, none⟩ (.slice B3 m3 d3)) = w3 at *
        obtain ⟨x0, x1, x2, x3, x4, x5⟩ := bx3.three
        go_wp2_with fail
        refine (refAdd_any F A2 B2 B n2 c2 m2 d2 m' e_ at_ L.reverse x w3 hX3 hx3 (by have := hX3.len; rw [List.length_reverse] at this; have := hb.out.1; omega) (HF1.out w3 hsz3)).mono ?_
        rintro e w4 ⟨A4, n4, c4, rfl, hX4, k4⟩
        have bp4 := bp3.kp k4
        have bx4 := bx3.kp k4
        have hT4 := hT3'.kp k4
        have hS4 := hS3'.kp k4
        have kp4 := kp3.trans k4
        clear x0 x1 x2 x3 x4 x5 bp3 bx3 hT3' hX3 hS3' hx3 kp3 k4 hsz3
        obtain ⟨x0, x1, x2, x3, x4, x5⟩ := bx4.three
        go_wp2_with fail
        go_roundg (12 - (j + 1))
        case measure => omega
        case rel =>
          have hrev : (addM L x).reverse = addR L.reverse x := addM_rev L x (by have := hb.out.1; omega)
          rw [← hrev] at hX4
          refine ⟨j + 1, by omega, by go_num, addM L x, 0, [], A3, n3, c3, B3, m3, d3, A4, n4, c4, none, 0, 0, ⟨⟨bp4.far3 (by omega), bx4.set3 _ _ _⟩, ⟨hT4.set3 (fun k h => (HFO.out k h).2) (fun k h => (HFO.out k h).2), hX4.set3 (fun k h => (HFO.out k h).2) (fun k h => (HFO.out k h).2), hS4.set3 (fun k h => (HFO.out k h).2), Ru.nil _ _⟩, kp4.set3 (by omega) _ _ _⟩, ?_, ?_, by simp⟩
          · have := addM_length L x; have := hb.out.1; omega
          · intro y hy
            rcases addM_mem hy with h | rfl
            · exact hb.out.2.1 y h
            · exact hxl
      · have HI : PlayI w.heap.size w wr F 12 := ⟨L, at_, st, A1, n1, c1, B1, m1, d1, A2, n2, c2, B2, m2, d2, hst, ⟨by have := hb.out.1; omega, hb.out.2⟩⟩
        clear hst hb
        by_cases h1 : j < n
        · have h2b : decide ((j : Int) < 12) = false := by simp; omega
          clear hlt
          go_wp2
          go_meet
          exact HI
        · clear hlt
          go_wp2
          go_meet
          exact HI
  case rest =>
    obtain ⟨L, at_, st, A1, n1, c1, B1, m1, d1, A2, n2, c2, B2, m2, d2, hst, hb⟩ := hcut
    obtain ⟨w1, hw1⟩ : ∃ w1 : World, w1 = wc := ⟨_, rfl⟩
    subst hw1
    have hs1 := Ru.kp HS.out hst.2.2
    have hn1 : n1 ≤ 12 := by rw [← hst.2.1.1.len]; exact hb.out.1
    have hm1 : m1 ≤ 20 := by rw [← hst.2.1.2.2.1.len]; exact hb.out.2.2
    have hn2 : n2 ≤ 12 := by have := hst.2.1.2.1.len; rw [List.length_reverse] at this; have := hb.out.1; omega
    have HL60 := Lib.hid fun (y : List Int) (hy : y ∈ L) => show y.length ≤ 60 by have := hb.out.2.1 y hy; omega
    obtain ⟨r0, r1, r2, r3, r4, r5⟩ := hst.1.1.three
    have HC1 := Lib.hid (expand_any F F F F A1 B1 S n1 c1 m1 d1 q d at_ L st s' w1 hst.2.1.1 hst.2.1.2.2.1 hs1 (by omega) (by omega) (by omega) HL60.out)
    have HC2 := Lib.hid fun wx (kk : Kp w1 wx) => refExpand_any F F F A2 B2 S n2 c2 m2 d2 q d at_ L s' wx (hst.2.1.2.1.kp kk) (hs1.kp kk) (by omega) (by omega) HL60.out
    obtain ⟨o, ho⟩ : ∃ o, o = exF L s' := ⟨_, rfl⟩
    rw [← ho] at HC1 HC2
    clear ho hb
    go_wp2_with fail
    refine HC1.out.mono ?_
    rintro e w2 ⟨A3, n3, c3, er, rfl, her, hr3, k2⟩
    obtain ⟨x0, x1, x2, x3, x4, x5⟩ := (hst.1.2.kp k2).three
    clear r0 r1 r2 r3 r4 r5
    go_wp2_with fail
    refine (HC2.out _ k2).mono ?_
    rintro e w3 ⟨A4, n4, c4, er2, rfl, her2, hr4, k3⟩
    obtain rfl : er2 = er := her2.out.trans her.out.symm
    have hr3' := Ru.kp hr3 k3
    have KK := (hst.2.2.trans k2).trans k3
    clear x0 x1 x2 x3 x4 x5 hst her her2 hr3
    have HSM := Lib.hid (same_any _ _ A3 A4 n3 c3 n4 c4 (o.getD []) (o.getD []) w3 hr3' hr4)
    rw [show sameB (o.getD []) (o.getD []) = true from (sameB_iff _ _).2 rfl] at HSM
    go_wp2_with fail
    refine HSM.out.mono ?_
    rintro e w4 ⟨rfl, hd⟩
    have KK4 := KK.trans hd.kp
    have hee : (er2 == er2) = true := by simp
    go_wp2_with fail
    refine (awake20 w4).mono ?_
    rintro e w5 ⟨rfl, hk⟩
    go_wp2_with fail
    go_ret
    exact ⟨rfl, KK4.trans hk⟩
/-- As the frame asks it. -/
theorem pastExpands_walk {w0 : World} (A : Option Addr) (n c : Nat) (L : List (List Int)) (hT : Txs w0 Any Any A n c L) (_ : ∀ l ∈ L, ∀ y ∈ l, (Lit.int .i32 y).wf = true)
    (B : Option Addr) (m d : Nat) (now : List Int) (hN : Ru w0 Any B m d now) (_ : ∀ y ∈ now, (Lit.int .i32 y).wf = true) (w : World) (hw : w = w0 := by rfl) :
    Calls Try.prog 6 #[.slice A n c, .slice B m d] w fun e w' => e = .returned (.bool true) ∧ Kp w w' := by
  subst hw
  exact pastExpands_walk' A B n c m d L now w hT hN
end Go.Proofs.Ytcbachblhfkcoaa
