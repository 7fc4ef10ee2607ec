/-
  typebarlaw01.UtfFeeds: the walk: it returns true, and what was in memory stays. No conditions.
-/
import Derived.Test.YtmeefngkbcfpeaaUtfA
namespace Go.Proofs.Ytmeefngkbcfpeaa
open Go.RowKit

theorem by8_to (s : ByteArray) (k : Nat) : by8 (s.extract 0 k) = (by8 s).take k := by rw [by8_extract]; simp

theorem far5 {w : World} {b g : Nat} {t : TypeId} {cs : Array Value} (h : Bx w b cs t) (hne : b ≠ g) (x y z u v : Value) : Bx (set5 w g x y z u v) b cs t :=
  (((((h.far (p := ⟨_, _, _⟩) hne x).far (p := ⟨_, _, _⟩) hne y).far (p := ⟨_, _, _⟩) hne z).far (p := ⟨_, _, _⟩) hne u).far (p := ⟨_, _, _⟩) hne v)

theorem held5 {w : World} {b g : Nat} {t : TypeId} {x' y' z' u' v' : Value} (h : Bx w b #[x', y', z', u', v'] t) (hne : b ≠ g) (x y z u v : Value) : (((((w.setCell ⟨g, 0, none⟩ x).setCell ⟨g, 1, none⟩ y).setCell ⟨g, 2, none⟩ z).setCell ⟨g, 3, none⟩ u).setCell ⟨g, 4, none⟩ v).cell? ⟨b, 0, none⟩ = some x' ∧ (((((w.setCell ⟨g, 0, none⟩ x).setCell ⟨g, 1, none⟩ y).setCell ⟨g, 2, none⟩ z).setCell ⟨g, 3, none⟩ u).setCell ⟨g, 4, none⟩ v).cell? ⟨b, 1, none⟩ = some y' ∧ (((((w.setCell ⟨g, 0, none⟩ x).setCell ⟨g, 1, none⟩ y).setCell ⟨g, 2, none⟩ z).setCell ⟨g, 3, none⟩ u).setCell ⟨g, 4, none⟩ v).cell? ⟨b, 2, none⟩ = some z' ∧ (((((w.setCell ⟨g, 0, none⟩ x).setCell ⟨g, 1, none⟩ y).setCell ⟨g, 2, none⟩ z).setCell ⟨g, 3, none⟩ u).setCell ⟨g, 4, none⟩ v).cell? ⟨b, 3, none⟩ = some u' ∧ (((((w.setCell ⟨g, 0, none⟩ x).setCell ⟨g, 1, none⟩ y).setCell ⟨g, 2, none⟩ z).setCell ⟨g, 3, none⟩ u).setCell ⟨g, 4, none⟩ v).cell? ⟨b, 4, none⟩ = some v' := by
  have k := (far5 h hne x y z u v).five
  exact ⟨k.1, k.2.1, k.2.2.1, k.2.2.2.1, k.2.2.2.2.1⟩

set_option maxRecDepth 100000 in
set_option maxHeartbeats 6400000 in
theorem utfFeeds_walk' (s0 s : ByteArray) (hcase : (300 < s0.size ∧ s = s0.extract 0 300) ∨ (s0.size ≤ 300 ∧ s = s0)) (w : World) : Calls Try.prog 4 #[.string s0] w fun e w' => e = .returned (.bool true) ∧ Kp w w' := by
  have hs : s.size ≤ 300 := by
    rcases hcase with ⟨h, rfl⟩ | ⟨h, rfl⟩
    · rw [ByteArray.size_extract]; omega
    · exact h
  have hlen := by8_length s
  have HL := Lib.hid hlen
  clear hlen
  go_enter Try.func4, Try.ntmps4
  go_upto_if 12 with fail
  go_cut [0] (fun v wx => v = .string s ∧ w = wx)
  case first =>
    rcases hcase with ⟨h, rfl⟩ | ⟨h, rfl⟩
    · go_wp2_with fail
      go_meet
      exact ⟨rfl, rfl⟩
    · go_wp2_with fail
      go_meet
      exact ⟨rfl, rfl⟩
  case rest =>
    obtain ⟨rfl, rfl⟩ := hcut
    clear hcase
    go_wp2_with fail
    go_loopg [4, 5] s.size (fun g out i wr => ∃ (k : Nat) (A : Option Addr) (m c : Nat) (d : Dm) (xs : List Int), k + g = s.size ∧ i = .int .i64 k ∧ out = .slice A m c ∧ Own wr (w.heap.size + 1) 21 1 A m c (R32 xs) ∧
      Bx wr w.heap.size #[.int .i64 d.need, .int .i64 d.has, .int .u8 d.low, .int .u8 d.high, .int .i32 d.val] 28 ∧ w.heap.size + 1 ≤ wr.heap.size ∧ Kp w wr ∧ Hid (feedsM Dm.zero ((by8 s).take k) = (d, xs)))
    case atStart => exact ⟨0, none, 0, 0, Dm.zero, [], by omega, rfl, rfl, Own.nil _ _ _ _, Bx.new _ _ _, by simp, (Kp.refl _).alloc _, by show _ = _; simp [feedsM]⟩
    case round =>
      obtain ⟨k, A, m, c, d, xs, hk, rfl, rfl, hown, hbx, hsz, hkp, hfe⟩ := hrel
      by_cases hlt : k < s.size
      · have hkl : k < (by8 s).length := by rw [HL.out]; exact hlt
        have hbd := by8_bd s _ (List.getElem_mem hkl)
        obtain ⟨b, hb⟩ : ∃ b, (by8 s)[k]?.getD 0 = b := ⟨_, rfl⟩
        have hb' : (by8 s)[k] = b := by rw [← hb, List.getElem?_eq_getElem hkl]; rfl
        have hnext : feedsM Dm.zero ((by8 s).take (k + 1)) = ((feedM d b).1, xs ++ (feedM d b).2) := by
          rw [List.take_succ_eq_append_getElem hkl, feedsM_snoc, hfe.out, hb']
        have hdok : d.ok := by
          have := feedsM_ok Dm.zero ((by8 s).take k) (.inl rfl)
          rw [hfe.out] at this
          exact this
        have hxl : xs.length ≤ 600 := by
          have := feedsM_len Dm.zero ((by8 s).take k)
          rw [hfe.out] at this
          simp at this
          omega
        have hml : m ≤ 600 := by have := hown.len; rw [R32_length] at this; omega
        have hyl := feedM_len d b
        have ib := fun wx : World => run_index_str (P := Try.prog) wx 9 s .i64 k k Try.underlying9 rfl hlt b hb
        obtain ⟨d1, hd1⟩ : ∃ d1, d1 = (feedM d b).1 := ⟨_, rfl⟩
        obtain ⟨ys, hys⟩ : ∃ ys, ys = (feedM d b).2 := ⟨_, rfl⟩
        -- what the law says of the bytes so far
        obtain ⟨l1, l2, l3, l4⟩ := feedsM_law _ ((by8 s).take (k + 1)) (Nat.le_refl _)
        rw [hnext] at l1 l2 l4
        simp only [← hd1, ← hys] at l1 l2 l4
        rw [← hd1, ← hys] at hnext
        rw [← hys] at hyl
        rw [hb'] at hbd
        have hkt : ((by8 s).take (k + 1)).length = k + 1 := by rw [List.length_take, HL.out]; omega
        rw [hkt] at l3 l4
        rw [List.take_take, Nat.min_eq_left (by omega)] at l4
        obtain ⟨wt, hwt⟩ : ∃ wt, wt = waitR ((by8 s).take (k + 1)) := ⟨_, rfl⟩
        rw [← hwt] at l2 l3 l4
        have L1 := Lib.hid l1
        have L2 := Lib.hid l2
        have L4 := Lib.hid l4
        have WT := Lib.hid hwt
        have NX := Lib.hid hnext
        have D1 := Lib.hid hd1
        have YS := Lib.hid hys
        have hrow : ∀ g, rowOf A = some g → w.heap.size + 1 ≤ g ∧ g < wr.heap.size := hown.lt
        have HR := Lib.hid hrow
        clear hfe hnext l1 l2 l4 hwt hd1 hys hb hb' hkl hkt hxl hrow
        obtain ⟨p0, p1, p2, p3, p4, q0, q1, q2, q3, q4⟩ := hbx.five
        go_upto_region 9 with fail
        have nw : w.heap.size ≠ wr.heap.size := by omega
        go_cut [6, 7] (fun vb v wx => ∃ (g : Nat) (A1 : Option Addr) (n1 c1 : Nat), vb = .pointer (some ⟨g, 0, none⟩) ∧ v = .slice A1 n1 c1 ∧ Ru wx (From wr.heap.size) A1 n1 c1 ys ∧
          Bx wx g #[.int .i64 d1.need, .int .i64 d1.has, .int .u8 d1.low, .int .u8 d1.high, .int .i32 d1.val] 28 ∧ wr.heap.size ≤ g ∧ Kp wr wx)
        case first =>
          go_wp2_with fail
          go_region_held3 (fun w' => w'.cell? ⟨w.heap.size, 0, none⟩ = some (.int .i64 d.need) ∧ w'.cell? ⟨w.heap.size, 1, none⟩ = some (.int .i64 d.has) ∧ w'.cell? ⟨w.heap.size, 2, none⟩ = some (.int .u8 d.low) ∧ w'.cell? ⟨w.heap.size, 3, none⟩ = some (.int .u8 d.high) ∧ w'.cell? ⟨w.heap.size, 4, none⟩ = some (.int .i32 d.val))
            (first | (with_reducible exact ⟨u0, u1, u2, u3, u4⟩) | (with_reducible exact held5 hbx1 nw _ _ _ _ _) | (with_reducible exact held5 (hbx1.alloc _) n1' _ _ _ _ _) | go_keep)
            (first | (go_at_call 17; go_loud (refine (feed_any d hdok b hbd.1 hbd.2 _).mono ?_); rintro e w1 ⟨A1, n1, c1, rfl, hr1, hk1⟩; (first | (have k0 : Kp wr w1 := (Kp.refl wr).drew.trans hk1) | (have k0 : Kp wr w1 := ((Kp.refl wr).drew.alloc _).trans hk1)); have hbx1 := hbx.kp k0; have n1' : w.heap.size ≠ w1.heap.size := Nat.ne_of_lt hbx1.lt; (first | (have f0 : Bx w1 wr.heap.size _ _ := Bx.kp (Bx.new wr.drew _ _) hk1; obtain ⟨a0, a1, a2, a3, a4, b0, b1, b2, b3, b4⟩ := f0.five) | skip); obtain ⟨u0, u1, u2, u3, u4, v0, v1, v2, v3, v4⟩ := hbx1.five; obtain ⟨c00, c11, c2, c3, c4, e0, e1, e2, e3, e4⟩ := Bx.five (Bx.new w1 #[.int .i64 0, .int .i64 0, .int .u8 0, .int .u8 0, .int .i32 0] 28); unfold Dm.v; simp only [← D1.out]; rw [← YS.out] at hr1))
          all_goals go_wp2_with fail
          all_goals go_meet
          all_goals first
            | exact ⟨_, A1, n1, c1, rfl, rfl, Sl.alloc (Sl.weak hr1 (fun _ _ h => h)) _, Bx.new _ _ _, k0.size, k0.alloc _⟩
            | skip
          all_goals
            have fr := set5_frame (w := w1) (b := wr.heap.size) (x := .int .i64 d1.need) (y := .int .i64 d1.has) (z := .int .u8 d1.low) (u := .int .u8 d1.high) (v := .int .i32 d1.val)
            have hr0 : Ru w1 (fun k => wr.heap.size + 1 ≤ k) A1 n1 c1 ys := Sl.weak hr1 (fun k _ h => by unfold From at h; simpa using h)
            refine ⟨wr.heap.size, A1, n1, c1, rfl, rfl, ?_, Bx.set5 f0 _ _ _ _ _, Nat.le_refl _, k0.set5 (Nat.le_refl _) _ _ _ _ _⟩
            exact Sl.weak (Sl.frame hr0 fr.1 (fun g hF hl => fr.2 g (by omega) hl)) (fun k _ h => by unfold From; omega)
        case rest =>
          obtain ⟨g, A1, n1, c1, rfl, rfl, hr1, hb1, hg1, hk1⟩ := hcut
          have hbx1 := hbx.kp hk1
          have hown1 := hown.kp hk1
          have hkp1 := hkp.trans hk1
          have hne : w.heap.size ≠ g := by omega
          have hsz1 : w.heap.size + 1 ≤ wc.heap.size := by have := hk1.size; omega
          clear hbx hown hkp hk1 p0 p1 p2 p3 p4 q0 q1 q2 q3 q4 ib hdok
          obtain ⟨p0, p1, p2, p3, p4, q0, q1, q2, q3, q4⟩ := hbx1.five
          obtain ⟨s0, s1, s2, s3, s4, _, _, _, _, _⟩ := hb1.five
          go_upto_region 10 with fail
          have fr := set5_frame (w := wc) (b := w.heap.size) (x := .int .i64 d1.need) (y := .int .i64 d1.has) (z := .int .u8 d1.low) (u := .int .u8 d1.high) (v := .int .i32 d1.val)
          have hbx2 := Bx.set5 hbx1 (.int .i64 d1.need) (.int .i64 d1.has) (.int .u8 d1.low) (.int .u8 d1.high) (.int .i32 d1.val)
          have hkp2 := hkp1.set5 (Nat.le_refl _) (.int .i64 d1.need) (.int .i64 d1.has) (.int .u8 d1.low) (.int .u8 d1.high) (.int .i32 d1.val)
          have hown2 : Own (set5 wc w.heap.size (.int .i64 d1.need) (.int .i64 d1.has) (.int .u8 d1.low) (.int .u8 d1.high) (.int .i32 d1.val)) (w.heap.size + 1) 21 1 A m c (R32 xs) := hown1.frame fun g hg => fr.2 g (by have := hown1.lt g hg; omega) (hown1.lt g hg).2
          have hr2 : Ru (set5 wc w.heap.size (.int .i64 d1.need) (.int .i64 d1.has) (.int .u8 d1.low) (.int .u8 d1.high) (.int .i32 d1.val)) (From wr.heap.size) A1 n1 c1 ys := Sl.frame hr1 fr.1 (fun g hF hl => fr.2 g (by unfold From at hF; omega) hl)
          have hsz2 : w.heap.size + 1 ≤ (set5 wc w.heap.size (.int .i64 d1.need) (.int .i64 d1.has) (.int .u8 d1.low) (.int .u8 d1.high) (.int .i32 d1.val)).heap.size := by have := fr.1; omega
          have hn1 : n1 ≤ 2 := by have := hr1.len; omega
          clear fr hbx1 hkp1 hown1 hr1 hb1
          go_cut [4] (fun v wx => ∃ (A4 : Option Addr) (c4 : Nat), v = .slice A4 (m + n1) c4 ∧ Own wx (w.heap.size + 1) 21 1 A4 (m + n1) c4 (R32 (xs ++ ys)) ∧ Bx wx w.heap.size #[.int .i64 d1.need, .int .i64 d1.has, .int .u8 d1.low, .int .u8 d1.high, .int .i32 d1.val] 28 ∧ w.heap.size + 1 ≤ wx.heap.size ∧ Kp w wx)
          case first =>
            go_wp2_with (at_builtin; refine wpList_append_sl _ rfl (.tmp 30) (.tmp 31) _ rfl (w.heap.size + 1) 21 _ 1 4 Try.underlying23 info32 rfl (by omega) A m c (R32 xs) rfl hown2 _ A1 n1 c1 (R32 ys) rfl hr2 (R32_one _) (by simp only [maxLen]; omega) (by omega) hsz2 ?_; intro A4 c4 w4 hown4 hg hat)
            go_meet
            rw [R32_append] at hown4
            have hgr : ∀ g, rowOf A = some g → w.heap.size + 1 ≤ g := fun g h => (hown2.lt g h).1
            refine ⟨A4, c4, rfl, hown4, Bx.grown hbx2 hg (fun h => by have := hgr _ h; omega), ?_, hkp2.grown hg (fun g h => by have := hgr _ h; omega)⟩
            exact Nat.le_trans hsz2 hg.size
          case rest =>
            obtain ⟨A4, c4, rfl, hown4, hbx4, hsz4, hkp4⟩ := hcut
            clear hown2 hbx2 hkp2 hr2 hsz2 hne hg1
            go_wp2_with fail
            have ht : (s.extract 0 (k + 1)).size ≤ 1073741824 := by rw [ByteArray.size_extract]; omega
            have ht2 : (s.extract 0 (k + 1 - wt)).size ≤ 1073741824 := by rw [ByteArray.size_extract]; omega
            have HX : Hid (by8 (s.extract 0 (k + 1)) = (by8 s).take (k + 1) ∧ by8 (s.extract 0 (k + 1 - wt)) = (by8 s).take (k + 1 - wt)) := ⟨by8_to _ _, by8_to _ _⟩
            have hw1 : IntKind.i64.wrap ((k : Int) + 1 - (wt : Int)) = ((k + 1 - wt : Nat) : Int) := by rw [IntWalk.i64_in _ (by omega)]; omega
            refine (waits_any (s.extract 0 (k + 1)) ht wc).mono ?_
            rintro e w5 ⟨rfl, hd5⟩
            rw [HX.out.1, ← WT.out]
            have k5 := hd5.kp
            have hbx5 := hbx4.kp k5
            have hown5 := hown4.kp k5
            have hkp5 := hkp4.trans k5
            have hsz5 : w.heap.size + 1 ≤ w5.heap.size := by have := k5.size; omega
            clear hbx4 hown4 hkp4 hsz4 k5 hd5
            clear p0 p1 p2 p3 p4 q0 q1 q2 q3 q4 s0 s1 s2 s3 s4
            obtain ⟨p0, p1, p2, p3, p4, q0, q1, q2, q3, q4⟩ := hbx5.five
            go_wp2_with fail
            refine (pending_any d1 w5).mono ?_
            rintro e w6 ⟨rfl, k6⟩
            rw [L2.out]
            have hbx6 := hbx5.kp k6
            have hown6 := hown5.kp k6
            have hkp6 := hkp5.trans k6
            have hsz6 : w.heap.size + 1 ≤ w6.heap.size := by have := k6.size; omega
            clear hbx5 hown5 hkp5 hsz5 k6 p0 p1 p2 p3 p4 q0 q1 q2 q3 q4
            obtain ⟨p0, p1, p2, p3, p4, q0, q1, q2, q3, q4⟩ := hbx6.five
            go_wp2_with fail
            refine (refDecode_any (s.extract 0 (k + 1 - wt)) ht2 w6).mono ?_
            rintro e w7 ⟨A7, n7, c7, rfl, hr7, k7⟩
            rw [HX.out.2, ← L4.out] at hr7
            have hbx7 := hbx6.kp k7
            have hown7 := hown6.kp k7
            have hkp7 := hkp6.trans k7
            have hsz7 : w.heap.size + 1 ≤ w7.heap.size := by have := k7.size; omega
            clear hbx6 hown6 hkp6 hsz6 k7 p0 p1 p2 p3 p4 q0 q1 q2 q3 q4
            go_wp2_with fail
            refine (same_any _ _ A4 A7 (m + n1) c4 n7 c7 (xs ++ ys) (xs ++ ys) w7 hown7.sl hr7).mono ?_
            rintro e w8 ⟨rfl, hd8⟩
            rw [sameB_refl]
            have k8 := hd8.kp
            have hbx8 := hbx7.kp k8
            have hown8 := hown7.kp k8
            have hkp8 := hkp7.trans k8
            have hsz8 : w.heap.size + 1 ≤ w8.heap.size := by have := k8.size; omega
            clear hbx7 hown7 hkp7 hsz7 k8 hd8 hr7
            go_wp2_with (at_builtin; refine wpList_append_sl _ rfl (.tmp 54) (.tmp 55) _ rfl w8.heap.size 21 _ 1 4 Try.underlying23 info32 rfl (by omega) none 0 0 [] rfl (Own.nil _ _ _ _) _ A4 (m + n1) c4 (R32 (xs ++ ys)) rfl hown8.sl (R32_one _) (by simp only [maxLen]; omega) (by omega) (Nat.le_refl _) ?_; intro A9 c9 w9 hown9 hg9 hat9; obtain ⟨p0, p1, p2, p3, p4, q0, q1, q2, q3, q4⟩ := (Bx.grown hbx8 hg9 (fun h => by cases h)).five)
            have hbx9 := Bx.grown hbx8 hg9 (fun h => by cases h)
            have hownA := Own.grown hown8 hg9 (fun _ _ h => by cases h)
            have hkp9 : Kp w w9 := hkp8.grown hg9 (fun _ h => by cases h)
            have hsz9 := hg9.size
            have HA8 : Hid (∀ q, rowOf A4 = some q → q < w8.heap.size) := fun q h => (hown8.lt q h).2
            clear hg9 hat9 hbx8 hown8 hkp8
            refine (end_any d1 w9).mono ?_
            rintro e w10 ⟨A10, n10, c10, rfl, hr10, k10⟩
            have hn10 : n10 ≤ 1 := by have := hr10.len; unfold endM at this; split at this <;> simp at this <;> omega
            have hown10 := hown9.kp k10
            have hownB := hownA.kp k10
            have hbx10 := hbx9.kp k10
            have hkp10 := hkp9.trans k10
            have hsz10 : w8.heap.size ≤ w10.heap.size := Nat.le_trans hsz9 k10.size
            clear hown9 hownA hbx9 hkp9 k10 p0 p1 p2 p3 p4 q0 q1 q2 q3 q4
            go_wp2_with (at_builtin; refine wpList_append_sl _ rfl (.tmp 57) (.tmp 59) _ rfl w8.heap.size 21 _ 1 4 Try.underlying23 info32 rfl (by omega) A9 (0 + (m + n1)) c9 _ (by first | rfl | (rw [Nat.zero_add]; rfl)) hown10 _ A10 n10 c10 (R32 (endM d1)) rfl hr10 (R32_one _) (by simp only [maxLen]; omega) (by omega) hsz10 ?_; intro A11 c11 w11 hown11 hg11 hat11)
            have hfar : ∀ q, rowOf A9 = some q → w8.heap.size ≤ q := fun q h => (hown10.lt q h).1
            have hbx11 := Bx.grown hbx10 hg11 (fun h => by have := hfar _ h; omega)
            have hownC := Own.grown hownB hg11 (fun q hq h => by have := hfar _ h; have := HA8.out q hq; omega)
            have hkp11 : Kp w w11 := hkp10.grown hg11 (fun q h => by have := hfar _ h; omega)
            have hsz11 : w.heap.size + 1 ≤ w11.heap.size := by have := hg11.size; omega
            rw [List.nil_append, R32_append] at hown11
            rw [Nat.zero_add] at hown11
            rw [L1.out] at hown11
            clear hfar hbx10 hownB hkp10 hg11 hat11 hown10 hr10
            refine (refDecode_any (s.extract 0 (k + 1)) ht w11).mono ?_
            rintro e w12 ⟨A12, n12, c12, rfl, hr12, k12⟩
            rw [HX.out.1] at hr12
            have hbx12 := hbx11.kp k12
            have hown12 := hown11.kp k12
            have hownD := hownC.kp k12
            have hkp12 := hkp11.trans k12
            have hsz12 : w.heap.size + 1 ≤ w12.heap.size := by have := k12.size; omega
            clear hbx11 hown11 hkp11 hownC k12
            go_wp2_with fail
            refine (same_any _ _ A11 A12 (m + n1 + n10) c11 n12 c12 _ _ w12 hown12.sl hr12).mono ?_
            rintro e w13 ⟨rfl, hd13⟩
            rw [sameB_refl]
            have k13 := hd13.kp
            have hbx13 := hbx12.kp k13
            have hownE := hownD.kp k13
            have hkp13 := hkp12.trans k13
            have hsz13 : w.heap.size + 1 ≤ w13.heap.size := by have := k13.size; omega
            clear hbx12 hown12 hownD hkp12 k13 hd13 hr12
            go_wp2_with fail
            go_roundg (s.size - (k + 1))
            case measure => omega
            case rel => exact ⟨k + 1, A4, m + n1, c4, d1, xs ++ ys, by omega, by go_num, rfl, hownE, hbx13, hsz13, hkp13, NX⟩
      · clear hfe
        go_wp2_with fail
        refine (awake01 wr).mono ?_
        rintro e w1 ⟨rfl, hk1⟩
        have hkp1 := hkp.trans hk1
        clear hkp hk1 hown hbx
        go_wp2_with fail
        go_ret
        exact ⟨rfl, hkp1⟩

/-- UtfFeeds: the walk. -/
theorem utfFeeds_walk (s : ByteArray) (_hs : s.size ≤ maxLen) (w : World) : Calls Try.prog 4 #[.string s] w fun e w' => e = .returned (.bool true) ∧ Kp w w' := by
  by_cases h : 300 < s.size
  · exact utfFeeds_walk' s _ (.inl ⟨h, rfl⟩) w
  · exact utfFeeds_walk' s _ (.inr ⟨by omega, rfl⟩) w
end Go.Proofs.Ytmeefngkbcfpeaa
