/-
  KeysRests: behind any bytes, but within a paste, a tick leaves nothing that waits. No conditions.
-/
import Derived.Test.YtmeefngkbcfpeaaKePl
namespace Go.Proofs.Ytmeefngkbcfpeaa
open Go.RowKit

theorem tick_zero {p : Pm} (h : p.inn ≠ 4) : (tickP p).1 = Pm.zero := by
  unfold tickP
  split
  · rfl
  · split
    · rfl
    · rfl

set_option maxRecDepth 100000 in
set_option maxHeartbeats 6400000 in
theorem keysRests_walk' (s0 s m0 m : ByteArray) (hcase : (200 < s0.size ∧ s = s0.extract 0 200) ∨ (s0.size ≤ 200 ∧ s = s0)) (hcase2 : (100 < m0.size ∧ m = m0.extract 0 100) ∨ (m0.size ≤ 100 ∧ m = m0)) (w : World) :
    Calls Try.prog 12 #[.string s0, .string m0] w fun e w' => e = .returned (.bool true) ∧ Kp w w' := by
  have hs : s.size ≤ 200 := by
    rcases hcase with ⟨h, rfl⟩ | ⟨h, rfl⟩
    · rw [ByteArray.size_extract]; omega
    · exact h
  have hm : m.size ≤ 100 := by
    rcases hcase2 with ⟨h, rfl⟩ | ⟨h, rfl⟩
    · rw [ByteArray.size_extract]; omega
    · exact h
  have HAW := Lib.hid fun wx : World => awake_any wx
  go_enter Try.func12, Try.ntmps12
  go_upto_if 18 with fail
  go_cut [0] (fun v wx => v = .string s ∧ w = wx)
  case first =>
    rcases hcase with ⟨h, rfl⟩ | ⟨h, rfl⟩
    · go_wp2_with fail
      go_meet
      exact ⟨rfl, rfl⟩
    · go_wp2_with fail
      go_meet
      exact ⟨rfl, rfl⟩
  case rest =>
    obtain ⟨rfl, rfl⟩ := hcut
    clear hcase
    go_upto_if 23 with fail
    go_cut [1] (fun v wx => v = .string m ∧ w = wx)
    case first =>
      rcases hcase2 with ⟨h, rfl⟩ | ⟨h, rfl⟩
      · go_wp2_with fail
        go_meet
        exact ⟨rfl, rfl⟩
      · go_wp2_with fail
        go_meet
        exact ⟨rfl, rfl⟩
    case rest =>
      obtain ⟨rfl, rfl⟩ := hcut
      clear hcase2
      have bp0 := (Bx.new w Pm.zero.cells 42).alloc (.cells Rm.zero.cells 45)
      have br0 := Bx.new (w.alloc (.cells Pm.zero.cells 42)) Rm.zero.cells 45
      rw [World.size_alloc] at br0
      have kp0 := ((Kp.refl w).alloc (.cells Pm.zero.cells 42)).alloc (.cells Rm.zero.cells 45)
      go_wp2_with fail
      go_loopg [7] s.size (fun gg iv wr => ∃ (k : Nat) (p : Pm) (r : Rm), k + gg = s.size ∧ iv = .int .i64 k ∧ Hid (Rel p r ∧ PmOk p k ∧ RmOk r k) ∧
        Bx wr w.heap.size p.cells 42 ∧ Bx wr (w.heap.size + 1) r.cells 45 ∧ Kp w wr)
      case atStart => exact ⟨0, Pm.zero, Rm.zero, by omega, rfl, ⟨Rel.zero, PmOk.zero, RmOk.zero⟩, bp0, br0, kp0⟩
      case round =>
        clear bp0 br0 kp0
        obtain ⟨k, p, r, hk, rfl, HR, hb, hbr, kw⟩ := hrel
        by_cases hlt : k < s.size
        · obtain ⟨x, hx⟩ : ∃ x, (by8 s)[k]?.getD 0 = x := ⟨_, rfl⟩
          have hxb : 0 ≤ x ∧ x ≤ 255 := by rw [← hx]; exact by8_bound s k
          have hix := fun wx : World => run_index_str (P := Try.prog) wx 9 s .i64 k k Try.underlying9 rfl hlt x hx
          obtain ⟨hrel, hpo, hro⟩ := HR.out
          have HBO := Lib.hid (feed_both hrel x)
          have HPO := Lib.hid (hpo.feed hxb.1 hxb.2)
          have HRO := Lib.hid (hro.feed hxb.1 hxb.2)
          have hfe := fun wx : World => feedF_any p hpo.ok hpo.bd (Nat.le_trans hpo.len (by omega)) x hxb.1 hxb.2 wx
          have hfr := fun (wx : World) (hx : Bx wx (w.heap.size + 1) r.cells 45) => refFeed_any r hro.rb (Nat.le_trans hro.rl (by omega)) hro.wb (Nat.le_trans hro.wl (by omega)) x hxb.1 hxb.2 (w.heap.size + 1) wx hx
          generalize feedP p x = fp at *
          generalize feedR r x = fr at *
          obtain ⟨⟨i, met, ⟨need, has, low, high, val⟩, pend⟩, hpeq⟩ : ∃ p0, p0 = p := ⟨_, rfl⟩
          subst hpeq
          obtain ⟨⟨i', met', ⟨need', has', low', high', val'⟩, pend'⟩, ks'⟩ := fp
          obtain ⟨r', ksr⟩ := fr
          unfold RetFk at hfe
          dsimp only [Pm.v, Pm.cells] at hfe hb
          have HFE := Lib.hid hfe
          have HFR := Lib.hid hfr
          clear hfe hfr hrel hpo hro HR hx
          generalize bs8 pend = s1 at *
          generalize hs' : bs8 pend' = s' at *
          have HS' := Lib.hid hs'
          clear hs'
          obtain ⟨⟨p0, p1, p2, p3, p4, p5, p6, p7⟩, q0, q1, q2, q3, q4, q5, q6, q7⟩ := hb.eight
          have hz0 := kw.size
          have hrl := hbr.lt
          go_upto_region 10 with fail
          go_cut [8, 9] (fun qb v wx => ∃ (g : Nat) (A1 : Option Addr) (n1 c1 : Nat), qb = .pointer (some ⟨g, 0, none⟩) ∧ v = .slice A1 n1 c1 ∧ KsF (From wr.heap.size) wx A1 n1 c1 ks' ∧
            Bx wx g #[.int .i64 i', .bool met', .int .i64 need', .int .i64 has', .int .u8 low', .int .u8 high', .int .i32 val', .string s'] 42 ∧ wr.heap.size ≤ g ∧ Kp wr wx)
          case first =>
            go_wp2_with fail
            have nB : w.heap.size ≠ wr.heap.size := Nat.ne_of_lt hb.lt
            go_region_held3 (fun w' => w'.cell? ⟨w.heap.size, 0, none⟩ = some (.int .i64 i) ∧ w'.cell? ⟨w.heap.size, 1, none⟩ = some (.bool met) ∧ w'.cell? ⟨w.heap.size, 2, none⟩ = some (.int .i64 need) ∧ w'.cell? ⟨w.heap.size, 3, none⟩ = some (.int .i64 has) ∧ w'.cell? ⟨w.heap.size, 4, none⟩ = some (.int .u8 low) ∧ w'.cell? ⟨w.heap.size, 5, none⟩ = some (.int .u8 high) ∧ w'.cell? ⟨w.heap.size, 6, none⟩ = some (.int .i32 val) ∧ w'.cell? ⟨w.heap.size, 7, none⟩ = some (.string s1))
              (first | (with_reducible exact ⟨u0, u1, u2, u3, u4, u5, u6, u7⟩) | (with_reducible exact held8 hbx1 nB _ _ _ _ _ _ _ _) | (with_reducible exact held8 (hbx1.alloc _) nB1 _ _ _ _ _ _ _ _) | go_keep)
              (first | (go_at_call 28; refine (HFE.out _).mono ?_; rintro e w1 ⟨A1, n1, c1, rfl, ho1, hk1⟩; (first | (have k0 : Kp wr w1 := (Kp.refl wr).drew.trans hk1) | (have k0 : Kp wr w1 := ((Kp.refl wr).drew.alloc _).trans hk1)); have hbx1 := hb.kp k0; have nB1 : w.heap.size ≠ w1.heap.size := Nat.ne_of_lt hbx1.lt; have hz1 := k0.size; (first | (have f0 : Bx w1 wr.heap.size _ _ := Bx.kp (Bx.new wr.drew _ _) hk1; have hl0 := f0.lt; obtain ⟨⟨a0, a1, a2, a3, a4, a5, a6, a7⟩, b0, b1, b2, b3, b4, b5, b6, b7⟩ := f0.eight) | skip); obtain ⟨⟨u0, u1, u2, u3, u4, u5, u6, u7⟩, v0, v1, v2, v3, v4, v5, v6, v7⟩ := hbx1.eight; obtain ⟨⟨x0, x1, x2, x3, x4, x5, x6, x7⟩, y0, y1, y2, y3, y4, y5, y6, y7⟩ := Bx.eight (Bx.new w1 #[.int .i64 0, .bool false, .int .i64 0, .int .i64 0, .int .u8 0, .int .u8 0, .int .i32 0, .string ByteArray.empty] 42)))
            all_goals go_wp2_with fail
            all_goals go_meet
            all_goals first
              | (have hf := f0; exact ⟨wr.heap.size, A1, n1, c1, rfl, rfl, KsF.weak (ksf_set8 ho1 (b := wr.heap.size) (fun h => by unfold From at h; simp at h; omega) (.int .i64 i') (.bool met') (.int .i64 need') (.int .i64 has') (.int .u8 low') (.int .u8 high') (.int .i32 val') (.string s')) (fun j _ h => by unfold From at h ⊢; simp at h; omega), bx_set8 f0 (.int .i64 i') (.bool met') (.int .i64 need') (.int .i64 has') (.int .u8 low') (.int .u8 high') (.int .i32 val') (.string s'), Nat.le_refl _, set8_kp k0 (Nat.le_refl _) (.int .i64 i') (.bool met') (.int .i64 need') (.int .i64 has') (.int .u8 low') (.int .u8 high') (.int .i32 val') (.string s')⟩)
              | exact ⟨_, A1, n1, c1, rfl, rfl, KsF.kp (KsF.weak ho1 (fun j _ h => h)) ((Kp.refl _).alloc _), Bx.new _ _ _, hz1, k0.alloc _⟩
          case rest =>
            obtain ⟨g, A1, n1, c1, rfl, rfl, ks1, bg, hg1, k1⟩ := hcut
            have hb1 := hb.kp k1
            have hbr1 := hbr.kp k1
            have kw1 := kw.trans k1
            have hgl := bg.lt
            clear hb hbr kw k1 p0 p1 p2 p3 p4 p5 p6 p7 q0 q1 q2 q3 q4 q5 q6 q7 HFE
            obtain ⟨⟨p0, p1, p2, p3, p4, p5, p6, p7⟩, q0, q1, q2, q3, q4, q5, q6, q7⟩ := hb1.eight
            obtain ⟨⟨r0, r1, r2, r3, r4, r5, r6, r7⟩, _⟩ := bg.eight
            go_upto_region 12 with fail
            have nR : w.heap.size + 1 ≠ w.heap.size := by omega
            have hbS := bx_set8 hb1 (.int .i64 i') (.bool met') (.int .i64 need') (.int .i64 has') (.int .u8 low') (.int .u8 high') (.int .i32 val') (.string s')
            have hbrS := far8 hbr1 nR (.int .i64 i') (.bool met') (.int .i64 need') (.int .i64 has') (.int .u8 low') (.int .u8 high') (.int .i32 val') (.string s')
            have kwS := set8_kp kw1 (b := w.heap.size) (Nat.le_refl _) (.int .i64 i') (.bool met') (.int .i64 need') (.int .i64 has') (.int .u8 low') (.int .u8 high') (.int .i32 val') (.string s')
            clear hb1 hbr1 kw1 bg ks1 p0 p1 p2 p3 p4 p5 p6 p7 q0 q1 q2 q3 q4 q5 q6 q7 r0 r1 r2 r3 r4 r5 r6 r7
            go_wp2_with (go_at_call 29; refine (HFR.out _ hbrS).mono ?_; rintro e w3 ⟨B1, m1, d1, rfl, kb3, br3, gb3⟩)
            go_roundg (s.size - (k + 1))
            case measure => omega
            case rel =>
              refine ⟨k + 1, ⟨i', met', ⟨need', has', low', high', val'⟩, pend'⟩, r', by omega, by go_num, ⟨HBO.out.2, HPO.out, HRO.out⟩, ?_, br3, gb3.kept kwS (by omega)⟩
              show Bx _ _ #[.int .i64 i', .bool met', .int .i64 need', .int .i64 has', .int .u8 low', .int .u8 high', .int .i32 val', .string (bs8 pend')] _
              rw [HS'.out]
              exact gb3.bx hbS (by omega)
        · obtain rfl : k = s.size := by omega
          obtain ⟨hrel, hpo, hro⟩ := HR.out
          have hin := hrel.inn
          have hwt := fun wx : World => waits_any' p wx
          have htk := fun wx : World => tickF_any p wx
          have hti := fun (h : p.inn ≠ 4) => tick_zero h
          have hwp : p.inn = 4 → waitsP p = true := fun h => by unfold waitsP; rw [h]; rfl
          generalize waitsP p = wp at *
          generalize tickP p = tp at *
          obtain ⟨⟨i, met, ⟨need, has, low, high, val⟩, pend⟩, hpeq⟩ : ∃ p0, p0 = p := ⟨_, rfl⟩
          subst hpeq
          obtain ⟨⟨ri, rrow, rwait, rm⟩, hreq⟩ : ∃ p0, p0 = r := ⟨_, rfl⟩
          subst hreq
          dsimp only [Pm.v, Pm.cells, Rm.cells] at hin hb hbr hwt hti hwp htk
          subst hin
          clear hrel hpo hro HR
          generalize bs8 pend = s1 at *
          generalize bs8 rrow = s2 at *
          generalize bs8 rwait = s3 at *
          obtain ⟨⟨p0, p1, p2, p3, p4, p5, p6, p7⟩, q0, q1, q2, q3, q4, q5, q6, q7⟩ := hb.eight
          obtain ⟨⟨r0, r1, r2, r3⟩, _⟩ := hbr.four4
          by_cases h4 : i = 4
          · obtain rfl : wp = true := hwp h4
            have HWT := Lib.hid hwt
            subst h4
            clear hwt htk hti hwp
            go_wp2_with (first
              | (go_at_call 33; refine (HWT.out _).mono ?_; rintro e w5 ⟨rfl, k5⟩)
              | (go_at_call 34; refine (HAW.out _).mono ?_; rintro e w6 ⟨rfl, k6⟩))
            go_ret
            exact ⟨rfl, (kw.trans k5).trans k6⟩
          · obtain ⟨tp1, tks⟩ := tp
            obtain rfl : tp1 = Pm.zero := hti h4
            have hb4 : (i == 4) = false := by simpa using h4
            unfold RetFk at htk
            dsimp only [Pm.v, Pm.cells, Pm.zero, Dm.zero] at htk
            have hbs : bs8 [] = ⟨#[]⟩ := rfl
            rw [hbs] at htk
            have HTK := Lib.hid htk
            have hwz := fun wx : World => waits_any' Pm.zero wx
            have hwz0 : waitsP Pm.zero = false := rfl
            rw [hwz0] at hwz
            dsimp only [Pm.v, Pm.cells, Pm.zero, Dm.zero] at hwz
            rw [hbs] at hwz
            have HWZ := Lib.hid hwz
            clear hwt htk hti hwp hbs hwz hwz0 h4
            go_upto_region 16 with (go_at_call 30; refine (HTK.out _).mono ?_; rintro e w5 ⟨A5, n5, c5, rfl, ks5, k5⟩; have hb5 := hb.kp k5; have kw5 := kw.trans k5; obtain ⟨⟨u0, u1, u2, u3, u4, u5, u6, u7⟩, v0, v1, v2, v3, v4, v5, v6, v7⟩ := hb5.eight)
            have hb6 := bx_set8 hb5 (.int .i64 0) (.bool false) (.int .i64 0) (.int .i64 0) (.int .u8 0) (.int .u8 0) (.int .i32 0) (.string ⟨#[]⟩)
            have kw6 := set8_kp kw5 (b := w.heap.size) (Nat.le_refl _) (.int .i64 0) (.bool false) (.int .i64 0) (.int .i64 0) (.int .u8 0) (.int .u8 0) (.int .i32 0) (.string ⟨#[]⟩)
            unfold set8 at hb6 kw6
            clear hb kw hbr hb5 kw5 ks5 k5 p0 p1 p2 p3 p4 p5 p6 p7 q0 q1 q2 q3 q4 q5 q6 q7 r0 r1 r2 r3 u0 u1 u2 u3 u4 u5 u6 u7 v0 v1 v2 v3 v4 v5 v6 v7
            generalize (((((((w5.setCell ⟨w.heap.size, 0, none⟩ (.int .i64 0)).setCell ⟨w.heap.size, 1, none⟩ (.bool false)).setCell ⟨w.heap.size, 2, none⟩ (.int .i64 0)).setCell ⟨w.heap.size, 3, none⟩ (.int .i64 0)).setCell ⟨w.heap.size, 4, none⟩ (.int .u8 0)).setCell ⟨w.heap.size, 5, none⟩ (.int .u8 0)).setCell ⟨w.heap.size, 6, none⟩ (.int .i32 0)).setCell ⟨w.heap.size, 7, none⟩ (.string ⟨#[]⟩) = w6 at *
            have hb7 := hb6.alloc (.cells #[.int .i64 0, .bool false, .int .i64 0, .int .i64 0, .int .u8 0, .int .u8 0, .int .i32 0, .string ⟨#[]⟩] 42)
            have hz7 := Bx.new w6 #[.int .i64 0, .bool false, .int .i64 0, .int .i64 0, .int .u8 0, .int .u8 0, .int .i32 0, .string ⟨#[]⟩] 42
            have kw7 := kw6.alloc (.cells #[.int .i64 0, .bool false, .int .i64 0, .int .i64 0, .int .u8 0, .int .u8 0, .int .i32 0, .string ⟨#[]⟩] 42)
            have hne7 : w.heap.size < w6.heap.size := hb6.lt
            have hsz7 : (w6.alloc (.cells #[.int .i64 0, .bool false, .int .i64 0, .int .i64 0, .int .u8 0, .int .u8 0, .int .i32 0, .string ⟨#[]⟩] 42)).heap.size = w6.heap.size + 1 := by simp
            have HSZ7 := Lib.hid hsz7
            clear hb6 kw6 hsz7
            go_upto_region 17 with fail
            generalize (w6.alloc (.cells #[.int .i64 0, .bool false, .int .i64 0, .int .i64 0, .int .u8 0, .int .u8 0, .int .i32 0, .string ⟨#[]⟩] 42)) = w7 at *
            generalize w6.heap.size = zb at *
            obtain ⟨⟨p0, p1, p2, p3, p4, p5, p6, p7⟩, q0, q1, q2, q3, q4, q5, q6, q7⟩ := hb7.eight
            go_upto_region 19 with (go_at_call 33; refine (HWZ.out _).mono ?_; rintro e w8 ⟨rfl, k8⟩; have hb8 := hb7.kp k8; have hz8 := hz7.kp k8; have kw8 := kw7.trans k8)
            clear hb7 hz7 kw7 p0 p1 p2 p3 p4 p5 p6 p7 q0 q1 q2 q3 q4 q5 q6 q7
            go_wp2_with fail
            go_loopg [11] m.size (fun gg iv wr => ∃ (k : Nat) (p : Pm), k + gg = m.size ∧ iv = .int .i64 k ∧ Hid (PmOk p k) ∧ Bx wr w.heap.size p.cells 42 ∧ Bx wr zb p.cells 42 ∧ Kp w wr)
            case atStart => exact ⟨0, Pm.zero, by omega, rfl, PmOk.zero, hb8, hz8, kw8⟩
            case round =>
              clear hb8 hz8 kw8
              obtain ⟨k, p, hk, rfl, HR, hb, hz1, kw⟩ := hrel
              by_cases hlt : k < m.size
              · obtain ⟨x, hx⟩ : ∃ x, (by8 m)[k]?.getD 0 = x := ⟨_, rfl⟩
                have hxb : 0 ≤ x ∧ x ≤ 255 := by rw [← hx]; exact by8_bound m k
                have hix := fun wx : World => run_index_str (P := Try.prog) wx 9 m .i64 k k Try.underlying9 rfl hlt x hx
                have hpo := HR.out
                have HPO := Lib.hid (hpo.feed hxb.1 hxb.2)
                have hfe := fun wx : World => feedF_any p hpo.ok hpo.bd (Nat.le_trans hpo.len (by omega)) x hxb.1 hxb.2 wx
                generalize feedP p x = fp at *
                obtain ⟨⟨i, met, ⟨need, has, low, high, val⟩, pend⟩, hpeq⟩ : ∃ p0, p0 = p := ⟨_, rfl⟩
                subst hpeq
                obtain ⟨⟨i', met', ⟨need', has', low', high', val'⟩, pend'⟩, ks'⟩ := fp
                unfold RetFk at hfe
                dsimp only [Pm.v, Pm.cells] at hfe hb hz1
                have HFE := Lib.hid hfe
                clear hfe hpo HR hx
                generalize bs8 pend = s1 at *
                generalize hs' : bs8 pend' = s' at *
                have HS' := Lib.hid hs'
                clear hs'
                obtain ⟨⟨p0, p1, p2, p3, p4, p5, p6, p7⟩, q0, q1, q2, q3, q4, q5, q6, q7⟩ := hb.eight
                have hz0 := kw.size
                have hzl := hz1.lt
                go_upto_region 22 with fail
                go_cut [12, 13] (fun qb v wx => ∃ (g : Nat) (A1 : Option Addr) (n1 c1 : Nat), qb = .pointer (some ⟨g, 0, none⟩) ∧ v = .slice A1 n1 c1 ∧ KsF (From wr.heap.size) wx A1 n1 c1 ks' ∧
                  Bx wx g #[.int .i64 i', .bool met', .int .i64 need', .int .i64 has', .int .u8 low', .int .u8 high', .int .i32 val', .string s'] 42 ∧ wr.heap.size ≤ g ∧ Kp wr wx)
                case first =>
                  go_wp2_with fail
                  have nB : w.heap.size ≠ wr.heap.size := Nat.ne_of_lt hb.lt
                  go_region_held3 (fun w' => w'.cell? ⟨w.heap.size, 0, none⟩ = some (.int .i64 i) ∧ w'.cell? ⟨w.heap.size, 1, none⟩ = some (.bool met) ∧ w'.cell? ⟨w.heap.size, 2, none⟩ = some (.int .i64 need) ∧ w'.cell? ⟨w.heap.size, 3, none⟩ = some (.int .i64 has) ∧ w'.cell? ⟨w.heap.size, 4, none⟩ = some (.int .u8 low) ∧ w'.cell? ⟨w.heap.size, 5, none⟩ = some (.int .u8 high) ∧ w'.cell? ⟨w.heap.size, 6, none⟩ = some (.int .i32 val) ∧ w'.cell? ⟨w.heap.size, 7, none⟩ = some (.string s1))
                    (first | (with_reducible exact ⟨u0, u1, u2, u3, u4, u5, u6, u7⟩) | (with_reducible exact held8 hbx1 nB _ _ _ _ _ _ _ _) | (with_reducible exact held8 (hbx1.alloc _) nB1 _ _ _ _ _ _ _ _) | go_keep)
                    (first | (go_at_call 28; refine (HFE.out _).mono ?_; rintro e w1 ⟨A1, n1, c1, rfl, ho1, hk1⟩; (first | (have k0 : Kp wr w1 := (Kp.refl wr).drew.trans hk1) | (have k0 : Kp wr w1 := ((Kp.refl wr).drew.alloc _).trans hk1)); have hbx1 := hb.kp k0; have nB1 : w.heap.size ≠ w1.heap.size := Nat.ne_of_lt hbx1.lt; have hz1 := k0.size; (first | (have f0 : Bx w1 wr.heap.size _ _ := Bx.kp (Bx.new wr.drew _ _) hk1; have hl0 := f0.lt; obtain ⟨⟨a0, a1, a2, a3, a4, a5, a6, a7⟩, b0, b1, b2, b3, b4, b5, b6, b7⟩ := f0.eight) | skip); obtain ⟨⟨u0, u1, u2, u3, u4, u5, u6, u7⟩, v0, v1, v2, v3, v4, v5, v6, v7⟩ := hbx1.eight; obtain ⟨⟨x0, x1, x2, x3, x4, x5, x6, x7⟩, y0, y1, y2, y3, y4, y5, y6, y7⟩ := Bx.eight (Bx.new w1 #[.int .i64 0, .bool false, .int .i64 0, .int .i64 0, .int .u8 0, .int .u8 0, .int .i32 0, .string ByteArray.empty] 42)))
                  all_goals go_wp2_with fail
                  all_goals go_meet
                  all_goals first
                    | (have hf := f0; exact ⟨wr.heap.size, A1, n1, c1, rfl, rfl, KsF.weak (ksf_set8 ho1 (b := wr.heap.size) (fun h => by unfold From at h; simp at h; omega) (.int .i64 i') (.bool met') (.int .i64 need') (.int .i64 has') (.int .u8 low') (.int .u8 high') (.int .i32 val') (.string s')) (fun j _ h => by unfold From at h ⊢; simp at h; omega), bx_set8 f0 (.int .i64 i') (.bool met') (.int .i64 need') (.int .i64 has') (.int .u8 low') (.int .u8 high') (.int .i32 val') (.string s'), Nat.le_refl _, set8_kp k0 (Nat.le_refl _) (.int .i64 i') (.bool met') (.int .i64 need') (.int .i64 has') (.int .u8 low') (.int .u8 high') (.int .i32 val') (.string s')⟩)
                    | exact ⟨_, A1, n1, c1, rfl, rfl, KsF.kp (KsF.weak ho1 (fun j _ h => h)) ((Kp.refl _).alloc _), Bx.new _ _ _, hz1, k0.alloc _⟩
                case rest =>
                  obtain ⟨g, A1, n1, c1, rfl, rfl, ks1, bg, hg1, k1⟩ := hcut
                  obtain ⟨wa, hwa⟩ : ∃ wa, wa = wc := ⟨_, rfl⟩
                  subst hwa
                  have hbA := hb.kp k1
                  have hzA := hz1.kp k1
                  have kwA := kw.trans k1
                  have hgl := bg.lt
                  clear hb hz1 kw k1 p0 p1 p2 p3 p4 p5 p6 p7 q0 q1 q2 q3 q4 q5 q6 q7
                  obtain ⟨⟨p0, p1, p2, p3, p4, p5, p6, p7⟩, q0, q1, q2, q3, q4, q5, q6, q7⟩ := hzA.eight
                  have hz0a := kwA.size
                  go_upto_region 23 with fail
                  go_cut [14, 15] (fun qb v wx => ∃ (g : Nat) (A1 : Option Addr) (n1 c1 : Nat), qb = .pointer (some ⟨g, 0, none⟩) ∧ v = .slice A1 n1 c1 ∧ KsF (From wa.heap.size) wx A1 n1 c1 ks' ∧
                    Bx wx g #[.int .i64 i', .bool met', .int .i64 need', .int .i64 has', .int .u8 low', .int .u8 high', .int .i32 val', .string s'] 42 ∧ wa.heap.size ≤ g ∧ Kp wa wx)
                  case first =>
                    go_wp2_with fail
                    have nB : zb ≠ wa.heap.size := Nat.ne_of_lt hzA.lt
                    go_region_held3 (fun w' => w'.cell? ⟨zb, 0, none⟩ = some (.int .i64 i) ∧ w'.cell? ⟨zb, 1, none⟩ = some (.bool met) ∧ w'.cell? ⟨zb, 2, none⟩ = some (.int .i64 need) ∧ w'.cell? ⟨zb, 3, none⟩ = some (.int .i64 has) ∧ w'.cell? ⟨zb, 4, none⟩ = some (.int .u8 low) ∧ w'.cell? ⟨zb, 5, none⟩ = some (.int .u8 high) ∧ w'.cell? ⟨zb, 6, none⟩ = some (.int .i32 val) ∧ w'.cell? ⟨zb, 7, none⟩ = some (.string s1))
                      (first | (with_reducible exact ⟨u0, u1, u2, u3, u4, u5, u6, u7⟩) | (with_reducible exact held8 hbx1 nB _ _ _ _ _ _ _ _) | (with_reducible exact held8 (hbx1.alloc _) nB1 _ _ _ _ _ _ _ _) | go_keep)
                      (first | (go_at_call 28; refine (HFE.out _).mono ?_; rintro e w1 ⟨A1, n1, c1, rfl, ho1, hk1⟩; (first | (have k0 : Kp wa w1 := (Kp.refl wa).drew.trans hk1) | (have k0 : Kp wa w1 := ((Kp.refl wa).drew.alloc _).trans hk1)); have hbx1 := hzA.kp k0; have nB1 : zb ≠ w1.heap.size := Nat.ne_of_lt hbx1.lt; have hz1 := k0.size; (first | (have f0 : Bx w1 wa.heap.size _ _ := Bx.kp (Bx.new wa.drew _ _) hk1; have hl0 := f0.lt; obtain ⟨⟨a0, a1, a2, a3, a4, a5, a6, a7⟩, b0, b1, b2, b3, b4, b5, b6, b7⟩ := f0.eight) | skip); obtain ⟨⟨u0, u1, u2, u3, u4, u5, u6, u7⟩, v0, v1, v2, v3, v4, v5, v6, v7⟩ := hbx1.eight; obtain ⟨⟨x0, x1, x2, x3, x4, x5, x6, x7⟩, y0, y1, y2, y3, y4, y5, y6, y7⟩ := Bx.eight (Bx.new w1 #[.int .i64 0, .bool false, .int .i64 0, .int .i64 0, .int .u8 0, .int .u8 0, .int .i32 0, .string ByteArray.empty] 42)))
                    all_goals go_wp2_with fail
                    all_goals go_meet
                    all_goals first
                      | (have hf := f0; exact ⟨wa.heap.size, A1, n1, c1, rfl, rfl, KsF.weak (ksf_set8 ho1 (b := wa.heap.size) (fun h => by unfold From at h; simp at h; omega) (.int .i64 i') (.bool met') (.int .i64 need') (.int .i64 has') (.int .u8 low') (.int .u8 high') (.int .i32 val') (.string s')) (fun j _ h => by unfold From at h ⊢; simp at h; omega), bx_set8 f0 (.int .i64 i') (.bool met') (.int .i64 need') (.int .i64 has') (.int .u8 low') (.int .u8 high') (.int .i32 val') (.string s'), Nat.le_refl _, set8_kp k0 (Nat.le_refl _) (.int .i64 i') (.bool met') (.int .i64 need') (.int .i64 has') (.int .u8 low') (.int .u8 high') (.int .i32 val') (.string s')⟩)
                      | exact ⟨_, A1, n1, c1, rfl, rfl, KsF.kp (KsF.weak ho1 (fun j _ h => h)) ((Kp.refl _).alloc _), Bx.new _ _ _, hz1, k0.alloc _⟩
                  case rest =>
                    obtain ⟨g2, A2, n2, c2, rfl, rfl, ks2, bg2, hg2, k2⟩ := hcut
                    have hbB := hbA.kp k2
                    have hzB := hzA.kp k2
                    have bgB := bg.kp k2
                    have ks1B := ks1.kp k2
                    have kwB := kwA.trans k2
                    clear hbA hzA bg ks1 kwA k2 p0 p1 p2 p3 p4 p5 p6 p7 q0 q1 q2 q3 q4 q5 q6 q7 HFE
                    obtain ⟨⟨p0, p1, p2, p3, p4, p5, p6, p7⟩, q0, q1, q2, q3, q4, q5, q6, q7⟩ := hbB.eight
                    obtain ⟨⟨r0, r1, r2, r3, r4, r5, r6, r7⟩, _⟩ := bgB.eight
                    have n1' : zb ≠ w.heap.size := by omega
                    have n2' : g2 ≠ w.heap.size := by omega
                    have n3' : w.heap.size ≠ zb := by omega
                    go_upto_region 25 with fail
                    have hb5 := bx_set8 hbB (.int .i64 i') (.bool met') (.int .i64 need') (.int .i64 has') (.int .u8 low') (.int .u8 high') (.int .i32 val') (.string s')
                    have hz5 := far8 hzB n1' (.int .i64 i') (.bool met') (.int .i64 need') (.int .i64 has') (.int .u8 low') (.int .u8 high') (.int .i32 val') (.string s')
                    have bg5 := far8 bg2 n2' (.int .i64 i') (.bool met') (.int .i64 need') (.int .i64 has') (.int .u8 low') (.int .u8 high') (.int .i32 val') (.string s')
                    have ksa5 := ksf_set8 ks1B (b := w.heap.size) (fun h => by unfold From at h; omega) (.int .i64 i') (.bool met') (.int .i64 need') (.int .i64 has') (.int .u8 low') (.int .u8 high') (.int .i32 val') (.string s')
                    have ksb5 := ksf_set8 ks2 (b := w.heap.size) (fun h => by unfold From at h; omega) (.int .i64 i') (.bool met') (.int .i64 need') (.int .i64 has') (.int .u8 low') (.int .u8 high') (.int .i32 val') (.string s')
                    have kw5 := set8_kp kwB (b := w.heap.size) (Nat.le_refl _) (.int .i64 i') (.bool met') (.int .i64 need') (.int .i64 has') (.int .u8 low') (.int .u8 high') (.int .i32 val') (.string s')
                    unfold set8 at hb5 hz5 bg5 ksa5 ksb5 kw5
                    clear hbB hzB bgB ks1B kwB bg2 ks2 p0 p1 p2 p3 p4 p5 p6 p7 q0 q1 q2 q3 q4 q5 q6 q7 r0 r1 r2 r3 r4 r5 r6 r7
                    generalize (((((((wc.setCell ⟨w.heap.size, 0, none⟩ (.int .i64 i')).setCell ⟨w.heap.size, 1, none⟩ (.bool met')).setCell ⟨w.heap.size, 2, none⟩ (.int .i64 need')).setCell ⟨w.heap.size, 3, none⟩ (.int .i64 has')).setCell ⟨w.heap.size, 4, none⟩ (.int .u8 low')).setCell ⟨w.heap.size, 5, none⟩ (.int .u8 high')).setCell ⟨w.heap.size, 6, none⟩ (.int .i32 val')).setCell ⟨w.heap.size, 7, none⟩ (.string s') = w5 at *
                    obtain ⟨⟨p0, p1, p2, p3, p4, p5, p6, p7⟩, q0, q1, q2, q3, q4, q5, q6, q7⟩ := hz5.eight
                    obtain ⟨⟨r0, r1, r2, r3, r4, r5, r6, r7⟩, _⟩ := bg5.eight
                    go_upto_region 26 with fail
                    have hb6 := far8 hb5 n3' (.int .i64 i') (.bool met') (.int .i64 need') (.int .i64 has') (.int .u8 low') (.int .u8 high') (.int .i32 val') (.string s')
                    have hz6 := bx_set8 hz5 (.int .i64 i') (.bool met') (.int .i64 need') (.int .i64 has') (.int .u8 low') (.int .u8 high') (.int .i32 val') (.string s')
                    have ksa6 := ksf_set8 ksa5 (b := zb) (fun h => by unfold From at h; omega) (.int .i64 i') (.bool met') (.int .i64 need') (.int .i64 has') (.int .u8 low') (.int .u8 high') (.int .i32 val') (.string s')
                    have ksb6 := ksf_set8 ksb5 (b := zb) (fun h => by unfold From at h; omega) (.int .i64 i') (.bool met') (.int .i64 need') (.int .i64 has') (.int .u8 low') (.int .u8 high') (.int .i32 val') (.string s')
                    have kw6' := set8_kp kw5 (b := zb) (by omega) (.int .i64 i') (.bool met') (.int .i64 need') (.int .i64 has') (.int .u8 low') (.int .u8 high') (.int .i32 val') (.string s')
                    unfold set8 at hb6 hz6 ksa6 ksb6 kw6'
                    clear hb5 hz5 bg5 ksa5 ksb5 kw5 p0 p1 p2 p3 p4 p5 p6 p7 q0 q1 q2 q3 q4 q5 q6 q7 r0 r1 r2 r3 r4 r5 r6 r7
                    generalize (((((((w5.setCell ⟨zb, 0, none⟩ (.int .i64 i')).setCell ⟨zb, 1, none⟩ (.bool met')).setCell ⟨zb, 2, none⟩ (.int .i64 need')).setCell ⟨zb, 3, none⟩ (.int .i64 has')).setCell ⟨zb, 4, none⟩ (.int .u8 low')).setCell ⟨zb, 5, none⟩ (.int .u8 high')).setCell ⟨zb, 6, none⟩ (.int .i32 val')).setCell ⟨zb, 7, none⟩ (.string s') = w6' at *
                    have HSM := Lib.hid (keysSame _ _ A1 A2 n1 c1 n2 c2 ks' _ ksa6 ksb6)
                    clear ksa6 ksb6
                    go_wp2_with (go_at_call 32; refine HSM.out.mono ?_; rintro e w9 ⟨rfl, d9⟩)
                    go_roundg (m.size - (k + 1))
                    case measure => omega
                    case rel =>
                      refine ⟨k + 1, ⟨i', met', ⟨need', has', low', high', val'⟩, pend'⟩, by omega, by go_num, HPO.out, ?_, ?_, kw6'.trans d9.kp⟩
                      · show Bx _ _ #[.int .i64 i', .bool met', .int .i64 need', .int .i64 has', .int .u8 low', .int .u8 high', .int .i32 val', .string (bs8 pend')] _
                        rw [HS'.out]
                        exact hb6.kp d9.kp
                      · show Bx _ _ #[.int .i64 i', .bool met', .int .i64 need', .int .i64 has', .int .u8 low', .int .u8 high', .int .i32 val', .string (bs8 pend')] _
                        rw [HS'.out]
                        exact hz6.kp d9.kp
              · obtain rfl : k = m.size := by omega
                go_wp2_with (go_at_call 34; refine (HAW.out _).mono ?_; rintro e w9 ⟨rfl, k9⟩)
                go_ret
                exact ⟨rfl, kw.trans k9⟩

/-- KeysRests: the walk. -/
theorem keysRests_walk (s : ByteArray) (_hs : s.size ≤ maxLen) (m : ByteArray) (_hm : m.size ≤ maxLen) (w : World) : Calls Try.prog 12 #[.string s, .string m] w fun e w' => e = .returned (.bool true) ∧ Kp w w' := by
  by_cases h : 200 < s.size
  · by_cases h2 : 100 < m.size
    · exact keysRests_walk' s _ m _ (.inl ⟨h, rfl⟩) (.inl ⟨h2, rfl⟩) w
    · exact keysRests_walk' s _ m _ (.inl ⟨h, rfl⟩) (.inr ⟨by omega, rfl⟩) w
  · by_cases h2 : 100 < m.size
    · exact keysRests_walk' s _ m _ (.inr ⟨by omega, rfl⟩) (.inl ⟨h2, rfl⟩) w
    · exact keysRests_walk' s _ m _ (.inr ⟨by omega, rfl⟩) (.inr ⟨by omega, rfl⟩) w
end Go.Proofs.Ytmeefngkbcfpeaa
