/-
  KeysPlays: whatever bytes and ticks come, both parsers tell the same. No conditions but that the events lie in memory.
-/
import Derived.Test.YtmeefngkbcfpeaaKeA
import Derived.Lib.QuietBelow
namespace Go.Proofs.Ytmeefngkbcfpeaa
open Go.RowKit

theorem keysSameK (F G : Nat → Prop) (A B : Option Addr) (n c m d : Nat) (ks : List Ky) (w : World) (ha : KsF F w A n c ks) (hb : KsF G w B m d ks) :
    Calls Try.prog 32 #[.slice A n c, .slice B m d] w fun e w' => e = .returned (.bool true) ∧ Kp w w' :=
  (keysSame F G A B n c m d ks w ha hb).mono fun _ _ ⟨he, hd⟩ => ⟨he, hd.kp⟩
/-- In the midst of a round: both have taken the event. -/
structure KMid (w wx : World) (gq : Nat) (p q : Pm) (r : Rm) (A : Option Addr) (n c : Nat) (B : Option Addr) (m d : Nat) (ks : List Ky) : Prop where
  bp : Bx wx w.heap.size p.cells 42
  bq : Bx wx gq q.cells 42
  br : Bx wx (w.heap.size + 1) r.cells 45
  ka : KsF (From (gq + 1)) wx A n c ks
  kb : KsF (From (gq + 1)) wx B m d ks
  kp : Kp w wx
theorem cell_set8 {w : World} {g : Nat} {a : Addr} {v : Value} (ha : w.cell? a = some v) (hg : a.block ≠ g) (x0 x1 x2 x3 x4 x5 x6 x7 : Value) : (set8 w g x0 x1 x2 x3 x4 x5 x6 x7).cell? a = some v := by
  have hs : ∀ (wx : World) (j : Nat) (x : Value), wx.cell? a = some v → (wx.setCell ⟨g, j, none⟩ x).cell? a = some v := fun wx j x h => (World.cell?_of_block (Below.heap_setCell wx ⟨g, j, none⟩ x a.block hg)).trans h
  exact hs _ 7 _ (hs _ 6 _ (hs _ 5 _ (hs _ 4 _ (hs _ 3 _ (hs _ 2 _ (hs _ 1 _ (hs _ 0 _ ha)))))))
theorem held9 {w : World} {b g : Nat} {t : TypeId} {y0 y1 y2 y3 y4 y5 y6 y7 : Value} (h : Bx w b #[y0, y1, y2, y3, y4, y5, y6, y7] t) (hne : b ≠ g) {a : Addr} {v : Value} (ha : w.cell? a = some v) (hg : a.block ≠ g) (x0 x1 x2 x3 x4 x5 x6 x7 : Value) :
    ((((((((w.setCell ⟨g, 0, none⟩ x0).setCell ⟨g, 1, none⟩ x1).setCell ⟨g, 2, none⟩ x2).setCell ⟨g, 3, none⟩ x3).setCell ⟨g, 4, none⟩ x4).setCell ⟨g, 5, none⟩ x5).setCell ⟨g, 6, none⟩ x6).setCell ⟨g, 7, none⟩ x7).cell? ⟨b, 0, none⟩ = some y0 ∧ ((((((((w.setCell ⟨g, 0, none⟩ x0).setCell ⟨g, 1, none⟩ x1).setCell ⟨g, 2, none⟩ x2).setCell ⟨g, 3, none⟩ x3).setCell ⟨g, 4, none⟩ x4).setCell ⟨g, 5, none⟩ x5).setCell ⟨g, 6, none⟩ x6).setCell ⟨g, 7, none⟩ x7).cell? ⟨b, 1, none⟩ = some y1 ∧ ((((((((w.setCell ⟨g, 0, none⟩ x0).setCell ⟨g, 1, none⟩ x1).setCell ⟨g, 2, none⟩ x2).setCell ⟨g, 3, none⟩ x3).setCell ⟨g, 4, none⟩ x4).setCell ⟨g, 5, none⟩ x5).setCell ⟨g, 6, none⟩ x6).setCell ⟨g, 7, none⟩ x7).cell? ⟨b, 2, none⟩ = some y2 ∧ ((((((((w.setCell ⟨g, 0, none⟩ x0).setCell ⟨g, 1, none⟩ x1).setCell ⟨g, 2, none⟩ x2).setCell ⟨g, 3, none⟩ x3).setCell ⟨g, 4, none⟩ x4).setCell ⟨g, 5, none⟩ x5).setCell ⟨g, 6, none⟩ x6).setCell ⟨g, 7, none⟩ x7).cell? ⟨b, 3, none⟩ = some y3 ∧ ((((((((w.setCell ⟨g, 0, none⟩ x0).setCell ⟨g, 1, none⟩ x1).setCell ⟨g, 2, none⟩ x2).setCell ⟨g, 3, none⟩ x3).setCell ⟨g, 4, none⟩ x4).setCell ⟨g, 5, none⟩ x5).setCell ⟨g, 6, none⟩ x6).setCell ⟨g, 7, none⟩ x7).cell? ⟨b, 4, none⟩ = some y4 ∧ ((((((((w.setCell ⟨g, 0, none⟩ x0).setCell ⟨g, 1, none⟩ x1).setCell ⟨g, 2, none⟩ x2).setCell ⟨g, 3, none⟩ x3).setCell ⟨g, 4, none⟩ x4).setCell ⟨g, 5, none⟩ x5).setCell ⟨g, 6, none⟩ x6).setCell ⟨g, 7, none⟩ x7).cell? ⟨b, 5, none⟩ = some y5 ∧ ((((((((w.setCell ⟨g, 0, none⟩ x0).setCell ⟨g, 1, none⟩ x1).setCell ⟨g, 2, none⟩ x2).setCell ⟨g, 3, none⟩ x3).setCell ⟨g, 4, none⟩ x4).setCell ⟨g, 5, none⟩ x5).setCell ⟨g, 6, none⟩ x6).setCell ⟨g, 7, none⟩ x7).cell? ⟨b, 6, none⟩ = some y6 ∧ ((((((((w.setCell ⟨g, 0, none⟩ x0).setCell ⟨g, 1, none⟩ x1).setCell ⟨g, 2, none⟩ x2).setCell ⟨g, 3, none⟩ x3).setCell ⟨g, 4, none⟩ x4).setCell ⟨g, 5, none⟩ x5).setCell ⟨g, 6, none⟩ x6).setCell ⟨g, 7, none⟩ x7).cell? ⟨b, 7, none⟩ = some y7 ∧ ((((((((w.setCell ⟨g, 0, none⟩ x0).setCell ⟨g, 1, none⟩ x1).setCell ⟨g, 2, none⟩ x2).setCell ⟨g, 3, none⟩ x3).setCell ⟨g, 4, none⟩ x4).setCell ⟨g, 5, none⟩ x5).setCell ⟨g, 6, none⟩ x6).setCell ⟨g, 7, none⟩ x7).cell? a = some v := by
  have k := (far8 h hne x0 x1 x2 x3 x4 x5 x6 x7).eight.1
  have k2 := cell_set8 ha hg x0 x1 x2 x3 x4 x5 x6 x7
  unfold set8 at k k2
  exact ⟨k.1, k.2.1, k.2.2.1, k.2.2.2.1, k.2.2.2.2.1, k.2.2.2.2.2.1, k.2.2.2.2.2.2.1, k.2.2.2.2.2.2.2, k2⟩
theorem ksf_set8 {w : World} {F : Nat → Prop} {A : Option Addr} {n c : Nat} {ks : List Ky} (h : KsF F w A n c ks) {b : Nat} (hb : ¬ F b) (x0 x1 x2 x3 x4 x5 x6 x7 : Value) : KsF F (set8 w b x0 x1 x2 x3 x4 x5 x6 x7) A n c ks :=
  (((((((h.set (p := ⟨_, _, _⟩) hb x0).set (p := ⟨_, _, _⟩) hb x1).set (p := ⟨_, _, _⟩) hb x2).set (p := ⟨_, _, _⟩) hb x3).set (p := ⟨_, _, _⟩) hb x4).set (p := ⟨_, _, _⟩) hb x5).set (p := ⟨_, _, _⟩) hb x6).set (p := ⟨_, _, _⟩) hb x7

set_option maxRecDepth 100000 in
set_option maxHeartbeats 6400000 in
theorem keysPlays_walk' (A : Option Addr) (n c : Nat) (l : List Int) (w : World) (hl : Sl w Any 1 A n c (l.map (Value.int .i64))) :
    Calls Try.prog 9 #[.slice A n c] w fun e w' => e = .returned (.bool true) ∧ Kp w w' := by
  have hlen : l.length = n := by have := hl.len; simp at this; exact this
  have HL := Lib.hid hlen
  have hle := hl.le
  have hcap := hl.cap
  unfold maxLen at hcap
  clear hlen
  have bp0 := (Bx.new w Pm.zero.cells 42).alloc (.cells Rm.zero.cells 45)
  have br0 := Bx.new (w.alloc (.cells Pm.zero.cells 42)) Rm.zero.cells 45
  rw [World.size_alloc] at br0
  have kp0 := ((Kp.refl w).alloc (.cells Pm.zero.cells 42)).alloc (.cells Rm.zero.cells 45)
  go_enter Try.func9, Try.ntmps9
  go_wp2_with fail
  go_loopg [5] n (fun gg iv wr => ∃ (k : Nat) (p : Pm) (r : Rm), k + gg = n ∧ k ≤ 400 ∧ iv = .int .i64 k ∧ Hid (Rel p r ∧ PmOk p k ∧ RmOk r k) ∧
    Bx wr w.heap.size p.cells 42 ∧ Bx wr (w.heap.size + 1) r.cells 45 ∧ Kp w wr)
  case atStart => exact ⟨0, Pm.zero, Rm.zero, by omega, by omega, rfl, ⟨Rel.zero, PmOk.zero, RmOk.zero⟩, bp0, br0, kp0⟩
  case round =>
    clear bp0 br0 kp0
    obtain ⟨k, p, r, hk, hk4, rfl, HR, hb, hbr, kw⟩ := hrel
    by_cases hend : k < n ∧ k < 400
    · obtain ⟨hlt, hlt4⟩ := hend
      have hz0 := hbr.lt
      have hb1 := hb.alloc (.cells #[.int .i64 0, .bool false, .int .i64 0, .int .i64 0, .int .u8 0, .int .u8 0, .int .i32 0, .string ⟨#[]⟩] 42)
      have hbr1 := hbr.alloc (.cells #[.int .i64 0, .bool false, .int .i64 0, .int .i64 0, .int .u8 0, .int .u8 0, .int .i32 0, .string ⟨#[]⟩] 42)
      have bq1 := Bx.new wr #[.int .i64 0, .bool false, .int .i64 0, .int .i64 0, .int .u8 0, .int .u8 0, .int .i32 0, .string ⟨#[]⟩] 42
      have kw1 := kw.alloc (.cells #[.int .i64 0, .bool false, .int .i64 0, .int .i64 0, .int .u8 0, .int .u8 0, .int .i32 0, .string ⟨#[]⟩] 42)
      obtain ⟨ad, u, rfl, hu, hcw⟩ := Sl.get hl hlt
      obtain ⟨e0, he0⟩ : ∃ e0, l[k]? = some e0 := ⟨l[k]'(by rw [HL.out]; exact hlt), List.getElem?_eq_getElem _⟩
      rw [List.getElem?_map, he0] at hu
      obtain rfl : u = .int .i64 e0 := by simpa using hu.symm
      have hadl := World.block_lt_of_cell? w _ hcw
      have hc1 := (kw1.cell hadl).trans hcw
      clear hu he0 hb hbr kw
      have hz1 : (wr.alloc (.cells #[.int .i64 0, .bool false, .int .i64 0, .int .i64 0, .int .u8 0, .int .u8 0, .int .i32 0, .string ⟨#[]⟩] 42)).heap.size = wr.heap.size + 1 := by simp
      have HZ1 := Lib.hid hz1
      clear hz1
      go_upto_region 8 with fail
      generalize (wr.alloc (.cells #[.int .i64 0, .bool false, .int .i64 0, .int .i64 0, .int .u8 0, .int .u8 0, .int .i32 0, .string ⟨#[]⟩] 42)) = w1 at *
      generalize wr.heap.size = gq at *
      obtain ⟨kb, hkb⟩ : ∃ kb, kb = decide (0 ≤ e0 ∧ e0 ≤ 255) := ⟨_, rfl⟩
      have HKB := Lib.hid hkb
      clear hkb
      go_cut [32] (fun v wx => v = .bool kb ∧ wx = w1)
      case first =>
        by_cases hk0 : 0 ≤ e0
        · by_cases hk2 : e0 ≤ 255
          · go_wp2_with fail
            go_meet
            exact ⟨by rw [HKB.out, decide_eq_true ⟨hk0, hk2⟩], rfl⟩
          · go_wp2_with fail
            go_meet
            exact ⟨by rw [HKB.out, decide_eq_false (by omega)], rfl⟩
        · go_wp2_with fail
          go_meet
          exact ⟨by rw [HKB.out, decide_eq_false (by omega)], rfl⟩
      case rest =>
        obtain ⟨rfl, hwx⟩ := hcut
        subst wc
        go_upto_if 32 with fail
        go_cut [7, 8] (fun av bv wx => ∃ (q : Pm) (r' : Rm) (ks : List Ky) (A1 : Option Addr) (n1 c1 : Nat) (B1 : Option Addr) (m1 d1 : Nat), av = .slice A1 n1 c1 ∧ bv = .slice B1 m1 d1 ∧
          Hid (Rel q r' ∧ PmOk q (k + 1) ∧ RmOk r' (k + 1)) ∧ KMid w wx gq p q r' A1 n1 c1 B1 m1 d1 ks)
        case first =>
          cases kb with
          | true =>
            obtain ⟨he1, he2⟩ := of_decide_eq_true HKB.out.symm
            obtain ⟨hrel, hpo, hro⟩ := HR.out
            have HBO := Lib.hid (feed_both hrel e0)
            have HPO := Lib.hid (hpo.feed he1 he2)
            have HRO := Lib.hid (hro.feed he1 he2)
            have hfe := fun wx : World => feedF_any p hpo.ok hpo.bd (Nat.le_trans hpo.len (by omega)) e0 he1 he2 wx
            have hfr := fun (wx : World) (hx : Bx wx (w.heap.size + 1) r.cells 45) => refFeed_any r hro.rb (Nat.le_trans hro.rl (by omega)) hro.wb (Nat.le_trans hro.wl (by omega)) e0 he1 he2 (w.heap.size + 1) wx hx
            generalize feedP p e0 = fp at *
            generalize feedR r e0 = fr at *
            have hwr : IntKind.u8.wrap e0 = e0 := by simp [IntKind.wrap, IntKind.signed, IntKind.bits]; omega
            obtain ⟨⟨i, met, ⟨need, has, low, high, val⟩, pend⟩, hpeq⟩ : ∃ p0, p0 = p := ⟨_, rfl⟩
            subst hpeq
            obtain ⟨⟨i', met', ⟨need', has', low', high', val'⟩, pend'⟩, ks'⟩ := fp
            obtain ⟨r', ksr⟩ := fr
            unfold RetFk at hfe
            dsimp only [Pm.v, Pm.cells] at hfe hb1
            have HFE := Lib.hid hfe
            have HFR := Lib.hid hfr
            clear hfe hfr hrel hpo hro HR
            generalize hs : bs8 pend = s at *
            have HS := Lib.hid hs
            generalize hs' : bs8 pend' = s' at *
            have HS' := Lib.hid hs'
            clear hs hs'
            obtain ⟨⟨p0, p1, p2, p3, p4, p5, p6, p7⟩, q0, q1, q2, q3, q4, q5, q6, q7⟩ := hb1.eight
            obtain ⟨⟨r0, r1, r2, r3, r4, r5, r6, r7⟩, t0, t1, t2, t3, t4, t5, t6, t7⟩ := bq1.eight
            have nB : w.heap.size ≠ gq := by omega
            have nR : w.heap.size + 1 ≠ gq := by omega
            have nA : (ad.add k).block ≠ gq := by omega
            go_wp2_with fail
            go_region_held3 (fun w' => w'.cell? ⟨w.heap.size, 0, none⟩ = some (.int .i64 i) ∧ w'.cell? ⟨w.heap.size, 1, none⟩ = some (.bool met) ∧ w'.cell? ⟨w.heap.size, 2, none⟩ = some (.int .i64 need) ∧ w'.cell? ⟨w.heap.size, 3, none⟩ = some (.int .i64 has) ∧ w'.cell? ⟨w.heap.size, 4, none⟩ = some (.int .u8 low) ∧ w'.cell? ⟨w.heap.size, 5, none⟩ = some (.int .u8 high) ∧ w'.cell? ⟨w.heap.size, 6, none⟩ = some (.int .i32 val) ∧ w'.cell? ⟨w.heap.size, 7, none⟩ = some (.string s) ∧ w'.cell? (ad.add k) = some (.int .i64 e0))
              (first | (with_reducible exact ⟨p0, p1, p2, p3, p4, p5, p6, p7, hc1⟩) | (with_reducible exact ⟨u0, u1, u2, u3, u4, u5, u6, u7, hc2⟩) | (with_reducible exact held9 hb2 nB hc2 nA _ _ _ _ _ _ _ _) | go_keep)
              ((go_at_call 28; refine (HFE.out _).mono ?_; rintro e w2 ⟨A1, n1, c1, rfl, ks1', hk2'⟩; have hk2 : Kp w1 w2 := (by first | exact hk2' | exact (Kp.refl w1).drew.trans hk2'); have ks1 : KsF (From w1.heap.size) w2 A1 n1 c1 ks' := ks1'; have hb2 := hb1.kp hk2; have hbr2 := hbr1.kp hk2; have bq2 := bq1.kp hk2; have kw2 := kw1.trans hk2; have hc2 := (kw2.cell hadl).trans hcw; have hl2 := bq2.lt; clear ks1' hk2' hk2; obtain ⟨⟨u0, u1, u2, u3, u4, u5, u6, u7⟩, v0, v1, v2, v3, v4, v5, v6, v7⟩ := hb2.eight; obtain ⟨⟨x0, x1, x2, x3, x4, x5, x6, x7⟩, y0, y1, y2, y3, y4, y5, y6, y7⟩ := bq2.eight))
            rw [HZ1.out] at ks1
            have hbS := far8 hb2 nB (.int .i64 i') (.bool met') (.int .i64 need') (.int .i64 has') (.int .u8 low') (.int .u8 high') (.int .i32 val') (.string s')
            have hbrS := far8 hbr2 nR (.int .i64 i') (.bool met') (.int .i64 need') (.int .i64 has') (.int .u8 low') (.int .u8 high') (.int .i32 val') (.string s')
            have bqS := bx_set8 bq2 (.int .i64 i') (.bool met') (.int .i64 need') (.int .i64 has') (.int .u8 low') (.int .u8 high') (.int .i32 val') (.string s')
            have ksS := ksf_set8 ks1 (b := gq) (fun h => by unfold From at h; omega) (.int .i64 i') (.bool met') (.int .i64 need') (.int .i64 has') (.int .u8 low') (.int .u8 high') (.int .i32 val') (.string s')
            have kwS := set8_kp kw2 (b := gq) (by omega) (.int .i64 i') (.bool met') (.int .i64 need') (.int .i64 has') (.int .u8 low') (.int .u8 high') (.int .i32 val') (.string s')
            have hcS := cell_set8 hc2 nA (.int .i64 i') (.bool met') (.int .i64 need') (.int .i64 has') (.int .u8 low') (.int .u8 high') (.int .i32 val') (.string s')
            have hlS := bqS.lt
            clear hb1 hbr1 bq1 kw1 hc1 hb2 hbr2 bq2 ks1 kw2 hc2 hl2 p0 p1 p2 p3 p4 p5 p6 p7 q0 q1 q2 q3 q4 q5 q6 q7 r0 r1 r2 r3 r4 r5 r6 r7 t0 t1 t2 t3 t4 t5 t6 t7 u0 u1 u2 u3 u4 u5 u6 u7 v0 v1 v2 v3 v4 v5 v6 v7 x0 x1 x2 x3 x4 x5 x6 x7 y0 y1 y2 y3 y4 y5 y6 y7
            unfold set8 at hbS hbrS bqS ksS kwS hcS hlS
            go_wp2_with (go_at_call 29; refine (HFR.out _ hbrS).mono ?_; rintro e w3 ⟨B1, m1, d1, rfl, kb3, br3, gb3⟩)
            go_meet
            obtain ⟨hkk, hrel2⟩ := HBO.out
            refine ⟨⟨i', met', ⟨need', has', low', high', val'⟩, pend'⟩, r', ks', A1, n1, c1, B1, m1, d1, rfl, rfl, ⟨hrel2, HPO.out, HRO.out⟩, ⟨?_, ?_, br3, KsF.grown ksS gb3 (fun j e => by cases e; exact fun h => by have h : gq + 1 ≤ w.heap.size + 1 := h; omega), ?_, gb3.kept kwS (by omega)⟩⟩
            · show Bx _ _ #[.int .i64 i, .bool met, .int .i64 need, .int .i64 has, .int .u8 low, .int .u8 high, .int .i32 val, .string (bs8 pend)] _
              rw [HS.out]
              exact gb3.bx hbS (by omega)
            · show Bx _ _ #[.int .i64 i', .bool met', .int .i64 need', .int .i64 has', .int .u8 low', .int .u8 high', .int .i32 val', .string (bs8 pend')] _
              rw [HS'.out]
              exact gb3.bx bqS (by omega)
            · have hkk2 : ks' = ksr := hkk
              rw [hkk2]
              exact KsF.weak kb3 (fun j _ h => by have h := Nat.le_trans hlS h; exact h)
          | false =>
            obtain ⟨hrel, hpo, hro⟩ := HR.out
            have HBO := Lib.hid (tick_both hrel)
            have HPO := Lib.hid hpo.tick
            have HRO := Lib.hid hro.tick
            have hfe := fun wx : World => tickF_any p wx
            have hfr := fun (wx : World) (hx : Bx wx (w.heap.size + 1) r.cells 45) => refTick_any r hro.wb (Nat.le_trans hro.wl (by omega)) (w.heap.size + 1) wx hx
            generalize tickP p = fp at *
            generalize tickR r = fr at *
            obtain ⟨⟨i, met, ⟨need, has, low, high, val⟩, pend⟩, hpeq⟩ : ∃ p0, p0 = p := ⟨_, rfl⟩
            subst hpeq
            obtain ⟨⟨i', met', ⟨need', has', low', high', val'⟩, pend'⟩, ks'⟩ := fp
            obtain ⟨r', ksr⟩ := fr
            unfold RetFk at hfe
            dsimp only [Pm.v, Pm.cells] at hfe hb1
            have HFE := Lib.hid hfe
            have HFR := Lib.hid hfr
            clear hfe hfr hrel hpo hro HR
            generalize hs : bs8 pend = s at *
            have HS := Lib.hid hs
            generalize hs' : bs8 pend' = s' at *
            have HS' := Lib.hid hs'
            clear hs hs'
            obtain ⟨⟨p0, p1, p2, p3, p4, p5, p6, p7⟩, q0, q1, q2, q3, q4, q5, q6, q7⟩ := hb1.eight
            have nB : w.heap.size ≠ gq := by omega
            have nR : w.heap.size + 1 ≠ gq := by omega
            go_upto_region 12 with (go_at_call 30; refine (HFE.out _).mono ?_; rintro e w2 ⟨A1, n1, c1, rfl, ks1, hk2⟩; have hb2 := hb1.kp hk2; have hbr2 := hbr1.kp hk2; have bq2 := bq1.kp hk2; have kw2 := kw1.trans hk2; have hl2 := bq2.lt; clear hk2; obtain ⟨⟨u0, u1, u2, u3, u4, u5, u6, u7⟩, v0, v1, v2, v3, v4, v5, v6, v7⟩ := hb2.eight; obtain ⟨⟨x0, x1, x2, x3, x4, x5, x6, x7⟩, y0, y1, y2, y3, y4, y5, y6, y7⟩ := bq2.eight)
            rw [HZ1.out] at ks1
            have hbS := far8 hb2 nB (.int .i64 i') (.bool met') (.int .i64 need') (.int .i64 has') (.int .u8 low') (.int .u8 high') (.int .i32 val') (.string s')
            have hbrS := far8 hbr2 nR (.int .i64 i') (.bool met') (.int .i64 need') (.int .i64 has') (.int .u8 low') (.int .u8 high') (.int .i32 val') (.string s')
            have bqS := bx_set8 bq2 (.int .i64 i') (.bool met') (.int .i64 need') (.int .i64 has') (.int .u8 low') (.int .u8 high') (.int .i32 val') (.string s')
            have ksS := ksf_set8 ks1 (b := gq) (fun h => by unfold From at h; omega) (.int .i64 i') (.bool met') (.int .i64 need') (.int .i64 has') (.int .u8 low') (.int .u8 high') (.int .i32 val') (.string s')
            have kwS := set8_kp kw2 (b := gq) (by omega) (.int .i64 i') (.bool met') (.int .i64 need') (.int .i64 has') (.int .u8 low') (.int .u8 high') (.int .i32 val') (.string s')
            have hlS := bqS.lt
            clear hb1 hbr1 bq1 kw1 hc1 hb2 hbr2 bq2 ks1 kw2 hl2 p0 p1 p2 p3 p4 p5 p6 p7 q0 q1 q2 q3 q4 q5 q6 q7 u0 u1 u2 u3 u4 u5 u6 u7 v0 v1 v2 v3 v4 v5 v6 v7 x0 x1 x2 x3 x4 x5 x6 x7 y0 y1 y2 y3 y4 y5 y6 y7
            unfold set8 at hbS hbrS bqS ksS kwS hlS
            go_wp2_with (go_at_call 31; refine (HFR.out _ hbrS).mono ?_; rintro e w3 ⟨B1, m1, d1, rfl, kb3, br3, gb3⟩)
            go_meet
            obtain ⟨hkk, hrel2⟩ := HBO.out
            refine ⟨⟨i', met', ⟨need', has', low', high', val'⟩, pend'⟩, r', ks', A1, n1, c1, B1, m1, d1, rfl, rfl, ⟨hrel2, HPO.out, HRO.out⟩, ⟨?_, ?_, br3, KsF.grown ksS gb3 (fun j e => by cases e; exact fun h => by have h : gq + 1 ≤ w.heap.size + 1 := h; omega), ?_, gb3.kept kwS (by omega)⟩⟩
            · show Bx _ _ #[.int .i64 i, .bool met, .int .i64 need, .int .i64 has, .int .u8 low, .int .u8 high, .int .i32 val, .string (bs8 pend)] _
              rw [HS.out]
              exact gb3.bx hbS (by omega)
            · show Bx _ _ #[.int .i64 i', .bool met', .int .i64 need', .int .i64 has', .int .u8 low', .int .u8 high', .int .i32 val', .string (bs8 pend')] _
              rw [HS'.out]
              exact gb3.bx bqS (by omega)
            · have hkk2 : ks' = ksr := hkk
              rw [hkk2]
              exact KsF.weak kb3 (fun j _ h => by have h := Nat.le_trans hlS h; exact h)
        case rest =>
          clear hb1 hbr1 bq1 kw1 hc1
          obtain ⟨q, r', ks, A1, n1, c1, B1, m1, d1, rfl, rfl, HR2, hmid⟩ := hcut
          have HW := Lib.hid (Rel.waits HR2.out.1)
          have hwt := fun wx : World => waits_any' q wx
          have hwb := HR2.out.2.2.wb
          have hst := bs8_beq hwb isB_nil8
          have l0 : (bs8 []).toList = [] := by rw [ByteArray.toList_eq]; rfl
          rw [l0] at hst
          obtain ⟨⟨i', met', ⟨need', has', low', high', val'⟩, pend'⟩, hpeq⟩ : ∃ p0, p0 = q := ⟨_, rfl⟩
          subst hpeq
          obtain ⟨⟨ri, rrow, rwait, rm⟩, hreq⟩ : ∃ p0, p0 = r' := ⟨_, rfl⟩
          subst hreq
          obtain ⟨⟨i, met, ⟨need, has, low, high, val⟩, pend⟩, hpeq⟩ : ∃ p0, p0 = p := ⟨_, rfl⟩
          subst hpeq
          obtain ⟨g1, g2, g3, g4, g5, g6⟩ := hmid
          dsimp only [Pm.v, Pm.cells, Rm.cells] at g1 g2 g3 hwt hst HW
          generalize waitsP ⟨i', met', ⟨need', has', low', high', val'⟩, pend'⟩ = wp at *
          have HWT := Lib.hid hwt
          clear hwt hwb l0
          generalize bs8 pend = s at *
          generalize hs' : bs8 pend' = s' at *
          have HS' := Lib.hid hs'
          clear hs'
          generalize hrs : bs8 rrow = rs at *
          have HRS := Lib.hid hrs
          clear hrs
          generalize hrw : bs8 rwait = rw' at *
          have HRW := Lib.hid hrw
          clear hrw
          obtain ⟨⟨p0, p1, p2, p3, p4, p5, p6, p7⟩, q0, q1, q2, q3, q4, q5, q6, q7⟩ := g1.eight
          obtain ⟨⟨r0, r1, r2, r3, r4, r5, r6, r7⟩, t0, t1, t2, t3, t4, t5, t6, t7⟩ := g2.eight
          have nR : w.heap.size + 1 ≠ w.heap.size := by omega
          go_upto_region 14 with fail
          have bF := bx_set8 g1 (.int .i64 i') (.bool met') (.int .i64 need') (.int .i64 has') (.int .u8 low') (.int .u8 high') (.int .i32 val') (.string s')
          have rF := far8 g3 nR (.int .i64 i') (.bool met') (.int .i64 need') (.int .i64 has') (.int .u8 low') (.int .u8 high') (.int .i32 val') (.string s')
          have aF := ksf_set8 g4 (b := w.heap.size) (fun h => by unfold From at h; omega) (.int .i64 i') (.bool met') (.int .i64 need') (.int .i64 has') (.int .u8 low') (.int .u8 high') (.int .i32 val') (.string s')
          have cF := ksf_set8 g5 (b := w.heap.size) (fun h => by unfold From at h; omega) (.int .i64 i') (.bool met') (.int .i64 need') (.int .i64 has') (.int .u8 low') (.int .u8 high') (.int .i32 val') (.string s')
          have kF := set8_kp g6 (b := w.heap.size) (Nat.le_refl _) (.int .i64 i') (.bool met') (.int .i64 need') (.int .i64 has') (.int .u8 low') (.int .u8 high') (.int .i32 val') (.string s')
          clear g1 g2 g3 g4 g5 g6 p0 p1 p2 p3 p4 p5 p6 p7 q0 q1 q2 q3 q4 q5 q6 q7 r0 r1 r2 r3 r4 r5 r6 r7 t0 t1 t2 t3 t4 t5 t6 t7
          unfold set8 at bF rF aF cF kF
          generalize (((((((wc.setCell ⟨w.heap.size, 0, none⟩ (.int .i64 i')).setCell ⟨w.heap.size, 1, none⟩ (.bool met')).setCell ⟨w.heap.size, 2, none⟩ (.int .i64 need')).setCell ⟨w.heap.size, 3, none⟩ (.int .i64 has')).setCell ⟨w.heap.size, 4, none⟩ (.int .u8 low')).setCell ⟨w.heap.size, 5, none⟩ (.int .u8 high')).setCell ⟨w.heap.size, 6, none⟩ (.int .i32 val')).setCell ⟨w.heap.size, 7, none⟩ (.string s') = w5 at *
          obtain ⟨⟨p0, p1, p2, p3, p4, p5, p6, p7⟩, q0, q1, q2, q3, q4, q5, q6, q7⟩ := bF.eight
          obtain ⟨⟨r0, r1, r2, r3⟩, _⟩ := rF.four4
          have z0 := cell_regrown p0
          have z1 := cell_regrown p1
          have z2 := cell_regrown p2
          have z3 := cell_regrown p3
          have z4 := cell_regrown p4
          have z5 := cell_regrown p5
          have z6 := cell_regrown p6
          have z7 := cell_regrown p7
          have y0 := cell_regrown r0
          have y2 := cell_regrown r2
          clear p0 p1 p2 p3 p4 p5 p6 p7 q0 q1 q2 q3 q4 q5 q6 q7 r0 r1 r2 r3
          by_cases hri : ri = 0
          · have hrb : (ri != 0) = false := by simpa using hri
            rw [decide_eq_false (by simpa using hri), Bool.false_or] at HW
            by_cases hrw0 : rwait = []
            · rw [decide_eq_false (by simpa using hrw0)] at HW
              obtain rfl : wp = false := HW.out
              rw [decide_eq_true hrw0] at hst
              clear HW hri hrw0
              refine wp_region_quiet_below (by kernel_rfl) (by kernel_rfl) ?_
              repeat (first | go_big_quiet_step (first | (go_at_call 32; exact Calls.regrown_of (keysSameK _ _ A1 B1 n1 c1 m1 d1 ks _ (aF.kp (below_regrown w5 _ _)) (cF.kp (below_regrown w5 _ _)))) | (go_at_call 33; exact Calls.regrown_of (HWT.out _))))
              refine wpQuiet_nil ?_
              intro _ hw'
              obtain ⟨⟨dq, osq⟩, hw''⟩ := hw'
              subst hw''
              go_wp2_with fail
              go_roundg (n - (k + 1))
              case measure => omega
              case rel =>
                refine ⟨k + 1, ⟨i', met', ⟨need', has', low', high', val'⟩, pend'⟩, ⟨ri, rrow, rwait, rm⟩, by omega, by omega, by go_num, HR2.out, ?_, ?_, kF.trans (below_regrown w5 dq osq)⟩
                · show Bx _ _ #[.int .i64 i', .bool met', .int .i64 need', .int .i64 has', .int .u8 low', .int .u8 high', .int .i32 val', .string (bs8 pend')] _
                  rw [HS'.out]
                  exact bF.kp (below_regrown w5 dq osq)
                · show Bx _ _ #[.int .i64 ri, .string (bs8 rrow), .string (bs8 rwait), .bool rm] _
                  rw [HRS.out, HRW.out]
                  exact rF.kp (below_regrown w5 dq osq)
            · rw [decide_eq_true hrw0] at HW
              obtain rfl : wp = true := HW.out
              rw [decide_eq_false hrw0] at hst
              clear HW hri hrw0
              refine wp_region_quiet_below (by kernel_rfl) (by kernel_rfl) ?_
              repeat (first | go_big_quiet_step (first | (go_at_call 32; exact Calls.regrown_of (keysSameK _ _ A1 B1 n1 c1 m1 d1 ks _ (aF.kp (below_regrown w5 _ _)) (cF.kp (below_regrown w5 _ _)))) | (go_at_call 33; exact Calls.regrown_of (HWT.out _))))
              refine wpQuiet_nil ?_
              intro _ hw'
              obtain ⟨⟨dq, osq⟩, hw''⟩ := hw'
              subst hw''
              go_wp2_with fail
              go_roundg (n - (k + 1))
              case measure => omega
              case rel =>
                refine ⟨k + 1, ⟨i', met', ⟨need', has', low', high', val'⟩, pend'⟩, ⟨ri, rrow, rwait, rm⟩, by omega, by omega, by go_num, HR2.out, ?_, ?_, kF.trans (below_regrown w5 dq osq)⟩
                · show Bx _ _ #[.int .i64 i', .bool met', .int .i64 need', .int .i64 has', .int .u8 low', .int .u8 high', .int .i32 val', .string (bs8 pend')] _
                  rw [HS'.out]
                  exact bF.kp (below_regrown w5 dq osq)
                · show Bx _ _ #[.int .i64 ri, .string (bs8 rrow), .string (bs8 rwait), .bool rm] _
                  rw [HRS.out, HRW.out]
                  exact rF.kp (below_regrown w5 dq osq)
          · have hrb : (ri != 0) = true := by simpa using hri
            rw [decide_eq_true hri, Bool.true_or] at HW
            obtain rfl : wp = true := HW.out
            clear HW hri hst
            refine wp_region_quiet_below (by kernel_rfl) (by kernel_rfl) ?_
            repeat (first | go_big_quiet_step (first | (go_at_call 32; exact Calls.regrown_of (keysSameK _ _ A1 B1 n1 c1 m1 d1 ks _ (aF.kp (below_regrown w5 _ _)) (cF.kp (below_regrown w5 _ _)))) | (go_at_call 33; exact Calls.regrown_of (HWT.out _))))
            refine wpQuiet_nil ?_
            intro _ hw'
            obtain ⟨⟨dq, osq⟩, hw''⟩ := hw'
            subst hw''
            go_wp2_with fail
            go_roundg (n - (k + 1))
            case measure => omega
            case rel =>
              refine ⟨k + 1, ⟨i', met', ⟨need', has', low', high', val'⟩, pend'⟩, ⟨ri, rrow, rwait, rm⟩, by omega, by omega, by go_num, HR2.out, ?_, ?_, kF.trans (below_regrown w5 dq osq)⟩
              · show Bx _ _ #[.int .i64 i', .bool met', .int .i64 need', .int .i64 has', .int .u8 low', .int .u8 high', .int .i32 val', .string (bs8 pend')] _
                rw [HS'.out]
                exact bF.kp (below_regrown w5 dq osq)
              · show Bx _ _ #[.int .i64 ri, .string (bs8 rrow), .string (bs8 rwait), .bool rm] _
                rw [HRS.out, HRW.out]
                exact rF.kp (below_regrown w5 dq osq)
    · have hend2 : k = n ∨ (k < n ∧ k = 400) := by omega
      have HAW := Lib.hid fun wx : World => awake_any wx
      clear hend HR
      rcases hend2 with rfl | ⟨hlt, rfl⟩
      all_goals
        go_wp2_with (go_at_call 34; refine (HAW.out _).mono ?_; rintro e w9 ⟨rfl, k9⟩)
        go_ret
        exact ⟨rfl, kw.trans k9⟩
theorem keysPlays_walk {w0 : World} (A : Option Addr) (n c : Nat) (l : List Int) (hl : Sl w0 Any 1 A n c (l.map (Value.int .i64))) (_ : ∀ y ∈ l, (Lit.int .i64 y).wf = true) (w : World) (hw : w = w0 := by rfl) :
    Calls Try.prog 9 #[.slice A n c] w fun e w' => e = .returned (.bool true) ∧ Kp w w' := by
  subst hw
  exact keysPlays_walk' A n c l w hl
end Go.Proofs.Ytmeefngkbcfpeaa
