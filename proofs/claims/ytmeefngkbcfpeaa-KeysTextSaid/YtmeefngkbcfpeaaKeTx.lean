/-
  KeysText: scalars that are no controls, sent in UTF-8, are keys, one by one. No conditions but that the scalars lie in memory.
-/
import Derived.Test.YtmeefngkbcfpeaaKePl
import Derived.Test.YtmeefngkbcfpeaaKeN
import Derived.Test.YtmeefngkbcfpeaaPutV
namespace Go.Proofs.Ytmeefngkbcfpeaa
open Go.RowKit

set_option maxRecDepth 100000 in
set_option maxHeartbeats 6400000 in
theorem keysText_walk' (A : Option Addr) (n0 c : Nat) (l0 : List Int) (w : World) (hl0 : Ru w Any A n0 c l0) :
    Calls Try.prog 10 #[.slice A n0 c] w fun e w' => e = .returned (.bool true) ∧ Kp w w' := by
  have hle0 := hl0.le
  have hcap := hl0.cap
  have HAW := Lib.hid fun wx : World => awake_any wx
  obtain ⟨n, hn⟩ : ∃ n, n = min n0 60 := ⟨_, rfl⟩
  have hl := Ru.take hl0 (k := n) (by omega)
  have hFW := few_any A n0 c 60 hle0 hcap (by omega) w
  rw [← hn] at hFW
  have hn60 : n ≤ 60 := by omega
  have hnc : n ≤ c := hl.le
  unfold maxLen at hcap
  generalize l0.take n = l at *
  have HL := Lib.hid hl.len
  have HFW := Lib.hid hFW
  clear hFW hn hl0 hle0
  go_enter Try.func10, Try.ntmps10
  have bp0 := Bx.new w Pm.zero.cells 42
  have kp0 := (Kp.refl w).alloc (.cells Pm.zero.cells 42)
  go_wp2_with (go_at_call 35; refine HFW.out.mono ?_; rintro e w1 ⟨rfl, hw1⟩; subst w1)
  go_loopg [4] n (fun gg iv wr => ∃ (k : Nat), k + gg = n ∧ iv = .int .i64 k ∧ Bx wr w.heap.size Pm.zero.cells 42 ∧ Kp w wr)
  case atStart => exact ⟨0, by omega, rfl, bp0, kp0⟩
  case round =>
    clear bp0 kp0
    obtain ⟨k, hk, rfl, hb, kw⟩ := hrel
    by_cases hlt : k < n
    · obtain ⟨ad, rfl, hcw⟩ := Ru.get hl hlt
      have hadl := World.block_lt_of_cell? w _ hcw
      generalize l[k]?.getD 0 = r at *
      have hc1 := (kw.cell hadl).trans hcw
      obtain ⟨kb, hkb⟩ : ∃ kb, kb = (decide (r < 32) || decide (r = 127) || !validB r) := ⟨_, rfl⟩
      have HKB := Lib.hid hkb
      clear hkb
      go_upto_region 6 with fail
      go_cut [36] (fun v wx => v = .bool kb ∧ wx = wr)
      case first =>
        by_cases h32 : r < 32
        · go_wp2_with fail
          go_meet
          exact ⟨by rw [HKB.out, decide_eq_true h32]; rfl, rfl⟩
        · by_cases h127 : r = 127
          · subst h127
            go_wp2_with fail
            go_meet
            exact ⟨by rw [HKB.out]; rfl, rfl⟩
          · have hb127 : (r == 127) = false := by simpa using h127
            have HVB : Hid (kb = !validB r) := by show _ = _; rw [HKB.out, decide_eq_false h32, decide_eq_false h127]; rfl
            clear h127
            go_wp2_with (go_at_call 24; refine (refValid_any r _).mono ?_; rintro e w2 ⟨rfl, hw2⟩; subst w2)
            go_meet
            exact ⟨by rw [HVB.out], rfl⟩
      case rest =>
        obtain ⟨rfl, hwx⟩ := hcut
        subst wc
        cases kb with
        | true =>
          clear HKB
          go_wp2_with fail
          go_roundg (n - (k + 1))
          case measure => omega
          case rel => exact ⟨k + 1, by omega, by go_num, hb, kw⟩
        | false =>
          have h1 := HKB.out
          have hv : validB r = true ∧ 32 ≤ r ∧ r ≠ 127 := by
            simp only [Bool.false_eq, Bool.or_eq_false_iff, decide_eq_false_iff_not, Bool.not_eq_false'] at h1
            exact ⟨h1.2, by omega, h1.1.2⟩
          have HV := Lib.hid hv
          have HTX := Lib.hid fun (j : Nat) (x : Int) (hx : (putM r)[j]? = some x) => text_state hv.1 hv.2.1 hv.2.2 hx
          clear h1 hv HKB
          have hpl := putM_len r
          have hpb : isB (putM r) := putM_bd r
          have hsz := bs_size (putM r)
          have hb8 : by8 (bs (putM r)) = putM r := by8_bs8 hpb
          have HPU := Lib.hid fun wx : World => refPut_any r wx
          generalize bs (putM r) = s at *
          have HSZ := Lib.hid hsz
          have HB8 := Lib.hid hb8
          have HPB := Lib.hid hpb
          have hs4 : 1 ≤ s.size ∧ s.size ≤ 4 := by omega
          obtain ⟨hs1, hs4⟩ := hs4
          clear hsz hb8 hpb hpl
          go_upto_region 8 with (go_at_call 22; refine (HPU.out _).mono ?_; rintro e w2 ⟨rfl, k2⟩; have hb2 := hb.kp k2; have kw2 := kw.trans k2; have hc2 := (kw2.cell hadl).trans hcw)
          clear hb kw hc1
          go_wp2_with fail
          go_loopg [6] s.size (fun gg iv wr => ∃ (k2 : Nat), k2 + gg = s.size ∧ iv = .int .i64 k2 ∧ Hid (k2 = s.size → (feedsP Pm.zero ((putM r).take k2)).1 = Pm.zero) ∧ Bx wr w.heap.size (feedsP Pm.zero ((putM r).take k2)).1.cells 42 ∧ Kp w wr)
          case atStart => exact ⟨0, by omega, rfl, fun h => absurd h (by omega), hb2, kw2⟩
          case round =>
            clear hb2 kw2 hc2
            obtain ⟨k2, hk2, rfl, HZ, hb, kw⟩ := hrel
            by_cases hlt2 : k2 < s.size
            · obtain ⟨x, hx⟩ : ∃ x, (putM r)[k2]? = some x := ⟨(putM r)[k2]'(by rw [← HSZ.out]; exact hlt2), List.getElem?_eq_getElem _⟩
              have hxb := HPB.out x (List.mem_of_getElem? hx)
              have hix := fun wx : World => run_index_str (P := Try.prog) wx 9 s .i64 k2 k2 Try.underlying9 rfl hlt2 x (by rw [HB8.out, hx]; rfl)
              obtain ⟨-, qi1, qi2⟩ := HTX.out k2 x hx
              have hok := feedsP_ok ((putM r).take k2) Pm.zero 0 PmOk.zero (isB_take HPB.out k2)
              have hts := putM_take hx
              have hst := feedsP_snoc ((putM r).take k2) Pm.zero x
              rw [← hts] at hst
              have hpl : (feedsP Pm.zero ((putM r).take k2)).1.pend.length ≤ 100000 := by
                have := hok.len
                rw [List.length_take] at this
                omega
              have hc1 := (kw.cell hadl).trans hcw
              generalize feedsP Pm.zero ((putM r).take k2) = st at *
              obtain ⟨p, ksx⟩ := st
              dsimp only at qi1 qi2 hok hst hb hpl
              have hfe := fun wx : World => feedF_any p hok.ok hok.bd hpl x hxb.1 hxb.2 wx
              generalize feedP p x = fp at *
              have hst1 : (feedsP Pm.zero ((putM r).take (k2 + 1))).1 = fp.1 := by rw [hst]
              have HST := Lib.hid hst1
              clear hst hst1 hok hpl hx hts
              obtain ⟨⟨i, met, ⟨need, has, low, high, val⟩, pend⟩, hpeq⟩ : ∃ p0, p0 = p := ⟨_, rfl⟩
              subst hpeq
              dsimp only [Pm.v, Pm.cells] at hfe hb
              have HQ1 := Lib.hid qi1
              have HQ2 := Lib.hid qi2
              clear qi1 qi2
              obtain ⟨⟨i', met', ⟨need', has', low', high', val'⟩, pend'⟩, ks'⟩ := fp
              unfold RetFk at hfe
              dsimp only [Pm.v, Pm.cells] at hfe
              have HFE := Lib.hid hfe
              clear hfe
              generalize bs8 pend = s1 at *
              generalize hs' : bs8 pend' = s' at *
              have HS' := Lib.hid hs'
              clear hs'
              have hz0 := kw.size
              obtain ⟨⟨p0, p1, p2, p3, p4, p5, p6, p7⟩, q0, q1, q2, q3, q4, q5, q6, q7⟩ := hb.eight
              go_upto_region 11 with fail
              go_cut [7, 8] (fun qb v wx => ∃ (g : Nat) (A1 : Option Addr) (n1 c1 : Nat), qb = .pointer (some ⟨g, 0, none⟩) ∧ v = .slice A1 n1 c1 ∧ KsF (From wr.heap.size) wx A1 n1 c1 ks' ∧
                Bx wx g #[.int .i64 i', .bool met', .int .i64 need', .int .i64 has', .int .u8 low', .int .u8 high', .int .i32 val', .string s'] 42 ∧ wr.heap.size ≤ g ∧ Kp wr wx)
              case first =>
                go_wp2_with fail
                have nB : w.heap.size ≠ wr.heap.size := Nat.ne_of_lt hb.lt
                go_region_held3 (fun w' => w'.cell? ⟨w.heap.size, 0, none⟩ = some (.int .i64 i) ∧ w'.cell? ⟨w.heap.size, 1, none⟩ = some (.bool met) ∧ w'.cell? ⟨w.heap.size, 2, none⟩ = some (.int .i64 need) ∧ w'.cell? ⟨w.heap.size, 3, none⟩ = some (.int .i64 has) ∧ w'.cell? ⟨w.heap.size, 4, none⟩ = some (.int .u8 low) ∧ w'.cell? ⟨w.heap.size, 5, none⟩ = some (.int .u8 high) ∧ w'.cell? ⟨w.heap.size, 6, none⟩ = some (.int .i32 val) ∧ w'.cell? ⟨w.heap.size, 7, none⟩ = some (.string s1))
                  (first | (with_reducible exact ⟨u0, u1, u2, u3, u4, u5, u6, u7⟩) | (with_reducible exact held8 hbx1 nB _ _ _ _ _ _ _ _) | (with_reducible exact held8 (hbx1.alloc _) nB1 _ _ _ _ _ _ _ _) | go_keep)
                  (first | (go_at_call 28; refine (HFE.out _).mono ?_; rintro e w1 ⟨A1, n1, c1, rfl, ho1, hk1⟩; (first | (have k0 : Kp wr w1 := (Kp.refl wr).drew.trans hk1) | (have k0 : Kp wr w1 := ((Kp.refl wr).drew.alloc _).trans hk1)); have hbx1 := hb.kp k0; have nB1 : w.heap.size ≠ w1.heap.size := Nat.ne_of_lt hbx1.lt; have hz1 := k0.size; (first | (have f0 : Bx w1 wr.heap.size _ _ := Bx.kp (Bx.new wr.drew _ _) hk1; have hl0 := f0.lt; obtain ⟨⟨a0, a1, a2, a3, a4, a5, a6, a7⟩, b0, b1, b2, b3, b4, b5, b6, b7⟩ := f0.eight) | skip); obtain ⟨⟨u0, u1, u2, u3, u4, u5, u6, u7⟩, v0, v1, v2, v3, v4, v5, v6, v7⟩ := hbx1.eight; obtain ⟨⟨x0, x1, x2, x3, x4, x5, x6, x7⟩, y0, y1, y2, y3, y4, y5, y6, y7⟩ := Bx.eight (Bx.new w1 #[.int .i64 0, .bool false, .int .i64 0, .int .i64 0, .int .u8 0, .int .u8 0, .int .i32 0, .string ByteArray.empty] 42)))
                all_goals go_wp2_with fail
                all_goals go_meet
                all_goals first
                  | (have hf := f0; exact ⟨wr.heap.size, A1, n1, c1, rfl, rfl, KsF.weak (ksf_set8 ho1 (b := wr.heap.size) (fun h => by unfold From at h; simp at h; omega) (.int .i64 i') (.bool met') (.int .i64 need') (.int .i64 has') (.int .u8 low') (.int .u8 high') (.int .i32 val') (.string s')) (fun j _ h => by unfold From at h ⊢; simp at h; omega), bx_set8 f0 (.int .i64 i') (.bool met') (.int .i64 need') (.int .i64 has') (.int .u8 low') (.int .u8 high') (.int .i32 val') (.string s'), Nat.le_refl _, set8_kp k0 (Nat.le_refl _) (.int .i64 i') (.bool met') (.int .i64 need') (.int .i64 has') (.int .u8 low') (.int .u8 high') (.int .i32 val') (.string s')⟩)
                  | exact ⟨_, A1, n1, c1, rfl, rfl, KsF.kp (KsF.weak ho1 (fun j _ h => h)) ((Kp.refl _).alloc _), Bx.new _ _ _, hz1, k0.alloc _⟩
              case rest =>
                obtain ⟨g, A1, n1, c1, rfl, rfl, ks1, bg, hg1, k1⟩ := hcut
                have hbB := hb.kp k1
                have hbl := hb.lt
                have kwB := kw.trans k1
                clear hb kw k1 hc1 p0 p1 p2 p3 p4 p5 p6 p7 q0 q1 q2 q3 q4 q5 q6 q7 HFE
                obtain ⟨⟨p0, p1, p2, p3, p4, p5, p6, p7⟩, q0, q1, q2, q3, q4, q5, q6, q7⟩ := hbB.eight
                obtain ⟨⟨r0, r1, r2, r3, r4, r5, r6, r7⟩, _⟩ := bg.eight
                go_upto_region 13 with fail
                have hb5 := bx_set8 hbB (.int .i64 i') (.bool met') (.int .i64 need') (.int .i64 has') (.int .u8 low') (.int .u8 high') (.int .i32 val') (.string s')
                have ks5 := ksf_set8 ks1 (b := w.heap.size) (fun h => by unfold From at h; omega) (.int .i64 i') (.bool met') (.int .i64 need') (.int .i64 has') (.int .u8 low') (.int .u8 high') (.int .i32 val') (.string s')
                have kw5 := set8_kp kwB (b := w.heap.size) (Nat.le_refl _) (.int .i64 i') (.bool met') (.int .i64 need') (.int .i64 has') (.int .u8 low') (.int .u8 high') (.int .i32 val') (.string s')
                unfold set8 at hb5 ks5 kw5
                clear hbB ks1 kwB bg p0 p1 p2 p3 p4 p5 p6 p7 q0 q1 q2 q3 q4 q5 q6 q7 r0 r1 r2 r3 r4 r5 r6 r7
                generalize (((((((wc.setCell ⟨w.heap.size, 0, none⟩ (.int .i64 i')).setCell ⟨w.heap.size, 1, none⟩ (.bool met')).setCell ⟨w.heap.size, 2, none⟩ (.int .i64 need')).setCell ⟨w.heap.size, 3, none⟩ (.int .i64 has')).setCell ⟨w.heap.size, 4, none⟩ (.int .u8 low')).setCell ⟨w.heap.size, 5, none⟩ (.int .u8 high')).setCell ⟨w.heap.size, 6, none⟩ (.int .i32 val')).setCell ⟨w.heap.size, 7, none⟩ (.string s') = w5 at *
                have hc5 := (kw5.cell hadl).trans hcw
                have HFIN : ∀ wx : World, Kp w5 wx → Bx wx w.heap.size (feedsP Pm.zero ((putM r).take (k2 + 1))).1.cells 42 := fun wx kx => by
                  rw [HST.out]
                  show Bx _ _ #[.int .i64 i', .bool met', .int .i64 need', .int .i64 has', .int .u8 low', .int .u8 high', .int .i32 val', .string (bs8 pend')] _
                  rw [HS'.out]
                  exact hb5.kp kx
                have HFN := Lib.hid HFIN
                clear HFIN hb5
                by_cases hlast : k2 + 1 = s.size
                · have hq := HQ2.out (by have h1 := HSZ.out; omega)
                  have hq1 : (Pm.mk i' met' ⟨need', has', low', high', val'⟩ pend') = Pm.zero := congrArg Prod.fst hq
                  have hq2 : ks' = [⟨1, r, false, []⟩] := congrArg Prod.snd hq
                  rw [hq2] at ks5
                  have HQZ := Lib.hid hq1
                  have hn1 : n1 = 1 := by have := ks5.len; exact this.symm
                  subst hn1
                  have ha1 : ¬ ((k2 : Int) < (s.size : Int) - 1) := by omega
                  have ha2 : ((k2 : Int) == (s.size : Int) - 1) = true := by simp; omega
                  have HLA := Lib.hid hlast
                  clear hq hq1 hq2 HQ1 HQ2 hlast
                  go_wp2_with (go_at_call 32; refine (keysSame _ Any A1 _ _ c1 _ _ [⟨1, r, false, []⟩] _ (ks5.kp ((Kp.refl _).alloc _)) (KsF.of (Sl.new_ w5 #[.int .i64 1, .int .i32 r, .bool false, .slice none 0 0] _ 4 1 _ rfl trivial rfl (by omega)) (by simp))).mono ?_; rintro e w7 ⟨rfl, d7⟩)
                  go_roundg (s.size - (k2 + 1))
                  case measure => have := HLA.out; omega
                  case rel => exact ⟨k2 + 1, by have := HLA.out; omega, by go_num, fun _ => by rw [HST.out]; exact HQZ.out, HFN.out _ (((Kp.refl _).alloc _).trans d7.kp), (kw5.alloc _).trans d7.kp⟩
                · have hq2 : ks' = [] := HQ1.out (by have h1 := HSZ.out; omega)
                  rw [hq2] at ks5
                  have hn1 : n1 = 0 := by have := ks5.len; exact this.symm
                  subst hn1
                  clear hq2 HQ1 HQ2
                  go_wp2_with fail
                  go_roundg (s.size - (k2 + 1))
                  case measure => omega
                  case rel => exact ⟨k2 + 1, by omega, by go_num, fun h => absurd h hlast, HFN.out _ (Kp.refl _), kw5⟩
            · obtain rfl : k2 = s.size := by omega
              rw [HZ.out rfl] at hb
              have hb0 := hb
              have hwz := fun wx : World => waits_any' Pm.zero wx
              have hwz0 : waitsP Pm.zero = false := rfl
              have hbs : bs8 [] = ⟨#[]⟩ := rfl
              rw [hwz0] at hwz
              dsimp only [Pm.v, Pm.cells, Pm.zero, Dm.zero] at hwz hb
              rw [hbs] at hwz hb
              have HWZ := Lib.hid hwz
              clear hwz hwz0 hbs HZ
              obtain ⟨⟨p0, p1, p2, p3, p4, p5, p6, p7⟩, q0, q1, q2, q3, q4, q5, q6, q7⟩ := hb.eight
              go_wp2_with (go_at_call 33; refine (HWZ.out _).mono ?_; rintro e w8 ⟨rfl, k8⟩)
              go_roundg (n - (k + 1))
              case measure => omega
              case rel => exact ⟨k + 1, by omega, by go_num, hb0.kp k8, kw.trans k8⟩
    · obtain rfl : k = n := by omega
      go_wp2_with (go_at_call 34; refine (HAW.out _).mono ?_; rintro e w9 ⟨rfl, k9⟩)
      go_ret
      exact ⟨rfl, kw.trans k9⟩

/-- KeysText: the walk. -/
theorem keysText_walk {w0 : World} (A : Option Addr) (n c : Nat) (l : List Int) (hl : Sl w0 Any 1 A n c (l.map (Value.int .i32))) (_ : ∀ y ∈ l, (Lit.int .i32 y).wf = true) (w : World) (hw : w = w0 := by rfl) :
    Calls Try.prog 10 #[.slice A n c] w fun e w' => e = .returned (.bool true) ∧ Kp w w' := by
  subst hw
  exact keysText_walk' A n c l w hl
end Go.Proofs.Ytmeefngkbcfpeaa
