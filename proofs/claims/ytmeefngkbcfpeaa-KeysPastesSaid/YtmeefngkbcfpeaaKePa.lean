/-
  KeysPastes: what is pasted is told as it was sent. No conditions.
-/
import Derived.Test.YtmeefngkbcfpeaaKePl
import Derived.Test.YtmeefngkbcfpeaaKeQ
namespace Go.Proofs.Ytmeefngkbcfpeaa
open Go.RowKit

theorem ext_beq (s : ByteArray) (a b : Nat) : ((s.extract a b).toList == [27, 91, 50, 48, 49, 126]) = decide (((by8 s).drop a).take (b - a) = endsM) := by
  have hs : isB (by8 s) := by8_bd s
  have h := bs8_beq (s := ((by8 s).drop a).take (b - a)) (t := endsM) (fun x hx => hs x (List.mem_of_mem_drop (List.mem_of_mem_take hx))) isB_ends
  have l2 : (bs8 endsM).toList = [27, 91, 50, 48, 49, 126] := by rw [ByteArray.toList_eq]; rfl
  rw [← bs8_extract hs, bs8_by8, l2] at h
  exact h

set_option maxRecDepth 100000 in
set_option maxHeartbeats 6400000 in
theorem keysPastes_walk' (s0 s : ByteArray) (hcase : (300 < s0.size ∧ s = s0.extract 0 300) ∨ (s0.size ≤ 300 ∧ s = s0)) (tk : Int) (w : World) :
    Calls Try.prog 11 #[.string s0, .int .i64 tk] w fun e w' => e = .returned (.bool true) ∧ Kp w w' := by
  have hs : s.size ≤ 300 := by
    rcases hcase with ⟨h, rfl⟩ | ⟨h, rfl⟩
    · rw [ByteArray.size_extract]; omega
    · exact h
  have hlen := by8_length s
  have HL := Lib.hid hlen
  clear hlen
  have HAW := Lib.hid fun wx : World => awake_any wx
  go_enter Try.func11, Try.ntmps11
  go_upto_if 15 with fail
  go_cut [0] (fun v wx => v = .string s ∧ w = wx)
  case first =>
    rcases hcase with ⟨h, rfl⟩ | ⟨h, rfl⟩
    · go_wp2_with fail
      go_meet
      exact ⟨rfl, rfl⟩
    · go_wp2_with fail
      go_meet
      exact ⟨rfl, rfl⟩
  case rest =>
    obtain ⟨rfl, rfl⟩ := hcut
    clear hcase
    go_wp2_with fail
    go_loopg [5] (s.size + 1) (fun gg iv wr => ∃ (k : Nat), k + gg = s.size + 1 ∧ iv = .int .i64 k ∧ Hid (∀ j, j < k → j + 6 ≤ s.size → ¬ (((by8 s).drop j).take 6 = endsM)) ∧ w = wr)
    case atStart => exact ⟨0, by omega, rfl, fun j h => absurd h (by omega), rfl⟩
    case round =>
      obtain ⟨k, hk, rfl, HN, rfl⟩ := hrel
      by_cases hlt : k + 6 ≤ s.size
      · have hx := ext_beq s k (k + 6)
        rw [show k + 6 - k = 6 by omega] at hx
        have e1 : ((k : Int) + 6).toNat = k + 6 := by omega
        have e2 : (0 : Int) ≤ (k : Int) + 6 := by omega
        cases hd : decide (((by8 s).drop k).take 6 = endsM) with
        | true =>
          rw [hd] at hx
          have hx2 : (s.extract k (k + 6)).toList = [27, 91, 50, 48, 49, 126] := by simpa using hx
          clear hd HN hx
          go_wp2_with (go_at_call 34; refine (HAW.out _).mono ?_; rintro e w9 ⟨rfl, k9⟩)
          go_ret
          exact ⟨rfl, k9⟩
        | false =>
          rw [hd] at hx
          have HD := Lib.hid (of_decide_eq_false hd)
          clear hd
          go_wp2_with fail
          go_roundg (s.size + 1 - (k + 1))
          case measure => omega
          case rel =>
            refine ⟨k + 1, by omega, by go_num, fun j hj hj6 => ?_, rfl⟩
            rcases Nat.lt_or_ge j k with h | h
            · exact HN.out j h hj6
            · obtain rfl : j = k := by omega
              exact HD.out
      · have hno : noEnd (by8 s) := fun j hj => by
          rw [HL.out] at hj
          exact HN.out j (by omega) hj
        have HNO := Lib.hid hno
        clear hno HN
        go_upto_region 9 with fail
        have hbd : isB (openM ++ by8 s ++ endsM) := isB_app (isB_app (by decide +kernel : ∀ b ∈ openM, 0 ≤ b ∧ b ≤ 255) (by8_bd s)) isB_ends
        have hal : (({ data := #[27, 91, 50, 48, 48, 126] } : ByteArray) ++ s ++ { data := #[27, 91, 50, 48, 49, 126] }) = bs8 (openM ++ by8 s ++ endsM) := by rw [bs8_app, bs8_app, bs8_by8]; rfl
        have hb8 : by8 (({ data := #[27, 91, 50, 48, 48, 126] } : ByteArray) ++ s ++ { data := #[27, 91, 50, 48, 49, 126] }) = openM ++ by8 s ++ endsM := by rw [hal, by8_bs8 hbd]
        have hsz : (({ data := #[27, 91, 50, 48, 48, 126] } : ByteArray) ++ s ++ { data := #[27, 91, 50, 48, 49, 126] }).size = s.size + 12 := by
          rw [hal, bs8_size]; simp only [List.length_append, HL.out]; show 6 + s.size + 6 = _; omega
        generalize (({ data := #[27, 91, 50, 48, 48, 126] } : ByteArray) ++ s ++ { data := #[27, 91, 50, 48, 49, 126] }) = al at *
        have HSZ := Lib.hid hsz
        have HB8 := Lib.hid hb8
        have HBD := Lib.hid hbd
        have hal312 : al.size ≤ 312 := by omega
        clear hal hb8 hbd hsz
        have bp0 := Bx.new w Pm.zero.cells 42
        have kp0 := (Kp.refl w).alloc (.cells Pm.zero.cells 42)
        go_wp2_with fail
        go_loopg [8] al.size (fun gg iv wr => ∃ (k2 : Nat), k2 + gg = al.size ∧ iv = .int .i64 k2 ∧ Hid (k2 = al.size → (feedsP Pm.zero ((openM ++ by8 s ++ endsM).take k2)).1 = Pm.zero) ∧ Bx wr w.heap.size (feedsP Pm.zero ((openM ++ by8 s ++ endsM).take k2)).1.cells 42 ∧ Kp w wr)
        case atStart => exact ⟨0, by omega, rfl, fun h => absurd h (by have := HSZ.out; omega), bp0, kp0⟩
        case round =>
          clear bp0 kp0
          obtain ⟨k2, hk2, rfl, HZ, hb, kw⟩ := hrel
          by_cases hlt2 : k2 < al.size
          · obtain ⟨x, hx⟩ : ∃ x, (openM ++ by8 s ++ endsM)[k2]? = some x := ⟨(openM ++ by8 s ++ endsM)[k2]'(by rw [← HB8.out, by8_length]; exact hlt2), List.getElem?_eq_getElem _⟩
            have hxb := HBD.out x (List.mem_of_getElem? hx)
            have hix := fun wx : World => run_index_str (P := Try.prog) wx 9 al .i64 k2 k2 Try.underlying9 rfl hlt2 x (by rw [HB8.out, hx]; rfl)
            obtain ⟨qi4, qi1, qi2⟩ := paste_state HNO.out hx
            have hok := feedsP_ok ((openM ++ by8 s ++ endsM).take k2) Pm.zero 0 PmOk.zero (isB_take HBD.out k2)
            have hts : (openM ++ by8 s ++ endsM).take (k2 + 1) = (openM ++ by8 s ++ endsM).take k2 ++ [x] := by
              have hj := (List.getElem?_eq_some_iff.1 hx).1
              rw [List.take_succ_eq_append_getElem hj, (List.getElem?_eq_some_iff.1 hx).2]
            have hst := feedsP_snoc ((openM ++ by8 s ++ endsM).take k2) Pm.zero x
            rw [← hts] at hst
            have hpl : (feedsP Pm.zero ((openM ++ by8 s ++ endsM).take k2)).1.pend.length ≤ 100000 := by
              have := hok.len
              rw [List.length_take] at this
              omega
            generalize feedsP Pm.zero ((openM ++ by8 s ++ endsM).take k2) = st at *
            obtain ⟨p, ksx⟩ := st
            dsimp only at qi4 qi1 qi2 hok hst hb hpl
            have hfe := fun wx : World => feedF_any p hok.ok hok.bd hpl x hxb.1 hxb.2 wx
            have htk := fun wx : World => tickF_any p wx
            have ht4 : p.inn = 4 → tickP p = (p, []) := fun h => by
              unfold tickP
              rw [if_neg (by omega), if_neg (by omega), if_pos h]
            generalize feedP p x = fp at *
            generalize tickP p = tp at *
            have hst1 : (feedsP Pm.zero ((openM ++ by8 s ++ endsM).take (k2 + 1))).1 = fp.1 := by rw [hst]
            have HST := Lib.hid hst1
            clear hst hst1 hok hpl hx hts
            obtain ⟨⟨i, met, ⟨need, has, low, high, val⟩, pend⟩, hpeq⟩ : ∃ p0, p0 = p := ⟨_, rfl⟩
            subst hpeq
            dsimp only [Pm.v, Pm.cells] at hfe htk hb qi4 ht4
            have HQ1 := Lib.hid qi1
            have HQ2 := Lib.hid qi2
            clear qi1 qi2
            obtain ⟨⟨i', met', ⟨need', has', low', high', val'⟩, pend'⟩, ks'⟩ := fp
            unfold RetFk at hfe
            dsimp only [Pm.v, Pm.cells] at hfe
            have HFE := Lib.hid hfe
            clear hfe
            have HT4 := Lib.hid ht4
            have HTK := Lib.hid htk
            clear ht4 htk
            generalize hs1 : bs8 pend = s1 at *
            have HS1 := Lib.hid hs1
            generalize hs' : bs8 pend' = s' at *
            have HS' := Lib.hid hs'
            clear hs1 hs'
            have hz0 := kw.size
            obtain ⟨⟨p0, p1, p2, p3, p4, p5, p6, p7⟩, q0, q1, q2, q3, q4, q5, q6, q7⟩ := hb.eight
            go_upto_region 13 with fail
            go_cut [50] (fun v wx => ∃ kb : Bool, v = .bool kb ∧ (kb = true → 6 ≤ k2) ∧ wx = wr)
            case first =>
              by_cases h5 : 5 < k2
              · go_wp2_with fail
                go_meet
                exact ⟨_, rfl, fun _ => by omega, rfl⟩
              · go_wp2_with fail
                go_meet
                exact ⟨false, rfl, fun h => (by cases h), rfl⟩
            case rest =>
              obtain ⟨kb, rfl, hkb, hwx⟩ := hcut
              subst wc
              go_upto_if 50 with fail
              go_cut [] (fun wx => Bx wx w.heap.size #[.int .i64 i, .bool met, .int .i64 need, .int .i64 has, .int .u8 low, .int .u8 high, .int .i32 val, .string s1] 42 ∧ Kp w wx)
              case first =>
                cases kb with
                | false =>
                  go_wp2_with fail
                  go_meet
                  exact ⟨hb, kw⟩
                | true =>
                  have hi4 : i = 4 := qi4 (hkb rfl)
                  have htk := HTK.out
                  rw [HT4.out hi4] at htk
                  unfold RetFk at htk
                  dsimp only [Pm.v, Pm.cells] at htk
                  rw [HS1.out] at htk
                  have HT5 := Lib.hid htk
                  clear htk HT4 HTK hi4 hkb qi4
                  go_wp2_with (go_at_call 30; refine (HT5.out _).mono ?_; rintro e w5 ⟨A5, n5, c5, rfl, ks5, k5⟩; obtain rfl : n5 = 0 := (by have h1 := ks5.len; exact h1.symm); have hb5 := hb.kp k5; have kw5 := kw.trans k5; have hl5 := hb5.lt; obtain ⟨⟨u0, u1, u2, u3, u4, u5, u6, u7⟩, v0, v1, v2, v3, v4, v5, v6, v7⟩ := hb5.eight)
                  go_meet
                  exact ⟨Bx.alloc (bx_set8 hb5 (.int .i64 i) (.bool met) (.int .i64 need) (.int .i64 has) (.int .u8 low) (.int .u8 high) (.int .i32 val) (.string s1)) _, (set8_kp kw5 (Nat.le_refl _) (.int .i64 i) (.bool met) (.int .i64 need) (.int .i64 has) (.int .u8 low) (.int .u8 high) (.int .i32 val) (.string s1)).alloc _⟩
              case rest =>
                obtain ⟨hbA, kwA⟩ := hcut
                obtain ⟨wa, hwa⟩ : ∃ wa, wa = wc := ⟨_, rfl⟩
                subst hwa
                clear hb kw hz0 p0 p1 p2 p3 p4 p5 p6 p7 q0 q1 q2 q3 q4 q5 q6 q7 HT4 HTK hkb
                have hz0 := kwA.size
                obtain ⟨⟨p0, p1, p2, p3, p4, p5, p6, p7⟩, q0, q1, q2, q3, q4, q5, q6, q7⟩ := hbA.eight
                go_upto_region 18 with fail
                go_cut [11, 12] (fun qb v wx => ∃ (g : Nat) (A1 : Option Addr) (n1 c1 : Nat), qb = .pointer (some ⟨g, 0, none⟩) ∧ v = .slice A1 n1 c1 ∧ KsF (From wa.heap.size) wx A1 n1 c1 ks' ∧
                  Bx wx g #[.int .i64 i', .bool met', .int .i64 need', .int .i64 has', .int .u8 low', .int .u8 high', .int .i32 val', .string s'] 42 ∧ wa.heap.size ≤ g ∧ Kp wa wx)
                case first =>
                  go_wp2_with fail
                  have nB : w.heap.size ≠ wa.heap.size := Nat.ne_of_lt hbA.lt
                  go_region_held3 (fun w' => w'.cell? ⟨w.heap.size, 0, none⟩ = some (.int .i64 i) ∧ w'.cell? ⟨w.heap.size, 1, none⟩ = some (.bool met) ∧ w'.cell? ⟨w.heap.size, 2, none⟩ = some (.int .i64 need) ∧ w'.cell? ⟨w.heap.size, 3, none⟩ = some (.int .i64 has) ∧ w'.cell? ⟨w.heap.size, 4, none⟩ = some (.int .u8 low) ∧ w'.cell? ⟨w.heap.size, 5, none⟩ = some (.int .u8 high) ∧ w'.cell? ⟨w.heap.size, 6, none⟩ = some (.int .i32 val) ∧ w'.cell? ⟨w.heap.size, 7, none⟩ = some (.string s1))
                    (first | (with_reducible exact ⟨u0, u1, u2, u3, u4, u5, u6, u7⟩) | (with_reducible exact held8 hbx1 nB _ _ _ _ _ _ _ _) | (with_reducible exact held8 (hbx1.alloc _) nB1 _ _ _ _ _ _ _ _) | go_keep)
                    (first | (go_at_call 28; refine (HFE.out _).mono ?_; rintro e w1 ⟨A1, n1, c1, rfl, ho1, hk1⟩; (first | (have k0 : Kp wa w1 := (Kp.refl wa).drew.trans hk1) | (have k0 : Kp wa w1 := ((Kp.refl wa).drew.alloc _).trans hk1)); have hbx1 := hbA.kp k0; have nB1 : w.heap.size ≠ w1.heap.size := Nat.ne_of_lt hbx1.lt; have hz1 := k0.size; (first | (have f0 : Bx w1 wa.heap.size _ _ := Bx.kp (Bx.new wa.drew _ _) hk1; have hl0 := f0.lt; obtain ⟨⟨a0, a1, a2, a3, a4, a5, a6, a7⟩, b0, b1, b2, b3, b4, b5, b6, b7⟩ := f0.eight) | skip); obtain ⟨⟨u0, u1, u2, u3, u4, u5, u6, u7⟩, v0, v1, v2, v3, v4, v5, v6, v7⟩ := hbx1.eight; obtain ⟨⟨x0, x1, x2, x3, x4, x5, x6, x7⟩, y0, y1, y2, y3, y4, y5, y6, y7⟩ := Bx.eight (Bx.new w1 #[.int .i64 0, .bool false, .int .i64 0, .int .i64 0, .int .u8 0, .int .u8 0, .int .i32 0, .string ByteArray.empty] 42)))
                  all_goals go_wp2_with fail
                  all_goals go_meet
                  all_goals first
                    | (have hf := f0; exact ⟨wa.heap.size, A1, n1, c1, rfl, rfl, KsF.weak (ksf_set8 ho1 (b := wa.heap.size) (fun h => by unfold From at h; simp at h; omega) (.int .i64 i') (.bool met') (.int .i64 need') (.int .i64 has') (.int .u8 low') (.int .u8 high') (.int .i32 val') (.string s')) (fun j _ h => by unfold From at h ⊢; simp at h; omega), bx_set8 f0 (.int .i64 i') (.bool met') (.int .i64 need') (.int .i64 has') (.int .u8 low') (.int .u8 high') (.int .i32 val') (.string s'), Nat.le_refl _, set8_kp k0 (Nat.le_refl _) (.int .i64 i') (.bool met') (.int .i64 need') (.int .i64 has') (.int .u8 low') (.int .u8 high') (.int .i32 val') (.string s')⟩)
                    | exact ⟨_, A1, n1, c1, rfl, rfl, KsF.kp (KsF.weak ho1 (fun j _ h => h)) ((Kp.refl _).alloc _), Bx.new _ _ _, hz1, k0.alloc _⟩
                case rest =>
                  obtain ⟨g, A1, n1, c1, rfl, rfl, ks1, bg, hg1, k1⟩ := hcut
                  have hbB := hbA.kp k1
                  have hbl := hbA.lt
                  have kwB := kwA.trans k1
                  clear hbA kwA k1 p0 p1 p2 p3 p4 p5 p6 p7 q0 q1 q2 q3 q4 q5 q6 q7 HFE
                  obtain ⟨⟨p0, p1, p2, p3, p4, p5, p6, p7⟩, q0, q1, q2, q3, q4, q5, q6, q7⟩ := hbB.eight
                  obtain ⟨⟨r0, r1, r2, r3, r4, r5, r6, r7⟩, _⟩ := bg.eight
                  go_upto_region 20 with fail
                  have hb5 := bx_set8 hbB (.int .i64 i') (.bool met') (.int .i64 need') (.int .i64 has') (.int .u8 low') (.int .u8 high') (.int .i32 val') (.string s')
                  have ks5 := ksf_set8 ks1 (b := w.heap.size) (fun h => by unfold From at h; omega) (.int .i64 i') (.bool met') (.int .i64 need') (.int .i64 has') (.int .u8 low') (.int .u8 high') (.int .i32 val') (.string s')
                  have kw5 := set8_kp kwB (b := w.heap.size) (Nat.le_refl _) (.int .i64 i') (.bool met') (.int .i64 need') (.int .i64 has') (.int .u8 low') (.int .u8 high') (.int .i32 val') (.string s')
                  unfold set8 at hb5 ks5 kw5
                  clear hbB ks1 kwB bg p0 p1 p2 p3 p4 p5 p6 p7 q0 q1 q2 q3 q4 q5 q6 q7 r0 r1 r2 r3 r4 r5 r6 r7
                  generalize (((((((wc.setCell ⟨w.heap.size, 0, none⟩ (.int .i64 i')).setCell ⟨w.heap.size, 1, none⟩ (.bool met')).setCell ⟨w.heap.size, 2, none⟩ (.int .i64 need')).setCell ⟨w.heap.size, 3, none⟩ (.int .i64 has')).setCell ⟨w.heap.size, 4, none⟩ (.int .u8 low')).setCell ⟨w.heap.size, 5, none⟩ (.int .u8 high')).setCell ⟨w.heap.size, 6, none⟩ (.int .i32 val')).setCell ⟨w.heap.size, 7, none⟩ (.string s') = w5 at *
                  have HFIN : ∀ wx : World, Kp w5 wx → Bx wx w.heap.size (feedsP Pm.zero ((openM ++ by8 s ++ endsM).take (k2 + 1))).1.cells 42 := fun wx kx => by
                    rw [HST.out]
                    show Bx _ _ #[.int .i64 i', .bool met', .int .i64 need', .int .i64 has', .int .u8 low', .int .u8 high', .int .i32 val', .string (bs8 pend')] _
                    rw [HS'.out]
                    exact hb5.kp kx
                  have HFN := Lib.hid HFIN
                  clear HFIN hb5
                  by_cases hlast : k2 + 1 = al.size
                  · have hq := HQ2.out (by have h1 := HSZ.out; have h2 := HL.out; omega)
                    have hq1 : (Pm.mk i' met' ⟨need', has', low', high', val'⟩ pend') = Pm.zero := congrArg Prod.fst hq
                    have hq2 : ks' = [⟨4, 0, false, decodeM (by8 s)⟩] := congrArg Prod.snd hq
                    rw [hq2] at ks5
                    have HQZ := Lib.hid hq1
                    have hn1 : n1 = 1 := by have := ks5.len; exact this.symm
                    subst hn1
                    have hd := fun wx : World => refDecode_any s (by omega) wx
                    rw [← decode_law] at hd
                    have HD := Lib.hid hd
                    have ha1 : ¬ ((k2 : Int) < (al.size : Int) - 1) := by omega
                    have ha2 : ((k2 : Int) == (al.size : Int) - 1) = true := by simp; omega
                    have HLA := Lib.hid hlast
                    clear hd hq hq1 hq2 HQ1 HQ2 hlast
                    go_wp2_with (first
                      | (go_at_call 15; refine (HD.out _).mono ?_; rintro e w6 ⟨A6, n6, c6, rfl, hr6, k6⟩)
                      | (go_at_call 32; refine (keysSame _ Any A1 _ _ c1 _ _ [⟨4, 0, false, decodeM (by8 s)⟩] _ (ks5.kp (k6.alloc _)) ⟨[[.int .i64 4, .int .i32 0, .bool false, .slice A6 n6 c6]], Sl.new_ w6 #[.int .i64 4, .int .i32 0, .bool false, .slice A6 n6 c6] _ 4 1 _ rfl trivial rfl (by omega), ⟨⟨A6, n6, c6, rfl, Sl.any (Sl.alloc hr6 _)⟩, trivial⟩, rfl⟩).mono ?_; rintro e w7 ⟨rfl, d7⟩))
                    go_roundg (al.size - (k2 + 1))
                    case measure => have := HLA.out; omega
                    case rel => exact ⟨k2 + 1, by have := HLA.out; omega, by go_num, fun _ => by rw [HST.out]; exact HQZ.out, HFN.out _ ((k6.alloc _).trans d7.kp), (kw5.trans (k6.alloc _)).trans d7.kp⟩
                  · have hq2 : ks' = [] := HQ1.out (by have h1 := HSZ.out; have h2 := HL.out; omega)
                    rw [hq2] at ks5
                    have hn1 : n1 = 0 := by have := ks5.len; exact this.symm
                    subst hn1
                    clear hq2 HQ1 HQ2
                    go_wp2_with fail
                    go_roundg (al.size - (k2 + 1))
                    case measure => omega
                    case rel => exact ⟨k2 + 1, by omega, by go_num, fun h => absurd h hlast, HFN.out _ (Kp.refl _), kw5⟩
          · obtain rfl : k2 = al.size := by omega
            rw [HZ.out rfl] at hb
            have hwz := fun wx : World => waits_any' Pm.zero wx
            have hwz0 : waitsP Pm.zero = false := rfl
            have hbs : bs8 [] = ⟨#[]⟩ := rfl
            rw [hwz0] at hwz
            dsimp only [Pm.v, Pm.cells, Pm.zero, Dm.zero] at hwz hb
            rw [hbs] at hwz hb
            have HWZ := Lib.hid hwz
            clear hwz hwz0 hbs HZ
            obtain ⟨⟨p0, p1, p2, p3, p4, p5, p6, p7⟩, q0, q1, q2, q3, q4, q5, q6, q7⟩ := hb.eight
            go_wp2_with (first
              | (go_at_call 33; refine (HWZ.out _).mono ?_; rintro e w8 ⟨rfl, k8⟩)
              | (go_at_call 34; refine (HAW.out _).mono ?_; rintro e w9 ⟨rfl, k9⟩))
            go_ret
            exact ⟨rfl, (kw.trans k8).trans k9⟩

/-- KeysPastes: the walk. -/
theorem keysPastes_walk (s : ByteArray) (_hs : s.size ≤ maxLen) (tk : Int) (_ : (Lit.int .i64 tk).wf = true) (w : World) : Calls Try.prog 11 #[.string s, .int .i64 tk] w fun e w' => e = .returned (.bool true) ∧ Kp w w' := by
  by_cases h : 300 < s.size
  · exact keysPastes_walk' s _ (.inl ⟨h, rfl⟩) tk w
  · exact keysPastes_walk' s _ (.inr ⟨by omega, rfl⟩) tk w
end Go.Proofs.Ytmeefngkbcfpeaa
