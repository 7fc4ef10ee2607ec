/-
  typebarlaw01.UtfSame: the walk: it returns true, and what was in memory stays. No conditions.
-/
import Derived.Test.YtmeefngkbcfpeaaUtfFeedsW
import Derived.Laws.StructEq
namespace Go.Proofs.Ytmeefngkbcfpeaa
open Go.RowKit

set_option maxRecDepth 10000 in
theorem eql_dec (d : Dm) (w : World) : (binOp .eql 28 (.agg #[.int .i64 d.need, .int .i64 d.has, .int .u8 d.low, .int .u8 d.high, .int .i32 d.val]) (.agg #[.int .i64 d.need, .int .i64 d.has, .int .u8 d.low, .int .u8 d.high, .int .i32 d.val])).run Try.prog w = .ok (.bool true) w := by
  rw [run_eql_struct, run_equalIn_struct _ _ _ _ _ (by simp only [Program.fieldsOf, Try.underlying28]) (by kernel_rfl)]
  simp only [Program.fieldsOf, Try.underlying28]
  simp [go_sem, Op.eqFields, Try.underlying3, Try.underlying5, Try.underlying21]

set_option maxRecDepth 100000 in
set_option maxHeartbeats 6400000 in
theorem utfSame_walk' (s0 s : ByteArray) (hcase : (300 < s0.size ∧ s = s0.extract 0 300) ∨ (s0.size ≤ 300 ∧ s = s0)) (bb : Int) (hb0 : 0 ≤ bb) (hb1 : bb ≤ 255) (w : World) : Calls Try.prog 5 #[.string s0, .int .u8 bb] w fun e w' => e = .returned (.bool true) ∧ Kp w w' := by
  have hs : s.size ≤ 300 := by
    rcases hcase with ⟨h, rfl⟩ | ⟨h, rfl⟩
    · rw [ByteArray.size_extract]; omega
    · exact h
  have hlen := by8_length s
  have HL := Lib.hid hlen
  clear hlen
  go_enter Try.func5, Try.ntmps5
  go_upto_if 15 with fail
  go_cut [0] (fun v wx => v = .string s ∧ w = wx)
  case first =>
    rcases hcase with ⟨h, rfl⟩ | ⟨h, rfl⟩
    · go_wp2_with fail
      go_meet
      exact ⟨rfl, rfl⟩
    · go_wp2_with fail
      go_meet
      exact ⟨rfl, rfl⟩
  case rest =>
    obtain ⟨rfl, rfl⟩ := hcut
    clear hcase
    go_wp2_with fail
    go_loopg [7] s.size (fun g i wr => ∃ (k : Nat) (d : Dm), k + g = s.size ∧ i = .int .i64 k ∧ Bx wr w.heap.size #[.int .i64 d.need, .int .i64 d.has, .int .u8 d.low, .int .u8 d.high, .int .i32 d.val] 28 ∧ Bx wr (w.heap.size + 1) #[.int .i64 d.need, .int .i64 d.has, .int .u8 d.low, .int .u8 d.high, .int .i32 d.val] 28 ∧ Kp w wr ∧ d.ok)
    case atStart =>
      have hy := Bx.new (w.alloc (.cells #[.int .i64 0, .int .i64 0, .int .u8 0, .int .u8 0, .int .i32 0] 28)) #[.int .i64 0, .int .i64 0, .int .u8 0, .int .u8 0, .int .i32 0] 28
      rw [World.size_alloc] at hy
      exact ⟨0, Dm.zero, by omega, rfl, (Bx.new w _ _).alloc _, hy, ((Kp.refl _).alloc _).alloc _, .inl rfl⟩
    case round =>
      obtain ⟨k, d, hk, rfl, hbx, hby, hkp, hdok⟩ := hrel
      by_cases hlt : k < s.size
      · have hkl : k < (by8 s).length := by rw [HL.out]; exact hlt
        have hbd := by8_bd s _ (List.getElem_mem hkl)
        obtain ⟨b, hb⟩ : ∃ b, (by8 s)[k]?.getD 0 = b := ⟨_, rfl⟩
        have hb' : (by8 s)[k] = b := by rw [← hb, List.getElem?_eq_getElem hkl]; rfl
        have ib := fun wx : World => run_index_str (P := Try.prog) wx 9 s .i64 k k Try.underlying9 rfl hlt b hb
        obtain ⟨d1, hd1⟩ : ∃ d1, d1 = (feedM d b).1 := ⟨_, rfl⟩
        rw [hb'] at hbd
        have D1 := Lib.hid hd1
        clear hd1 hb hb' hkl
        go_upto_region 7 with fail
        obtain ⟨p0, p1, p2, p3, p4, q0, q1, q2, q3, q4⟩ := hbx.five
        have nw : w.heap.size ≠ wr.heap.size := Nat.ne_of_lt hbx.lt
        go_cut [8] (fun vb wx => ∃ (g : Nat), vb = .pointer (some ⟨g, 0, none⟩) ∧ Bx wx g #[.int .i64 d1.need, .int .i64 d1.has, .int .u8 d1.low, .int .u8 d1.high, .int .i32 d1.val] 28 ∧ wr.heap.size ≤ g ∧ Kp wr wx)
        case first =>
          go_wp2_with fail
          go_region_held3 (fun w' => w'.cell? ⟨w.heap.size, 0, none⟩ = some (.int .i64 d.need) ∧ w'.cell? ⟨w.heap.size, 1, none⟩ = some (.int .i64 d.has) ∧ w'.cell? ⟨w.heap.size, 2, none⟩ = some (.int .u8 d.low) ∧ w'.cell? ⟨w.heap.size, 3, none⟩ = some (.int .u8 d.high) ∧ w'.cell? ⟨w.heap.size, 4, none⟩ = some (.int .i32 d.val))
            (first | (with_reducible exact ⟨u0, u1, u2, u3, u4⟩) | (with_reducible exact held5 hbx1 nw _ _ _ _ _) | (with_reducible exact held5 (hbx1.alloc _) n1' _ _ _ _ _) | go_keep)
            (first | (go_at_call 17; go_loud (refine (feed_any d hdok b hbd.1 hbd.2 _).mono ?_); rintro e w1 ⟨A1, n1, c1, rfl, hr1, hk1⟩; (first | (have k0 : Kp wr w1 := (Kp.refl wr).drew.trans hk1) | (have k0 : Kp wr w1 := ((Kp.refl wr).drew.alloc _).trans hk1)); have hbx1 := hbx.kp k0; have n1' : w.heap.size ≠ w1.heap.size := Nat.ne_of_lt hbx1.lt; (first | (have f0 : Bx w1 wr.heap.size _ _ := Bx.kp (Bx.new wr.drew _ _) hk1; obtain ⟨a0, a1, a2, a3, a4, b0, b1, b2, b3, b4⟩ := f0.five) | skip); obtain ⟨u0, u1, u2, u3, u4, v0, v1, v2, v3, v4⟩ := hbx1.five; obtain ⟨c00, c11, c2, c3, c4, e0, e1, e2, e3, e4⟩ := Bx.five (Bx.new w1 #[.int .i64 0, .int .i64 0, .int .u8 0, .int .u8 0, .int .i32 0] 28); unfold Dm.v; simp only [← D1.out]))
          all_goals go_wp2_with fail
          all_goals go_meet
          all_goals first
            | exact ⟨wr.heap.size, rfl, Bx.set5 f0 _ _ _ _ _, Nat.le_refl _, k0.set5 (Nat.le_refl _) _ _ _ _ _⟩
            | exact ⟨_, rfl, Bx.new _ _ _, k0.size, k0.alloc _⟩

        case rest =>
          obtain ⟨g1, rfl, hg1, hge1, hk1⟩ := hcut
          have hbx2 := hbx.kp hk1
          have hby2 := hby.kp hk1
          have hkp2 := hkp.trans hk1
          have hlb := hbx.lt
          have hlc := hby.lt
          have hl1 := hg1.lt
          clear hbx hby hkp hk1 p0 p1 p2 p3 p4 q0 q1 q2 q3 q4 nw
          obtain ⟨wd, hwd⟩ : ∃ wd, wd = wc := ⟨_, rfl⟩
          subst hwd
          go_upto_region 8 with fail
          obtain ⟨p0, p1, p2, p3, p4, q0, q1, q2, q3, q4⟩ := hby2.five
          have nw : (w.heap.size + 1) ≠ wd.heap.size := Nat.ne_of_lt hby2.lt
          go_cut [10] (fun vb wx => ∃ (g : Nat), vb = .pointer (some ⟨g, 0, none⟩) ∧ Bx wx g #[.int .i64 d1.need, .int .i64 d1.has, .int .u8 d1.low, .int .u8 d1.high, .int .i32 d1.val] 28 ∧ wd.heap.size ≤ g ∧ Kp wd wx)
          case first =>
            go_wp2_with fail
            go_region_held3 (fun w' => w'.cell? ⟨(w.heap.size + 1), 0, none⟩ = some (.int .i64 d.need) ∧ w'.cell? ⟨(w.heap.size + 1), 1, none⟩ = some (.int .i64 d.has) ∧ w'.cell? ⟨(w.heap.size + 1), 2, none⟩ = some (.int .u8 d.low) ∧ w'.cell? ⟨(w.heap.size + 1), 3, none⟩ = some (.int .u8 d.high) ∧ w'.cell? ⟨(w.heap.size + 1), 4, none⟩ = some (.int .i32 d.val))
              (first | (with_reducible exact ⟨u0, u1, u2, u3, u4⟩) | (with_reducible exact held5 hbx1 nw _ _ _ _ _) | (with_reducible exact held5 (hbx1.alloc _) n1' _ _ _ _ _) | go_keep)
              (first | (go_at_call 17; go_loud (refine (feed_any d hdok b hbd.1 hbd.2 _).mono ?_); rintro e w1 ⟨A1, n1, c1, rfl, hr1, hk1⟩; (first | (have k0 : Kp wd w1 := (Kp.refl wd).drew.trans hk1) | (have k0 : Kp wd w1 := ((Kp.refl wd).drew.alloc _).trans hk1)); have hbx1 := hby2.kp k0; have n1' : (w.heap.size + 1) ≠ w1.heap.size := Nat.ne_of_lt hbx1.lt; (first | (have f0 : Bx w1 wd.heap.size _ _ := Bx.kp (Bx.new wd.drew _ _) hk1; obtain ⟨a0, a1, a2, a3, a4, b0, b1, b2, b3, b4⟩ := f0.five) | skip); obtain ⟨u0, u1, u2, u3, u4, v0, v1, v2, v3, v4⟩ := hbx1.five; obtain ⟨c00, c11, c2, c3, c4, e0, e1, e2, e3, e4⟩ := Bx.five (Bx.new w1 #[.int .i64 0, .int .i64 0, .int .u8 0, .int .u8 0, .int .i32 0] 28); unfold Dm.v; simp only [← D1.out]))
            all_goals go_wp2_with fail
            all_goals go_meet
            all_goals first
              | exact ⟨wd.heap.size, rfl, Bx.set5 f0 _ _ _ _ _, Nat.le_refl _, k0.set5 (Nat.le_refl _) _ _ _ _ _⟩
              | exact ⟨_, rfl, Bx.new _ _ _, k0.size, k0.alloc _⟩

          case rest =>
            obtain ⟨g2, rfl, hg2, hge2, hk2⟩ := hcut
            have hg13 := hg1.kp hk2
            have hbx3 := hbx2.kp hk2
            have hby3 := hby2.kp hk2
            have hkp3 := hkp2.trans hk2
            have hok1 : d1.ok := by rw [D1.out]; exact feedM_ok _ _ hdok
            clear hbx2 hby2 hkp2 hk2 hg1 p0 p1 p2 p3 p4 q0 q1 q2 q3 q4 nw ib hdok D1
            obtain ⟨p0, p1, p2, p3, p4, q0, q1, q2, q3, q4⟩ := hbx3.five
            obtain ⟨s0, s1, s2, s3, s4, _, _, _, _, _⟩ := hg13.five
            have hx1 : g2 ≠ w.heap.size := by omega
            have hx2 : w.heap.size + 1 ≠ w.heap.size := by omega
            go_upto_region 10 with fail
            have hbx4 : Bx (set5 wc w.heap.size (.int .i64 d1.need) (.int .i64 d1.has) (.int .u8 d1.low) (.int .u8 d1.high) (.int .i32 d1.val)) _ _ _ := Bx.set5 hbx3 (.int .i64 d1.need) (.int .i64 d1.has) (.int .u8 d1.low) (.int .u8 d1.high) (.int .i32 d1.val)
            have hby4 := far5 hby3 hx2 (.int .i64 d1.need) (.int .i64 d1.has) (.int .u8 d1.low) (.int .u8 d1.high) (.int .i32 d1.val)
            have hg24 := far5 hg2 hx1 (.int .i64 d1.need) (.int .i64 d1.has) (.int .u8 d1.low) (.int .u8 d1.high) (.int .i32 d1.val)
            have hkp4 := hkp3.set5 (Nat.le_refl _) (.int .i64 d1.need) (.int .i64 d1.has) (.int .u8 d1.low) (.int .u8 d1.high) (.int .i32 d1.val)
            clear hbx3 hby3 hg2 hkp3 hg13 p0 p1 p2 p3 p4 q0 q1 q2 q3 q4 s0 s1 s2 s3 s4
            unfold set5 at hbx4 hby4 hg24 hkp4
            generalize (((((wc.setCell ⟨w.heap.size, 0, none⟩ (.int .i64 d1.need)).setCell ⟨w.heap.size, 1, none⟩ (.int .i64 d1.has)).setCell ⟨w.heap.size, 2, none⟩ (.int .u8 d1.low)).setCell ⟨w.heap.size, 3, none⟩ (.int .u8 d1.high)).setCell ⟨w.heap.size, 4, none⟩ (.int .i32 d1.val)) = wz at *
            obtain ⟨p0, p1, p2, p3, p4, q0, q1, q2, q3, q4⟩ := hby4.five
            obtain ⟨s0, s1, s2, s3, s4, _, _, _, _, _⟩ := hg24.five
            go_wp2_with fail
            go_roundg (s.size - (k + 1))
            case measure => omega
            case rel => exact ⟨k + 1, d1, by omega, by go_num, far5 hbx4 (by omega) _ _ _ _ _, Bx.set5 hby4 _ _ _ _ _, hkp4.set5 (by omega) _ _ _ _ _, hok1⟩
      · obtain ⟨p0, p1, p2, p3, p4, q0, q1, q2, q3, q4⟩ := hbx.five
        have hkd : ∀ w', Kp wr w' → Kp w w' := fun _ h => hkp.trans h
        have E1 : Try.prog.eqGuardType Try.prog.depth 28 = false := by kernel_rfl
        have E2 : Try.prog.stoodInHeld 28 = false := by kernel_rfl
        have E3 : Try.prog.underlying 28 = some (.struct (Try.prog.fieldsOf 28)) := by kernel_rfl
        go_wp2_with fail
        refine (pending_any d wr).mono ?_
        rintro e w1 ⟨rfl, k1⟩
        have hbx1 := hbx.kp k1
        have hby1 := hby.kp k1
        have hkp1 := hkp.trans k1
        clear hbx hby hkp k1 hkd p0 p1 p2 p3 p4 q0 q1 q2 q3 q4
        obtain ⟨p0, p1, p2, p3, p4, q0, q1, q2, q3, q4⟩ := hbx1.five
        go_wp2_with fail
        refine (feed_any d hdok bb hb0 hb1 w1).mono ?_
        rintro e w2 ⟨A2, n2, c2, rfl, hr2, k2⟩
        have hbx2 := hbx1.kp k2
        have hby2 := hby1.kp k2
        have hkp2 := hkp1.trans k2
        clear hbx1 hby1 hkp1 k2 hr2 p0 p1 p2 p3 p4 q0 q1 q2 q3 q4
        obtain ⟨p0, p1, p2, p3, p4, q0, q1, q2, q3, q4⟩ := hbx2.five
        obtain ⟨s0, s1, s2, s3, s4, _, _, _, _, _⟩ := hby2.five
        have EQ := eql_dec d
        clear E1 E2 E3
        have E1 : Try.prog.eqGuardType Try.prog.depth 28 = false := by kernel_rfl
        go_wp2_with fail
        refine (pending_any d w2).mono ?_
        rintro e w3 ⟨rfl, k3⟩
        have hkp3 := hkp2.trans k3
        clear hbx2 hby2 hkp2 k3 p0 p1 p2 p3 p4 q0 q1 q2 q3 q4 s0 s1 s2 s3 s4 EQ
        go_wp2_with fail
        refine (awake01 w3).mono ?_
        rintro e w4 ⟨rfl, k4⟩
        have hkp4 := hkp3.trans k4
        go_wp2_with fail
        go_ret
        exact ⟨rfl, hkp4⟩

/-- UtfSame: the walk. -/
theorem utfSame_walk (s : ByteArray) (_hs : s.size ≤ maxLen) (bb : Int) (wf : (Lit.int .u8 bb).wf = true) (w : World) : Calls Try.prog 5 #[.string s, .int .u8 bb] w fun e w' => e = .returned (.bool true) ∧ Kp w w' := by
  have hb : 0 ≤ bb ∧ bb ≤ 255 := by simp [Lit.wf] at wf; exact wf
  by_cases h : 300 < s.size
  · exact utfSame_walk' s _ (.inl ⟨h, rfl⟩) bb hb.1 hb.2 w
  · exact utfSame_walk' s _ (.inr ⟨by omega, rfl⟩) bb hb.1 hb.2 w
end Go.Proofs.Ytmeefngkbcfpeaa
