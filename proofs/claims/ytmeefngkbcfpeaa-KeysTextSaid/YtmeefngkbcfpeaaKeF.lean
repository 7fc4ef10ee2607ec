/-
  package keys: Tick. No conditions but that the parser is within one of its five places.
-/
import Derived.Test.YtmeefngkbcfpeaaKeE
namespace Go.Proofs.Ytmeefngkbcfpeaa
open Go.RowKit

set_option maxRecDepth 100000 in
set_option maxHeartbeats 1200000 in
theorem tick_any (p : Pm) (w : World) : Calls Try.prog 30 #[p.v] w (RetPk (tickP p) w) := by
  have hbr := fun wx => broken_any p wx
  have hP : tickP p = if p.inn = 1 then (Pm.zero, [⟨2, 27, false, []⟩]) else if p.inn = 2 ∨ p.inn = 3 then (Pm.zero, [nameM 0]) else if p.inn = 4 then (p, []) else (Pm.zero, brokenM p) := rfl
  generalize brokenM p = ks at *
  obtain ⟨i, met, ⟨need, has, low, high, val⟩, pend⟩ := p
  unfold RetKs at hbr
  dsimp only [Pm.v, Pm.cells, Dm.v] at hbr hP ⊢
  have HBR := Lib.hid hbr
  clear hbr
  have HNA := Lib.hid fun (wx : World) => named_any 0 wx
  generalize hs : bs8 pend = s at *
  have HS := Lib.hid hs
  clear hs
  have br1 := Bx.new (w.alloc (.cells #[.int .i64 i, .bool met, .int .i64 need, .int .i64 has, .int .u8 low, .int .u8 high, .int .i32 val, .string s] 42)) #[.int .i64 0, .bool false, .int .i64 0, .int .i64 0, .int .u8 0, .int .u8 0, .int .i32 0, .string ByteArray.empty] 42
  rw [World.size_alloc] at br1
  have kp1 := ((Kp.refl w).alloc (.cells #[.int .i64 i, .bool met, .int .i64 need, .int .i64 has, .int .u8 low, .int .u8 high, .int .i32 val, .string s] 42)).alloc (.cells #[.int .i64 0, .bool false, .int .i64 0, .int .i64 0, .int .u8 0, .int .u8 0, .int .i32 0, .string ByteArray.empty] 42)
  by_cases c1 : i = 1
  · subst c1
    have HP : Hid (tickP ⟨1, met, ⟨need, has, low, high, val⟩, pend⟩ = (Pm.zero, [⟨2, 27, false, []⟩])) := by show _ = _; rw [hP]; simp
    clear hP
    rw [HP.out]
    go_enter Try.func30, Try.ntmps30
    go_wp2_with fail
    refine bodyPost_ret (v := .tuple #[Pm.zero.v, .slice (some ⟨w.heap.size + 1 + 1, 0, none⟩) 1 1]) (by simp [results, Try.results30, go_sem, Pm.v, Pm.cells, Pm.zero, Dm.zero, bs8]) rfl ?_
    exact ⟨_, 1, 1, rfl, Own.new_ _ #[.int .i64 2, .int .i32 27, .bool false, .slice none 0 0] 57 4 1 (w.heap.size + 1 + 1) w.heap.size (by simp) (by omega) rfl (by omega), (((Kp.refl w).alloc _).alloc _).alloc _⟩
  · have hb1 : (i == 1) = false := by simpa using c1
    by_cases c2 : i = 2 ∨ i = 3
    · have HP : Hid (tickP ⟨i, met, ⟨need, has, low, high, val⟩, pend⟩ = (Pm.zero, [nameM 0])) := by show _ = _; rw [hP, if_neg c1, if_pos c2]
      clear hP
      rw [HP.out]
      rcases c2 with rfl | rfl
      all_goals
        go_enter Try.func30, Try.ntmps30
        go_wp2_with (go_at_call 43; refine (HNA.out _).mono ?_; rintro e w2 ⟨A2, n2, c2, rfl, ho2, k2⟩; have br2 := br1.kp k2; simp only [World.size_alloc] at ho2; have kp2 := kp1.trans k2; obtain ⟨⟨r0, r1, r2, r3, r4, r5, r6, r7⟩, t0, t1, t2, t3, t4, t5, t6, t7⟩ := br2.eight)
        refine bodyPost_ret (v := .tuple #[Pm.zero.v, .slice A2 n2 c2]) (by simp [results, Try.results30, go_sem, r0, r1, r2, r3, r4, r5, r6, r7, Pm.v, Pm.cells, Pm.zero, Dm.zero, bs8]) rfl ?_
        exact ⟨A2, n2, c2, rfl, (set8_own ho2 (by omega) _ _ _ _ _ _ _ _).more (by omega), set8_kp kp2 (by omega) _ _ _ _ _ _ _ _⟩
    · have hb2 : (i == 2) = false := by simp; omega
      have hb3 : (i == 3) = false := by simp; omega
      by_cases c3 : i = 4
      · subst c3
        have HP : Hid (tickP ⟨4, met, ⟨need, has, low, high, val⟩, pend⟩ = (⟨4, met, ⟨need, has, low, high, val⟩, pend⟩, [])) := by show _ = _; rw [hP]; simp
        clear hP
        rw [HP.out]
        go_enter Try.func30, Try.ntmps30
        go_wp2_with fail
        have brF := Bx.new (w.alloc (.cells #[.int .i64 4, .bool met, .int .i64 need, .int .i64 has, .int .u8 low, .int .u8 high, .int .i32 val, .string s] 42)) #[.int .i64 4, .bool met, .int .i64 need, .int .i64 has, .int .u8 low, .int .u8 high, .int .i32 val, .string s] 42
        rw [World.size_alloc] at brF
        obtain ⟨⟨r0, r1, r2, r3, r4, r5, r6, r7⟩, _⟩ := brF.eight
        refine bodyPost_ret (v := .tuple #[(Pm.mk 4 met ⟨need, has, low, high, val⟩ pend).v, .slice none 0 0]) (by simp [results, Try.results30, go_sem, r0, r1, r2, r3, r4, r5, r6, r7, Pm.v, Pm.cells, HS.out]) rfl ?_
        exact ⟨none, 0, 0, rfl, Own.nil _ _ _ _, ((Kp.refl w).alloc _).alloc _⟩
      · have hb4 : (i == 4) = false := by simpa using c3
        have HP : Hid (tickP ⟨i, met, ⟨need, has, low, high, val⟩, pend⟩ = (Pm.zero, ks)) := by show _ = _; rw [hP, if_neg c1, if_neg c2, if_neg c3]
        clear hP
        rw [HP.out]
        clear c1 c2 c3
        go_enter Try.func30, Try.ntmps30
        go_wp2_with (go_at_call 53; refine (HBR.out _).mono ?_; rintro e w2 ⟨A2, n2, c2, rfl, ho2, k2⟩; have br2 := br1.kp k2; simp only [World.size_alloc] at ho2; have kp2 := kp1.trans k2; obtain ⟨⟨r0, r1, r2, r3, r4, r5, r6, r7⟩, t0, t1, t2, t3, t4, t5, t6, t7⟩ := br2.eight)
        refine bodyPost_ret (v := .tuple #[Pm.zero.v, .slice A2 n2 c2]) (by simp [results, Try.results30, go_sem, r0, r1, r2, r3, r4, r5, r6, r7, Pm.v, Pm.cells, Pm.zero, Dm.zero, bs8]) rfl ?_
        exact ⟨A2, n2, c2, rfl, (set8_own ho2 (by omega) _ _ _ _ _ _ _ _).more (by omega), set8_kp kp2 (by omega) _ _ _ _ _ _ _ _⟩
end Go.Proofs.Ytmeefngkbcfpeaa
