/-
  package keys: escaped. Conditions: a byte from 0 to 255.
-/
import Derived.Test.YtmeefngkbcfpeaaKeD
namespace Go.Proofs.Ytmeefngkbcfpeaa
open Go.RowKit

set_option maxRecDepth 100000 in
set_option maxHeartbeats 1200000 in
theorem escaped_any (p : Pm) (b : Int) (h0 : 0 ≤ b) (h1 : b ≤ 255) (w : World) : Calls Try.prog 39 #[p.v, .int .u8 b] w (RetPk (escapedM p b) w) := by
  have hsc := fun wx => scalar_any ⟨0, true, Dm.zero, []⟩ (.inl rfl) b h0 h1 wx
  have hP : escapedM p b = if b = 91 then (⟨2, false, Dm.zero, []⟩, []) else if b = 79 then (⟨3, false, Dm.zero, []⟩, []) else if b = 27 then (p, [⟨2, 27, false, []⟩])
    else if ctlM b = true then (Pm.zero, [⟨2, b, true, []⟩]) else scalarM ⟨0, true, Dm.zero, []⟩ b := rfl
  generalize scalarM ⟨0, true, Dm.zero, []⟩ b = sc at *
  obtain ⟨i, met, ⟨need, has, low, high, val⟩, pend⟩ := p
  obtain ⟨⟨i', met', ⟨need', has', low', high', val'⟩, pend'⟩, ks'⟩ := sc
  unfold RetPk at hsc
  dsimp only [Pm.v, Pm.cells, Dm.v, Dm.zero] at hsc ⊢
  have hbs : bs8 [] = ByteArray.empty := rfl
  rw [hbs] at hsc
  have HSC := Lib.hid hsc
  clear hsc
  have HCT := Lib.hid fun (wx : World) => control_any b wx
  generalize hs : bs8 pend = s at *
  have HS := Lib.hid hs
  clear hs
  have br1 := Bx.new (w.alloc (.cells #[.int .i64 i, .bool met, .int .i64 need, .int .i64 has, .int .u8 low, .int .u8 high, .int .i32 val, .string s] 42)) #[.int .i64 0, .bool false, .int .i64 0, .int .i64 0, .int .u8 0, .int .u8 0, .int .i32 0, .string ByteArray.empty] 42
  rw [World.size_alloc] at br1
  have kp1 := ((Kp.refl w).alloc (.cells #[.int .i64 i, .bool met, .int .i64 need, .int .i64 has, .int .u8 low, .int .u8 high, .int .i32 val, .string s] 42)).alloc (.cells #[.int .i64 0, .bool false, .int .i64 0, .int .i64 0, .int .u8 0, .int .u8 0, .int .i32 0, .string ByteArray.empty] 42)
  by_cases c1 : b = 91
  · subst c1
    have HP : Hid (escapedM ⟨i, met, ⟨need, has, low, high, val⟩, pend⟩ 91 = (⟨2, false, Dm.zero, []⟩, [])) := by show _ = _; rw [hP]; simp
    clear hP
    rw [HP.out]
    go_enter Try.func39, Try.ntmps39
    go_wp2_with fail
    have brF := Bx.new (w.alloc (.cells #[.int .i64 i, .bool met, .int .i64 need, .int .i64 has, .int .u8 low, .int .u8 high, .int .i32 val, .string s] 42)) #[.int .i64 2, .bool false, .int .i64 0, .int .i64 0, .int .u8 0, .int .u8 0, .int .i32 0, .string ⟨#[]⟩] 42
    rw [World.size_alloc] at brF
    obtain ⟨⟨r0, r1, r2, r3, r4, r5, r6, r7⟩, _⟩ := brF.eight
    refine bodyPost_ret (v := .tuple #[(Pm.mk 2 false Dm.zero []).v, .slice none 0 0]) (by simp [results, Try.results39, go_sem, r0, r1, r2, r3, r4, r5, r6, r7, Pm.v, Pm.cells, Dm.zero, bs8]) rfl ?_
    exact ⟨none, 0, 0, rfl, Own.nil _ _ _ _, ((Kp.refl w).alloc _).alloc _⟩
  · by_cases c2 : b = 79
    · subst c2
      have HP : Hid (escapedM ⟨i, met, ⟨need, has, low, high, val⟩, pend⟩ 79 = (⟨3, false, Dm.zero, []⟩, [])) := by show _ = _; rw [hP]; simp
      clear hP c1
      rw [HP.out]
      go_enter Try.func39, Try.ntmps39
      go_wp2_with fail
      have brF := Bx.new (w.alloc (.cells #[.int .i64 i, .bool met, .int .i64 need, .int .i64 has, .int .u8 low, .int .u8 high, .int .i32 val, .string s] 42)) #[.int .i64 3, .bool false, .int .i64 0, .int .i64 0, .int .u8 0, .int .u8 0, .int .i32 0, .string ⟨#[]⟩] 42
      rw [World.size_alloc] at brF
      obtain ⟨⟨r0, r1, r2, r3, r4, r5, r6, r7⟩, _⟩ := brF.eight
      refine bodyPost_ret (v := .tuple #[(Pm.mk 3 false Dm.zero []).v, .slice none 0 0]) (by simp [results, Try.results39, go_sem, r0, r1, r2, r3, r4, r5, r6, r7, Pm.v, Pm.cells, Dm.zero, bs8]) rfl ?_
      exact ⟨none, 0, 0, rfl, Own.nil _ _ _ _, ((Kp.refl w).alloc _).alloc _⟩
    · have hb1 : (b == 91) = false := by simpa using c1
      have hb2 : (b == 79) = false := by simpa using c2
      by_cases c3 : b = 27
      · subst c3
        have HP : Hid (escapedM ⟨i, met, ⟨need, has, low, high, val⟩, pend⟩ 27 = (⟨i, met, ⟨need, has, low, high, val⟩, pend⟩, [⟨2, 27, false, []⟩])) := by show _ = _; rw [hP]; simp
        clear hP c1 c2
        rw [HP.out]
        go_enter Try.func39, Try.ntmps39
        go_wp2_with fail
        refine bodyPost_ret (v := .tuple #[(Pm.mk i met ⟨need, has, low, high, val⟩ pend).v, .slice (some ⟨w.heap.size + 1 + 1, 0, none⟩) 1 1]) (by simp [results, Try.results39, go_sem, Pm.v, Pm.cells, HS.out]) rfl ?_
        exact ⟨_, 1, 1, rfl, Own.new_ _ #[.int .i64 2, .int .i32 27, .bool false, .slice none 0 0] 57 4 1 (w.heap.size + 1 + 1) w.heap.size (by simp) (by omega) rfl (by omega), (((Kp.refl w).alloc _).alloc _).alloc _⟩
      · have hb3 : (b == 27) = false := by simpa using c3
        by_cases hc : ctlM b = true
        · have HP : Hid (escapedM ⟨i, met, ⟨need, has, low, high, val⟩, pend⟩ b = (Pm.zero, [⟨2, b, true, []⟩])) := by show _ = _; rw [hP, if_neg c1, if_neg c2, if_neg c3, if_pos hc]
          clear hP
          rw [HP.out]
          have hct := HCT.out
          rw [hc] at hct
          have HC2 := Lib.hid hct
          have hwr : IntKind.i32.wrap b = b := by simp [IntKind.wrap, IntKind.signed, IntKind.bits]; omega
          clear c1 c2 c3 hc hct HCT
          go_enter Try.func39, Try.ntmps39
          go_wp2_with (go_at_call 41; refine (HC2.out _).mono ?_; rintro e w' ⟨rfl, hw'⟩; subst hw')
          refine bodyPost_ret (v := .tuple #[Pm.zero.v, .slice (some ⟨w.heap.size + 1 + 1, 0, none⟩) 1 1]) (by simp [results, Try.results39, go_sem, Pm.v, Pm.cells, Pm.zero, Dm.zero, bs8]) rfl ?_
          exact ⟨_, 1, 1, rfl, Own.new_ _ #[.int .i64 2, .int .i32 b, .bool true, .slice none 0 0] 57 4 1 (w.heap.size + 1 + 1) w.heap.size (by simp) (by omega) rfl (by omega), (((Kp.refl w).alloc _).alloc _).alloc _⟩
        · have hcf : ctlM b = false := by simpa using hc
          have HP : Hid (escapedM ⟨i, met, ⟨need, has, low, high, val⟩, pend⟩ b = (⟨i', met', ⟨need', has', low', high', val'⟩, pend'⟩, ks')) := by show _ = _; rw [hP, if_neg c1, if_neg c2, if_neg c3, if_neg hc]
          clear hP
          rw [HP.out]
          have hct := HCT.out
          rw [hcf] at hct
          have HC2 := Lib.hid hct
          clear c1 c2 c3 hc hcf hct HCT
          go_enter Try.func39, Try.ntmps39
          go_wp2_with (first
            | (go_at_call 41; refine (HC2.out _).mono ?_; rintro e w' ⟨rfl, hw'⟩; subst hw')
            | (go_at_call 57; refine (HSC.out _).mono ?_; rintro e w2 ⟨A2, n2, c2, rfl, ho2, k2⟩; have br2 := br1.kp k2; simp only [World.size_alloc] at ho2; have kp2 := kp1.trans k2; obtain ⟨⟨r0, r1, r2, r3, r4, r5, r6, r7⟩, t0, t1, t2, t3, t4, t5, t6, t7⟩ := br2.eight))
          refine bodyPost_ret (v := .tuple #[(Pm.mk i' met' ⟨need', has', low', high', val'⟩ pend').v, .slice A2 n2 c2]) (by simp [results, Try.results39, go_sem, r0, r1, r2, r3, r4, r5, r6, r7, Pm.v, Pm.cells]) rfl ?_
          exact ⟨A2, n2, c2, rfl, (set8_own ho2 (by omega) _ _ _ _ _ _ _ _).more (by omega), set8_kp kp2 (by omega) _ _ _ _ _ _ _ _⟩
end Go.Proofs.Ytmeefngkbcfpeaa
