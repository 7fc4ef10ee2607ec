/-
  package keys: plain. Conditions: a byte from 0 to 255; a decoder that feeding can make.
-/
import Derived.Test.YtmeefngkbcfpeaaKeC
namespace Go.Proofs.Ytmeefngkbcfpeaa
open Go.RowKit

theorem brokenM_len (p : Pm) : (brokenM p).length ≤ 1 := by unfold brokenM; rw [charsM_len]; exact endM_len _

set_option maxRecDepth 100000 in
set_option maxHeartbeats 3200000 in
theorem plain_any (p : Pm) (hd : p.d.ok) (b : Int) (h0 : 0 ≤ b) (h1 : b ≤ 255) (w : World) : Calls Try.prog 42 #[p.v, .int .u8 b] w (RetPk (plainM p b) w) := by
  have HBL := Lib.hid (brokenM_len p)
  have hsc := fun wx => scalar_any p hd b h0 h1 wx
  have hbr := fun wx => broken_any p wx
  have hP : plainM p b = if b = 27 then (⟨1, false, Dm.zero, []⟩, brokenM p) else if ctlM b = true then (Pm.zero, brokenM p ++ [⟨2, b, false, []⟩]) else scalarM p b := rfl
  generalize brokenM p = ks at *
  generalize scalarM p b = sc at *
  obtain ⟨i, met, ⟨need, has, low, high, val⟩, pend⟩ := p
  obtain ⟨⟨i', met', ⟨need', has', low', high', val'⟩, pend'⟩, ks'⟩ := sc
  unfold RetPk at hsc
  dsimp only [Pm.v, Pm.cells, Dm.v] at hsc hbr ⊢
  have HSC := Lib.hid hsc
  have HBR := Lib.hid hbr
  clear hsc hbr hd
  have HCT := Lib.hid fun (wx : World) => control_any b wx
  generalize bs8 pend = s at *
  have bp1 := (Bx.new w #[.int .i64 i, .bool met, .int .i64 need, .int .i64 has, .int .u8 low, .int .u8 high, .int .i32 val, .string s] 42).alloc (.cells #[.int .i64 0, .bool false, .int .i64 0, .int .i64 0, .int .u8 0, .int .u8 0, .int .i32 0, .string ByteArray.empty] 42)
  have br1 := Bx.new (w.alloc (.cells #[.int .i64 i, .bool met, .int .i64 need, .int .i64 has, .int .u8 low, .int .u8 high, .int .i32 val, .string s] 42)) #[.int .i64 0, .bool false, .int .i64 0, .int .i64 0, .int .u8 0, .int .u8 0, .int .i32 0, .string ByteArray.empty] 42
  rw [World.size_alloc] at br1
  have kp1 := ((Kp.refl w).alloc (.cells #[.int .i64 i, .bool met, .int .i64 need, .int .i64 has, .int .u8 low, .int .u8 high, .int .i32 val, .string s] 42)).alloc (.cells #[.int .i64 0, .bool false, .int .i64 0, .int .i64 0, .int .u8 0, .int .u8 0, .int .i32 0, .string ByteArray.empty] 42)
  by_cases h : b = 27
  · subst h
    have HP : Hid (plainM ⟨i, met, ⟨need, has, low, high, val⟩, pend⟩ 27 = (⟨1, false, Dm.zero, []⟩, ks)) := by show _ = _; rw [hP, if_pos rfl]
    clear hP
    rw [HP.out]
    go_enter Try.func42, Try.ntmps42
    go_wp2_with (go_at_call 53; refine (HBR.out _).mono ?_; rintro e w2 ⟨A2, n2, c2, rfl, ho2, k2⟩; have br2 := br1.kp k2; obtain ⟨⟨r0, r1, r2, r3, r4, r5, r6, r7⟩, t0, t1, t2, t3, t4, t5, t6, t7⟩ := br2.eight)
    refine bodyPost_ret (v := .tuple #[(Pm.mk 1 false Dm.zero []).v, .slice A2 n2 c2]) (by simp [results, Try.results42, go_sem, r0, r1, r2, r3, r4, r5, r6, r7, Pm.v, Pm.cells, Dm.zero, bs8]) rfl ?_
    simp only [World.size_alloc] at ho2
    exact ⟨A2, n2, c2, rfl, (set8_own ho2 (by omega) _ _ _ _ _ _ _ _).more (by omega), set8_kp (kp1.trans k2) (by omega) _ _ _ _ _ _ _ _⟩
  · have hb : (b == 27) = false := by simpa using h
    by_cases hc : ctlM b = true
    · have HP : Hid (plainM ⟨i, met, ⟨need, has, low, high, val⟩, pend⟩ b = (Pm.zero, ks ++ [⟨2, b, false, []⟩])) := by show _ = _; rw [hP, if_neg h, if_pos hc]
      clear hP
      rw [HP.out]
      have hct := HCT.out
      rw [hc] at hct
      have HC2 := Lib.hid hct
      have hwr : IntKind.i32.wrap b = b := by simp [IntKind.wrap, IntKind.signed, IntKind.bits]; omega
      clear h hc hct HCT
      go_enter Try.func42, Try.ntmps42
      go_wp2_with (first
        | (go_at_call 41; refine (HC2.out _).mono ?_; rintro e w' ⟨rfl, hw'⟩; subst hw')
        | (go_at_call 53; refine (HBR.out _).mono ?_; rintro e w2 ⟨A2, n2, c2, rfl, ho2, k2⟩; have br2 := br1.kp k2; simp only [World.size_alloc] at ho2; have kp2 := kp1.trans k2; have hz2 := br2.lt; have hn2 : n2 ≤ 1 := (by have h1 := ho2.len; rw [K4_length] at h1; have := HBL.out; omega); have hz3 : w.heap.size + 1 + 1 ≤ w2.heap.size := (by omega))
        | (at_builtin; refine wpList_append_sl _ rfl (.tmp 17) (.tmp 21) _ rfl (w.heap.size + 1 + 1) 57 _ 4 40 Try.underlying46 infoKey rfl (by omega) A2 n2 c2 (K4 ks) rfl (ho2.alloc _) Any _ 1 1 [.int .i64 2, .int .i32 b, .bool false, .slice none 0 0] rfl (Sl.new _ _ _ _ _ trivial rfl (by omega)) (by simp [Value.oneCell']) (by simp only [maxLen]; omega) (by omega) (by first | omega | (simp; omega)) ?_; intro A4 c4 w4 hown4 hg4 hat4; have hr3 : ∀ g, rowOf A2 = some g → w.heap.size + 1 + 1 ≤ g := (fun g e => (ho2.lt g e).1); have br4 := Bx.grown (br2.alloc (.cells #[.int .i64 2, .int .i32 b, .bool false, .slice none 0 0] 57)) hg4 (fun e => by have := hr3 _ e; omega); obtain ⟨⟨r0, r1, r2, r3, r4, r5, r6, r7⟩, t0, t1, t2, t3, t4, t5, t6, t7⟩ := br4.eight))
      refine bodyPost_ret (v := .tuple #[Pm.zero.v, .slice A4 (n2 + 1) c4]) (by simp [results, Try.results42, go_sem, r0, r1, r2, r3, r4, r5, r6, r7, Pm.v, Pm.cells, Pm.zero, Dm.zero, bs8]) rfl ?_
      have k4 := (kp2.alloc (.cells #[.int .i64 2, .int .i32 b, .bool false, .slice none 0 0] 57)).grown hg4 fun g e => by have := hr3 g e; omega
      exact ⟨A4, n2 + 1, c4, rfl, by rw [K4_append]; exact (set8_own hown4 (by omega) _ _ _ _ _ _ _ _).more (by omega), set8_kp k4 (by omega) _ _ _ _ _ _ _ _⟩
    · have hcf : ctlM b = false := by simpa using hc
      have HP : Hid (plainM ⟨i, met, ⟨need, has, low, high, val⟩, pend⟩ b = (⟨i', met', ⟨need', has', low', high', val'⟩, pend'⟩, ks')) := by show _ = _; rw [hP, if_neg h, if_neg hc]
      clear hP
      rw [HP.out]
      have hct := HCT.out
      rw [hcf] at hct
      have HC2 := Lib.hid hct
      clear h hc hcf hct HCT
      go_enter Try.func42, Try.ntmps42
      go_wp2_with (first
        | (go_at_call 41; refine (HC2.out _).mono ?_; rintro e w' ⟨rfl, hw'⟩; subst hw')
        | (go_at_call 57; refine (HSC.out _).mono ?_; rintro e w2 ⟨A2, n2, c2, rfl, ho2, k2⟩; have br2 := br1.kp k2; simp only [World.size_alloc] at ho2; have kp2 := kp1.trans k2; obtain ⟨⟨r0, r1, r2, r3, r4, r5, r6, r7⟩, t0, t1, t2, t3, t4, t5, t6, t7⟩ := br2.eight))
      refine bodyPost_ret (v := .tuple #[(Pm.mk i' met' ⟨need', has', low', high', val'⟩ pend').v, .slice A2 n2 c2]) (by simp [results, Try.results42, go_sem, r0, r1, r2, r3, r4, r5, r6, r7, Pm.v, Pm.cells]) rfl ?_
      exact ⟨A2, n2, c2, rfl, (set8_own ho2 (by omega) _ _ _ _ _ _ _ _).more (by omega), set8_kp kp2 (by omega) _ _ _ _ _ _ _ _⟩
end Go.Proofs.Ytmeefngkbcfpeaa
