/-
  package keys: row. Conditions: a byte from 0 to 255; what waits are bytes, not more than 100000.
-/
import Derived.Test.YtmeefngkbcfpeaaKeG
namespace Go.Proofs.Ytmeefngkbcfpeaa
open Go.RowKit

theorem plainM_len (p : Pm) (b : Int) : (plainM p b).2.length ≤ 2 := by
  unfold plainM
  split
  · have := brokenM_len p; show (brokenM p).length ≤ 2; omega
  · split
    · have := brokenM_len p; simp; omega
    · unfold scalarM; show (charsM _ _).length ≤ 2; rw [charsM_len]; exact feedM_len _ _
theorem ctl_num (b : Int) : ctlM b = false ↔ (32 ≤ b ∧ b ≠ 127) := by unfold ctlM; simp
theorem isB_end : isB [50, 48, 48] := by intro b hb; simp at hb; rcases hb with rfl | rfl <;> omega
theorem isB_nil8 : isB [] := by intro b hb; cases hb

set_option maxRecDepth 100000 in
set_option maxHeartbeats 3200000 in
theorem keyRow_any (p : Pm) (hb : isB p.pend) (hpl : p.pend.length ≤ 100000) (b : Int) (h0 : 0 ≤ b) (h1 : b ≤ 255) (w : World) : Calls Try.prog 40 #[p.v, .int .u8 b] w (RetPk (rowM p b) w) := by
  have hpa := fun wx => plain_any Pm.zero (.inl rfl) b h0 h1 wx
  have HPL := Lib.hid (plainM_len Pm.zero b)
  have hP : rowM p b = if ctlM b = true ∨ 127 < b then ((plainM Pm.zero b).1, nameM 0 :: (plainM Pm.zero b).2)
    else if b < 64 ∧ p.pend.length = 16 then (Pm.zero, [nameM 0]) else if b < 64 then (⟨p.inn, p.met, p.d, p.pend ++ [b]⟩, [])
    else if b = 126 ∧ p.pend = [50, 48, 48] then (⟨4, false, Dm.zero, []⟩, []) else if b = 126 then (Pm.zero, [nameM (numberM p.pend)])
    else if p.pend ≠ [] then (Pm.zero, [nameM 0]) else (Pm.zero, [nameM (letterM b)]) := rfl
  generalize plainM Pm.zero b = pm at *
  obtain ⟨i, met, ⟨need, has, low, high, val⟩, pend⟩ := p
  obtain ⟨⟨i', met', ⟨need', has', low', high', val'⟩, pend'⟩, ks'⟩ := pm
  have HCT := Lib.hid fun (wx : World) => control_any b wx
  have HN0 := Lib.hid fun (wx : World) => named_any 0 wx
  have HNU := Lib.hid fun (wx : World) => number_any pend hb wx
  have HLE := Lib.hid fun (wx : World) => letter_any b wx
  have hsz := bs8_size pend
  have hq := bs8_beq hb isB_end
  have hn0 := bs8_beq hb isB_nil8
  have l2 : (bs8 [50, 48, 48]).toList = [50, 48, 48] := by rw [ByteArray.toList_eq]; rfl
  have l0 : (bs8 []).toList = [] := by rw [ByteArray.toList_eq]; rfl
  rw [l2] at hq
  rw [l0] at hn0
  clear l2 l0
  unfold RetPk at hpa
  dsimp only [Pm.v, Pm.cells, Dm.v, Pm.zero, Dm.zero] at hpa hpl hb HPL ⊢
  have hbs : bs8 [] = ByteArray.empty := rfl
  rw [hbs] at hpa
  have HPA := Lib.hid hpa
  clear hpa
  generalize hs : bs8 pend = s at *
  have HS := Lib.hid hs
  clear hs hbs
  have br1 := Bx.new (w.alloc (.cells #[.int .i64 i, .bool met, .int .i64 need, .int .i64 has, .int .u8 low, .int .u8 high, .int .i32 val, .string s] 42)) #[.int .i64 0, .bool false, .int .i64 0, .int .i64 0, .int .u8 0, .int .u8 0, .int .i32 0, .string ByteArray.empty] 42
  rw [World.size_alloc] at br1
  have kp1 := ((Kp.refl w).alloc (.cells #[.int .i64 i, .bool met, .int .i64 need, .int .i64 has, .int .u8 low, .int .u8 high, .int .i32 val, .string s] 42)).alloc (.cells #[.int .i64 0, .bool false, .int .i64 0, .int .i64 0, .int .u8 0, .int .u8 0, .int .i32 0, .string ByteArray.empty] 42)
  by_cases c1 : ctlM b = true ∨ 127 < b
  · have HP : Hid (rowM ⟨i, met, ⟨need, has, low, high, val⟩, pend⟩ b = (⟨i', met', ⟨need', has', low', high', val'⟩, pend'⟩, nameM 0 :: ks')) := by show _ = _; rw [hP, if_pos c1]
    clear hP hq hn0 HNU HLE hb hsz
    rw [HP.out]
    have hct := HCT.out
    obtain ⟨cb, hcb⟩ : ∃ cb, cb = ctlM b := ⟨_, rfl⟩
    rw [← hcb] at hct c1
    have HC2 := Lib.hid hct
    clear hct HCT hcb
    go_enter Try.func40, Try.ntmps40
    have hnq : ks'.length ≤ 2 := HPL.out
    clear HPL
    cases cb with
    | true =>
      go_wp2_with (first
        | (go_at_call 41; refine (HC2.out _).mono ?_; rintro e w' ⟨rfl, hw'⟩; subst hw')
        | (go_at_call 42; refine (HPA.out _).mono ?_; rintro e w2 ⟨A2, n2, c2, rfl, ho2, k2⟩; have br2 := br1.kp k2; simp only [World.size_alloc] at ho2; have kp2 := kp1.trans k2))
      have hn2 : n2 ≤ 2 := by have h1 := ho2.len; rw [K4_length] at h1; omega
      have hz2 := br2.lt
      have bq3 := Bx.new w2 #[.int .i64 i', .bool met', .int .i64 need', .int .i64 has', .int .u8 low', .int .u8 high', .int .i32 val', .string (bs8 pend')] 42
      have br3 := br2.alloc (.cells #[.int .i64 i', .bool met', .int .i64 need', .int .i64 has', .int .u8 low', .int .u8 high', .int .i32 val', .string (bs8 pend')] 42)
      have ho3 := ho2.alloc (.cells #[.int .i64 i', .bool met', .int .i64 need', .int .i64 has', .int .u8 low', .int .u8 high', .int .i32 val', .string (bs8 pend')] 42)
      have kp3 := kp2.alloc (.cells #[.int .i64 i', .bool met', .int .i64 need', .int .i64 has', .int .u8 low', .int .u8 high', .int .i32 val', .string (bs8 pend')] 42)
      have hz3 : (w2.alloc (.cells #[.int .i64 i', .bool met', .int .i64 need', .int .i64 has', .int .u8 low', .int .u8 high', .int .i32 val', .string (bs8 pend')] 42)).heap.size = w2.heap.size + 1 := by simp
      generalize w2.alloc (.cells #[.int .i64 i', .bool met', .int .i64 need', .int .i64 has', .int .u8 low', .int .u8 high', .int .i32 val', .string (bs8 pend')] 42) = w3 at *
      clear br2 ho2 kp2 k2
      generalize w2.heap.size = qb at *
      obtain ⟨⟨p0, p1, p2, p3, p4, p5, p6, p7⟩, q0, q1, q2, q3, q4, q5, q6, q7⟩ := bq3.eight
      obtain ⟨⟨r0, r1, r2, r3, r4, r5, r6, r7⟩, t0, t1, t2, t3, t4, t5, t6, t7⟩ := br3.eight
      have hqr : qb ≠ w.heap.size + 1 := by omega
      have HZ : Hid (w3.heap.size = qb + 1 ∧ w.heap.size + 1 < qb) := ⟨hz3, by omega⟩
      have HF : Hid (∀ (wx : World) (x0 x1 x2 x3 x4 x5 x6 x7 : Value), Bx wx qb #[.int .i64 i', .bool met', .int .i64 need', .int .i64 has', .int .u8 low', .int .u8 high', .int .i32 val', .string (bs8 pend')] 42 → Bx (set8 wx (w.heap.size + 1) x0 x1 x2 x3 x4 x5 x6 x7) qb #[.int .i64 i', .bool met', .int .i64 need', .int .i64 has', .int .u8 low', .int .u8 high', .int .i32 val', .string (bs8 pend')] 42) :=
        (fun wx x0 x1 x2 x3 x4 x5 x6 x7 h => ((((((((h.far (p := ⟨_, _, _⟩) hqr x0).far (p := ⟨_, _, _⟩) hqr x1).far (p := ⟨_, _, _⟩) hqr x2).far (p := ⟨_, _, _⟩) hqr x3).far (p := ⟨_, _, _⟩) hqr x4).far (p := ⟨_, _, _⟩) hqr x5).far (p := ⟨_, _, _⟩) hqr x6).far (p := ⟨_, _, _⟩) hqr x7) : ∀ (wx : World) (x0 x1 x2 x3 x4 x5 x6 x7 : Value), Bx wx qb #[.int .i64 i', .bool met', .int .i64 need', .int .i64 has', .int .u8 low', .int .u8 high', .int .i32 val', .string (bs8 pend')] 42 → Bx (set8 wx (w.heap.size + 1) x0 x1 x2 x3 x4 x5 x6 x7) qb #[.int .i64 i', .bool met', .int .i64 need', .int .i64 has', .int .u8 low', .int .u8 high', .int .i32 val', .string (bs8 pend')] 42)
      clear hz3 hqr hz2 hnq
      go_region_held3 (fun w' => w'.cell? ⟨qb, 0, none⟩ = some (.int .i64 i') ∧ w'.cell? ⟨qb, 1, none⟩ = some (.bool met') ∧ w'.cell? ⟨qb, 2, none⟩ = some (.int .i64 need') ∧ w'.cell? ⟨qb, 3, none⟩ = some (.int .i64 has') ∧ w'.cell? ⟨qb, 4, none⟩ = some (.int .u8 low') ∧ w'.cell? ⟨qb, 5, none⟩ = some (.int .u8 high') ∧ w'.cell? ⟨qb, 6, none⟩ = some (.int .i32 val') ∧ w'.cell? ⟨qb, 7, none⟩ = some (.string (bs8 pend')))
        (first | (with_reducible exact ⟨p0, p1, p2, p3, p4, p5, p6, p7⟩) | (with_reducible exact ⟨u0, u1, u2, u3, u4, u5, u6, u7⟩) | (with_reducible exact ⟨v0, v1, v2, v3, v4, v5, v6, v7⟩) | (have f5 := (Bx.eight (HF.out w5 (.int .i64 i') (.bool met') (.int .i64 need') (.int .i64 has') (.int .u8 low') (.int .u8 high') (.int .i32 val') (.string (bs8 pend')) bq5)).1; exact f5) | go_keep)
        (first | (go_at_call 43; refine (HN0.out _).mono ?_; rintro e w4 ⟨A4, n4, c4, rfl, ho4', k4'⟩; have k4 : Kp w3 w4 := (by first | exact k4' | exact (Kp.refl w3).drew.trans k4'); have ho4 : Own w4 w3.heap.size 57 4 A4 n4 c4 (K4 [nameM 0]) := ho4'; have hn4 : n4 = 1 := (by have h1 := ho4.len; rw [K4_length] at h1; simp at h1; omega); subst hn4; have bq4 := bq3.kp k4; have br4 := br3.kp k4; have kp4 := kp3.trans k4; have hol4 := ho3.kp k4; have hz4 := k4.size; clear ho4' k4' k4; obtain ⟨⟨u0, u1, u2, u3, u4, u5, u6, u7⟩, _⟩ := bq4.eight) | (refine step_append_sl _ (by rfl) _ _ _ (by rfl) w3.heap.size 57 _ 4 40 Try.underlying46 infoKey rfl (by omega) A4 1 c4 (K4 [nameM 0]) (by rfl) (by first | exact ho4 | exact Own.drew ho4) _ A2 n2 c2 (K4 ks') (by rfl) (by first | exact hol4.sl | exact Sl.drew hol4.sl) (K4_one _) (by simp only [maxLen]; omega) (by omega) (by first | exact hz4 | (simp; exact hz4)) ?_; intro A5 c5 w5 hown hg hat; have hr4 : ∀ g, rowOf A4 = some g → w3.heap.size ≤ g := (fun g e => (ho4.lt g e).1); have hzo := HZ.out; have bq5 := Bx.grown (by first | exact bq4 | exact Bx.drew bq4) hg (fun e => by have := hr4 _ e; omega); have br5 := Bx.grown (by first | exact br4 | exact Bx.drew br4) hg (fun e => by have := hr4 _ e; omega); have kp5 : Kp w w5 := Kp.grown (by first | exact kp4 | exact Kp.drew kp4) hg (fun g e => by have := hr4 _ e; omega); clear hzo; obtain ⟨⟨v0, v1, v2, v3, v4, v5, v6, v7⟩, _⟩ := bq5.eight; obtain ⟨⟨s0, s1, s2, s3, s4, s5, s6, s7⟩, g0, g1, g2, g3, g4, g5, g6, g7⟩ := br5.eight))
      go_wp2_with fail
      refine bodyPost_ret (v := .tuple #[(Pm.mk i' met' ⟨need', has', low', high', val'⟩ pend').v, .slice A5 (1 + n2) c5]) (by simp [results, Try.results40, go_sem, s0, s1, s2, s3, s4, s5, s6, s7, Pm.v, Pm.cells]) rfl ?_
      obtain ⟨hz, hq⟩ := HZ.out
      refine ⟨A5, 1 + n2, c5, rfl, ?_, set8_kp kp5 (by omega) _ _ _ _ _ _ _ _⟩
      have ho5 := (set8_own hown (b := w.heap.size + 1) (by omega) (.int .i64 i') (.bool met') (.int .i64 need') (.int .i64 has') (.int .u8 low') (.int .u8 high') (.int .i32 val') (.string (bs8 pend'))).more (base' := w.heap.size) (by omega)
      rw [← K4_append] at ho5
      exact ho5
    | false =>
      have c127 : 127 < b := by rcases c1 with c | c; cases c; exact c
      go_wp2_with (first
        | (go_at_call 41; refine (HC2.out _).mono ?_; rintro e w' ⟨rfl, hw'⟩; subst hw')
        | (go_at_call 42; refine (HPA.out _).mono ?_; rintro e w2 ⟨A2, n2, c2, rfl, ho2, k2⟩; have br2 := br1.kp k2; simp only [World.size_alloc] at ho2; have kp2 := kp1.trans k2))
      have hn2 : n2 ≤ 2 := by have h1 := ho2.len; rw [K4_length] at h1; omega
      have hz2 := br2.lt
      have bq3 := Bx.new w2 #[.int .i64 i', .bool met', .int .i64 need', .int .i64 has', .int .u8 low', .int .u8 high', .int .i32 val', .string (bs8 pend')] 42
      have br3 := br2.alloc (.cells #[.int .i64 i', .bool met', .int .i64 need', .int .i64 has', .int .u8 low', .int .u8 high', .int .i32 val', .string (bs8 pend')] 42)
      have ho3 := ho2.alloc (.cells #[.int .i64 i', .bool met', .int .i64 need', .int .i64 has', .int .u8 low', .int .u8 high', .int .i32 val', .string (bs8 pend')] 42)
      have kp3 := kp2.alloc (.cells #[.int .i64 i', .bool met', .int .i64 need', .int .i64 has', .int .u8 low', .int .u8 high', .int .i32 val', .string (bs8 pend')] 42)
      have hz3 : (w2.alloc (.cells #[.int .i64 i', .bool met', .int .i64 need', .int .i64 has', .int .u8 low', .int .u8 high', .int .i32 val', .string (bs8 pend')] 42)).heap.size = w2.heap.size + 1 := by simp
      generalize w2.alloc (.cells #[.int .i64 i', .bool met', .int .i64 need', .int .i64 has', .int .u8 low', .int .u8 high', .int .i32 val', .string (bs8 pend')] 42) = w3 at *
      clear br2 ho2 kp2 k2
      generalize w2.heap.size = qb at *
      obtain ⟨⟨p0, p1, p2, p3, p4, p5, p6, p7⟩, q0, q1, q2, q3, q4, q5, q6, q7⟩ := bq3.eight
      obtain ⟨⟨r0, r1, r2, r3, r4, r5, r6, r7⟩, t0, t1, t2, t3, t4, t5, t6, t7⟩ := br3.eight
      have hqr : qb ≠ w.heap.size + 1 := by omega
      have HZ : Hid (w3.heap.size = qb + 1 ∧ w.heap.size + 1 < qb) := ⟨hz3, by omega⟩
      have HF : Hid (∀ (wx : World) (x0 x1 x2 x3 x4 x5 x6 x7 : Value), Bx wx qb #[.int .i64 i', .bool met', .int .i64 need', .int .i64 has', .int .u8 low', .int .u8 high', .int .i32 val', .string (bs8 pend')] 42 → Bx (set8 wx (w.heap.size + 1) x0 x1 x2 x3 x4 x5 x6 x7) qb #[.int .i64 i', .bool met', .int .i64 need', .int .i64 has', .int .u8 low', .int .u8 high', .int .i32 val', .string (bs8 pend')] 42) :=
        (fun wx x0 x1 x2 x3 x4 x5 x6 x7 h => ((((((((h.far (p := ⟨_, _, _⟩) hqr x0).far (p := ⟨_, _, _⟩) hqr x1).far (p := ⟨_, _, _⟩) hqr x2).far (p := ⟨_, _, _⟩) hqr x3).far (p := ⟨_, _, _⟩) hqr x4).far (p := ⟨_, _, _⟩) hqr x5).far (p := ⟨_, _, _⟩) hqr x6).far (p := ⟨_, _, _⟩) hqr x7) : ∀ (wx : World) (x0 x1 x2 x3 x4 x5 x6 x7 : Value), Bx wx qb #[.int .i64 i', .bool met', .int .i64 need', .int .i64 has', .int .u8 low', .int .u8 high', .int .i32 val', .string (bs8 pend')] 42 → Bx (set8 wx (w.heap.size + 1) x0 x1 x2 x3 x4 x5 x6 x7) qb #[.int .i64 i', .bool met', .int .i64 need', .int .i64 has', .int .u8 low', .int .u8 high', .int .i32 val', .string (bs8 pend')] 42)
      clear hz3 hqr hz2 hnq
      go_region_held3 (fun w' => w'.cell? ⟨qb, 0, none⟩ = some (.int .i64 i') ∧ w'.cell? ⟨qb, 1, none⟩ = some (.bool met') ∧ w'.cell? ⟨qb, 2, none⟩ = some (.int .i64 need') ∧ w'.cell? ⟨qb, 3, none⟩ = some (.int .i64 has') ∧ w'.cell? ⟨qb, 4, none⟩ = some (.int .u8 low') ∧ w'.cell? ⟨qb, 5, none⟩ = some (.int .u8 high') ∧ w'.cell? ⟨qb, 6, none⟩ = some (.int .i32 val') ∧ w'.cell? ⟨qb, 7, none⟩ = some (.string (bs8 pend')))
        (first | (with_reducible exact ⟨p0, p1, p2, p3, p4, p5, p6, p7⟩) | (with_reducible exact ⟨u0, u1, u2, u3, u4, u5, u6, u7⟩) | (with_reducible exact ⟨v0, v1, v2, v3, v4, v5, v6, v7⟩) | (have f5 := (Bx.eight (HF.out w5 (.int .i64 i') (.bool met') (.int .i64 need') (.int .i64 has') (.int .u8 low') (.int .u8 high') (.int .i32 val') (.string (bs8 pend')) bq5)).1; exact f5) | go_keep)
        (first | (go_at_call 43; refine (HN0.out _).mono ?_; rintro e w4 ⟨A4, n4, c4, rfl, ho4', k4'⟩; have k4 : Kp w3 w4 := (by first | exact k4' | exact (Kp.refl w3).drew.trans k4'); have ho4 : Own w4 w3.heap.size 57 4 A4 n4 c4 (K4 [nameM 0]) := ho4'; have hn4 : n4 = 1 := (by have h1 := ho4.len; rw [K4_length] at h1; simp at h1; omega); subst hn4; have bq4 := bq3.kp k4; have br4 := br3.kp k4; have kp4 := kp3.trans k4; have hol4 := ho3.kp k4; have hz4 := k4.size; clear ho4' k4' k4; obtain ⟨⟨u0, u1, u2, u3, u4, u5, u6, u7⟩, _⟩ := bq4.eight) | (refine step_append_sl _ (by rfl) _ _ _ (by rfl) w3.heap.size 57 _ 4 40 Try.underlying46 infoKey rfl (by omega) A4 1 c4 (K4 [nameM 0]) (by rfl) (by first | exact ho4 | exact Own.drew ho4) _ A2 n2 c2 (K4 ks') (by rfl) (by first | exact hol4.sl | exact Sl.drew hol4.sl) (K4_one _) (by simp only [maxLen]; omega) (by omega) (by first | exact hz4 | (simp; exact hz4)) ?_; intro A5 c5 w5 hown hg hat; have hr4 : ∀ g, rowOf A4 = some g → w3.heap.size ≤ g := (fun g e => (ho4.lt g e).1); have hzo := HZ.out; have bq5 := Bx.grown (by first | exact bq4 | exact Bx.drew bq4) hg (fun e => by have := hr4 _ e; omega); have br5 := Bx.grown (by first | exact br4 | exact Bx.drew br4) hg (fun e => by have := hr4 _ e; omega); have kp5 : Kp w w5 := Kp.grown (by first | exact kp4 | exact Kp.drew kp4) hg (fun g e => by have := hr4 _ e; omega); clear hzo; obtain ⟨⟨v0, v1, v2, v3, v4, v5, v6, v7⟩, _⟩ := bq5.eight; obtain ⟨⟨s0, s1, s2, s3, s4, s5, s6, s7⟩, g0, g1, g2, g3, g4, g5, g6, g7⟩ := br5.eight))
      go_wp2_with fail
      refine bodyPost_ret (v := .tuple #[(Pm.mk i' met' ⟨need', has', low', high', val'⟩ pend').v, .slice A5 (1 + n2) c5]) (by simp [results, Try.results40, go_sem, s0, s1, s2, s3, s4, s5, s6, s7, Pm.v, Pm.cells]) rfl ?_
      obtain ⟨hz, hq⟩ := HZ.out
      refine ⟨A5, 1 + n2, c5, rfl, ?_, set8_kp kp5 (by omega) _ _ _ _ _ _ _ _⟩
      have ho5 := (set8_own hown (b := w.heap.size + 1) (by omega) (.int .i64 i') (.bool met') (.int .i64 need') (.int .i64 has') (.int .u8 low') (.int .u8 high') (.int .i32 val') (.string (bs8 pend'))).more (base' := w.heap.size) (by omega)
      rw [← K4_append] at ho5
      exact ho5
  · have hcf : ctlM b = false := by simpa using fun h => c1 (Or.inl h)
    have h127 : b ≤ 127 := by omega
    have hct := HCT.out
    rw [hcf] at hct
    have HC2 := Lib.hid hct
    obtain ⟨h32, hne127⟩ := (ctl_num b).1 hcf
    rw [if_neg c1] at hP
    clear hct HCT hcf c1 HPA HPL
    have hgt : ¬ 127 < b := by omega
    by_cases c2 : b < 64
    · by_cases c3 : pend.length = 16
      · have HP : Hid (rowM ⟨i, met, ⟨need, has, low, high, val⟩, pend⟩ b = (Pm.zero, [nameM 0])) := by show _ = _; rw [hP, if_pos ⟨c2, c3⟩]
        rw [c3] at hsz
        clear hP hq hn0 HNU HLE hb c3
        rw [HP.out]
        go_enter Try.func40, Try.ntmps40
        go_wp2_with (first | (go_at_call 41; refine (HC2.out _).mono ?_; rintro e w' ⟨rfl, hw'⟩; subst hw') | (go_at_call 43; refine (HN0.out _).mono ?_; rintro e w2 ⟨A2, n2, c2, rfl, ho2, k2⟩; have br2 := br1.kp k2; simp only [World.size_alloc] at ho2; have kp2 := kp1.trans k2; obtain ⟨⟨r0, r1, r2, r3, r4, r5, r6, r7⟩, t0, t1, t2, t3, t4, t5, t6, t7⟩ := br2.eight))
        refine bodyPost_ret (v := .tuple #[Pm.zero.v, .slice A2 n2 c2]) (by simp [results, Try.results40, go_sem, r0, r1, r2, r3, r4, r5, r6, r7, Pm.v, Pm.cells, Pm.zero, Dm.zero, bs8]) rfl ?_
        exact ⟨A2, n2, c2, rfl, (set8_own ho2 (by omega) _ _ _ _ _ _ _ _).more (by omega), set8_kp kp2 (by omega) _ _ _ _ _ _ _ _⟩
      · have HP : Hid (rowM ⟨i, met, ⟨need, has, low, high, val⟩, pend⟩ b = (⟨i, met, ⟨need, has, low, high, val⟩, pend ++ [b]⟩, [])) := by show _ = _; rw [hP, if_neg (fun h => c3 h.2), if_pos c2]
        have hl16 : ((s.size : Int) == 16) = false := by simp; omega
        have hcv := conv_sl (P := Try.prog) (((w.alloc (.cells #[.int .i64 i, .bool met, .int .i64 need, .int .i64 has, .int .u8 low, .int .u8 high, .int .i32 val, .string s] 42)).alloc (.cells #[.int .i64 0, .bool false, .int .i64 0, .int .i64 0, .int .u8 0, .int .u8 0, .int .i32 0, .string ⟨#[]⟩] 42)).alloc (.cells #[.int .u8 b] 5)) 60 9 5 Try.underlying60 Try.underlying5 Try.underlying9 (A := some ⟨w.heap.size + 1 + 1, 0, none⟩) (n := 1) (c := 1) (l := [b]) (F := Any) (Sl.new_ _ #[.int .u8 b] _ 1 1 _ (by simp) trivial rfl (by omega)) (isB_one h0 h1)
        have hs1 : (bs [b]).size = 1 := by rw [bs_size]; rfl
        have hs2 : s.size ≤ 100000 := by omega
        clear hP hq hn0 HNU HLE hb c3 hsz
        rw [HP.out]
        go_enter Try.func40, Try.ntmps40
        go_wp2_with (first | (go_at_call 41; refine (HC2.out _).mono ?_; rintro e w' ⟨rfl, hw'⟩; subst hw'))
        have hres : bs8 (pend ++ [b]) = s ++ bs [b] := by rw [bs8_app, HS.out]; rfl
        have brF := Bx.new (w.alloc (.cells #[.int .i64 i, .bool met, .int .i64 need, .int .i64 has, .int .u8 low, .int .u8 high, .int .i32 val, .string (s ++ bs [b])] 42)) #[.int .i64 i, .bool met, .int .i64 need, .int .i64 has, .int .u8 low, .int .u8 high, .int .i32 val, .string (s ++ bs [b])] 42
        rw [World.size_alloc] at brF
        obtain ⟨⟨r0, r1, r2, r3, r4, r5, r6, r7⟩, _⟩ := (brF.alloc (.cells #[.int .u8 b] 5)).eight
        refine bodyPost_ret (v := .tuple #[(Pm.mk i met ⟨need, has, low, high, val⟩ (pend ++ [b])).v, .slice none 0 0]) (by simp [results, Try.results40, go_sem, r0, r1, r2, r3, r4, r5, r6, r7, Pm.v, Pm.cells, hres]) rfl ?_
        exact ⟨none, 0, 0, rfl, Own.nil _ _ _ _, (((Kp.refl w).alloc _).alloc _).alloc _⟩
    · have c2' : ¬ (b < 64 ∧ pend.length = 16) := fun h => c2 h.1
      rw [if_neg c2', if_neg c2] at hP
      clear c2' hsz
      by_cases c4 : b = 126
      · subst c4
        by_cases c5 : pend = [50, 48, 48]
        · have HP : Hid (rowM ⟨i, met, ⟨need, has, low, high, val⟩, pend⟩ 126 = (⟨4, false, Dm.zero, []⟩, [])) := by show _ = _; rw [hP, if_pos ⟨rfl, c5⟩]
          rw [decide_eq_true c5] at hq
          clear hP hn0 HNU HLE hb c5
          rw [HP.out]
          go_enter Try.func40, Try.ntmps40
          go_wp2_with (first | (go_at_call 41; refine (HC2.out _).mono ?_; rintro e w' ⟨rfl, hw'⟩; subst hw'))
          refine bodyPost_ret (v := .tuple #[(Pm.mk 4 false Dm.zero []).v, .slice none 0 0]) (by simp [results, Try.results40, go_sem, Pm.v, Pm.cells, Dm.zero, bs8]) rfl ?_
          exact ⟨none, 0, 0, rfl, Own.nil _ _ _ _, ((Kp.refl w).alloc _).alloc _⟩
        · have HP : Hid (rowM ⟨i, met, ⟨need, has, low, high, val⟩, pend⟩ 126 = (Pm.zero, [nameM (numberM pend)])) := by show _ = _; rw [hP, if_neg (fun h => c5 h.2), if_pos rfl]
          rw [decide_eq_false c5] at hq
          clear hP hn0 HLE hb c5
          rw [HP.out]
          go_enter Try.func40, Try.ntmps40
          go_wp2_with (first | (go_at_call 41; refine (HC2.out _).mono ?_; rintro e w' ⟨rfl, hw'⟩; subst hw') | (go_at_call 58; refine (HNU.out _).mono ?_; rintro e w' ⟨rfl, hw'⟩; subst hw') | (go_at_call 43; refine (named_any (numberM pend) _).mono ?_; rintro e w2 ⟨A2, n2, c2, rfl, ho2, k2⟩; have br2 := br1.kp k2; simp only [World.size_alloc] at ho2; have kp2 := kp1.trans k2; obtain ⟨⟨r0, r1, r2, r3, r4, r5, r6, r7⟩, t0, t1, t2, t3, t4, t5, t6, t7⟩ := br2.eight))
          refine bodyPost_ret (v := .tuple #[Pm.zero.v, .slice A2 n2 c2]) (by simp [results, Try.results40, go_sem, r0, r1, r2, r3, r4, r5, r6, r7, Pm.v, Pm.cells, Pm.zero, Dm.zero, bs8]) rfl ?_
          exact ⟨A2, n2, c2, rfl, (set8_own ho2 (by omega) _ _ _ _ _ _ _ _).more (by omega), set8_kp kp2 (by omega) _ _ _ _ _ _ _ _⟩
      · have hb126 : (b == 126) = false := by simpa using c4
        by_cases c6 : pend = []
        · have HP : Hid (rowM ⟨i, met, ⟨need, has, low, high, val⟩, pend⟩ b = (Pm.zero, [nameM (letterM b)])) := by show _ = _; rw [hP, if_neg (fun h => c4 h.1), if_neg c4, if_neg (fun h => h c6)]
          rw [decide_eq_true c6] at hn0
          clear hP hq HNU hb c6 c4
          rw [HP.out]
          go_enter Try.func40, Try.ntmps40
          go_wp2_with (first | (go_at_call 41; refine (HC2.out _).mono ?_; rintro e w' ⟨rfl, hw'⟩; subst hw') | (go_at_call 44; refine (HLE.out _).mono ?_; rintro e w' ⟨rfl, hw'⟩; subst hw') | (go_at_call 43; refine (named_any (letterM b) _).mono ?_; rintro e w2 ⟨A2, n2, c2, rfl, ho2, k2⟩; have br2 := br1.kp k2; simp only [World.size_alloc] at ho2; have kp2 := kp1.trans k2; obtain ⟨⟨r0, r1, r2, r3, r4, r5, r6, r7⟩, t0, t1, t2, t3, t4, t5, t6, t7⟩ := br2.eight))
          refine bodyPost_ret (v := .tuple #[Pm.zero.v, .slice A2 n2 c2]) (by simp [results, Try.results40, go_sem, r0, r1, r2, r3, r4, r5, r6, r7, Pm.v, Pm.cells, Pm.zero, Dm.zero, bs8]) rfl ?_
          exact ⟨A2, n2, c2, rfl, (set8_own ho2 (by omega) _ _ _ _ _ _ _ _).more (by omega), set8_kp kp2 (by omega) _ _ _ _ _ _ _ _⟩
        · have HP : Hid (rowM ⟨i, met, ⟨need, has, low, high, val⟩, pend⟩ b = (Pm.zero, [nameM 0])) := by show _ = _; rw [hP, if_neg (fun h => c4 h.1), if_neg c4, if_pos c6]
          rw [decide_eq_false c6] at hn0
          clear hP hq HNU HLE hb c6 c4
          rw [HP.out]
          go_enter Try.func40, Try.ntmps40
          go_wp2_with (first | (go_at_call 41; refine (HC2.out _).mono ?_; rintro e w' ⟨rfl, hw'⟩; subst hw') | (go_at_call 43; refine (HN0.out _).mono ?_; rintro e w2 ⟨A2, n2, c2, rfl, ho2, k2⟩; have br2 := br1.kp k2; simp only [World.size_alloc] at ho2; have kp2 := kp1.trans k2; obtain ⟨⟨r0, r1, r2, r3, r4, r5, r6, r7⟩, t0, t1, t2, t3, t4, t5, t6, t7⟩ := br2.eight))
          refine bodyPost_ret (v := .tuple #[Pm.zero.v, .slice A2 n2 c2]) (by simp [results, Try.results40, go_sem, r0, r1, r2, r3, r4, r5, r6, r7, Pm.v, Pm.cells, Pm.zero, Dm.zero, bs8]) rfl ?_
          exact ⟨A2, n2, c2, rfl, (set8_own ho2 (by omega) _ _ _ _ _ _ _ _).more (by omega), set8_kp kp2 (by omega) _ _ _ _ _ _ _ _⟩
end Go.Proofs.Ytmeefngkbcfpeaa
