/-
  package keys: Feed. Conditions: a byte from 0 to 255; a decoder that feeding can make; what waits are bytes, not more than 100000.
-/
import Derived.Test.YtmeefngkbcfpeaaKeS
import Derived.Test.YtmeefngkbcfpeaaUndoH
namespace Go.Proofs.Ytmeefngkbcfpeaa
open Go.RowKit

/-- The cells of a key, and its text. -/
def KyV (F : Nat → Prop) (w : World) (k : Ky) (cs : List Value) : Prop := ∃ A n c, cs = [.int .i64 k.kind, .int .i32 k.rune, .bool k.met, .slice A n c] ∧ Ru w F A n c k.text
/-- Keys, with their texts, in blocks that F lets. -/
def KsF (F : Nat → Prop) (w : World) (A : Option Addr) (n c : Nat) (ks : List Ky) : Prop := ∃ css, Sl w F 4 A n c css.flatten ∧ RelL (KyV F w) ks css ∧ ks.length = n
section
variable {F G : Nat → Prop} {w w' : World} {A : Option Addr} {n c : Nat} {ks : List Ky}
theorem KyV.len (k : Ky) (cs : List Value) (h : KyV F w k cs) : cs.length = 4 := by obtain ⟨A, n, c, rfl, _⟩ := h; rfl
theorem KyV.one (k : Ky) (cs : List Value) (h : KyV F w k cs) : ∀ u ∈ cs, u.oneCell' = true := by obtain ⟨A, n, c, rfl, _⟩ := h; simp [Value.oneCell']
theorem KsF.kp (h : KsF F w A n c ks) (k : Kp w w') : KsF F w' A n c ks := by
  obtain ⟨css, h1, h2, h3⟩ := h
  exact ⟨css, h1.kp k, h2.mono fun x cs ⟨B, m, d, e, hr⟩ => ⟨B, m, d, e, hr.kp k⟩, h3⟩
theorem KsF.grown {row : Option Nat} (h : KsF F w A n c ks) (hg : w.grownBy w' row) (hr : ∀ g, row = some g → ¬ F g) : KsF F w' A n c ks := by
  obtain ⟨css, h1, h2, h3⟩ := h
  exact ⟨css, h1.grown hg hr, h2.mono fun x cs ⟨B, m, d, e, hu⟩ => ⟨B, m, d, e, Sl.grown hu hg hr⟩, h3⟩
theorem KsF.set {p : Addr} (h : KsF F w A n c ks) (hp : ¬ F p.block) (u : Value) : KsF F (w.setCell p u) A n c ks := by
  obtain ⟨css, h1, h2, h3⟩ := h
  exact ⟨css, h1.setCell hp u, h2.mono fun x cs ⟨B, m, d, e, hu⟩ => ⟨B, m, d, e, Sl.setCell hu hp u⟩, h3⟩
theorem KsF.weak (h : KsF F w A n c ks) (hG : ∀ k, k < w.heap.size → F k → G k) : KsF G w A n c ks := by
  obtain ⟨css, h1, h2, h3⟩ := h
  exact ⟨css, h1.weak hG, h2.mono fun x cs ⟨B, m, d, e, hu⟩ => ⟨B, m, d, e, Sl.weak hu hG⟩, h3⟩
theorem KsF.len (h : KsF F w A n c ks) : ks.length = n := by obtain ⟨_, _, _, h⟩ := h; exact h
theorem KsF.le (h : KsF F w A n c ks) : n ≤ c ∧ c ≤ maxLen := by obtain ⟨_, h, _⟩ := h; exact ⟨h.le, h.cap⟩
theorem rel_k4 : ∀ {ks : List Ky}, (∀ k ∈ ks, k.text = []) → RelL (KyV F w) ks (ks.map fun k => [.int .i64 k.kind, .int .i32 k.rune, .bool k.met, .slice none 0 0])
  | [], _ => trivial
  | k :: ks, h => ⟨⟨none, 0, 0, rfl, by rw [h k (by simp)]; exact Ru.nil _ _⟩, rel_k4 fun x hx => h x (by simp [hx])⟩
theorem KsF.of (h : Sl w F 4 A n c (K4 ks)) (ht : ∀ k ∈ ks, k.text = []) : KsF F w A n c ks :=
  ⟨ks.map fun k => [.int .i64 k.kind, .int .i32 k.rune, .bool k.met, .slice none 0 0], by rw [← List.flatMap_def]; exact h, rel_k4 ht, by have := h.len; rw [K4_length] at this; omega⟩
theorem KsF.get (h : KsF F w A n c ks) {i : Nat} {k : Ky} (hk : ks[i]? = some k) : ∃ ad B m d, A = some ad ∧ w.cell? (ad.add (i * 4)) = some (.int .i64 k.kind) ∧
    w.cell? ⟨(ad.add (i * 4)).block, (ad.add (i * 4)).off + 1, none⟩ = some (.int .i32 k.rune) ∧ w.cell? ⟨(ad.add (i * 4)).block, (ad.add (i * 4)).off + 2, none⟩ = some (.bool k.met) ∧
    w.cell? ⟨(ad.add (i * 4)).block, (ad.add (i * 4)).off + 3, none⟩ = some (.slice B m d) ∧ Ru w F B m d k.text := by
  obtain ⟨css, h1, h2, h3⟩ := h
  have hl : Lst (fun w k cs => KyV F w k cs) 4 w A n c ks := ⟨css, h1.any, h2, h3⟩
  obtain ⟨ad, cs, e1, ⟨B, m, d, rfl, h4⟩, hc⟩ := Lst.get KyV.len hl hk
  refine ⟨ad, B, m, d, e1, ?_, ?_, ?_, ?_, h4⟩
  · simpa using hc 0 (by omega)
  · have := hc 1 (by omega); rwa [add_spell _ _ 0] at this
  · have := hc 2 (by omega); rwa [add_spell _ _ 1] at this
  · have := hc 3 (by omega); rwa [add_spell _ _ 2] at this
end
/-- A parser comes back, and keys. -/
def RetFk (r : Pm × List Ky) (w : World) (e : Ending) (w' : World) : Prop := ∃ A n c, e = .returned (.tuple #[r.1.v, .slice A n c]) ∧ KsF (From w.heap.size) w' A n c r.2 ∧ Kp w w'

set_option maxRecDepth 100000 in
set_option maxHeartbeats 3200000 in
theorem feedP_any (p : Pm) (h4 : p.inn ≠ 4) (hd : p.d.ok) (hb : isB p.pend) (hpl : p.pend.length ≤ 100000) (b : Int) (h0 : 0 ≤ b) (h1 : b ≤ 255) (w : World) : Calls Try.prog 28 #[p.v, .int .u8 b] w (RetPk (feedP p b) w) := by
  by_cases c3 : p.inn = 3
  · have hpa := fun wx => plain_any Pm.zero (.inl rfl) b h0 h1 wx
    have HPL := Lib.hid (plainM_len Pm.zero b)
    have hP : feedP p b = if ctlM b = true ∨ 127 < b then ((plainM Pm.zero b).1, nameM 0 :: (plainM Pm.zero b).2) else (Pm.zero, [nameM (letterM b)]) := by unfold feedP; rw [if_neg (by omega), if_neg (by omega), if_pos c3]
    generalize plainM Pm.zero b = pm at *
    obtain ⟨i, met, ⟨need, has, low, high, val⟩, pend⟩ := p
    obtain rfl : i = 3 := c3
    obtain ⟨⟨i', met', ⟨need', has', low', high', val'⟩, pend'⟩, ks'⟩ := pm
    have HCT := Lib.hid fun (wx : World) => control_any b wx
    have HN0 := Lib.hid fun (wx : World) => named_any 0 wx
    have HLE := Lib.hid fun (wx : World) => letter_any b wx
    unfold RetPk at hpa
    dsimp only [Pm.v, Pm.cells, Dm.v, Pm.zero, Dm.zero] at hpa HPL ⊢
    have hbs : bs8 [] = ByteArray.empty := rfl
    rw [hbs] at hpa
    have HPA := Lib.hid hpa
    clear hpa hb hpl hd hbs h4
    generalize hs : bs8 pend = s at *
    clear hs
    have br1 := Bx.new (w.alloc (.cells #[.int .i64 3, .bool met, .int .i64 need, .int .i64 has, .int .u8 low, .int .u8 high, .int .i32 val, .string s] 42)) #[.int .i64 0, .bool false, .int .i64 0, .int .i64 0, .int .u8 0, .int .u8 0, .int .i32 0, .string ByteArray.empty] 42
    rw [World.size_alloc] at br1
    have kp1 := ((Kp.refl w).alloc (.cells #[.int .i64 3, .bool met, .int .i64 need, .int .i64 has, .int .u8 low, .int .u8 high, .int .i32 val, .string s] 42)).alloc (.cells #[.int .i64 0, .bool false, .int .i64 0, .int .i64 0, .int .u8 0, .int .u8 0, .int .i32 0, .string ByteArray.empty] 42)
    by_cases c1 : ctlM b = true ∨ 127 < b
    · rw [if_pos c1] at hP
      have HP := Lib.hid hP
      clear hP
      rw [HP.out]
      have hct := HCT.out
      obtain ⟨cb, hcb⟩ : ∃ cb, cb = ctlM b := ⟨_, rfl⟩
      rw [← hcb] at hct c1
      have HC2 := Lib.hid hct
      clear hct HCT hcb HLE
      go_enter Try.func28, Try.ntmps28
      have hnq : ks'.length ≤ 2 := HPL.out
      clear HPL
      cases cb with
      | true =>
        go_wp2_with (first
          | (go_at_call 41; refine (HC2.out _).mono ?_; rintro e w' ⟨rfl, hw'⟩; subst hw')
          | (go_at_call 42; refine (HPA.out _).mono ?_; rintro e w2 ⟨A2, n2, c2, rfl, ho2, k2⟩; have br2 := br1.kp k2; simp only [World.size_alloc] at ho2; have kp2 := kp1.trans k2))
        have hn2 : n2 ≤ 2 := by have h1 := ho2.len; rw [K4_length] at h1; omega
        have hz2 := br2.lt
        have bq3 := Bx.new w2 #[.int .i64 i', .bool met', .int .i64 need', .int .i64 has', .int .u8 low', .int .u8 high', .int .i32 val', .string (bs8 pend')] 42
        have br3 := br2.alloc (.cells #[.int .i64 i', .bool met', .int .i64 need', .int .i64 has', .int .u8 low', .int .u8 high', .int .i32 val', .string (bs8 pend')] 42)
        have ho3 := ho2.alloc (.cells #[.int .i64 i', .bool met', .int .i64 need', .int .i64 has', .int .u8 low', .int .u8 high', .int .i32 val', .string (bs8 pend')] 42)
        have kp3 := kp2.alloc (.cells #[.int .i64 i', .bool met', .int .i64 need', .int .i64 has', .int .u8 low', .int .u8 high', .int .i32 val', .string (bs8 pend')] 42)
        have hz3 : (w2.alloc (.cells #[.int .i64 i', .bool met', .int .i64 need', .int .i64 has', .int .u8 low', .int .u8 high', .int .i32 val', .string (bs8 pend')] 42)).heap.size = w2.heap.size + 1 := by simp
        generalize w2.alloc (.cells #[.int .i64 i', .bool met', .int .i64 need', .int .i64 has', .int .u8 low', .int .u8 high', .int .i32 val', .string (bs8 pend')] 42) = w3 at *
        clear br2 ho2 kp2 k2
        generalize w2.heap.size = qb at *
        obtain ⟨⟨p0, p1, p2, p3, p4, p5, p6, p7⟩, q0, q1, q2, q3, q4, q5, q6, q7⟩ := bq3.eight
        obtain ⟨⟨r0, r1, r2, r3, r4, r5, r6, r7⟩, t0, t1, t2, t3, t4, t5, t6, t7⟩ := br3.eight
        have hqr : qb ≠ w.heap.size + 1 := by omega
        have HZ : Hid (w3.heap.size = qb + 1 ∧ w.heap.size + 1 < qb) := ⟨hz3, by omega⟩
        have HF : Hid (∀ (wx : World) (x0 x1 x2 x3 x4 x5 x6 x7 : Value), Bx wx qb #[.int .i64 i', .bool met', .int .i64 need', .int .i64 has', .int .u8 low', .int .u8 high', .int .i32 val', .string (bs8 pend')] 42 → Bx (set8 wx (w.heap.size + 1) x0 x1 x2 x3 x4 x5 x6 x7) qb #[.int .i64 i', .bool met', .int .i64 need', .int .i64 has', .int .u8 low', .int .u8 high', .int .i32 val', .string (bs8 pend')] 42) :=
          (fun wx x0 x1 x2 x3 x4 x5 x6 x7 h => ((((((((h.far (p := ⟨_, _, _⟩) hqr x0).far (p := ⟨_, _, _⟩) hqr x1).far (p := ⟨_, _, _⟩) hqr x2).far (p := ⟨_, _, _⟩) hqr x3).far (p := ⟨_, _, _⟩) hqr x4).far (p := ⟨_, _, _⟩) hqr x5).far (p := ⟨_, _, _⟩) hqr x6).far (p := ⟨_, _, _⟩) hqr x7) : ∀ (wx : World) (x0 x1 x2 x3 x4 x5 x6 x7 : Value), Bx wx qb #[.int .i64 i', .bool met', .int .i64 need', .int .i64 has', .int .u8 low', .int .u8 high', .int .i32 val', .string (bs8 pend')] 42 → Bx (set8 wx (w.heap.size + 1) x0 x1 x2 x3 x4 x5 x6 x7) qb #[.int .i64 i', .bool met', .int .i64 need', .int .i64 has', .int .u8 low', .int .u8 high', .int .i32 val', .string (bs8 pend')] 42)
        clear hz3 hqr hz2 hnq
        go_region_held3 (fun w' => w'.cell? ⟨qb, 0, none⟩ = some (.int .i64 i') ∧ w'.cell? ⟨qb, 1, none⟩ = some (.bool met') ∧ w'.cell? ⟨qb, 2, none⟩ = some (.int .i64 need') ∧ w'.cell? ⟨qb, 3, none⟩ = some (.int .i64 has') ∧ w'.cell? ⟨qb, 4, none⟩ = some (.int .u8 low') ∧ w'.cell? ⟨qb, 5, none⟩ = some (.int .u8 high') ∧ w'.cell? ⟨qb, 6, none⟩ = some (.int .i32 val') ∧ w'.cell? ⟨qb, 7, none⟩ = some (.string (bs8 pend')))
          (first | (with_reducible exact ⟨p0, p1, p2, p3, p4, p5, p6, p7⟩) | (with_reducible exact ⟨u0, u1, u2, u3, u4, u5, u6, u7⟩) | (with_reducible exact ⟨v0, v1, v2, v3, v4, v5, v6, v7⟩) | (have f5 := (Bx.eight (HF.out w5 (.int .i64 i') (.bool met') (.int .i64 need') (.int .i64 has') (.int .u8 low') (.int .u8 high') (.int .i32 val') (.string (bs8 pend')) bq5)).1; exact f5) | go_keep)
          (first | (go_at_call 43; refine (HN0.out _).mono ?_; rintro e w4 ⟨A4, n4, c4, rfl, ho4', k4'⟩; have k4 : Kp w3 w4 := (by first | exact k4' | exact (Kp.refl w3).drew.trans k4'); have ho4 : Own w4 w3.heap.size 57 4 A4 n4 c4 (K4 [nameM 0]) := ho4'; have hn4 : n4 = 1 := (by have h1 := ho4.len; rw [K4_length] at h1; simp at h1; omega); subst hn4; have bq4 := bq3.kp k4; have br4 := br3.kp k4; have kp4 := kp3.trans k4; have hol4 := ho3.kp k4; have hz4 := k4.size; clear ho4' k4' k4; obtain ⟨⟨u0, u1, u2, u3, u4, u5, u6, u7⟩, _⟩ := bq4.eight) | (refine step_append_sl _ (by rfl) _ _ _ (by rfl) w3.heap.size 57 _ 4 40 Try.underlying46 infoKey rfl (by omega) A4 1 c4 (K4 [nameM 0]) (by rfl) (by first | exact ho4 | exact Own.drew ho4) _ A2 n2 c2 (K4 ks') (by rfl) (by first | exact hol4.sl | exact Sl.drew hol4.sl) (K4_one _) (by simp only [maxLen]; omega) (by omega) (by first | exact hz4 | (simp; exact hz4)) ?_; intro A5 c5 w5 hown hg hat; have hr4 : ∀ g, rowOf A4 = some g → w3.heap.size ≤ g := (fun g e => (ho4.lt g e).1); have hzo := HZ.out; have bq5 := Bx.grown (by first | exact bq4 | exact Bx.drew bq4) hg (fun e => by have := hr4 _ e; omega); have br5 := Bx.grown (by first | exact br4 | exact Bx.drew br4) hg (fun e => by have := hr4 _ e; omega); have kp5 : Kp w w5 := Kp.grown (by first | exact kp4 | exact Kp.drew kp4) hg (fun g e => by have := hr4 _ e; omega); clear hzo; obtain ⟨⟨v0, v1, v2, v3, v4, v5, v6, v7⟩, _⟩ := bq5.eight; obtain ⟨⟨s0, s1, s2, s3, s4, s5, s6, s7⟩, g0, g1, g2, g3, g4, g5, g6, g7⟩ := br5.eight))
        go_wp2_with fail
        refine bodyPost_ret (v := .tuple #[(Pm.mk i' met' ⟨need', has', low', high', val'⟩ pend').v, .slice A5 (1 + n2) c5]) (by simp [results, Try.results28, go_sem, s0, s1, s2, s3, s4, s5, s6, s7, Pm.v, Pm.cells]) rfl ?_
        obtain ⟨hz, hq⟩ := HZ.out
        refine ⟨A5, 1 + n2, c5, rfl, ?_, set8_kp kp5 (by omega) _ _ _ _ _ _ _ _⟩
        have ho5 := (set8_own hown (b := w.heap.size + 1) (by omega) (.int .i64 i') (.bool met') (.int .i64 need') (.int .i64 has') (.int .u8 low') (.int .u8 high') (.int .i32 val') (.string (bs8 pend'))).more (base' := w.heap.size) (by omega)
        rw [← K4_append] at ho5
        exact ho5
      | false =>
        have c127 : 127 < b := by rcases c1 with c | c; cases c; exact c
        go_wp2_with (first
          | (go_at_call 41; refine (HC2.out _).mono ?_; rintro e w' ⟨rfl, hw'⟩; subst hw')
          | (go_at_call 42; refine (HPA.out _).mono ?_; rintro e w2 ⟨A2, n2, c2, rfl, ho2, k2⟩; have br2 := br1.kp k2; simp only [World.size_alloc] at ho2; have kp2 := kp1.trans k2))
        have hn2 : n2 ≤ 2 := by have h1 := ho2.len; rw [K4_length] at h1; omega
        have hz2 := br2.lt
        have bq3 := Bx.new w2 #[.int .i64 i', .bool met', .int .i64 need', .int .i64 has', .int .u8 low', .int .u8 high', .int .i32 val', .string (bs8 pend')] 42
        have br3 := br2.alloc (.cells #[.int .i64 i', .bool met', .int .i64 need', .int .i64 has', .int .u8 low', .int .u8 high', .int .i32 val', .string (bs8 pend')] 42)
        have ho3 := ho2.alloc (.cells #[.int .i64 i', .bool met', .int .i64 need', .int .i64 has', .int .u8 low', .int .u8 high', .int .i32 val', .string (bs8 pend')] 42)
        have kp3 := kp2.alloc (.cells #[.int .i64 i', .bool met', .int .i64 need', .int .i64 has', .int .u8 low', .int .u8 high', .int .i32 val', .string (bs8 pend')] 42)
        have hz3 : (w2.alloc (.cells #[.int .i64 i', .bool met', .int .i64 need', .int .i64 has', .int .u8 low', .int .u8 high', .int .i32 val', .string (bs8 pend')] 42)).heap.size = w2.heap.size + 1 := by simp
        generalize w2.alloc (.cells #[.int .i64 i', .bool met', .int .i64 need', .int .i64 has', .int .u8 low', .int .u8 high', .int .i32 val', .string (bs8 pend')] 42) = w3 at *
        clear br2 ho2 kp2 k2
        generalize w2.heap.size = qb at *
        obtain ⟨⟨p0, p1, p2, p3, p4, p5, p6, p7⟩, q0, q1, q2, q3, q4, q5, q6, q7⟩ := bq3.eight
        obtain ⟨⟨r0, r1, r2, r3, r4, r5, r6, r7⟩, t0, t1, t2, t3, t4, t5, t6, t7⟩ := br3.eight
        have hqr : qb ≠ w.heap.size + 1 := by omega
        have HZ : Hid (w3.heap.size = qb + 1 ∧ w.heap.size + 1 < qb) := ⟨hz3, by omega⟩
        have HF : Hid (∀ (wx : World) (x0 x1 x2 x3 x4 x5 x6 x7 : Value), Bx wx qb #[.int .i64 i', .bool met', .int .i64 need', .int .i64 has', .int .u8 low', .int .u8 high', .int .i32 val', .string (bs8 pend')] 42 → Bx (set8 wx (w.heap.size + 1) x0 x1 x2 x3 x4 x5 x6 x7) qb #[.int .i64 i', .bool met', .int .i64 need', .int .i64 has', .int .u8 low', .int .u8 high', .int .i32 val', .string (bs8 pend')] 42) :=
          (fun wx x0 x1 x2 x3 x4 x5 x6 x7 h => ((((((((h.far (p := ⟨_, _, _⟩) hqr x0).far (p := ⟨_, _, _⟩) hqr x1).far (p := ⟨_, _, _⟩) hqr x2).far (p := ⟨_, _, _⟩) hqr x3).far (p := ⟨_, _, _⟩) hqr x4).far (p := ⟨_, _, _⟩) hqr x5).far (p := ⟨_, _, _⟩) hqr x6).far (p := ⟨_, _, _⟩) hqr x7) : ∀ (wx : World) (x0 x1 x2 x3 x4 x5 x6 x7 : Value), Bx wx qb #[.int .i64 i', .bool met', .int .i64 need', .int .i64 has', .int .u8 low', .int .u8 high', .int .i32 val', .string (bs8 pend')] 42 → Bx (set8 wx (w.heap.size + 1) x0 x1 x2 x3 x4 x5 x6 x7) qb #[.int .i64 i', .bool met', .int .i64 need', .int .i64 has', .int .u8 low', .int .u8 high', .int .i32 val', .string (bs8 pend')] 42)
        clear hz3 hqr hz2 hnq
        go_region_held3 (fun w' => w'.cell? ⟨qb, 0, none⟩ = some (.int .i64 i') ∧ w'.cell? ⟨qb, 1, none⟩ = some (.bool met') ∧ w'.cell? ⟨qb, 2, none⟩ = some (.int .i64 need') ∧ w'.cell? ⟨qb, 3, none⟩ = some (.int .i64 has') ∧ w'.cell? ⟨qb, 4, none⟩ = some (.int .u8 low') ∧ w'.cell? ⟨qb, 5, none⟩ = some (.int .u8 high') ∧ w'.cell? ⟨qb, 6, none⟩ = some (.int .i32 val') ∧ w'.cell? ⟨qb, 7, none⟩ = some (.string (bs8 pend')))
          (first | (with_reducible exact ⟨p0, p1, p2, p3, p4, p5, p6, p7⟩) | (with_reducible exact ⟨u0, u1, u2, u3, u4, u5, u6, u7⟩) | (with_reducible exact ⟨v0, v1, v2, v3, v4, v5, v6, v7⟩) | (have f5 := (Bx.eight (HF.out w5 (.int .i64 i') (.bool met') (.int .i64 need') (.int .i64 has') (.int .u8 low') (.int .u8 high') (.int .i32 val') (.string (bs8 pend')) bq5)).1; exact f5) | go_keep)
          (first | (go_at_call 43; refine (HN0.out _).mono ?_; rintro e w4 ⟨A4, n4, c4, rfl, ho4', k4'⟩; have k4 : Kp w3 w4 := (by first | exact k4' | exact (Kp.refl w3).drew.trans k4'); have ho4 : Own w4 w3.heap.size 57 4 A4 n4 c4 (K4 [nameM 0]) := ho4'; have hn4 : n4 = 1 := (by have h1 := ho4.len; rw [K4_length] at h1; simp at h1; omega); subst hn4; have bq4 := bq3.kp k4; have br4 := br3.kp k4; have kp4 := kp3.trans k4; have hol4 := ho3.kp k4; have hz4 := k4.size; clear ho4' k4' k4; obtain ⟨⟨u0, u1, u2, u3, u4, u5, u6, u7⟩, _⟩ := bq4.eight) | (refine step_append_sl _ (by rfl) _ _ _ (by rfl) w3.heap.size 57 _ 4 40 Try.underlying46 infoKey rfl (by omega) A4 1 c4 (K4 [nameM 0]) (by rfl) (by first | exact ho4 | exact Own.drew ho4) _ A2 n2 c2 (K4 ks') (by rfl) (by first | exact hol4.sl | exact Sl.drew hol4.sl) (K4_one _) (by simp only [maxLen]; omega) (by omega) (by first | exact hz4 | (simp; exact hz4)) ?_; intro A5 c5 w5 hown hg hat; have hr4 : ∀ g, rowOf A4 = some g → w3.heap.size ≤ g := (fun g e => (ho4.lt g e).1); have hzo := HZ.out; have bq5 := Bx.grown (by first | exact bq4 | exact Bx.drew bq4) hg (fun e => by have := hr4 _ e; omega); have br5 := Bx.grown (by first | exact br4 | exact Bx.drew br4) hg (fun e => by have := hr4 _ e; omega); have kp5 : Kp w w5 := Kp.grown (by first | exact kp4 | exact Kp.drew kp4) hg (fun g e => by have := hr4 _ e; omega); clear hzo; obtain ⟨⟨v0, v1, v2, v3, v4, v5, v6, v7⟩, _⟩ := bq5.eight; obtain ⟨⟨s0, s1, s2, s3, s4, s5, s6, s7⟩, g0, g1, g2, g3, g4, g5, g6, g7⟩ := br5.eight))
        go_wp2_with fail
        refine bodyPost_ret (v := .tuple #[(Pm.mk i' met' ⟨need', has', low', high', val'⟩ pend').v, .slice A5 (1 + n2) c5]) (by simp [results, Try.results28, go_sem, s0, s1, s2, s3, s4, s5, s6, s7, Pm.v, Pm.cells]) rfl ?_
        obtain ⟨hz, hq⟩ := HZ.out
        refine ⟨A5, 1 + n2, c5, rfl, ?_, set8_kp kp5 (by omega) _ _ _ _ _ _ _ _⟩
        have ho5 := (set8_own hown (b := w.heap.size + 1) (by omega) (.int .i64 i') (.bool met') (.int .i64 need') (.int .i64 has') (.int .u8 low') (.int .u8 high') (.int .i32 val') (.string (bs8 pend'))).more (base' := w.heap.size) (by omega)
        rw [← K4_append] at ho5
        exact ho5
    · have hcf : ctlM b = false := by simpa using fun h => c1 (Or.inl h)
      have h127 : b ≤ 127 := by omega
      have hct := HCT.out
      rw [hcf] at hct
      have HC2 := Lib.hid hct
      rw [if_neg c1] at hP
      have HP := Lib.hid hP
      rw [HP.out]
      clear hct HCT hcf c1 HPA HPL hP HP
      go_enter Try.func28, Try.ntmps28
      go_wp2_with (first | (go_at_call 41; refine (HC2.out _).mono ?_; rintro e w' ⟨rfl, hw'⟩; subst hw') | (go_at_call 44; refine (HLE.out _).mono ?_; rintro e w' ⟨rfl, hw'⟩; subst hw') | (go_at_call 43; refine (named_any (letterM b) _).mono ?_; rintro e w2 ⟨A2, n2, c2, rfl, ho2, k2⟩; have br2 := br1.kp k2; simp only [World.size_alloc] at ho2; have kp2 := kp1.trans k2; obtain ⟨⟨r0, r1, r2, r3, r4, r5, r6, r7⟩, t0, t1, t2, t3, t4, t5, t6, t7⟩ := br2.eight))
      refine bodyPost_ret (v := .tuple #[Pm.zero.v, .slice A2 n2 c2]) (by simp [results, Try.results28, go_sem, r0, r1, r2, r3, r4, r5, r6, r7, Pm.v, Pm.cells, Pm.zero, Dm.zero, bs8]) rfl ?_
      exact ⟨A2, n2, c2, rfl, (set8_own ho2 (by omega) _ _ _ _ _ _ _ _).more (by omega), set8_kp kp2 (by omega) _ _ _ _ _ _ _ _⟩
  · have hes := fun wx => escaped_any p b h0 h1 wx
    have hro := fun wx => keyRow_any p hb hpl b h0 h1 wx
    have hpa := fun wx => plain_any p hd b h0 h1 wx
    have hP : feedP p b = if p.inn = 1 then escapedM p b else if p.inn = 2 then rowM p b else plainM p b := by unfold feedP; rw [if_neg c3, if_neg h4]
    generalize escapedM p b = es at *
    generalize rowM p b = ro at *
    generalize plainM p b = pa at *
    obtain ⟨i, met, ⟨need, has, low, high, val⟩, pend⟩ := p
    unfold RetPk at hes hro hpa
    dsimp only [Pm.v, Pm.cells, Dm.v] at hes hro hpa hP h4 c3 ⊢
    have HES := Lib.hid hes
    have HRO := Lib.hid hro
    have HPA := Lib.hid hpa
    clear hes hro hpa hb hpl hd
    generalize hs : bs8 pend = s at *
    clear hs
    by_cases c1 : i = 1
    · rw [if_pos c1] at hP
      have HP := Lib.hid hP
      rw [HP.out]
      obtain ⟨⟨i', met', ⟨need', has', low', high', val'⟩, pend'⟩, ks'⟩ := es
      dsimp only at HES
      subst c1
      clear hP HP HRO HPA h4 c3
      have br1 := Bx.new (w.alloc (.cells #[.int .i64 1, .bool met, .int .i64 need, .int .i64 has, .int .u8 low, .int .u8 high, .int .i32 val, .string s] 42)) #[.int .i64 0, .bool false, .int .i64 0, .int .i64 0, .int .u8 0, .int .u8 0, .int .i32 0, .string ByteArray.empty] 42
      rw [World.size_alloc] at br1
      have kp1 := ((Kp.refl w).alloc (.cells #[.int .i64 1, .bool met, .int .i64 need, .int .i64 has, .int .u8 low, .int .u8 high, .int .i32 val, .string s] 42)).alloc (.cells #[.int .i64 0, .bool false, .int .i64 0, .int .i64 0, .int .u8 0, .int .u8 0, .int .i32 0, .string ByteArray.empty] 42)
      go_enter Try.func28, Try.ntmps28
      go_wp2_with (go_at_call 39; refine (HES.out _).mono ?_; rintro e w2 ⟨A2, n2, c2, rfl, ho2, k2⟩; have br2 := br1.kp k2; simp only [World.size_alloc] at ho2; have kp2 := kp1.trans k2; obtain ⟨⟨r0, r1, r2, r3, r4, r5, r6, r7⟩, t0, t1, t2, t3, t4, t5, t6, t7⟩ := br2.eight)
      refine bodyPost_ret (v := .tuple #[(Pm.mk i' met' ⟨need', has', low', high', val'⟩ pend').v, .slice A2 n2 c2]) (by simp [results, Try.results28, go_sem, r0, r1, r2, r3, r4, r5, r6, r7, Pm.v, Pm.cells]) rfl ?_
      exact ⟨A2, n2, c2, rfl, (set8_own ho2 (by omega) _ _ _ _ _ _ _ _).more (by omega), set8_kp kp2 (by omega) _ _ _ _ _ _ _ _⟩
    · rw [if_neg c1] at hP
      by_cases c2 : i = 2
      · rw [if_pos c2] at hP
        have HP := Lib.hid hP
        rw [HP.out]
        obtain ⟨⟨i', met', ⟨need', has', low', high', val'⟩, pend'⟩, ks'⟩ := ro
        dsimp only at HRO
        subst c2
        clear hP HP HES HPA h4 c3 c1
        have br1 := Bx.new (w.alloc (.cells #[.int .i64 2, .bool met, .int .i64 need, .int .i64 has, .int .u8 low, .int .u8 high, .int .i32 val, .string s] 42)) #[.int .i64 0, .bool false, .int .i64 0, .int .i64 0, .int .u8 0, .int .u8 0, .int .i32 0, .string ByteArray.empty] 42
        rw [World.size_alloc] at br1
        have kp1 := ((Kp.refl w).alloc (.cells #[.int .i64 2, .bool met, .int .i64 need, .int .i64 has, .int .u8 low, .int .u8 high, .int .i32 val, .string s] 42)).alloc (.cells #[.int .i64 0, .bool false, .int .i64 0, .int .i64 0, .int .u8 0, .int .u8 0, .int .i32 0, .string ByteArray.empty] 42)
        go_enter Try.func28, Try.ntmps28
        go_wp2_with (go_at_call 40; refine (HRO.out _).mono ?_; rintro e w2 ⟨A2, n2, c2, rfl, ho2, k2⟩; have br2 := br1.kp k2; simp only [World.size_alloc] at ho2; have kp2 := kp1.trans k2; obtain ⟨⟨r0, r1, r2, r3, r4, r5, r6, r7⟩, t0, t1, t2, t3, t4, t5, t6, t7⟩ := br2.eight)
        refine bodyPost_ret (v := .tuple #[(Pm.mk i' met' ⟨need', has', low', high', val'⟩ pend').v, .slice A2 n2 c2]) (by simp [results, Try.results28, go_sem, r0, r1, r2, r3, r4, r5, r6, r7, Pm.v, Pm.cells]) rfl ?_
        exact ⟨A2, n2, c2, rfl, (set8_own ho2 (by omega) _ _ _ _ _ _ _ _).more (by omega), set8_kp kp2 (by omega) _ _ _ _ _ _ _ _⟩
      · rw [if_neg c2] at hP
        have HP := Lib.hid hP
        rw [HP.out]
        obtain ⟨⟨i', met', ⟨need', has', low', high', val'⟩, pend'⟩, ks'⟩ := pa
        dsimp only at HPA
        have b1 : (i == 1) = false := by simpa using c1
        have b2 : (i == 2) = false := by simpa using c2
        have b3 : (i == 3) = false := by simpa using c3
        have b4 : (i == 4) = false := by simpa using h4
        clear hP HP HES HRO h4 c3 c1 c2
        have br1 := Bx.new (w.alloc (.cells #[.int .i64 i, .bool met, .int .i64 need, .int .i64 has, .int .u8 low, .int .u8 high, .int .i32 val, .string s] 42)) #[.int .i64 0, .bool false, .int .i64 0, .int .i64 0, .int .u8 0, .int .u8 0, .int .i32 0, .string ByteArray.empty] 42
        rw [World.size_alloc] at br1
        have kp1 := ((Kp.refl w).alloc (.cells #[.int .i64 i, .bool met, .int .i64 need, .int .i64 has, .int .u8 low, .int .u8 high, .int .i32 val, .string s] 42)).alloc (.cells #[.int .i64 0, .bool false, .int .i64 0, .int .i64 0, .int .u8 0, .int .u8 0, .int .i32 0, .string ByteArray.empty] 42)
        go_enter Try.func28, Try.ntmps28
        go_wp2_with (go_at_call 42; refine (HPA.out _).mono ?_; rintro e w2 ⟨A2, n2, c2, rfl, ho2, k2⟩; have br2 := br1.kp k2; simp only [World.size_alloc] at ho2; have kp2 := kp1.trans k2; obtain ⟨⟨r0, r1, r2, r3, r4, r5, r6, r7⟩, t0, t1, t2, t3, t4, t5, t6, t7⟩ := br2.eight)
        refine bodyPost_ret (v := .tuple #[(Pm.mk i' met' ⟨need', has', low', high', val'⟩ pend').v, .slice A2 n2 c2]) (by simp [results, Try.results28, go_sem, r0, r1, r2, r3, r4, r5, r6, r7, Pm.v, Pm.cells]) rfl ?_
        exact ⟨A2, n2, c2, rfl, (set8_own ho2 (by omega) _ _ _ _ _ _ _ _).more (by omega), set8_kp kp2 (by omega) _ _ _ _ _ _ _ _⟩
end Go.Proofs.Ytmeefngkbcfpeaa
