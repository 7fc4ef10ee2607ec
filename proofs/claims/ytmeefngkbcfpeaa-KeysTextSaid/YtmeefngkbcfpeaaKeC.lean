/-
  package keys: scalar. Conditions: a byte from 0 to 255; a decoder that feeding can make.
-/
import Derived.Test.YtmeefngkbcfpeaaKeB
namespace Go.Proofs.Ytmeefngkbcfpeaa
open Go.RowKit

theorem bx_far5 {w : World} {b g : Nat} {t : TypeId} {cs : Array Value} (h : Bx w b cs t) (hne : b ≠ g) (x y z u v : Value) : Bx (set5 w g x y z u v) b cs t :=
  (((((h.far (p := ⟨_, _, _⟩) hne x).far (p := ⟨_, _, _⟩) hne y).far (p := ⟨_, _, _⟩) hne z).far (p := ⟨_, _, _⟩) hne u).far (p := ⟨_, _, _⟩) hne v)
/-- A parser is stored. -/
def set8 (w : World) (b : Nat) (x0 x1 x2 x3 x4 x5 x6 x7 : Value) : World := (((((((w.setCell ⟨b, 0, none⟩ x0).setCell ⟨b, 1, none⟩ x1).setCell ⟨b, 2, none⟩ x2).setCell ⟨b, 3, none⟩ x3).setCell ⟨b, 4, none⟩ x4).setCell ⟨b, 5, none⟩ x5).setCell ⟨b, 6, none⟩ x6).setCell ⟨b, 7, none⟩ x7
theorem set8_own {w : World} {base : Nat} {e : TypeId} {size n c : Nat} {A : Option Addr} {vs : List Value} (h : Own w base e size A n c vs) {b : Nat} (hb : b < base) (x0 x1 x2 x3 x4 x5 x6 x7 : Value) : Own (set8 w b x0 x1 x2 x3 x4 x5 x6 x7) base e size A n c vs := by
  have hne : rowOf A ≠ some b := fun e => by have := (h.lt _ e).1; omega
  exact ((((((((h.setCell (p := ⟨_, _, _⟩) hne x0).setCell (p := ⟨_, _, _⟩) hne x1).setCell (p := ⟨_, _, _⟩) hne x2).setCell (p := ⟨_, _, _⟩) hne x3).setCell (p := ⟨_, _, _⟩) hne x4).setCell (p := ⟨_, _, _⟩) hne x5).setCell (p := ⟨_, _, _⟩) hne x6).setCell (p := ⟨_, _, _⟩) hne x7)
theorem set8_kp {w w' : World} (h : Kp w w') {b : Nat} (hb : w.heap.size ≤ b) (x0 x1 x2 x3 x4 x5 x6 x7 : Value) : Kp w (set8 w' b x0 x1 x2 x3 x4 x5 x6 x7) :=
  (((((((h.setCell hb x0).setCell hb x1).setCell hb x2).setCell hb x3).setCell hb x4).setCell hb x5).setCell hb x6).setCell hb x7
/-- The Meta that the k-th scalar finds. -/
def mkM (met : Bool) (k : Nat) : Bool := if k = 0 then met else false
theorem charsM_len (l : List Int) (met : Bool) : (charsM l met).length = l.length := by cases l <;> simp [charsM]
theorem charsM_snoc {l : List Int} {k : Nat} (hk : k < l.length) (met : Bool) : K4 ((charsM l met).take (k + 1)) = K4 ((charsM l met).take k) ++ [.int .i64 1, .int .i32 (l[k]?.getD 0), .bool (mkM met k), .slice none 0 0] := by
  have h : k < (charsM l met).length := by rw [charsM_len]; exact hk
  rw [List.take_succ_eq_append_getElem h, K4_append]
  congr 1
  cases l with
  | nil => simp at hk
  | cons r t =>
    cases k with
    | zero => simp [charsM, K4, mkM]
    | succ k =>
      have hk' : k < t.length := by simpa using hk
      simp [charsM, K4, mkM, List.getElem?_eq_getElem hk']
/-- What is held within scalar's loop. -/
structure ScL (w w2 wr : World) (A2 : Option Addr) (n2 c2 : Nat) (l : List Int) (i : Int) (mk : Bool) (d d1 : Dm) (s : ByteArray) (A3 : Option Addr) (k c3 : Nat) (ks : List Value) : Prop where
  own : Own wr (w2.heap.size + 1) 57 4 A3 k c3 ks
  bp : Bx wr w.heap.size #[.int .i64 i, .bool mk, .int .i64 d.need, .int .i64 d.has, .int .u8 d.low, .int .u8 d.high, .int .i32 d.val, .string s] 42
  br : Bx wr (w.heap.size + 1) #[.int .i64 0, .bool false, .int .i64 0, .int .i64 0, .int .u8 0, .int .u8 0, .int .i32 0, .string ByteArray.empty] 42
  bd : Bx wr w2.heap.size #[.int .i64 d1.need, .int .i64 d1.has, .int .u8 d1.low, .int .u8 d1.high, .int .i32 d1.val] 28
  ru : Ru wr (fun g => w.heap.size + 1 < g ∧ g < w2.heap.size) A2 n2 c2 l
  kp : Kp w wr
  sz : w2.heap.size + 1 ≤ wr.heap.size

set_option maxRecDepth 100000 in
set_option maxHeartbeats 3200000 in
theorem scalar_any (p : Pm) (hd : p.d.ok) (b : Int) (h0 : 0 ≤ b) (h1 : b ≤ 255) (w : World) : Calls Try.prog 57 #[p.v, .int .u8 b] w (RetPk (scalarM p b) w) := by
  obtain ⟨i, met, d, pend⟩ := p
  have hF := fun wx => feed_any d hd b h0 h1 wx
  obtain ⟨d1, hd1⟩ : ∃ d1, d1 = (feedM d b).1 := ⟨_, rfl⟩
  obtain ⟨l, hl⟩ : ∃ l, l = (feedM d b).2 := ⟨_, rfl⟩
  have hll : l.length ≤ 2 := by rw [hl]; exact feedM_len d b
  obtain ⟨mm, hmm⟩ : ∃ mm, mm = (if l ≠ [] ∨ d1.has = 0 then false else met) := ⟨_, rfl⟩
  have HSC : Hid (scalarM ⟨i, met, d, pend⟩ b = (⟨0, mm, d1, pend⟩, charsM l met)) := by show _ = _; rw [hmm, hl, hd1]; rfl
  have HMM := Lib.hid hmm
  clear hmm
  unfold RetDec at hF
  rw [← hd1, ← hl] at hF
  have HF := Lib.hid hF
  clear hF hd1 hl hd
  obtain ⟨need, has, low, high, val⟩ := d
  show Calls _ _ #[.agg #[.int .i64 i, .bool met, .int .i64 need, .int .i64 has, .int .u8 low, .int .u8 high, .int .i32 val, .string (bs8 pend)], .int .u8 b] _ _
  rw [HSC.out]
  clear HSC
  generalize hs : bs8 pend = s
  have HS := Lib.hid hs
  clear hs
  go_enter Try.func57, Try.ntmps57
  go_wp2_with fail
  have bp1 := (Bx.new w #[.int .i64 i, .bool met, .int .i64 need, .int .i64 has, .int .u8 low, .int .u8 high, .int .i32 val, .string s] 42).alloc (.cells #[.int .i64 0, .bool false, .int .i64 0, .int .i64 0, .int .u8 0, .int .u8 0, .int .i32 0, .string ByteArray.empty] 42)
  have br1 := Bx.new (w.alloc (.cells #[.int .i64 i, .bool met, .int .i64 need, .int .i64 has, .int .u8 low, .int .u8 high, .int .i32 val, .string s] 42)) #[.int .i64 0, .bool false, .int .i64 0, .int .i64 0, .int .u8 0, .int .u8 0, .int .i32 0, .string ByteArray.empty] 42
  rw [World.size_alloc] at br1
  have kp1 := ((Kp.refl w).alloc (.cells #[.int .i64 i, .bool met, .int .i64 need, .int .i64 has, .int .u8 low, .int .u8 high, .int .i32 val, .string s] 42)).alloc (.cells #[.int .i64 0, .bool false, .int .i64 0, .int .i64 0, .int .u8 0, .int .u8 0, .int .i32 0, .string ByteArray.empty] 42)
  refine (HF.out _).mono ?_
  rintro e w2 ⟨A2, n2, c2, rfl, hr2, k2⟩
  have bp2 := bp1.kp k2
  have br2 := br1.kp k2
  have kp2 := kp1.trans k2
  have hru : Ru w2 (fun g => w.heap.size + 1 < g ∧ g < w2.heap.size) A2 n2 c2 l := hr2.weak (fun k hz hk => ⟨by unfold From at hk; simp at hk; omega, hz⟩)
  have hn2 : n2 ≤ 2 := by have := hr2.len; omega
  have HL := Lib.hid hr2.len
  have hle2 := hr2.le
  have hc2 := hr2.cap
  unfold maxLen at hc2
  have hzb := br2.lt
  clear hr2 k2 bp1 br1 kp1 HF
  unfold Dm.v
  go_wp2_with fail
  have hst : ScL w w2 (w2.alloc (.cells #[.int .i64 d1.need, .int .i64 d1.has, .int .u8 d1.low, .int .u8 d1.high, .int .i32 d1.val] 28)) A2 n2 c2 l i (mkM met 0) ⟨need, has, low, high, val⟩ d1 s none 0 0 (K4 ((charsM l met).take 0)) :=
    ⟨Own.nil _ _ _ _, bp2.alloc _, br2.alloc _, Bx.new w2 _ _, Sl.alloc hru _, kp2.alloc _, by simp⟩
  clear bp2 br2 kp2 hru
  go_loopg [8, 20] n2 (fun g ov iv wr => ∃ (k : Nat) (A3 : Option Addr) (c3 : Nat), k + g = n2 ∧ iv = .int .i64 k ∧ ov = .slice A3 k c3 ∧
    ScL w w2 wr A2 n2 c2 l i (mkM met k) ⟨need, has, low, high, val⟩ d1 s A3 k c3 (K4 ((charsM l met).take k)))
  case atStart => exact ⟨0, none, 0, by omega, rfl, rfl, hst⟩
  case round =>
    clear hst
    obtain ⟨k, A3, c3, hk, rfl, rfl, h⟩ := hrel
    by_cases hlt : k < n2
    · obtain ⟨ad, rfl, hc⟩ := Ru.get h.ru hlt
      have hts := charsM_snoc (l := l) (k := k) (by rw [HL.out]; exact hlt) met
      have HTS := Lib.hid hts
      have hm1 : mkM met (k + 1) = false := by simp [mkM]
      have HM1 := Lib.hid hm1
      clear hm1
      obtain ⟨hown, hbp, hbr, hbd, hru, hkp, hsz⟩ := h
      generalize mkM met k = mk at *
      obtain ⟨⟨_, p1, _⟩, _⟩ := hbp.eight
      have hz0 := hkp.size
      generalize l[k]?.getD 0 = x at *
      clear hts
      go_wp2_with (at_builtin; refine wpList_append_sl _ rfl (.tmp 24) (.tmp 29) _ rfl (w2.heap.size + 1) 57 _ 4 40 Try.underlying46 infoKey rfl (by omega) A3 k c3 (K4 ((charsM l met).take k)) rfl (hown.alloc _) Any _ 1 1 [.int .i64 1, .int .i32 x, .bool mk, .slice none 0 0] rfl (Sl.new _ _ _ _ _ trivial rfl (by omega)) (by simp [Value.oneCell']) (by simp only [maxLen]; omega) (by omega) (by first | omega | (simp; omega)) ?_; intro A4 c4 w4 hown4 hg4 hat4; have hr3 : ∀ g, rowOf A3 = some g → w2.heap.size + 1 ≤ g := (fun g e => (hown.lt g e).1); have bp4 := Bx.grown (hbp.alloc (.cells #[.int .i64 1, .int .i32 x, .bool mk, .slice none 0 0] 57)) hg4 (fun e => by have := hr3 _ e; omega); obtain ⟨⟨_, p14, _⟩, _, q14, _⟩ := bp4.eight)
      have ka := hkp.alloc (.cells #[.int .i64 1, .int .i32 x, .bool mk, .slice none 0 0] 57)
      have k4 := ka.grown hg4 fun g e => by have := hr3 g e; omega
      have br4 := Bx.grown (hbr.alloc (.cells #[.int .i64 1, .int .i32 x, .bool mk, .slice none 0 0] 57)) hg4 (fun e => by have := hr3 _ e; omega)
      have bd4 := Bx.grown (hbd.alloc (.cells #[.int .i64 1, .int .i32 x, .bool mk, .slice none 0 0] 57)) hg4 (fun e => by have := hr3 _ e; omega)
      have ru4 := Sl.grown (Sl.alloc hru (.cells #[.int .i64 1, .int .i32 x, .bool mk, .slice none 0 0] 57)) hg4 (fun g e hF => by have := hr3 g e; omega)
      have hz4 := hg4.size
      have hnew : ScL w w2 (w4.setCell ⟨w.heap.size, 1, none⟩ (.bool false)) (some ad) n2 c2 l i (mkM met (k + 1)) ⟨need, has, low, high, val⟩ d1 s A4 (k + 1) c4 (K4 ((charsM l met).take (k + 1))) := by
        rw [HTS.out, HM1.out]
        exact ⟨hown4.setCell (fun e => by have := (hown4.lt _ e).1; simp at this; omega) _, bp4.set 1 _, br4.far (by simp) _, bd4.far (by simp; omega) _, Sl.setCell ru4 (fun h => by simp at h; omega) _, k4.setCell (Nat.le_refl _) _, by simp only [World.size_alloc] at hz4; simp [World.setCell]; omega⟩
      go_roundg (n2 - (k + 1))
      case measure => omega
      case rel => exact ⟨k + 1, A4, c4, by omega, by go_num, rfl, hnew⟩
    · obtain rfl : k = n2 := by omega
      have hta : (charsM l met).take k = charsM l met := List.take_of_length_le (by rw [charsM_len, HL.out]; omega)
      obtain ⟨hown, hbp, hbr, hbd, _, hkp, hsz⟩ := h
      rw [hta] at hown
      clear hta
      have HMK : Hid ((if d1.has = 0 then false else mkM met k) = mm) := by
        show _ = _
        rw [HMM.out]
        have hl2 := HL.out
        unfold mkM
        cases l with
        | nil => simp at hl2; subst hl2; simp
        | cons x t => simp at hl2; have : k ≠ 0 := by omega
                      simp [this]
      generalize mkM met k = mk at *
      obtain ⟨⟨p0, p1, p2, p3, p4, p5, p6, p7⟩, q0, q1, q2, q3, q4, q5, q6, q7⟩ := hbp.eight
      obtain ⟨d0, d1', d2, d3, d4, _, _, _, _, _⟩ := hbd.five
      go_wp2_with fail
      go_region
      have hmB : (rowOf A3 ≠ some w.heap.size) := fun e => by have := (hown.lt _ e).1; omega
      have nB1 : w.heap.size + 1 ≠ w.heap.size := by omega
      have nB2 : w2.heap.size ≠ w.heap.size := by omega
      obtain ⟨w9, hw9⟩ : ∃ w9, w9 = ((((((wr.setCell ⟨w.heap.size, 0, none⟩ (.int .i64 0)).setCell ⟨w.heap.size, 2, none⟩ (.int .i64 d1.need)).setCell ⟨w.heap.size, 3, none⟩ (.int .i64 d1.has)).setCell ⟨w.heap.size, 4, none⟩ (.int .u8 d1.low)).setCell ⟨w.heap.size, 5, none⟩ (.int .u8 d1.high)).setCell ⟨w.heap.size, 6, none⟩ (.int .i32 d1.val)).drew := ⟨_, rfl⟩
      have bp9 : Bx w9 w.heap.size #[.int .i64 0, .bool mk, .int .i64 d1.need, .int .i64 d1.has, .int .u8 d1.low, .int .u8 d1.high, .int .i32 d1.val, .string s] 42 := by rw [hw9]; exact ((((((hbp.set 0 _).set 2 _).set 3 _).set 4 _).set 5 _).set 6 _).drew
      have br9 : Bx w9 (w.heap.size + 1) #[.int .i64 0, .bool false, .int .i64 0, .int .i64 0, .int .u8 0, .int .u8 0, .int .i32 0, .string ByteArray.empty] 42 := by rw [hw9]; exact ((((((hbr.far (p := ⟨_, _, _⟩) nB1 _).far (p := ⟨_, _, _⟩) nB1 _).far (p := ⟨_, _, _⟩) nB1 _).far (p := ⟨_, _, _⟩) nB1 _).far (p := ⟨_, _, _⟩) nB1 _).far (p := ⟨_, _, _⟩) nB1 _).drew
      have bd9 : Bx w9 w2.heap.size #[.int .i64 d1.need, .int .i64 d1.has, .int .u8 d1.low, .int .u8 d1.high, .int .i32 d1.val] 28 := by rw [hw9]; exact ((((((hbd.far (p := ⟨_, _, _⟩) nB2 _).far (p := ⟨_, _, _⟩) nB2 _).far (p := ⟨_, _, _⟩) nB2 _).far (p := ⟨_, _, _⟩) nB2 _).far (p := ⟨_, _, _⟩) nB2 _).far (p := ⟨_, _, _⟩) nB2 _).drew
      have own9 : Own w9 (w2.heap.size + 1) 57 4 A3 k c3 (K4 (charsM l met)) := by rw [hw9]; exact ((((((hown.setCell (p := ⟨_, _, _⟩) hmB _).setCell (p := ⟨_, _, _⟩) hmB _).setCell (p := ⟨_, _, _⟩) hmB _).setCell (p := ⟨_, _, _⟩) hmB _).setCell (p := ⟨_, _, _⟩) hmB _).setCell (p := ⟨_, _, _⟩) hmB _).drew
      have kp9 : Kp w w9 := by rw [hw9]; exact ((((((hkp.setCell (p := ⟨_, _, _⟩) (Nat.le_refl _) _).setCell (p := ⟨_, _, _⟩) (Nat.le_refl _) _).setCell (p := ⟨_, _, _⟩) (Nat.le_refl _) _).setCell (p := ⟨_, _, _⟩) (Nat.le_refl _) _).setCell (p := ⟨_, _, _⟩) (Nat.le_refl _) _).setCell (p := ⟨_, _, _⟩) (Nat.le_refl _) _).drew
      rw [← hw9]
      clear hw9 hbp hbr hbd hown hkp p0 p1 p2 p3 p4 p5 p6 p7 q0 q1 q2 q3 q4 q5 q6 q7 d0 d1' d2 d3 d4 hsz hmB nB2
      obtain ⟨d0, d1', d2, d3, d4, _, _, _, _, _⟩ := bd9.five
      have hpe := fun wx => pending_any d1 wx
      unfold Dm.v at hpe
      have HPE := Lib.hid hpe
      clear hpe bd9
      by_cases hz : d1.has = 0
      · have HMM2 : Hid (mm = false) := by show _ = _; rw [← HMK.out, if_pos hz]
        have hb : (d1.has == 0) = true := by simpa using hz
        clear hz HMK HMM
        go_wp2_with (go_at_call 19; refine (HPE.out _).mono ?_; rintro e w10 ⟨rfl, k10⟩; have bp10 := bp9.kp k10; have br10 := br9.kp k10; obtain ⟨⟨p0, p1, p2, p3, p4, p5, p6, p7⟩, q0, q1, q2, q3, q4, q5, q6, q7⟩ := bp10.eight; obtain ⟨⟨r0, r1, r2, r3, r4, r5, r6, r7⟩, t0, t1, t2, t3, t4, t5, t6, t7⟩ := br10.eight)
        refine bodyPost_ret (v := .tuple #[(Pm.mk 0 mm d1 pend).v, .slice A3 k c3]) (by simp [results, Try.results57, go_sem, r0, r1, r2, r3, r4, r5, r6, r7, Pm.v, Pm.cells, HMM2.out, HS.out]) rfl ?_
        exact ⟨A3, k, c3, rfl, (set8_own ((own9.kp k10).setCell (p := ⟨w.heap.size, 1, none⟩) (fun e => by have := (own9.lt _ e).1; simp at this; omega) _) (by omega) _ _ _ _ _ _ _ _).more (by omega), set8_kp ((kp9.trans k10).setCell (p := ⟨w.heap.size, 1, none⟩) (Nat.le_refl _) _) (by omega) _ _ _ _ _ _ _ _⟩
      · have HMM2 : Hid (mm = mk) := by show _ = _; rw [← HMK.out, if_neg hz]
        have hb : (d1.has == 0) = false := by simpa using hz
        clear hz HMK HMM
        go_wp2_with (go_at_call 19; refine (HPE.out _).mono ?_; rintro e w10 ⟨rfl, k10⟩; have bp10 := bp9.kp k10; have br10 := br9.kp k10; obtain ⟨⟨p0, p1, p2, p3, p4, p5, p6, p7⟩, q0, q1, q2, q3, q4, q5, q6, q7⟩ := bp10.eight; obtain ⟨⟨r0, r1, r2, r3, r4, r5, r6, r7⟩, t0, t1, t2, t3, t4, t5, t6, t7⟩ := br10.eight)
        refine bodyPost_ret (v := .tuple #[(Pm.mk 0 mm d1 pend).v, .slice A3 k c3]) (by simp [results, Try.results57, go_sem, r0, r1, r2, r3, r4, r5, r6, r7, Pm.v, Pm.cells, HMM2.out, HS.out]) rfl ?_
        exact ⟨A3, k, c3, rfl, (set8_own (own9.kp k10) (by omega) _ _ _ _ _ _ _ _).more (by omega), set8_kp (kp9.trans k10) (by omega) _ _ _ _ _ _ _ _⟩
end Go.Proofs.Ytmeefngkbcfpeaa
