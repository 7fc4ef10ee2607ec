/-
  typebarlaw22.awake: chapter 22's examples hold. No conditions.
-/
import Derived.Test.YtmeefngkbcfpeaaKeSm
import Derived.Test.YtmeefngkbcfpeaaKeI
import Derived.Deep.DeepCutAuto
import Derived.Deep.CutBlock
namespace Go.Proofs.Ytmeefngkbcfpeaa
open Go.RowKit

/-- The bytes of the example. -/
def awB : List Int := [27, 91, 65, 27, 97, 195, 169, 195, 1, 27]
def awK : List Ky := [⟨3, 1, false, []⟩, ⟨1, 97, true, []⟩, ⟨1, 233, false, []⟩, ⟨1, 65533, false, []⟩, ⟨2, 1, false, []⟩, ⟨2, 27, false, []⟩]
theorem awB_in : ∀ k : Fin 10, (feedsP Pm.zero (awB.take k.1)).1.inn ≠ 4 := by decide +kernel
theorem awB_all : (feedsP Pm.zero awB).2 ++ (tickP (feedsP Pm.zero awB).1).2 = awK := by decide +kernel
theorem awB_b : isB awB := by
  have h : ∀ b ∈ awB, 0 ≤ b ∧ b ≤ 255 := by decide +kernel
  exact h
theorem awK_text : ∀ k ∈ awK, k.text = [] := by decide +kernel
theorem awB_len : ∀ j : Fin 11, (feedsP Pm.zero (awB.take j.1)).2.length ≤ 6 := by decide +kernel
theorem far8 {w : World} {b g : Nat} {t : TypeId} {cs : Array Value} (h : Bx w b cs t) (hne : b ≠ g) (x0 x1 x2 x3 x4 x5 x6 x7 : Value) : Bx (set8 w g x0 x1 x2 x3 x4 x5 x6 x7) b cs t :=
  ((((((((h.far (p := ⟨_, _, _⟩) hne x0).far (p := ⟨_, _, _⟩) hne x1).far (p := ⟨_, _, _⟩) hne x2).far (p := ⟨_, _, _⟩) hne x3).far (p := ⟨_, _, _⟩) hne x4).far (p := ⟨_, _, _⟩) hne x5).far (p := ⟨_, _, _⟩) hne x6).far (p := ⟨_, _, _⟩) hne x7)
theorem held8 {w : World} {b g : Nat} {t : TypeId} {y0 y1 y2 y3 y4 y5 y6 y7 : Value} (h : Bx w b #[y0, y1, y2, y3, y4, y5, y6, y7] t) (hne : b ≠ g) (x0 x1 x2 x3 x4 x5 x6 x7 : Value) :
    ((((((((w.setCell ⟨g, 0, none⟩ x0).setCell ⟨g, 1, none⟩ x1).setCell ⟨g, 2, none⟩ x2).setCell ⟨g, 3, none⟩ x3).setCell ⟨g, 4, none⟩ x4).setCell ⟨g, 5, none⟩ x5).setCell ⟨g, 6, none⟩ x6).setCell ⟨g, 7, none⟩ x7).cell? ⟨b, 0, none⟩ = some y0 ∧ ((((((((w.setCell ⟨g, 0, none⟩ x0).setCell ⟨g, 1, none⟩ x1).setCell ⟨g, 2, none⟩ x2).setCell ⟨g, 3, none⟩ x3).setCell ⟨g, 4, none⟩ x4).setCell ⟨g, 5, none⟩ x5).setCell ⟨g, 6, none⟩ x6).setCell ⟨g, 7, none⟩ x7).cell? ⟨b, 1, none⟩ = some y1 ∧ ((((((((w.setCell ⟨g, 0, none⟩ x0).setCell ⟨g, 1, none⟩ x1).setCell ⟨g, 2, none⟩ x2).setCell ⟨g, 3, none⟩ x3).setCell ⟨g, 4, none⟩ x4).setCell ⟨g, 5, none⟩ x5).setCell ⟨g, 6, none⟩ x6).setCell ⟨g, 7, none⟩ x7).cell? ⟨b, 2, none⟩ = some y2 ∧ ((((((((w.setCell ⟨g, 0, none⟩ x0).setCell ⟨g, 1, none⟩ x1).setCell ⟨g, 2, none⟩ x2).setCell ⟨g, 3, none⟩ x3).setCell ⟨g, 4, none⟩ x4).setCell ⟨g, 5, none⟩ x5).setCell ⟨g, 6, none⟩ x6).setCell ⟨g, 7, none⟩ x7).cell? ⟨b, 3, none⟩ = some y3 ∧ ((((((((w.setCell ⟨g, 0, none⟩ x0).setCell ⟨g, 1, none⟩ x1).setCell ⟨g, 2, none⟩ x2).setCell ⟨g, 3, none⟩ x3).setCell ⟨g, 4, none⟩ x4).setCell ⟨g, 5, none⟩ x5).setCell ⟨g, 6, none⟩ x6).setCell ⟨g, 7, none⟩ x7).cell? ⟨b, 4, none⟩ = some y4 ∧ ((((((((w.setCell ⟨g, 0, none⟩ x0).setCell ⟨g, 1, none⟩ x1).setCell ⟨g, 2, none⟩ x2).setCell ⟨g, 3, none⟩ x3).setCell ⟨g, 4, none⟩ x4).setCell ⟨g, 5, none⟩ x5).setCell ⟨g, 6, none⟩ x6).setCell ⟨g, 7, none⟩ x7).cell? ⟨b, 5, none⟩ = some y5 ∧ ((((((((w.setCell ⟨g, 0, none⟩ x0).setCell ⟨g, 1, none⟩ x1).setCell ⟨g, 2, none⟩ x2).setCell ⟨g, 3, none⟩ x3).setCell ⟨g, 4, none⟩ x4).setCell ⟨g, 5, none⟩ x5).setCell ⟨g, 6, none⟩ x6).setCell ⟨g, 7, none⟩ x7).cell? ⟨b, 6, none⟩ = some y6 ∧ ((((((((w.setCell ⟨g, 0, none⟩ x0).setCell ⟨g, 1, none⟩ x1).setCell ⟨g, 2, none⟩ x2).setCell ⟨g, 3, none⟩ x3).setCell ⟨g, 4, none⟩ x4).setCell ⟨g, 5, none⟩ x5).setCell ⟨g, 6, none⟩ x6).setCell ⟨g, 7, none⟩ x7).cell? ⟨b, 7, none⟩ = some y7 :=
  by
  have k := (far8 h hne x0 x1 x2 x3 x4 x5 x6 x7).eight.1
  unfold set8 at k
  exact k
theorem bx_set8 {w : World} {b : Nat} {t : TypeId} {y0 y1 y2 y3 y4 y5 y6 y7 : Value} (h : Bx w b #[y0, y1, y2, y3, y4, y5, y6, y7] t) (x0 x1 x2 x3 x4 x5 x6 x7 : Value) : Bx (set8 w b x0 x1 x2 x3 x4 x5 x6 x7) b #[x0, x1, x2, x3, x4, x5, x6, x7] t := by
  have h0 : Bx _ b #[x0, y1, y2, y3, y4, y5, y6, y7] t := h.set 0 x0
  have h1 : Bx _ b #[x0, x1, y2, y3, y4, y5, y6, y7] t := h0.set 1 x1
  have h2 : Bx _ b #[x0, x1, x2, y3, y4, y5, y6, y7] t := h1.set 2 x2
  have h3 : Bx _ b #[x0, x1, x2, x3, y4, y5, y6, y7] t := h2.set 3 x3
  have h4 : Bx _ b #[x0, x1, x2, x3, x4, y5, y6, y7] t := h3.set 4 x4
  have h5 : Bx _ b #[x0, x1, x2, x3, x4, x5, y6, y7] t := h4.set 5 x5
  have h6 : Bx _ b #[x0, x1, x2, x3, x4, x5, x6, y7] t := h5.set 6 x6
  have h7 : Bx _ b #[x0, x1, x2, x3, x4, x5, x6, x7] t := h6.set 7 x7
  unfold set8
  exact h7
theorem size_set8 (w : World) (b : Nat) (x0 x1 x2 x3 x4 x5 x6 x7 : Value) : (set8 w b x0 x1 x2 x3 x4 x5 x6 x7).heap.size = w.heap.size := by simp [set8]

set_option maxRecDepth 100000 in
set_option maxHeartbeats 3200000 in
theorem awake_any (w : World) : Calls Try.prog 34 #[] w fun e w' => e = .returned (.bool true) ∧ Kp w w' := by
  have bp0 := Bx.new w Pm.zero.cells 42
  have kp0 := (Kp.refl w).alloc (.cells Pm.zero.cells 42)
  go_enter Try.func34, Try.ntmps34
  go_wp2_with fail
  go_loopg [2, 4] 10 (fun g ov iv wr => ∃ (k : Nat) (A3 : Option Addr) (n3 c3 : Nat), k + g = 10 ∧ iv = .int .i64 k ∧ ov = .slice A3 n3 c3 ∧
    Own wr (w.heap.size + 1) 57 4 A3 n3 c3 (K4 (feedsP Pm.zero (awB.take k)).2) ∧ Bx wr w.heap.size (feedsP Pm.zero (awB.take k)).1.cells 42 ∧ Kp w wr)
  case atStart => exact ⟨0, none, 0, 0, by omega, rfl, rfl, Own.nil _ _ _ _, bp0, kp0⟩
  case round =>
    clear bp0 kp0
    obtain ⟨k, A3, n3, c3, hk, rfl, rfl, ho, hb, kw⟩ := hrel
    have hn3 : n3 ≤ 6 := by
      have h1 := ho.len
      rw [K4_length] at h1
      have := awB_len ⟨k, by omega⟩
      dsimp only at this
      omega
    by_cases hlt : k < 10
    · have hin := awB_in ⟨k, hlt⟩
      dsimp only at hin
      obtain ⟨x, hx⟩ : ∃ x, awB[k]? = some x := ⟨awB[k]'hlt, List.getElem?_eq_getElem _⟩
      have hxb := awB_b x (List.mem_of_getElem? hx)
      have hts : awB.take (k + 1) = awB.take k ++ [x] := by
        have := List.take_succ_eq_append_getElem (l := awB) (i := k) hlt
        rw [this]
        have h2 : awB[k] = x := by have := List.getElem?_eq_getElem (l := awB) (i := k) hlt; rw [hx] at this; exact (Option.some.inj this).symm
        rw [h2]
      have hst := feedsP_snoc (awB.take k) Pm.zero x
      rw [← hts] at hst
      have hok := feedsP_ok (awB.take k) Pm.zero 0 PmOk.zero (isB_take awB_b k)
      have hix := fun wx : World => run_index_str (P := Try.prog) wx 9 ⟨#[27, 91, 65, 27, 97, 195, 169, 195, 1, 27]⟩ .i64 k k Try.underlying9 rfl hlt x (by
        have : by8 ⟨#[27, 91, 65, 27, 97, 195, 169, 195, 1, 27]⟩ = awB := rfl
        rw [this, hx]; rfl)
      have hol := awB_len ⟨k + 1, by omega⟩
      dsimp only at hol
      generalize feedsP Pm.zero (awB.take k) = st at *
      obtain ⟨⟨i, met, ⟨need, has, low, high, val⟩, pend⟩, ks⟩ := st
      dsimp only at hin hok hst ho hb
      have hl0 : pend.length ≤ 100000 := by have := hok.len; simp at this; omega
      have hfe := fun wx : World => feedP_any ⟨i, met, ⟨need, has, low, high, val⟩, pend⟩ hin hok.ok hok.bd hl0 x hxb.1 hxb.2 wx
      have hkl := feedP_len ⟨i, met, ⟨need, has, low, high, val⟩, pend⟩ x
      generalize feedP ⟨i, met, ⟨need, has, low, high, val⟩, pend⟩ x = fr at *
      obtain ⟨⟨i', met', ⟨need', has', low', high', val'⟩, pend'⟩, ks'⟩ := fr
      unfold RetPk at hfe
      dsimp only [Pm.v, Pm.cells] at hfe hst hb hkl
      have HFE := Lib.hid hfe
      have HST := Lib.hid hst
      clear hfe hst hok hin hx hts hl0 hol
      have HKL := Lib.hid hkl
      clear hkl
      generalize bs8 pend = s at *
      generalize hs' : bs8 pend' = s' at *
      have HS' := Lib.hid hs'
      clear hs'
      obtain ⟨⟨p0, p1, p2, p3, p4, p5, p6, p7⟩, q0, q1, q2, q3, q4, q5, q6, q7⟩ := hb.eight
      have hz0 := kw.size
      go_upto_region 7 with fail
      go_cut [5, 6] (fun qb v wx => ∃ (g : Nat) (A1 : Option Addr) (n1 c1 : Nat), qb = .pointer (some ⟨g, 0, none⟩) ∧ v = .slice A1 n1 c1 ∧ Own wx wr.heap.size 57 4 A1 n1 c1 (K4 ks') ∧
        Bx wx g #[.int .i64 i', .bool met', .int .i64 need', .int .i64 has', .int .u8 low', .int .u8 high', .int .i32 val', .string s'] 42 ∧ wr.heap.size ≤ g ∧ Kp wr wx)
      case first =>
        go_wp2_with fail
        have nB : w.heap.size ≠ wr.heap.size := Nat.ne_of_lt hb.lt
        go_region_held3 (fun w' => w'.cell? ⟨w.heap.size, 0, none⟩ = some (.int .i64 i) ∧ w'.cell? ⟨w.heap.size, 1, none⟩ = some (.bool met) ∧ w'.cell? ⟨w.heap.size, 2, none⟩ = some (.int .i64 need) ∧ w'.cell? ⟨w.heap.size, 3, none⟩ = some (.int .i64 has) ∧ w'.cell? ⟨w.heap.size, 4, none⟩ = some (.int .u8 low) ∧ w'.cell? ⟨w.heap.size, 5, none⟩ = some (.int .u8 high) ∧ w'.cell? ⟨w.heap.size, 6, none⟩ = some (.int .i32 val) ∧ w'.cell? ⟨w.heap.size, 7, none⟩ = some (.string s))
          (first | (with_reducible exact ⟨u0, u1, u2, u3, u4, u5, u6, u7⟩) | (with_reducible exact held8 hbx1 nB _ _ _ _ _ _ _ _) | (with_reducible exact held8 (hbx1.alloc _) nB1 _ _ _ _ _ _ _ _) | go_keep)
          (first | (go_at_call 28; refine (HFE.out _).mono ?_; rintro e w1 ⟨A1, n1, c1, rfl, ho1, hk1⟩; (first | (have k0 : Kp wr w1 := (Kp.refl wr).drew.trans hk1) | (have k0 : Kp wr w1 := ((Kp.refl wr).drew.alloc _).trans hk1)); have hbx1 := hb.kp k0; have nB1 : w.heap.size ≠ w1.heap.size := Nat.ne_of_lt hbx1.lt; have hz1 := k0.size; (first | (have f0 : Bx w1 wr.heap.size _ _ := Bx.kp (Bx.new wr.drew _ _) hk1; have hl0 := f0.lt; obtain ⟨⟨a0, a1, a2, a3, a4, a5, a6, a7⟩, b0, b1, b2, b3, b4, b5, b6, b7⟩ := f0.eight) | skip); obtain ⟨⟨u0, u1, u2, u3, u4, u5, u6, u7⟩, v0, v1, v2, v3, v4, v5, v6, v7⟩ := hbx1.eight; obtain ⟨⟨x0, x1, x2, x3, x4, x5, x6, x7⟩, y0, y1, y2, y3, y4, y5, y6, y7⟩ := Bx.eight (Bx.new w1 #[.int .i64 0, .bool false, .int .i64 0, .int .i64 0, .int .u8 0, .int .u8 0, .int .i32 0, .string ByteArray.empty] 42)))
        all_goals go_wp2_with fail
        all_goals go_meet
        all_goals first
          | (have hf := f0; exact ⟨wr.heap.size, A1, n1, c1, rfl, rfl, (set8_own ho1 (b := wr.heap.size) (by simp) (.int .i64 i') (.bool met') (.int .i64 need') (.int .i64 has') (.int .u8 low') (.int .u8 high') (.int .i32 val') (.string s')).more (by simp), bx_set8 f0 (.int .i64 i') (.bool met') (.int .i64 need') (.int .i64 has') (.int .u8 low') (.int .u8 high') (.int .i32 val') (.string s'), Nat.le_refl _, set8_kp k0 (Nat.le_refl _) (.int .i64 i') (.bool met') (.int .i64 need') (.int .i64 has') (.int .u8 low') (.int .u8 high') (.int .i32 val') (.string s')⟩)
          | exact ⟨_, A1, n1, c1, rfl, rfl, (ho1.more (Nat.le_refl _)).alloc _, Bx.new _ _ _, hz1, k0.alloc _⟩
      case rest =>
        obtain ⟨g, A1, n1, c1, rfl, rfl, ho1, bg, hg1, k1⟩ := hcut
        have hb1 := hb.kp k1
        have hbl := hb.lt
        have hn1 : n1 ≤ 3 := by have h1 := ho1.len; rw [K4_length] at h1; have := HKL.out; omega
        have ho3 := ho.kp k1
        have kw1 := kw.trans k1
        have hz1 := k1.size
        have hgl := bg.lt
        clear hb ho kw k1 p0 p1 p2 p3 p4 p5 p6 p7 q0 q1 q2 q3 q4 q5 q6 q7 HFE hix
        obtain ⟨⟨p0, p1, p2, p3, p4, p5, p6, p7⟩, q0, q1, q2, q3, q4, q5, q6, q7⟩ := hb1.eight
        obtain ⟨⟨r0, r1, r2, r3, r4, r5, r6, r7⟩, _⟩ := bg.eight
        go_upto_region 9 with fail
        have hbS := bx_set8 hb1 (.int .i64 i') (.bool met') (.int .i64 need') (.int .i64 has') (.int .u8 low') (.int .u8 high') (.int .i32 val') (.string s')
        have hoS := set8_own ho3 (b := w.heap.size) (by omega) (.int .i64 i') (.bool met') (.int .i64 need') (.int .i64 has') (.int .u8 low') (.int .u8 high') (.int .i32 val') (.string s')
        have ho1S := set8_own ho1 (b := w.heap.size) hbl (.int .i64 i') (.bool met') (.int .i64 need') (.int .i64 has') (.int .u8 low') (.int .u8 high') (.int .i32 val') (.string s')
        have kwS := set8_kp kw1 (b := w.heap.size) (Nat.le_refl _) (.int .i64 i') (.bool met') (.int .i64 need') (.int .i64 has') (.int .u8 low') (.int .u8 high') (.int .i32 val') (.string s')
        have hzS := size_set8 wc w.heap.size (.int .i64 i') (.bool met') (.int .i64 need') (.int .i64 has') (.int .u8 low') (.int .u8 high') (.int .i32 val') (.string s')
        have hzS2 : w.heap.size + 1 ≤ (set8 wc w.heap.size (.int .i64 i') (.bool met') (.int .i64 need') (.int .i64 has') (.int .u8 low') (.int .u8 high') (.int .i32 val') (.string s')).heap.size := by have := hbS.lt; omega
        clear hzS hb1 ho3 ho1 kw1 bg p0 p1 p2 p3 p4 p5 p6 p7 q0 q1 q2 q3 q4 q5 q6 q7 r0 r1 r2 r3 r4 r5 r6 r7
        go_wp2_with (at_builtin; refine wpList_append_sl _ rfl (.tmp 24) (.tmp 25) _ rfl (w.heap.size + 1) 57 _ 4 40 Try.underlying46 infoKey rfl (by omega) A3 n3 c3 (K4 ks) rfl hoS _ A1 n1 c1 (K4 ks') rfl ho1S.sl (K4_one _) (by simp only [maxLen]; omega) (by omega) hzS2 ?_; intro A4 c4 w4 hown4 hg4 hat4)
        have hr3 : ∀ j, rowOf A3 = some j → w.heap.size + 1 ≤ j := fun j e => (hoS.lt j e).1
        go_roundg (10 - (k + 1))
        case measure => omega
        case rel =>
          refine ⟨k + 1, A4, n3 + n1, c4, by omega, by go_num, rfl, ?_, ?_, Kp.grown kwS hg4 (fun j e => by have := hr3 _ e; omega)⟩
          · rw [HST.out, K4_append]; exact hown4
          · rw [HST.out]
            show Bx _ _ #[.int .i64 i', .bool met', .int .i64 need', .int .i64 has', .int .u8 low', .int .u8 high', .int .i32 val', .string (bs8 pend')] _
            rw [HS'.out]
            exact Bx.grown hbS hg4 (fun e => by have := hr3 _ e; omega)
    · obtain rfl : k = 10 := by omega
      have hta : awB.take 10 = awB := rfl
      rw [hta] at ho hb
      have hall := awB_all
      generalize feedsP Pm.zero awB = st at *
      obtain ⟨⟨i, met, ⟨need, has, low, high, val⟩, pend⟩, ks⟩ := st
      have htk := fun wx : World => tick_any ⟨i, met, ⟨need, has, low, high, val⟩, pend⟩ wx
      dsimp only at hall ho hb
      generalize tickP ⟨i, met, ⟨need, has, low, high, val⟩, pend⟩ = tk at *
      obtain ⟨⟨i', met', ⟨need', has', low', high', val'⟩, pend'⟩, ks'⟩ := tk
      unfold RetPk at htk
      dsimp only [Pm.v, Pm.cells] at htk hall hb
      have hkl : ks'.length ≤ 6 := by have := congrArg List.length hall; simp [awK] at this; omega
      have HKL := Lib.hid hkl
      have HAL := Lib.hid hall
      have HTK := Lib.hid htk
      clear htk hall hkl hta
      generalize bs8 pend = s at *
      generalize bs8 pend' = s' at *
      obtain ⟨⟨p0, p1, p2, p3, p4, p5, p6, p7⟩, q0, q1, q2, q3, q4, q5, q6, q7⟩ := hb.eight
      have hz0 := kw.size
      have hzb := hb.lt
      have ka : K4 awK = [.int .i64 3, .int .i32 1, .bool false, .slice none 0 0, .int .i64 1, .int .i32 97, .bool true, .slice none 0 0, .int .i64 1, .int .i32 233, .bool false, .slice none 0 0, .int .i64 1, .int .i32 65533, .bool false, .slice none 0 0, .int .i64 2, .int .i32 1, .bool false, .slice none 0 0, .int .i64 2, .int .i32 27, .bool false, .slice none 0 0] := rfl
      have HKA := Lib.hid ka
      clear ka
      go_wp2_with (first
        | (go_at_call 30; refine (HTK.out _).mono ?_; rintro e w1 ⟨A1, n1, c1, rfl, ho1, hk1⟩; have kw1 := kw.trans hk1; have ho3 := ho.kp hk1; have hn1 : n1 ≤ 6 := (by have h1 := ho1.len; rw [K4_length] at h1; have := HKL.out; omega); have hz1 := hk1.size)
        | (at_builtin; refine wpList_append_sl _ rfl (.tmp 32) (.tmp 33) _ rfl (w.heap.size + 1) 57 _ 4 40 Try.underlying46 infoKey rfl (by omega) A3 n3 c3 (K4 ks) rfl (ho3.alloc _) _ A1 n1 c1 (K4 ks') rfl (ho1.alloc _).sl (K4_one _) (by simp only [maxLen]; omega) (by omega) (by simp; omega) ?_; intro A4 c4 w4 hown4 hg4 hat4)
        | (go_at_call 32; refine (keysSame Any Any A4 _ _ c4 _ _ awK _ (KsF.of ((by rw [← HAL.out, K4_append]; exact Sl.alloc hown4.sl.any _)) awK_text) (KsF.of (by rw [HKA.out]; exact Sl.new_ (F := Any) _ _ _ 4 6 _ rfl trivial rfl (by omega)) awK_text)).mono ?_; rintro e w6 ⟨rfl, d6⟩))
      go_ret
      have hr3 : ∀ j, rowOf A3 = some j → w.heap.size + 1 ≤ j := fun j e => (ho3.lt j e).1
      exact ⟨rfl, Kp.trans (Kp.alloc (Kp.grown (kw1.alloc _) hg4 (fun j e => by have := hr3 _ e; omega)) _) d6.kp⟩
end Go.Proofs.Ytmeefngkbcfpeaa
