/-
  typebarref22: rest, fed, alone: the parser in its box g; all other memory that was there stays. Conditions: the box is there; what waits are bytes, not more than 100000; a byte from 0 to 255.
-/
import Derived.Test.YtmeefngkbcfpeaaKeV
namespace Go.Proofs.Ytmeefngkbcfpeaa
open Go.RowKit

/-- Nothing that was there has turned but box g. -/
def Gb (g : Nat) (w w' : World) : Prop := w.grownBy w' (some g)
section
variable {g : Nat} {w w1 w2 : World}
theorem Gb.refl (g : Nat) (w : World) : Gb g w w := World.grownBy.refl w _
theorem Gb.kp (h : Gb g w w1) (k : Kp w1 w2) : Gb g w w2 :=
  ⟨k.os.trans h.os, k.tape.trans h.tape, k.output.trans h.output, Nat.le_trans h.size k.size, fun i hi hn => (k.block i (Nat.lt_of_lt_of_le hi h.size)).trans (h.block i hi hn)⟩
theorem Gb.of (k : Kp w w1) : Gb g w w1 := (Gb.refl g w).kp k
theorem Gb.trans (h : Gb g w w1) (k : Gb g w1 w2) : Gb g w w2 := World.grownBy.trans h k
theorem Gb.alloc (h : Gb g w w1) (o : Obj) : Gb g w (w1.alloc o) := h.kp ((Kp.refl _).alloc o)
theorem Gb.set (h : Gb g w w1) (i : Nat) (v : Value) : Gb g w (w1.setCell ⟨g, i, none⟩ v) :=
  ⟨h.os, h.tape, h.output, by have := h.size; simp only [World.size_setCell]; exact this, fun k hk hn => (Below.heap_setCell w1 _ v k (fun e => hn (by rw [e]))).trans (h.block k hk hn)⟩
theorem Gb.grown {row : Option Nat} (h : Gb g w w1) (hg : w1.grownBy w2 row) (hr : ∀ k, row = some k → w.heap.size ≤ k) : Gb g w w2 :=
  ⟨hg.os.trans h.os, hg.tape.trans h.tape, hg.output.trans h.output, Nat.le_trans h.size hg.size, fun i hi hn => (hg.block i (Nat.lt_of_lt_of_le hi h.size) (fun e => by have := hr i e.symm; omega)).trans (h.block i hi hn)⟩
/-- What was new keeps. -/
theorem Gb.own {base : Nat} {e : TypeId} {size n c : Nat} {A : Option Addr} {xs : List Value} (k : Gb g w1 w2) (h : Own w1 base e size A n c xs) (hb : g < base) : Own w2 base e size A n c xs :=
  h.grown k fun j hj e => by have := (h.lt j hj).1; cases e; omega
theorem Gb.kept {wo : World} (k : Gb g w1 w2) (h : Kp wo w1) (hg : wo.heap.size ≤ g) : Kp wo w2 := h.grown k fun j e => by cases e; exact hg
theorem Gb.sl {F : Nat → Prop} {size n c : Nat} {A : Option Addr} {xs : List Value} (k : Gb g w1 w2) (h : Sl w1 F size A n c xs) (hF : ¬ F g) : Sl w2 F size A n c xs :=
  h.grown k fun j e => by cases e; exact hF
theorem Gb.bx {b : Nat} {cs : Array Value} {t : TypeId} (k : Gb g w1 w2) (h : Bx w1 b cs t) (hb : g ≠ b) : Bx w2 b cs t := h.grown k fun e => by cases e; exact hb rfl
end
/-- The cells of the document's parser. -/
def Rm.cells (r : Rm) : Array Value := #[.int .i64 r.inn, .string (bs8 r.row), .string (bs8 r.wait), .bool r.met]
/-- Keys without a text come back in a row of the call's own; box g is the parser r. -/
def RetRr (x : Rm × List Ky) (g : Nat) (w : World) (e : Ending) (w' : World) : Prop :=
  ∃ A n c, e = .returned (.slice A n c) ∧ Own w' w.heap.size 57 4 A n c (K4 x.2) ∧ Bx w' g x.1.cells 45 ∧ Gb g w w'

set_option maxRecDepth 100000 in
set_option maxHeartbeats 1600000 in
theorem refRest_any (r : Rm) (hw : isB r.wait) (hwl : r.wait.length ≤ 100001) (g : Nat) (w : World) (hg : Bx w g r.cells 45) :
    Calls Try.prog 54 #[.pointer (some ⟨g, 0, none⟩)] w (RetRr (restR r) g w) := by
  obtain ⟨i, row, wait, met⟩ := r
  dsimp only [Rm.cells] at hg hw hwl
  have hd := fun wx : World => refDecode_any (bs8 wait) (by rw [bs8_size]; omega) wx
  rw [by8_bs8 hw] at hd
  have hdl := decR_length wait
  have HP : Hid (restR ⟨i, row, wait, met⟩ = (⟨i, row, [], false⟩, charsM (decR wait) met)) := by show _ = _; rfl
  rw [HP.out]
  generalize decR wait = l at *
  have HD := Lib.hid hd
  have hdl2 : l.length ≤ 100001 := by omega
  have HDL := Lib.hid hdl2
  clear hd hdl hdl2 hwl hw HP
  generalize bs8 wait = s2 at *
  have hgl := hg.lt
  obtain ⟨⟨p0, p1, p2, p3⟩, q0, q1, q2, q3⟩ := hg.four4
  go_enter Try.func54, Try.ntmps54
  go_wp2_with fail
  go_region_held3 (fun w' => w'.cell? ⟨g, 2, none⟩ = some (.string s2) ∧ w'.cell? ⟨g, 3, none⟩ = some (.bool met))
    (first | (with_reducible exact ⟨p2, p3⟩) | (with_reducible exact ⟨u2, u3⟩) | (with_reducible exact ⟨v2, v3⟩) | go_keep)
    (first | (go_at_call 15; refine (HD.out _).mono ?_; rintro e w2 ⟨A2, n2, c2, rfl, hr2, k2'⟩; have k2 : Kp w w2 := (by first | exact k2' | exact (Kp.refl w).drew.trans k2'); have b2 := hg.kp k2; have hn2 : n2 ≤ 1000000 := (by have h1 := hr2.len; have h2 := HDL.out; omega); clear k2'; obtain ⟨⟨u0, u1, u2, u3⟩, _⟩ := b2.four4) | (go_at_call 62; go_loud (refine (chars_any met A2 n2 c2 l _ (by first | exact Sl.any hr2 | exact Sl.drew (Sl.any hr2)) hn2).mono ?_); rintro e w3 ⟨A3, n3, c3, rfl, ho3', k3'⟩; have k3 : Kp w2 w3 := (by first | exact k3' | exact (Kp.refl w2).drew.trans k3'); have ho3 : Own w3 w2.heap.size 57 4 A3 n3 c3 (K4 (charsM l met)) := ho3'; have b3 := b2.kp k3; clear k3' ho3'; obtain ⟨⟨v0, v1, v2, v3⟩, y0, y1, y2, y3⟩ := b3.four4))
  have hz2 := k2.size
  have gb3 := (Gb.of (g := g) k2).kp k3
  go_wp2_with fail
  go_ret
  exact ⟨A3, n3, c3, rfl, ((ho3.setCell (p := ⟨g, 2, none⟩) (fun e => by have := (ho3.lt _ e).1; simp at this; omega) _).setCell (p := ⟨g, 3, none⟩) (fun e => by have := (ho3.lt _ e).1; simp at this; omega) _).more hz2, (b3.set 2 _).set 3 _, (gb3.set 2 _).set 3 _⟩

/-- The bytes that wait, and one more: how many of them still wait. -/
def fedN (r : Rm) (b : Int) : Nat := waitR (r.wait ++ [b])
theorem fedN_le (r : Rm) (b : Int) : fedN r b ≤ r.wait.length + 1 := by
  have := (feedsM_law _ (r.wait ++ [b]) (Nat.le_refl _)).2.2.1
  simp at this
  exact this

set_option maxRecDepth 100000 in
set_option maxHeartbeats 3200000 in
theorem refFed_any (r : Rm) (hw : isB r.wait) (hwl : r.wait.length ≤ 100000) (b : Int) (h0 : 0 ≤ b) (h1 : b ≤ 255) (g : Nat) (w : World) (hg : Bx w g r.cells 45) :
    Calls Try.prog 60 #[.pointer (some ⟨g, 0, none⟩), .int .u8 b] w (RetRr (fedR r b) g w) := by
  have hnl := fedN_le r b
  obtain ⟨i, row, wait, met⟩ := r
  dsimp only [Rm.cells] at hg hw hwl hnl
  have hib : isB (wait ++ [b]) := isB_app hw (isB_one h0 h1)
  have hlen : (wait ++ [b]).length = wait.length + 1 := by simp
  have hwa := fun wx : World => waits_any (bs8 (wait ++ [b])) (by rw [bs8_size]; omega) wx
  rw [by8_bs8 hib] at hwa
  have hP : fedR ⟨i, row, wait, met⟩ b = (⟨0, row, (wait ++ [b]).drop (wait.length + 1 - fedN ⟨i, row, wait, met⟩ b), (if decR ((wait ++ [b]).take (wait.length + 1 - fedN ⟨i, row, wait, met⟩ b)) ≠ [] ∨ fedN ⟨i, row, wait, met⟩ b = 0 then false else met)⟩,
    charsM (decR ((wait ++ [b]).take (wait.length + 1 - fedN ⟨i, row, wait, met⟩ b))) met) := rfl
  have hfn : waitR (wait ++ [b]) = fedN ⟨i, row, wait, met⟩ b := rfl
  rw [hfn] at hwa
  clear hfn
  generalize fedN ⟨i, row, wait, met⟩ b = n at *
  have hx1 := bs8_extract hib 0 (wait.length + 1 - n)
  have hx2 := bs8_extract hib (wait.length + 1 - n) (wait.length + 1)
  rw [List.drop_zero, Nat.sub_zero] at hx1
  rw [List.take_of_length_le (by simp)] at hx2
  have hd := fun wx : World => refDecode_any (bs8 ((wait ++ [b]).take (wait.length + 1 - n))) (by rw [bs8_size]; simp; omega) wx
  rw [by8_bs8 (isB_take hib _), ← hx1] at hd
  have hdl := decR_length ((wait ++ [b]).take (wait.length + 1 - n))
  rw [List.length_take] at hdl
  have hres : bs8 (wait ++ [b]) = bs8 wait ++ bs [b] := by rw [bs8_app]; rfl
  have hsz := bs8_size (wait ++ [b])
  rw [hlen, hres] at hsz
  have hs1 : (bs [b]).size = 1 := by rw [bs_size]; rfl
  have hsw := bs8_size wait
  have hs2 : (bs8 wait).size ≤ 100000 := by omega
  generalize decR ((wait ++ [b]).take (wait.length + 1 - n)) = l at *
  rw [hres] at hwa hd hx2
  have hb2 : bs8 ((wait ++ [b]).drop (wait.length + 1 - n)) = (bs8 wait ++ bs [b]).extract (wait.length + 1 - n) (wait.length + 1) := hx2.symm
  have hdl2 : l.length ≤ 100001 := by omega
  have HDL := Lib.hid hdl2
  rw [← hsz] at hd
  have hb3 : bs8 ((wait ++ [b]).drop (wait.length + 1 - n)) = (bs8 wait ++ bs [b]).extract ((bs8 wait ++ bs [b]).size - n) (bs8 wait ++ bs [b]).size := by rw [hsz]; exact hb2
  obtain ⟨mm, hmm⟩ : ∃ mm, mm = (if l ≠ [] ∨ n = 0 then false else met) := ⟨_, rfl⟩
  rw [← hmm] at hP
  have HMM := Lib.hid hmm
  have HWA := Lib.hid hwa
  have HD := Lib.hid hd
  have HB2 := Lib.hid hb3
  rw [hP]
  clear hwa hd hb2 hb3 hdl hdl2 hx1 hx2 hres hlen hib hw hP hmm
  have hsl := Sl.new_ (F := Any) w #[.int .u8 b] 5 1 1 _ rfl trivial rfl (by omega)
  have hcv1 := conv_sl (P := Try.prog) (w.alloc (.cells #[.int .u8 b] 5)) 60 9 5 Try.underlying60 Try.underlying5 Try.underlying9 (A := some ⟨w.heap.size, 0, none⟩) (n := 1) (c := 1) (l := [b]) (F := Any) (hsl) (isB_one h0 h1)
  have hcv2 := conv_sl (P := Try.prog) ((w.alloc (.cells #[.int .u8 b] 5)).drew) 60 9 5 Try.underlying60 Try.underlying5 Try.underlying9 (A := some ⟨w.heap.size, 0, none⟩) (n := 1) (c := 1) (l := [b]) (F := Any) (Sl.drew hsl) (isB_one h0 h1)
  clear hsl
  generalize bs8 wait = s2 at *
  have hgl := hg.lt
  obtain ⟨⟨p0, p1, p2, p3⟩, q0, q1, q2, q3⟩ := hg.four4
  go_enter Try.func60, Try.ntmps60
  go_wp2_with fail
  go_region
  have b1 := Bx.drew (hg.alloc (.cells #[.int .u8 b] 5))
  have gb1 := (Gb.refl g w).kp ((Kp.refl w).alloc (.cells #[.int .u8 b] 5)).drew
  generalize (w.alloc (.cells #[.int .u8 b] 5)).drew = w1 at *
  clear hcv1 hcv2 p0 p1 p2 p3 q0 q1 q2 q3
  obtain ⟨⟨p0, p1, p2, p3⟩, q0, q1, q2, q3⟩ := b1.four4
  have hs5 : (s2 ++ bs [b]).size ≤ 100001 := by omega
  have hns : n ≤ (s2 ++ bs [b]).size := by omega
  generalize s2 ++ bs [b] = s5 at *
  have hsub : (s5.size : Int) - (n : Int) = ((s5.size - n : Nat) : Int) := by omega
  clear hsz hsw hs2 hs1 hnl hwl
  rcases Nat.eq_zero_or_pos l.length with hl0 | hl0
  · rcases Nat.eq_zero_or_pos n with hn0 | hn0
    · have HM2 : Hid (mm = false) := by show _ = _; rw [HMM.out, if_pos (Or.inr hn0)]
      have hbn : ((n : Int) == 0) = true := by simp; omega
      clear hn0
      have HL0 := Lib.hid hl0
      clear hl0 HMM
      go_wp2_with (first
    | (go_at_call 18; refine (HWA.out _).mono ?_; rintro e w2 ⟨rfl, d2⟩; have b2 := b1.kp d2.kp; have gb2 := gb1.kp d2.kp; clear d2)
    | (go_at_call 15; refine (HD.out _).mono ?_; rintro e w3 ⟨A3, n3, c3, rfl, hr3, k3⟩; have b3 := b2.kp k3; have gb3 := gb2.kp k3; have hl3 := HDL.out; have hlen3 := hr3.len; have hn3 : n3 ≤ 1000000 := (by omega); have HCH := Lib.hid (fun (wx : World) (kx : Kp w3 wx) => chars_any met A3 n3 c3 l wx (Sl.any (Sl.kp hr3 kx)) hn3); obtain rfl : n3 = 0 := (by have := HL0.out; omega); clear hl3 hlen3 k3 hr3; obtain ⟨⟨u0, u1, u2, u3⟩, x0, x1, x2, x3⟩ := b3.four4)
    | (go_at_call 62; refine (HCH.out _ (Kp.refl _)).mono ?_; rintro e w4 ⟨A4, n4, c4, rfl, ho4, k4⟩; have b4 := b3.kp k4; have gb4 := gb3.kp k4; have hz3 := gb3.size; obtain ⟨⟨v0, v1, v2, v3⟩, y0, y1, y2, y3⟩ := b4.four4))
      go_ret
      rw [HM2.out]
      have hne : ∀ j, rowOf A4 = some j → w3.heap.size ≤ j := fun j e => (ho4.lt j e).1
      have hgz : g < w3.heap.size := b3.lt
      have hm4 : rowOf A4 ≠ some g := fun e => by have := hne _ e; omega
      exact ⟨A4, n4, c4, rfl, (((ho4.setCell (p := ⟨g, 2, none⟩) hm4 _).setCell (p := ⟨g, 3, none⟩) hm4 _).setCell (p := ⟨g, 0, none⟩) hm4 _).more hz3, by (show Bx _ g #[.int .i64 0, .string (bs8 row), .string (bs8 ((wait ++ [b]).drop (wait.length + 1 - n))), .bool _] _); rw [HB2.out]; exact ((b4.set 2 _).set 3 _).set 0 _, ((gb4.set 2 _).set 3 _).set 0 _⟩
    · have HM2 : Hid (mm = met) := by show _ = _; rw [HMM.out, if_neg (fun h => h.elim (fun h => h (List.eq_nil_of_length_eq_zero hl0)) (fun h => by omega))]
      have hbn : ((n : Int) == 0) = false := by simp; omega
      clear hn0
      have HL0 := Lib.hid hl0
      clear hl0 HMM
      go_wp2_with (first
    | (go_at_call 18; refine (HWA.out _).mono ?_; rintro e w2 ⟨rfl, d2⟩; have b2 := b1.kp d2.kp; have gb2 := gb1.kp d2.kp; clear d2)
    | (go_at_call 15; refine (HD.out _).mono ?_; rintro e w3 ⟨A3, n3, c3, rfl, hr3, k3⟩; have b3 := b2.kp k3; have gb3 := gb2.kp k3; have hl3 := HDL.out; have hlen3 := hr3.len; have hn3 : n3 ≤ 1000000 := (by omega); have HCH := Lib.hid (fun (wx : World) (kx : Kp w3 wx) => chars_any met A3 n3 c3 l wx (Sl.any (Sl.kp hr3 kx)) hn3); obtain rfl : n3 = 0 := (by have := HL0.out; omega); clear hl3 hlen3 k3 hr3; obtain ⟨⟨u0, u1, u2, u3⟩, x0, x1, x2, x3⟩ := b3.four4)
    | (go_at_call 62; refine (HCH.out _ (Kp.refl _)).mono ?_; rintro e w4 ⟨A4, n4, c4, rfl, ho4, k4⟩; have b4 := b3.kp k4; have gb4 := gb3.kp k4; have hz3 := gb3.size; obtain ⟨⟨v0, v1, v2, v3⟩, y0, y1, y2, y3⟩ := b4.four4))
      go_ret
      rw [HM2.out]
      have hne : ∀ j, rowOf A4 = some j → w3.heap.size ≤ j := fun j e => (ho4.lt j e).1
      have hgz : g < w3.heap.size := b3.lt
      have hm4 : rowOf A4 ≠ some g := fun e => by have := hne _ e; omega
      exact ⟨A4, n4, c4, rfl, ((ho4.setCell (p := ⟨g, 2, none⟩) hm4 _).setCell (p := ⟨g, 0, none⟩) hm4 _).more hz3, by (show Bx _ g #[.int .i64 0, .string (bs8 row), .string (bs8 ((wait ++ [b]).drop (wait.length + 1 - n))), .bool _] _); rw [HB2.out]; exact (b4.set 2 _).set 0 _, (gb4.set 2 _).set 0 _⟩
  · have HM2 : Hid (mm = false) := by show _ = _; rw [HMM.out, if_pos (Or.inl (fun h => by rw [h] at hl0; exact absurd hl0 (by simp)))]
    have HL0 := Lib.hid hl0
    clear hl0 HMM
    go_wp2_with (first
    | (go_at_call 18; refine (HWA.out _).mono ?_; rintro e w2 ⟨rfl, d2⟩; have b2 := b1.kp d2.kp; have gb2 := gb1.kp d2.kp; clear d2)
    | (go_at_call 15; refine (HD.out _).mono ?_; rintro e w3 ⟨A3, n3, c3, rfl, hr3, k3⟩; have b3 := b2.kp k3; have gb3 := gb2.kp k3; have hl3 := HDL.out; have hlen3 := hr3.len; have hn3 : n3 ≤ 1000000 := (by omega); have hn0 : 0 < n3 := (by have := HL0.out; omega); have HCH := Lib.hid (fun (wx : World) (kx : Kp w3 wx) => chars_any met A3 n3 c3 l wx (Sl.any (Sl.kp hr3 kx)) hn3); clear hl3 hlen3 k3 hr3; obtain ⟨⟨u0, u1, u2, u3⟩, x0, x1, x2, x3⟩ := b3.four4)
    | (go_at_call 62; refine (HCH.out _ (Kp.refl _)).mono ?_; rintro e w4 ⟨A4, n4, c4, rfl, ho4, k4⟩; have b4 := b3.kp k4; have gb4 := gb3.kp k4; have hz3 := gb3.size; obtain ⟨⟨v0, v1, v2, v3⟩, y0, y1, y2, y3⟩ := b4.four4))
    go_ret
    rw [HM2.out]
    have hne : ∀ j, rowOf A4 = some j → w3.heap.size ≤ j := fun j e => (ho4.lt j e).1
    have hgz : g < w3.heap.size := b3.lt
    have hm4 : rowOf A4 ≠ some g := fun e => by have := hne _ e; omega
    exact ⟨A4, n4, c4, rfl, (((ho4.setCell (p := ⟨g, 2, none⟩) hm4 _).setCell (p := ⟨g, 3, none⟩) hm4 _).setCell (p := ⟨g, 0, none⟩) hm4 _).more hz3, by (show Bx _ g #[.int .i64 0, .string (bs8 row), .string (bs8 ((wait ++ [b]).drop (wait.length + 1 - n))), .bool _] _); rw [HB2.out]; exact ((b4.set 2 _).set 3 _).set 0 _, ((gb4.set 2 _).set 3 _).set 0 _⟩
end Go.Proofs.Ytmeefngkbcfpeaa
