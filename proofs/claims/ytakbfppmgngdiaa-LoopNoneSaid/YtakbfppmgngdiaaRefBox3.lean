/-
  typebarref38: Next: what it answers and leaves, in terms of the events that wait. Conditions: the box is in memory, its row is the call's own.
-/
import Derived.Test.YtakbfppmgngdiaaRefBox2
namespace Go.Proofs.Ytakbfppmgngdiaa
open Go.RowKit

/-- The document's box, its row in no block of Z. -/
def RBz (w : World) (base b room : Nat) (q : List Ev) (Z : Nat → Prop) : Prop :=
  b < base ∧ base ≤ w.heap.size ∧ ∃ A n c, Bx w b #[.int .i64 room, .slice A n c] 28 ∧ Own w base 30 4 A n c (evCells q) ∧ ∀ g, rowOf A = some g → ¬ Z g
theorem RBz.rb {w : World} {base b room : Nat} {q : List Ev} {Z : Nat → Prop} (h : RBz w base b room q Z) : RB w base b room q := by
  obtain ⟨h1, h2, A, n, c, h3, h4, _⟩ := h
  exact ⟨h1, h2, A, n, c, h3, h4⟩
theorem RB.rbz {w : World} {base b room : Nat} {q : List Ev} (h : RB w base b room q) {Z : Nat → Prop} (hZ : ∀ g, base ≤ g → g < w.heap.size → ¬ Z g) : RBz w base b room q Z := by
  obtain ⟨h1, h2, A, n, c, h3, h4⟩ := h
  exact ⟨h1, h2, A, n, c, h3, h4, fun g hg => hZ g (h4.lt g hg).1 (h4.lt g hg).2⟩
theorem RBz.kp {w w' : World} {base b room : Nat} {q : List Ev} {Z : Nat → Prop} (h : RBz w base b room q Z) (k : Kp w w') : RBz w' base b room q Z := by
  obtain ⟨h1, h2, A, n, c, hb, ho, hz⟩ := h
  exact ⟨h1, Nat.le_trans h2 k.size, A, n, c, hb.kp k, ho.kp k, hz⟩
theorem RBz.grown {w w' : World} {base b room : Nat} {q : List Ev} {Z : Nat → Prop} {row : Option Nat} (h : RBz w base b room q Z) (hg : w.grownBy w' row) (hr : ∀ g, row = some g → Z g ∧ b ≠ g) : RBz w' base b room q Z := by
  obtain ⟨h1, h2, A, n, c, hb, ho, hz⟩ := h
  exact ⟨h1, Nat.le_trans h2 hg.size, A, n, c, hb.grown hg (fun e => (hr b e).2 rfl), ho.grown hg (fun g hA e => hz g hA (hr g e).1), hz⟩
theorem RBz.other {w : World} {base b room : Nat} {q : List Ev} {Z Y : Nat → Prop} (h : RBz w base b room q Z) (hY : ∀ g, Y g → Z g ∨ w.heap.size ≤ g) : RBz w base b room q Y := by
  obtain ⟨h1, h2, A, n, c, hb, ho, hz⟩ := h
  exact ⟨h1, h2, A, n, c, hb, ho, fun g hA hy => by
    rcases hY g hy with h | h
    · exact hz g hA h
    · have := (ho.lt g hA).2; omega⟩

theorem evCells_take (l r : List Ev) : (evCells (l ++ r)).take (l.length * 4) = evCells l := by
  rw [evCells_append, List.take_append_of_le_length (by rw [evCells_length]; omega), List.take_of_length_le (by rw [evCells_length]; omega)]
theorem evCells_drop (l : List Ev) (x : Ev) (r : List Ev) : (evCells (l ++ x :: r)).drop ((l.length + 1) * 4) = evCells r := by
  have e : l ++ x :: r = (l ++ [x]) ++ r := by simp
  have e2 : (l.length + 1) * 4 = (evCells (l ++ [x])).length := by rw [evCells_length]; simp
  rw [e, evCells_append, e2, List.drop_left]

set_option maxRecDepth 100000 in
set_option maxHeartbeats 3200000 in
theorem refNext_s (base b room : Nat) (l : List Ev) (x : Ev) (r : List Ev) (w : World) (Z : Nat → Prop) (hZ : ∀ g, Z g → g < w.heap.size) (h : RBz w base b room (l ++ x :: r) Z) (hlen : (l ++ x :: r).length ≤ 1000)  (hx : x.kind = 3) (hl : ∀ e ∈ l, e.kind ≠ 3) :
    Calls Try.prog 17 #[.pointer (some ⟨b, 0, none⟩)] w fun e w' => e = .returned (.tuple #[x.v, .bool true]) ∧ RBz w' base b room (l ++ r) Z ∧ Fr (fun k => k = b) w w' := by
  obtain ⟨hb0, hbs, A, n, c, hbx, ho, _hz⟩ := h
  have hn : (l ++ x :: r).length = n := ho.evs.len
  have ka := (Kp.refl w).alloc (.cells #[.int .i64 0, .int .u8 0, .int .i64 0, .int .i64 0] 30)
  have hres := Bx.new w #[.int .i64 0, .int .u8 0, .int .i64 0, .int .i64 0] 30
  have hb1 := hbx.kp ka
  have ho1 := ho.kp ka
  have hbl := hbx.lt
  have hcp := ho.cap
  have hcl : c ≤ 9223372036854775807 := by have := hcp.2; unfold maxLen at this; omega
  have hle := hcp.1
  clear hbx ho hcp
  rw [List.length_append, List.length_cons] at hn hlen
  obtain ⟨L, hL⟩ : ∃ L, L = l.length := ⟨_, rfl⟩
  rw [← hL] at hn hlen
  have HL := Lib.hid hL
  have hLn : L < n := by omega
  have hL1 : L ≤ 1000 := by omega
  have hn1 : n ≤ 1000 := by omega
  have HN := Lib.hid hn
  have HX := Lib.hid hx
  have HLL := Lib.hid hl
  have ho1' := ho1.evs
  clear hL hn hx hl hlen
  go_enter Try.func17, Try.ntmps17
  go_wp2_with fail
  refine (first_some b room 3 A n c l x r _ hb1 ho1' HX.out HLL.out).mono ?_
  rintro e w' ⟨rfl, rfl⟩
  rw [← HL.out]
  obtain ⟨ad, rfl, c0, c1, c2, c3⟩ := ho1'.get (j := L) (e := x) (by rw [HL.out, List.getElem?_append_right (Nat.le_refl _)]; simp)
  obtain ⟨b0, b1, b2, b3⟩ := hb1.two
  go_upto_region 10 with fail
  have kb := (Kp.refl (w.alloc (.cells #[.int .i64 0, .int .u8 0, .int .i64 0, .int .i64 0] 30))).alloc (.cells #[.int .i64 x.kind, .int .u8 x.byte, .int .i64 x.rows, .int .i64 x.cols] 30)
  have hy := Bx.new (w.alloc (.cells #[.int .i64 0, .int .u8 0, .int .i64 0, .int .i64 0] 30)) #[.int .i64 x.kind, .int .u8 x.byte, .int .i64 x.rows, .int .i64 x.cols] 30
  rw [World.size_alloc] at hy
  have hres2 := hres.kp kb
  have hb2 := hb1.kp kb
  have ho2 := ho1.kp kb
  have k2 := ka.trans kb
  have hs2 : ((w.alloc (.cells #[.int .i64 0, .int .u8 0, .int .i64 0, .int .i64 0] 30)).alloc (.cells #[.int .i64 x.kind, .int .u8 x.byte, .int .i64 x.rows, .int .i64 x.cols] 30)).heap.size = w.heap.size + 2 := by simp
  clear c0 c1 c2 c3 b0 b1 b2 b3 kb hb1 ho1 ho1' hres ka
  generalize ((w.alloc (.cells #[.int .i64 0, .int .u8 0, .int .i64 0, .int .i64 0] 30)).alloc (.cells #[.int .i64 x.kind, .int .u8 x.byte, .int .i64 x.rows, .int .i64 x.cols] 30)) = w2 at *
  obtain ⟨b0, b1, b2, b3⟩ := hb2.two
  have htk := Sl.take ho2.sl.any (k := L) (by omega)
  rw [HL.out, evCells_take, ← HL.out] at htk
  have HS2 := Lib.hid hs2
  clear hs2
  have hbs2 : base ≤ w2.heap.size := by have := HS2.out; omega
  go_upto_region 11 with (at_builtin; refine wpList_append_sl _ rfl _ _ _ rfl base 30 _ 4 32 Try.underlying26 infoEv rfl (by omega) none 0 0 [] rfl (Own.nil _ _ _ _) Any (some ad) L c (evCells l) rfl htk (evCells_one l) (by simp only [maxLen]; omega) (by omega) hbs2 ?_; intro A3 c3 w3 hown3 hg3 hat3)
  have hb3 := hb2.grown hg3 (by simp [rowOf])
  have ho3 := ho2.grown hg3 (by simp [rowOf])
  have hy3 := hy.grown hg3 (by simp [rowOf])
  have hres3 := hres2.grown hg3 (by simp [rowOf])
  have k3 := k2.grown hg3 (by simp [rowOf])
  rw [List.nil_append, Nat.zero_add] at hown3
  have hdr := Sl.drop ho3.sl.any (k := L + 1) (by omega)
  rw [HL.out, evCells_drop, ← HL.out] at hdr
  have hbs3 : base ≤ w3.heap.size := Nat.le_trans hbs2 hg3.size
  have hrow3 : ∀ g, rowOf A3 = some g → base ≤ g := fun g h => (hown3.lt g h).1
  have hrowx : ∀ g, rowOf A3 = some g → g = w.heap.size + 2 := fun g h => by
    rcases hat3 with ha | ha
    · rw [ha] at h; cases h
    · rw [ha] at h; cases h; exact HS2.out
  clear b0 b1 b2 b3 hb2 ho2 hy hres2 k2 htk hat3
  obtain ⟨b0, b1, b2, b3⟩ := hb3.two
  have hcs : c = L + 1 ∨ c ≠ L + 1 := by omega
  simp only [Option.map_some] at hdr
  rcases hcs with hc | hc
  rw [if_pos hc] at hdr
  have e0 : c - (L + 1) = 0 := by omega
  rw [e0] at hdr
  rotate_left
  rw [if_neg hc] at hdr
  all_goals
    go_upto_region 12 with (at_builtin; refine wpList_append_sl _ rfl _ _ _ rfl base 30 _ 4 32 Try.underlying26 infoEv rfl (by omega) A3 L c3 (evCells l) (by first | rfl | (rw [Nat.zero_add]; rfl)) hown3 Any _ _ _ (evCells r) rfl hdr (evCells_one r) (by simp only [maxLen]; omega) (by omega) hbs3 ?_; intro A4 c4 w4 hown4 hg4 hat4; obtain ⟨d0, d1, d2, d3⟩ := (hb3.grown hg4 (fun h => by have := hrow3 _ h; omega)).two)
    have hb4 := hb3.grown hg4 (fun h => by have := hrow3 _ h; omega)
    have hy4 := hy3.grown hg4 (fun h => by have := hrowx _ h; omega)
    have hres4 := hres3.grown hg4 (fun h => by have := hrowx _ h; omega)
    have f4 : Fr (fun k => k = b) w w4 := Fr.grown k3.fr hg4 (fun g h => .inr (by have := hrowx _ h; omega))
    have hrow4 : ∀ g, rowOf A4 = some g → w.heap.size + 2 ≤ g := fun g h => by
      rcases hat4 with ha | ha
      · have := hrowx g (ha ▸ h); omega
      · rw [ha] at h; cases h; have := hg3.size; have := HS2.out; omega
    have hz4 : base ≤ w4.heap.size := Nat.le_trans hbs3 hg4.size
    clear d0 d1 d2 d3 b0 b1 b2 b3 hg4 hat4 hb3 hy3 hres3 k3 ho3 hdr hown3 hbs3
    have hb5 := hb4.set 1 (.slice A4 (L + (n - (L + 1))) c4)
    have hy5 := hy4.far (p := ⟨b, 1, none⟩) (by show w.heap.size + 1 ≠ b; omega) (.slice A4 (L + (n - (L + 1))) c4)
    have hres5 := hres4.far (p := ⟨b, 1, none⟩) (by show w.heap.size ≠ b; omega) (.slice A4 (L + (n - (L + 1))) c4)
    have ho5 := hown4.setCell (p := ⟨b, 1, none⟩) (fun e => by have := hrow4 b e; omega) (.slice A4 (L + (n - (L + 1))) c4)
    have f5 := f4.setCellX (b := b) (i := 1) rfl (.slice A4 (L + (n - (L + 1))) c4)
    have hz5 : base ≤ (w4.setCell ⟨b, 1, none⟩ (.slice A4 (L + (n - (L + 1))) c4)).heap.size := by simpa [World.setCell] using hz4
    clear hb4 hy4 hres4 hown4 f4 hz4
    generalize (w4.setCell ⟨b, 1, none⟩ (.slice A4 (L + (n - (L + 1))) c4)) = w5 at *
    obtain ⟨y0, y1, y2, y3, y4, y5, y6, y7⟩ := hy5.four
    obtain ⟨r0, r1, r2, r3, r4, r5, r6, r7⟩ := hres5.four
    go_wp2_with fail
    refine bodyPost_ret (v := .tuple #[x.v, .bool true]) (by simp [results, Try.results17, go_sem, Ev.v, r0, r1, r2, r3]) rfl ?_
    refine ⟨rfl, ⟨hb0, by simpa [World.setCell] using hz5, A4, L + (n - (L + 1)), c4, ?_, ?_, fun g hg hzg => by have := hrow4 g hg; have := hZ g hzg; omega⟩, (((f5.setCellN (Nat.le_refl _) _).setCellN (Nat.le_refl _) _).setCellN (Nat.le_refl _) _).setCellN (Nat.le_refl _) _⟩
    · exact (((hb5.far (p := ⟨_, _, _⟩) (by show b ≠ w.heap.size; omega) _).far (p := ⟨_, _, _⟩) (by show b ≠ w.heap.size; omega) _).far (p := ⟨_, _, _⟩) (by show b ≠ w.heap.size; omega) _).far (p := ⟨_, _, _⟩) (by show b ≠ w.heap.size; omega) _
    · rw [evCells_append]
      have hnr : rowOf A4 ≠ some w.heap.size := fun e => by have := hrow4 _ e; omega
      exact (((ho5.setCell (p := ⟨_, _, _⟩) hnr _).setCell (p := ⟨_, _, _⟩) hnr _).setCell (p := ⟨_, _, _⟩) hnr _).setCell (p := ⟨_, _, _⟩) hnr _

set_option maxRecDepth 100000 in
set_option maxHeartbeats 3200000 in
theorem refNext_b (base b room : Nat) (l : List Ev) (x : Ev) (r : List Ev) (w : World) (Z : Nat → Prop) (hZ : ∀ g, Z g → g < w.heap.size) (h : RBz w base b room (l ++ x :: r) Z) (hlen : (l ++ x :: r).length ≤ 1000) (h3 : ∀ e ∈ (l ++ x :: r), e.kind ≠ 3) (hx : x.kind = 1) (hl : ∀ e ∈ l, e.kind ≠ 1) :
    Calls Try.prog 17 #[.pointer (some ⟨b, 0, none⟩)] w fun e w' => e = .returned (.tuple #[x.v, .bool true]) ∧ RBz w' base b room (l ++ r) Z ∧ Fr (fun k => k = b) w w' := by
  obtain ⟨hb0, hbs, A, n, c, hbx, ho, _hz⟩ := h
  have hn : (l ++ x :: r).length = n := ho.evs.len
  have ka := (Kp.refl w).alloc (.cells #[.int .i64 0, .int .u8 0, .int .i64 0, .int .i64 0] 30)
  have hres := Bx.new w #[.int .i64 0, .int .u8 0, .int .i64 0, .int .i64 0] 30
  have hb1 := hbx.kp ka
  have ho1 := ho.kp ka
  have hbl := hbx.lt
  have hcp := ho.cap
  have hcl : c ≤ 9223372036854775807 := by have := hcp.2; unfold maxLen at this; omega
  have hle := hcp.1
  clear hbx ho hcp
  rw [List.length_append, List.length_cons] at hn hlen
  obtain ⟨L, hL⟩ : ∃ L, L = l.length := ⟨_, rfl⟩
  rw [← hL] at hn hlen
  have HL := Lib.hid hL
  have hLn : L < n := by omega
  have hL1 : L ≤ 1000 := by omega
  have hn1 : n ≤ 1000 := by omega
  have HN := Lib.hid hn
  have HX := Lib.hid hx
  have HLL := Lib.hid hl
  have ho1' := ho1.evs
  clear hL hn hx hl hlen
  have H3 := Lib.hid h3
  clear h3
  go_enter Try.func17, Try.ntmps17
  go_wp2_with fail
  refine (first_none b room 3 A n c _ _ hb1 ho1' H3.out).mono ?_
  rintro e w' ⟨rfl, rfl⟩
  go_wp2_with fail
  refine (first_some b room 1 A n c l x r _ hb1 ho1' HX.out HLL.out).mono ?_
  rintro e w' ⟨rfl, rfl⟩
  rw [← HL.out]
  obtain ⟨ad, rfl, c0, c1, c2, c3⟩ := ho1'.get (j := L) (e := x) (by rw [HL.out, List.getElem?_append_right (Nat.le_refl _)]; simp)
  obtain ⟨b0, b1, b2, b3⟩ := hb1.two
  go_upto_region 10 with fail
  have kb := (Kp.refl (w.alloc (.cells #[.int .i64 0, .int .u8 0, .int .i64 0, .int .i64 0] 30))).alloc (.cells #[.int .i64 x.kind, .int .u8 x.byte, .int .i64 x.rows, .int .i64 x.cols] 30)
  have hy := Bx.new (w.alloc (.cells #[.int .i64 0, .int .u8 0, .int .i64 0, .int .i64 0] 30)) #[.int .i64 x.kind, .int .u8 x.byte, .int .i64 x.rows, .int .i64 x.cols] 30
  rw [World.size_alloc] at hy
  have hres2 := hres.kp kb
  have hb2 := hb1.kp kb
  have ho2 := ho1.kp kb
  have k2 := ka.trans kb
  have hs2 : ((w.alloc (.cells #[.int .i64 0, .int .u8 0, .int .i64 0, .int .i64 0] 30)).alloc (.cells #[.int .i64 x.kind, .int .u8 x.byte, .int .i64 x.rows, .int .i64 x.cols] 30)).heap.size = w.heap.size + 2 := by simp
  clear c0 c1 c2 c3 b0 b1 b2 b3 kb hb1 ho1 ho1' hres ka
  generalize ((w.alloc (.cells #[.int .i64 0, .int .u8 0, .int .i64 0, .int .i64 0] 30)).alloc (.cells #[.int .i64 x.kind, .int .u8 x.byte, .int .i64 x.rows, .int .i64 x.cols] 30)) = w2 at *
  obtain ⟨b0, b1, b2, b3⟩ := hb2.two
  have htk := Sl.take ho2.sl.any (k := L) (by omega)
  rw [HL.out, evCells_take, ← HL.out] at htk
  have HS2 := Lib.hid hs2
  clear hs2
  have hbs2 : base ≤ w2.heap.size := by have := HS2.out; omega
  go_upto_region 11 with (at_builtin; refine wpList_append_sl _ rfl _ _ _ rfl base 30 _ 4 32 Try.underlying26 infoEv rfl (by omega) none 0 0 [] rfl (Own.nil _ _ _ _) Any (some ad) L c (evCells l) rfl htk (evCells_one l) (by simp only [maxLen]; omega) (by omega) hbs2 ?_; intro A3 c3 w3 hown3 hg3 hat3)
  have hb3 := hb2.grown hg3 (by simp [rowOf])
  have ho3 := ho2.grown hg3 (by simp [rowOf])
  have hy3 := hy.grown hg3 (by simp [rowOf])
  have hres3 := hres2.grown hg3 (by simp [rowOf])
  have k3 := k2.grown hg3 (by simp [rowOf])
  rw [List.nil_append, Nat.zero_add] at hown3
  have hdr := Sl.drop ho3.sl.any (k := L + 1) (by omega)
  rw [HL.out, evCells_drop, ← HL.out] at hdr
  have hbs3 : base ≤ w3.heap.size := Nat.le_trans hbs2 hg3.size
  have hrow3 : ∀ g, rowOf A3 = some g → base ≤ g := fun g h => (hown3.lt g h).1
  have hrowx : ∀ g, rowOf A3 = some g → g = w.heap.size + 2 := fun g h => by
    rcases hat3 with ha | ha
    · rw [ha] at h; cases h
    · rw [ha] at h; cases h; exact HS2.out
  clear b0 b1 b2 b3 hb2 ho2 hy hres2 k2 htk hat3
  obtain ⟨b0, b1, b2, b3⟩ := hb3.two
  have hcs : c = L + 1 ∨ c ≠ L + 1 := by omega
  simp only [Option.map_some] at hdr
  rcases hcs with hc | hc
  rw [if_pos hc] at hdr
  have e0 : c - (L + 1) = 0 := by omega
  rw [e0] at hdr
  rotate_left
  rw [if_neg hc] at hdr
  all_goals
    go_upto_region 12 with (at_builtin; refine wpList_append_sl _ rfl _ _ _ rfl base 30 _ 4 32 Try.underlying26 infoEv rfl (by omega) A3 L c3 (evCells l) (by first | rfl | (rw [Nat.zero_add]; rfl)) hown3 Any _ _ _ (evCells r) rfl hdr (evCells_one r) (by simp only [maxLen]; omega) (by omega) hbs3 ?_; intro A4 c4 w4 hown4 hg4 hat4; obtain ⟨d0, d1, d2, d3⟩ := (hb3.grown hg4 (fun h => by have := hrow3 _ h; omega)).two)
    have hb4 := hb3.grown hg4 (fun h => by have := hrow3 _ h; omega)
    have hy4 := hy3.grown hg4 (fun h => by have := hrowx _ h; omega)
    have hres4 := hres3.grown hg4 (fun h => by have := hrowx _ h; omega)
    have f4 : Fr (fun k => k = b) w w4 := Fr.grown k3.fr hg4 (fun g h => .inr (by have := hrowx _ h; omega))
    have hrow4 : ∀ g, rowOf A4 = some g → w.heap.size + 2 ≤ g := fun g h => by
      rcases hat4 with ha | ha
      · have := hrowx g (ha ▸ h); omega
      · rw [ha] at h; cases h; have := hg3.size; have := HS2.out; omega
    have hz4 : base ≤ w4.heap.size := Nat.le_trans hbs3 hg4.size
    clear d0 d1 d2 d3 b0 b1 b2 b3 hg4 hat4 hb3 hy3 hres3 k3 ho3 hdr hown3 hbs3
    have hb5 := hb4.set 1 (.slice A4 (L + (n - (L + 1))) c4)
    have hy5 := hy4.far (p := ⟨b, 1, none⟩) (by show w.heap.size + 1 ≠ b; omega) (.slice A4 (L + (n - (L + 1))) c4)
    have hres5 := hres4.far (p := ⟨b, 1, none⟩) (by show w.heap.size ≠ b; omega) (.slice A4 (L + (n - (L + 1))) c4)
    have ho5 := hown4.setCell (p := ⟨b, 1, none⟩) (fun e => by have := hrow4 b e; omega) (.slice A4 (L + (n - (L + 1))) c4)
    have f5 := f4.setCellX (b := b) (i := 1) rfl (.slice A4 (L + (n - (L + 1))) c4)
    have hz5 : base ≤ (w4.setCell ⟨b, 1, none⟩ (.slice A4 (L + (n - (L + 1))) c4)).heap.size := by simpa [World.setCell] using hz4
    clear hb4 hy4 hres4 hown4 f4 hz4
    generalize (w4.setCell ⟨b, 1, none⟩ (.slice A4 (L + (n - (L + 1))) c4)) = w5 at *
    obtain ⟨y0, y1, y2, y3, y4, y5, y6, y7⟩ := hy5.four
    obtain ⟨r0, r1, r2, r3, r4, r5, r6, r7⟩ := hres5.four
    go_wp2_with fail
    refine bodyPost_ret (v := .tuple #[x.v, .bool true]) (by simp [results, Try.results17, go_sem, Ev.v, r0, r1, r2, r3]) rfl ?_
    refine ⟨rfl, ⟨hb0, by simpa [World.setCell] using hz5, A4, L + (n - (L + 1)), c4, ?_, ?_, fun g hg hzg => by have := hrow4 g hg; have := hZ g hzg; omega⟩, (((f5.setCellN (Nat.le_refl _) _).setCellN (Nat.le_refl _) _).setCellN (Nat.le_refl _) _).setCellN (Nat.le_refl _) _⟩
    · exact (((hb5.far (p := ⟨_, _, _⟩) (by show b ≠ w.heap.size; omega) _).far (p := ⟨_, _, _⟩) (by show b ≠ w.heap.size; omega) _).far (p := ⟨_, _, _⟩) (by show b ≠ w.heap.size; omega) _).far (p := ⟨_, _, _⟩) (by show b ≠ w.heap.size; omega) _
    · rw [evCells_append]
      have hnr : rowOf A4 ≠ some w.heap.size := fun e => by have := hrow4 _ e; omega
      exact (((ho5.setCell (p := ⟨_, _, _⟩) hnr _).setCell (p := ⟨_, _, _⟩) hnr _).setCell (p := ⟨_, _, _⟩) hnr _).setCell (p := ⟨_, _, _⟩) hnr _

set_option maxRecDepth 100000 in
set_option maxHeartbeats 3200000 in
theorem refNext_t (base b room : Nat) (l : List Ev) (x : Ev) (r : List Ev) (w : World) (Z : Nat → Prop) (hZ : ∀ g, Z g → g < w.heap.size) (h : RBz w base b room (l ++ x :: r) Z) (hlen : (l ++ x :: r).length ≤ 1000) (h3 : ∀ e ∈ (l ++ x :: r), e.kind ≠ 3) (h1 : ∀ e ∈ (l ++ x :: r), e.kind ≠ 1) (hx : x.kind = 2) (hl : ∀ e ∈ l, e.kind ≠ 2) :
    Calls Try.prog 17 #[.pointer (some ⟨b, 0, none⟩)] w fun e w' => e = .returned (.tuple #[x.v, .bool true]) ∧ RBz w' base b room (l ++ r) Z ∧ Fr (fun k => k = b) w w' := by
  obtain ⟨hb0, hbs, A, n, c, hbx, ho, _hz⟩ := h
  have hn : (l ++ x :: r).length = n := ho.evs.len
  have ka := (Kp.refl w).alloc (.cells #[.int .i64 0, .int .u8 0, .int .i64 0, .int .i64 0] 30)
  have hres := Bx.new w #[.int .i64 0, .int .u8 0, .int .i64 0, .int .i64 0] 30
  have hb1 := hbx.kp ka
  have ho1 := ho.kp ka
  have hbl := hbx.lt
  have hcp := ho.cap
  have hcl : c ≤ 9223372036854775807 := by have := hcp.2; unfold maxLen at this; omega
  have hle := hcp.1
  clear hbx ho hcp
  rw [List.length_append, List.length_cons] at hn hlen
  obtain ⟨L, hL⟩ : ∃ L, L = l.length := ⟨_, rfl⟩
  rw [← hL] at hn hlen
  have HL := Lib.hid hL
  have hLn : L < n := by omega
  have hL1 : L ≤ 1000 := by omega
  have hn1 : n ≤ 1000 := by omega
  have HN := Lib.hid hn
  have HX := Lib.hid hx
  have HLL := Lib.hid hl
  have ho1' := ho1.evs
  clear hL hn hx hl hlen
  have H3 := Lib.hid h3
  clear h3
  have H1 := Lib.hid h1
  clear h1
  go_enter Try.func17, Try.ntmps17
  go_wp2_with fail
  refine (first_none b room 3 A n c _ _ hb1 ho1' H3.out).mono ?_
  rintro e w' ⟨rfl, rfl⟩
  go_wp2_with fail
  refine (first_none b room 1 A n c _ _ hb1 ho1' H1.out).mono ?_
  rintro e w' ⟨rfl, rfl⟩
  go_wp2_with fail
  refine (first_some b room 2 A n c l x r _ hb1 ho1' HX.out HLL.out).mono ?_
  rintro e w' ⟨rfl, rfl⟩
  rw [← HL.out]
  obtain ⟨ad, rfl, c0, c1, c2, c3⟩ := ho1'.get (j := L) (e := x) (by rw [HL.out, List.getElem?_append_right (Nat.le_refl _)]; simp)
  obtain ⟨b0, b1, b2, b3⟩ := hb1.two
  go_upto_region 10 with fail
  have kb := (Kp.refl (w.alloc (.cells #[.int .i64 0, .int .u8 0, .int .i64 0, .int .i64 0] 30))).alloc (.cells #[.int .i64 x.kind, .int .u8 x.byte, .int .i64 x.rows, .int .i64 x.cols] 30)
  have hy := Bx.new (w.alloc (.cells #[.int .i64 0, .int .u8 0, .int .i64 0, .int .i64 0] 30)) #[.int .i64 x.kind, .int .u8 x.byte, .int .i64 x.rows, .int .i64 x.cols] 30
  rw [World.size_alloc] at hy
  have hres2 := hres.kp kb
  have hb2 := hb1.kp kb
  have ho2 := ho1.kp kb
  have k2 := ka.trans kb
  have hs2 : ((w.alloc (.cells #[.int .i64 0, .int .u8 0, .int .i64 0, .int .i64 0] 30)).alloc (.cells #[.int .i64 x.kind, .int .u8 x.byte, .int .i64 x.rows, .int .i64 x.cols] 30)).heap.size = w.heap.size + 2 := by simp
  clear c0 c1 c2 c3 b0 b1 b2 b3 kb hb1 ho1 ho1' hres ka
  generalize ((w.alloc (.cells #[.int .i64 0, .int .u8 0, .int .i64 0, .int .i64 0] 30)).alloc (.cells #[.int .i64 x.kind, .int .u8 x.byte, .int .i64 x.rows, .int .i64 x.cols] 30)) = w2 at *
  obtain ⟨b0, b1, b2, b3⟩ := hb2.two
  have htk := Sl.take ho2.sl.any (k := L) (by omega)
  rw [HL.out, evCells_take, ← HL.out] at htk
  have HS2 := Lib.hid hs2
  clear hs2
  have hbs2 : base ≤ w2.heap.size := by have := HS2.out; omega
  go_upto_region 11 with (at_builtin; refine wpList_append_sl _ rfl _ _ _ rfl base 30 _ 4 32 Try.underlying26 infoEv rfl (by omega) none 0 0 [] rfl (Own.nil _ _ _ _) Any (some ad) L c (evCells l) rfl htk (evCells_one l) (by simp only [maxLen]; omega) (by omega) hbs2 ?_; intro A3 c3 w3 hown3 hg3 hat3)
  have hb3 := hb2.grown hg3 (by simp [rowOf])
  have ho3 := ho2.grown hg3 (by simp [rowOf])
  have hy3 := hy.grown hg3 (by simp [rowOf])
  have hres3 := hres2.grown hg3 (by simp [rowOf])
  have k3 := k2.grown hg3 (by simp [rowOf])
  rw [List.nil_append, Nat.zero_add] at hown3
  have hdr := Sl.drop ho3.sl.any (k := L + 1) (by omega)
  rw [HL.out, evCells_drop, ← HL.out] at hdr
  have hbs3 : base ≤ w3.heap.size := Nat.le_trans hbs2 hg3.size
  have hrow3 : ∀ g, rowOf A3 = some g → base ≤ g := fun g h => (hown3.lt g h).1
  have hrowx : ∀ g, rowOf A3 = some g → g = w.heap.size + 2 := fun g h => by
    rcases hat3 with ha | ha
    · rw [ha] at h; cases h
    · rw [ha] at h; cases h; exact HS2.out
  clear b0 b1 b2 b3 hb2 ho2 hy hres2 k2 htk hat3
  obtain ⟨b0, b1, b2, b3⟩ := hb3.two
  have hcs : c = L + 1 ∨ c ≠ L + 1 := by omega
  simp only [Option.map_some] at hdr
  rcases hcs with hc | hc
  rw [if_pos hc] at hdr
  have e0 : c - (L + 1) = 0 := by omega
  rw [e0] at hdr
  rotate_left
  rw [if_neg hc] at hdr
  all_goals
    go_upto_region 12 with (at_builtin; refine wpList_append_sl _ rfl _ _ _ rfl base 30 _ 4 32 Try.underlying26 infoEv rfl (by omega) A3 L c3 (evCells l) (by first | rfl | (rw [Nat.zero_add]; rfl)) hown3 Any _ _ _ (evCells r) rfl hdr (evCells_one r) (by simp only [maxLen]; omega) (by omega) hbs3 ?_; intro A4 c4 w4 hown4 hg4 hat4; obtain ⟨d0, d1, d2, d3⟩ := (hb3.grown hg4 (fun h => by have := hrow3 _ h; omega)).two)
    have hb4 := hb3.grown hg4 (fun h => by have := hrow3 _ h; omega)
    have hy4 := hy3.grown hg4 (fun h => by have := hrowx _ h; omega)
    have hres4 := hres3.grown hg4 (fun h => by have := hrowx _ h; omega)
    have f4 : Fr (fun k => k = b) w w4 := Fr.grown k3.fr hg4 (fun g h => .inr (by have := hrowx _ h; omega))
    have hrow4 : ∀ g, rowOf A4 = some g → w.heap.size + 2 ≤ g := fun g h => by
      rcases hat4 with ha | ha
      · have := hrowx g (ha ▸ h); omega
      · rw [ha] at h; cases h; have := hg3.size; have := HS2.out; omega
    have hz4 : base ≤ w4.heap.size := Nat.le_trans hbs3 hg4.size
    clear d0 d1 d2 d3 b0 b1 b2 b3 hg4 hat4 hb3 hy3 hres3 k3 ho3 hdr hown3 hbs3
    have hb5 := hb4.set 1 (.slice A4 (L + (n - (L + 1))) c4)
    have hy5 := hy4.far (p := ⟨b, 1, none⟩) (by show w.heap.size + 1 ≠ b; omega) (.slice A4 (L + (n - (L + 1))) c4)
    have hres5 := hres4.far (p := ⟨b, 1, none⟩) (by show w.heap.size ≠ b; omega) (.slice A4 (L + (n - (L + 1))) c4)
    have ho5 := hown4.setCell (p := ⟨b, 1, none⟩) (fun e => by have := hrow4 b e; omega) (.slice A4 (L + (n - (L + 1))) c4)
    have f5 := f4.setCellX (b := b) (i := 1) rfl (.slice A4 (L + (n - (L + 1))) c4)
    have hz5 : base ≤ (w4.setCell ⟨b, 1, none⟩ (.slice A4 (L + (n - (L + 1))) c4)).heap.size := by simpa [World.setCell] using hz4
    clear hb4 hy4 hres4 hown4 f4 hz4
    generalize (w4.setCell ⟨b, 1, none⟩ (.slice A4 (L + (n - (L + 1))) c4)) = w5 at *
    obtain ⟨y0, y1, y2, y3, y4, y5, y6, y7⟩ := hy5.four
    obtain ⟨r0, r1, r2, r3, r4, r5, r6, r7⟩ := hres5.four
    go_wp2_with fail
    refine bodyPost_ret (v := .tuple #[x.v, .bool true]) (by simp [results, Try.results17, go_sem, Ev.v, r0, r1, r2, r3]) rfl ?_
    refine ⟨rfl, ⟨hb0, by simpa [World.setCell] using hz5, A4, L + (n - (L + 1)), c4, ?_, ?_, fun g hg hzg => by have := hrow4 g hg; have := hZ g hzg; omega⟩, (((f5.setCellN (Nat.le_refl _) _).setCellN (Nat.le_refl _) _).setCellN (Nat.le_refl _) _).setCellN (Nat.le_refl _) _⟩
    · exact (((hb5.far (p := ⟨_, _, _⟩) (by show b ≠ w.heap.size; omega) _).far (p := ⟨_, _, _⟩) (by show b ≠ w.heap.size; omega) _).far (p := ⟨_, _, _⟩) (by show b ≠ w.heap.size; omega) _).far (p := ⟨_, _, _⟩) (by show b ≠ w.heap.size; omega) _
    · rw [evCells_append]
      have hnr : rowOf A4 ≠ some w.heap.size := fun e => by have := hrow4 _ e; omega
      exact (((ho5.setCell (p := ⟨_, _, _⟩) hnr _).setCell (p := ⟨_, _, _⟩) hnr _).setCell (p := ⟨_, _, _⟩) hnr _).setCell (p := ⟨_, _, _⟩) hnr _

set_option maxRecDepth 100000 in
set_option maxHeartbeats 3200000 in
theorem refNext_n (base b room : Nat) (q : List Ev) (w : World) (Z : Nat → Prop) (_hZ : ∀ g, Z g → g < w.heap.size) (h : RBz w base b room q Z) (_hlen : q.length ≤ 1000) (h3 : ∀ e ∈ q, e.kind ≠ 3) (h1 : ∀ e ∈ q, e.kind ≠ 1) (h2 : ∀ e ∈ q, e.kind ≠ 2) :
    Calls Try.prog 17 #[.pointer (some ⟨b, 0, none⟩)] w fun e w' => e = .returned (.tuple #[Ev.zero.v, .bool false]) ∧ Kp w w' := by
  obtain ⟨hb0, hbs, A, n, c, hbx, ho, _hz⟩ := h
  have hn : q.length = n := ho.evs.len
  have ka := (Kp.refl w).alloc (.cells #[.int .i64 0, .int .u8 0, .int .i64 0, .int .i64 0] 30)
  have hres := Bx.new w #[.int .i64 0, .int .u8 0, .int .i64 0, .int .i64 0] 30
  have hb1 := hbx.kp ka
  have ho1 := ho.kp ka
  have hbl := hbx.lt
  have hcp := ho.cap
  have hcl : c ≤ 9223372036854775807 := by have := hcp.2; unfold maxLen at this; omega
  have hle := hcp.1
  clear hbx ho hcp
  clear hn
  have ho1' := ho1.evs
  have H3 := Lib.hid h3
  clear h3
  have H1 := Lib.hid h1
  clear h1
  have H2 := Lib.hid h2
  clear h2
  go_enter Try.func17, Try.ntmps17
  go_wp2_with fail
  refine (first_none b room 3 A n c _ _ hb1 ho1' H3.out).mono ?_
  rintro e w' ⟨rfl, rfl⟩
  go_wp2_with fail
  refine (first_none b room 1 A n c _ _ hb1 ho1' H1.out).mono ?_
  rintro e w' ⟨rfl, rfl⟩
  go_wp2_with fail
  refine (first_none b room 2 A n c _ _ hb1 ho1' H2.out).mono ?_
  rintro e w' ⟨rfl, rfl⟩
  obtain ⟨r0, r1, r2, r3, r4, r5, r6, r7⟩ := hres.four
  go_wp2_with fail
  refine bodyPost_ret (v := .tuple #[Ev.zero.v, .bool false]) (by simp [results, Try.results17, go_sem, Ev.zero, Ev.v]) rfl ⟨rfl, (Kp.refl _).alloc _⟩

theorem refNext_z (base b room : Nat) (q : List Ev) (w : World) (Z : Nat → Prop) (hZ : ∀ g, Z g → g < w.heap.size) (h : RBz w base b room q Z) (hlen : q.length ≤ 1000) :
    Calls Try.prog 17 #[.pointer (some ⟨b, 0, none⟩)] w fun e w' => e = .returned (ansM (nextM q)) ∧ RBz w' base b room (leftM q (nextM q)) Z ∧ Fr (fun k => k = b) w w' := by
  rcases takeK_split 3 q with ⟨h3, n3⟩ | ⟨l, x, r, h3, rfl, hk, hl⟩
  · rcases takeK_split 1 q with ⟨h1, n1⟩ | ⟨l, x, r, h1, rfl, hk, hl⟩
    · rcases takeK_split 2 q with ⟨h2, n2⟩ | ⟨l, x, r, h2, rfl, hk, hl⟩
      · have hn : nextM q = none := by simp [nextM, h3, h1, h2]
        rw [hn]
        exact (refNext_n base b room q w Z hZ h hlen n3 n1 n2).mono fun e w' ⟨he, k⟩ => ⟨he, h.kp k, k.fr⟩
      · have hn : nextM (l ++ x :: r) = some (x, l ++ r) := by simp [nextM, h3, h1, h2]
        rw [hn]
        exact refNext_t base b room l x r w Z hZ h hlen n3 n1 hk hl
    · have hn : nextM (l ++ x :: r) = some (x, l ++ r) := by simp [nextM, h3, h1]
      rw [hn]
      exact refNext_b base b room l x r w Z hZ h hlen n3 hk hl
  · have hn : nextM (l ++ x :: r) = some (x, l ++ r) := by simp [nextM, h3]
    rw [hn]
    exact refNext_s base b room l x r w Z hZ h hlen hk hl
theorem refNext_any (base b room : Nat) (q : List Ev) (w : World) (h : RB w base b room q) (hlen : q.length ≤ 1000) :
    Calls Try.prog 17 #[.pointer (some ⟨b, 0, none⟩)] w fun e w' => e = .returned (ansM (nextM q)) ∧ RB w' base b room (leftM q (nextM q)) ∧ Fr (fun k => k = b) w w' :=
  (refNext_z base b room q w (fun _ => False) (fun _ h => h.elim) (h.rbz fun _ _ _ h => h) hlen).mono fun _ _ ⟨he, hb, hf⟩ => ⟨he, hb.rb, hf⟩
end Go.Proofs.Ytakbfppmgngdiaa
