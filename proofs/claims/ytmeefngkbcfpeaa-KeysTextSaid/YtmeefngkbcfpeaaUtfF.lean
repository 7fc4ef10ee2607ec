/-
  package utf: Feed, End, Pending: what each returns, as the plain functions of UtfM; the memory that was there stays. Conditions: a byte from 0 to 255; a decoder that feeding can make.
-/
import Derived.Test.YtmeefngkbcfpeaaUtfW
import Derived.Deep.RegionHeld3
namespace Go.Proofs.Ytmeefngkbcfpeaa
open Go.RowKit

theorem Bx.five {w : World} {b : Nat} {t : TypeId} {x y z u v : Value} (h : Bx w b #[x, y, z, u, v] t) : w.cell? ⟨b, 0, none⟩ = some x ∧ w.cell? ⟨b, 1, none⟩ = some y ∧ w.cell? ⟨b, 2, none⟩ = some z ∧ w.cell? ⟨b, 3, none⟩ = some u ∧ w.cell? ⟨b, 4, none⟩ = some v ∧
    w.frozen? ⟨b, 0, none⟩ = false ∧ w.frozen? ⟨b, 1, none⟩ = false ∧ w.frozen? ⟨b, 2, none⟩ = false ∧ w.frozen? ⟨b, 3, none⟩ = false ∧ w.frozen? ⟨b, 4, none⟩ = false :=
  ⟨h.cell 0, h.cell 1, h.cell 2, h.cell 3, h.cell 4, h.frozen 0, h.frozen 1, h.frozen 2, h.frozen 3, h.frozen 4⟩

def set5 (w : World) (b : Nat) (x y z u v : Value) : World := ((((w.setCell ⟨b, 0, none⟩ x).setCell ⟨b, 1, none⟩ y).setCell ⟨b, 2, none⟩ z).setCell ⟨b, 3, none⟩ u).setCell ⟨b, 4, none⟩ v
theorem set5_frame {w : World} {b : Nat} {x y z u v : Value} : w.heap.size ≤ (set5 w b x y z u v).heap.size ∧ ∀ k, k ≠ b → k < w.heap.size → (set5 w b x y z u v).heap[k]? = w.heap[k]? :=
  ⟨by simp [set5, World.setCell], fun k hk _ => by unfold set5; rw [Below.heap_setCell _ _ _ _ hk, Below.heap_setCell _ _ _ _ hk, Below.heap_setCell _ _ _ _ hk, Below.heap_setCell _ _ _ _ hk, Below.heap_setCell _ _ _ _ hk]⟩
theorem Kp.set5 {w w' : World} (h : Kp w w') {b : Nat} (hb : w.heap.size ≤ b) (x y z u v : Value) : Kp w (set5 w' b x y z u v) :=
  ((((h.setCell hb x).setCell hb y).setCell hb z).setCell hb u).setCell hb v
theorem Bx.set5 {w : World} {b : Nat} {t : TypeId} {x' y' z' u' v' : Value} (h : Bx w b #[x', y', z', u', v'] t) (x y z u v : Value) : Bx (set5 w b x y z u v) b #[x, y, z, u, v] t :=
  ((((h.set 0 x).set 1 y).set 2 z).set 3 u).set 4 v

theorem pending_any (d : Dm) (w : World) : Calls Try.prog 19 #[d.v] w fun e w' => e = .returned (.int .i64 d.has) ∧ Kp w w' := by
  obtain ⟨need, has, low, high, val⟩ := d
  show Calls _ _ #[.agg #[.int .i64 need, .int .i64 has, .int .u8 low, .int .u8 high, .int .i32 val]] _ _
  go_enter Try.func19, Try.ntmps19
  go_wp2
  go_ret
  exact ⟨rfl, (Kp.refl _).alloc _⟩

/-- A slice of runes comes back. -/
def RetRu (xs : List Int) (w : World) (e : Ending) (w' : World) : Prop := ∃ A n c, e = .returned (.slice A n c) ∧ Ru w' (From w.heap.size) A n c xs ∧ Kp w w'

theorem end_any (d : Dm) (w : World) : Calls Try.prog 20 #[d.v] w (RetRu (endM d) w) := by
  obtain ⟨need, has, low, high, val⟩ := d
  show Calls _ _ #[.agg #[.int .i64 need, .int .i64 has, .int .u8 low, .int .u8 high, .int .i32 val]] _ _
  by_cases h : need = 0
  · have HE : Hid (endM ⟨need, has, low, high, val⟩ = []) := by show _ = _; simp [endM, h]
    have hb : (need == 0) = true := by simpa using h
    clear h
    go_enter Try.func20, Try.ntmps20
    go_wp2
    go_ret
    rw [HE.out]
    exact ⟨none, 0, 0, rfl, Ru.nil _ _, (Kp.refl _).alloc _⟩
  · have HE : Hid (endM ⟨need, has, low, high, val⟩ = [65533]) := by show _ = _; simp [endM, h]
    have hb : (need == 0) = false := by simpa using h
    clear h
    go_enter Try.func20, Try.ntmps20
    go_wp2
    go_ret
    rw [HE.out]
    exact ⟨_, 1, 1, rfl, Ru.one_at _ _ (w.heap.size + 1) (by simp) (by unfold From; omega) 65533 _, ((Kp.refl _).alloc _).alloc _⟩

set_option maxHeartbeats 1600000 in
theorem feed_any (d : Dm) (hd : d.ok) (b : Int) (h0 : 0 ≤ b) (h1 : b ≤ 255) (w : World) : Calls Try.prog 17 #[d.v, .int .u8 b] w (RetDec (feedM d b) w) := by
  obtain ⟨need, has, low, high, val⟩ := d
  show Calls _ _ #[.agg #[.int .i64 need, .int .i64 has, .int .u8 low, .int .u8 high, .int .i32 val], .int .u8 b] _ _
  by_cases hn : need = 0
  · have HE : Hid (feedM ⟨need, has, low, high, val⟩ b = firstM b) := by show _ = _; simp only [feedM, if_pos hn]
    have hb : (need == 0) = true := by simpa using hn
    clear hn hd
    go_enter Try.func17, Try.ntmps17
    go_wp2_with fail
    have KP : Kp w ((w.alloc (.cells #[.int .i64 need, .int .i64 has, .int .u8 low, .int .u8 high, .int .i32 val] 28)).alloc (.cells #[.int .i64 0, .int .i64 0, .int .u8 0, .int .u8 0, .int .i32 0] 28)) := ((Kp.refl _).alloc _).alloc _
    refine (first_any b h0 h1 _).mono ?_
    rintro e w1 ⟨A, n, c, rfl, hr, hk⟩
    have bx := ((Bx.new (w.alloc (.cells #[.int .i64 need, .int .i64 has, .int .u8 low, .int .u8 high, .int .i32 val] 28)) #[.int .i64 0, .int .i64 0, .int .u8 0, .int .u8 0, .int .i32 0] 28)).kp hk
    rw [World.size_alloc] at bx
    have KP1 := KP.trans hk
    have hr1 : Ru w1 (fun k => w.heap.size + 1 < k) A n c (firstM b).2 := hr.weak (fun k _ hk => by unfold From at hk; simp at hk; omega)
    obtain ⟨d1, hd1⟩ : ∃ d1, d1 = (firstM b).1 := ⟨_, rfl⟩
    rw [← hd1]
    obtain ⟨p0, p1, p2, p3, p4, q0, q1, q2, q3, q4⟩ := bx.five
    unfold Dm.v
    have HD := Lib.hid hd1
    clear hd1 hk hr KP
    go_wp2_with fail
    refine bodyPost_ret (v := .tuple #[d1.v, .slice A n c]) (by simp [results, Try.results17, go_sem, p0, p1, p2, p3, p4, Dm.v]) rfl ?_
    rw [HE.out]
    have fr := set5_frame (w := w1) (b := w.heap.size + 1) (x := .int .i64 d1.need) (y := .int .i64 d1.has) (z := .int .u8 d1.low) (u := .int .u8 d1.high) (v := .int .i32 d1.val)
    exact ⟨A, n, c, by rw [HD.out], Sl.weak (Sl.frame hr1 fr.1 (fun k hF hl => fr.2 k (by omega) hl)) (fun k _ hF => by unfold From; omega), KP1.set5 (by omega) _ _ _ _ _⟩
  · have hnb : (need == 0) = false := by simpa using hn
    obtain ⟨b1, b2, b3, b4, b5, b6, b7, b8, b9, b10, b11, b12, b13⟩ : (1 ≤ need ∧ need ≤ 3 ∧ 1 ≤ has ∧ has ≤ 3 ∧ 0 ≤ val ∧ need + has ≤ 4 ∧ val < 131072 ∧ 128 ≤ low ∧ low ≤ 191 ∧ 128 ≤ high ∧ high ≤ 191 ∧ (has = 1 → val < 32) ∧ (has = 2 → val < 2048)) := by
      rcases hd with hd | hd
      · injection hd with hd; exact absurd hd hn
      · exact hd
    clear b12 b13
    by_cases hr : b < low ∨ high < b
    · have HE : Hid (feedM ⟨need, has, low, high, val⟩ b = ((firstM b).1, 65533 :: (firstM b).2)) := by show _ = _; simp only [feedM, if_neg hn, if_pos hr]
      have hfl := firstM_len b
      clear hn hd
      have hrr : b < low ∨ (low ≤ b ∧ high < b) := by omega
      clear hr
      rcases hrr with hr | ⟨hr', hr⟩
      all_goals
        go_enter Try.func17, Try.ntmps17
        go_wp2_with fail
        have KP : Kp w ((w.alloc (.cells #[.int .i64 need, .int .i64 has, .int .u8 low, .int .u8 high, .int .i32 val] 28)).alloc (.cells #[.int .i64 0, .int .i64 0, .int .u8 0, .int .u8 0, .int .i32 0] 28)) := ((Kp.refl _).alloc _).alloc _
        refine (first_any b h0 h1 _).mono ?_
        rintro e w1 ⟨A, n, c, rfl, hr, hk⟩
        have bx := ((Bx.new (w.alloc (.cells #[.int .i64 need, .int .i64 has, .int .u8 low, .int .u8 high, .int .i32 val] 28)) #[.int .i64 0, .int .i64 0, .int .u8 0, .int .u8 0, .int .i32 0] 28)).kp hk
        rw [World.size_alloc] at bx
        have KP1 := KP.trans hk
        have hr1 : Ru w1 (fun k => w.heap.size + 1 < k) A n c (firstM b).2 := hr.weak (fun k _ hk => by unfold From at hk; simp at hk; omega)
        have hn1 : n ≤ 1 := by have := hr1.len; omega
        obtain ⟨d1, hd1⟩ : ∃ d1, d1 = (firstM b).1 := ⟨_, rfl⟩
        rw [← hd1]
        unfold Dm.v
        have HD := Lib.hid hd1
        have z1 := bx.lt
        have bx' := bx.alloc (.cells #[.int .i64 d1.need, .int .i64 d1.has, .int .u8 d1.low, .int .u8 d1.high, .int .i32 d1.val] 28)
        have by_ := Bx.new w1 #[.int .i64 d1.need, .int .i64 d1.has, .int .u8 d1.low, .int .u8 d1.high, .int .i32 d1.val] 28
        have hr2 := Sl.kp hr1 ((Kp.refl w1).alloc (.cells #[.int .i64 d1.need, .int .i64 d1.has, .int .u8 d1.low, .int .u8 d1.high, .int .i32 d1.val] 28))
        clear hd1 hk hr KP hfl
        go_wp2_with fail
        obtain ⟨s0, s1, s2, s3, s4, _, _, _, _, _⟩ := by_.five
        have hne : w.heap.size + 1 ≠ w1.heap.size := by omega
        have HFar : ∀ (wx : World) (x y z u v : Value), Bx wx w1.heap.size #[.int .i64 d1.need, .int .i64 d1.has, .int .u8 d1.low, .int .u8 d1.high, .int .i32 d1.val] 28 → Bx (set5 wx (w.heap.size + 1) x y z u v) w1.heap.size #[.int .i64 d1.need, .int .i64 d1.has, .int .u8 d1.low, .int .u8 d1.high, .int .i32 d1.val] 28 :=
          fun wx x y z u v h => (((((h.far (p := ⟨_, _, _⟩) hne.symm x).far (p := ⟨_, _, _⟩) hne.symm y).far (p := ⟨_, _, _⟩) hne.symm z).far (p := ⟨_, _, _⟩) hne.symm u).far (p := ⟨_, _, _⟩) hne.symm v)
        have HF := Lib.hid HFar
        clear HFar hne
        go_region_held3 (fun w' => w'.cell? ⟨w1.heap.size, 0, none⟩ = some (.int .i64 d1.need) ∧ w'.cell? ⟨w1.heap.size, 1, none⟩ = some (.int .i64 d1.has) ∧ w'.cell? ⟨w1.heap.size, 2, none⟩ = some (.int .u8 d1.low) ∧ w'.cell? ⟨w1.heap.size, 3, none⟩ = some (.int .u8 d1.high) ∧ w'.cell? ⟨w1.heap.size, 4, none⟩ = some (.int .i32 d1.val))
          (first | (with_reducible exact ⟨u0, u1, u2, u3, u4⟩) | (have f5 := Bx.five (HF.out w4 (.int .i64 d1.need) (.int .i64 d1.has) (.int .u8 d1.low) (.int .u8 d1.high) (.int .i32 d1.val) by4); exact ⟨f5.1, f5.2.1, f5.2.2.1, f5.2.2.2.1, f5.2.2.2.2.1⟩) | go_keep)
          ((refine step_append_sl _ (by rfl) _ _ _ (by rfl) (w1.heap.size + 1) 21 _ 1 4 Try.underlying23 info32 rfl (by omega) (some ⟨w1.heap.size + 1, 0, none⟩) 1 1 (R32 [65533]) (by rfl) (by first | exact Own.new_ _ #[.int .i32 65533] _ 1 1 _ _ (by simp) (Nat.le_refl _) rfl (by omega) | exact Own.drew (Own.new_ _ #[.int .i32 65533] _ 1 1 _ _ (by simp) (Nat.le_refl _) rfl (by omega))) _ A n c (R32 (firstM b).2) (by rfl) (by first | exact Sl.alloc hr2 _ | exact Sl.drew (Sl.alloc hr2 _) | exact Sl.alloc (Sl.drew hr2) _) (R32_one _) (by simp only [maxLen]; omega) (by omega) (by simp) ?_; intro A4 c4 w4 hown hg hat; have by4 : Bx w4 w1.heap.size #[.int .i64 d1.need, .int .i64 d1.has, .int .u8 d1.low, .int .u8 d1.high, .int .i32 d1.val] 28 := Bx.grown (by first | exact Bx.alloc by_ _ | exact Bx.drew (Bx.alloc by_ _)) hg (by simp [rowOf]); have bx4 : Bx w4 (w.heap.size + 1) #[.int .i64 0, .int .i64 0, .int .u8 0, .int .u8 0, .int .i32 0] 28 := Bx.grown (by first | exact Bx.alloc bx' _ | exact Bx.drew (Bx.alloc bx' _)) hg (by simp [rowOf]; omega); obtain ⟨u0, u1, u2, u3, u4, _, _, _, _, _⟩ := by4.five; obtain ⟨v0, v1, v2, v3, v4, v5, v6, v7, v8, v9⟩ := bx4.five; have z4 := by4.lt; have kp4 : Kp w w4 := Kp.grown (by first | exact Kp.alloc (Kp.alloc KP1 _) _ | exact Kp.drew (Kp.alloc (Kp.alloc KP1 _) _)) hg (by simp [rowOf]; omega)))
        go_wp2_with fail
        clear u0 u1 u2 u3 u4 s0 s1 s2 s3 s4
        refine bodyPost_ret (v := .tuple #[d1.v, .slice A4 (1 + n) c4]) (by simp [results, Try.results17, go_sem, v0, v1, v2, v3, v4, Dm.v]) rfl ?_
        rw [HE.out]
        have fr := set5_frame (w := w4) (b := w.heap.size + 1) (x := .int .i64 d1.need) (y := .int .i64 d1.has) (z := .int .u8 d1.low) (u := .int .u8 d1.high) (v := .int .i32 d1.val)
        refine ⟨A4, 1 + n, c4, by rw [HD.out], ?_, kp4.set5 (by omega) _ _ _ _ _⟩
        have hs := Sl.weak (Sl.frame hown.sl fr.1 (fun k hF hl => fr.2 k (by unfold From at hF; omega) hl)) (fun k _ hF => show From w.heap.size k by unfold From at *; omega)
        rw [R32_append] at hs
        exact hs
    · have hr1 : low ≤ b := by omega
      have hr2 : b ≤ high := by omega
      have ha := and_63 b h0 h1
      have hb0 := Int.emod_nonneg b (show (64 : Int) ≠ 0 by omega)
      have hb1 := Int.emod_lt_of_pos b (show (0 : Int) < 64 by omega)
      have ho := or_low val (b % 64) b5 (by omega) hb0 hb1
      by_cases hq : need = 1
      · have HE : Hid (feedM ⟨need, has, low, high, val⟩ b = (Dm.zero, [val * 64 + b % 64])) := by show _ = _; simp only [feedM, if_neg hn, if_neg hr, if_pos hq]
        subst hq
        generalize b % 64 = r at *
        clear hn hd hr
        go_enter Try.func17, Try.ntmps17
        go_wp2_with fail
        go_region
        all_goals
          go_wp2_with fail
          refine bodyPost_ret (v := .tuple #[Dm.zero.v, .slice (some ⟨w.heap.size + 2, 0, none⟩) 1 1]) (by simp [results, Try.results17, go_sem, Dm.v, Dm.zero]) rfl ?_
          rw [HE.out]
          exact ⟨_, _, _, rfl, Sl.drew (Ru.one_at _ _ (w.heap.size + 2) (by simp) (by unfold From; omega) (val * 64 + r) _), ((((Kp.refl _).alloc _).alloc _).alloc _).drew⟩
      · have HE : Hid (feedM ⟨need, has, low, high, val⟩ b = (⟨need - 1, has + 1, 128, 191, val * 64 + b % 64⟩, [])) := by show _ = _; simp only [feedM, if_neg hn, if_neg hr, if_neg hq]
        generalize b % 64 = r at *
        have hq2 : 2 ≤ need := by omega
        clear hn hd hr hq
        go_enter Try.func17, Try.ntmps17
        go_wp2_with fail
        refine bodyPost_ret (v := .tuple #[(⟨need - 1, has + 1, 128, 191, val * 64 + r⟩ : Dm).v, .slice none 0 0]) (by simp [results, Try.results17, go_sem, Dm.v]) rfl ?_
        rw [HE.out]
        exact ⟨_, _, _, rfl, Ru.nil _ _, ((Kp.refl _).alloc _).alloc _⟩
end Go.Proofs.Ytmeefngkbcfpeaa
