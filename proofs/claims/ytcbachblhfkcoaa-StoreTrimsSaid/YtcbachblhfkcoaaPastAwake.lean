/-
  typebarlaw20.awake: chapter 20's example: it returns true, and what was in memory stays. No conditions.
-/
import Derived.Test.YtcbachblhfkcoaaPastGo
import Derived.Test.YtcbachblhfkcoaaWords2
namespace Go.Proofs.Ytcbachblhfkcoaa
open Go.RowKit

/-- A store of three cells into one box: what does not lie there stays. -/
theorem set3_frame {w : World} {b : Nat} {u v s : Value} : w.heap.size ≤ (((w.setCell ⟨b, 0, none⟩ u).setCell ⟨b, 1, none⟩ v).setCell ⟨b, 2, none⟩ s).heap.size ∧
    ∀ k, k ≠ b → k < w.heap.size → (((w.setCell ⟨b, 0, none⟩ u).setCell ⟨b, 1, none⟩ v).setCell ⟨b, 2, none⟩ s).heap[k]? = w.heap[k]? :=
  ⟨by simp [World.setCell], fun k hk _ => by rw [Below.heap_setCell _ _ _ _ hk, Below.heap_setCell _ _ _ _ hk, Below.heap_setCell _ _ _ _ hk]⟩

set_option maxHeartbeats 1600000 in
theorem awake20 (w : World) : Calls Try.prog 20 #[] w fun e w' => e = .returned (.bool true) ∧ Kp w w' := by
  obtain ⟨F, hFd⟩ : ∃ F : Nat → Prop, F = fun k => k ≠ w.heap.size := ⟨_, rfl⟩
  have hFn : ∀ s, w.heap.size < s → ∀ k, s ≤ k → F k := fun s hs k hk => by rw [hFd]; show k ≠ _; omega
  have hFo : ∀ k, F k → k ≠ w.heap.size := fun k hk => by rw [hFd] at hk; exact hk
  have HFN := Lib.hid hFn
  have HFO := Lib.hid hFo
  clear hFd hFn hFo
  go_enter Try.func20, Try.ntmps20
  go_wp2_with fail
  have KP0 : Kp w ((w.alloc (.cells #[.slice none 0 0, .int .i64 0, .slice none 0 0] 27)).alloc (.cells #[.int .i32 97] 21)) := ((Kp.refl _).alloc _).alloc _
  refine (past_add F Any none none _ 0 0 0 0 1 1 0 [] [97] _ (HFN.out _ (by simp; omega)) (Txs.nil _ _ _) (Ru.one_at _ Any (w.heap.size + 1) (by simp) trivial 97 _) (by omega) (by omega)).mono ?_
  rintro e w1 ⟨A1, n1, c1, B1, m1, d1, rfl, hT1, hS1, hk1⟩
  have hn1 : n1 ≤ 2000 := by have := hT1.len; have := addM_length [] [97]; simp at this; omega
  have hm1 : m1 ≤ 1099511627776 := by have := hS1.len; simp at this; omega
  rw [show addM [] [97] = [[97]] from by decide] at hT1
  have b1 := ((Bx.new w #[.slice none 0 0, .int .i64 0, .slice none 0 0] 27).alloc (.cells #[.int .i32 97] 21)).kp hk1
  have KP1 := KP0.trans hk1
  have z1 : w.heap.size < w1.heap.size := b1.lt
  clear hk1 hS1
  go_wp2_with fail
  have KP2 : Kp w (w1.alloc (.cells #[.int .i32 98] 21)) := KP1.alloc _
  refine (past_add F Any A1 B1 _ n1 c1 m1 d1 1 1 0 [[97]] [98] _ (HFN.out _ (by simp; omega)) (hT1.kp ((Kp.refl _).alloc _)) (Ru.one_at _ Any w1.heap.size rfl trivial 98 _) hn1 (by omega)).mono ?_
  rintro e w2 ⟨A2, n2, c2, B2, m2, d2, rfl, hT2, hS2, hk2⟩
  have hn2 : n2 ≤ 2000 := by have := hT2.len; have := addM_length [[97]] [98]; simp at this; omega
  have hm2 : m2 ≤ 1099511627776 := by have := hS2.len; simp at this; omega
  rw [show addM [[97]] [98] = [[97], [98]] from by decide] at hT2
  have b2 := (b1.alloc (.cells #[.int .i32 98] 21)).kp hk2
  have KP3 := KP2.trans hk2
  have z2 : w.heap.size < w2.heap.size := b2.lt
  obtain ⟨p0, p1, p2, q0, q1, q2⟩ := b2.three
  clear hk2 hT1 b1 z1 KP0 KP1 KP2
  go_wp2_with fail
  have fr := set3_frame (w := w2) (b := w.heap.size) (u := .slice A2 n2 c2) (v := .int .i64 0) (s := .slice B2 m2 d2)
  have KP4 := (((KP3.setCell (p := ⟨w.heap.size, 0, none⟩) (Nat.le_refl _) (.slice A2 n2 c2)).setCell (p := ⟨w.heap.size, 1, none⟩) (Nat.le_refl _) (.int .i64 0)).setCell (p := ⟨w.heap.size, 2, none⟩) (Nat.le_refl _) (.slice B2 m2 d2))
  have hT3 := hT2.frame fr.1 (fun k hF => fr.2 k (HFO.out k hF)) (fun k hF => fr.2 k (HFO.out k hF))
  have hS3 : Ru _ F B2 m2 d2 [] := Sl.frame hS2 fr.1 (fun k hF => fr.2 k (HFO.out k hF))
  have b3 := b2.set3 (.slice A2 n2 c2) (.int .i64 0) (.slice B2 m2 d2)
  have z3 := b3.lt
  have hsz : (((w2.setCell ⟨w.heap.size, 0, none⟩ (.slice A2 n2 c2)).setCell ⟨w.heap.size, 1, none⟩ (.int .i64 0)).setCell ⟨w.heap.size, 2, none⟩ (.slice B2 m2 d2)).heap.size = w2.heap.size := by simp [World.setCell]
  clear fr hT2 hS2 b2 KP3 p0 p1 p2 q0 q1 q2 z2
  generalize (((w2.setCell ⟨w.heap.size, 0, none⟩ (.slice A2 n2 c2)).setCell ⟨w.heap.size, 1, none⟩ (.int .i64 0)).setCell ⟨w.heap.size, 2, none⟩ (.slice B2 m2 d2)) = w3 at *
  refine (past_go_a1 F Any A2 B2 _ n2 c2 m2 d2 1 1 0 2 [[97], [98]] [] [120] _ (HFN.out _ (by simp; omega)) (hT3.kp ((Kp.refl _).alloc _)) (Sl.kp hS3 ((Kp.refl _).alloc _)) (Ru.one_at _ Any w2.heap.size hsz trivial 120 _) hn2 hm2 (by omega) (by simp) (by decide) (by decide) [97] (by decide)).mono ?_
  rintro e w4 ⟨A4, n4, c4, B4, m4, d4, C4, k4, f4, rfl, hT4, hS4, hs4, hk4⟩
  have hn4 : n4 ≤ 2000 := by have := hT4.len; simp at this; omega
  have hm4 : m4 ≤ 1099511627776 := by have := hS4.len; simp at this; omega
  have b4 := (b3.alloc (.cells #[.int .i32 120] 21)).kp hk4
  have KP5 := (KP4.alloc (.cells #[.int .i32 120] 21)).trans hk4
  have z4 := b4.lt
  clear hk4 hT3 hS3 hsz KP4
  go_wp2_with fail
  have KP6 := (KP5.alloc (.cells #[.slice A4 n4 c4, .int .i64 2, .slice B4 m4 d4] 27)).alloc (.cells #[.int .i32 97] 21)
  have k46 : Kp w4 ((w4.alloc (.cells #[.slice A4 n4 c4, .int .i64 2, .slice B4 m4 d4] 27)).alloc (.cells #[.int .i32 97] 21)) := ((Kp.refl _).alloc _).alloc _
  refine (past_go_b0 F Any A4 B4 _ n4 c4 m4 d4 1 1 2 0 [[97], [98]] [120] [97] _ (HFN.out _ (by simp; omega)) (hT4.kp k46) (Sl.kp hS4 k46) (Ru.one_at _ Any (w4.heap.size + 1) (by simp) trivial 97 _) hn4 hm4 (by omega) (by simp) (by decide) (by decide) [120] (by decide)).mono ?_
  rintro e w5 ⟨A5, n5, c5, B5, m5, d5, C5, k5, f5, rfl, hT5, hS5, hs5, hk5⟩
  have bq := ((Bx.new w4 #[.slice A4 n4 c4, .int .i64 2, .slice B4 m4 d4] 27).alloc (.cells #[.int .i32 97] 21)).kp hk5
  have KP7 := KP6.trans hk5
  have k47 := k46.trans hk5
  have hs4' := Sl.kp hs4 k47
  have hn5 : n5 = 2 := by have := hT5.len; simp at this; omega
  subst hn5
  have z5 := bq.lt
  obtain ⟨p0, p1, p2, q0, q1, q2⟩ := bq.three
  clear hk5 k46 KP6 hs4 hT4 hS4 hT5 hS5 b3 b4 p0 p1 p2 q0 q1 q2
  go_wp2_with fail
  have br := (Bx.new w5 #[.slice A5 2 c5, .int .i64 0, .slice B5 m5 d5] 27).alloc (.cells #[.int .i32 97] 21)
  have bq1 := (bq.alloc (.cells #[.slice A5 2 c5, .int .i64 0, .slice B5 m5 d5] 27)).alloc (.cells #[.int .i32 97] 21)
  have k6 : Kp w5 ((w5.alloc (.cells #[.slice A5 2 c5, .int .i64 0, .slice B5 m5 d5] 27)).alloc (.cells #[.int .i32 97] 21)) := ((Kp.refl _).alloc _).alloc _
  refine (same_any F Any C4 _ k4 f4 1 1 [97] [97] _ (Sl.kp hs4' k6) (Ru.one_at _ Any (w5.heap.size + 1) (by simp) trivial 97 _)).mono ?_
  rintro e w6 ⟨rfl, hd⟩
  rw [show sameB [97] [97] = true from by decide]
  have k6' := k6.trans hd.kp
  have bq2 := bq1.kp hd.kp
  have br2 := br.kp hd.kp
  clear bq1 br k6 hd bq
  go_wp2_with fail
  have k7 := k6'.alloc (.cells #[.int .i32 120] 21)
  refine (same_any F Any C5 _ k5 f5 1 1 [120] [120] _ (Sl.kp hs5 k7) (Ru.one_at _ Any w6.heap.size rfl trivial 120 _)).mono ?_
  rintro e w7 ⟨rfl, hd⟩
  rw [show sameB [120] [120] = true from by decide]
  have k7' := k7.trans hd.kp
  have bq3 := (bq2.alloc (.cells #[.int .i32 120] 21)).kp hd.kp
  have br3 := (br2.alloc (.cells #[.int .i32 120] 21)).kp hd.kp
  clear bq2 br2 k7 hd k6'
  obtain ⟨p0, p1, p2, q0, q1, q2⟩ := bq3.three
  go_wp2_with fail
  refine (past_at A4 B4 n4 c4 m4 d4 2 w7).mono ?_
  rintro e w8 ⟨rfl, hk⟩
  have k8 := k7'.trans hk
  have br4 := br3.kp hk
  clear hk k7' br3 bq3 p0 p1 p2 q0 q1 q2
  obtain ⟨p0, p1, p2, q0, q1, q2⟩ := br4.three
  go_wp2_with fail
  refine (past_at A5 B5 2 c5 m5 d5 0 w8).mono ?_
  rintro e w9 ⟨rfl, hk⟩
  have k9 := k8.trans hk
  have br5 := br4.kp hk
  clear hk k8 br4 p0 p1 p2 q0 q1 q2
  obtain ⟨p0, p1, p2, q0, q1, q2⟩ := br5.three
  go_wp2_with fail
  refine (past_len A5 B5 2 c5 m5 d5 0 w9).mono ?_
  rintro e w10 ⟨rfl, hk⟩
  have k10 := k9.trans hk
  go_wp2_with fail
  go_ret
  exact ⟨rfl, KP7.trans k10⟩
end Go.Proofs.Ytcbachblhfkcoaa
