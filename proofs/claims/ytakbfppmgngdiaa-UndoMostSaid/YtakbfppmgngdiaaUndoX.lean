/-
  typebarlaw19.awake. No conditions.
-/
import Derived.Test.YtakbfppmgngdiaaUndoW
namespace Go.Proofs.Ytakbfppmgngdiaa
open Go.RowKit

def g1 : List Grp := [⟨[⟨1, [], [88]⟩], 1⟩]
def g2 : List Grp := [⟨[⟨1, [], [88]⟩, ⟨2, [], [89]⟩], 1⟩]
theorem add_g1 : addM [] ⟨1, [], [88]⟩ 1 false = g1 := rfl
theorem add_g2 : addM g1 ⟨2, [], [89]⟩ 2 true = g2 := rfl
theorem all_g2 : allM g2 [97, 88, 89, 98] 3 = some ([97, 98], 1) := by decide

set_option maxRecDepth 100000 in
set_option maxHeartbeats 800000 in
theorem awake19 (w : World) : Calls Try.prog 33 #[] w fun e w' => e = .returned (.bool true) ∧ Kp w w' := by
  go_enter Try.func33, Try.ntmps33
  go_upto_region 2 with fail
  have k1 := (Kp.refl w).alloc (.cells #[.slice none 0 0] 47)
  have b1 := Bx.new w #[.slice none 0 0] 47
  generalize (w.alloc (.cells #[.slice none 0 0] 47)) = w1 at *
  obtain ⟨p0, p1⟩ := b1.one
  go_wp2_with fail
  have h1 := undo_add none none (some ⟨w1.heap.size, 0, none⟩) 0 0 0 0 1 1 [] ⟨1, [], [88]⟩ 1 false (w1.alloc (.cells #[.int .i32 88] 21)) Lst.nil (Ru.nil _ _) (Ru.one_ w1 Any trivial 88 _) (by omega) (by simp)
  rw [add_g1] at h1
  refine h1.mono ?_
  clear h1
  rintro e w2 ⟨A2, n2, c2, rfl, hG2, k2⟩
  have k12 := ((Kp.refl w1).alloc (.cells #[.int .i32 88] 21)).trans k2
  have b2 := b1.kp k12
  have kw2 := k1.trans k12
  clear p0 p1 b1 k1 k2
  obtain ⟨p0, p1⟩ := b2.one
  go_upto_region 3 with fail
  have b3 := b2.set 0 (.slice A2 n2 c2)
  have hG3 := hG2.set1 b2 (.slice A2 n2 c2)
  have k3 := kw2.setCell (p := ⟨w.heap.size, 0, none⟩) (Nat.le_refl _) (.slice A2 n2 c2)
  clear p0 p1 b2 hG2 k12 kw2
  generalize (w2.setCell ⟨w.heap.size, 0, none⟩ (.slice A2 n2 c2)) = w3 at *
  obtain ⟨p0, p1⟩ := Bx.one b3
  go_wp2_with fail
  have hl3 : n2 = 1 := hG3.len.symm
  subst hl3
  have h1 := undo_add A2 none (some ⟨w3.heap.size, 0, none⟩) 1 c2 0 0 1 1 g1 ⟨2, [], [89]⟩ 2 true (w3.alloc (.cells #[.int .i32 89] 21)) (hG3.kp ((Kp.refl w3).alloc _)) (Ru.nil _ _) (Ru.one_ w3 Any trivial 89 _) (by omega) (by simp [g1])
  rw [add_g2] at h1
  refine h1.mono ?_
  clear h1
  rintro e w4 ⟨A4, n4, c4, rfl, hG4, k4⟩
  have k34 := ((Kp.refl w3).alloc (.cells #[.int .i32 89] 21)).trans k4
  have b4 := Bx.kp b3 k34
  have kw4 := k3.trans k34
  clear p0 p1 b3 hG3 k34 k3 k4
  obtain ⟨p0, p1⟩ := b4.one
  go_upto_region 4 with fail
  have b5 := b4.set 0 (.slice A4 n4 c4)
  have hG5 := hG4.set1 b4 (.slice A4 n4 c4)
  have k5 := kw4.setCell (p := ⟨w.heap.size, 0, none⟩) (Nat.le_refl _) (.slice A4 n4 c4)
  clear p0 p1 b4 hG4 kw4
  generalize (w4.setCell ⟨w.heap.size, 0, none⟩ (.slice A4 n4 c4)) = w5 at *
  obtain ⟨p0, p1⟩ := Bx.one b5
  go_wp2_with fail
  have ka := (Kp.refl w5).alloc (.cells #[.int .i32 97, .int .i32 88, .int .i32 89, .int .i32 98] 21)
  have h1 := undo_all A4 (some ⟨w5.heap.size, 0, none⟩) n4 c4 4 4 g2 [97, 88, 89, 98] 3 (w5.alloc (.cells #[.int .i32 97, .int .i32 88, .int .i32 89, .int .i32 98] 21)) (hG5.kp ka) (Ru.new w5 Any trivial [97, 88, 89, 98] _ 4 rfl (by omega)) (by omega) (by simp [tot, g2]) (by simp [okG, okE, g2])
  rw [all_g2] at h1
  refine h1.mono ?_
  clear h1
  rintro e w6 ⟨A6, n6, c6, rfl, hR6, k6⟩
  have hl4 : n4 = 1 := hG5.len.symm
  subst hl4
  have hl6 : n6 = 2 := hR6.len.symm
  subst hl6
  have k56 := ka.trans k6
  have b6 := Bx.kp b5 k56
  have kw6 := k5.trans k56
  clear p0 p1 b5 hG5 ka k6 k56 k5
  obtain ⟨p0, p1⟩ := b6.one
  go_wp2_with fail
  refine (undo_len A4 1 c4 w6).mono ?_
  rintro e w7 ⟨rfl, k7⟩
  go_wp2_with fail
  refine (same_eq Any Any A6 (some ⟨w7.heap.size, 0, none⟩) 2 c6 2 2 [97, 98] (w7.alloc (.cells #[.int .i32 97, .int .i32 98] 21)) (hR6.kp (k7.trans ((Kp.refl w7).alloc _))) (Ru.two_ w7 Any trivial 97 98 _)).mono ?_
  rintro e w8 ⟨rfl, k8⟩
  have kw8 := kw6.trans (k7.trans (((Kp.refl w7).alloc (.cells #[.int .i32 97, .int .i32 98] 21)).trans k8))
  clear p0 p1 b6 hR6 kw6 k7 k8
  go_wp2_with fail
  go_ret
  exact ⟨rfl, kw8⟩
end Go.Proofs.Ytakbfppmgngdiaa
