/-
  typebarlaw19.UndoMost: the walk: it returns true, and what was in memory stays. No conditions.
-/
import Derived.Test.YtakbfppmgngdiaaUndoMm
import Derived.Test.YtakbfppmgngdiaaUndoX
import Derived.Test.YtakbfppmgngdiaaUndoQ
import Derived.Test.YtakbfppmgngdiaaBits
namespace Go.Proofs.Ytakbfppmgngdiaa
open Go.RowKit

set_option maxRecDepth 100000 in
set_option maxHeartbeats 3200000 in
theorem undoMost_walk (n0 : Int) (_ : (Lit.int .i64 n0).wf = true) (w : World) : Calls Try.prog 9 #[.int .i64 n0] w fun e w' => e = .returned (.bool true) ∧ Kp w w' := by
  obtain ⟨r, hr, hb⟩ := and_below n0 4 (by omega)
  have hb' : bits .and .i64 n0 15 = (r : Int) := hb
  have hr16 : r < 16 := hr
  clear hb hr
  obtain ⟨N, hN⟩ : ∃ N, N = 995 + r := ⟨_, rfl⟩
  go_enter Try.func9, Try.ntmps9
  go_upto_region 2 with fail
  rw [show (995 : Int) + (r : Int) = (N : Int) by omega]
  have hN1 : 995 ≤ N := by omega
  have hN2 : N ≤ 1011 := by omega
  clear hb' hr16 hN
  go_wp2_with fail
  go_loopg [4, 5] N (fun g v4 i wr => ∃ (k : Nat) (A1 : Option Addr) (n1 c1 : Nat) (A2 : Option Addr) (c2 : Nat), k + g = N ∧ i = .int .i64 k ∧ v4 = .slice A2 k c2 ∧ Bx wr w.heap.size #[.slice A1 n1 c1] 47 ∧ GrpsF (fun x => x ≠ w.heap.size ∧ rowOf A2 ≠ some x) wr A1 n1 c1 (GmM k) ∧ Own wr (w.heap.size + 1) 21 1 A2 k c2 (R32 (List.replicate k 120)) ∧ Kp w wr)
  case atStart => exact ⟨0, none, 0, 0, none, 0, by omega, rfl, rfl, Bx.new w _ _, GrpsF.nil, Own.nil _ _ _ _, (Kp.refl _).alloc _⟩
  case round =>
    obtain ⟨k, A1, n1, c1, A2, c2, hk, rfl, rfl, hs, hG, ho, kw⟩ := hrel
    obtain ⟨p0, p1⟩ := hs.one
    have hn1 : n1 ≤ 1000 := by have h1 := hG.grps.len; rw [GmM_length] at h1; omega
    have hlb := hs.lt
    by_cases hlt : k < N
    · go_wp2_with fail
      have ka := (Kp.refl wr).alloc (.cells #[.int .i32 120] 21)
      have hFn : ∀ x, wr.heap.size ≤ x → x ≠ w.heap.size ∧ rowOf A2 ≠ some x := fun x hx => ⟨by omega, fun h => by have := (ho.lt x h).2; omega⟩
      have hcall := undo_add_F (fun x => x ≠ w.heap.size ∧ rowOf A2 ≠ some x) A1 none (some ⟨wr.heap.size, 0, none⟩) n1 c1 0 0 1 1 (GmM k) ⟨(k : Int), [], [120]⟩ (k : Int) (wr.alloc (.cells #[.int .i32 120] 21)) (fun x hx => hFn x (by simp at hx; omega)) (hG.kp ka) (Ru.nil _ _) (Ru.one_ wr _ (hFn _ (Nat.le_refl _)) 120 _) (by omega)
      rw [GmM_step] at hcall
      refine hcall.mono ?_
      clear hcall hFn
      rintro e w2 ⟨A3, n3, c3, rfl, hG3, k3⟩
      have k23 := ka.trans k3
      have hs3 := hs.kp k23
      have ho3 := ho.kp k23
      have kw3 := kw.trans k23
      clear p0 p1 hs hG ho ka k3 kw
      obtain ⟨p0, p1⟩ := hs3.one
      go_upto_region 8 with fail
      have hs4 := hs3.set 0 (.slice A3 n3 c3)
      have hG4 := hG3.setCell (p := ⟨w.heap.size, 0, none⟩) (fun h => h.1 rfl) (.slice A3 n3 c3)
      have hrow : rowOf A2 ≠ some w.heap.size := fun h => by have := (ho3.lt _ h).1; omega
      have ho4 := ho3.setCell (p := ⟨w.heap.size, 0, none⟩) hrow (.slice A3 n3 c3)
      have kw4 := kw3.setCell (p := ⟨w.heap.size, 0, none⟩) (Nat.le_refl _) (.slice A3 n3 c3)
      clear p0 p1 hs3 hG3 ho3 kw3 k23
      generalize (w2.setCell ⟨w.heap.size, 0, none⟩ (.slice A3 n3 c3)) = w4 at *
      have hlb4 : w.heap.size < w4.heap.size := Bx.lt hs4
      have HROW := Lib.hid hrow
      clear hrow
      go_wp2_with (at_builtin; refine wpList_append_sl _ rfl _ _ _ rfl (w.heap.size + 1) 21 _ 1 4 Try.underlying49 info32 rfl (by omega) A2 k c2 (R32 (List.replicate k 120)) rfl (ho4.alloc _) Any _ 1 1 (R32 [120]) rfl (Ru.one_ w4 Any trivial 120 _) (R32_one _) (by simp only [maxLen]; omega) (by omega) (by simp; omega) ?_; intro A5 c5 w5 hown5 hg5 hat5)
      have hs5 := (Bx.alloc hs4 (.cells #[.int .i32 120] 21)).grown hg5 HROW.out
      have hlo := ho4.lt
      have hsz : (w4.alloc (.cells #[.int .i32 120] 21)).heap.size = w4.heap.size + 1 := by simp
      have hG5 := ((GrpsF.kp hG4 ((Kp.refl w4).alloc (.cells #[.int .i32 120] 21))).weak (G := fun x => x ≠ w.heap.size ∧ rowOf A2 ≠ some x ∧ rowOf A5 ≠ some x) fun x hx h => ⟨h.1, h.2, fun h5 => by
        rcases hat5 with h6 | h6
        · exact h.2 (by rw [← h6, h5])
        · rw [h6] at h5; cases h5; omega⟩).grown hg5 (fun g hg h => h.2.1 hg)
      have hG6 := hG5.weak (G := fun x => x ≠ w.heap.size ∧ rowOf A5 ≠ some x) fun x _ h => ⟨h.1, h.2.2⟩
      have kw5 := (Kp.alloc kw4 (.cells #[.int .i32 120] 21)).grown hg5 (fun g hg => by have := (hlo g hg).1; omega)
      rw [R32_append, show List.replicate k (120 : Int) ++ [120] = List.replicate (k + 1) 120 from by rw [List.replicate_succ']] at hown5
      clear hlo hsz hG5 hs4 hG4 ho4 kw4 hg5 hat5
      go_roundg (N - (k + 1))
      case measure => omega
      case rel => exact ⟨k + 1, A3, n3, c3, A5, c5, by omega, by go_num, rfl, hs5, hG6, hown5, kw5⟩
    · obtain rfl : k = N := by omega
      have hnow : Ru wr Any A2 k c2 (List.replicate k 120) := ho.sl.any
      have hl1 := hG.grps.len
      rw [GmM_length] at hl1
      have HL1 := Lib.hid hl1
      have hall := undo_all A1 A2 n1 c1 k c2 (GmM k) (List.replicate k 120) (k : Int) wr hG.grps hnow (by omega) (GmM_tot k) (GmM_ok (by omega))
      rw [GmM_all k (by omega)] at hall
      have HALL := Lib.hid hall
      clear hl1 hall hG ho hnow
      by_cases hbig : 1000 < k
      · have hgt : decide ((1000 : Int) < (k : Int)) = true := by simp; omega
        go_wp2_with fail
        refine HALL.out.mono ?_
        rintro e w2 ⟨A6, n6, c6, rfl, hr6, k6⟩
        have hl6 : n6 = k - 1000 := by rw [← hr6.len]; simp
        subst hl6
        have hs2 := hs.kp k6
        have kw2 := kw.trans k6
        clear p0 p1 hs k6
        obtain ⟨p0, p1⟩ := hs2.one
        go_wp2_with fail
        refine (undo_len A1 n1 c1 w2).mono ?_
        rintro e w3 ⟨rfl, k3⟩
        have kw3 := kw2.trans k3
        obtain ⟨D, hD⟩ : ∃ D, D = k - 1000 := ⟨_, rfl⟩
        rw [← hD]
        have hb2 : ((D : Int) == (k : Int) - 1000) = true := by simp; omega
        have hb3 : ((n1 : Int) == 1000) = true := by have := HL1.out; simp; omega
        have hb4 : ((D : Int) == 0) = false := by simp; omega
        clear hD p0 p1 hs2 k3 hr6
        go_wp2_with fail
        refine (awake19 _).mono ?_
        rintro e w4 ⟨rfl, k4⟩
        go_wp2_with fail
        go_ret
        exact ⟨rfl, kw3.trans k4⟩
      · have hgt : decide ((1000 : Int) < (k : Int)) = false := by simp; omega
        go_wp2_with fail
        refine HALL.out.mono ?_
        rintro e w2 ⟨A6, n6, c6, rfl, hr6, k6⟩
        have hl6 : n6 = k - 1000 := by rw [← hr6.len]; simp
        subst hl6
        have hs2 := hs.kp k6
        have kw2 := kw.trans k6
        clear p0 p1 hs k6
        obtain ⟨p0, p1⟩ := hs2.one
        go_wp2_with fail
        refine (undo_len A1 n1 c1 w2).mono ?_
        rintro e w3 ⟨rfl, k3⟩
        have kw3 := kw2.trans k3
        obtain ⟨D, hD⟩ : ∃ D, D = k - 1000 := ⟨_, rfl⟩
        rw [← hD]
        have hb2 : ((D : Int) == (k : Int) - (k : Int)) = true := by simp; omega
        have hb3 : ((n1 : Int) == (k : Int)) = true := by have := HL1.out; simp; omega
        have hb4 : ((D : Int) == 0) = true := by simp; omega
        clear hD p0 p1 hs2 k3 hr6
        go_wp2_with fail
        refine (awake19 _).mono ?_
        rintro e w4 ⟨rfl, k4⟩
        go_wp2_with fail
        go_ret
        exact ⟨rfl, kw3.trans k4⟩
end Go.Proofs.Ytakbfppmgngdiaa
