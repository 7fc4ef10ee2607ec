/-
  typebarlaw03.awake. No conditions.
-/
import Derived.Test.YtakbfppmgngdiaaTrieL
namespace Go.Proofs.Ytakbfppmgngdiaa
open Go.RowKit

def pcs1 : List (Pc Int) := [⟨10, 20, 7⟩]
theorem pcs1_a : getM pcs1 0 15 = 7 := rfl
theorem pcs1_b : getM pcs1 0 9 = 0 := rfl
theorem pcs1_c : (blocksM (getM pcs1 0) 300 (wideM 300)).length = 2 := by decide +kernel

theorem TrRI.kp {w w' : World} {tB : Nat} {size : Int} {f : Int → Int} (h : TrRI w tB size f) (k : Kp w w') : TrRI w' tB size f := by
  obtain ⟨a, IA, Ic, BA, Bc, h1, h2, h3, h4⟩ := h
  exact ⟨a, IA, Ic, BA, Bc, h1.kp k, h2.kp k, h3.kp k, h4⟩

set_option maxRecDepth 100000 in
set_option maxHeartbeats 1600000 in
theorem awake03 (w : World) : Calls Try.prog 44 #[] w fun e w' => e = .returned (.bool true) ∧ Kp w w' := by
  have B := buildI 300 0 (some ⟨w.heap.size, 0, none⟩) 1 1 pcs1 (w.alloc (.cells #[.int .i64 10, .int .i64 20, .int .i64 7] 101)) (Sl.new _ _ _ _ _ trivial rfl (by omega))
    (by intro p hp; simp only [pcs1, List.mem_singleton] at hp; subst hp; dsimp only; omega) (by intro p hp; simp only [pcs1, List.mem_singleton] at hp; subst hp; exact wfI64 (x := 7) (by omega) (by omega)) (wfI64 (by omega) (by omega)) (by omega) (by omega) (by omega)
  have HB := Lib.hid B
  have kw0 := (Kp.refl w).alloc (.cells #[.int .i64 10, .int .i64 20, .int .i64 7] 101)
  have G1 : ∀ tB wx, TrRI wx tB 300 (getM pcs1 0) → Calls Try.prog 43 #[.pointer (some ⟨tB, 0, none⟩), .int .i64 15] wx fun e w' => e = .returned (.int .i64 7) ∧ Kp wx w' := fun tB wx h => getI tB 300 (getM pcs1 0) 15 wx h
  have G2 : ∀ tB wx, TrRI wx tB 300 (getM pcs1 0) → Calls Try.prog 43 #[.pointer (some ⟨tB, 0, none⟩), .int .i64 9] wx fun e w' => e = .returned (.int .i64 0) ∧ Kp wx w' := fun tB wx h => getI tB 300 (getM pcs1 0) 9 wx h
  have G3 : ∀ tB wx, TrRI wx tB 300 (getM pcs1 0) → Calls Try.prog 45 #[.pointer (some ⟨tB, 0, none⟩)] wx fun e w' => e = .returned (.int .i64 2) ∧ Kp wx w' := fun tB wx h => by
    have := blocks_t tB 300 (getM pcs1 0) wx h
    rw [pcs1_c] at this
    exact this
  have HG1 := Lib.hid G1
  have HG2 := Lib.hid G2
  have HG3 := Lib.hid G3
  clear B G1 G2 G3
  go_enter Try.func44, Try.ntmps44
  go_upto_region 1 with fail
  go_upto_region 2 with (go_at_call 52; refine HB.out.mono ?_; rintro e w2 (⟨h1, _⟩ | ⟨_, tB, rfl, hT, k2⟩); exact absurd h1 (by omega))
  have kw := kw0.trans k2
  clear HB k2 kw0
  go_wp2_with (first
    | (go_at_call 43; refine (HG1.out tB _ hT).mono ?_; rintro e w3 ⟨rfl, k3⟩; have hT3 := hT.kp k3; have kw3 := kw.trans k3; clear hT kw k3)
    | (go_at_call 43; refine (HG2.out tB _ hT3).mono ?_; rintro e w4 ⟨rfl, k4⟩; have hT4 := hT3.kp k4; have kw4 := kw3.trans k4; clear hT3 kw3 k4)
    | (go_at_call 45; refine (HG3.out tB _ hT4).mono ?_; rintro e w5 ⟨rfl, k5⟩; have hT5 := hT4.kp k5; have kw5 := kw4.trans k5; clear hT4 kw4 k5)
    | (go_at_call 41; refine (len_t tB 300 (getM pcs1 0) _ hT5).mono ?_; rintro e w6 ⟨rfl, k6⟩; have kw6 := kw5.trans k6; clear hT5 kw5 k6))
  go_ret
  exact ⟨rfl, kw6⟩
end Go.Proofs.Ytakbfppmgngdiaa
