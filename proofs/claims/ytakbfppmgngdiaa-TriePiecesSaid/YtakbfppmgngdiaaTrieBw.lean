/-
  TrieBlocks, the walk. Conditions: the arguments can be read.
-/
import Derived.Test.YtakbfppmgngdiaaTrieBk
namespace Go.Proofs.Ytakbfppmgngdiaa
open Go.RowKit

theorem blocks_ret (size z : Int) (l : List (Pc Int)) (N : Nat) (hN : N ≤ 7) (hs : size = 128 * (N : Int)) (e : Ending) (w w1 : World) (h : RetBuildI w size (getM l z) e w1) :
    ∃ p, e = .returned (.pointer p) ∧ Kp w w1 ∧ ∀ w2, Kp w1 w2 → Calls Try.prog 45 #[.pointer p] w2 fun e w' => e = .returned (.int .i64 (countM (getM l z) N : Int)) ∧ Kp w2 w' := by
  rcases h with ⟨h1, rfl, k⟩ | ⟨h1, tB, rfl, hT, k⟩
  · have h0 : N = 0 := by omega
    subst h0
    exact ⟨none, rfl, k, fun w2 _ => blocks_nil w2⟩
  · refine ⟨_, rfl, k, fun w2 k2 => ?_⟩
    have hw : wideM size = N := by unfold wideM; omega
    have := blocks_t tB size (getM l z) w2 (hT.kp k2)
    rw [hw, countM_blocks _ _ _ (by omega)] at this
    exact this

set_option maxRecDepth 100000 in
set_option maxHeartbeats 1600000 in
theorem trieBlocks_walk' (x0 : Int) (x1 : Int) (wf1 : (Lit.int .i64 x1).wf = true) (A : Option Addr) (n c : Nat) (l : List (Pc Int)) (w : World) (hP : Pcs (Value.int .i64) w A n c l) (hl : PcOks l) :
    Calls Try.prog 11 #[.int .i64 x0, .int .i64 x1, .slice A n c] w fun e w' => e = .returned (.bool true) ∧ Kp w w' := by
  obtain ⟨r, hr, hb⟩ := and_below x0 3 (by omega)
  have hb' : bits .and .i64 x0 7 = (r : Int) := hb
  clear hb
  have hr' : r < 8 := hr
  clear hr
  have hfew := few03 A n c l w hP
  have hl30 := hl.take 30
  obtain ⟨l', hl'⟩ : ∃ l', l' = l.take 30 := ⟨_, rfl⟩
  rw [← hl'] at hfew hl30
  have HF := Lib.hid hfew
  have HL := Lib.hid hl30
  have HW1 := Lib.hid wf1
  clear hP hl wf1 hfew hl30 hl'
  obtain ⟨sz, hsz⟩ : ∃ sz : Int, sz = 128 * (r : Int) := ⟨_, rfl⟩
  have hwr : IntKind.i64.wrap (128 * (r : Int)) = sz := by rw [wrapS (by omega) (by omega), hsz]
  have HSZ := Lib.hid hsz
  clear hsz
  go_enter Try.func11, Try.ntmps11
  go_upto_region 2 with fail
  go_upto_region 3 with (go_at_call 39; refine HF.out.mono ?_; rintro e w1 ⟨m, rfl, hm, hP1, k1⟩)
  clear HF
  have HM := Lib.hid (made03 sz x1 A m c l' w1 hP1 HL.out.ok HL.out.wf HW1.out (by omega) (by have := HSZ.out; omega) (by have := HSZ.out; omega))
  have HB := Lib.hid fun (wx : World) (k : Kp w1 wx) => refBlocks A m c l' x1 r wx (hP1.kp k) (by omega) (by omega)
  rw [← HSZ.out] at HB
  have HBR := Lib.hid fun e w1 w2 => blocks_ret sz x1 l' r (by omega) HSZ.out e w1 w2
  obtain ⟨q, hq⟩ : ∃ q, q = countM (getM l' x1) r := ⟨_, rfl⟩
  rw [← hq] at HB HBR
  clear hq hP1
  go_wp2_with (first
    | (go_at_call 40; refine HM.out.mono ?_; intro e w2 hret; obtain ⟨p, rfl, k2, hbl⟩ := HBR.out e _ _ hret; have HBL := Lib.hid hbl; clear hbl hret HM HBR)
    | (go_at_call 45; refine (HBL.out _ (.refl _)).mono ?_; rintro e w3 ⟨rfl, k3⟩; clear HBL)
    | (go_at_call 46; refine (HB.out _ (k2.trans k3)).mono ?_; rintro e w4 ⟨rfl, k4⟩)
    | (go_at_call 44; refine (awake03 _).mono ?_; rintro e w5 ⟨rfl, k5⟩))
  go_ret
  exact ⟨rfl, (((k1.trans k2).trans k3).trans k4).trans k5⟩

theorem trieBlocks_walk {w0 : World} (x0 : Int) (_ : (Lit.int .i64 x0).wf = true) (x1 : Int) (wf1 : (Lit.int .i64 x1).wf = true) (A : Option Addr) (n c : Nat) (l : List (Pc Int)) (hP : Pcs (Value.int .i64) w0 A n c l) (hl : PcOks l) (w : World) (hw : w = w0 := by rfl) :
    Calls Try.prog 11 #[.int .i64 x0, .int .i64 x1, .slice A n c] w fun e w' => e = .returned (.bool true) ∧ Kp w w' := by
  subst hw
  exact trieBlocks_walk' x0 x1 wf1 A n c l w hP hl
end Go.Proofs.Ytakbfppmgngdiaa
