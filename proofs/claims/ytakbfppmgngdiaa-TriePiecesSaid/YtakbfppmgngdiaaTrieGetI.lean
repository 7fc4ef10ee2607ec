/-
  Package trie at int: Get: what a number has. Conditions: the trie came from Build.
-/
import Derived.Test.YtakbfppmgngdiaaTrieBuildI
namespace Go.Proofs.Ytakbfppmgngdiaa
open Go.RowKit

theorem getNilI (i : Int) (w : World) : Calls Try.prog 43 #[.pointer none, .int .i64 i] w fun e w' => e = .returned (.int .i64 0) ∧ Kp w w' := by
  go_enter Try.func43, Try.ntmps43
  go_wp2_with fail
  go_ret
  exact ⟨rfl, .refl _⟩

set_option maxHeartbeats 1600000 in
theorem getID (tB : Nat) (size : Int) (f : Int → Int) (i : Int) (w : World) (h : TrRI w tB size f) :
    Calls Try.prog 43 #[.pointer (some ⟨tB, 0, none⟩), .int .i64 i] w fun e w' => e = .returned ((Value.int .i64) (if 0 ≤ i ∧ i < size then f i else 0)) ∧ Dr w w' := by
  obtain ⟨a, IA, Ic, BA, Bc, hb, hI, hB, h1, h2, h3, h4⟩ := h
  obtain ⟨b0, b1, b2, _, _, _⟩ := hb.three
  by_cases hi0 : i < 0
  · rw [if_neg (by omega)]
    go_enter Try.func43, Try.ntmps43
    go_wp2_with fail
    go_ret
    exact ⟨rfl, Dr.refl _⟩
  · by_cases hi1 : size ≤ i
    · rw [if_neg (by omega)]
      go_enter Try.func43, Try.ntmps43
      go_wp2_with fail
      go_ret
      exact ⟨rfl, Dr.refl _⟩
    · rw [if_pos (by omega)]
      obtain ⟨j, rfl⟩ := Int.eq_ofNat_of_zero_le (Int.not_lt.1 hi0)
      have hja : j / 128 < a := by omega
      have hg := trie_get f size (i := j) (a := a) (by omega) hja
      have hk := idxM_lt (f := f) (size := size) hja
      have hkg := idxM_get (f := f) (size := size) hja
      rw [hkg, Option.bind_some] at hg
      obtain ⟨ia, rfl, _, _, hic⟩ := hI.at_ (by omega)
      obtain ⟨ba, rfl, _, _, hbc⟩ := hB.at_ (by omega)
      have ci : w.cell? (ia.add (j / 128)) = some (.int .i64 (idxM f size (j / 128) : Int)) := hic _ _ (by unfold ixs; rw [List.getElem?_map, List.getElem?_range hja]; rfl)
      have cb : w.cell? (ba.add (idxM f size (j / 128) * 128 + j % 128)) = some ((Value.int .i64) (f (j : Int))) := hbc _ _ (by
        unfold cellsB
        rw [List.getElem?_map, flat_get (blocksM_wide f size a) hkg (by omega), hg]
        rfl)
      have hq : IntKind.i64.wrap ((j : Int) / 128) = ((j / 128 : Nat) : Int) := by rw [wrapS (by omega) (by omega)]; rfl
      have hr : (j : Int).tmod 128 = ((j % 128 : Nat) : Int) := by rw [Int.tmod_eq_emod_of_nonneg (by omega)]; rfl
      have hm : j % 128 < 128 := by omega
      rw [← add_add] at cb
      generalize idxM f size (j / 128) = k at *
      generalize hbn : (blocksM f size a).length = bn at *
      generalize f (j : Int) = y at *
      generalize hjq : j / 128 = jq at *
      generalize hjr : j % 128 = jr at *
      have hm0 : (0 : Int) ≤ (jr : Int) := by omega
      have hm1 : (jr : Int) < 128 := by omega
      have HQ := Lib.hid hjq
      have HR := Lib.hid hjr
      clear hkg hg hI hB hic hbc hb hbn hjq hjr
      go_enter Try.func43, Try.ntmps43
      go_upto_region 4 with fail
      go_quiet (fail)
      go_wp2_with fail
      go_ret
      exact ⟨rfl, ⟨_, rfl⟩⟩
theorem getI (tB : Nat) (size : Int) (f : Int → Int) (i : Int) (w : World) (h : TrRI w tB size f) :
    Calls Try.prog 43 #[.pointer (some ⟨tB, 0, none⟩), .int .i64 i] w fun e w' => e = .returned ((Value.int .i64) (if 0 ≤ i ∧ i < size then f i else 0)) ∧ Kp w w' :=
  (getID tB size f i w h).mono fun _ _ h => ⟨h.1, h.2.kp⟩
end Go.Proofs.Ytakbfppmgngdiaa
