/-
  typebarlaw01.awake: chapter 1's examples: it returns true. No conditions.
-/
import Derived.Test.YtmeefngkbcfpeaaUtfRD
import Derived.Test.YtmeefngkbcfpeaaUtfLaw
namespace Go.Proofs.Ytmeefngkbcfpeaa
open Go.RowKit

theorem ex1 : decodeM (by8 ⟨#[226, 130, 172]⟩) = [8364] := by decide +kernel
theorem ex2 : decodeM (by8 ⟨#[226, 130, 65]⟩) = [65533, 65] := by decide +kernel
theorem ex3 : decodeM (by8 ⟨#[240, 128]⟩) = [65533, 65533] := by decide +kernel
theorem sameB_refl (xs : List Int) : sameB xs xs = true := (sameB_iff _ _).2 rfl

set_option maxHeartbeats 1600000 in
theorem awake01 (w : World) : Calls Try.prog 16 #[] w fun e w' => e = .returned (.bool true) ∧ Kp w w' := by
  go_enter Try.func16, Try.ntmps16
  go_wp2_with fail
  refine (decode_any ⟨#[226, 130, 172]⟩ (by decide) w).mono ?_
  rintro e w1 ⟨A1, n1, c1, rfl, hr1, hk1⟩
  rw [ex1] at hr1
  go_wp2_with fail
  refine (same_any _ Any A1 _ n1 c1 1 1 [8364] [8364] _ (Sl.alloc hr1 _) (Ru.one_at _ Any w1.heap.size rfl trivial 8364 _)).mono ?_
  rintro e w2 ⟨rfl, hd2⟩
  rw [sameB_refl]
  have k2 : Kp w w2 := (hk1.alloc _).trans hd2.kp
  clear hd2 hk1 hr1
  go_wp2_with fail
  refine (decode_any ⟨#[226, 130, 65]⟩ (by decide) w2).mono ?_
  rintro e w3 ⟨A3, n3, c3, rfl, hr3, hk3⟩
  rw [ex2] at hr3
  go_wp2_with fail
  refine (same_any _ Any A3 _ n3 c3 2 2 [65533, 65] [65533, 65] _ (Sl.alloc hr3 _) (Ru.two_at _ Any w3.heap.size rfl trivial 65533 65 _)).mono ?_
  rintro e w4 ⟨rfl, hd4⟩
  rw [sameB_refl]
  have k4 : Kp w w4 := ((k2.trans hk3).alloc _).trans hd4.kp
  clear hd4 hk3 hr3 k2
  go_wp2_with fail
  refine (decode_any ⟨#[240, 128]⟩ (by decide) w4).mono ?_
  rintro e w5 ⟨A5, n5, c5, rfl, hr5, hk5⟩
  rw [ex3] at hr5
  go_wp2_with fail
  refine (same_any _ Any A5 _ n5 c5 2 2 [65533, 65533] [65533, 65533] _ (Sl.alloc hr5 _) (Ru.two_at _ Any w5.heap.size rfl trivial 65533 65533 _)).mono ?_
  rintro e w6 ⟨rfl, hd6⟩
  rw [sameB_refl]
  have k6 : Kp w w6 := ((k4.trans hk5).alloc _).trans hd6.kp
  go_wp2_with fail
  go_ret
  exact ⟨rfl, k6⟩

/-- UtfDecodes: the walk. -/
theorem utfDecodes_walk (s : ByteArray) (_hs : s.size ≤ maxLen) (w : World) : Calls Try.prog 3 #[.string s] w fun e w' => e = .returned (.bool true) ∧ Kp w w' := by
  by_cases hl : 5000 < s.size
  · have ht : (s.extract 0 5000).size ≤ 1073741824 := by rw [ByteArray.size_extract]; omega
    go_enter Try.func3, Try.ntmps3
    go_wp2_with fail
    refine (decode_any (s.extract 0 5000) ht w).mono ?_
    rintro e w1 ⟨A1, n1, c1, rfl, hr1, hk1⟩
    go_wp2_with fail
    refine (refDecode_any (s.extract 0 5000) ht w1).mono ?_
    rintro e w2 ⟨A2, n2, c2, rfl, hr2, hk2⟩
    rw [decode_law] at hr1
    go_wp2_with fail
    refine (same_any _ _ A1 A2 n1 c1 n2 c2 _ _ _ (Sl.kp hr1 hk2) hr2).mono ?_
    rintro e w3 ⟨rfl, hd3⟩
    rw [sameB_refl]
    have k3 := (hk1.trans hk2).trans hd3.kp
    clear hd3 hr1 hr2 hk1 hk2
    go_wp2_with fail
    refine (awake01 w3).mono ?_
    rintro e w4 ⟨rfl, hk4⟩
    go_wp2_with fail
    go_ret
    exact ⟨rfl, k3.trans hk4⟩
  · have ht : s.size ≤ 1073741824 := by omega
    go_enter Try.func3, Try.ntmps3
    go_wp2_with fail
    refine (decode_any s ht w).mono ?_
    rintro e w1 ⟨A1, n1, c1, rfl, hr1, hk1⟩
    go_wp2_with fail
    refine (refDecode_any s ht w1).mono ?_
    rintro e w2 ⟨A2, n2, c2, rfl, hr2, hk2⟩
    rw [decode_law] at hr1
    go_wp2_with fail
    refine (same_any _ _ A1 A2 n1 c1 n2 c2 _ _ _ (Sl.kp hr1 hk2) hr2).mono ?_
    rintro e w3 ⟨rfl, hd3⟩
    rw [sameB_refl]
    have k3 := (hk1.trans hk2).trans hd3.kp
    clear hd3 hr1 hr2 hk1 hk2
    go_wp2_with fail
    refine (awake01 w3).mono ?_
    rintro e w4 ⟨rfl, hk4⟩
    go_wp2_with fail
    go_ret
    exact ⟨rfl, k3.trans hk4⟩
end Go.Proofs.Ytmeefngkbcfpeaa
