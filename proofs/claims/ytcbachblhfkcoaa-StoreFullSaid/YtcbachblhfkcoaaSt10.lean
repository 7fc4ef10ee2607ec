/-
  typebarlaw47.StoreFull: the walk; Append where the limit stands against it. No conditions.
-/
import Derived.Laws.MakeOwn
import Derived.Test.YtcbachblhfkcoaaSt8
import Derived.Test.YtcbachblhfkcoaaBits
namespace Go.Proofs.Ytcbachblhfkcoaa
open Go.RowKit

set_option maxRecDepth 100000 in
set_option maxHeartbeats 1600000 in
/-- Append: no room. -/
theorem append_full (F : Nat → Prop) (A : Option Addr) (n c : Nat) (l : List Int) (s : ByteArray) (w : World) (hl : Ru w F A n c l) (hn : n ≤ 100000) (hfit : 1048576 < s.size + (entryM l).length) :
    Calls Try.prog 27 #[.string s, .slice A n c] w fun e w' => e = .returned (.tuple #[.string s, .int .i64 3]) ∧ Kp w w' := by
  have HE := Lib.hid (entry_any F A n c l w hl hn)
  have hz : (bs (entryM l)).size = (entryM l).length := bs_size _
  generalize bs (entryM l) = s2 at *
  have hz2 : s2.size ≤ 1000000 := by rw [hz, entryM_len]; have := textM_len l; have := hl.len; omega
  have hg : decide ((1048576 : Int) - (s2.size : Int) < (s.size : Int)) = true := decide_eq_true (by omega)
  clear hl hfit hz
  go_enter Try.func27, Try.ntmps27
  go_wp2_with (go_at_call 28; refine HE.out.mono ?_; rintro e w2 ⟨rfl, k2⟩)
  go_ret2
  exact ⟨rfl, k2⟩

theorem made_u8 (N : Nat) : (madeCells #[.int .u8 0] N).toList = u8s (List.replicate N 0) := by
  unfold madeCells u8s
  apply List.ext_getElem
  · simp
  · intro i h1 h2
    simp
    rw [show i % 1 = 0 by omega]
    rfl
theorem make_u8 (N : Nat) (hN : N ≤ 2000000) (wx : World) : (Instr.makeSlice 61 (.int .i64 (N : Int)) (.int .i64 (N : Int))).run Try.prog wx = .ok (.slice (some ⟨wx.heap.size, 0, none⟩) N N) (wx.alloc (.cells (madeCells #[.int .u8 0] N) 5)) := by
  obtain ⟨i, hi, hz, hsize, hby⟩ := info_parts infoU8
  have h := run_make (P := Try.prog) wx 61 5 i (.int .u8 0) Try.underlying61 hi hz .i64 .i64 (N : Int) (N : Int) (by omega) (by omega) (by rw [hby]; omega) (by omega)
  simp only [Int.toNat_natCast, hsize, Nat.mul_one] at h
  exact h

set_option maxRecDepth 100000 in
set_option maxHeartbeats 3200000 in
theorem storeFull_walk (n0 : Int) (_ : (Lit.int .i64 n0).wf = true) (w : World) : Calls Try.prog 10 #[.int .i64 n0] w fun e w' => e = .returned (.bool true) ∧ Kp w w' := by
  obtain ⟨r, hr, hb⟩ := and_below n0 4 (by omega)
  have hb' : bits .and .i64 n0 15 = (r : Int) := hb
  clear hb
  have hr16 : r < 16 := hr
  clear hr
  obtain ⟨N, hN⟩ : ∃ N : Nat, N = 1048568 + r := ⟨_, rfl⟩
  have hmk : ∀ wx, (Instr.makeSlice 61 (.int .i64 (1048568 + (r : Int))) (.int .i64 (1048568 + (r : Int)))).run Try.prog wx = .ok (.slice (some ⟨wx.heap.size, 0, none⟩) N N) (wx.alloc (.cells (madeCells #[.int .u8 0] N) 5)) := fun wx => by
    have h := make_u8 N (by omega) wx
    rw [show ((N : Nat) : Int) = 1048568 + (r : Int) by omega] at h
    exact h
  have hcv : (convert 61 9 (.slice (some ⟨w.heap.size, 0, none⟩) N N)).run Try.prog (w.alloc (.cells (madeCells #[.int .u8 0] N) 5)) = .ok (.string (bs (List.replicate N 0))) (w.alloc (.cells (madeCells #[.int .u8 0] N) 5)) := by
    have hsl := Sl.new (F := Any) w (madeCells #[.int .u8 0] N) 5 1 N trivial (by rw [size_madeCells]; omega) (by omega)
    rw [made_u8] at hsl
    exact conv_sl _ _ _ _ Try.underlying61 Try.underlying5 Try.underlying9 hsl (by intro b hb; rw [List.mem_replicate] at hb; omega)
  have hz : (bs (List.replicate N 0)).size = N := by rw [bs_size]; simp
  have k1 := (Kp.refl w).alloc (.cells (madeCells #[.int .u8 0] N) 5)
  generalize bs (List.replicate N 0) = s1 at *
  have he8 : (entryM [97, 98, 99, 100]).length = 8 := by decide +kernel
  have hz2 : (bs (entryM [97, 98, 99, 100])).size = 8 := by rw [bs_size]; exact he8
  have hru : ∀ wx : World, Ru (wx.alloc (.cells #[.int .i32 97, .int .i32 98, .int .i32 99, .int .i32 100] 21)) Any (some ⟨wx.heap.size, 0, none⟩) 4 4 [97, 98, 99, 100] := fun wx => Ru.new wx Any trivial [97, 98, 99, 100] 21 4 rfl (by omega)
  have HE := Lib.hid fun wx => entryR_any Any (some ⟨wx.heap.size, 0, none⟩) 4 4 [97, 98, 99, 100] (wx.alloc (.cells #[.int .i32 97, .int .i32 98, .int .i32 99, .int .i32 100] 21)) (hru wx) (by omega)
  by_cases hr0 : r = 0
  · have HA := Lib.hid fun wx => append_any Any (some ⟨wx.heap.size, 0, none⟩) 4 4 [97, 98, 99, 100] s1 (wx.alloc (.cells #[.int .i32 97, .int .i32 98, .int .i32 99, .int .i32 100] 21)) (hru wx) (by omega) (by omega) (by omega)
    have hd : decide ((1048576 : Int) < (s1.size : Int) + 8) = false := decide_eq_false (by omega)
    have hzs : s1.size ≤ 2000000 := by omega
    clear hz hN hru he8 hr0
    generalize bs (entryM [97, 98, 99, 100]) = s2 at *
    have hri : (0 : Int) ≤ (r : Int) := by omega
    have hri2 : (r : Int) < 16 := by omega
    clear hr16
    go_enter Try.func10, Try.ntmps10
    go_wp2_with fail
    have hz1 : (w.alloc (.cells (madeCells #[.int .u8 0] N) 5)).heap.size = w.heap.size + 1 := by simp
    generalize w.alloc (.cells (madeCells #[.int .u8 0] N) 5) = w1 at *
    rw [← hz1]
    clear hz1 hmk hcv
    refine (HE.out w1).mono ?_
    rintro e w2 ⟨rfl, k2⟩
    have kw2 := (k1.alloc _).trans k2
    clear k2 k1
    go_wp2_with fail
    refine (HA.out w2).mono ?_
    rintro e w3 ⟨rfl, k3⟩
    have kw3 := (kw2.alloc _).trans k3
    clear k3 kw2
    go_wp2_with fail
    refine (awake47 w3).mono ?_
    rintro e w4 ⟨rfl, k4⟩
    go_wp2_with fail
    go_ret
    exact ⟨rfl, kw3.trans k4⟩
  · have HA := Lib.hid fun wx => append_full Any (some ⟨wx.heap.size, 0, none⟩) 4 4 [97, 98, 99, 100] s1 (wx.alloc (.cells #[.int .i32 97, .int .i32 98, .int .i32 99, .int .i32 100] 21)) (hru wx) (by omega) (by omega)
    have hd : decide ((1048576 : Int) < (s1.size : Int) + 8) = true := decide_eq_true (by omega)
    have hzs : s1.size ≤ 2000000 := by omega
    clear hz hN hru he8 hr0
    generalize bs (entryM [97, 98, 99, 100]) = s2 at *
    have hri : (0 : Int) ≤ (r : Int) := by omega
    have hri2 : (r : Int) < 16 := by omega
    clear hr16
    go_enter Try.func10, Try.ntmps10
    go_wp2_with fail
    have hz1 : (w.alloc (.cells (madeCells #[.int .u8 0] N) 5)).heap.size = w.heap.size + 1 := by simp
    generalize w.alloc (.cells (madeCells #[.int .u8 0] N) 5) = w1 at *
    rw [← hz1]
    clear hz1 hmk hcv
    refine (HE.out w1).mono ?_
    rintro e w2 ⟨rfl, k2⟩
    have kw2 := (k1.alloc _).trans k2
    clear k2 k1
    go_wp2_with fail
    refine (HA.out w2).mono ?_
    rintro e w3 ⟨rfl, k3⟩
    have kw3 := (kw2.alloc _).trans k3
    clear k3 kw2
    go_wp2_with fail
    refine (awake47 w3).mono ?_
    rintro e w4 ⟨rfl, k4⟩
    go_wp2_with fail
    go_ret
    exact ⟨rfl, kw3.trans k4⟩
end Go.Proofs.Ytcbachblhfkcoaa
