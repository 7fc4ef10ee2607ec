/-
  typebarlaw47.StoreEntries: the walk. Conditions: the arguments can be read.
-/
import Derived.Test.YtcbachblhfkcoaaSt8
namespace Go.Proofs.Ytcbachblhfkcoaa
open Go.RowKit

set_option maxRecDepth 100000 in
set_option maxHeartbeats 3200000 in
theorem storeEntries_walk' (s : ByteArray) (hs : s.size ≤ maxLen) (A : Option Addr) (n c : Nat) (l : List Int) (w : World) (hl0 : Ru w Any A n c l) : Calls Try.prog 8 #[.string s, .slice A n c] w fun e w' => e = .returned (.bool true) ∧ Kp w w' := by
  unfold maxLen at hs
  have hle := hl0.le
  have hcp := hl0.cap
  obtain ⟨t, ht⟩ : ∃ t, t = cutS s 500 := ⟨_, rfl⟩
  have hts : t.size ≤ 500 := by rw [ht]; exact cutS_size s 500
  have hl := Ru.take hl0 (k := min n 60) (by omega)
  have HFEW := Lib.hid fun wx => few_any A n c 60 hle hcp (by omega) wx
  have hq60 : min n 60 ≤ 60 := by omega
  generalize l.take (min n 60) = x at *
  generalize min n 60 = q at *
  have hll := hl.len
  have hel : (entryM x).length ≤ 300 := by rw [entryM_len]; have := textM_len x; omega
  have HA := Lib.hid (append_any Any A q c x t w hl (by omega) (by omega) (by omega))
  have HE1 := Lib.hid fun wx (kk : Kp w wx) => entry_any Any A q c x wx (hl.kp kk) (by omega)
  have HE2 := Lib.hid fun wx (kk : Kp w wx) => entryR_any Any A q c x wx (hl.kp kk) (by omega)
  have hz : (bs (entryM x)).size ≤ 300 := by rw [bs_size]; exact hel
  have HTT := Lib.hid ht
  clear ht hll hel hl0 hl
  generalize bs (entryM x) = s2 at *
  go_enter Try.func8, Try.ntmps8
  go_upto_if 9 with fail
  go_cut [0] (fun v wx => v = .string t ∧ wx = w)
  case first =>
    by_cases h : 500 < s.size
    · have HT2 : Hid (t = s.extract 0 500) := by show _ = _; rw [HTT.out, cutS, if_pos h]
      have hi : (500 : Int) < (s.size : Int) := by omega
      go_wp2_with fail
      go_meet
      exact ⟨by rw [HT2.out], rfl⟩
    · have HT2 : Hid (t = s) := by show _ = _; rw [HTT.out, cutS, if_neg h]
      have hi : ¬ (500 : Int) < (s.size : Int) := by omega
      go_wp2_with fail
      go_meet
      exact ⟨by rw [HT2.out], rfl⟩
  case rest =>
    obtain ⟨rfl, hw⟩ := hcut
    replace hw := hw.symm
    subst hw
    go_wp2_with (go_at_call 14; refine (HFEW.out _).mono ?_; rintro e w' ⟨rfl, rfl⟩)
    refine HA.out.mono ?_
    rintro e w2 ⟨rfl, k2⟩
    go_wp2_with fail
    refine (HE1.out _ k2).mono ?_
    rintro e w3 ⟨rfl, k3⟩
    have kw3 := k2.trans k3
    go_wp2_with fail
    refine (HE2.out _ kw3).mono ?_
    rintro e w4 ⟨rfl, k4⟩
    have kw4 := kw3.trans k4
    have he1 : (s2.toList == s2.toList) = true := by simp
    go_wp2_with fail
    refine (HE2.out _ kw4).mono ?_
    rintro e w5 ⟨rfl, k5⟩
    have kw5 := kw4.trans k5
    have he2 : ((t ++ s2).toList == (t ++ s2).toList) = true := by simp
    go_wp2_with fail
    refine (awake47 w5).mono ?_
    rintro e w6 ⟨rfl, k6⟩
    go_wp2_with fail
    go_ret
    exact ⟨rfl, kw5.trans k6⟩
/-- As the frame asks it. -/
theorem storeEntries_walk {w0 : World} (s : ByteArray) (hs : s.size ≤ maxLen)
    (A : Option Addr) (n c : Nat) (l : List Int) (hl : Ru w0 Any A n c l) (_ : ∀ y ∈ l, (Lit.int .i32 y).wf = true) (w : World) (hw : w = w0 := by rfl) :
    Calls Try.prog 8 #[.string s, .slice A n c] w fun e w' => e = .returned (.bool true) ∧ Kp w w' := by
  subst hw
  exact storeEntries_walk' s hs A n c l w hl
end Go.Proofs.Ytcbachblhfkcoaa
