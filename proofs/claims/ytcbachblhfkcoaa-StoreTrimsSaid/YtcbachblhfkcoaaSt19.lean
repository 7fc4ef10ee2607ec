/-
  The walk of the statement StoreTrims.
-/
import Derived.Test.YtcbachblhfkcoaaSt18
import Derived.Test.YtcbachblhfkcoaaSt8
namespace Go.Proofs.Ytcbachblhfkcoaa
open Go.RowKit

set_option maxRecDepth 100000 in
set_option maxHeartbeats 3200000 in
theorem storeTrims_walk (a : ByteArray) (ha : a.size ≤ maxLen) (b : ByteArray) (hb : b.size ≤ maxLen) (n : Int) (_ : (Lit.int .i64 n).wf = true) (w : World) : Calls Try.prog 12 #[.string a, .string b, .int .i64 n] w fun e w' => e = .returned (.bool true) ∧ Kp w w' := by
  unfold maxLen at ha hb
  obtain ⟨s, hs⟩ : ∃ s, s = cutS a 400 := ⟨_, rfl⟩
  obtain ⟨t, ht⟩ : ∃ t, t = cutS b 400 := ⟨_, rfl⟩
  have hss : s.size ≤ 400 := by rw [hs]; exact cutS_size a 400
  have hts : t.size ≤ 400 := by rw [ht]; exact cutS_size b 400
  have HT := Lib.hid fun wx => trim_any s (by omega) n wx
  have HTR := Lib.hid fun wx => trimR_any s (by omega) n wx
  have HM := Lib.hid fun wx => merge_any s t (by omega) (by omega) wx
  have HMR := Lib.hid fun wx => mergeR_any s t (by omega) (by omega) wx
  generalize bs (allM ((readF (by8 s)).1.drop (dropN (readF (by8 s)).1.length n))) = x1 at *
  generalize bs (allM (keepM ((readF (by8 s)).1 ++ (readF (by8 t)).1) ((readF (by8 s)).1 ++ (readF (by8 t)).1).length)) = x2 at *
  have HSS := Lib.hid hs
  have HTT := Lib.hid ht
  clear hs ht
  go_enter Try.func12, Try.ntmps12
  go_upto_if 11 with fail
  go_cut [0] (fun v wx => v = .string s ∧ wx = w)
  case first =>
    by_cases h : 400 < a.size
    · have HT2 : Hid (s = a.extract 0 400) := by show _ = _; rw [HSS.out, cutS, if_pos h]
      have hi : (400 : Int) < (a.size : Int) := by omega
      go_wp2_with fail
      go_meet
      exact ⟨by rw [HT2.out], rfl⟩
    · have HT2 : Hid (s = a) := by show _ = _; rw [HSS.out, cutS, if_neg h]
      have hi : ¬ (400 : Int) < (a.size : Int) := by omega
      go_wp2_with fail
      go_meet
      exact ⟨by rw [HT2.out], rfl⟩
  case rest =>
    obtain ⟨rfl, hw⟩ := hcut
    replace hw := hw.symm
    subst hw
    go_upto_if 16 with fail
    go_cut [1] (fun v wx => v = .string t ∧ wx = w)
    case first =>
      by_cases h : 400 < b.size
      · have HT2 : Hid (t = b.extract 0 400) := by show _ = _; rw [HTT.out, cutS, if_pos h]
        have hi : (400 : Int) < (b.size : Int) := by omega
        go_wp2_with fail
        go_meet
        exact ⟨by rw [HT2.out], rfl⟩
      · have HT2 : Hid (t = b) := by show _ = _; rw [HTT.out, cutS, if_neg h]
        have hi : ¬ (400 : Int) < (b.size : Int) := by omega
        go_wp2_with fail
        go_meet
        exact ⟨by rw [HT2.out], rfl⟩
    case rest =>
      obtain ⟨rfl, hw⟩ := hcut
      replace hw := hw.symm
      subst hw
      go_wp2_with fail
      refine (HM.out w).mono ?_
      rintro e w2 ⟨rfl, k2⟩
      have hxx1 : (x1.toList == x1.toList) = true := by simp
      have hxx2 : (x2.toList == x2.toList) = true := by simp
      go_wp2_with fail
      refine (HT.out w2).mono ?_
      rintro e w3 ⟨rfl, k3⟩
      go_wp2_with fail
      refine (HTR.out w3).mono ?_
      rintro e w4 ⟨rfl, k4⟩
      go_wp2_with fail
      refine (HMR.out w4).mono ?_
      rintro e w5 ⟨rfl, k5⟩
      go_wp2_with fail
      refine (awake47 w5).mono ?_
      rintro e w6 ⟨rfl, k6⟩
      go_wp2_with fail
      go_ret
      exact ⟨rfl, (((k2.trans k3).trans k4).trans k5).trans k6⟩
end Go.Proofs.Ytcbachblhfkcoaa
