/-
  package store: read: the line whose entry a text is. Conditions: not more than 1000000 bytes.
-/
import Derived.Deep.QuietTactic
import Derived.BigQuiet
import Derived.WalkSpells
import Derived.Test.YtcbachblhfkcoaaSt4
namespace Go.Proofs.Ytcbachblhfkcoaa
open Go.RowKit

theorem check_q (s : ByteArray) (hs : s.size ≤ 1073741824) (w : World) : Calls Try.prog 51 #[.string s] w fun e w' => e = .returned (.string (bs (chk2 (by8 s)))) ∧ ∃ k, w' = w.drewN k :=
  (check_any s hs w).mono fun _ _ ⟨he, hd⟩ => ⟨he, hd⟩

set_option maxRecDepth 100000 in
set_option maxHeartbeats 3200000 in
theorem read_any (s : ByteArray) (hs : s.size ≤ 1000000) (w : World) : Calls Try.prog 55 #[.string s] w (RetO (slM (by8 s)) w) := by
  have hlen := by8_length s
  by_cases h3 : s.size < 3
  · have HE : Hid (slM (by8 s) = none) := by show _ = _; unfold slM; rw [if_neg (by omega)]
    have h3i : (s.size : Int) < 3 := by omega
    clear hlen
    go_enter Try.func55, Try.ntmps55
    go_wp2_with fail
    go_quiet (fail)
    go_wp2_with fail
    go_ret2
    rw [HE.out]
    exact ⟨none, 0, 0, rfl, (fun l h => by cases h), (Kp.refl _).drewN _⟩
  · obtain ⟨x, hx⟩ : ∃ x, x = (by8 s)[2]?.getD 0 := ⟨_, rfl⟩
    have hrix := fun wx : World => run_index_str (P := Try.prog) wx 9 s .i64 2 2 Try.underlying9 rfl (by omega) x hx.symm
    have h3i : decide ((s.size : Int) < 3) = false := decide_eq_false (by omega)
    have h2i : (2 : Int) ≤ (s.size : Int) := by omega
    have h3j : (3 : Int) ≤ (s.size : Int) := by omega
    by_cases hx32 : x = 32
    · subst hx32
      have hs3 : (s.extract 3 s.size).size ≤ 1073741824 := by rw [ByteArray.size_extract]; omega
      have HC := Lib.hid fun wx => check_q (s.extract 3 s.size) hs3 wx
      rw [by8_from] at HC
      obtain ⟨bb, hbb⟩ : ∃ bb : Bool, bb = decide ((by8 s).take 2 = chk2 ((by8 s).drop 3)) := ⟨_, rfl⟩
      have he2 : by8 (s.extract 0 2) = (by8 s).take 2 := by rw [by8_extract, List.drop_zero]
      have hEQ : ((bs (chk2 ((by8 s).drop 3))).toList == (s.extract 0 2).toList) = bb := by
        rw [str_eq, hbb, ← bs_by8 (s.extract 0 2), he2]
        rw [decide_eq_decide, eq_comm]
        exact bs_inj (by rw [← he2]; exact by8_bd _) (chk2_bd _)
      have HP := Lib.hid fun wx => plain_any (s.extract 3 s.size) (by rw [ByteArray.size_extract]; omega) wx
      rw [by8_from] at HP
      have HSL : Hid (slM (by8 s) = if bb = true then plM ((by8 s).drop 3) else none) := by
        show _ = _
        rw [hbb]
        unfold slM plM
        by_cases hc : (by8 s).take 2 = chk2 ((by8 s).drop 3)
        · rw [if_pos (show 3 ≤ (by8 s).length ∧ (by8 s)[2]?.getD 0 = 32 ∧ (by8 s).take 2 = chk2 ((by8 s).drop 3) from ⟨by omega, hx.symm, hc⟩), if_pos (by simpa using hc)]
          rfl
        · rw [if_neg (show ¬ (3 ≤ (by8 s).length ∧ (by8 s)[2]?.getD 0 = 32 ∧ (by8 s).take 2 = chk2 ((by8 s).drop 3)) from fun e => hc e.2.2), if_neg (by simpa using hc)]
      clear hbb he2 hlen hx hs3
      generalize bs (chk2 ((by8 s).drop 3)) = s1 at *
      cases bb with
      | true =>
        have HS1 : Hid (slM (by8 s) = plM ((by8 s).drop 3)) := by show _ = _; rw [HSL.out]; rfl
        clear HSL
        go_enter Try.func55, Try.ntmps55
        go_wp2_with fail
        go_quiet ((go_at_call 51; exact Calls.quiet_of (HC.out _)))
        go_wp2_with (go_at_call 76; refine (HP.out _).mono ?_; rintro e w3 ⟨A3, n3, c3, rfl, hr3, k3⟩)
        go_ret2
        rw [HS1.out]
        exact ⟨A3, n3, c3, rfl, fun l hl => (hr3 l hl).weak fun g _ hg => by unfold From at *; have := k3.size; simp at hg; omega, ((Kp.refl _).drewN _).trans k3⟩
      | false =>
        have HS1 : Hid (slM (by8 s) = none) := by show _ = _; rw [HSL.out]; rfl
        clear HSL
        go_enter Try.func55, Try.ntmps55
        go_wp2_with fail
        go_quiet ((go_at_call 51; exact Calls.quiet_of (HC.out _)))
        go_wp2_with fail
        go_ret2
        rw [HS1.out]
        exact ⟨none, 0, 0, rfl, (fun l h => by cases h), (Kp.refl _).drewN _⟩
    · have HE : Hid (slM (by8 s) = none) := by show _ = _; unfold slM; rw [if_neg (fun h => hx32 (hx.trans h.2.1))]
      have hb : (x != 32) = true := by simpa using hx32
      clear hlen hx hx32
      go_enter Try.func55, Try.ntmps55
      go_wp2_with fail
      go_quiet (fail)
      go_wp2_with fail
      go_ret2
      rw [HE.out]
      exact ⟨none, 0, 0, rfl, (fun l h => by cases h), (Kp.refl _).drewN _⟩
end Go.Proofs.Ytcbachblhfkcoaa
