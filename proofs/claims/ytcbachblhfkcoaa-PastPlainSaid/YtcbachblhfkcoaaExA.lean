/-
  package past: head, number, begins, has; slices.Index at runes. Conditions: the slices can be read, and are not too long.
-/
import Derived.Deep.LoopGhost
import Derived.Deep.RegionLaw
import Derived.BigQuiet
import Derived.IntWalk
import Derived.Test.YtcbachblhfkcoaaExM
import Derived.Test.YtcbachblhfkcoaaClone
namespace Go.Proofs.Ytcbachblhfkcoaa
open Go.RowKit

theorem wrapS {x : Int} (h1 : -9223372036854775808 ≤ x) (h2 : x ≤ 9223372036854775807) : IntKind.i64.wrap x = x := by rw [IntKind.wrap_i64]; omega

set_option maxHeartbeats 1600000 in
theorem head_any (F : Nat → Prop) (A : Option Addr) (n c : Nat) (s : List Int) (w : World) (h : Ru w F A n c s) (hn : n ≤ 1099511627776) :
    Calls Try.prog 65 #[.slice A n c] w fun e w' => e = .returned (.int .i64 (spanG wordP s : Int)) ∧ Dr w w' := by
  have hlen := h.len
  have hle := h.le
  have hcp := h.cap
  unfold maxLen at hcp
  go_enter Try.func65, Try.ntmps65
  go_wp2_with fail
  go_loopg [3] n (fun g iv wr => ∃ (k : Nat), k + g = n ∧ iv = .int .i64 k ∧ Hid (spanG wordP s = k + spanG wordP (s.drop k)) ∧ Dr w wr)
  case atStart => exact ⟨0, by omega, rfl, (by show _ = _; simp : spanG wordP s = 0 + spanG wordP (s.drop 0)), Dr.refl _⟩
  case round =>
    obtain ⟨k, hk, rfl, hf, kp⟩ := hrel
    by_cases hkn : k < n
    · obtain ⟨ad, rfl, hc⟩ := (h.kp kp.kp).get hkn
      have hd : s.drop k = s[k]?.getD 0 :: s.drop (k + 1) := by
        rw [List.drop_eq_getElem_cons (by omega), List.getElem?_eq_getElem (by omega)]; rfl
      have hf' := hf.out
      rw [hd, spanG_cons] at hf'
      obtain ⟨x, hx⟩ : ∃ x, x = s[k]?.getD 0 := ⟨_, rfl⟩
      rw [← hx] at hf' hc
      clear hf hd hx
      by_cases hw : wordP x = true
      · have h3 := hw
        unfold wordP at h3
        obtain ⟨c1, c2, c3⟩ := of_decide_eq_true h3
        have e1 : Hid (spanG wordP s = k + 1 + spanG wordP (s.drop (k + 1))) := by show _ = _; rw [hf', if_pos hw]; omega
        have d1 : (x != 32) = true := by simpa using c1
        have d2 : (x != 9) = true := by simpa using c2
        have d3 : (x != 33) = true := by simpa using c3
        clear hf' hw h3
        go_wp2_with fail
        go_roundg (n - (k + 1))
        case measure => omega
        case rel => exact ⟨k + 1, by omega, by go_num, e1, kp⟩
      · have e1 : Hid (spanG wordP s = k) := by show _ = _; rw [hf', if_neg hw]; omega
        have h3 : ¬ (x ≠ 32 ∧ x ≠ 9 ∧ x ≠ 33) := fun h => hw (by unfold wordP; exact decide_eq_true h)
        have h4 : x = 32 ∨ (x ≠ 32 ∧ x = 9) ∨ (x ≠ 32 ∧ x ≠ 9 ∧ x = 33) := by omega
        clear hf' hw h3
        rcases h4 with h4 | ⟨h5, h4⟩ | ⟨h5, h6, h4⟩
        · subst h4
          go_wp2_with fail
          go_ret
          rw [e1.out]
          exact ⟨rfl, kp⟩
        · subst h4
          go_wp2_with fail
          go_ret
          rw [e1.out]
          exact ⟨rfl, kp⟩
        · subst h4
          go_wp2_with fail
          go_ret
          rw [e1.out]
          exact ⟨rfl, kp⟩
    · have hf' := hf.out
      rw [List.drop_eq_nil_of_le (by omega)] at hf'
      have e1 : Hid (spanG wordP s = k) := hf'
      clear hf hf'
      go_wp2_with fail
      go_ret
      rw [e1.out]
      exact ⟨rfl, kp⟩

set_option maxHeartbeats 1600000 in
theorem number_any (F : Nat → Prop) (A : Option Addr) (n c : Nat) (s : List Int) (w : World) (h : Ru w F A n c s) (hn : n ≤ 1099511627776) :
    Calls Try.prog 60 #[.slice A n c] w fun e w' => e = .returned (.tuple #[.int .i64 (numM s).1, .int .i64 ((numM s).2 : Int)]) ∧ Dr w w' := by
  have hlen := h.len
  have hle := h.le
  have hcp := h.cap
  unfold maxLen at hcp
  go_enter Try.func60, Try.ntmps60
  go_wp2_with fail
  go_loopg [4, 5] 4 (fun g nv kv wr => ∃ (k : Nat) (m : Int), k + g = 4 ∧ k ≤ n ∧ kv = .int .i64 k ∧ nv = .int .i64 m ∧ Hid ((numM s).1 = (numG (4 - k) m (s.drop k)).1 ∧ (numM s).2 = k + (numG (4 - k) m (s.drop k)).2) ∧
    Hid (0 ≤ m ∧ (k = 0 → m = 0) ∧ (k = 1 → m ≤ 9) ∧ (k = 2 → m ≤ 99) ∧ (k = 3 → m ≤ 999) ∧ m ≤ 9999) ∧ Dr w wr)
  case atStart => exact ⟨0, 0, by omega, by omega, rfl, rfl, ⟨rfl, by rw [List.drop_zero, Nat.zero_add]; rfl⟩, ⟨by omega, by omega, by omega, by omega, by omega, by omega⟩, Dr.refl _⟩
  case round =>
    obtain ⟨k, m, hk, hkn0, rfl, rfl, hf, hm, kp⟩ := hrel
    by_cases hkn : k < n
    · obtain ⟨ad, rfl, hc⟩ := (h.kp kp.kp).get hkn
      have hd : s.drop k = s[k]?.getD 0 :: s.drop (k + 1) := by
        rw [List.drop_eq_getElem_cons (by omega), List.getElem?_eq_getElem (by omega)]; rfl
      obtain ⟨f1, f2⟩ := hf.out
      rw [hd] at f1 f2
      obtain ⟨x, hx⟩ : ∃ x, x = s[k]?.getD 0 := ⟨_, rfl⟩
      rw [← hx] at f1 f2 hc
      clear hf hd hx
      by_cases hk4 : k < 4
      · have hk4' : (k : Int) < 4 := by omega
        rw [show 4 - k = (4 - (k + 1)) + 1 by omega, numG_cons] at f1 f2
        by_cases hdg : isDg x = true
        · rw [if_pos hdg] at f1 f2
          have hx2 := of_decide_eq_true hdg
          obtain ⟨x1, x2⟩ := hx2
          have wr1 : IntKind.i32.wrap (x - 48) = x - 48 := by rw [IntKind.wrap_i32]; omega
          have wr2 : IntKind.i64.wrap (x - 48) = x - 48 := wrapS (by omega) (by omega)
          have wr3 : IntKind.i64.wrap (10 * m) = 10 * m := wrapS (by have := hm.out; omega) (by have := hm.out; omega)
          have wr4 : IntKind.i64.wrap (10 * m + (x - 48)) = 10 * m + (x - 48) := wrapS (by have := hm.out; omega) (by have := hm.out; omega)
          have HF := Lib.hid (And.intro f1 (show (numM s).2 = k + 1 + (numG (4 - (k + 1)) (10 * m + (x - 48)) (s.drop (k + 1))).2 by omega))
          clear f1 f2 hdg
          go_wp2_with fail
          go_roundg (4 - (k + 1))
          case measure => omega
          case rel => exact ⟨k + 1, 10 * m + (x - 48), by omega, by omega, by go_num, rfl, HF.out, by have := hm.out; exact ⟨by omega, by omega, by omega, by omega, by omega, by omega⟩, kp⟩
        · rw [if_neg hdg] at f1 f2
          have HF := Lib.hid (And.intro f1 f2)
          have hx2 : x < 48 ∨ (48 ≤ x ∧ 57 < x) := by
            have : ¬ (48 ≤ x ∧ x ≤ 57) := fun h => hdg (decide_eq_true h)
            omega
          clear f1 f2 hdg
          rcases hx2 with h4 | ⟨h4, h5⟩
          · go_wp2_with fail
            go_ret2
            rw [HF.out.1, HF.out.2]
            exact ⟨rfl, kp⟩
          · go_wp2_with fail
            go_ret2
            rw [HF.out.1, HF.out.2]
            exact ⟨rfl, kp⟩
      · have hk4 : k = 4 := by omega
        subst hk4
        have HF := Lib.hid (And.intro f1 f2)
        clear f1 f2
        go_wp2_with fail
        go_ret2
        rw [HF.out.1, HF.out.2]
        exact ⟨rfl, kp⟩
    · obtain ⟨f1, f2⟩ := hf.out
      rw [List.drop_eq_nil_of_le (by omega), numG_nil] at f1 f2
      have HF := Lib.hid (And.intro f1 f2)
      clear hf f1 f2
      go_wp2_with fail
      go_ret2
      rw [HF.out.1, HF.out.2]
      exact ⟨rfl, kp⟩
end Go.Proofs.Ytcbachblhfkcoaa
