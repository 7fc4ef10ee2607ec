/-
  package past: begins, has; slices.Index at runes; the document's begins, isDigit, digits, back. Conditions: the slices can be read, and are not too long.
-/
import Derived.Test.YtcbachblhfkcoaaExA
import Derived.Test.YtcbachblhfkcoaaRefPast
namespace Go.Proofs.Ytcbachblhfkcoaa
open Go.RowKit

set_option maxHeartbeats 1600000 in
theorem begins_any (F G : Nat → Prop) (A B : Option Addr) (n c m d : Nat) (s p : List Int) (w : World) (h : Ru w F A n c s) (hp : Ru w G B m d p) :
    Calls Try.prog 67 #[.slice A n c, .slice B m d] w fun e w' => e = .returned (.bool (beginsM s p)) ∧ Dr w w' := by
  have hlen := h.len
  have hle := h.le
  have hcp := h.cap
  have hlen2 := hp.len
  have hle2 := hp.le
  have hcp2 := hp.cap
  unfold maxLen at hcp hcp2
  by_cases hmn : m ≤ n
  · have ht := Ru.take h hmn
    have hmi : (m : Int) ≤ (n : Int) := by omega
    have HE := Lib.hid (equal_any F G A B m c m d (s.take m) p w ht hp)
    obtain ⟨b, hb⟩ : ∃ b, b = beginsM s p := ⟨_, rfl⟩
    rw [← hb]
    have hbb : sameB (s.take m) p = b := by rw [hb]; unfold beginsM; rw [decide_eq_true (by omega), Bool.true_and, hlen2]
    rw [hbb] at HE
    clear hb hbb ht
    go_enter Try.func67, Try.ntmps67
    go_wp2_with (go_at_call 42; refine HE.out.mono ?_; rintro e w2 ⟨rfl, d2⟩)
    go_ret
    exact ⟨rfl, d2⟩
  · have hb : Hid (beginsM s p = false) := by show _ = _; unfold beginsM; rw [decide_eq_false (by omega), Bool.false_and]
    have hmi : ¬ ((m : Int) ≤ (n : Int)) := by omega
    go_enter Try.func67, Try.ntmps67
    go_wp2_with fail
    go_ret
    rw [hb.out]
    exact ⟨rfl, Dr.refl _⟩

set_option maxHeartbeats 1600000 in
theorem beginsR_any (F G : Nat → Prop) (A B : Option Addr) (n c m d : Nat) (s p : List Int) (w : World) (h : Ru w F A n c s) (hp : Ru w G B m d p) :
    Calls Try.prog 79 #[.slice A n c, .slice B m d] w fun e w' => e = .returned (.bool (beginsM s p)) ∧ Dr w w' := by
  have hlen := h.len
  have hle := h.le
  have hcp := h.cap
  have hlen2 := hp.len
  have hle2 := hp.le
  have hcp2 := hp.cap
  unfold maxLen at hcp hcp2
  by_cases hmn : m ≤ n
  · have ht := Ru.take h hmn
    have hmi : (m : Int) ≤ (n : Int) := by omega
    have HE := Lib.hid (same_any F G A B m c m d (s.take m) p w ht hp)
    obtain ⟨b, hb⟩ : ∃ b, b = beginsM s p := ⟨_, rfl⟩
    rw [← hb]
    have hbb : sameB (s.take m) p = b := by rw [hb]; unfold beginsM; rw [decide_eq_true (by omega), Bool.true_and, hlen2]
    rw [hbb] at HE
    clear hb hbb ht
    go_enter Try.func79, Try.ntmps79
    go_wp2_with (go_at_call 18; refine HE.out.mono ?_; rintro e w2 ⟨rfl, d2⟩)
    go_ret
    exact ⟨rfl, d2⟩
  · have hb : Hid (beginsM s p = false) := by show _ = _; unfold beginsM; rw [decide_eq_false (by omega), Bool.false_and]
    have hmi : ¬ ((m : Int) ≤ (n : Int)) := by omega
    go_enter Try.func79, Try.ntmps79
    go_wp2_with fail
    go_ret
    rw [hb.out]
    exact ⟨rfl, Dr.refl _⟩

set_option maxRecDepth 100000 in
set_option maxHeartbeats 1600000 in
theorem has_any (F G : Nat → Prop) (A B : Option Addr) (n c m d : Nat) (s p : List Int) (w : World) (h : Ru w F A n c s) (hp : Ru w G B m d p) (hn : n ≤ 1099511627776) :
    Calls Try.prog 64 #[.slice A n c, .slice B m d] w fun e w' => e = .returned (.bool (hasM s p)) ∧ Dr w w' := by
  have hlen := h.len
  have hle := h.le
  have hcp := h.cap
  unfold maxLen at hcp
  have hw1 : IntKind.i64.wrap ((n : Int) + 1) = (n : Int) + 1 := wrapS (by omega) (by omega)
  have HH := Lib.hid h
  have HP := Lib.hid hp
  clear h hp
  go_enter Try.func64, Try.ntmps64
  go_wp2_with fail
  go_loopg [9] (n + 1) (fun g kv wr => ∃ (k : Nat), k + g = n + 1 ∧ kv = .int .i64 k ∧ Hid (∀ i, i < k → beginsM (s.drop i) p = false) ∧ Dr w wr)
  case atStart => exact ⟨0, by omega, rfl, fun i hi => absurd hi (by omega), Dr.refl _⟩
  case round =>
    obtain ⟨k, hk, rfl, hf, kp⟩ := hrel
    by_cases hkn : k ≤ n
    · have hd := Ru.drop (HH.out.kp kp.kp) hkn
      have hlt : (k : Int) < (n : Int) + 1 := by omega
      have hkle : (k : Int) ≤ (n : Int) := by omega
      have hkc : k ≤ c := by omega
      by_cases hck : c = k
      · rw [if_pos hck] at hd
        have hnk : n = k := by omega
        subst hck
        subst hnk
        rw [Nat.sub_self] at hd
        have HB := Lib.hid fun wx (q : Dr wr wx) => begins_any F G _ B 0 0 m d _ p wx (hd.kp q.kp) (HP.out.kp (kp.trans q).kp)
        obtain ⟨b, hb⟩ : ∃ b, b = beginsM (s.drop n) p := ⟨_, rfl⟩
        rw [← hb] at HB
        have HBE := Lib.hid hb
        clear hb hd
        cases b with
        | true =>
          go_wp2_with (go_at_call 67; refine (HB.out _ (Dr.refl _)).mono ?_; rintro e w2 ⟨rfl, d2⟩)
          go_ret
          rw [hasM_yes (by omega) HBE.out.symm]
          exact ⟨rfl, kp.trans d2⟩
        | false =>
          go_wp2_with (go_at_call 67; refine (HB.out _ (Dr.refl _)).mono ?_; rintro e w2 ⟨rfl, d2⟩)
          go_roundg (n - n)
          case measure => omega
          case rel => exact ⟨n + 1, by omega, by go_num, fun i hi => by by_cases e : i = n; rw [e]; exact HBE.out.symm; exact hf.out i (by omega), kp.trans d2⟩
      · rw [if_neg hck] at hd
        have hck' : k < c := by omega
        have HB := Lib.hid fun wx (q : Dr wr wx) => begins_any F G _ B (n - k) (c - k) m d _ p wx (hd.kp q.kp) (HP.out.kp (kp.trans q).kp)
        obtain ⟨b, hb⟩ : ∃ b, b = beginsM (s.drop k) p := ⟨_, rfl⟩
        rw [← hb] at HB
        have HBE := Lib.hid hb
        clear hb hd
        cases b with
        | true =>
          go_wp2_with (go_at_call 67; refine (HB.out _ (Dr.refl _)).mono ?_; rintro e w2 ⟨rfl, d2⟩)
          go_ret
          rw [hasM_yes (by omega) HBE.out.symm]
          exact ⟨rfl, kp.trans d2⟩
        | false =>
          go_wp2_with (go_at_call 67; refine (HB.out _ (Dr.refl _)).mono ?_; rintro e w2 ⟨rfl, d2⟩)
          go_roundg (n - k)
          case measure => omega
          case rel => exact ⟨k + 1, by omega, by go_num, fun i hi => by by_cases e : i = k; rw [e]; exact HBE.out.symm; exact hf.out i (by omega), kp.trans d2⟩
    · have hlt : ¬ ((k : Int) < (n : Int) + 1) := by omega
      go_wp2_with fail
      go_ret
      rw [hasM_no (fun i hi => hf.out i (by omega))]
      exact ⟨rfl, kp⟩

set_option maxHeartbeats 1600000 in
theorem index_any (F : Nat → Prop) (A : Option Addr) (n c : Nat) (s : List Int) (w : World) (h : Ru w F A n c s) (hn : n ≤ 1099511627776) :
    Calls Try.prog 61 #[.slice A n c, .int .i32 63] w fun e w' => e = .returned (.int .i64 (if spanG notQ s < n then (spanG notQ s : Int) else -1)) ∧ Dr w w' := by
  have hlen := h.len
  have hle := h.le
  have hcp := h.cap
  unfold maxLen at hcp
  obtain ⟨ix, hix⟩ : ∃ ix : Int, ix = (if spanG notQ s < n then (spanG notQ s : Int) else -1) := ⟨_, rfl⟩
  rw [← hix]
  have HIX := Lib.hid hix
  clear hix
  go_enter Try.func61, Try.ntmps61
  go_wp2_with fail
  go_loopg [8] n (fun g iv wr => ∃ (k : Nat), k + g = n ∧ iv = .int .i64 k ∧ Hid (spanG notQ s = k + spanG notQ (s.drop k)) ∧ Dr w wr)
  case atStart => exact ⟨0, by omega, rfl, (by show _ = _; simp : spanG notQ s = 0 + spanG notQ (s.drop 0)), Dr.refl _⟩
  case round =>
    obtain ⟨k, hk, rfl, hf, kp⟩ := hrel
    by_cases hkn : k < n
    · obtain ⟨ad, rfl, hc⟩ := (h.kp kp.kp).get hkn
      have hd : s.drop k = s[k]?.getD 0 :: s.drop (k + 1) := by
        rw [List.drop_eq_getElem_cons (by omega), List.getElem?_eq_getElem (by omega)]; rfl
      have hf' := hf.out
      rw [hd, spanG_cons] at hf'
      obtain ⟨x, hx⟩ : ∃ x, x = s[k]?.getD 0 := ⟨_, rfl⟩
      rw [← hx] at hf' hc
      clear hf hd hx
      by_cases hw : notQ x = true
      · have c1 := of_decide_eq_true hw
        have e1 : Hid (spanG notQ s = k + 1 + spanG notQ (s.drop (k + 1))) := by show _ = _; rw [hf', if_pos hw]; omega
        have d1 : (63 == x) = false := by simpa using fun h => c1 h.symm
        clear hf' hw
        go_wp2_with fail
        go_roundg (n - (k + 1))
        case measure => omega
        case rel => exact ⟨k + 1, by omega, by go_num, e1, kp⟩
      · have e1 : Hid (spanG notQ s = k) := by show _ = _; rw [hf', if_neg hw]; omega
        have h3 : x = 63 := by
          by_cases h : x = 63
          · exact h
          · exact absurd (decide_eq_true h) hw
        clear hf' hw
        subst h3
        go_wp2_with fail
        go_ret
        rw [show ix = (k : Int) by rw [HIX.out, e1.out, if_pos hkn]]
        exact ⟨rfl, kp⟩
    · have hf' := hf.out
      rw [List.drop_eq_nil_of_le (by omega)] at hf'
      have e1 : Hid (spanG notQ s = k) := hf'
      clear hf hf'
      go_wp2_with fail
      go_ret
      rw [show ix = -1 by rw [HIX.out, e1.out, if_neg hkn]]
      exact ⟨rfl, kp⟩
end Go.Proofs.Ytcbachblhfkcoaa
