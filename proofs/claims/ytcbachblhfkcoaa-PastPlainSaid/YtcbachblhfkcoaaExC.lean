/-
  typebarref20: isDigit, digits, back, named: what they return. Conditions: the slices can be read, and are not too long.
-/
import Derived.Test.YtcbachblhfkcoaaExB
namespace Go.Proofs.Ytcbachblhfkcoaa
open Go.RowKit

theorem isDigit_any (x : Int) (w : World) : Calls Try.prog 78 #[.int .i32 x] w fun e w' => e = .returned (.bool (isDg x)) ∧ w' = w := by
  by_cases h1 : 48 ≤ x
  · by_cases h2 : x ≤ 57
    · have e1 : Hid (isDg x = true) := decide_eq_true ⟨h1, h2⟩
      go_enter Try.func78, Try.ntmps78
      go_wp2_with fail
      go_ret
      rw [e1.out]
      exact ⟨rfl, rfl⟩
    · have e1 : Hid (isDg x = false) := decide_eq_false (by omega)
      go_enter Try.func78, Try.ntmps78
      go_wp2_with fail
      go_ret
      rw [e1.out]
      exact ⟨by simp, rfl⟩
  · have e1 : Hid (isDg x = false) := decide_eq_false (by omega)
    go_enter Try.func78, Try.ntmps78
    go_wp2_with fail
    go_ret
    rw [e1.out]
    exact ⟨rfl, rfl⟩

set_option maxHeartbeats 1600000 in
theorem digits_any (F : Nat → Prop) (A : Option Addr) (n c a : Nat) (s : List Int) (w : World) (h : Ru w F A n c s) (_ : n ≤ 1099511627776) (ha : a ≤ n) :
    Calls Try.prog 68 #[.slice A n c, .int .i64 (a : Int)] w fun e w' => e = .returned (.tuple #[.int .i64 ((numM (s.drop a)).2 : Int), .int .i64 (numM (s.drop a)).1]) ∧ Dr w w' := by
  have hlen := h.len
  have hle := h.le
  have hcp := h.cap
  unfold maxLen at hcp
  go_enter Try.func68, Try.ntmps68
  go_wp2_with fail
  go_loopg [6, 7] 4 (fun g kv nv wr => ∃ (k : Nat) (m : Int), k + g = 4 ∧ a + k ≤ n ∧ kv = .int .i64 k ∧ nv = .int .i64 m ∧ Hid ((numM (s.drop a)).1 = (numG (4 - k) m (s.drop (a + k))).1 ∧ (numM (s.drop a)).2 = k + (numG (4 - k) m (s.drop (a + k))).2) ∧
    Hid (0 ≤ m ∧ (k = 0 → m = 0) ∧ (k = 1 → m ≤ 9) ∧ (k = 2 → m ≤ 99) ∧ (k = 3 → m ≤ 999) ∧ m ≤ 9999) ∧ Dr w wr)
  case atStart => exact ⟨0, 0, by omega, by omega, rfl, rfl, ⟨rfl, by rw [Nat.zero_add]; rfl⟩, ⟨by omega, by omega, by omega, by omega, by omega, by omega⟩, Dr.refl _⟩
  case round =>
    obtain ⟨k, m, hk, hkn0, rfl, rfl, hf, hm, kp⟩ := hrel
    by_cases hk4 : k < 4
    · have hk4' : (k : Int) < 4 := by omega
      have wa : IntKind.i64.wrap ((a : Int) + (k : Int)) = ((a + k : Nat) : Int) := by rw [wrapS (by omega) (by omega)]; omega
      obtain ⟨ak, hak⟩ : ∃ ak, ak = a + k := ⟨_, rfl⟩
      rw [← hak] at wa hf
      by_cases hkn : ak < n
      · obtain ⟨ad, rfl, hc⟩ := (h.kp kp.kp).get hkn
        have hd : s.drop ak = s[ak]?.getD 0 :: s.drop (ak + 1) := by
          rw [List.drop_eq_getElem_cons (by omega), List.getElem?_eq_getElem (by omega)]; rfl
        obtain ⟨f1, f2⟩ := hf.out
        rw [hd, show 4 - k = (4 - (k + 1)) + 1 by omega, numG_cons] at f1 f2
        obtain ⟨x, hx⟩ : ∃ x, x = s[ak]?.getD 0 := ⟨_, rfl⟩
        rw [← hx] at f1 f2 hc
        have hki : (ak : Int) < (n : Int) := by omega
        have HAK := Lib.hid hak
        clear hf hd hx hak
        by_cases hdg : isDg x = true
        · rw [if_pos hdg] at f1 f2
          have hx2 := of_decide_eq_true hdg
          obtain ⟨x1, x2⟩ := hx2
          have HD := Lib.hid fun wx => isDigit_any x wx
          rw [hdg] at HD
          have wr2 : IntKind.i64.wrap x = x := wrapS (by omega) (by omega)
          have wr3 : IntKind.i64.wrap (10 * m) = 10 * m := wrapS (by have := hm.out; omega) (by have := hm.out; omega)
          have wr4 : IntKind.i64.wrap (10 * m + x) = 10 * m + x := wrapS (by have := hm.out; omega) (by have := hm.out; omega)
          have wr5 : IntKind.i64.wrap (10 * m + x - 48) = 10 * m + (x - 48) := by rw [wrapS (by have := hm.out; omega) (by have := hm.out; omega)]; omega
          have HF := Lib.hid (And.intro f1 (show (numM (s.drop a)).2 = k + 1 + (numG (4 - (k + 1)) (10 * m + (x - 48)) (s.drop (ak + 1))).2 by omega))
          clear f1 f2 hdg
          go_wp2_with (go_at_call 78; refine (HD.out _).mono ?_; rintro e w2 ⟨rfl, hw2⟩; replace hw2 := hw2.symm; subst hw2)
          go_roundg (4 - (k + 1))
          case measure => omega
          case rel => exact ⟨k + 1, 10 * m + (x - 48), by omega, by have := HAK.out; omega, by go_num, rfl, by rw [show a + (k + 1) = ak + 1 by have := HAK.out; omega]; exact HF.out, by have := hm.out; exact ⟨by omega, by omega, by omega, by omega, by omega, by omega⟩, kp⟩
        · rw [if_neg hdg] at f1 f2
          have HF := Lib.hid (And.intro f1 f2)
          have hdf : isDg x = false := by simpa using hdg
          have HD := Lib.hid fun wx => isDigit_any x wx
          rw [hdf] at HD
          clear f1 f2 hdg hdf
          go_wp2_with (go_at_call 78; refine (HD.out _).mono ?_; rintro e w2 ⟨rfl, hw2⟩; replace hw2 := hw2.symm; subst hw2)
          go_ret2
          rw [HF.out.1, HF.out.2]
          exact ⟨rfl, kp⟩
      · obtain ⟨f1, f2⟩ := hf.out
        rw [show s.drop ak = [] from List.drop_eq_nil_of_le (by omega), numG_nil] at f1 f2
        have hki : ¬ ((ak : Int) < (n : Int)) := by omega
        have HF := Lib.hid (And.intro f1 f2)
        clear hf f1 f2 hak
        go_wp2_with fail
        go_ret2
        rw [HF.out.1, HF.out.2]
        exact ⟨rfl, kp⟩
    · have hk4 : k = 4 := by omega
      subst hk4
      have HF := hf
      clear hf
      go_wp2_with fail
      go_ret2
      rw [HF.out.1, HF.out.2]
      exact ⟨rfl, kp⟩

def pickR (xs : List (List Int)) (i : Int) : Option (List Int) := if 0 < i ∧ i ≤ xs.length then some (xs[i.toNat - 1]?.getD []) else none
theorem pickR_rev (L : List (List Int)) (i : Int) : pickR L.reverse i = pickM L i := by
  unfold pickR pickM
  rw [List.length_reverse]
  split
  · rename_i h
    rw [List.getElem?_reverse (by omega)]
    congr 3
    omega
  · rfl

set_option maxHeartbeats 1600000 in
theorem back20 (F G : Nat → Prop) (A B : Option Addr) (n c m d : Nat) (at_ i : Int) (xs : List (List Int)) (w : World) (hT : Txs w F G A n c xs) (hi : -9223372036854775808 ≤ i ∧ i ≤ 9223372036854775807) :
    Calls Try.prog 69 #[.agg #[.slice A n c, .int .i64 at_, .slice B m d], .int .i64 i] w (RetL G (pickR xs i) w) := by
  have hcl := hT.cap
  have hle := hT.le
  have hlen := hT.len
  unfold maxLen at hcl
  have kp1 := (Kp.refl w).alloc (.cells #[.slice A n c, .int .i64 at_, .slice B m d] 37)
  by_cases h1 : i < 1
  · have HE : Hid (pickR xs i = none) := by show _ = _; unfold pickR; rw [if_neg (by omega)]
    go_enter Try.func69, Try.ntmps69
    go_wp2_with fail
    go_ret2
    rw [HE.out]
    exact ⟨none, 0, 0, rfl, Ru.nil _ _, kp1⟩
  · by_cases h2 : (n : Int) < i
    · have HE : Hid (pickR xs i = none) := by show _ = _; unfold pickR; rw [if_neg (by omega)]
      go_enter Try.func69, Try.ntmps69
      go_wp2_with fail
      go_ret2
      rw [HE.out]
      exact ⟨none, 0, 0, rfl, Ru.nil _ _, kp1⟩
    · obtain ⟨k, hk⟩ : ∃ k : Nat, i = (k : Int) + 1 := ⟨(i - 1).toNat, by omega⟩
      subst hk
      have HE : Hid (pickR xs ((k : Int) + 1) = some (xs[k]?.getD [])) := by show _ = _; unfold pickR; rw [if_pos (by omega), show ((k : Int) + 1).toNat - 1 = k by omega]
      have hw : IntKind.i64.wrap ((k : Int) + 1 - 1) = (k : Int) := by rw [wrapS (by omega) (by omega)]; omega
      have hkn : k < n := by omega
      obtain ⟨ad, B2, m2, d2, rfl, hc, hr⟩ := hT.get hkn
      generalize xs[k]?.getD [] = x at *
      have hc' : ∀ o : Obj, (w.alloc o).cell? (ad.add k) = some (.slice B2 m2 d2) := fun o => by
        rw [World.cell?_alloc_lt _ _ _ (World.block_lt_of_cell? w _ hc)]
        exact hc
      go_enter Try.func69, Try.ntmps69
      go_wp2_with fail
      go_ret2
      rw [HE.out]
      exact ⟨B2, m2, d2, rfl, hr.kp kp1, kp1⟩

def fitsM (part : List Int) (anyw : Bool) (l : List Int) : Bool := if anyw then hasM l part else beginsM l part
theorem find_first {xs : List (List Int)} {f : List Int → Bool} {i : Nat} (h : ∀ j, j < i → f (xs[j]?.getD []) = false) (hi : i < xs.length) (hf : f (xs[i]?.getD []) = true) : xs.find? f = some (xs[i]?.getD []) := by
  induction xs generalizing i with
  | nil => simp at hi
  | cons x t ih =>
    cases i with
    | zero => rw [List.find?_cons_of_pos (by simpa using hf)]; simp
    | succ i =>
      have h0 := h 0 (by omega)
      rw [List.find?_cons_of_neg (by simpa using h0)]
      have := ih (i := i) (fun j hj => by have := h (j + 1) (by omega); simpa using this) (by simpa using hi) (by simpa using hf)
      simpa using this
theorem find_no {xs : List (List Int)} {f : List Int → Bool} (h : ∀ j, j < xs.length → f (xs[j]?.getD []) = false) : xs.find? f = none := by
  rw [List.find?_eq_none]
  intro x hx
  obtain ⟨i, hi, rfl⟩ := List.getElem_of_mem hx
  have := h i hi
  rw [List.getElem?_eq_getElem hi] at this
  simpa using this
theorem fits_yes {x part : List Int} {anyw : Bool} {j : Nat} (hj : j ≤ x.length) (h : j = 0 ∨ anyw = true) (hb : beginsM (x.drop j) part = true) : fitsM part anyw x = true := by
  unfold fitsM
  cases anyw with
  | true => rw [if_pos rfl]; exact hasM_yes hj hb
  | false =>
    rcases h with rfl | h
    · rw [if_neg (by simp)]; simpa using hb
    · cases h
theorem fits_no {x part : List Int} {anyw : Bool} (h : ∀ j, j ≤ x.length → (j = 0 ∨ anyw = true) → beginsM (x.drop j) part = false) : fitsM part anyw x = false := by
  unfold fitsM
  cases anyw with
  | true => rw [if_pos rfl]; exact hasM_no fun i hi => h i hi (.inr rfl)
  | false => rw [if_neg (by simp)]; have := h 0 (by omega) (.inl rfl); simpa using this
end Go.Proofs.Ytcbachblhfkcoaa
