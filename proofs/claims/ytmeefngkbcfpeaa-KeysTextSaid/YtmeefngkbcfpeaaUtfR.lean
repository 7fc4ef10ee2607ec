/-
  typebarref01: long, may, row, value, Decode, Waits: what each returns, as the plain functions of UtfRM. Conditions: sizes.
-/
import Derived.Test.YtmeefngkbcfpeaaUtfD
import Derived.Test.YtmeefngkbcfpeaaUtfRM
import Derived.WalkSpells
namespace Go.Proofs.Ytmeefngkbcfpeaa
open Go.RowKit

theorem ret_int {k : IntKind} {a b : Int} (h : a = b) : Ending.returned (.int k a) = .returned (.int k b) := by rw [h]
theorem by8_get (s : ByteArray) (i : Nat) (h : i < s.size) : (by8 s)[i]?.getD 0 = (s[i].toNat : Int) := by
  have hl : i < (by8 s).length := by rw [by8_length]; exact h
  rw [List.getElem?_eq_getElem hl]
  simp only [by8, Option.getD_some, List.getElem_map, Array.getElem_toList]
  rfl

/-- 's[i]' of a string, the byte under a name. -/
theorem run_index_str {P : Program} (w : World) (t : TypeId) (s : ByteArray) (k : IntKind) (j : Int) (i : Nat) (h : P.underlying t = some .string) (hj : j = i) (hi : i < s.size) (b : Int) (hb : (by8 s)[i]?.getD 0 = b) :
    (Instr.index t (.string s) (.int k j)).run P w = .ok (.int .u8 b) w := by
  subst hj
  rw [by8_get s i hi] at hb
  have e : s[i]? = some s[i] := getElem?_pos s i hi
  subst hb
  simp [Instr.index, run_underlying h, asIntOf, e]
theorem by8_bound (s : ByteArray) (i : Nat) : 0 ≤ (by8 s)[i]?.getD 0 ∧ (by8 s)[i]?.getD 0 ≤ 255 := by
  rcases Nat.lt_or_ge i (by8 s).length with h | h
  · rw [List.getElem?_eq_getElem h]
    exact by8_bd s _ (List.getElem_mem h)
  · rw [List.getElem?_eq_none h]; simp

theorem long_any (c : Int) (w : World) : Calls Try.prog 55 #[.int .u8 c] w fun e w' => e = .returned (.int .i64 (longM c : Nat)) ∧ w = w' := by
  by_cases h1 : c < 128
  · have HE : Hid (longM c = 1) := by show _ = _; simp [longM, h1]
    go_enter Try.func55, Try.ntmps55
    go_wp2
    go_ret
    exact ⟨by rw [HE.out]; rfl, rfl⟩
  · by_cases h2 : c < 224
    · have HE : Hid (longM c = 2) := by show _ = _; simp [longM, h1, h2]
      go_enter Try.func55, Try.ntmps55
      go_wp2
      go_ret
      exact ⟨by rw [HE.out]; rfl, rfl⟩
    · by_cases h3 : c < 240
      · have HE : Hid (longM c = 3) := by show _ = _; simp [longM, h1, h2, h3]
        go_enter Try.func55, Try.ntmps55
        go_wp2
        go_ret
        exact ⟨by rw [HE.out]; rfl, rfl⟩
      · have HE : Hid (longM c = 4) := by show _ = _; simp [longM, h1, h2, h3]
        go_enter Try.func55, Try.ntmps55
        go_wp2
        go_ret
        exact ⟨by rw [HE.out]; rfl, rfl⟩

set_option maxHeartbeats 3200000 in
theorem may_any (s : ByteArray) (i : Nat) (hi : i < s.size) (hs : s.size ≤ 1073741824) (w : World) : Calls Try.prog 56 #[.string s, .int .i64 i] w fun e w' => e = .returned (.bool (mayM (by8 s) i)) ∧ Dr w w' := by
  have h0 : 0 < s.size := by omega
  obtain ⟨hc1, hc2⟩ := by8_bound s 0
  obtain ⟨hb1, hb2⟩ := by8_bound s i
  obtain ⟨c, hc⟩ : ∃ c, (by8 s)[0]?.getD 0 = c := ⟨_, rfl⟩
  obtain ⟨b, hb⟩ : ∃ b, (by8 s)[i]?.getD 0 = b := ⟨_, rfl⟩
  have HE : Hid (mayM (by8 s) i = mayB c b i) := by show _ = _; rw [mayM, hc, hb]
  have ic := fun wx : World => run_index_str (P := Try.prog) wx 9 s .i64 0 0 Try.underlying9 rfl h0 c hc
  have ib := fun wx : World => run_index_str (P := Try.prog) wx 9 s .i64 i i Try.underlying9 rfl hi b hb
  rw [hc] at hc1 hc2
  rw [hb] at hb1 hb2
  clear hc hb
  by_cases hi0 : i = 0
  · subst hi0
    have e : (((0 : Nat) : Int)) = 0 := rfl
    simp only [e] at ib
    show Calls _ _ #[.string s, .int .i64 0] _ _
    clear e ib
    go_enter Try.func56, Try.ntmps56
    go_wp2_with fail
    go_quiet (fail)
    go_wp2_with fail
    all_goals
      go_ret
      refine ⟨ret_bool ?_, ⟨_, rfl⟩⟩
      rw [HE.out]
      clear HE
      unfold mayB
      (repeat' split) <;> (first | omega | (rw [Bool.eq_iff_iff]; simp; omega))
  · have hb3 : ((i : Int) == 0) = false := by simpa using hi0
    by_cases hi1 : i = 1
    · subst hi1
      have e : (((1 : Nat) : Int)) = 1 := rfl
      simp only [e] at ib
      show Calls _ _ #[.string s, .int .i64 1] _ _
      clear e hb3
      rcases (show (c < 224 ∧ c < 224) ∨ (224 ≤ c ∧ c ≤ 224) ∨ (224 < c ∧ c < 237) ∨ (237 ≤ c ∧ c ≤ 237) ∨ (237 < c ∧ c < 240) ∨ (240 ≤ c ∧ c ≤ 240) ∨ (240 < c ∧ c < 244) ∨ (244 ≤ c ∧ c ≤ 244) ∨ (244 < c ∧ 244 < c) by omega) with hq | hq | hq | hq | hq | hq | hq | hq | hq
      all_goals
        obtain ⟨hq1, hq2⟩ := hq
        go_enter Try.func56, Try.ntmps56
        go_wp2_with fail
        go_quiet (fail)
        go_wp2_with fail
        all_goals
          go_ret
          refine ⟨ret_bool ?_, ⟨_, rfl⟩⟩
          rw [HE.out]
          clear HE
          unfold mayB
          (repeat' split) <;> (first | omega | (rw [Bool.eq_iff_iff]; simp; omega))
    · have hb4 : ((i : Int) == 1) = false := by simp; omega
      go_enter Try.func56, Try.ntmps56
      go_wp2_with fail
      go_quiet (fail)
      go_wp2_with fail
      all_goals
        go_ret
        refine ⟨ret_bool ?_, ⟨_, rfl⟩⟩
        rw [HE.out]
        clear HE
        unfold mayB
        (repeat' split) <;> (first | omega | (rw [Bool.eq_iff_iff]; simp; omega))
end Go.Proofs.Ytmeefngkbcfpeaa
