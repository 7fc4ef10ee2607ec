/-
  Strings of bytes as the keys have them: how they are told apart, a byte more; package keys: number. Conditions: bytes from 0 to 255.
-/
import Derived.Test.YtmeefngkbcfpeaaKeF
import Derived.Test.YtmeefngkbcfpeaaStr
namespace Go.Proofs.Ytmeefngkbcfpeaa
open Go.RowKit

theorem bs8_bs (l : List Int) : bs8 l = bs l := rfl
theorem by8_bs8 {l : List Int} (h : isB l) : by8 (bs8 l) = l := by
  unfold by8 bs8
  simp only [List.map_map]
  apply List.ext_getElem
  · simp
  · intro i h1 h2
    rw [List.getElem_map]
    exact u8of_toNat (h _ (List.getElem_mem h2))
theorem bs8_by8 (s : ByteArray) : bs8 (by8 s) = s := by
  obtain ⟨⟨d⟩⟩ := s
  unfold by8 bs8
  simp only [List.map_map]
  congr 2
  have : ∀ l : List UInt8, l.map ((fun b : Int => UInt8.ofNat b.toNat) ∘ fun b => (b.toNat : Int)) = l := fun l => by
    induction l with
    | nil => rfl
    | cons x t ih => rw [List.map_cons, ih]; congr 1; simp
  exact this d
theorem bs8_size (l : List Int) : (bs8 l).size = l.length := bs_size l
theorem bs8_app (l m : List Int) : bs8 (l ++ m) = bs8 l ++ bs8 m := bs_app l m
theorem bs8_inj {s t : List Int} (hs : isB s) (ht : isB t) : (bs8 s = bs8 t) ↔ s = t :=
  ⟨fun h => by have := congrArg by8 h; rwa [by8_bs8 hs, by8_bs8 ht] at this, fun h => by rw [h]⟩
/-- Go's == on strings. -/
theorem str_eq8 (s t : ByteArray) : (s.toList == t.toList) = decide (s = t) := by
  rw [ByteArray.toList_eq, ByteArray.toList_eq]
  by_cases h : s = t
  · rw [h]; simp
  · rw [decide_eq_false h]
    simp only [beq_eq_false_iff_ne, ne_eq]
    intro e
    exact h (by cases s; cases t; simp at e; rw [e])
theorem bs8_beq {s t : List Int} (hs : isB s) (ht : isB t) : ((bs8 s).toList == (bs8 t).toList) = decide (s = t) := by
  rw [str_eq8, decide_eq_decide]
  exact bs8_inj hs ht
theorem isB_one {b : Int} (h0 : 0 ≤ b) (h1 : b ≤ 255) : isB [b] := by intro x hx; simp at hx; subst hx; exact ⟨h0, h1⟩
theorem isB_lits : isB [49] ∧ isB [50] ∧ isB [51] ∧ isB [52] ∧ isB [53] ∧ isB [54] ∧ isB [55] ∧ isB [56] :=
  ⟨isB_one (by omega) (by omega), isB_one (by omega) (by omega), isB_one (by omega) (by omega), isB_one (by omega) (by omega), isB_one (by omega) (by omega), isB_one (by omega) (by omega), isB_one (by omega) (by omega), isB_one (by omega) (by omega)⟩

set_option maxHeartbeats 1600000 in
theorem number_any (l : List Int) (hl : isB l) (w : World) : Calls Try.prog 58 #[.string (bs8 l)] w fun e w' => e = .returned (.int .i32 (numberM l)) ∧ w' = w := by
  obtain ⟨i1, i2, i3, i4, i5, i6, i7, i8⟩ := isB_lits
  have e1 := bs8_beq hl i1
  have e2 := bs8_beq hl i2
  have e3 := bs8_beq hl i3
  have e4 := bs8_beq hl i4
  have e5 := bs8_beq hl i5
  have e6 := bs8_beq hl i6
  have e7 := bs8_beq hl i7
  have e8 := bs8_beq hl i8
  have l1 : (bs8 [49]).toList = [49] := by rw [ByteArray.toList_eq]; rfl
  have l2 : (bs8 [50]).toList = [50] := by rw [ByteArray.toList_eq]; rfl
  have l3 : (bs8 [51]).toList = [51] := by rw [ByteArray.toList_eq]; rfl
  have l4 : (bs8 [52]).toList = [52] := by rw [ByteArray.toList_eq]; rfl
  have l5 : (bs8 [53]).toList = [53] := by rw [ByteArray.toList_eq]; rfl
  have l6 : (bs8 [54]).toList = [54] := by rw [ByteArray.toList_eq]; rfl
  have l7 : (bs8 [55]).toList = [55] := by rw [ByteArray.toList_eq]; rfl
  have l8 : (bs8 [56]).toList = [56] := by rw [ByteArray.toList_eq]; rfl
  rw [l1] at e1
  rw [l2] at e2
  rw [l3] at e3
  rw [l4] at e4
  rw [l5] at e5
  rw [l6] at e6
  rw [l7] at e7
  rw [l8] at e8
  clear i1 i2 i3 i4 i5 i6 i7 i8 l1 l2 l3 l4 l5 l6 l7 l8 hl
  by_cases h : l = [49] ∨ l = [50] ∨ l = [51] ∨ l = [52] ∨ l = [53] ∨ l = [54] ∨ l = [55] ∨ l = [56]
  · have HN : Hid ((l = [49] → numberM l = 5) ∧ (l = [50] → numberM l = 7) ∧ (l = [51] → numberM l = 8) ∧ (l = [52] → numberM l = 6) ∧ (l = [53] → numberM l = 9) ∧ (l = [54] → numberM l = 10) ∧ (l = [55] → numberM l = 5) ∧ (l = [56] → numberM l = 6)) :=
      (⟨by rintro rfl; rfl, by rintro rfl; rfl, by rintro rfl; rfl, by rintro rfl; rfl, by rintro rfl; rfl, by rintro rfl; rfl, by rintro rfl; rfl, by rintro rfl; rfl⟩ : (l = [49] → numberM l = 5) ∧ (l = [50] → numberM l = 7) ∧ (l = [51] → numberM l = 8) ∧ (l = [52] → numberM l = 6) ∧ (l = [53] → numberM l = 9) ∧ (l = [54] → numberM l = 10) ∧ (l = [55] → numberM l = 5) ∧ (l = [56] → numberM l = 6))
    rcases h with h | h | h | h | h | h | h | h
    all_goals
      first | rw [decide_eq_true (show l = [49] from h)] at e1 | rw [decide_eq_false (show ¬ l = [49] from by rw [h]; decide)] at e1
      first | rw [decide_eq_true (show l = [50] from h)] at e2 | rw [decide_eq_false (show ¬ l = [50] from by rw [h]; decide)] at e2
      first | rw [decide_eq_true (show l = [51] from h)] at e3 | rw [decide_eq_false (show ¬ l = [51] from by rw [h]; decide)] at e3
      first | rw [decide_eq_true (show l = [52] from h)] at e4 | rw [decide_eq_false (show ¬ l = [52] from by rw [h]; decide)] at e4
      first | rw [decide_eq_true (show l = [53] from h)] at e5 | rw [decide_eq_false (show ¬ l = [53] from by rw [h]; decide)] at e5
      first | rw [decide_eq_true (show l = [54] from h)] at e6 | rw [decide_eq_false (show ¬ l = [54] from by rw [h]; decide)] at e6
      first | rw [decide_eq_true (show l = [55] from h)] at e7 | rw [decide_eq_false (show ¬ l = [55] from by rw [h]; decide)] at e7
      first | rw [decide_eq_true (show l = [56] from h)] at e8 | rw [decide_eq_false (show ¬ l = [56] from by rw [h]; decide)] at e8
      have HE := Lib.hid h
      clear h
      generalize bs8 l = s at *
      go_enter Try.func58, Try.ntmps58
      go_wp2_with fail
      go_ret
      exact ⟨by obtain ⟨x1, x2, x3, x4, x5, x6, x7, x8⟩ := HN.out; (first | rw [x1 HE.out] | rw [x2 HE.out] | rw [x3 HE.out] | rw [x4 HE.out] | rw [x5 HE.out] | rw [x6 HE.out] | rw [x7 HE.out] | rw [x8 HE.out]); rfl, rfl⟩
  · have HN : Hid (numberM l = 0) := by
      show _ = _
      unfold numberM
      rw [if_neg (fun k => h (by rcases k with k | k <;> simp [k])), if_neg (fun k => h (by rcases k with k | k <;> simp [k])), if_neg (fun k => h (by simp [k])), if_neg (fun k => h (by simp [k])), if_neg (fun k => h (by simp [k])), if_neg (fun k => h (by simp [k]))]
    rw [decide_eq_false (show ¬ l = [49] from fun k => h (by simp [k]))] at e1
    rw [decide_eq_false (show ¬ l = [50] from fun k => h (by simp [k]))] at e2
    rw [decide_eq_false (show ¬ l = [51] from fun k => h (by simp [k]))] at e3
    rw [decide_eq_false (show ¬ l = [52] from fun k => h (by simp [k]))] at e4
    rw [decide_eq_false (show ¬ l = [53] from fun k => h (by simp [k]))] at e5
    rw [decide_eq_false (show ¬ l = [54] from fun k => h (by simp [k]))] at e6
    rw [decide_eq_false (show ¬ l = [55] from fun k => h (by simp [k]))] at e7
    rw [decide_eq_false (show ¬ l = [56] from fun k => h (by simp [k]))] at e8
    clear h
    generalize bs8 l = s at *
    go_enter Try.func58, Try.ntmps58
    go_wp2_with fail
    go_ret
    exact ⟨by rw [HN.out]; rfl, rfl⟩
end Go.Proofs.Ytmeefngkbcfpeaa
