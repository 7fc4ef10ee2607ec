/-
  strings.CutSuffix at the end of a paste. Conditions: bytes, not more than 200000.
-/
import Derived.Test.YtmeefngkbcfpeaaKeR
import Derived.Test.YtmeefngkbcfpeaaUtfRD
namespace Go.Proofs.Ytmeefngkbcfpeaa
open Go.RowKit

theorem bs8_extract {l : List Int} (h : isB l) (a b : Nat) : (bs8 l).extract a b = bs8 ((l.drop a).take (b - a)) := by
  rw [← bs8_by8 ((bs8 l).extract a b), by8_extract, by8_bs8 h]
theorem isB_drop {l : List Int} (h : isB l) (a : Nat) : isB (l.drop a) := fun b hb => h b (List.mem_of_mem_drop hb)
theorem isB_take {l : List Int} (h : isB l) (a : Nat) : isB (l.take a) := fun b hb => h b (List.mem_of_mem_take hb)
theorem isB_ends : isB endsM := by intro b hb; simp [endsM] at hb; rcases hb with rfl | rfl | rfl | rfl | rfl | rfl <;> omega
/-- Do these bytes end as a paste does? -/
def endB (l : List Int) : Bool := decide (l.drop (l.length - 6) = endsM)
theorem endB_len {l : List Int} (h : endB l = true) : 6 ≤ l.length := by
  have h := of_decide_eq_true h
  have := congrArg List.length h
  rw [List.length_drop] at this
  simp [endsM] at this
  omega

set_option maxHeartbeats 1600000 in
theorem hasSuffix_any (l : List Int) (hl : isB l) (hn : l.length ≤ 200000) (w : World) : Calls Try.prog 63 #[.string (bs8 l), .string ⟨#[27, 91, 50, 48, 49, 126]⟩] w fun e w' => e = .returned (.bool (endB l)) ∧ w' = w := by
  have hsz := bs8_size l
  by_cases h6 : 6 ≤ l.length
  · have he := bs8_beq (isB_drop hl (l.length - 6)) isB_ends
    have hx := bs8_extract hl (l.length - 6) l.length
    rw [List.take_of_length_le (by simp)] at hx
    rw [← hx] at he
    have l2 : (bs8 endsM).toList = [27, 91, 50, 48, 49, 126] := by rw [ByteArray.toList_eq]; rfl
    rw [l2] at he
    have HE : Hid (endB l = decide (l.drop (l.length - 6) = endsM)) := by show _ = _; rfl
    rw [HE.out]
    generalize decide (l.drop (l.length - 6) = endsM) = bb at *
    rw [← hsz] at he h6
    have hn' : (bs8 l).size ≤ 200000 := by omega
    clear hx l2 HE hsz hn hl
    generalize bs8 l = s at *
    have hsub : (s.size : Int) - 6 = ((s.size - 6 : Nat) : Int) := by omega
    go_enter Try.func63, Try.ntmps63
    go_wp2_with fail
    go_ret
    exact ⟨rfl, rfl⟩
  · have HE : Hid (endB l = false) := by
      show _ = _
      cases h : endB l with
      | false => rfl
      | true => exact absurd (endB_len h) h6
    rw [HE.out]
    rw [← hsz] at h6
    clear HE hsz hn hl
    generalize bs8 l = s at *
    go_enter Try.func63, Try.ntmps63
    go_wp2_with fail
    go_ret
    exact ⟨rfl, rfl⟩
/-- What is cut off: the end, if it is there. -/
def cutM (l : List Int) : List Int := if endB l = true then l.take (l.length - 6) else l
set_option maxHeartbeats 1600000 in
theorem sliteCut_any (l : List Int) (hl : isB l) (hn : l.length ≤ 200000) (w : World) : Calls Try.prog 59 #[.string (bs8 l), .string ⟨#[27, 91, 50, 48, 49, 126]⟩] w fun e w' => e = .returned (.tuple #[.string (bs8 (cutM l)), .bool (endB l)]) ∧ w' = w := by
  have HH := Lib.hid fun wx : World => hasSuffix_any l hl hn wx
  have hsz := bs8_size l
  cases he : endB l with
  | true =>
    have h6 := endB_len he
    rw [he] at HH
    have HC : Hid (bs8 (cutM l) = (bs8 l).extract 0 ((bs8 l).size - 6)) := by
      show _ = _
      rw [bs8_extract hl, hsz, List.drop_zero, Nat.sub_zero]
      unfold cutM
      rw [if_pos he]
    rw [HC.out]
    rw [← hsz] at h6
    have hn' : (bs8 l).size ≤ 200000 := by omega
    clear HC hsz hn hl he
    generalize bs8 l = s at *
    have hsub : (s.size : Int) - 6 = ((s.size - 6 : Nat) : Int) := by omega
    go_enter Try.func59, Try.ntmps59
    go_wp2_with (go_at_call 63; refine (HH.out _).mono ?_; rintro e w' ⟨rfl, hw'⟩; subst hw')
    go_ret2
    exact ⟨rfl, rfl⟩
  | false =>
    rw [he] at HH
    have HC : Hid (bs8 (cutM l) = bs8 l) := by
      show _ = _
      unfold cutM
      rw [if_neg (by rw [he]; simp)]
    rw [HC.out]
    clear HC hsz hn hl he
    generalize bs8 l = s at *
    go_enter Try.func59, Try.ntmps59
    go_wp2_with (go_at_call 63; refine (HH.out _).mono ?_; rintro e w' ⟨rfl, hw'⟩; subst hw')
    go_ret2
    exact ⟨rfl, rfl⟩
theorem cutSuffix_any (l : List Int) (hl : isB l) (hn : l.length ≤ 200000) (w : World) : Calls Try.prog 45 #[.string (bs8 l), .string ⟨#[27, 91, 50, 48, 49, 126]⟩] w fun e w' => e = .returned (.tuple #[.string (bs8 (cutM l)), .bool (endB l)]) ∧ w' = w := by
  have HH := Lib.hid fun wx : World => sliteCut_any l hl hn wx
  generalize bs8 l = s at *
  generalize bs8 (cutM l) = s2 at *
  go_enter Try.func45, Try.ntmps45
  go_wp2_with (go_at_call 59; refine (HH.out _).mono ?_; rintro e w' ⟨rfl, hw'⟩; subst hw')
  go_ret2
  exact ⟨rfl, rfl⟩
end Go.Proofs.Ytmeefngkbcfpeaa
