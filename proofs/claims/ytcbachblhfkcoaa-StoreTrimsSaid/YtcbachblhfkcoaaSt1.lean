/-
  package store and typebarref47: a line's text, the check, the entry: what they return. Conditions: not more than 100000 scalars, or 2^30 bytes.
-/
import Derived.Test.YtcbachblhfkcoaaSPutE
import Derived.Test.YtcbachblhfkcoaaBld
import Derived.BigQuiet
namespace Go.Proofs.Ytcbachblhfkcoaa
open Go.RowKit

/-- A line's text. -/
def escM (r : Int) : List Int := if r = 10 then [92, 110] else if r = 92 then [92, 92] else putM r
def textM (l : List Int) : List Int := l.flatMap escM
theorem escM_bd (r : Int) : isB (escM r) := by
  unfold escM
  split
  · intro b hb; simp at hb; omega
  · split
    · intro b hb; simp at hb; omega
    · exact putM_bd r
theorem escM_len (r : Int) : (escM r).length ≤ 4 := by
  unfold escM
  split
  · simp
  · split
    · simp
    · exact (putM_len r).2
theorem textM_bd (l : List Int) : isB (textM l) := by
  intro b hb
  obtain ⟨r, _, hr⟩ := List.mem_flatMap.1 hb
  exact escM_bd r b hr
theorem textM_len (l : List Int) : (textM l).length ≤ 4 * l.length := by
  induction l with
  | nil => simp [textM]
  | cons r t ih =>
    have : textM (r :: t) = escM r ++ textM t := by simp [textM]
    rw [this, List.length_append]
    have := escM_len r
    simp only [List.length_cons]
    omega
theorem textM_take {l : List Int} {k : Nat} {x : Int} (h : l[k]? = some x) : textM (l.take (k + 1)) = textM (l.take k) ++ escM x := by
  obtain ⟨hk, hx⟩ := List.getElem?_eq_some_iff.1 h
  rw [List.take_succ_eq_append_getElem hk, hx]
  simp [textM]
theorem textM_take_len (l : List Int) (k : Nat) : (textM (l.take k)).length ≤ 4 * k := by
  have h1 := textM_len (l.take k)
  have h2 : (l.take k).length ≤ k := by rw [List.length_take]; omega
  omega
theorem bsN : bs [92, 110] = ⟨#[92, 110]⟩ := rfl
theorem bsE : bs [92, 92] = ⟨#[92, 92]⟩ := rfl

set_option maxRecDepth 100000 in
set_option maxHeartbeats 1600000 in
theorem escaped_any (F : Nat → Prop) (A : Option Addr) (n c : Nat) (l : List Int) (w : World) (hl : Ru w F A n c l) (hn : n ≤ 1000000) : Calls Try.prog 50 #[.slice A n c] w fun e w' => e = .returned (.string (bs (textM l))) ∧ Kp w w' := by
  have hle := hl.le
  have hcap := hl.cap
  unfold maxLen at hcap
  have HLEN := Lib.hid hl.len
  go_enter Try.func50, Try.ntmps50
  go_wp2_with fail
  go_loopg [8] n (fun g i wr => ∃ (k : Nat), k + g = n ∧ i = .int .i64 k ∧ Bld wr w.heap.size w.heap.size (textM (l.take k)) ∧ Kp w wr)
  case atStart => exact ⟨0, by omega, rfl, Bld.new w, (Kp.refl w).alloc _⟩
  case round =>
    obtain ⟨k, hk, rfl, hb, kw⟩ := hrel
    by_cases hlt : k < n
    · obtain ⟨x, hx⟩ : ∃ x, l[k]? = some x := ⟨l[k]'(by rw [HLEN.out]; exact hlt), List.getElem?_eq_getElem _⟩
      obtain ⟨ad, rfl, hc⟩ := Ru.get (hl.kp kw) hlt
      have HT := Lib.hid (textM_take hx)
      rw [hx] at hc
      dsimp only [Option.getD_some] at hc
      clear hx
      have hml := textM_take_len l k
      have hmb : (textM (l.take k)).length ≤ 1099511627776 := by omega
      by_cases h10 : x = 10
      · subst h10
        have HW := Lib.hid (bld_str w.heap.size w.heap.size (textM (l.take k)) [92, 110] wr hb (by intro b hb; simp at hb; omega) hmb (by simp))
        rw [bsN] at HW
        clear hml hmb hb
        go_wp2_with (go_at_call 71; refine HW.out.mono ?_; rintro e w2 ⟨rfl, hb2, k2⟩)
        go_roundg (n - (k + 1))
        case measure => omega
        case rel => exact ⟨k + 1, by omega, by go_num, by rw [HT.out]; exact hb2, Kp.below_trans kw (Nat.le_refl _) k2⟩
      · by_cases h92 : x = 92
        · subst h92
          have HW := Lib.hid (bld_str w.heap.size w.heap.size (textM (l.take k)) [92, 92] wr hb (by intro b hb; simp at hb; omega) hmb (by simp))
          rw [bsE] at HW
          clear hml hmb hb
          go_wp2_with (go_at_call 71; refine HW.out.mono ?_; rintro e w2 ⟨rfl, hb2, k2⟩)
          go_roundg (n - (k + 1))
          case measure => omega
          case rel => exact ⟨k + 1, by omega, by go_num, by rw [HT.out]; exact hb2, Kp.below_trans kw (Nat.le_refl _) k2⟩
        · have b10 : (x == 10) = false := by simpa using h10
          have b92 : (x == 92) = false := by simpa using h92
          have HE : Hid (escM x = putM x) := by show _ = _; unfold escM; rw [if_neg h10, if_neg h92]
          clear h10 h92
          go_wp2_with (first
            | (go_at_call 72; refine (put_any x _).mono ?_; rintro e w2 ⟨rfl, k2⟩; have hb2 := hb.kp k2)
            | (go_at_call 71; refine (bld_str w.heap.size w.heap.size (textM (l.take k)) (putM x) _ hb2 (putM_bd x) hmb (by have := putM_len x; omega)).mono ?_; rintro e w3 ⟨rfl, hb3, k3⟩))
          go_roundg (n - (k + 1))
          case measure => omega
          case rel => exact ⟨k + 1, by omega, by go_num, by rw [HT.out, HE.out]; exact hb3, Kp.below_trans (kw.trans k2) (Nat.le_refl _) k3⟩
    · obtain rfl : k = n := by omega
      have hta : l.take k = l := List.take_of_length_le (by rw [HLEN.out]; omega)
      rw [hta] at hb
      have HS := Lib.hid (bld_string w.heap.size w.heap.size (textM l) wr hb.f)
      clear hta hb
      go_wp2_with (go_at_call 73; refine HS.out.mono ?_; rintro e w2 ⟨rfl, hb2, k2⟩)
      go_ret
      exact ⟨rfl, Kp.below_trans kw (Nat.le_refl _) k2⟩

set_option maxRecDepth 100000 in
set_option maxHeartbeats 1600000 in
theorem text_any (F : Nat → Prop) (A : Option Addr) (n c : Nat) (l : List Int) (w : World) (hl : Ru w F A n c l) (hn : n ≤ 1000000) : Calls Try.prog 52 #[.slice A n c] w fun e w' => e = .returned (.string (bs (textM l))) ∧ Kp w w' := by
  have hle := hl.le
  have hcap := hl.cap
  unfold maxLen at hcap
  have HLEN := Lib.hid hl.len
  go_enter Try.func52, Try.ntmps52
  go_wp2_with fail
  go_loopg [3, 4] n (fun g v3 i wr => ∃ (k : Nat), k + g = n ∧ i = .int .i64 k ∧ v3 = .string (bs (textM (l.take k))) ∧ Kp w wr)
  case atStart => exact ⟨0, by omega, rfl, rfl, Kp.refl _⟩
  case round =>
    obtain ⟨k, hk, rfl, rfl, kw⟩ := hrel
    by_cases hlt : k < n
    · obtain ⟨x, hx⟩ : ∃ x, l[k]? = some x := ⟨l[k]'(by rw [HLEN.out]; exact hlt), List.getElem?_eq_getElem _⟩
      obtain ⟨ad, rfl, hc⟩ := Ru.get (hl.kp kw) hlt
      have HT := Lib.hid (textM_take hx)
      rw [hx] at hc
      dsimp only [Option.getD_some] at hc
      clear hx
      have hb1 : (bs (textM (l.take k))).size ≤ 4000000 := by rw [bs_size]; have := textM_take_len l k; omega
      have HAP : Hid (bs (textM (l.take (k + 1))) = bs (textM (l.take k)) ++ bs (escM x)) := by show _ = _; rw [HT.out, bs_app]
      generalize bs (textM (l.take k)) = s1 at *
      by_cases h10 : x = 10
      · subst h10
        rw [show bs (escM 10) = ⟨#[92, 110]⟩ from rfl] at HAP
        go_wp2_with fail
        go_roundg (n - (k + 1))
        case measure => omega
        case rel => exact ⟨k + 1, by omega, by go_num, by rw [HAP.out], kw⟩
      · by_cases h92 : x = 92
        · subst h92
          rw [show bs (escM 92) = ⟨#[92, 92]⟩ from rfl] at HAP
          go_wp2_with fail
          go_roundg (n - (k + 1))
          case measure => omega
          case rel => exact ⟨k + 1, by omega, by go_num, by rw [HAP.out], kw⟩
        · have b10 : (x == 10) = false := by simpa using h10
          have b92 : (x == 92) = false := by simpa using h92
          rw [show escM x = putM x by unfold escM; rw [if_neg h10, if_neg h92]] at HAP
          have hb2 : (bs (putM x)).size ≤ 4 := by rw [bs_size]; exact (putM_len x).2
          clear h10 h92
          go_wp2_with fail
          refine (refPut_any x wr).mono ?_
          rintro e w2 ⟨rfl, k2⟩
          have kw2 := kw.trans k2
          clear hc kw k2
          generalize bs (putM x) = s2 at *
          go_wp2_with fail
          go_roundg (n - (k + 1))
          case measure => omega
          case rel => exact ⟨k + 1, by omega, by go_num, by rw [HAP.out], kw2⟩
    · obtain rfl : k = n := by omega
      have hta : l.take k = l := List.take_of_length_le (by rw [HLEN.out]; omega)
      rw [hta]
      clear hta
      go_wp2_with fail
      go_ret
      exact ⟨rfl, kw⟩
end Go.Proofs.Ytcbachblhfkcoaa
