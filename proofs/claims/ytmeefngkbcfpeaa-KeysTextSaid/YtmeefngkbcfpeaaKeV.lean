/-
  typebarref22: control, chars, letter, number. Conditions: a byte from 0 to 255; not more than 1000000 runes.
-/
import Derived.Test.YtmeefngkbcfpeaaKeU
namespace Go.Proofs.Ytmeefngkbcfpeaa
open Go.RowKit

theorem Bx.four4 {w : World} {b : Nat} {t : TypeId} {x0 x1 x2 x3 : Value} (h : Bx w b #[x0, x1, x2, x3] t) :
    (w.cell? ⟨b, 0, none⟩ = some x0 ∧ w.cell? ⟨b, 1, none⟩ = some x1 ∧ w.cell? ⟨b, 2, none⟩ = some x2 ∧ w.cell? ⟨b, 3, none⟩ = some x3) ∧
    (w.frozen? ⟨b, 0, none⟩ = false ∧ w.frozen? ⟨b, 1, none⟩ = false ∧ w.frozen? ⟨b, 2, none⟩ = false ∧ w.frozen? ⟨b, 3, none⟩ = false) :=
  ⟨⟨h.cell 0, h.cell 1, h.cell 2, h.cell 3⟩, h.frozen 0, h.frozen 1, h.frozen 2, h.frozen 3⟩
theorem refControl_any (b : Int) (w : World) : Calls Try.prog 48 #[.int .u8 b] w fun e w' => e = .returned (.bool (ctlM b)) ∧ w' = w := by
  by_cases h1 : b < 32
  · have HE : Hid (ctlM b = true) := by show _ = _; simp [ctlM, h1]
    go_enter Try.func48, Try.ntmps48
    go_wp2
    go_ret
    exact ⟨by rw [HE.out]; rfl, rfl⟩
  · by_cases h2 : b = 127
    · subst h2
      have HE : Hid (ctlM 127 = true) := by show _ = _; rfl
      clear h1
      go_enter Try.func48, Try.ntmps48
      go_wp2
      go_ret
      exact ⟨by rw [HE.out]; rfl, rfl⟩
    · have HE : Hid (ctlM b = false) := by show _ = _; simp [ctlM, h1, h2]
      have hb : (b == 127) = false := by simpa using h2
      clear h2
      go_enter Try.func48, Try.ntmps48
      go_wp2
      go_ret
      exact ⟨by rw [HE.out]; rfl, rfl⟩

set_option maxRecDepth 100000 in
set_option maxHeartbeats 1600000 in
theorem chars_any (met : Bool) (A : Option Addr) (n c : Nat) (l : List Int) (w : World) (hl : Ru w Any A n c l) (hn : n ≤ 1000000) : Calls Try.prog 62 #[.slice A n c, .bool met] w (RetKs (charsM l met) w) := by
  have HL := Lib.hid hl.len
  have hle := hl.le
  have hcap := hl.cap
  unfold maxLen at hcap
  have HMK : Hid (∀ k : Nat, mkM met k = (met && ((k : Int) == 0))) := (fun k => by unfold mkM; by_cases h : k = 0 <;> simp [h] : ∀ k : Nat, mkM met k = (met && ((k : Int) == 0)))
  cases met with
  | true =>
    go_enter Try.func62, Try.ntmps62
    go_wp2_with fail
    go_loopg [5, 6] n (fun g ov iv wr => ∃ (k : Nat) (A3 : Option Addr) (c3 : Nat), k + g = n ∧ iv = .int .i64 k ∧ ov = .slice A3 k c3 ∧ Own wr w.heap.size 57 4 A3 k c3 (K4 ((charsM l true).take k)) ∧ Kp w wr)
    case atStart => exact ⟨0, none, 0, by omega, rfl, rfl, Own.nil _ _ _ _, Kp.refl _⟩
    case round =>
      obtain ⟨k, A3, c3, hk, rfl, rfl, ho, kw⟩ := hrel
      by_cases hlt : k < n
      · obtain ⟨ad, rfl, hc⟩ := Ru.get (hl.kp kw) hlt
        have hts := charsM_snoc (l := l) (k := k) (by rw [HL.out]; exact hlt) true
        rw [HMK.out k, Bool.true_and] at hts
        have HTS := Lib.hid hts
        have hz0 := kw.size
        generalize l[k]?.getD 0 = x at *
        clear hts
        go_wp2_with (at_builtin; refine wpList_append_sl _ rfl (.tmp 13) (.tmp 24) _ rfl w.heap.size 57 _ 4 40 Try.underlying46 infoKey rfl (by omega) A3 k c3 (K4 ((charsM l true).take k)) rfl (ho.alloc _) Any _ 1 1 [.int .i64 1, .int .i32 x, .bool ((k : Int) == 0), .slice none 0 0] rfl (Sl.new _ _ _ _ _ trivial rfl (by omega)) (by simp [Value.oneCell']) (by simp only [maxLen]; omega) (by omega) (by first | omega | (simp; omega)) ?_; intro A4 c4 w4 hown4 hg4 hat4)
        have ka := kw.alloc (.cells #[.int .i64 1, .int .i32 x, .bool ((k : Int) == 0), .slice none 0 0] 57)
        go_roundg (n - (k + 1))
        case measure => omega
        case rel => exact ⟨k + 1, A4, c4, by omega, by go_num, rfl, by rw [HTS.out]; exact hown4, ka.grown hg4 fun g e => (ho.lt g e).1⟩
      · obtain rfl : k = n := by omega
        have hta : (charsM l true).take k = charsM l true := List.take_of_length_le (by rw [charsM_len, HL.out]; omega)
        rw [hta] at ho
        clear hta
        go_wp2_with fail
        go_ret
        exact ⟨A3, k, c3, rfl, ho, kw⟩
  | false =>
    go_enter Try.func62, Try.ntmps62
    go_wp2_with fail
    go_loopg [5, 6] n (fun g ov iv wr => ∃ (k : Nat) (A3 : Option Addr) (c3 : Nat), k + g = n ∧ iv = .int .i64 k ∧ ov = .slice A3 k c3 ∧ Own wr w.heap.size 57 4 A3 k c3 (K4 ((charsM l false).take k)) ∧ Kp w wr)
    case atStart => exact ⟨0, none, 0, by omega, rfl, rfl, Own.nil _ _ _ _, Kp.refl _⟩
    case round =>
      obtain ⟨k, A3, c3, hk, rfl, rfl, ho, kw⟩ := hrel
      by_cases hlt : k < n
      · obtain ⟨ad, rfl, hc⟩ := Ru.get (hl.kp kw) hlt
        have hts := charsM_snoc (l := l) (k := k) (by rw [HL.out]; exact hlt) false
        rw [HMK.out k, Bool.false_and] at hts
        have HTS := Lib.hid hts
        have hz0 := kw.size
        generalize l[k]?.getD 0 = x at *
        clear hts
        go_wp2_with (at_builtin; refine wpList_append_sl _ rfl (.tmp 13) (.tmp 24) _ rfl w.heap.size 57 _ 4 40 Try.underlying46 infoKey rfl (by omega) A3 k c3 (K4 ((charsM l false).take k)) rfl (ho.alloc _) Any _ 1 1 [.int .i64 1, .int .i32 x, .bool false, .slice none 0 0] rfl (Sl.new _ _ _ _ _ trivial rfl (by omega)) (by simp [Value.oneCell']) (by simp only [maxLen]; omega) (by omega) (by first | omega | (simp; omega)) ?_; intro A4 c4 w4 hown4 hg4 hat4)
        have ka := kw.alloc (.cells #[.int .i64 1, .int .i32 x, .bool false, .slice none 0 0] 57)
        go_roundg (n - (k + 1))
        case measure => omega
        case rel => exact ⟨k + 1, A4, c4, by omega, by go_num, rfl, by rw [HTS.out]; exact hown4, ka.grown hg4 fun g e => (ho.lt g e).1⟩
      · obtain rfl : k = n := by omega
        have hta : (charsM l false).take k = charsM l false := List.take_of_length_le (by rw [charsM_len, HL.out]; omega)
        rw [hta] at ho
        clear hta
        go_wp2_with fail
        go_ret
        exact ⟨A3, k, c3, rfl, ho, kw⟩

/-- Which of the six letters, so far. -/
def lettersK (b : Int) : Nat → Int
  | 0 => 0
  | k + 1 => if ([65, 66, 67, 68, 72, 70] : List Int)[k]?.getD 0 = b then (k : Int) + 1 else lettersK b k
theorem lettersK_six (b : Int) : lettersK b 6 = letterM b := by
  unfold letterM
  simp [lettersK]
  split <;> split <;> omega
/-- The key of a name as a value. -/
def kyv (k : Ky) : Value := .agg #[.int .i64 k.kind, .int .i32 k.rune, .bool k.met, .slice none 0 0]

set_option maxRecDepth 100000 in
set_option maxHeartbeats 1600000 in
theorem refLetter_any (b : Int) (w : World) : Calls Try.prog 50 #[.int .u8 b] w fun e w' => e = .returned (kyv (letterR b)) ∧ Kp w w' := by
  have HK6 := Lib.hid (lettersK_six b)
  have hl6 : ∀ k : Nat, k ≤ 6 → 0 ≤ lettersK b k ∧ lettersK b k ≤ 6 := by
    intro k
    induction k with
    | zero => intro _; exact ⟨by simp [lettersK], by simp [lettersK]⟩
    | succ k ih =>
      intro h
      unfold lettersK
      split
      · omega
      · exact ih (by omega)
  have HL6 := Lib.hid (hl6 6 (Nat.le_refl _))
  clear hl6
  have bx0 := Bx.new w #[.int .i64 0, .int .i32 0, .bool false, .slice none 0 0] 57
  have kp0 := (Kp.refl w).alloc (.cells #[.int .i64 0, .int .i32 0, .bool false, .slice none 0 0] 57)
  go_enter Try.func50, Try.ntmps50
  go_wp2_with fail
  go_loopg [3, 5] 6 (fun g av iv wr => ∃ (k : Nat), k + g = 6 ∧ iv = .int .i64 k ∧ av = .int .i64 (lettersK b k) ∧ Bx wr w.heap.size #[.int .i64 0, .int .i32 0, .bool false, .slice none 0 0] 57 ∧ Kp w wr)
  case atStart => exact ⟨0, by omega, rfl, rfl, bx0, kp0⟩
  case round =>
    clear bx0 kp0
    obtain ⟨k, hk, rfl, rfl, hbx, kw⟩ := hrel
    by_cases hlt : k < 6
    · have hix := run_index_str (P := Try.prog) wr 9 ⟨#[65, 66, 67, 68, 72, 70]⟩ .i64 k k Try.underlying9 rfl hlt _ rfl
      have hby : by8 ⟨#[65, 66, 67, 68, 72, 70]⟩ = [65, 66, 67, 68, 72, 70] := rfl
      rw [hby] at hix
      have hst : lettersK b (k + 1) = if ([65, 66, 67, 68, 72, 70] : List Int)[k]?.getD 0 = b then (k : Int) + 1 else lettersK b k := rfl
      generalize ([65, 66, 67, 68, 72, 70] : List Int)[k]?.getD 0 = x at *
      clear hby
      by_cases hx : x = b
      · rw [if_pos hx] at hst
        have HST := Lib.hid hst
        have hb : (x == b) = true := by simpa using hx
        clear hst hx
        go_wp2_with fail
        go_roundg (6 - (k + 1))
        case measure => omega
        case rel => exact ⟨k + 1, by omega, by go_num, by rw [HST.out], hbx, kw⟩
      · rw [if_neg hx] at hst
        have HST := Lib.hid hst
        have hb : (x == b) = false := by simpa using hx
        clear hst hx
        go_wp2_with fail
        go_roundg (6 - (k + 1))
        case measure => omega
        case rel => exact ⟨k + 1, by omega, by go_num, by rw [HST.out], hbx, kw⟩
    · obtain rfl : k = 6 := by omega
      obtain ⟨l0, l1⟩ := HL6.out
      have HR : Hid (letterR b = if lettersK b 6 = 0 then ⟨5, 0, false, []⟩ else ⟨3, lettersK b 6, false, []⟩) := by show _ = _; rw [HK6.out]; rfl
      clear HK6 HL6
      generalize lettersK b 6 = x at *
      obtain ⟨⟨p0, p1, p2, p3⟩, q0, q1, q2, q3⟩ := hbx.four4
      by_cases hx : x = 0
      · subst hx
        have HR2 : Hid (letterR b = ⟨5, 0, false, []⟩) := by show _ = _; rw [HR.out, if_pos rfl]
        clear HR
        go_wp2_with fail
        refine bodyPost_ret (v := kyv ⟨5, 0, false, []⟩) (by simp [results, Try.results50, go_sem, p0, p1, p2, p3, kyv]) rfl ?_
        exact ⟨by rw [HR2.out], (((kw.setCell (p := ⟨_, _, _⟩) (Nat.le_refl _) _).setCell (p := ⟨_, _, _⟩) (Nat.le_refl _) _).setCell (p := ⟨_, _, _⟩) (Nat.le_refl _) _).setCell (p := ⟨_, _, _⟩) (Nat.le_refl _) _⟩
      · have HR2 : Hid (letterR b = ⟨3, x, false, []⟩) := by show _ = _; rw [HR.out, if_neg hx]
        clear HR
        have hb : (x == 0) = false := by simpa using hx
        have hwr : IntKind.i32.wrap x = x := by simp [IntKind.wrap, IntKind.signed, IntKind.bits]; omega
        go_wp2_with fail
        refine bodyPost_ret (v := kyv ⟨3, x, false, []⟩) (by simp [results, Try.results50, go_sem, p0, p1, p2, p3, kyv]) rfl ?_
        exact ⟨by rw [HR2.out], (((kw.setCell (p := ⟨_, _, _⟩) (Nat.le_refl _) _).setCell (p := ⟨_, _, _⟩) (Nat.le_refl _) _).setCell (p := ⟨_, _, _⟩) (Nat.le_refl _) _).setCell (p := ⟨_, _, _⟩) (Nat.le_refl _) _⟩

set_option maxRecDepth 100000 in
set_option maxHeartbeats 3200000 in
theorem refNumber_any (l : List Int) (hl : isB l) (w : World) : Calls Try.prog 61 #[.string (bs8 l)] w fun e w' => e = .returned (kyv (numberR l)) ∧ Kp w w' := by
  have hsz := bs8_size l
  by_cases h1 : l.length = 1
  · obtain ⟨x, rfl⟩ : ∃ x, l = [x] := by
      match l, h1 with
      | [x], _ => exact ⟨x, rfl⟩
    obtain ⟨x0, x1⟩ := hl x (by simp)
    have hs1 : (bs8 [x]).size = 1 := by rw [hsz]; rfl
    have hix := fun wx : World => run_index_str (P := Try.prog) wx 9 (bs8 [x]) .i64 0 0 Try.underlying9 rfl (by omega) x (by rw [by8_bs8 hl]; rfl)
    generalize bs8 [x] = s at *
    clear hsz hl h1
    by_cases h2 : 49 ≤ x ∧ x ≤ 56
    · obtain rfl | rfl | rfl | rfl | rfl | rfl | rfl | rfl : x = 49 ∨ x = 50 ∨ x = 51 ∨ x = 52 ∨ x = 53 ∨ x = 54 ∨ x = 55 ∨ x = 56 := by omega
      all_goals
        clear h2 x0 x1
        go_enter Try.func61, Try.ntmps61
        go_wp2_with fail
        first
          | (refine bodyPost_ret (v := kyv ⟨3, 5, false, []⟩) ?_ rfl ?_; (focus (simp [results, Try.results61, go_sem, kyv]; done)); (exact ⟨rfl, ((Kp.refl w).alloc _).alloc _⟩))
          | (refine bodyPost_ret (v := kyv ⟨3, 6, false, []⟩) ?_ rfl ?_; (focus (simp [results, Try.results61, go_sem, kyv]; done)); (exact ⟨rfl, ((Kp.refl w).alloc _).alloc _⟩))
          | (refine bodyPost_ret (v := kyv ⟨3, 7, false, []⟩) ?_ rfl ?_; (focus (simp [results, Try.results61, go_sem, kyv]; done)); (exact ⟨rfl, ((Kp.refl w).alloc _).alloc _⟩))
          | (refine bodyPost_ret (v := kyv ⟨3, 8, false, []⟩) ?_ rfl ?_; (focus (simp [results, Try.results61, go_sem, kyv]; done)); (exact ⟨rfl, ((Kp.refl w).alloc _).alloc _⟩))
          | (refine bodyPost_ret (v := kyv ⟨3, 9, false, []⟩) ?_ rfl ?_; (focus (simp [results, Try.results61, go_sem, kyv]; done)); (exact ⟨rfl, ((Kp.refl w).alloc _).alloc _⟩))
          | (refine bodyPost_ret (v := kyv ⟨3, 10, false, []⟩) ?_ rfl ?_; (focus (simp [results, Try.results61, go_sem, kyv]; done)); (exact ⟨rfl, ((Kp.refl w).alloc _).alloc _⟩))
    · by_cases h3 : x < 49
      · have HR : Hid (numberR [x] = ⟨5, 0, false, []⟩) := by show _ = _; unfold numberR; rw [if_neg (fun h => by simp at h; omega)]
        clear h2
        go_enter Try.func61, Try.ntmps61
        go_wp2_with fail
        refine bodyPost_ret (v := kyv ⟨5, 0, false, []⟩) (by simp [results, Try.results61, go_sem, kyv]) rfl ?_
        exact ⟨by rw [HR.out], (Kp.refl w).alloc _⟩
      · have HR : Hid (numberR [x] = ⟨5, 0, false, []⟩) := by show _ = _; unfold numberR; rw [if_neg (fun h => by simp at h; omega)]
        have h4 : 56 < x := by omega
        have h5 : 49 ≤ x := by omega
        clear h2 h3
        go_enter Try.func61, Try.ntmps61
        go_wp2_with fail
        refine bodyPost_ret (v := kyv ⟨5, 0, false, []⟩) (by simp [results, Try.results61, go_sem, kyv]) rfl ?_
        exact ⟨by rw [HR.out], (Kp.refl w).alloc _⟩
  · have HR : Hid (numberR l = ⟨5, 0, false, []⟩) := by show _ = _; unfold numberR; rw [if_neg (fun h => h1 h.1)]
    have hn1 : ((bs8 l).size : Int) ≠ 1 := by omega
    have hb : (((bs8 l).size : Int) != 1) = true := by simpa using hn1
    generalize bs8 l = s at *
    clear hsz hl h1 hn1
    go_enter Try.func61, Try.ntmps61
    go_wp2_with fail
    refine bodyPost_ret (v := kyv ⟨5, 0, false, []⟩) (by simp [results, Try.results61, go_sem, kyv]) rfl ?_
    exact ⟨by rw [HR.out], (Kp.refl w).alloc _⟩
end Go.Proofs.Ytmeefngkbcfpeaa
