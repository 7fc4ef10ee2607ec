/-
  typebarref20.named: the newest line that begins with a text, or has it. Conditions: the slices can be read, and are not too long.
-/
import Derived.Test.YtcbachblhfkcoaaExC
namespace Go.Proofs.Ytcbachblhfkcoaa
open Go.RowKit

theorem cell_dr {w w' : World} {p : Addr} {v : Value} (d : Dr w w') (h : w.cell? p = some v) : w'.cell? p = some v := by
  have := World.block_lt_of_cell? w p h
  rw [d.kp.cell this]; exact h

set_option maxRecDepth 100000 in
set_option maxHeartbeats 6400000 in
theorem named20 (F G H : Nat → Prop) (A B P : Option Addr) (n c m d k e : Nat) (at_ : Int) (xs : List (List Int)) (part : List Int) (anyw : Bool) (w : World)
    (hT : Txs w F G A n c xs) (hp : Ru w H P k e part) (hn : n ≤ 1099511627776) (hL : ∀ x ∈ xs, x.length ≤ 1099511627776) :
    Calls Try.prog 70 #[.agg #[.slice A n c, .int .i64 at_, .slice B m d], .slice P k e, .bool anyw] w (RetL G (xs.find? (fitsM part anyw)) w) := by
  have hcl := hT.cap
  have hle := hT.le
  have hlen := hT.len
  unfold maxLen at hcl
  have kp1 := (Kp.refl w).alloc (.cells #[.slice A n c, .int .i64 at_, .slice B m d] 37)
  have bp := Bx.new w #[.slice A n c, .int .i64 at_, .slice B m d] 37
  have hT1 := hT.kp kp1
  have hp1 := Sl.kp hp kp1
  have HL := Lib.hid hL
  have HLEN := Lib.hid hlen
  clear hL hlen hT hp
  go_enter Try.func70, Try.ntmps70
  go_wp2_with fail
  generalize w.alloc (.cells #[.slice A n c, .int .i64 at_, .slice B m d] 37) = w1 at *
  go_loopg [8] n (fun g iv wr => ∃ (i : Nat), i + g = n ∧ iv = .int .i64 i ∧ Hid (∀ j, j < i → fitsM part anyw (xs[j]?.getD []) = false) ∧ Dr w1 wr)
  case atStart => exact ⟨0, by omega, rfl, fun i hi => absurd hi (by omega), Dr.refl _⟩
  case round =>
    obtain ⟨i, hi, rfl, hf, kp⟩ := hrel
    obtain ⟨p0, p1, p2, _, _, _⟩ := (bp.kp kp.kp).three
    by_cases hin : i < n
    · have hini : (i : Int) < (n : Int) := by omega
      obtain ⟨ad, B2, m2, d2', rfl, hc, hr⟩ := (hT1.kp kp.kp).get hin
      obtain ⟨x, hx⟩ : ∃ x, x = xs[i]?.getD [] := ⟨_, rfl⟩
      rw [← hx] at hr
      have hxl : x.length ≤ 1099511627776 := by
        rw [hx, List.getElem?_eq_getElem (by rw [HLEN.out]; exact hin)]
        exact HL.out _ (List.getElem_mem _)
      have hml := hr.len
      have hmle : m2 ≤ 1099511627776 := by omega
      have hdl := hr.le
      have hdc := hr.cap
      unfold maxLen at hdc
      have HML := Lib.hid hml
      have HX := Lib.hid hx
      clear hx hxl hml
      go_wp2_with fail
      go_loopg [9] (m2 + 1) (fun g jv wr2 => ∃ (j : Nat), j + g = m2 + 1 ∧ jv = .int .i64 j ∧ Hid (∀ q, q < j → (q = 0 ∨ anyw = true) → beginsM (x.drop q) part = false) ∧ Dr wr wr2)
      case atStart => exact ⟨0, by omega, rfl, fun i hi => absurd hi (by omega), Dr.refl _⟩
      case round =>
        obtain ⟨j, hj, rfl, hg, kp2⟩ := hrel
        have kp3 := kp.trans kp2
        have bp2 := bp.kp kp3.kp
        obtain ⟨u0, u1, u2, _, _, _⟩ := bp2.three
        have hc2 := cell_dr kp2 hc
        have hr2 := Ru.kp hr kp2.kp
        have hpr := Ru.kp hp1 kp3.kp
        clear p0 p1 p2
        by_cases hjm : j ≤ m2
        · have hjmi : (j : Int) ≤ (m2 : Int) := by omega
          by_cases hj0 : j = 0
          · subst hj0
            have hd : Ru wr G B2 m2 d2' (x.drop 0) := hr2
            by_cases hck : d2' = 0
            · subst hck
              have hm0 : m2 = 0 := by omega
              subst hm0
              have HB := Lib.hid fun wx (q : Dr wr wx) => beginsR_any G H _ P 0 0 k e (x.drop 0) part wx (hd.kp q.kp) (hpr.kp q.kp)
              obtain ⟨b, hb⟩ : ∃ b, b = beginsM (x.drop 0) part := ⟨_, rfl⟩
              rw [← hb] at HB
              have HBE := Lib.hid hb
              clear hb hd
              cases b with
              | true =>
                go_wp2_with (go_at_call 79; refine (HB.out _ (Dr.refl _)).mono ?_; rintro e w2 ⟨rfl, d2⟩; have hc4 := cell_dr d2 hc2; obtain ⟨v0, v1, v2, _, _, _⟩ := (bp2.kp d2.kp).three)
                go_ret2
                rw [show xs.find? (fitsM part anyw) = some x by rw [HX.out]; exact find_first (fun j hj => hf.out j hj) (by rw [HLEN.out]; exact hin) (by rw [← HX.out]; exact fits_yes (j := 0) (by omega) (.inl rfl) HBE.out.symm)]
                exact ⟨B2, 0, 0, rfl, (hr2.kp d2.kp), (kp1.trans (kp3.trans d2).kp)⟩
              | false =>
                go_wp2_with (go_at_call 79; refine (HB.out _ (Dr.refl _)).mono ?_; rintro e w2 ⟨rfl, d2⟩)
                go_roundg 0
                case measure => omega
                case rel => exact ⟨0 + 1, by omega, by go_num, fun q hq hqa => by by_cases e : q = 0; rw [e]; exact HBE.out.symm; exact hg.out q (by omega) hqa, kp2.trans d2⟩
            · have hck' : 0 < d2' := by omega
              have HB := Lib.hid fun wx (q : Dr wr wx) => beginsR_any G H _ P m2 d2' k e (x.drop 0) part wx (hd.kp q.kp) (hpr.kp q.kp)
              obtain ⟨b, hb⟩ : ∃ b, b = beginsM (x.drop 0) part := ⟨_, rfl⟩
              rw [← hb] at HB
              have HBE := Lib.hid hb
              clear hb hd
              cases b with
              | true =>
                go_wp2_with (go_at_call 79; refine (HB.out _ (Dr.refl _)).mono ?_; rintro e w2 ⟨rfl, d2⟩; have hc4 := cell_dr d2 hc2; obtain ⟨v0, v1, v2, _, _, _⟩ := (bp2.kp d2.kp).three)
                go_ret2
                rw [show xs.find? (fitsM part anyw) = some x by rw [HX.out]; exact find_first (fun j hj => hf.out j hj) (by rw [HLEN.out]; exact hin) (by rw [← HX.out]; exact fits_yes (j := 0) (by omega) (.inl rfl) HBE.out.symm)]
                exact ⟨B2, m2, d2', rfl, (hr2.kp d2.kp), (kp1.trans (kp3.trans d2).kp)⟩
              | false =>
                go_wp2_with (go_at_call 79; refine (HB.out _ (Dr.refl _)).mono ?_; rintro e w2 ⟨rfl, d2⟩)
                go_roundg (m2 - 0)
                case measure => omega
                case rel => exact ⟨0 + 1, by omega, by go_num, fun q hq hqa => by by_cases e : q = 0; rw [e]; exact HBE.out.symm; exact hg.out q (by omega) hqa, kp2.trans d2⟩
          · have hjb : ((j : Int) == 0) = false := by simpa using hj0
            cases anyw with
            | true =>
              have hd := Ru.drop hr2 (show j ≤ m2 by omega)
              by_cases hck : d2' = j
              · rw [if_pos hck] at hd
                subst hck
                have hmj : m2 = d2' := by omega
                subst hmj
                rw [Nat.sub_self] at hd
                have HB := Lib.hid fun wx (q : Dr wr wx) => beginsR_any G H _ P 0 0 k e (x.drop m2) part wx (hd.kp q.kp) (hpr.kp q.kp)
                obtain ⟨b, hb⟩ : ∃ b, b = beginsM (x.drop m2) part := ⟨_, rfl⟩
                rw [← hb] at HB
                have HBE := Lib.hid hb
                clear hb hd
                cases b with
                | true =>
                  go_wp2_with (go_at_call 79; refine (HB.out _ (Dr.refl _)).mono ?_; rintro e w2 ⟨rfl, d2⟩; have hc4 := cell_dr d2 hc2; obtain ⟨v0, v1, v2, _, _, _⟩ := (bp2.kp d2.kp).three)
                  go_ret2
                  rw [show xs.find? (fitsM part true) = some x by rw [HX.out]; exact find_first (fun j hj => hf.out j hj) (by rw [HLEN.out]; exact hin) (by rw [← HX.out]; exact fits_yes (j := m2) (by have := HML.out; omega) (.inr rfl) HBE.out.symm)]
                  exact ⟨B2, m2, m2, rfl, (hr2.kp d2.kp), (kp1.trans (kp3.trans d2).kp)⟩
                | false =>
                  go_wp2_with (go_at_call 79; refine (HB.out _ (Dr.refl _)).mono ?_; rintro e w2 ⟨rfl, d2⟩)
                  go_roundg 0
                  case measure => omega
                  case rel => exact ⟨m2 + 1, by omega, by go_num, fun q hq hqa => by by_cases e : q = m2; rw [e]; exact HBE.out.symm; exact hg.out q (by omega) hqa, kp2.trans d2⟩
              · rw [if_neg hck] at hd
                have hck' : j < d2' := by omega
                have HB := Lib.hid fun wx (q : Dr wr wx) => beginsR_any G H _ P (m2 - j) (d2' - j) k e (x.drop j) part wx (hd.kp q.kp) (hpr.kp q.kp)
                obtain ⟨b, hb⟩ : ∃ b, b = beginsM (x.drop j) part := ⟨_, rfl⟩
                rw [← hb] at HB
                have HBE := Lib.hid hb
                clear hb hd
                cases b with
                | true =>
                  go_wp2_with (go_at_call 79; refine (HB.out _ (Dr.refl _)).mono ?_; rintro e w2 ⟨rfl, d2⟩; have hc4 := cell_dr d2 hc2; obtain ⟨v0, v1, v2, _, _, _⟩ := (bp2.kp d2.kp).three)
                  go_ret2
                  rw [show xs.find? (fitsM part true) = some x by rw [HX.out]; exact find_first (fun j hj => hf.out j hj) (by rw [HLEN.out]; exact hin) (by rw [← HX.out]; exact fits_yes (j := j) (by have := HML.out; omega) (.inr rfl) HBE.out.symm)]
                  exact ⟨B2, m2, d2', rfl, (hr2.kp d2.kp), (kp1.trans (kp3.trans d2).kp)⟩
                | false =>
                  go_wp2_with (go_at_call 79; refine (HB.out _ (Dr.refl _)).mono ?_; rintro e w2 ⟨rfl, d2⟩)
                  go_roundg (m2 - j)
                  case measure => omega
                  case rel => exact ⟨j + 1, by omega, by go_num, fun q hq hqa => by by_cases e : q = j; rw [e]; exact HBE.out.symm; exact hg.out q (by omega) hqa, kp2.trans d2⟩
            | false =>
              have HQ : Hid (∀ q, q < j + 1 → (q = 0 ∨ false = true) → beginsM (x.drop q) part = false) := fun q hq hqa => hg.out q (by rcases hqa with h | h; omega; cases h) hqa
              go_wp2_with fail
              go_roundg (m2 - j)
              case measure => omega
              case rel => exact ⟨j + 1, by omega, by go_num, HQ, kp2⟩
        · have hjmi : ¬ ((j : Int) ≤ (m2 : Int)) := by omega
          have HFN : Hid (fitsM part anyw (xs[i]?.getD []) = false) := by rw [← HX.out]; exact fits_no fun q hq hqa => hg.out q (by have := HML.out; omega) hqa
          go_wp2_with fail
          go_roundg (n - (i + 1))
          case measure => omega
          case rel => exact ⟨i + 1, by omega, by go_num, fun q hq => by by_cases e : q = i; rw [e]; exact HFN.out; exact hf.out q (by omega), kp3⟩
    · have hini : ¬ ((i : Int) < (n : Int)) := by omega
      go_wp2_with fail
      go_ret2
      rw [find_no fun j hj => hf.out j (by rw [HLEN.out] at hj; omega)]
      exact ⟨none, 0, 0, rfl, Ru.nil _ _, kp1.trans kp.kp⟩
end Go.Proofs.Ytcbachblhfkcoaa
