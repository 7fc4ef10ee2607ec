/-
  typebarref20.event, whole: a word, and all ways together. Conditions: the slices can be read, and are not too long.
-/
import Derived.Deep.DeepCutAuto
import Derived.Deep.CutBlock
import Derived.Test.YtcbachblhfkcoaaExF
namespace Go.Proofs.Ytcbachblhfkcoaa
open Go.RowKit

section
variable (F G H : Nat → Prop) (A B S : Option Addr) (n c m d q r a : Nat) (at_ : Int) (L : List (List Int)) (s : List Int) (w : World)

set_option maxRecDepth 100000 in
set_option maxHeartbeats 3200000 in
theorem refEv_word (hX : Txs w F G A n c L.reverse) (hs : Ru w H S q r s) (ha : a < q) (hq : q ≤ 1000000) (hn : n ≤ 2000) (hL : ∀ x ∈ L, x.length ≤ 1099511627776) (h33 : s[a]?.getD 0 ≠ 33) (h63 : s[a]?.getD 0 ≠ 63)
    (hn0 : (numM (s.drop a)).2 = 0) (h45 : ¬ (s[a]?.getD 0 = 45 ∧ 0 < (numM (s.drop (a + 1))).2)) :
    Calls Try.prog 49 #[.agg #[.slice A n c, .int .i64 at_, .slice B m d], .slice S q r, .int .i64 a] w (RetE G (eventM L (s.drop a)) w) := by
  have hlen := hs.len
  have hle := hs.le
  have hcp := hs.cap
  unfold maxLen at hcp
  obtain ⟨k, hkk⟩ : ∃ k, k = spanG wordP (s.drop a) := ⟨_, rfl⟩
  have hkq : a + k ≤ q := by have := spanG_le wordP (s.drop a); rw [List.length_drop] at this; omega
  have HE : Hid (eventM L (s.drop a) = if k = 0 then some ([], 0) else (newM L fun l => beginsM l ((s.drop a).take k)).map (·, k)) := by
    show _ = _
    rw [hkk]
    rw [drop_cons (by omega)] at hn0 ⊢
    split
    · rename_i h; rw [evM_w0 L h33 hn0 h45 h63 h]
    · rename_i h; rw [evM_w L h33 hn0 h45 h63 h]
  have kp1 := (Kp.refl w).alloc (.cells #[.slice A n c, .int .i64 at_, .slice B m d] 37)
  have bp := Bx.new w #[.slice A n c, .int .i64 at_, .slice B m d] 37
  have hX1 := hX.kp kp1
  have hs1 := Sl.kp hs kp1
  obtain ⟨ad, rfl, hca⟩ := Ru.get hs1 ha
  have HD := Lib.hid (digits_any H (some ad) q r a s (w.alloc (.cells #[.slice A n c, .int .i64 at_, .slice B m d] 37)) hs1 (by omega) (by omega))
  rw [hn0] at HD
  have hne : ((a : Int) == (q : Int)) = false := by simp; omega
  have HD2 := Lib.hid fun (w2 : World) (kk : Kp (w.alloc (.cells #[.slice A n c, .int .i64 at_, .slice B m d] 37)) w2) => digits_any H (some ad) q r (a + 1) s w2 (Sl.kp hs1 kk) (by omega) (by omega)
  rw [show ((a + 1 : Nat) : Int) = (a : Int) + 1 by omega] at HD2
  obtain ⟨x0, hx0⟩ : ∃ x0, x0 = s[a]?.getD 0 := ⟨_, rfl⟩
  rw [← hx0] at h33 h63 h45 hca
  have b33 : (x0 == 33) = false := by simpa using h33
  have b63 : (x0 == 63) = false := by simpa using h63
  obtain ⟨v2, hv2⟩ : ∃ v, v = (numM (s.drop (a + 1))).1 := ⟨_, rfl⟩
  obtain ⟨k2, hkk2⟩ : ∃ k, k = (numM (s.drop (a + 1))).2 := ⟨_, rfl⟩
  rw [← hv2, ← hkk2] at HD2
  rw [← hkk2] at h45
  have H45 := Lib.hid h45
  have HKK := Lib.hid hkk
  have HLEN := Lib.hid hlen
  have HS := Lib.hid hs1
  have HL := Lib.hid hL
  clear hX hs hlen hs1 hkk hL h45 hx0 hv2 hkk2 h33 h63 hn0
  go_enter Try.func49, Try.ntmps49
  go_wp2_with fail
  generalize w.alloc (.cells #[.slice A n c, .int .i64 at_, .slice B m d] 37) = w1 at *
  refine HD.out.mono ?_
  rintro e w2 ⟨rfl, d2⟩
  have hcb := cell_dr d2 hca
  clear hca
  go_wp2_with fail
  refine (HD2.out _ d2.kp).mono ?_
  rintro e w3 ⟨rfl, d3⟩
  have hcb2 := cell_dr d3 hcb
  obtain ⟨p0, p1, p2, _, _, _⟩ := (bp.kp (d2.trans d3).kp).three
  clear hcb
  go_upto_region 11 with fail
  go_cut [76] (fun v wx => v = .bool false ∧ wx = w3)
  case first =>
    by_cases h1 : x0 = 45
    · subst h1
      obtain rfl : k2 = 0 := by have := H45.out; omega
      go_wp2_with fail
      go_meet
      exact ⟨rfl, rfl⟩
    · have b45 : (x0 == 45) = false := by simpa using h1
      go_wp2_with fail
      go_meet
      exact ⟨rfl, rfl⟩
  case rest =>
    obtain ⟨rfl, hw⟩ := hcut
    replace hw := hw.symm
    subst hw
    go_upto_block 2 with fail
    go_cut [20] (fun v wx => v = .int .i64 ((a + k : Nat) : Int) ∧ Dr w3 wx)
    case first =>
      go_wp2_with fail
      go_loopg [20] (k + 1) (fun g jv wr => ∃ (e : Nat), e + g = a + k + 1 ∧ a ≤ e ∧ e ≤ a + k ∧ jv = .int .i64 e ∧ Hid (k = (e - a) + spanG wordP (s.drop e)) ∧ Dr w3 wr)
      case atStart => exact ⟨a, by omega, by omega, by omega, by simp, HKK.out.trans (by simp), Dr.refl _⟩
      case round =>
        obtain ⟨j, hj, hj1, hjk, rfl, hf, kp⟩ := hrel
        have kp3 := (d2.trans d3).trans kp
        have hf' := hf.out
        by_cases hlt : j < q
        · have hlti : (j : Int) < (q : Int) := by omega
          obtain ⟨ad', e', hcj⟩ := Ru.get (HS.out.kp kp3.kp) hlt
          injection e' with e'
          subst e'
          rw [drop_cons (s := s) (a := j) (by rw [HLEN.out]; exact hlt), spanG_cons] at hf'
          obtain ⟨x, hx⟩ : ∃ x, x = s[j]?.getD 0 := ⟨_, rfl⟩
          rw [← hx] at hcj hf'
          clear hf hx
          by_cases hw : wordP x = true
          · rw [if_pos hw] at hf'
            have h3 := hw
            unfold wordP at h3
            obtain ⟨c1, c2, c3⟩ := of_decide_eq_true h3
            have d1 : (x != 32) = true := by simpa using c1
            have d2' : (x != 9) = true := by simpa using c2
            have d3' : (x != 33) = true := by simpa using c3
            have HF : Hid (k = (j + 1 - a) + spanG wordP (s.drop (j + 1))) := by show _ = _; omega
            have hjk' : j + 1 ≤ a + k := by omega
            clear hf' hw h3 c1 c2 c3
            go_wp2_with fail
            go_roundg (a + k + 1 - (j + 1))
            case measure => omega
            case rel => exact ⟨j + 1, by omega, by omega, hjk', by go_num, HF, kp⟩
          · rw [if_neg hw] at hf'
            have HJ : Hid (a + k = j) := by show _ = _; omega
            have h3 : ¬ (x ≠ 32 ∧ x ≠ 9 ∧ x ≠ 33) := fun h => hw (by unfold wordP; exact decide_eq_true h)
            have h4 : x = 32 ∨ x = 9 ∨ x = 33 := by omega
            clear hf' hw h3
            rcases h4 with h4 | h4 | h4
            all_goals
              subst h4
              go_wp2_with fail
              go_meet
              exact ⟨by rw [HJ.out], kp⟩
        · have hjq : j = q := by omega
          rw [List.drop_eq_nil_of_le (by rw [HLEN.out]; omega)] at hf'
          have HJ : Hid (a + k = j) := by show _ = _; rw [show spanG wordP [] = 0 from rfl] at hf'; omega
          have hcn : ¬ ((j : Int) < (q : Int)) := by omega
          clear hf hf' hjq
          go_wp2_with fail
          go_meet
          exact ⟨by rw [HJ.out], kp⟩
    case rest =>
      obtain ⟨rfl, kp⟩ := hcut
      have kp3 := (d2.trans d3).trans kp
      by_cases hk0 : k = 0
      · have HE0 : Hid (eventM L (s.drop a) = some ([], 0)) := by show _ = _; rw [HE.out, if_pos hk0]
        subst hk0
        go_wp2_with fail
        go_ret3
        rw [HE0.out]
        exact ⟨none, 0, 0, 0, rfl, Ru.nil _ _, fun q h => by cases h; rfl, kp1.trans kp3.kp⟩
      · have HE0 : Hid (eventM L (s.drop a) = (newM L fun l => beginsM l ((s.drop a).take k)).map (·, k)) := by show _ = _; rw [HE.out, if_neg hk0]
        have hka : ((a + k : Nat) : Int) ≠ (a : Int) := by omega
        obtain ⟨p0, p1, p2, _, _, _⟩ := (bp.kp kp3.kp).three
        have hd := Ru.take (Ru.drop (HS.out.kp kp3.kp) (show a ≤ q by omega)) (show k ≤ q - a by omega)
        rw [if_neg (by omega)] at hd
        obtain ⟨j, hj⟩ : ∃ j, j = a + k := ⟨_, rfl⟩
        rw [← hj] at hka hkq ⊢
        have hka' : ((j : Int) == (a : Int)) = false := by simp; omega
        have b1 : (0 : Int) ≤ (a : Int) := by omega
        have b2 : (a : Int) ≤ (j : Int) := by omega
        have b3 : (j : Int) ≤ (r : Int) := by omega
        have hra : ¬ r = a := by omega
        have hd3 : Ru wc H (some (ad.add a)) (j - a) (r - a) ((s.drop a).take k) := by
          rw [show j - a = k by omega]
          exact hd
        have HJ := Lib.hid hj
        have HN := Lib.hid (named20 F G H A B _ n c m d _ _ at_ L.reverse _ false _ ((hX1.kp kp3.kp).kp (Kp.refl _).drew) (Sl.drew hd3) (by omega) (fun x hx => HL.out x (by simpa using hx)))
        clear hj hka hd hd3
        go_wp2_with fail
        go_region_held3 (fun w' => w'.cell? ⟨w.heap.size, 0, none⟩ = some (.slice A n c) ∧ w'.cell? ⟨w.heap.size, 1, none⟩ = some (.int .i64 at_) ∧ w'.cell? ⟨w.heap.size, 2, none⟩ = some (.slice B m d))
          (first | (with_reducible exact ⟨p0, p1, p2⟩) | go_keep)
          ((go_at_call 70; refine (HN.out).mono ?_; rintro e w4 ⟨A3, n3, c3, rfl, hr3, k3⟩; have KN := kp3.kp.trans ((Kp.refl _).drew.trans k3); obtain ⟨p0, p1, p2, _, _, _⟩ := (bp.kp KN).three))
        go_wp2_with fail
        go_ret3
        rw [HE0.out, newM_beg]
        exact retE_new hr3 (by have := HJ.out; omega) (kp1.trans KN)

theorem refEv_any (hX : Txs w F G A n c L.reverse) (hs : Ru w H S q r s) (ha : a ≤ q) (hq : q ≤ 1000000) (hn : n ≤ 2000) (hL : ∀ x ∈ L, x.length ≤ 1099511627776) :
    Calls Try.prog 49 #[.agg #[.slice A n c, .int .i64 at_, .slice B m d], .slice S q r, .int .i64 a] w (RetE G (eventM L (s.drop a)) w) := by
  by_cases h : a = q
  · exact refEv_end G H A B S n c m d q r a at_ L s w hs h
  have ha : a < q := by omega
  by_cases h33 : s[a]?.getD 0 = 33
  · exact refEv_bang F G H A B S n c m d q r a at_ L s w hX hs ha hq h33
  by_cases hk : 0 < (numM (s.drop a)).2
  · exact refEv_num F G H A B S n c m d q r a at_ L s w hX hs ha hq hn h33 hk
  by_cases h45 : s[a]?.getD 0 = 45 ∧ 0 < (numM (s.drop (a + 1))).2
  · exact refEv_minus F G H A B S n c m d q r a at_ L s w hX hs ha hq h45.1 h45.2
  by_cases h63 : s[a]?.getD 0 = 63
  · exact refEv_q F G H A B S n c m d q r a at_ L s w hX hs ha hq hn hL h63
  exact refEv_word F G H A B S n c m d q r a at_ L s w hX hs ha hq hn hL h33 h63 (by omega) h45
end
end Go.Proofs.Ytcbachblhfkcoaa
