/-
  typebarref20.event, on: - and digits, ? and a text, a word. Conditions: the slices can be read, and are not too long.
-/
import Derived.Test.YtcbachblhfkcoaaExE
namespace Go.Proofs.Ytcbachblhfkcoaa
open Go.RowKit

theorem cell_kp_ {w w' : World} {p : Addr} {v : Value} (d : Kp w w') (h : w.cell? p = some v) : w'.cell? p = some v := by
  have := World.block_lt_of_cell? w p h
  rw [d.cell this]; exact h
/-- Loading runes s[a + j] as j goes up: what has been counted. -/
theorem span_at {p : Int → Bool} {s : List Int} {a j k : Nat} (h : k = j + spanG p (s.drop (a + j))) (hl : a + j < s.length) :
    (p (s[a + j]?.getD 0) = true → k = j + 1 + spanG p (s.drop (a + (j + 1)))) ∧ (p (s[a + j]?.getD 0) = false → k = j) := by
  rw [drop_cons hl, spanG_cons] at h
  exact ⟨fun e => by rw [if_pos e] at h; rw [show a + (j + 1) = a + j + 1 by omega]; omega, fun e => by rw [e] at h; simpa using h⟩

theorem retE_new {G : Nat → Prop} {w w' : World} {A : Option Addr} {n c kk : Nat} {k : Int} {o : Option (List Int)} (hr : Ru w' G A n c (o.getD [])) (hk : k = (kk : Int)) (kp : Kp w w') :
    RetE G (o.map (·, kk)) w (.returned (.tuple #[.slice A n c, .int .i64 k, .bool o.isSome])) w' :=
  ⟨A, n, c, k, by cases o <;> rfl, by cases o <;> exact hr, fun q h => by cases o with | none => cases h | some x => cases h; exact hk, kp⟩
theorem newM_has (L : List (List Int)) (p : List Int) : newM L (fun l => hasM l p) = L.reverse.find? (fitsM p true) := rfl
theorem newM_beg (L : List (List Int)) (p : List Int) : newM L (fun l => beginsM l p) = L.reverse.find? (fitsM p false) := rfl

section
variable (F G H : Nat → Prop) (A B S : Option Addr) (n c m d q r a : Nat) (at_ : Int) (L : List (List Int)) (s : List Int) (w : World)

set_option maxRecDepth 100000 in
set_option maxHeartbeats 1600000 in
theorem refEv_minus (hX : Txs w F G A n c L.reverse) (hs : Ru w H S q r s) (ha : a < q) (hq : q ≤ 1000000) (hc : s[a]?.getD 0 = 45) (hk : 0 < (numM (s.drop (a + 1))).2) :
    Calls Try.prog 49 #[.agg #[.slice A n c, .int .i64 at_, .slice B m d], .slice S q r, .int .i64 a] w (RetE G (eventM L (s.drop a)) w) := by
  have hlen := hs.len
  have hle := hs.le
  have hcp := hs.cap
  unfold maxLen at hcp
  have HE : Hid (eventM L (s.drop a) = (pickM L (numM (s.drop (a + 1))).1).map (·, 1 + (numM (s.drop (a + 1))).2)) := by
    show _ = _
    rw [drop_cons (by omega), hc]
    exact evM_minus L hk
  have kp1 := (Kp.refl w).alloc (.cells #[.slice A n c, .int .i64 at_, .slice B m d] 37)
  have bp := Bx.new w #[.slice A n c, .int .i64 at_, .slice B m d] 37
  have hX1 := hX.kp kp1
  have hs1 := Sl.kp hs kp1
  obtain ⟨ad, rfl, hca⟩ := Ru.get hs1 ha
  have HD := Lib.hid (digits_any H (some ad) q r a s (w.alloc (.cells #[.slice A n c, .int .i64 at_, .slice B m d] 37)) hs1 (by omega) (by omega))
  rw [drop_cons (s := s) (a := a) (by omega), hc, show (numM (45 :: s.drop (a + 1))).2 = 0 from numM_no _ (by decide)] at HD
  rw [hc] at hca
  have hne : ((a : Int) == (q : Int)) = false := by simp; omega
  obtain ⟨y1, y2⟩ := numM_range (s.drop (a + 1))
  have HD2 := Lib.hid fun (w2 : World) (kk : Kp (w.alloc (.cells #[.slice A n c, .int .i64 at_, .slice B m d] 37)) w2) => digits_any H (some ad) q r (a + 1) s w2 (Sl.kp hs1 kk) (by omega) (by omega)
  have hkq : (numM (s.drop (a + 1))).2 ≤ q := by have := numM_le (s.drop (a + 1)); rw [List.length_drop] at this; omega
  obtain ⟨v, hv⟩ : ∃ v, v = (numM (s.drop (a + 1))).1 := ⟨_, rfl⟩
  obtain ⟨k, hkk⟩ : ∃ k, k = (numM (s.drop (a + 1))).2 := ⟨_, rfl⟩
  rw [← hv, ← hkk] at HE HD2
  rw [← hv] at y1 y2
  rw [← hkk] at hk hkq
  have hki : (0 : Int) < (k : Int) := by omega
  rw [show ((a + 1 : Nat) : Int) = (a : Int) + 1 by omega] at HD2
  clear hX hs hlen hc hs1 hv hkk hk
  go_enter Try.func49, Try.ntmps49
  go_wp2_with fail
  generalize w.alloc (.cells #[.slice A n c, .int .i64 at_, .slice B m d] 37) = w1 at *
  refine HD.out.mono ?_
  rintro e w2 ⟨rfl, d2⟩
  have hcb := cell_dr d2 hca
  clear hca
  go_wp2_with fail
  refine (HD2.out _ d2.kp).mono ?_
  rintro e w3 ⟨rfl, d3⟩
  have hcb2 := cell_dr d3 hcb
  obtain ⟨p0, p1, p2, _, _, _⟩ := (bp.kp (d2.trans d3).kp).three
  have HB := Lib.hid (back20 F G A B n c m d at_ v L.reverse w3 (hX1.kp (d2.trans d3).kp) (by omega))
  clear hcb
  go_wp2_with (go_at_call 69; refine HB.out.mono ?_; rintro e w4 ⟨A3, n3, c3, rfl, hr3, k3⟩)
  go_ret3
  rw [HE.out]
  rw [pickR_rev] at hr3 ⊢
  refine ⟨A3, n3, c3, (k : Int) + 1, by cases pickM L v <;> rfl, by cases h : pickM L v <;> (rw [h] at hr3; exact hr3), fun q h => ?_, (kp1.trans (d2.trans d3).kp).trans k3⟩
  cases h1 : pickM L v with
  | none => rw [h1] at h; cases h
  | some x => rw [h1] at h; cases h; dsimp only; omega

set_option maxRecDepth 100000 in
set_option maxHeartbeats 3200000 in
theorem refEv_q (hX : Txs w F G A n c L.reverse) (hs : Ru w H S q r s) (ha : a < q) (hq : q ≤ 1000000) (hn : n ≤ 2000) (hL : ∀ x ∈ L, x.length ≤ 1099511627776) (hc : s[a]?.getD 0 = 63) :
    Calls Try.prog 49 #[.agg #[.slice A n c, .int .i64 at_, .slice B m d], .slice S q r, .int .i64 a] w (RetE G (eventM L (s.drop a)) w) := by
  have hlen := hs.len
  have hle := hs.le
  have hcp := hs.cap
  unfold maxLen at hcp
  obtain ⟨k, hkk⟩ : ∃ k, k = spanG notQ (s.drop (a + 1)) := ⟨_, rfl⟩
  have hkq : a + 1 + k ≤ q := by have := spanG_le notQ (s.drop (a + 1)); rw [List.length_drop] at this; omega
  have HE : Hid (eventM L (s.drop a) = (newM L fun l => hasM l ((s.drop (a + 1)).take k)).map (·, if a + 1 + k < q then k + 2 else q - a)) := by
    show _ = _
    rw [drop_cons (by omega), hc, evM_q, ← hkk, List.length_drop, hlen]
    congr 2
    funext x
    congr 1
    by_cases h : a + 1 + k < q
    · rw [if_pos h, if_pos (by omega)]
    · rw [if_neg h, if_neg (by omega)]; omega
  have kp1 := (Kp.refl w).alloc (.cells #[.slice A n c, .int .i64 at_, .slice B m d] 37)
  have bp := Bx.new w #[.slice A n c, .int .i64 at_, .slice B m d] 37
  have hX1 := hX.kp kp1
  have hs1 := Sl.kp hs kp1
  obtain ⟨ad, rfl, hca⟩ := Ru.get hs1 ha
  have HD := Lib.hid (digits_any H (some ad) q r a s (w.alloc (.cells #[.slice A n c, .int .i64 at_, .slice B m d] 37)) hs1 (by omega) (by omega))
  rw [drop_cons (s := s) (a := a) (by omega), hc, show (numM (63 :: s.drop (a + 1))).2 = 0 from numM_no _ (by decide)] at HD
  rw [hc] at hca
  have hne : ((a : Int) == (q : Int)) = false := by simp; omega
  have HD2 := Lib.hid fun (w2 : World) (kk : Kp (w.alloc (.cells #[.slice A n c, .int .i64 at_, .slice B m d] 37)) w2) => digits_any H (some ad) q r (a + 1) s w2 (Sl.kp hs1 kk) (by omega) (by omega)
  rw [show ((a + 1 : Nat) : Int) = (a : Int) + 1 by omega] at HD2
  have HKK := Lib.hid hkk
  have HLEN := Lib.hid hlen
  have HS := Lib.hid hs1
  have HL := Lib.hid hL
  clear hX hs hlen hc hs1 hkk hL
  go_enter Try.func49, Try.ntmps49
  go_wp2_with fail
  generalize w.alloc (.cells #[.slice A n c, .int .i64 at_, .slice B m d] 37) = w1 at *
  refine HD.out.mono ?_
  rintro e w2 ⟨rfl, d2⟩
  have hcb := cell_dr d2 hca
  clear hca
  go_wp2_with fail
  refine (HD2.out _ d2.kp).mono ?_
  rintro e w3 ⟨rfl, d3⟩
  have hcb2 := cell_dr d3 hcb
  obtain ⟨p0, p1, p2, _, _, _⟩ := (bp.kp (d2.trans d3).kp).three
  clear hcb
  go_wp2_with fail
  go_loopg [17] (k + 1) (fun g jv wr => ∃ (e : Nat), e + g = a + k + 2 ∧ a + 1 ≤ e ∧ e ≤ a + 1 + k ∧ jv = .int .i64 e ∧ Hid (k = (e - (a + 1)) + spanG notQ (s.drop e)) ∧ Dr w3 wr)
  case atStart => exact ⟨a + 1, by omega, by omega, by omega, by simp, HKK.out.trans (by simp), Dr.refl _⟩
  case round =>
    obtain ⟨j, hj, hj1, hjk, rfl, hf, kp⟩ := hrel
    have kp3 := (d2.trans d3).trans kp
    have hf' := hf.out
    by_cases hlt : j < q
    · have hlti : (j : Int) < (q : Int) := by omega
      obtain ⟨ad', e', hcj⟩ := Ru.get (HS.out.kp kp3.kp) hlt
      injection e' with e'
      subst e'
      rw [drop_cons (s := s) (a := j) (by rw [HLEN.out]; exact hlt), spanG_cons] at hf'
      obtain ⟨x, hx⟩ : ∃ x, x = s[j]?.getD 0 := ⟨_, rfl⟩
      rw [← hx] at hcj hf'
      clear hf hx
      by_cases h63 : x = 63
      · subst h63
        have HJ : Hid (j = a + 1 + k) := by
          show _ = _
          rw [show notQ 63 = false from rfl] at hf'
          simp at hf'
          omega
        clear hf'
        have hd := Ru.take (Ru.drop (HS.out.kp kp3.kp) (show a + 1 ≤ q by omega)) (show k ≤ q - (a + 1) by omega)
        rw [if_neg (by omega)] at hd
        have hcn : ¬ ((q : Int) ≤ (j : Int)) := by omega
        obtain ⟨p0, p1, p2, _, _, _⟩ := (bp.kp kp3.kp).three
        have wr1 : IntKind.i64.wrap ((a : Int) + 1) = (a : Int) + 1 := wrapS (by omega) (by omega)
        have b1 : (0 : Int) ≤ (a : Int) + 1 := by omega
        have b2 : (a : Int) + 1 ≤ (j : Int) := by omega
        have b3 : (j : Int) ≤ (r : Int) := by omega
        have hd3 : Ru wr H (if r = a + 1 then some ad else some ⟨ad.block, ad.off + (a + 1), none⟩) (j - (a + 1)) (r - (a + 1)) ((s.drop (a + 1)).take k) := by
          rw [show j - (a + 1) = k by have := HJ.out; omega]
          rw [if_neg (by omega)]
          simpa [Addr.add] using hd
        clear hd
        have HN := Lib.hid (named20 F G H A B _ n c m d _ _ at_ L.reverse _ true _ ((hX1.kp kp3.kp).kp (Kp.refl _).drew) (Sl.drew hd3) (by omega) (fun x hx => HL.out x (by simpa using hx)))
        clear hd3
        go_wp2_with fail
        go_region_held3 (fun w' => w'.cell? ⟨w.heap.size, 0, none⟩ = some (.slice A n c) ∧ w'.cell? ⟨w.heap.size, 1, none⟩ = some (.int .i64 at_) ∧ w'.cell? ⟨w.heap.size, 2, none⟩ = some (.slice B m d))
          (first | (with_reducible exact ⟨p0, p1, p2⟩) | go_keep)
          ((go_at_call 70; refine (HN.out).mono ?_; rintro e w4 ⟨A3, n3, c3, rfl, hr3, k3⟩; have KN := kp3.kp.trans ((Kp.refl _).drew.trans k3); obtain ⟨p0, p1, p2, _, _, _⟩ := (bp.kp KN).three))
        go_wp2_with fail
        go_ret3
        rw [HE.out, newM_has]
        exact retE_new (hr3) (by rw [if_pos (by have := HJ.out; omega)]; have := HJ.out; omega) (kp1.trans KN)
      · rw [show notQ x = true by simp [notQ, h63], if_pos rfl] at hf'
        have hxb : (x != 63) = true := by simpa using h63
        have HF : Hid (k = (j + 1 - (a + 1)) + spanG notQ (s.drop (j + 1))) := by show _ = _; omega
        have hjk' : j + 1 ≤ a + 1 + k := by omega
        clear hf' h63
        go_wp2_with fail
        go_roundg (a + k + 2 - (j + 1))
        case measure => omega
        case rel => exact ⟨j + 1, by omega, by omega, hjk', by go_num, HF, kp⟩
    · have hjq : j = q := by omega
      rw [List.drop_eq_nil_of_le (by rw [HLEN.out]; omega)] at hf'
      have HJ : Hid (j = a + 1 + k) := by show _ = _; rw [show spanG notQ [] = 0 from rfl] at hf'; omega
      clear hf hf'
      subst hjq
      have hcn : ¬ ((j : Int) < (j : Int)) := by omega
      obtain ⟨p0, p1, p2, _, _, _⟩ := (bp.kp kp3.kp).three
      have wr1 : IntKind.i64.wrap ((a : Int) + 1) = (a : Int) + 1 := wrapS (by omega) (by omega)
      have b1 : (0 : Int) ≤ (a : Int) + 1 := by omega
      have b2 : (a : Int) + 1 ≤ (j : Int) := by omega
      have b3 : (j : Int) ≤ (r : Int) := by omega
      have hd := Ru.take (Ru.drop (HS.out.kp kp3.kp) (show a + 1 ≤ j by omega)) (show k ≤ j - (a + 1) by have := HJ.out; omega)
      by_cases hr1 : r = a + 1
      · have hja : j = a + 1 := by omega
        subst hr1
        subst hja
        rw [if_pos rfl] at hd
        have hd3 : Ru wr H (some ad) 0 0 ((s.drop (a + 1)).take k) := by
          have hk0 : k = 0 := by have := HJ.out; omega
          rw [hk0, Nat.sub_self] at hd
          rw [hk0]
          exact hd
        clear hd
        have HN := Lib.hid (named20 F G H A B _ n c m d _ _ at_ L.reverse _ true _ ((hX1.kp kp3.kp).kp (Kp.refl _).drew) (Sl.drew hd3) (by omega) (fun x hx => HL.out x (by simpa using hx)))
        clear hd3
        go_wp2_with fail
        go_region_held3 (fun w' => w'.cell? ⟨w.heap.size, 0, none⟩ = some (.slice A n c) ∧ w'.cell? ⟨w.heap.size, 1, none⟩ = some (.int .i64 at_) ∧ w'.cell? ⟨w.heap.size, 2, none⟩ = some (.slice B m d))
          (first | (with_reducible exact ⟨p0, p1, p2⟩) | go_keep)
          ((go_at_call 70; refine (HN.out).mono ?_; rintro e w4 ⟨A3, n3, c3, rfl, hr3, k3⟩; have KN := kp3.kp.trans ((Kp.refl _).drew.trans k3); obtain ⟨p0, p1, p2, _, _, _⟩ := (bp.kp KN).three))
        go_wp2_with fail
        go_ret3
        rw [HE.out, newM_has]
        exact retE_new (hr3) (by rw [if_neg (by have := HJ.out; omega)]; have := HJ.out; omega) (kp1.trans KN)
      · have hd3 : Ru wr H (some ⟨ad.block, ad.off + (a + 1), none⟩) (j - (a + 1)) (r - (a + 1)) ((s.drop (a + 1)).take k) := by
          rw [show j - (a + 1) = k by have := HJ.out; omega]
          rw [if_neg hr1] at hd
          simpa [Addr.add] using hd
        clear hd
        have HN := Lib.hid (named20 F G H A B _ n c m d _ _ at_ L.reverse _ true _ ((hX1.kp kp3.kp).kp (Kp.refl _).drew) (Sl.drew hd3) (by omega) (fun x hx => HL.out x (by simpa using hx)))
        clear hd3
        go_wp2_with fail
        go_region_held3 (fun w' => w'.cell? ⟨w.heap.size, 0, none⟩ = some (.slice A n c) ∧ w'.cell? ⟨w.heap.size, 1, none⟩ = some (.int .i64 at_) ∧ w'.cell? ⟨w.heap.size, 2, none⟩ = some (.slice B m d))
          (first | (with_reducible exact ⟨p0, p1, p2⟩) | go_keep)
          ((go_at_call 70; refine (HN.out).mono ?_; rintro e w4 ⟨A3, n3, c3, rfl, hr3, k3⟩; have KN := kp3.kp.trans ((Kp.refl _).drew.trans k3); obtain ⟨p0, p1, p2, _, _, _⟩ := (bp.kp KN).three))
        go_wp2_with fail
        go_ret3
        rw [HE.out, newM_has]
        exact retE_new (hr3) (by rw [if_neg (by have := HJ.out; omega)]; have := HJ.out; omega) (kp1.trans KN)
end
end Go.Proofs.Ytcbachblhfkcoaa
