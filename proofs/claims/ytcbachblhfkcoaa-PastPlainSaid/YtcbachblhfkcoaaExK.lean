/-
  package past: event: a word, and all ways together. Conditions: the slices can be read, and are not too long.
-/
import Derived.Test.YtcbachblhfkcoaaExJ
namespace Go.Proofs.Ytcbachblhfkcoaa
open Go.RowKit Go.Shelf

section
variable (F G H F1 : Nat → Prop) (A B S : Option Addr) (n c m d q r : Nat) (at_ : Int) (L : List (List Int)) (st s : List Int) (w : World)

set_option maxRecDepth 100000 in
set_option maxHeartbeats 1600000 in
theorem ev_end (hs : Ru w H S q r s) (hq0 : q = 0) :
    Calls Try.prog 48 #[.agg #[.slice A n c, .int .i64 at_, .slice B m d], .slice S q r] w (RetV G (eventM L s) w) := by
  subst hq0
  have HE : Hid (eventM L s = some ([], 0)) := by show _ = _; rw [List.eq_nil_of_length_eq_zero hs.len]; rfl
  obtain ⟨w1, hw1, b0, b1, b2, kp1, hz⟩ := ev_boxes w A B S n c m d 0 r at_
  have hs1 := Sl.kp hs kp1
  have HD := Lib.hid (number_any H S 0 r s w1 hs1 (by omega))
  rw [show (numM s).2 = 0 by rw [List.eq_nil_of_length_eq_zero hs.len]; rfl] at HD
  clear hs hs1 hz
  go_enter Try.func48, Try.ntmps48
  go_wp2_with fail
  rw [← hw1]
  refine HD.out.mono ?_
  rintro e w2 ⟨rfl, d2⟩
  obtain ⟨p0, p1⟩ := (b1.kp d2.kp).one
  have c2 := b2.kp d2.kp
  obtain ⟨q0, q1⟩ := c2.one
  clear hw1
  go_wp2_with fail
  have KF := ((kp1.trans d2.kp).setCell (p := ⟨w.heap.size + 1 + 1, 0, none⟩) (by dsimp only; omega) (.int .i64 0))
  have c4 := c2.set 0 (.int .i64 0)
  obtain ⟨r0, r1⟩ := Bx.one c4
  refine bodyPost_ret (v := .tuple #[.slice none 0 0, .int .i64 0, .int .i64 0]) (by simp [results, Try.results48, go_sem, r0]) rfl ?_
  rw [HE.out]
  exact ⟨none, 0, 0, 0, rfl, Ru.nil _ _, fun q h => by cases h; rfl, KF⟩

set_option maxRecDepth 100000 in
set_option maxHeartbeats 3200000 in
theorem ev_wordn0 (hs : Ru w H S q r s) (hq0 : 0 < q) (hq : q ≤ 1000000) (h33 : s[0]?.getD 0 ≠ 33) (h63 : s[0]?.getD 0 ≠ 63) (h45 : s[0]?.getD 0 ≠ 45) (hn0 : (numM s).2 = 0) (hw : spanG wordP s = 0) :
    Calls Try.prog 48 #[.agg #[.slice A n c, .int .i64 at_, .slice B m d], .slice S q r] w (RetV G (eventM L s) w) := by
  have hlen := hs.len
  have hle := hs.le
  have hcp := hs.cap
  unfold maxLen at hcp
  have hd0 := drop_cons (s := s) (a := 0) (by omega)
  rw [List.drop_zero] at hd0
  obtain ⟨k, hkk⟩ : ∃ k, k = spanG wordP s := ⟨_, rfl⟩
  have hkl := spanG_le wordP s
  rw [← hkk, hlen] at hkl
  have HE : Hid (eventM L s = some ([], 0)) := by
    show _ = _
    have hn0' := hn0
    have hw' := hw
    rw [hd0] at hn0' hw'
    rw [congrArg (eventM L) hd0]
    exact evM_w0 L h33 hn0' (fun h => absurd h.1 h45) h63 hw'
  obtain ⟨w1, hw1, b0, b1, b2, kp1, hz⟩ := ev_boxes w A B S n c m d q r at_
  have hs1 := Sl.kp hs kp1
  obtain ⟨ad, rfl, hca⟩ := Ru.get hs1 hq0
  have HD := Lib.hid (number_any H (some ad) q r s w1 hs1 (by omega))
  have HHD := Lib.hid fun wx (kk : Kp w1 wx) => head_any H (some ad) q r s wx (Sl.kp hs1 kk) (by omega)
  rw [← hkk] at HHD
  rw [hn0] at HD
  obtain ⟨x, hx⟩ : ∃ x, x = s[0]?.getD 0 := ⟨_, rfl⟩
  rw [← hx] at h33 h63 h45 hca
  have b33 : (x == 33) = false := by simpa using h33
  have b63 : (x == 63) = false := by simpa using h63
  have b45 : (x == 45) = false := by simpa using h45
  have hne : ((q : Int) == 0) = false := by simp; omega
  have HZ := Lib.hid hz
  obtain rfl : k = 0 := by omega
  clear hs hs1 hlen hd0 hz hn0 hw hkk h33 h63 h45 hx
  go_enter Try.func48, Try.ntmps48
  go_wp2_with fail
  rw [← hw1]
  refine HD.out.mono ?_
  rintro e w2 ⟨rfl, d2⟩
  have hcb := cell_dr d2 hca
  rw [Addr.add, if_pos rfl] at hcb
  obtain ⟨p0, p1⟩ := (b1.kp d2.kp).one
  clear hca hw1
  have d4 := d2
  go_wp2_with fail
  refine (HHD.out _ d4.kp).mono ?_
  rintro e w5 ⟨rfl, d5⟩
  have k5 := d4.kp.trans d5.kp
  have c5 := b2.kp k5
  obtain ⟨z0, z1⟩ := c5.one
  have c6 := c5.set 0 (.int .i64 ((0 : Nat) : Int))
  obtain ⟨z2, z3⟩ := c6.one
  go_wp2_with fail
  have KF := ((kp1.trans k5).setCell (p := ⟨w.heap.size + 1 + 1, 0, none⟩) (by dsimp only; omega) (.int .i64 0)).setCell (p := ⟨w.heap.size + 1 + 1, 0, none⟩) (by dsimp only; omega) (.int .i64 0)
  have c7 := (c5.set 0 (.int .i64 0)).set 0 (.int .i64 0)
  obtain ⟨r0, r1⟩ := Bx.one c7
  refine bodyPost_ret (v := .tuple #[.slice none 0 0, .int .i64 0, .int .i64 0]) (by simp [results, Try.results48, go_sem, r0]) rfl ?_
  rw [HE.out]
  exact ⟨none, 0, 0, 0, rfl, Ru.nil _ _, fun q h => by cases h; rfl, KF⟩

set_option maxRecDepth 100000 in
set_option maxHeartbeats 3200000 in
theorem ev_wordnk (hT : Txs w F G A n c L) (hs : Ru w H S q r s) (hq0 : 0 < q) (hq : q ≤ 1000000) (h33 : s[0]?.getD 0 ≠ 33) (h63 : s[0]?.getD 0 ≠ 63) (h45 : s[0]?.getD 0 ≠ 45) (hn0 : (numM s).2 = 0) (hw : spanG wordP s ≠ 0) :
    Calls Try.prog 48 #[.agg #[.slice A n c, .int .i64 at_, .slice B m d], .slice S q r] w (RetV G (eventM L s) w) := by
  have hlen := hs.len
  have hle := hs.le
  have hcp := hs.cap
  unfold maxLen at hcp
  have hd0 := drop_cons (s := s) (a := 0) (by omega)
  rw [List.drop_zero] at hd0
  obtain ⟨k, hkk⟩ : ∃ k, k = spanG wordP s := ⟨_, rfl⟩
  have hkl := spanG_le wordP s
  rw [← hkk, hlen] at hkl
  have HE : Hid (eventM L s = (newM L fun l => beginsM l (s.take k)).map (·, k)) := by
    show _ = _
    have hn0' := hn0
    have hw' := hw
    rw [hd0] at hn0' hw'
    rw [congrArg (eventM L) hd0, evM_w L h33 hn0' (fun h => absurd h.1 h45) h63 hw', ← hd0, ← hkk]
  obtain ⟨w1, hw1, b0, b1, b2, kp1, hz⟩ := ev_boxes w A B S n c m d q r at_
  have hs1 := Sl.kp hs kp1
  obtain ⟨ad, rfl, hca⟩ := Ru.get hs1 hq0
  have HD := Lib.hid (number_any H (some ad) q r s w1 hs1 (by omega))
  have HHD := Lib.hid fun wx (kk : Kp w1 wx) => head_any H (some ad) q r s wx (Sl.kp hs1 kk) (by omega)
  rw [← hkk] at HHD
  rw [hn0] at HD
  obtain ⟨x, hx⟩ : ∃ x, x = s[0]?.getD 0 := ⟨_, rfl⟩
  rw [← hx] at h33 h63 h45 hca
  have b33 : (x == 33) = false := by simpa using h33
  have b63 : (x == 63) = false := by simpa using h63
  have b45 : (x == 45) = false := by simpa using h45
  have hne : ((q : Int) == 0) = false := by simp; omega
  have HZ := Lib.hid hz
  have HT := Lib.hid hT.low
  have HS := Lib.hid (Sl.low hs)
  have hk1 : (0 : Int) < (k : Int) := by omega
  have hkb : ((k : Int) == 0) = false := by simp; omega
  clear hT hs hs1 hlen hd0 hz hn0 hw hkk h33 h63 h45 hx
  go_enter Try.func48, Try.ntmps48
  go_wp2_with fail
  rw [← hw1]
  refine HD.out.mono ?_
  rintro e w2 ⟨rfl, d2⟩
  have hcb := cell_dr d2 hca
  rw [Addr.add, if_pos rfl] at hcb
  obtain ⟨p0, p1⟩ := (b1.kp d2.kp).one
  clear hca hw1
  have d4 := d2
  go_wp2_with fail
  refine (HHD.out _ d4.kp).mono ?_
  rintro e w5 ⟨rfl, d5⟩
  have k5 := d4.kp.trans d5.kp
  have c5 := b2.kp k5
  obtain ⟨z0, z1⟩ := c5.one
  have c6 := c5.set 0 (.int .i64 (k : Int))
  obtain ⟨z2, z3⟩ := c6.one
  go_upto_region 26 with fail
  have kp6 := (kp1.trans k5).setCell (p := ⟨w.heap.size + 1 + 1, 0, none⟩) (by dsimp only; omega) (.int .i64 (k : Int))
  have b06 := (b0.kp k5).far (p := ⟨w.heap.size + 1 + 1, 0, none⟩) (by dsimp only; omega) (.int .i64 (k : Int))
  have b16 := (b1.kp k5).far (p := ⟨w.heap.size + 1 + 1, 0, none⟩) (by dsimp only; omega) (.int .i64 (k : Int))
  clear z0 z1 z2 z3 p0 p1 c5 k5 hcb d5 d4 d2 b0 b1 b2 kp1 HD HHD
  generalize w5.setCell ⟨w.heap.size + 1 + 1, 0, none⟩ (.int .i64 (k : Int)) = w6 at *
  obtain ⟨v0, v1, v2, _, _, _⟩ := b06.three
  obtain ⟨z2, z3⟩ := c6.one
  have HN := Lib.hid (newest_any _ _ A B n c m d 66 #[.pointer (some ⟨w.heap.size + 1, 0, none⟩), .pointer (some ⟨w.heap.size + 1 + 1, 0, none⟩)] at_ L (fun l => beginsM l (s.take k)) w6 (HT.out.kp kp6) (enters_of Try.func66 (by kernel_rfl) rfl)
    (fun W C k' e x hx hb hr => by
      have h := ev3_any _ _ C (some ad) k' e q r k (w.heap.size + 1) (w.heap.size + 1 + 1) x s W (Bx.kp b16 hb) (Bx.kp c6 hb) hr (Sl.kp (Sl.kp HS.out kp6) hb) hkl
      simpa using h))
  obtain ⟨o, ho⟩ : ∃ o, o = L.reverse.find? (fun l => beginsM l (s.take k)) := ⟨_, rfl⟩
  rw [← ho] at HN
  have HO := Lib.hid ho
  clear ho
  cases o with
  | none =>
    go_wp2_with (go_at_call 62; refine HN.out.mono ?_; rintro e w7 ⟨A3, n3, c3, rfl, hr3, k3⟩; have c7 := c6.kp k3; obtain ⟨y0, y1⟩ := c7.one)
    go_region
    go_wp2_with fail
    have KF := ((kp6.trans k3).setCell (p := ⟨w.heap.size + 1 + 1, 0, none⟩) (by dsimp only; omega) (.int .i64 (k : Int))).drew
    have c8 := (c7.set 0 (.int .i64 (k : Int)))
    obtain ⟨r0, r1⟩ := Bx.one c8
    refine bodyPost_ret (v := .tuple #[.slice none 0 0, .int .i64 (k : Int), .int .i64 5]) (by simp [results, Try.results48, go_sem, r0]) rfl ?_
    rw [HE.out]
    rw [show newM L (fun l => beginsM l (s.take k)) = (none : Option (List Int)) from HO.out.symm]
    exact retV_new (er := 5) rfl (Ru.nil _ _) rfl KF
  | some y =>
    go_wp2_with (go_at_call 62; refine HN.out.mono ?_; rintro e w7 ⟨A3, n3, c3, rfl, hr3, k3⟩; have c7 := c6.kp k3; obtain ⟨y0, y1⟩ := c7.one)
    go_region
    go_wp2_with fail
    have KF := ((kp6.trans k3).setCell (p := ⟨w.heap.size + 1 + 1, 0, none⟩) (by dsimp only; omega) (.int .i64 (k : Int))).drew
    have c8 := (c7.set 0 (.int .i64 (k : Int)))
    obtain ⟨r0, r1⟩ := Bx.one c8
    refine bodyPost_ret (v := .tuple #[.slice A3 n3 c3, .int .i64 (k : Int), .int .i64 0]) (by simp [results, Try.results48, go_sem, r0]) rfl ?_
    rw [HE.out]
    rw [show newM L (fun l => beginsM l (s.take k)) = (some y) from HO.out.symm]
    exact retV_new (er := 0) rfl (Sl.weak (Sl.drew (Sl.setCell hr3 (p := ⟨w.heap.size + 1 + 1, 0, none⟩) (by rintro ⟨_, h⟩; dsimp only at h; omega) (.int .i64 (k : Int)))) fun g _ hg => hg.1) rfl KF

set_option maxRecDepth 100000 in
set_option maxHeartbeats 3200000 in
theorem ev_word40 (hs : Ru w H S q r s) (hq0 : 0 < q) (hq : q ≤ 1000000) (hc : s[0]?.getD 0 = 45) (hn1 : (numM (s.drop 1)).2 = 0) (hn0 : (numM s).2 = 0) (hw : spanG wordP s = 0) :
    Calls Try.prog 48 #[.agg #[.slice A n c, .int .i64 at_, .slice B m d], .slice S q r] w (RetV G (eventM L s) w) := by
  have hlen := hs.len
  have hle := hs.le
  have hcp := hs.cap
  unfold maxLen at hcp
  have hd0 := drop_cons (s := s) (a := 0) (by omega)
  rw [List.drop_zero] at hd0
  rw [hc] at hd0
  obtain ⟨k, hkk⟩ : ∃ k, k = spanG wordP s := ⟨_, rfl⟩
  have hkl := spanG_le wordP s
  rw [← hkk, hlen] at hkl
  have HE : Hid (eventM L s = some ([], 0)) := by
    show _ = _
    have hn0' := hn0
    have hw' := hw
    rw [hd0] at hn0' hw'
    rw [congrArg (eventM L) hd0]
    exact evM_w0 L (by omega) hn0' (fun h => absurd h.2 (by rw [hn1]; omega)) (by decide) hw'
  obtain ⟨w1, hw1, b0, b1, b2, kp1, hz⟩ := ev_boxes w A B S n c m d q r at_
  have hs1 := Sl.kp hs kp1
  obtain ⟨ad, rfl, hca⟩ := Ru.get hs1 hq0
  have HD := Lib.hid (number_any H (some ad) q r s w1 hs1 (by omega))
  have HHD := Lib.hid fun wx (kk : Kp w1 wx) => head_any H (some ad) q r s wx (Sl.kp hs1 kk) (by omega)
  rw [← hkk] at HHD
  rw [hn0] at HD
  rw [hc] at hca
  have HD2 : Hid (∀ wx, Kp w1 wx → Calls Try.prog 60 #[.slice (if r = 1 then some ad else some ⟨ad.block, ad.off + 1, none⟩) (q - 1) (r - 1)] wx fun e w' => e = .returned (.tuple #[.int .i64 (numM (s.drop 1)).1, .int .i64 ((0 : Nat) : Int)]) ∧ Dr wx w') := fun wx kk => by
    have hdr := Ru.drop (Sl.kp hs1 kk) (show 1 ≤ q by omega)
    have h := number_any H (if r = 1 then some ad else some ⟨ad.block, ad.off + 1, none⟩) (q - 1) (r - 1) (s.drop 1) wx (by
      by_cases h1 : r = 1
      · rw [if_pos h1] at hdr ⊢; exact hdr
      · rw [if_neg h1] at hdr ⊢; simpa [Addr.add] using hdr) (by omega)
    rw [hn1] at h
    exact h
  have hne : ((q : Int) == 0) = false := by simp; omega
  have HZ := Lib.hid hz
  obtain rfl : k = 0 := by omega
  clear hs hs1 hlen hd0 hz hn0 hw hkk hc hn1
  have hqr : (1 : Int) ≤ (r : Int) := by omega
  by_cases hr1 : r = 1
  · obtain rfl : q = 1 := by omega
    subst hr1
    rw [if_pos rfl] at HD2
    go_enter Try.func48, Try.ntmps48
    go_wp2_with fail
    rw [← hw1]
    refine HD.out.mono ?_
    rintro e w2 ⟨rfl, d2⟩
    have hcb := cell_dr d2 hca
    rw [Addr.add, if_pos rfl] at hcb
    obtain ⟨p0, p1⟩ := (b1.kp d2.kp).one
    clear hca hw1
    go_wp2_with fail
    refine (HD2.out _ d2.kp).mono ?_
    rintro e w3 ⟨rfl, d3⟩
    have d4 := d2.trans d3
    obtain ⟨p0, p1⟩ := (b1.kp d4.kp).one
    go_wp2_with fail
    refine (HHD.out _ d4.kp).mono ?_
    rintro e w5 ⟨rfl, d5⟩
    have k5 := d4.kp.trans d5.kp
    have c5 := b2.kp k5
    obtain ⟨z0, z1⟩ := c5.one
    have c6 := c5.set 0 (.int .i64 ((0 : Nat) : Int))
    obtain ⟨z2, z3⟩ := c6.one
    go_wp2_with fail
    have KF := ((kp1.trans k5).setCell (p := ⟨w.heap.size + 1 + 1, 0, none⟩) (by dsimp only; omega) (.int .i64 0)).setCell (p := ⟨w.heap.size + 1 + 1, 0, none⟩) (by dsimp only; omega) (.int .i64 0)
    have c7 := (c5.set 0 (.int .i64 0)).set 0 (.int .i64 0)
    obtain ⟨r0, r1⟩ := Bx.one c7
    refine bodyPost_ret (v := .tuple #[.slice none 0 0, .int .i64 0, .int .i64 0]) (by simp [results, Try.results48, go_sem, r0]) rfl ?_
    rw [HE.out]
    exact ⟨none, 0, 0, 0, rfl, Ru.nil _ _, fun q h => by cases h; rfl, KF⟩
  · rw [if_neg hr1] at HD2
    go_enter Try.func48, Try.ntmps48
    go_wp2_with fail
    rw [← hw1]
    refine HD.out.mono ?_
    rintro e w2 ⟨rfl, d2⟩
    have hcb := cell_dr d2 hca
    rw [Addr.add, if_pos rfl] at hcb
    obtain ⟨p0, p1⟩ := (b1.kp d2.kp).one
    clear hca hw1
    go_wp2_with fail
    refine (HD2.out _ d2.kp).mono ?_
    rintro e w3 ⟨rfl, d3⟩
    have d4 := d2.trans d3
    obtain ⟨p0, p1⟩ := (b1.kp d4.kp).one
    go_wp2_with fail
    refine (HHD.out _ d4.kp).mono ?_
    rintro e w5 ⟨rfl, d5⟩
    have k5 := d4.kp.trans d5.kp
    have c5 := b2.kp k5
    obtain ⟨z0, z1⟩ := c5.one
    have c6 := c5.set 0 (.int .i64 ((0 : Nat) : Int))
    obtain ⟨z2, z3⟩ := c6.one
    go_wp2_with fail
    have KF := ((kp1.trans k5).setCell (p := ⟨w.heap.size + 1 + 1, 0, none⟩) (by dsimp only; omega) (.int .i64 0)).setCell (p := ⟨w.heap.size + 1 + 1, 0, none⟩) (by dsimp only; omega) (.int .i64 0)
    have c7 := (c5.set 0 (.int .i64 0)).set 0 (.int .i64 0)
    obtain ⟨r0, r1⟩ := Bx.one c7
    refine bodyPost_ret (v := .tuple #[.slice none 0 0, .int .i64 0, .int .i64 0]) (by simp [results, Try.results48, go_sem, r0]) rfl ?_
    rw [HE.out]
    exact ⟨none, 0, 0, 0, rfl, Ru.nil _ _, fun q h => by cases h; rfl, KF⟩

set_option maxRecDepth 100000 in
set_option maxHeartbeats 3200000 in
theorem ev_word4k (hT : Txs w F G A n c L) (hs : Ru w H S q r s) (hq0 : 0 < q) (hq : q ≤ 1000000) (hc : s[0]?.getD 0 = 45) (hn1 : (numM (s.drop 1)).2 = 0) (hn0 : (numM s).2 = 0) (hw : spanG wordP s ≠ 0) :
    Calls Try.prog 48 #[.agg #[.slice A n c, .int .i64 at_, .slice B m d], .slice S q r] w (RetV G (eventM L s) w) := by
  have hlen := hs.len
  have hle := hs.le
  have hcp := hs.cap
  unfold maxLen at hcp
  have hd0 := drop_cons (s := s) (a := 0) (by omega)
  rw [List.drop_zero] at hd0
  rw [hc] at hd0
  obtain ⟨k, hkk⟩ : ∃ k, k = spanG wordP s := ⟨_, rfl⟩
  have hkl := spanG_le wordP s
  rw [← hkk, hlen] at hkl
  have HE : Hid (eventM L s = (newM L fun l => beginsM l (s.take k)).map (·, k)) := by
    show _ = _
    have hn0' := hn0
    have hw' := hw
    rw [hd0] at hn0' hw'
    rw [congrArg (eventM L) hd0, evM_w L (by omega) hn0' (fun h => absurd h.2 (by rw [hn1]; omega)) (by decide) hw', ← hd0, ← hkk]
  obtain ⟨w1, hw1, b0, b1, b2, kp1, hz⟩ := ev_boxes w A B S n c m d q r at_
  have hs1 := Sl.kp hs kp1
  obtain ⟨ad, rfl, hca⟩ := Ru.get hs1 hq0
  have HD := Lib.hid (number_any H (some ad) q r s w1 hs1 (by omega))
  have HHD := Lib.hid fun wx (kk : Kp w1 wx) => head_any H (some ad) q r s wx (Sl.kp hs1 kk) (by omega)
  rw [← hkk] at HHD
  rw [hn0] at HD
  rw [hc] at hca
  have HD2 : Hid (∀ wx, Kp w1 wx → Calls Try.prog 60 #[.slice (if r = 1 then some ad else some ⟨ad.block, ad.off + 1, none⟩) (q - 1) (r - 1)] wx fun e w' => e = .returned (.tuple #[.int .i64 (numM (s.drop 1)).1, .int .i64 ((0 : Nat) : Int)]) ∧ Dr wx w') := fun wx kk => by
    have hdr := Ru.drop (Sl.kp hs1 kk) (show 1 ≤ q by omega)
    have h := number_any H (if r = 1 then some ad else some ⟨ad.block, ad.off + 1, none⟩) (q - 1) (r - 1) (s.drop 1) wx (by
      by_cases h1 : r = 1
      · rw [if_pos h1] at hdr ⊢; exact hdr
      · rw [if_neg h1] at hdr ⊢; simpa [Addr.add] using hdr) (by omega)
    rw [hn1] at h
    exact h
  have hne : ((q : Int) == 0) = false := by simp; omega
  have HZ := Lib.hid hz
  have HT := Lib.hid hT.low
  have HS := Lib.hid (Sl.low hs)
  have hk1 : (0 : Int) < (k : Int) := by omega
  have hkb : ((k : Int) == 0) = false := by simp; omega
  clear hT hs hs1 hlen hd0 hz hn0 hw hkk hc hn1
  have hqr : (1 : Int) ≤ (r : Int) := by omega
  by_cases hr1 : r = 1
  · obtain rfl : q = 1 := by omega
    subst hr1
    rw [if_pos rfl] at HD2
    go_enter Try.func48, Try.ntmps48
    go_wp2_with fail
    rw [← hw1]
    refine HD.out.mono ?_
    rintro e w2 ⟨rfl, d2⟩
    have hcb := cell_dr d2 hca
    rw [Addr.add, if_pos rfl] at hcb
    obtain ⟨p0, p1⟩ := (b1.kp d2.kp).one
    clear hca hw1
    go_wp2_with fail
    refine (HD2.out _ d2.kp).mono ?_
    rintro e w3 ⟨rfl, d3⟩
    have d4 := d2.trans d3
    obtain ⟨p0, p1⟩ := (b1.kp d4.kp).one
    go_wp2_with fail
    refine (HHD.out _ d4.kp).mono ?_
    rintro e w5 ⟨rfl, d5⟩
    have k5 := d4.kp.trans d5.kp
    have c5 := b2.kp k5
    obtain ⟨z0, z1⟩ := c5.one
    have c6 := c5.set 0 (.int .i64 (k : Int))
    obtain ⟨z2, z3⟩ := c6.one
    go_upto_region 26 with fail
    have kp6 := (kp1.trans k5).setCell (p := ⟨w.heap.size + 1 + 1, 0, none⟩) (by dsimp only; omega) (.int .i64 (k : Int))
    have b06 := (b0.kp k5).far (p := ⟨w.heap.size + 1 + 1, 0, none⟩) (by dsimp only; omega) (.int .i64 (k : Int))
    have b16 := (b1.kp k5).far (p := ⟨w.heap.size + 1 + 1, 0, none⟩) (by dsimp only; omega) (.int .i64 (k : Int))
    clear z0 z1 z2 z3 p0 p1 c5 k5 hcb d5 d4 d2 b0 b1 b2 kp1 HD HHD HD2 d3
    generalize w5.setCell ⟨w.heap.size + 1 + 1, 0, none⟩ (.int .i64 (k : Int)) = w6 at *
    obtain ⟨v0, v1, v2, _, _, _⟩ := b06.three
    obtain ⟨z2, z3⟩ := c6.one
    have HN := Lib.hid (newest_any _ _ A B n c m d 66 #[.pointer (some ⟨w.heap.size + 1, 0, none⟩), .pointer (some ⟨w.heap.size + 1 + 1, 0, none⟩)] at_ L (fun l => beginsM l (s.take k)) w6 (HT.out.kp kp6) (enters_of Try.func66 (by kernel_rfl) rfl)
      (fun W C k' e x hx hb hr => by
        have h := ev3_any _ _ C (some ad) k' e 1 1 k (w.heap.size + 1) (w.heap.size + 1 + 1) x s W (Bx.kp b16 hb) (Bx.kp c6 hb) hr (Sl.kp (Sl.kp HS.out kp6) hb) hkl
        simpa using h))
    obtain ⟨o, ho⟩ : ∃ o, o = L.reverse.find? (fun l => beginsM l (s.take k)) := ⟨_, rfl⟩
    rw [← ho] at HN
    have HO := Lib.hid ho
    clear ho
    cases o with
    | none =>
      go_wp2_with (go_at_call 62; refine HN.out.mono ?_; rintro e w7 ⟨A3, n3, c3, rfl, hr3, k3⟩; have c7 := c6.kp k3; obtain ⟨y0, y1⟩ := c7.one)
      go_region
      go_wp2_with fail
      have KF := ((kp6.trans k3).setCell (p := ⟨w.heap.size + 1 + 1, 0, none⟩) (by dsimp only; omega) (.int .i64 (k : Int))).drew
      have c8 := (c7.set 0 (.int .i64 (k : Int)))
      obtain ⟨r0, r1⟩ := Bx.one c8
      refine bodyPost_ret (v := .tuple #[.slice none 0 0, .int .i64 (k : Int), .int .i64 5]) (by simp [results, Try.results48, go_sem, r0]) rfl ?_
      rw [HE.out]
      rw [show newM L (fun l => beginsM l (s.take k)) = (none : Option (List Int)) from HO.out.symm]
      exact retV_new (er := 5) rfl (Ru.nil _ _) rfl KF
    | some y =>
      go_wp2_with (go_at_call 62; refine HN.out.mono ?_; rintro e w7 ⟨A3, n3, c3, rfl, hr3, k3⟩; have c7 := c6.kp k3; obtain ⟨y0, y1⟩ := c7.one)
      go_region
      go_wp2_with fail
      have KF := ((kp6.trans k3).setCell (p := ⟨w.heap.size + 1 + 1, 0, none⟩) (by dsimp only; omega) (.int .i64 (k : Int))).drew
      have c8 := (c7.set 0 (.int .i64 (k : Int)))
      obtain ⟨r0, r1⟩ := Bx.one c8
      refine bodyPost_ret (v := .tuple #[.slice A3 n3 c3, .int .i64 (k : Int), .int .i64 0]) (by simp [results, Try.results48, go_sem, r0]) rfl ?_
      rw [HE.out]
      rw [show newM L (fun l => beginsM l (s.take k)) = (some y) from HO.out.symm]
      exact retV_new (er := 0) rfl (Sl.weak (Sl.drew (Sl.setCell hr3 (p := ⟨w.heap.size + 1 + 1, 0, none⟩) (by rintro ⟨_, h⟩; dsimp only at h; omega) (.int .i64 (k : Int)))) fun g _ hg => hg.1) rfl KF
  · rw [if_neg hr1] at HD2
    go_enter Try.func48, Try.ntmps48
    go_wp2_with fail
    rw [← hw1]
    refine HD.out.mono ?_
    rintro e w2 ⟨rfl, d2⟩
    have hcb := cell_dr d2 hca
    rw [Addr.add, if_pos rfl] at hcb
    obtain ⟨p0, p1⟩ := (b1.kp d2.kp).one
    clear hca hw1
    go_wp2_with fail
    refine (HD2.out _ d2.kp).mono ?_
    rintro e w3 ⟨rfl, d3⟩
    have d4 := d2.trans d3
    obtain ⟨p0, p1⟩ := (b1.kp d4.kp).one
    go_wp2_with fail
    refine (HHD.out _ d4.kp).mono ?_
    rintro e w5 ⟨rfl, d5⟩
    have k5 := d4.kp.trans d5.kp
    have c5 := b2.kp k5
    obtain ⟨z0, z1⟩ := c5.one
    have c6 := c5.set 0 (.int .i64 (k : Int))
    obtain ⟨z2, z3⟩ := c6.one
    go_upto_region 26 with fail
    have kp6 := (kp1.trans k5).setCell (p := ⟨w.heap.size + 1 + 1, 0, none⟩) (by dsimp only; omega) (.int .i64 (k : Int))
    have b06 := (b0.kp k5).far (p := ⟨w.heap.size + 1 + 1, 0, none⟩) (by dsimp only; omega) (.int .i64 (k : Int))
    have b16 := (b1.kp k5).far (p := ⟨w.heap.size + 1 + 1, 0, none⟩) (by dsimp only; omega) (.int .i64 (k : Int))
    clear z0 z1 z2 z3 p0 p1 c5 k5 hcb d5 d4 d2 b0 b1 b2 kp1 HD HHD HD2 d3
    generalize w5.setCell ⟨w.heap.size + 1 + 1, 0, none⟩ (.int .i64 (k : Int)) = w6 at *
    obtain ⟨v0, v1, v2, _, _, _⟩ := b06.three
    obtain ⟨z2, z3⟩ := c6.one
    have HN := Lib.hid (newest_any _ _ A B n c m d 66 #[.pointer (some ⟨w.heap.size + 1, 0, none⟩), .pointer (some ⟨w.heap.size + 1 + 1, 0, none⟩)] at_ L (fun l => beginsM l (s.take k)) w6 (HT.out.kp kp6) (enters_of Try.func66 (by kernel_rfl) rfl)
      (fun W C k' e x hx hb hr => by
        have h := ev3_any _ _ C (some ad) k' e q r k (w.heap.size + 1) (w.heap.size + 1 + 1) x s W (Bx.kp b16 hb) (Bx.kp c6 hb) hr (Sl.kp (Sl.kp HS.out kp6) hb) hkl
        simpa using h))
    obtain ⟨o, ho⟩ : ∃ o, o = L.reverse.find? (fun l => beginsM l (s.take k)) := ⟨_, rfl⟩
    rw [← ho] at HN
    have HO := Lib.hid ho
    clear ho
    cases o with
    | none =>
      go_wp2_with (go_at_call 62; refine HN.out.mono ?_; rintro e w7 ⟨A3, n3, c3, rfl, hr3, k3⟩; have c7 := c6.kp k3; obtain ⟨y0, y1⟩ := c7.one)
      go_region
      go_wp2_with fail
      have KF := ((kp6.trans k3).setCell (p := ⟨w.heap.size + 1 + 1, 0, none⟩) (by dsimp only; omega) (.int .i64 (k : Int))).drew
      have c8 := (c7.set 0 (.int .i64 (k : Int)))
      obtain ⟨r0, r1⟩ := Bx.one c8
      refine bodyPost_ret (v := .tuple #[.slice none 0 0, .int .i64 (k : Int), .int .i64 5]) (by simp [results, Try.results48, go_sem, r0]) rfl ?_
      rw [HE.out]
      rw [show newM L (fun l => beginsM l (s.take k)) = (none : Option (List Int)) from HO.out.symm]
      exact retV_new (er := 5) rfl (Ru.nil _ _) rfl KF
    | some y =>
      go_wp2_with (go_at_call 62; refine HN.out.mono ?_; rintro e w7 ⟨A3, n3, c3, rfl, hr3, k3⟩; have c7 := c6.kp k3; obtain ⟨y0, y1⟩ := c7.one)
      go_region
      go_wp2_with fail
      have KF := ((kp6.trans k3).setCell (p := ⟨w.heap.size + 1 + 1, 0, none⟩) (by dsimp only; omega) (.int .i64 (k : Int))).drew
      have c8 := (c7.set 0 (.int .i64 (k : Int)))
      obtain ⟨r0, r1⟩ := Bx.one c8
      refine bodyPost_ret (v := .tuple #[.slice A3 n3 c3, .int .i64 (k : Int), .int .i64 0]) (by simp [results, Try.results48, go_sem, r0]) rfl ?_
      rw [HE.out]
      rw [show newM L (fun l => beginsM l (s.take k)) = (some y) from HO.out.symm]
      exact retV_new (er := 0) rfl (Sl.weak (Sl.drew (Sl.setCell hr3 (p := ⟨w.heap.size + 1 + 1, 0, none⟩) (by rintro ⟨_, h⟩; dsimp only at h; omega) (.int .i64 (k : Int)))) fun g _ hg => hg.1) rfl KF

theorem ev_any (hG : ∀ k, w.heap.size ≤ k → G k) (hT : Txs w F G A n c L) (hst : Ru w F1 B m d st) (hs : Ru w H S q r s) (hq : q ≤ 1000000) (hn : n ≤ 2000) (hm : m ≤ 1099511627776) (hL : ∀ x ∈ L, x.length ≤ 1099511627776) :
    Calls Try.prog 48 #[.agg #[.slice A n c, .int .i64 at_, .slice B m d], .slice S q r] w (RetV G (eventM L s) w) := by
  by_cases h : q = 0
  · exact ev_end G H A B S n c m d q r at_ L s w hs h
  have hq0 : 0 < q := by omega
  by_cases h33 : s[0]?.getD 0 = 33
  · exact ev_bang F G H F1 A B S n c m d q r at_ L st s w hG hT hst hs hq0 hq hn hm hL h33
  by_cases hk : 0 < (numM s).2
  · exact ev_num F G H F1 A B S n c m d q r at_ L st s w hG hT hst hs hq0 hq hn hm hL h33 hk
  by_cases h63 : s[0]?.getD 0 = 63
  · exact ev_q F G H A B S n c m d q r at_ L s w hG hT hs hq0 hq hL h63
  by_cases hc : s[0]?.getD 0 = 45
  · by_cases h1 : 0 < (numM (s.drop 1)).2
    · exact ev_minus F G H F1 A B S n c m d q r at_ L st s w hG hT hst hs hq0 hq hn hm hL hc h1
    · by_cases hw : spanG wordP s = 0
      · exact ev_word40 G H A B S n c m d q r at_ L s w hs hq0 hq hc (by omega) (by omega) hw
      · exact ev_word4k F G H A B S n c m d q r at_ L s w hT hs hq0 hq hc (by omega) (by omega) hw
  · by_cases hw : spanG wordP s = 0
    · exact ev_wordn0 G H A B S n c m d q r at_ L s w hs hq0 hq h33 h63 hc (by omega) hw
    · exact ev_wordnk F G H A B S n c m d q r at_ L s w hT hs hq0 hq h33 h63 hc (by omega) hw
end
end Go.Proofs.Ytcbachblhfkcoaa
