/-
  package past: event: ? and a text. Conditions: the slices can be read, and are not too long.
-/
import Derived.RegionTactic
import Derived.ChangeAlike
import Derived.Test.YtcbachblhfkcoaaExI
namespace Go.Proofs.Ytcbachblhfkcoaa
open Go.RowKit Go.Shelf

section
variable (F G H : Nat → Prop) (A B S : Option Addr) (n c m d q r : Nat) (at_ : Int) (L : List (List Int)) (s : List Int) (w : World)

set_option maxRecDepth 100000 in
set_option maxHeartbeats 3200000 in
theorem ev_q_yes (hG : ∀ k, w.heap.size ≤ k → G k) (hT : Txs w F G A n c L) (hs : Ru w H S q r s) (hq0 : 0 < q) (hq : q ≤ 1000000) (hL : ∀ x ∈ L, x.length ≤ 1099511627776) (hc : s[0]?.getD 0 = 63) (hy : spanG notQ (s.drop 1) < q - 1) :
    Calls Try.prog 48 #[.agg #[.slice A n c, .int .i64 at_, .slice B m d], .slice S q r] w (RetV G (eventM L s) w) := by
  have hlen := hs.len
  have hle := hs.le
  have hcp := hs.cap
  unfold maxLen at hcp
  have hd0 := drop_cons (s := s) (a := 0) (by omega)
  rw [List.drop_zero] at hd0
  have e63 : s = 63 :: s.drop 1 := by rw [hc] at hd0; exact hd0
  obtain ⟨k, hkk⟩ : ∃ k, k = spanG notQ (s.drop 1) := ⟨_, rfl⟩
  have HE : Hid (eventM L s = (newM L fun l => hasM l ((s.drop 1).take k)).map (·, k + 2)) := by
    show _ = _
    rw [congrArg (eventM L) e63, evM_q, ← hkk, List.length_drop, hlen, if_pos (by omega)]
  obtain ⟨w1, hw1, b0, b1, b2, kp1, hz⟩ := ev_boxes w A B S n c m d q r at_
  have hs1 := Sl.kp hs kp1
  obtain ⟨ad, rfl, hca⟩ := Ru.get hs1 hq0
  have HD := Lib.hid (number_any H (some ad) q r s w1 hs1 (by omega))
  rw [hd0, hc, show (numM (63 :: s.drop (0 + 1))).2 = 0 from numM_no _ (by decide)] at HD
  rw [hc] at hca
  have hr1 : ¬ r = 1 := by omega
  have hdr := Ru.drop hs1 (show 1 ≤ q by omega)
  rw [if_neg hr1] at hdr
  have hdr2 : Ru w1 H (some ⟨ad.block, ad.off + 1, none⟩) (q - 1) (r - 1) (s.drop 1) := by simpa [Addr.add] using hdr
  have HI := Lib.hid fun wx (kk : Kp w1 wx) => index_any H _ (q - 1) (r - 1) (s.drop 1) wx (Sl.kp hdr2 kk) (by omega)
  have HP : Hid (Ru w1 H (some ⟨ad.block, ad.off + 1, none⟩) k (r - 1) ((s.drop 1).take k)) := Ru.take hdr2 (by omega)
  rw [← hkk, if_pos (by omega)] at HI
  have hne : ((q : Int) == 0) = false := by simp; omega
  have HG := Lib.hid hG
  have HZ := Lib.hid hz
  have HT := Lib.hid (hT.low.kp kp1)
  have HL := Lib.hid hL
  have hkb : k < q - 1 := by omega
  have hrq : (1 : Int) < (r : Int) := by omega
  clear hT hL hG hz hs hlen hd0 e63 hc hdr hdr2 hs1 hy hkk
  go_enter Try.func48, Try.ntmps48
  go_wp2_with fail
  rw [← hw1]
  refine HD.out.mono ?_
  rintro e w2 ⟨rfl, d2⟩
  have hcb := cell_dr d2 hca
  rw [Addr.add, if_pos rfl] at hcb
  obtain ⟨p0, p1⟩ := (b1.kp d2.kp).one
  clear hca hw1
  go_wp2_with fail
  refine (HI.out _ d2.kp).mono ?_
  rintro e w3 ⟨rfl, d3⟩
  have d3 := d2.trans d3
  obtain ⟨p0, p1⟩ := (b1.kp d3.kp).one
  go_wp2_with fail
  have hlt3 : w.heap.size + 1 < w3.heap.size := World.block_lt_of_cell? w3 _ p0
  go_region
  obtain ⟨pt, hpt⟩ : ∃ pt, pt = w3.heap.size := ⟨_, rfl⟩
  have kp4 : Kp w3 (w3.alloc (.cells #[.slice (some ⟨ad.block, ad.off + 1, none⟩) (q - 1) (r - 1)] 23)).drew := ((Kp.refl w3).alloc _).drew
  have b12 : Bx (w3.alloc (.cells #[.slice (some ⟨ad.block, ad.off + 1, none⟩) (q - 1) (r - 1)] 23)).drew w3.heap.size #[.slice (some ⟨ad.block, ad.off + 1, none⟩) (q - 1) (r - 1)] 23 := (Bx.new _ _ _).drew
  have k4 := d3.kp.trans kp4
  generalize (w3.alloc (.cells #[.slice (some ⟨ad.block, ad.off + 1, none⟩) (q - 1) (r - 1)] 23)).drew = w4 at *
  rw [← hpt] at b12 ⊢
  have HPT : Hid (w1.heap.size ≤ pt) := by show _ ≤ _; rw [hpt]; exact d3.kp.size
  clear hlt3 p0 p1 hcb hpt kp4
  obtain ⟨p0, p1⟩ := (b1.kp k4).one
  obtain ⟨q0, q1⟩ := b12.one
  go_wp2_with fail
  go_region
  have kp5 : Kp w1 (w4.setCell ⟨pt, 0, none⟩ (.slice (some ⟨ad.block, ad.off + 1, none⟩) k (r - 1))).drew := (k4.setCell (p := ⟨pt, 0, none⟩) HPT.out _).drew
  have b13 := (b12.set 0 (.slice (some ⟨ad.block, ad.off + 1, none⟩) k (r - 1))).drew
  generalize (w4.setCell ⟨pt, 0, none⟩ (.slice (some ⟨ad.block, ad.off + 1, none⟩) k (r - 1))).drew = w5 at *
  clear p0 p1 q0 q1 b12 k4
  obtain ⟨v0, v1, v2, _, _, _⟩ := (b0.kp kp5).three
  have c5 := b2.kp kp5
  have HN := Lib.hid (newest_any _ _ A B n c m d 63 #[.pointer (some ⟨pt, 0, none⟩)] at_ L (fun l => hasM l ((s.drop 1).take k)) w5 (HT.out.kp kp5) (enters_of Try.func63 (by kernel_rfl) rfl)
    (fun W C k' e x hx hb hr => by
      have h := ev2_any _ H C (some ⟨ad.block, ad.off + 1, none⟩) k' e k (r - 1) pt x ((s.drop 1).take k) W (Bx.kp b13 hb) hr (Sl.kp (Sl.kp HP.out kp5) hb) (by have := hr.len; have := HL.out x hx; omega)
      simpa using h))
  obtain ⟨o, ho⟩ : ∃ o, o = L.reverse.find? (fun l => hasM l ((s.drop 1).take k)) := ⟨_, rfl⟩
  rw [← ho] at HN
  have HO := Lib.hid ho
  clear ho
  cases o with
  | none =>
    go_wp2_with (go_at_call 62; refine HN.out.mono ?_; rintro e w6 ⟨A3, n3, c3, rfl, hr3, k3⟩; have c6 := c5.kp k3; obtain ⟨y0, y1⟩ := c6.one)
    have KF := ((kp1.trans (kp5.trans k3)).setCell (p := ⟨w.heap.size + 1 + 1, 0, none⟩) (by dsimp only; omega) (.int .i64 ((k : Int) + 2)))
    have c7 := c6.set 0 (.int .i64 ((k : Int) + 2))
    obtain ⟨r0, r1⟩ := Bx.one c7
    refine bodyPost_ret (v := .tuple #[.slice none 0 0, .int .i64 ((k : Int) + 2), .int .i64 5]) (by simp [results, Try.results48, go_sem, r0]) rfl ?_
    rw [HE.out]
    rw [show newM L (fun l => hasM l ((s.drop 1).take k)) = (none : Option (List Int)) from HO.out.symm]
    exact retV_new (er := 5) rfl (Ru.nil _ _) (by omega) KF
  | some y =>
    go_wp2_with (go_at_call 62; refine HN.out.mono ?_; rintro e w6 ⟨A3, n3, c3, rfl, hr3, k3⟩; have c6 := c5.kp k3; obtain ⟨y0, y1⟩ := c6.one)
    have KF := ((kp1.trans (kp5.trans k3)).setCell (p := ⟨w.heap.size + 1 + 1, 0, none⟩) (by dsimp only; omega) (.int .i64 ((k : Int) + 2)))
    have c7 := c6.set 0 (.int .i64 ((k : Int) + 2))
    obtain ⟨r0, r1⟩ := Bx.one c7
    refine bodyPost_ret (v := .tuple #[.slice A3 n3 c3, .int .i64 ((k : Int) + 2), .int .i64 0]) (by simp [results, Try.results48, go_sem, r0]) rfl ?_
    rw [HE.out]
    rw [show newM L (fun l => hasM l ((s.drop 1).take k)) = (some y) from HO.out.symm]
    exact retV_new (er := 0) rfl (Sl.weak (Sl.setCell hr3 (p := ⟨w.heap.size + 1 + 1, 0, none⟩) (by rintro ⟨_, h⟩; dsimp only at h; omega) (.int .i64 ((k : Int) + 2))) fun g _ hg => hg.1) (by omega) KF

set_option maxRecDepth 100000 in
set_option maxHeartbeats 3200000 in
theorem ev_q_no (hG : ∀ k, w.heap.size ≤ k → G k) (hT : Txs w F G A n c L) (hs : Ru w H S q r s) (hq0 : 0 < q) (hq : q ≤ 1000000) (hL : ∀ x ∈ L, x.length ≤ 1099511627776) (hc : s[0]?.getD 0 = 63) (hy : spanG notQ (s.drop 1) = q - 1) (hr1 : ¬ r = 1) :
    Calls Try.prog 48 #[.agg #[.slice A n c, .int .i64 at_, .slice B m d], .slice S q r] w (RetV G (eventM L s) w) := by
  have hlen := hs.len
  have hle := hs.le
  have hcp := hs.cap
  unfold maxLen at hcp
  have hd0 := drop_cons (s := s) (a := 0) (by omega)
  rw [List.drop_zero] at hd0
  have e63 : s = 63 :: s.drop 1 := by rw [hc] at hd0; exact hd0
  obtain ⟨k, hkk⟩ : ∃ k, k = spanG notQ (s.drop 1) := ⟨_, rfl⟩
  have HE : Hid (eventM L s = (newM L fun l => hasM l (s.drop 1)).map (·, q)) := by
    show _ = _
    rw [congrArg (eventM L) e63, evM_q, ← hkk, List.length_drop, hlen, if_neg (by omega), List.take_of_length_le (by rw [List.length_drop]; omega), show q - 1 + 1 = q by omega]
  obtain ⟨w1, hw1, b0, b1, b2, kp1, hz⟩ := ev_boxes w A B S n c m d q r at_
  have hs1 := Sl.kp hs kp1
  obtain ⟨ad, rfl, hca⟩ := Ru.get hs1 hq0
  have HD := Lib.hid (number_any H (some ad) q r s w1 hs1 (by omega))
  rw [hd0, hc, show (numM (63 :: s.drop (0 + 1))).2 = 0 from numM_no _ (by decide)] at HD
  rw [hc] at hca
  have hdr := Ru.drop hs1 (show 1 ≤ q by omega)
  rw [if_neg hr1] at hdr
  have hdr2 : Ru w1 H (some ⟨ad.block, ad.off + 1, none⟩) (q - 1) (r - 1) (s.drop 1) := by simpa [Addr.add] using hdr
  have HI := Lib.hid fun wx (kk : Kp w1 wx) => index_any H _ (q - 1) (r - 1) (s.drop 1) wx (Sl.kp hdr2 kk) (by omega)
  have HP : Hid (Ru w1 H (some ⟨ad.block, ad.off + 1, none⟩) (q - 1) (r - 1) (s.drop 1)) := hdr2
  rw [← hkk, if_neg (by omega)] at HI
  have hne : ((q : Int) == 0) = false := by simp; omega
  have HG := Lib.hid hG
  have HZ := Lib.hid hz
  have HT := Lib.hid (hT.low.kp kp1)
  have HL := Lib.hid hL
  have hrq : (1 : Int) < (r : Int) := by omega
  clear hT hL hG hz hs hlen hd0 e63 hc hdr hdr2 hs1 hy hkk
  go_enter Try.func48, Try.ntmps48
  go_wp2_with fail
  rw [← hw1]
  refine HD.out.mono ?_
  rintro e w2 ⟨rfl, d2⟩
  have hcb := cell_dr d2 hca
  rw [Addr.add, if_pos rfl] at hcb
  obtain ⟨p0, p1⟩ := (b1.kp d2.kp).one
  clear hca hw1
  go_wp2_with fail
  refine (HI.out _ d2.kp).mono ?_
  rintro e w3 ⟨rfl, d3⟩
  have d3 := d2.trans d3
  obtain ⟨p0, p1⟩ := (b1.kp d3.kp).one
  go_wp2_with fail
  have hlt3 : w.heap.size + 1 < w3.heap.size := World.block_lt_of_cell? w3 _ p0
  go_region
  obtain ⟨pt, hpt⟩ : ∃ pt, pt = w3.heap.size := ⟨_, rfl⟩
  have kp4 : Kp w3 (w3.alloc (.cells #[.slice (some ⟨ad.block, ad.off + 1, none⟩) (q - 1) (r - 1)] 23)).drew := ((Kp.refl w3).alloc _).drew
  have b12 : Bx (w3.alloc (.cells #[.slice (some ⟨ad.block, ad.off + 1, none⟩) (q - 1) (r - 1)] 23)).drew w3.heap.size #[.slice (some ⟨ad.block, ad.off + 1, none⟩) (q - 1) (r - 1)] 23 := (Bx.new _ _ _).drew
  have k4 := d3.kp.trans kp4
  generalize (w3.alloc (.cells #[.slice (some ⟨ad.block, ad.off + 1, none⟩) (q - 1) (r - 1)] 23)).drew = w4 at *
  rw [← hpt] at b12 ⊢
  have HPT : Hid (w1.heap.size ≤ pt) := by show _ ≤ _; rw [hpt]; exact d3.kp.size
  clear hlt3 p0 p1 hcb hpt kp4
  obtain ⟨p0, p1⟩ := (b1.kp k4).one
  obtain ⟨q0, q1⟩ := b12.one
  have kp5 := k4
  have b13 := b12
  obtain ⟨w5, hw5⟩ : ∃ w5, w5 = w4 := ⟨_, rfl⟩
  subst hw5
  clear p0 p1 q0 q1 b12 k4
  obtain ⟨v0, v1, v2, _, _, _⟩ := (b0.kp kp5).three
  have c5 := b2.kp kp5
  have HN := Lib.hid (newest_any _ _ A B n c m d 63 #[.pointer (some ⟨pt, 0, none⟩)] at_ L (fun l => hasM l (s.drop 1)) w5 (HT.out.kp kp5) (enters_of Try.func63 (by kernel_rfl) rfl)
    (fun W C k' e x hx hb hr => by
      have h := ev2_any _ H C (some ⟨ad.block, ad.off + 1, none⟩) k' e (q - 1) (r - 1) pt x (s.drop 1) W (Bx.kp b13 hb) hr (Sl.kp (Sl.kp HP.out kp5) hb) (by have := hr.len; have := HL.out x hx; omega)
      simpa using h))
  obtain ⟨o, ho⟩ : ∃ o, o = L.reverse.find? (fun l => hasM l (s.drop 1)) := ⟨_, rfl⟩
  rw [← ho] at HN
  have HO := Lib.hid ho
  clear ho
  cases o with
  | none =>
    go_wp2_with (go_at_call 62; refine HN.out.mono ?_; rintro e w6 ⟨A3, n3, c3, rfl, hr3, k3⟩; have c6 := c5.kp k3; obtain ⟨y0, y1⟩ := c6.one)
    have KF := ((kp1.trans (kp5.trans k3)).setCell (p := ⟨w.heap.size + 1 + 1, 0, none⟩) (by dsimp only; omega) (.int .i64 (q : Int)))
    have c7 := c6.set 0 (.int .i64 (q : Int))
    obtain ⟨r0, r1⟩ := Bx.one c7
    refine bodyPost_ret (v := .tuple #[.slice none 0 0, .int .i64 (q : Int), .int .i64 5]) (by simp [results, Try.results48, go_sem, r0]) rfl ?_
    rw [HE.out]
    rw [show newM L (fun l => hasM l (s.drop 1)) = (none : Option (List Int)) from HO.out.symm]
    exact retV_new (er := 5) rfl (Ru.nil _ _) rfl KF
  | some y =>
    go_wp2_with (go_at_call 62; refine HN.out.mono ?_; rintro e w6 ⟨A3, n3, c3, rfl, hr3, k3⟩; have c6 := c5.kp k3; obtain ⟨y0, y1⟩ := c6.one)
    have KF := ((kp1.trans (kp5.trans k3)).setCell (p := ⟨w.heap.size + 1 + 1, 0, none⟩) (by dsimp only; omega) (.int .i64 (q : Int)))
    have c7 := c6.set 0 (.int .i64 (q : Int))
    obtain ⟨r0, r1⟩ := Bx.one c7
    refine bodyPost_ret (v := .tuple #[.slice A3 n3 c3, .int .i64 (q : Int), .int .i64 0]) (by simp [results, Try.results48, go_sem, r0]) rfl ?_
    rw [HE.out]
    rw [show newM L (fun l => hasM l (s.drop 1)) = (some y) from HO.out.symm]
    exact retV_new (er := 0) rfl (Sl.weak (Sl.setCell hr3 (p := ⟨w.heap.size + 1 + 1, 0, none⟩) (by rintro ⟨_, h⟩; dsimp only at h; omega) (.int .i64 (q : Int))) fun g _ hg => hg.1) rfl KF

set_option maxRecDepth 100000 in
set_option maxHeartbeats 3200000 in
theorem ev_q_no1 (hG : ∀ k, w.heap.size ≤ k → G k) (hT : Txs w F G A n c L) (hs : Ru w H S 1 1 s) (hL : ∀ x ∈ L, x.length ≤ 1099511627776) (hc : s[0]?.getD 0 = 63) :
    Calls Try.prog 48 #[.agg #[.slice A n c, .int .i64 at_, .slice B m d], .slice S 1 1] w (RetV G (eventM L s) w) := by
  have hlen := hs.len
  have hle := hs.le
  have hcp := hs.cap
  unfold maxLen at hcp
  have hd0 := drop_cons (s := s) (a := 0) (by omega)
  rw [List.drop_zero] at hd0
  have e63 : s = 63 :: s.drop 1 := by rw [hc] at hd0; exact hd0
  have HE : Hid (eventM L s = (newM L fun l => hasM l []).map (·, 1)) := by
    show _ = _
    rw [congrArg (eventM L) e63, evM_q, List.drop_eq_nil_of_le (show s.length ≤ 1 by omega)]; rfl
  obtain ⟨w1, hw1, b0, b1, b2, kp1, hz⟩ := ev_boxes w A B S n c m d 1 1 at_
  have hs1 := Sl.kp hs kp1
  obtain ⟨ad, rfl, hca⟩ := Ru.get hs1 (k := 0) (by omega)
  have HD := Lib.hid (number_any H (some ad) 1 1 s w1 hs1 (by omega))
  rw [hd0, hc, show (numM (63 :: s.drop (0 + 1))).2 = 0 from numM_no _ (by decide)] at HD
  rw [hc] at hca
  have hdr := Ru.drop hs1 (show 1 ≤ 1 by omega)
  rw [if_pos rfl] at hdr
  have hdr2 : Ru w1 H (some ad) 0 0 [] := by rw [List.drop_eq_nil_of_le (show s.length ≤ 1 by omega)] at hdr; exact hdr
  have HI := Lib.hid fun wx (kk : Kp w1 wx) => index_any H _ 0 0 [] wx (Sl.kp hdr2 kk) (by omega)
  have HP : Hid (Ru w1 H (some ad) 0 0 []) := hdr2
  rw [if_neg (by omega)] at HI
  have HG := Lib.hid hG
  have HZ := Lib.hid hz
  have HT := Lib.hid (hT.low.kp kp1)
  have HL := Lib.hid hL
  clear hT hL hG hz hs hlen hd0 e63 hc hdr hdr2 hs1
  go_enter Try.func48, Try.ntmps48
  go_wp2_with fail
  rw [← hw1]
  refine HD.out.mono ?_
  rintro e w2 ⟨rfl, d2⟩
  have hcb := cell_dr d2 hca
  rw [Addr.add, if_pos rfl] at hcb
  obtain ⟨p0, p1⟩ := (b1.kp d2.kp).one
  clear hca hw1
  go_wp2_with fail
  refine (HI.out _ d2.kp).mono ?_
  rintro e w3 ⟨rfl, d3⟩
  have d3 := d2.trans d3
  obtain ⟨p0, p1⟩ := (b1.kp d3.kp).one
  go_wp2_with fail
  have hlt3 : w.heap.size + 1 < w3.heap.size := World.block_lt_of_cell? w3 _ p0
  go_region
  obtain ⟨pt, hpt⟩ : ∃ pt, pt = w3.heap.size := ⟨_, rfl⟩
  have kp4 : Kp w3 (w3.alloc (.cells #[.slice (some ad) 0 0] 23)).drew := ((Kp.refl w3).alloc _).drew
  have b12 : Bx (w3.alloc (.cells #[.slice (some ad) 0 0] 23)).drew w3.heap.size #[.slice (some ad) 0 0] 23 := (Bx.new _ _ _).drew
  have k4 := d3.kp.trans kp4
  generalize (w3.alloc (.cells #[.slice (some ad) 0 0] 23)).drew = w4 at *
  rw [← hpt] at b12 ⊢
  have HPT : Hid (w1.heap.size ≤ pt) := by show _ ≤ _; rw [hpt]; exact d3.kp.size
  clear hlt3 p0 p1 hcb hpt kp4
  obtain ⟨p0, p1⟩ := (b1.kp k4).one
  obtain ⟨q0, q1⟩ := b12.one
  have kp5 := k4
  have b13 := b12
  obtain ⟨w5, hw5⟩ : ∃ w5, w5 = w4 := ⟨_, rfl⟩
  subst hw5
  clear p0 p1 q0 q1 b12 k4
  obtain ⟨v0, v1, v2, _, _, _⟩ := (b0.kp kp5).three
  have c5 := b2.kp kp5
  have HN := Lib.hid (newest_any _ _ A B n c m d 63 #[.pointer (some ⟨pt, 0, none⟩)] at_ L (fun l => hasM l []) w5 (HT.out.kp kp5) (enters_of Try.func63 (by kernel_rfl) rfl)
    (fun W C k' e x hx hb hr => by
      have h := ev2_any _ H C (some ad) k' e 0 0 pt x [] W (Bx.kp b13 hb) hr (Sl.kp (Sl.kp HP.out kp5) hb) (by have := hr.len; have := HL.out x hx; omega)
      simpa using h))
  obtain ⟨o, ho⟩ : ∃ o, o = L.reverse.find? (fun l => hasM l []) := ⟨_, rfl⟩
  rw [← ho] at HN
  have HO := Lib.hid ho
  clear ho
  cases o with
  | none =>
    go_wp2_with (go_at_call 62; refine HN.out.mono ?_; rintro e w6 ⟨A3, n3, c3, rfl, hr3, k3⟩; have c6 := c5.kp k3; obtain ⟨y0, y1⟩ := c6.one)
    have KF := ((kp1.trans (kp5.trans k3)).setCell (p := ⟨w.heap.size + 1 + 1, 0, none⟩) (by dsimp only; omega) (.int .i64 1))
    have c7 := c6.set 0 (.int .i64 1)
    obtain ⟨r0, r1⟩ := Bx.one c7
    refine bodyPost_ret (v := .tuple #[.slice none 0 0, .int .i64 1, .int .i64 5]) (by simp [results, Try.results48, go_sem, r0]) rfl ?_
    rw [HE.out]
    rw [show newM L (fun l => hasM l []) = (none : Option (List Int)) from HO.out.symm]
    exact retV_new (er := 5) rfl (Ru.nil _ _) rfl KF
  | some y =>
    go_wp2_with (go_at_call 62; refine HN.out.mono ?_; rintro e w6 ⟨A3, n3, c3, rfl, hr3, k3⟩; have c6 := c5.kp k3; obtain ⟨y0, y1⟩ := c6.one)
    have KF := ((kp1.trans (kp5.trans k3)).setCell (p := ⟨w.heap.size + 1 + 1, 0, none⟩) (by dsimp only; omega) (.int .i64 1))
    have c7 := c6.set 0 (.int .i64 1)
    obtain ⟨r0, r1⟩ := Bx.one c7
    refine bodyPost_ret (v := .tuple #[.slice A3 n3 c3, .int .i64 1, .int .i64 0]) (by simp [results, Try.results48, go_sem, r0]) rfl ?_
    rw [HE.out]
    rw [show newM L (fun l => hasM l []) = (some y) from HO.out.symm]
    exact retV_new (er := 0) rfl (Sl.weak (Sl.setCell hr3 (p := ⟨w.heap.size + 1 + 1, 0, none⟩) (by rintro ⟨_, h⟩; dsimp only at h; omega) (.int .i64 1)) fun g _ hg => hg.1) rfl KF

theorem ev_q (hG : ∀ k, w.heap.size ≤ k → G k) (hT : Txs w F G A n c L) (hs : Ru w H S q r s) (hq0 : 0 < q) (hq : q ≤ 1000000) (hL : ∀ x ∈ L, x.length ≤ 1099511627776) (hc : s[0]?.getD 0 = 63) :
    Calls Try.prog 48 #[.agg #[.slice A n c, .int .i64 at_, .slice B m d], .slice S q r] w (RetV G (eventM L s) w) := by
  have hl := spanG_le notQ (s.drop 1)
  rw [List.length_drop, hs.len] at hl
  by_cases hy : spanG notQ (s.drop 1) < q - 1
  · exact ev_q_yes F G H A B S n c m d q r at_ L s w hG hT hs hq0 hq hL hc hy
  · by_cases hr : r = 1
    · have := hs.le
      obtain rfl : q = 1 := by omega
      subst hr
      exact ev_q_no1 F G H A B S n c m d at_ L s w hG hT hs hL hc
    · exact ev_q_no F G H A B S n c m d q r at_ L s w hG hT hs hq0 hq hL hc (by omega) hr
end
end Go.Proofs.Ytcbachblhfkcoaa
