/-
  package past: event: its three closures, and the ways that ask for a number. Conditions: the slices can be read, and are not too long.
-/
import Derived.Deep.DeepCutAuto
import Derived.Deep.CutBlock
import Derived.Test.YtcbachblhfkcoaaExH
import Derived.Test.YtcbachblhfkcoaaExF
namespace Go.Proofs.Ytcbachblhfkcoaa
open Go.RowKit Go.Shelf

def RetPk (o : Option (List Int)) (w : World) (e : Ending) (w' : World) : Prop :=
  ∃ A' n' c' er, e = .returned (.tuple #[.slice A' n' c', .int .i64 er]) ∧ Hid (er = if o.isSome then 0 else 5) ∧ Ru w' (From w.heap.size) A' n' c' (o.getD []) ∧ Kp w w'

set_option maxRecDepth 100000 in
set_option maxHeartbeats 1600000 in
theorem pick_any (F G F1 : Nat → Prop) (A B : Option Addr) (n c m d pb : Nat) (at_ i : Int) (L : List (List Int)) (st : List Int) (w : World) (hb : Bx w pb #[.slice A n c, .int .i64 at_, .slice B m d] 27)
    (hT : Txs w F G A n c L) (hS : Ru w F1 B m d st) (hn : n ≤ 2000) (hm : m ≤ 1099511627776) (hL : ∀ x ∈ L, x.length ≤ 1099511627776) :
    Calls Try.prog 59 #[.int .i64 i, .pointer (some ⟨pb, 0, none⟩)] w (RetPk (pickM L i) w) := by
  have hlen := hT.len
  have HC := Lib.hid (past_line F G F1 Any A B none n c m d 0 0 at_ i L st [] w hT hS (Ru.nil w Any) hn hm (by omega) hL)
  obtain ⟨p0, p1, p2, _, _, _⟩ := hb.three
  by_cases h1 : i < 0 ∨ (n : Int) < i
  · have HL : Hid (lineM L at_ st i [] = none) := by show _ = _; unfold lineM; rw [if_pos (by omega)]
    have HP : Hid (pickM L i = none) := by show _ = _; unfold pickM; rw [if_neg (by omega)]
    rw [HL.out] at HC
    clear hT hS hb hlen h1
    go_enter Try.func59, Try.ntmps59
    go_wp2_with (go_at_call 45; refine HC.out.mono ?_; rintro e w2 ⟨A2, n2, c2, rfl, hr2, k2⟩)
    go_ret2
    rw [HP.out]
    exact ⟨none, 0, 0, 5, rfl, rfl, Ru.nil _ _, k2⟩
  · by_cases h0 : i = 0
    · subst h0
      have HP : Hid (pickM L 0 = none) := by show _ = _; unfold pickM; rw [if_neg (by omega)]
      clear hT hS hb hlen h1
      obtain ⟨o, ho⟩ : ∃ o, o = lineM L at_ st 0 [] := ⟨_, rfl⟩
      rw [← ho] at HC
      clear ho
      cases o with
      | none =>
        go_enter Try.func59, Try.ntmps59
        go_wp2_with (go_at_call 45; refine HC.out.mono ?_; rintro e w2 ⟨A2, n2, c2, rfl, hr2, k2⟩)
        go_ret2
        rw [HP.out]
        exact ⟨none, 0, 0, 5, rfl, rfl, Ru.nil _ _, k2⟩
      | some y =>
        go_enter Try.func59, Try.ntmps59
        go_wp2_with (go_at_call 45; refine HC.out.mono ?_; rintro e w2 ⟨A2, n2, c2, rfl, hr2, k2⟩)
        go_ret2
        rw [HP.out]
        exact ⟨none, 0, 0, 5, rfl, rfl, Ru.nil _ _, k2⟩
    · have hi0 : 0 < i := by omega
      have HL : Hid (lineM L at_ st i [] = some (L[L.length - i.toNat]?.getD [])) := by show _ = _; unfold lineM; rw [if_neg (by omega), if_pos hi0, List.getD_eq_getElem?_getD]
      have HP : Hid (pickM L i = some (L[L.length - i.toNat]?.getD [])) := by show _ = _; unfold pickM; rw [if_pos (by omega)]
      rw [HL.out] at HC
      generalize L[L.length - i.toNat]?.getD [] = y at *
      clear hT hS hb hlen h1 h0
      go_enter Try.func59, Try.ntmps59
      go_wp2_with (go_at_call 45; refine HC.out.mono ?_; rintro e w2 ⟨A2, n2, c2, rfl, hr2, k2⟩)
      go_ret2
      rw [HP.out]
      exact ⟨A2, n2, c2, 0, rfl, rfl, hr2, k2⟩

set_option maxRecDepth 100000 in
theorem ev2_any (G H : Nat → Prop) (C P : Option Addr) (k e m d pt : Nat) (x part : List Int) (w : World) (hb : Bx w pt #[.slice P m d] 23) (hx : Ru w G C k e x) (hp : Ru w H P m d part) (hk : k ≤ 1099511627776) :
    Calls Try.prog 63 #[.slice C k e, .pointer (some ⟨pt, 0, none⟩)] w fun e w' => e = .returned (.bool (hasM x part)) ∧ Dr w w' := by
  obtain ⟨p0, p1⟩ := hb.one
  have HC := Lib.hid (has_any G H C P k e m d x part w hx hp hk)
  clear hb hx hp
  go_enter Try.func63, Try.ntmps63
  go_wp2_with (go_at_call 64; refine HC.out.mono ?_; rintro e w2 ⟨rfl, dd⟩)
  go_ret
  exact ⟨rfl, dd⟩

set_option maxRecDepth 100000 in
theorem ev3_any (G H : Nat → Prop) (C S : Option Addr) (k e q r z ps pz : Nat) (x s : List Int) (w : World) (hb : Bx w ps #[.slice S q r] 23) (hz : Bx w pz #[.int .i64 (z : Int)] 3) (hx : Ru w G C k e x) (hs : Ru w H S q r s) (hzq : z ≤ q) :
    Calls Try.prog 66 #[.slice C k e, .pointer (some ⟨ps, 0, none⟩), .pointer (some ⟨pz, 0, none⟩)] w fun e w' => e = .returned (.bool (beginsM x (s.take z))) ∧ Dr w w' := by
  obtain ⟨p0, p1⟩ := hb.one
  obtain ⟨q0, q1⟩ := hz.one
  have hle := hs.le
  have HC := Lib.hid (begins_any G H C S k e z r x (s.take z) w hx (Ru.take hs hzq))
  clear hb hz hx hs
  go_enter Try.func66, Try.ntmps66
  go_wp2_with (go_at_call 67; refine HC.out.mono ?_; rintro e w2 ⟨rfl, dd⟩)
  go_ret
  exact ⟨rfl, dd⟩

/-- A line, how many scalars, and an error come back. -/
def RetV (F : Nat → Prop) (o : Option (List Int × Nat)) (w : World) (e : Ending) (w' : World) : Prop :=
  ∃ A n c k, e = .returned (.tuple #[.slice A n c, .int .i64 k, .int .i64 (if o.isSome then 0 else 5)]) ∧ Ru w' F A n c ((o.map (·.1)).getD []) ∧ (∀ q, o = some q → k = (q.2 : Int)) ∧ Kp w w'
theorem retV_new {G : Nat → Prop} {w w' : World} {A : Option Addr} {n c kk : Nat} {k er : Int} {o : Option (List Int)} (her : er = if o.isSome then 0 else 5) (hr : Ru w' G A n c (o.getD [])) (hk : k = (kk : Int)) (kp : Kp w w') :
    RetV G (o.map (·, kk)) w (.returned (.tuple #[.slice A n c, .int .i64 k, .int .i64 er])) w' :=
  her ▸ ⟨A, n, c, k, by cases o <;> rfl, by cases o <;> exact hr, fun q h => by cases o with | none => cases h | some x => cases h; exact hk, kp⟩

/-- The three boxes that event makes. -/
theorem ev_boxes (w : World) (A B S : Option Addr) (n c m d q r : Nat) (at_ : Int) : ∃ w1, w1 = ((w.alloc (.cells #[.slice A n c, .int .i64 at_, .slice B m d] 27)).alloc (.cells #[.slice S q r] 23)).alloc (.cells #[.int .i64 0] 3) ∧
    Bx w1 w.heap.size #[.slice A n c, .int .i64 at_, .slice B m d] 27 ∧ Bx w1 (w.heap.size + 1) #[.slice S q r] 23 ∧ Bx w1 (w.heap.size + 1 + 1) #[.int .i64 0] 3 ∧ Kp w w1 ∧ w1.heap.size = w.heap.size + 3 := by
  refine ⟨_, rfl, ((Bx.new _ _ _).alloc _).alloc _, ?_, ?_, (((Kp.refl w).alloc _).alloc _).alloc _, by simp⟩
  · have h := (Bx.new (w.alloc (.cells #[.slice A n c, .int .i64 at_, .slice B m d] 27)) #[.slice S q r] 23).alloc (.cells #[.int .i64 0] 3)
    rwa [World.size_alloc] at h
  · have h := Bx.new ((w.alloc (.cells #[.slice A n c, .int .i64 at_, .slice B m d] 27)).alloc (.cells #[.slice S q r] 23)) #[.int .i64 0] 3
    rwa [World.size_alloc, World.size_alloc] at h

section
variable (F G H F1 : Nat → Prop) (A B S : Option Addr) (n c m d q r : Nat) (at_ : Int) (L : List (List Int)) (st s : List Int) (w : World)

set_option maxRecDepth 100000 in
set_option maxHeartbeats 1600000 in
theorem ev_bang (hG : ∀ k, w.heap.size ≤ k → G k) (hT : Txs w F G A n c L) (hst : Ru w F1 B m d st) (hs : Ru w H S q r s) (hq0 : 0 < q) (hq : q ≤ 1000000) (hn : n ≤ 2000) (hm : m ≤ 1099511627776) (hL : ∀ x ∈ L, x.length ≤ 1099511627776) (hc : s[0]?.getD 0 = 33) :
    Calls Try.prog 48 #[.agg #[.slice A n c, .int .i64 at_, .slice B m d], .slice S q r] w (RetV G (eventM L s) w) := by
  have hlen := hs.len
  have hle := hs.le
  have hcp := hs.cap
  have hXl := hT.len
  unfold maxLen at hcp
  have hd0 := drop_cons (s := s) (a := 0) (by omega)
  rw [List.drop_zero] at hd0
  have HE : Hid (eventM L s = (pickM L 1).map (·, 1)) := by
    show _ = _
    rw [hd0, hc, evM_bang]
  obtain ⟨w1, hw1, b0, b1, b2, kp1, hz⟩ := ev_boxes w A B S n c m d q r at_
  have hs1 := Sl.kp hs kp1
  obtain ⟨ad, rfl, hca⟩ := Ru.get hs1 hq0
  have HD := Lib.hid (number_any H (some ad) q r s w1 hs1 (by omega))
  rw [hc] at hca
  clear hc
  have hne : ((q : Int) == 0) = false := by simp; omega
  have HG := Lib.hid hG
  have HZ := Lib.hid hz
  have HPK := Lib.hid fun wx (kk : Kp w1 wx) => pick_any F G F1 A B n c m d w.heap.size at_ 1 L st wx (b0.kp kk) ((hT.kp kp1).kp kk) (Sl.kp (Sl.kp hst kp1) kk) hn hm hL
  clear hT hst hL hG hz hs hlen hd0 hXl
  go_enter Try.func48, Try.ntmps48
  go_wp2_with fail
  rw [← hw1]
  refine HD.out.mono ?_
  rintro e w2 ⟨rfl, d2⟩
  have hcb := cell_dr d2 hca
  rw [Addr.add, if_pos rfl] at hcb
  obtain ⟨p0, p1⟩ := (b1.kp d2.kp).one
  obtain ⟨q0, q1, q2, _, _, _⟩ := (b0.kp d2.kp).three
  have c2 := b2.kp d2.kp
  have hz2 := d2.kp.size
  clear hca hw1
  go_wp2_with (go_at_call 59; refine (HPK.out _ d2.kp).mono ?_; rintro e w3 ⟨A3, n3, c3, er, rfl, her, hr3, k3⟩; have c3' := c2.kp k3; obtain ⟨y0, y1⟩ := c3'.one; have KK := d2.kp.trans k3)
  have KF := ((kp1.trans KK).setCell (p := ⟨w.heap.size + 1 + 1, 0, none⟩) (by dsimp only; omega) (.int .i64 1))
  have c4 := (c3').set 0 (.int .i64 1)
  obtain ⟨r0, r1⟩ := Bx.one c4
  refine bodyPost_ret (v := .tuple #[.slice A3 n3 c3, .int .i64 1, .int .i64 er]) (by simp [results, Try.results48, go_sem, r0]) rfl ?_
  rw [HE.out]
  exact retV_new her.out (Sl.weak (Sl.setCell hr3 (p := ⟨w.heap.size + 1 + 1, 0, none⟩) (by unfold From; dsimp only; have := HZ.out; omega) (.int .i64 1)) fun g _ hg => HG.out g (by unfold From at hg; have := HZ.out; omega)) rfl KF

set_option maxRecDepth 100000 in
set_option maxHeartbeats 1600000 in
theorem ev_num (hG : ∀ k, w.heap.size ≤ k → G k) (hT : Txs w F G A n c L) (hst : Ru w F1 B m d st) (hs : Ru w H S q r s) (hq0 : 0 < q) (hq : q ≤ 1000000) (hn : n ≤ 2000) (hm : m ≤ 1099511627776) (hL : ∀ x ∈ L, x.length ≤ 1099511627776) (hc : s[0]?.getD 0 ≠ 33) (hk : 0 < (numM s).2) :
    Calls Try.prog 48 #[.agg #[.slice A n c, .int .i64 at_, .slice B m d], .slice S q r] w (RetV G (eventM L s) w) := by
  have hlen := hs.len
  have hle := hs.le
  have hcp := hs.cap
  have hXl := hT.len
  unfold maxLen at hcp
  have hd0 := drop_cons (s := s) (a := 0) (by omega)
  rw [List.drop_zero] at hd0
  have HE : Hid (eventM L s = (pickM L (L.length + 1 - (numM s).1)).map (·, (numM s).2)) := by
    show _ = _
    rw [hd0] at hk ⊢
    exact evM_num L hc hk
  obtain ⟨w1, hw1, b0, b1, b2, kp1, hz⟩ := ev_boxes w A B S n c m d q r at_
  have hs1 := Sl.kp hs kp1
  obtain ⟨ad, rfl, hca⟩ := Ru.get hs1 hq0
  have HD := Lib.hid (number_any H (some ad) q r s w1 hs1 (by omega))
  obtain ⟨x, hx⟩ : ∃ x, x = s[0]?.getD 0 := ⟨_, rfl⟩
  rw [← hx] at hc hca
  have h33 : (x == 33) = false := by simpa using hc
  obtain ⟨y1, y2⟩ := numM_range s
  obtain ⟨v, hv⟩ : ∃ v, v = (numM s).1 := ⟨_, rfl⟩
  obtain ⟨k, hkk⟩ : ∃ k, k = (numM s).2 := ⟨_, rfl⟩
  rw [← hv, ← hkk] at HD HE
  rw [← hv] at y1 y2
  rw [← hkk] at hk
  rw [hXl] at HE
  have hki : (0 : Int) < (k : Int) := by omega
  have w1' : IntKind.i64.wrap ((n : Int) + 1) = (n : Int) + 1 := wrapS (by omega) (by omega)
  have w2' : IntKind.i64.wrap ((n : Int) + 1 - v) = (n : Int) + 1 - v := wrapS (by omega) (by omega)
  clear hx hv hkk hc hk
  have hne : ((q : Int) == 0) = false := by simp; omega
  have HG := Lib.hid hG
  have HZ := Lib.hid hz
  have HPK := Lib.hid fun wx (kk : Kp w1 wx) => pick_any F G F1 A B n c m d w.heap.size at_ ((n : Int) + 1 - v) L st wx (b0.kp kk) ((hT.kp kp1).kp kk) (Sl.kp (Sl.kp hst kp1) kk) hn hm hL
  clear hT hst hL hG hz hs hlen hd0 hXl
  go_enter Try.func48, Try.ntmps48
  go_wp2_with fail
  rw [← hw1]
  refine HD.out.mono ?_
  rintro e w2 ⟨rfl, d2⟩
  have hcb := cell_dr d2 hca
  rw [Addr.add, if_pos rfl] at hcb
  obtain ⟨p0, p1⟩ := (b1.kp d2.kp).one
  obtain ⟨q0, q1, q2, _, _, _⟩ := (b0.kp d2.kp).three
  have c2 := b2.kp d2.kp
  have hz2 := d2.kp.size
  clear hca hw1
  go_wp2_with (go_at_call 59; refine (HPK.out _ d2.kp).mono ?_; rintro e w3 ⟨A3, n3, c3, er, rfl, her, hr3, k3⟩; have c3' := c2.kp k3; obtain ⟨y0, y1⟩ := c3'.one; have KK := d2.kp.trans k3)
  have KF := ((kp1.trans KK).setCell (p := ⟨w.heap.size + 1 + 1, 0, none⟩) (by dsimp only; omega) (.int .i64 (k : Int)))
  have c4 := (c3').set 0 (.int .i64 (k : Int))
  obtain ⟨r0, r1⟩ := Bx.one c4
  refine bodyPost_ret (v := .tuple #[.slice A3 n3 c3, .int .i64 (k : Int), .int .i64 er]) (by simp [results, Try.results48, go_sem, r0]) rfl ?_
  rw [HE.out]
  exact retV_new her.out (Sl.weak (Sl.setCell hr3 (p := ⟨w.heap.size + 1 + 1, 0, none⟩) (by unfold From; dsimp only; have := HZ.out; omega) (.int .i64 (k : Int))) fun g _ hg => HG.out g (by unfold From at hg; have := HZ.out; omega)) rfl KF

set_option maxRecDepth 100000 in
set_option maxHeartbeats 1600000 in
theorem ev_minus (hG : ∀ k, w.heap.size ≤ k → G k) (hT : Txs w F G A n c L) (hst : Ru w F1 B m d st) (hs : Ru w H S q r s) (hq0 : 0 < q) (hq : q ≤ 1000000) (hn : n ≤ 2000) (hm : m ≤ 1099511627776) (hL : ∀ x ∈ L, x.length ≤ 1099511627776) (hc : s[0]?.getD 0 = 45) (hk : 0 < (numM (s.drop 1)).2) :
    Calls Try.prog 48 #[.agg #[.slice A n c, .int .i64 at_, .slice B m d], .slice S q r] w (RetV G (eventM L s) w) := by
  have hlen := hs.len
  have hle := hs.le
  have hcp := hs.cap
  have hXl := hT.len
  unfold maxLen at hcp
  have hd0 := drop_cons (s := s) (a := 0) (by omega)
  rw [List.drop_zero] at hd0
  have HE : Hid (eventM L s = (pickM L (numM (s.drop 1)).1).map (·, 1 + (numM (s.drop 1)).2)) := by
    show _ = _
    rw [hd0, hc]
    exact evM_minus L hk
  obtain ⟨w1, hw1, b0, b1, b2, kp1, hz⟩ := ev_boxes w A B S n c m d q r at_
  have hs1 := Sl.kp hs kp1
  obtain ⟨ad, rfl, hca⟩ := Ru.get hs1 hq0
  have HD := Lib.hid (number_any H (some ad) q r s w1 hs1 (by omega))
  have hkl := numM_le (s.drop 1)
  rw [List.length_drop] at hkl
  rw [hc] at hca
  rw [hd0, hc, show (numM (45 :: s.drop (0 + 1))).2 = 0 from numM_no _ (by decide)] at HD
  obtain ⟨y1, y2⟩ := numM_range (s.drop 1)
  have hr1 : ¬ r = 1 := by omega
  have hdr := Ru.drop hs1 (show 1 ≤ q by omega)
  rw [if_neg hr1] at hdr
  have hdr2 : Ru w1 H (some ⟨ad.block, ad.off + 1, none⟩) (q - 1) (r - 1) (s.drop 1) := by simpa [Addr.add] using hdr
  have HD2 := Lib.hid fun wx (kk : Kp w1 wx) => number_any H _ (q - 1) (r - 1) (s.drop 1) wx (Sl.kp hdr2 kk) (by omega)
  obtain ⟨v, hv⟩ : ∃ v, v = (numM (s.drop 1)).1 := ⟨_, rfl⟩
  obtain ⟨k, hkk⟩ : ∃ k, k = (numM (s.drop 1)).2 := ⟨_, rfl⟩
  rw [← hv, ← hkk] at HD2 HE
  rw [← hv] at y1 y2
  rw [← hkk] at hk hkl
  have hki : (0 : Int) < (k : Int) := by omega
  have hkb : (k : Int) ≤ 1000000 := by omega
  clear hv hkk hc hk hdr hdr2 hkl
  have hne : ((q : Int) == 0) = false := by simp; omega
  have HG := Lib.hid hG
  have HZ := Lib.hid hz
  have HPK := Lib.hid fun wx (kk : Kp w1 wx) => pick_any F G F1 A B n c m d w.heap.size at_ v L st wx (b0.kp kk) ((hT.kp kp1).kp kk) (Sl.kp (Sl.kp hst kp1) kk) hn hm hL
  clear hT hst hL hG hz hs hlen hd0 hXl
  go_enter Try.func48, Try.ntmps48
  go_wp2_with fail
  rw [← hw1]
  refine HD.out.mono ?_
  rintro e w2 ⟨rfl, d2⟩
  have hcb := cell_dr d2 hca
  rw [Addr.add, if_pos rfl] at hcb
  obtain ⟨p0, p1⟩ := (b1.kp d2.kp).one
  obtain ⟨q0, q1, q2, _, _, _⟩ := (b0.kp d2.kp).three
  have c2 := b2.kp d2.kp
  have hz2 := d2.kp.size
  clear hca hw1
  go_wp2_with fail
  refine (HD2.out _ d2.kp).mono ?_
  rintro e w3 ⟨rfl, d3⟩
  have d3 := d2.trans d3
  have hz3 := d3.kp.size
  have c2 := b2.kp d3.kp
  go_wp2_with (go_at_call 59; refine (HPK.out _ d3.kp).mono ?_; rintro e w4 ⟨A3, n3, c3, er, rfl, her, hr3, k3⟩; have c3' := c2.kp k3; obtain ⟨y0, y1⟩ := c3'.one; have KK := d3.kp.trans k3)
  have KF := ((kp1.trans KK).setCell (p := ⟨w.heap.size + 1 + 1, 0, none⟩) (by dsimp only; omega) (.int .i64 (1 + (k : Int))))
  have c4 := (c3').set 0 (.int .i64 (1 + (k : Int)))
  obtain ⟨r0, r1⟩ := Bx.one c4
  refine bodyPost_ret (v := .tuple #[.slice A3 n3 c3, .int .i64 (1 + (k : Int)), .int .i64 er]) (by simp [results, Try.results48, go_sem, r0]) rfl ?_
  rw [HE.out]
  exact retV_new her.out (Sl.weak (Sl.setCell hr3 (p := ⟨w.heap.size + 1 + 1, 0, none⟩) (by unfold From; dsimp only; have := HZ.out; omega) (.int .i64 (1 + (k : Int)))) fun g _ hg => HG.out g (by unfold From at hg; have := HZ.out; omega)) (by omega) KF

end
end Go.Proofs.Ytcbachblhfkcoaa
