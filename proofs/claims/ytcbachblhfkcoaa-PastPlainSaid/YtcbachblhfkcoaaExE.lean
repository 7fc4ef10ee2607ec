/-
  typebarref20.event: what stands behind a ! at a place. Conditions: the slices can be read, and are not too long.
-/
import Derived.Deep.RegionHeld3
import Derived.Test.YtcbachblhfkcoaaExD
namespace Go.Proofs.Ytcbachblhfkcoaa
open Go.RowKit

/-- A line, how many scalars, and a truth come back. -/
def RetE (F : Nat → Prop) (o : Option (List Int × Nat)) (w : World) (e : Ending) (w' : World) : Prop :=
  ∃ A n c k, e = .returned (.tuple #[.slice A n c, .int .i64 k, .bool o.isSome]) ∧ Ru w' F A n c ((o.map (·.1)).getD []) ∧ (∀ q, o = some q → k = (q.2 : Int)) ∧ Kp w w'

theorem eventM_cons (L : List (List Int)) (c : Int) (t : List Int) : eventM L (c :: t) = if c = 33 then (pickM L 1).map (·, 1)
    else if 0 < (numM (c :: t)).2 then (pickM L (L.length + 1 - (numM (c :: t)).1)).map (·, (numM (c :: t)).2)
    else if c = 45 ∧ 0 < (numM t).2 then (pickM L (numM t).1).map (·, 1 + (numM t).2)
    else if c = 63 then (newM L fun l => hasM l (t.take (spanG notQ t))).map (·, if spanG notQ t < t.length then spanG notQ t + 2 else t.length + 1)
    else if spanG wordP (c :: t) = 0 then some ([], 0)
    else (newM L fun l => beginsM l ((c :: t).take (spanG wordP (c :: t)))).map (·, spanG wordP (c :: t)) := rfl
theorem numM_no {c : Int} (t : List Int) (h : isDg c = false) : (numM (c :: t)).2 = 0 := by
  unfold numM; rw [numG_cons, h]; rfl
theorem evM_bang (L : List (List Int)) (t : List Int) : eventM L (33 :: t) = (pickM L 1).map (·, 1) := by rw [eventM_cons, if_pos rfl]
theorem evM_num (L : List (List Int)) {c : Int} {t : List Int} (h : c ≠ 33) (hk : 0 < (numM (c :: t)).2) : eventM L (c :: t) = (pickM L (L.length + 1 - (numM (c :: t)).1)).map (·, (numM (c :: t)).2) := by
  rw [eventM_cons, if_neg h, if_pos hk]
theorem evM_minus (L : List (List Int)) {t : List Int} (hk : 0 < (numM t).2) : eventM L (45 :: t) = (pickM L (numM t).1).map (·, 1 + (numM t).2) := by
  rw [eventM_cons, if_neg (by decide), if_neg (by rw [numM_no _ (by decide)]; omega), if_pos ⟨rfl, hk⟩]
theorem evM_q (L : List (List Int)) (t : List Int) : eventM L (63 :: t) = (newM L fun l => hasM l (t.take (spanG notQ t))).map (·, if spanG notQ t < t.length then spanG notQ t + 2 else t.length + 1) := by
  rw [eventM_cons, if_neg (by decide), if_neg (by rw [numM_no _ (by decide)]; omega), if_neg (fun h => absurd h.1 (by decide)), if_pos rfl]
theorem evM_w0 (L : List (List Int)) {c : Int} {t : List Int} (h : c ≠ 33) (hk : (numM (c :: t)).2 = 0) (h45 : ¬ (c = 45 ∧ 0 < (numM t).2)) (h63 : c ≠ 63) (hw : spanG wordP (c :: t) = 0) : eventM L (c :: t) = some ([], 0) := by
  rw [eventM_cons, if_neg h, if_neg (by omega), if_neg h45, if_neg h63, if_pos hw]
theorem evM_w (L : List (List Int)) {c : Int} {t : List Int} (h : c ≠ 33) (hk : (numM (c :: t)).2 = 0) (h45 : ¬ (c = 45 ∧ 0 < (numM t).2)) (h63 : c ≠ 63) (hw : spanG wordP (c :: t) ≠ 0) :
    eventM L (c :: t) = (newM L fun l => beginsM l ((c :: t).take (spanG wordP (c :: t)))).map (·, spanG wordP (c :: t)) := by
  rw [eventM_cons, if_neg h, if_neg (by omega), if_neg h45, if_neg h63, if_neg hw]
theorem drop_cons {s : List Int} {a : Nat} (h : a < s.length) : s.drop a = s[a]?.getD 0 :: s.drop (a + 1) := by
  rw [List.drop_eq_getElem_cons h, List.getElem?_eq_getElem h]; rfl

section
variable (F G H : Nat → Prop) (A B S : Option Addr) (n c m d q r a : Nat) (at_ : Int) (L : List (List Int)) (s : List Int) (w : World)

set_option maxRecDepth 100000 in
theorem refEv_end (hs : Ru w H S q r s) (ha : a = q) :
    Calls Try.prog 49 #[.agg #[.slice A n c, .int .i64 at_, .slice B m d], .slice S q r, .int .i64 a] w (RetE G (eventM L (s.drop a)) w) := by
  subst ha
  have HE : Hid (eventM L (s.drop a) = some ([], 0)) := by show _ = _; rw [List.drop_eq_nil_of_le (by have := hs.len; omega)]; rfl
  go_enter Try.func49, Try.ntmps49
  go_wp2_with fail
  go_ret3
  rw [HE.out]
  exact ⟨none, 0, 0, 0, rfl, Ru.nil _ _, fun q h => by cases h; rfl, (Kp.refl w).alloc _⟩

set_option maxRecDepth 100000 in
set_option maxHeartbeats 1600000 in
theorem refEv_bang (hX : Txs w F G A n c L.reverse) (hs : Ru w H S q r s) (ha : a < q) (hq : q ≤ 1000000) (hc : s[a]?.getD 0 = 33) :
    Calls Try.prog 49 #[.agg #[.slice A n c, .int .i64 at_, .slice B m d], .slice S q r, .int .i64 a] w (RetE G (eventM L (s.drop a)) w) := by
  have hlen := hs.len
  have hle := hs.le
  have hcp := hs.cap
  unfold maxLen at hcp
  have HE : Hid (eventM L (s.drop a) = (pickM L 1).map (·, 1)) := by show _ = _; rw [drop_cons (by omega), hc, evM_bang]
  have kp1 := (Kp.refl w).alloc (.cells #[.slice A n c, .int .i64 at_, .slice B m d] 37)
  have bp := Bx.new w #[.slice A n c, .int .i64 at_, .slice B m d] 37
  have hX1 := hX.kp kp1
  have hs1 := Sl.kp hs kp1
  obtain ⟨ad, rfl, hca⟩ := Ru.get hs1 ha
  rw [hc] at hca
  have HD := Lib.hid (digits_any H (some ad) q r a s (w.alloc (.cells #[.slice A n c, .int .i64 at_, .slice B m d] 37)) hs1 (by omega) (by omega))
  have hne : ((a : Int) == (q : Int)) = false := by simp; omega
  clear hX hs hlen hc hs1
  go_enter Try.func49, Try.ntmps49
  go_wp2_with fail
  generalize w.alloc (.cells #[.slice A n c, .int .i64 at_, .slice B m d] 37) = w1 at *
  refine HD.out.mono ?_
  rintro e w2 ⟨rfl, d2⟩
  have hcb := cell_dr d2 hca
  obtain ⟨p0, p1, p2, _, _, _⟩ := (bp.kp d2.kp).three
  have HB := Lib.hid (back20 F G A B n c m d at_ 1 L.reverse w2 (hX1.kp d2.kp) (by omega))
  clear hca
  go_wp2_with (go_at_call 69; refine HB.out.mono ?_; rintro e w3 ⟨A3, n3, c3, rfl, hr3, k3⟩)
  go_ret3
  rw [HE.out]
  rw [pickR_rev] at hr3 ⊢
  refine ⟨A3, n3, c3, 1, by cases pickM L 1 <;> rfl, by cases h : pickM L 1 <;> (rw [h] at hr3; exact hr3), fun q h => ?_, (kp1.trans d2.kp).trans k3⟩
  cases h1 : pickM L 1 with
  | none => rw [h1] at h; cases h
  | some x => rw [h1] at h; cases h; rfl

set_option maxRecDepth 100000 in
set_option maxHeartbeats 1600000 in
theorem refEv_num (hX : Txs w F G A n c L.reverse) (hs : Ru w H S q r s) (ha : a < q) (hq : q ≤ 1000000) (hn : n ≤ 2000) (hc : s[a]?.getD 0 ≠ 33) (hk : 0 < (numM (s.drop a)).2) :
    Calls Try.prog 49 #[.agg #[.slice A n c, .int .i64 at_, .slice B m d], .slice S q r, .int .i64 a] w (RetE G (eventM L (s.drop a)) w) := by
  have hlen := hs.len
  have hle := hs.le
  have hcp := hs.cap
  have hXl := hX.len
  rw [List.length_reverse] at hXl
  unfold maxLen at hcp
  have HE : Hid (eventM L (s.drop a) = (pickM L (L.length + 1 - (numM (s.drop a)).1)).map (·, (numM (s.drop a)).2)) := by
    show _ = _
    rw [drop_cons (by omega)] at hk ⊢
    exact evM_num L hc hk
  have kp1 := (Kp.refl w).alloc (.cells #[.slice A n c, .int .i64 at_, .slice B m d] 37)
  have bp := Bx.new w #[.slice A n c, .int .i64 at_, .slice B m d] 37
  have hX1 := hX.kp kp1
  have hs1 := Sl.kp hs kp1
  obtain ⟨ad, rfl, hca⟩ := Ru.get hs1 ha
  have HD := Lib.hid (digits_any H (some ad) q r a s (w.alloc (.cells #[.slice A n c, .int .i64 at_, .slice B m d] 37)) hs1 (by omega) (by omega))
  have hne : ((a : Int) == (q : Int)) = false := by simp; omega
  obtain ⟨x, hx⟩ : ∃ x, x = s[a]?.getD 0 := ⟨_, rfl⟩
  rw [← hx] at hc hca
  have h33 : (x == 33) = false := by simpa using hc
  obtain ⟨y1, y2⟩ := numM_range (s.drop a)
  obtain ⟨v, hv⟩ : ∃ v, v = (numM (s.drop a)).1 := ⟨_, rfl⟩
  obtain ⟨k, hkk⟩ : ∃ k, k = (numM (s.drop a)).2 := ⟨_, rfl⟩
  have hkq : k ≤ q := by have := numM_le (s.drop a); rw [List.length_drop] at this; omega
  rw [← hv, ← hkk] at HD HE
  rw [← hv] at y1 y2
  rw [← hkk] at hk
  rw [hXl] at HE
  have hki : (0 : Int) < (k : Int) := by omega
  have w1 : IntKind.i64.wrap ((n : Int) + 1) = (n : Int) + 1 := wrapS (by omega) (by omega)
  have w2 : IntKind.i64.wrap ((n : Int) + 1 - v) = (n : Int) + 1 - v := wrapS (by omega) (by omega)
  clear hX hs hlen hc hs1 hx hv hkk hXl hk
  go_enter Try.func49, Try.ntmps49
  go_wp2_with fail
  generalize w.alloc (.cells #[.slice A n c, .int .i64 at_, .slice B m d] 37) = w1 at *
  refine HD.out.mono ?_
  rintro e w2 ⟨rfl, d2⟩
  have hcb := cell_dr d2 hca
  obtain ⟨p0, p1, p2, _, _, _⟩ := (bp.kp d2.kp).three
  have HB := Lib.hid (back20 F G A B n c m d at_ ((n : Int) + 1 - v) L.reverse w2 (hX1.kp d2.kp) (by omega))
  clear hca
  go_wp2_with (go_at_call 69; refine HB.out.mono ?_; rintro e w3 ⟨A3, n3, c3, rfl, hr3, k3⟩)
  go_ret3
  rw [HE.out]
  rw [pickR_rev] at hr3 ⊢
  refine ⟨A3, n3, c3, k, by cases pickM L ((n : Int) + 1 - v) <;> rfl, by cases h : pickM L ((n : Int) + 1 - v) <;> (rw [h] at hr3; exact hr3), fun q h => ?_, (kp1.trans d2.kp).trans k3⟩
  cases h1 : pickM L ((n : Int) + 1 - v) with
  | none => rw [h1] at h; cases h
  | some x => rw [h1] at h; cases h; rfl
end
end Go.Proofs.Ytcbachblhfkcoaa
