/-
  typebarref20.Add: what it returns, as a plain function of lists (the newest line first). Conditions: the slices lie in blocks that F lets, not more than 500 lines.
-/
import Derived.Deep.LoopGhost
import Derived.Deep.RegionLaw
import Derived.Deep.DrawnRows
import Derived.Deep.CutBlock
import Derived.Deep.DeepCutAuto
import Derived.Test.YtcbachblhfkcoaaRefPast
import Derived.Test.YtcbachblhfkcoaaWords2
import Derived.Test.YtcbachblhfkcoaaTexts
namespace Go.Proofs.Ytcbachblhfkcoaa
open Go.RowKit

/-- What stands ahead: the line, if it is kept. -/
def newR (xs : List (List Int)) (s : List Int) : List (List Int) := if s = [] ∨ xs.head? = some s then [] else [s]
def addR (xs : List (List Int)) (s : List Int) : List (List Int) := (newR xs s ++ xs).take 500
theorem addM_rev (L : List (List Int)) (s : List Int) (h : L.length ≤ 500) : (addM L s).reverse = addR L.reverse s := by
  unfold addM addR newR
  rw [List.head?_reverse]
  split
  · rw [List.nil_append, List.take_of_length_le (by simpa using h)]
  · rw [List.reverse_drop, List.reverse_append]
    simp only [List.length_append, List.length_singleton, List.reverse_singleton]
    by_cases h5 : L.length = 500
    · rw [h5]
    · rw [List.take_of_length_le (by simp; omega), List.take_of_length_le (by simp; omega)]

/-- The loop's end: all, or as many as go. -/
theorem addR_end {xs pre : List (List Int)} {k : Nat} (hk : k ≤ xs.length) (hp : pre.length + k ≤ 500) (h : k = xs.length ∨ 500 ≤ pre.length + k) : pre ++ xs.take k = (pre ++ xs).take 500 := by
  rcases h with h | h
  · subst h
    rw [List.take_length, List.take_of_length_le (by rw [List.length_append]; omega)]
  · have e : k = 500 - pre.length := by omega
    rw [List.take_append, List.take_of_length_le (l := pre) (by omega), e]

/-- A document's past comes back: its lines alone. -/
def RetRef (F : Nat → Prop) (L : List (List Int)) (w : World) (e : Ending) (w' : World) : Prop :=
  ∃ A n c, e = .returned (.agg #[.slice A n c, .int .i64 0, .slice none 0 0]) ∧ Txs w' F F A n c L ∧ Kp w w'

theorem newR_no {xs : List (List Int)} {s : List Int} (h : false = !(newR xs s).isEmpty) : newR xs s = [] := by simpa using h
theorem newR_yes {xs : List (List Int)} {s : List Int} (h : true = !(newR xs s).isEmpty) : newR xs s = [s] := by
  unfold newR at *; split at h <;> simp_all

/-- Between two rounds. -/
def AddI (w : World) (F : Nat → Prop) (pv : Value) (pav pbv : Value) (Lx : List (List Int)) (wr : World) : Prop :=
  ∃ A m c vs, Bx wr (w.heap.size + 1 + 1) #[.slice A m c, .int .i64 0, .slice none 0 0] 37 ∧ OTx wr (w.heap.size + 3) (fun g => F g ∧ g < w.heap.size) A m c Lx vs ∧
    Bx wr w.heap.size #[pv, pav, pbv] 37 ∧ Bx wr (w.heap.size + 1) #[.slice none 0 0, .int .i64 0, .slice none 0 0] 37 ∧ Kp w wr ∧ w.heap.size + 3 ≤ wr.heap.size

theorem AddI.done {w wr : World} {F : Nat → Prop} {A : Option Addr} {m c j : Nat} {vs : List Value} {pre xs : List (List Int)} {u v z : Value} (ho : OTx wr (w.heap.size + 3) (fun g => F g ∧ g < w.heap.size) A m c (pre ++ xs.take j) vs)
    (hj : j ≤ xs.length) (h5 : pre.length + j ≤ 500) (h : j = xs.length ∨ 500 ≤ pre.length + j) (hF : ∀ k, w.heap.size ≤ k → F k) :
    Txs (((wr.setCell ⟨w.heap.size + 1, 0, none⟩ u).setCell ⟨w.heap.size + 1, 1, none⟩ v).setCell ⟨w.heap.size + 1, 2, none⟩ z) F F A m c ((pre ++ xs).take 500) := by
  have h1 : ¬ (F (w.heap.size + 1) ∧ w.heap.size + 1 < w.heap.size) := fun h => by have := h.2; omega
  have h2 := ((ho.far h1 (by omega) u 0).far h1 (by omega) v 1).far h1 (by omega) z 2
  rw [addR_end hj h5 h] at h2
  exact h2.txs.weak (fun k _ h => hF k (by unfold From at h; omega)) (fun k _ h => h.1)

set_option maxRecDepth 100000 in
set_option maxHeartbeats 3200000 in
/-- The head: what stands ahead. -/
theorem refAdd_any (F : Nat → Prop) (A B C : Option Addr) (n c m d k e_ : Nat) (at_ : Int) (xs : List (List Int)) (now : List Int) (w : World)
    (hT : Txs w F F A n c xs) (hN : Ru w F C k e_ now) (hn : n ≤ 500) (hF : ∀ k, w.heap.size ≤ k → F k) :
    Calls Try.prog 21 #[.agg #[.slice A n c, .int .i64 at_, .slice B m d], .slice C k e_] w (RetRef F (addR xs now) w) := by
  have hcl := hT.cap
  have hle := hT.le
  have hlen := hT.len
  have hkl := hN.len
  have hke := hN.le
  have hkc := hN.cap
  unfold maxLen at hcl hkc
  have HF := Lib.hid hF
  have HLEN := Lib.hid hlen
  clear hF hlen
  have KP : Kp w (((w.alloc (.cells #[.slice A n c, .int .i64 at_, .slice B m d] 37)).alloc (.cells #[.slice none 0 0, .int .i64 0, .slice none 0 0] 37)).alloc (.cells #[.slice none 0 0, .int .i64 0, .slice none 0 0] 37)) := (((Kp.refl _).alloc _).alloc _).alloc _
  have b0 := ((Bx.new w #[.slice A n c, .int .i64 at_, .slice B m d] 37).alloc (.cells #[.slice none 0 0, .int .i64 0, .slice none 0 0] 37)).alloc (.cells #[.slice none 0 0, .int .i64 0, .slice none 0 0] 37)
  have b1 := (Bx.new (w.alloc (.cells #[.slice A n c, .int .i64 at_, .slice B m d] 37)) #[.slice none 0 0, .int .i64 0, .slice none 0 0] 37).alloc (.cells #[.slice none 0 0, .int .i64 0, .slice none 0 0] 37)
  have b2 := Bx.new ((w.alloc (.cells #[.slice A n c, .int .i64 at_, .slice B m d] 37)).alloc (.cells #[.slice none 0 0, .int .i64 0, .slice none 0 0] 37)) #[.slice none 0 0, .int .i64 0, .slice none 0 0] 37
  have hsz : (((w.alloc (.cells #[.slice A n c, .int .i64 at_, .slice B m d] 37)).alloc (.cells #[.slice none 0 0, .int .i64 0, .slice none 0 0] 37)).alloc (.cells #[.slice none 0 0, .int .i64 0, .slice none 0 0] 37)).heap.size = w.heap.size + 3 := by simp
  rw [World.size_alloc] at b1 b2
  rw [World.size_alloc] at b2
  have hTl := hT.low
  have hNl := Sl.low hN
  go_enter Try.func21, Try.ntmps21
  go_upto_region 2 with fail
  generalize (((w.alloc (.cells #[.slice A n c, .int .i64 at_, .slice B m d] 37)).alloc (.cells #[.slice none 0 0, .int .i64 0, .slice none 0 0] 37)).alloc (.cells #[.slice none 0 0, .int .i64 0, .slice none 0 0] 37)) = W0 at *
  obtain ⟨fl, hfl⟩ : ∃ fl : Bool, fl = !(newR xs now).isEmpty := ⟨_, rfl⟩
  have hp0 := b0.cell 0
  go_cut [25] (fun v wx => v = .bool fl ∧ Dr W0 wx)
  case first =>
    by_cases hk0 : k = 0
    · have hx : now = [] := List.eq_nil_of_length_eq_zero (by omega)
      have e : fl = false := by rw [hfl]; simp [newR, hx]
      subst hk0
      go_wp2_with fail
      go_meet
      exact ⟨by rw [e], Dr.refl _⟩
    · have hne : now ≠ [] := fun h => by rw [h] at hkl; simp at hkl; omega
      by_cases hn0 : n = 0
      · have hx : xs = [] := List.eq_nil_of_length_eq_zero (by rw [HLEN.out]; exact hn0)
        have e : fl = true := by rw [hfl]; simp [newR, hx, hne]
        subst hn0
        have hkb : decide ((0 : Int) < k) = true := by simp; omega
        go_wp2_with fail
        go_meet
        exact ⟨by rw [e], Dr.refl _⟩
      · obtain ⟨ad, B1, m1, d1, rfl, hc1, hr1⟩ := (hT.kp KP).get (k := 0) (by omega)
        have hc2 := hc1
        rw [add_zero] at hc2
        have hnb : ((n : Int) == 0) = false := by simpa using hn0
        have hkb : decide ((0 : Int) < k) = true := by simp; omega
        have hx0 : xs.head? = some (xs[0]?.getD []) := by
          rw [List.head?_eq_getElem?, List.getElem?_eq_getElem (by rw [HLEN.out]; omega)]; rfl
        have e : fl = !(sameB (xs[0]?.getD []) now) := by
          rw [hfl]
          by_cases hs : xs[0]?.getD [] = now
          · rw [(sameB_iff _ _).2 hs]; simp [newR, hx0, hs]
          · rw [sameB_no hs]; simp [newR, hx0, hs, hne]
        have HE := Lib.hid e
        clear e hx0 hfl hne
        generalize xs[0]?.getD [] = y at *
        go_wp2_with fail
        refine (same_any F F B1 C m1 d1 k e_ y now W0 hr1 (hN.kp KP)).mono ?_
        rintro e w1 ⟨rfl, hd1⟩
        go_wp2_with fail
        go_meet
        exact ⟨by rw [HE.out], hd1⟩
  case rest =>
    obtain ⟨rfl, hd⟩ := hcut
    go_upto_if 25 with fail
    obtain ⟨w1, hw1⟩ : ∃ w1 : World, w1 = wc := ⟨_, rfl⟩
    subst hw1
    have c0 := b0.kp hd.kp
    have c1 := b1.kp hd.kp
    have c2 := b2.kp hd.kp
    have K1 := KP.trans hd.kp
    have hs1 : w1.heap.size = w.heap.size + 3 := by rw [hd.size, hsz]
    have hT1 := hT.kp K1
    have hN1 := hNl.kp K1
    clear b0 b1 b2 KP hd hp0 hsz
    obtain ⟨p0, p1, p2, q0, q1, q2⟩ := c2.three
    go_cut [2] (fun v wx => v = .pointer (some ⟨w.heap.size, 0, none⟩) ∧ AddI w F (.slice A n c) (.int .i64 at_) (.slice B m d) (newR xs now) wx)
    case first =>
      cases fl with
      | false =>
        go_wp2_with fail
        go_meet
        refine ⟨rfl, none, 0, 0, [], c2, ?_, c0, c1, K1, by omega⟩
        rw [newR_no hfl]
        exact OTx.nil _ _ _
      | true =>
        have HZ := Lib.hid hs1
        have HFL := Lib.hid hfl
        clear hs1 hfl
        go_wp2_with (at_builtin; refine wpList_append_sl _ rfl (.tmp 27) (.tmp 29) _ rfl (w.heap.size + 3) 23 _ 1 24 Try.underlying22 infoRu rfl (by omega) none 0 0 [] rfl (Own.nil _ _ _ _) Any _ 1 1 [.slice C k e_] rfl (Sl.new_ w1 #[.slice C k e_] _ 1 1 _ rfl trivial (by simp) (by omega)) (by simp [Value.oneCell']) (by simp only [maxLen]; omega) (by omega) (by have := HZ.out; simp; omega) ?_; intro A4 c4 w4 hown4 hg4 hat4; obtain ⟨x0, x1, x2, y0, y1, y2⟩ := ((c2.alloc _).grown hg4 (by simp [rowOf])).three)
        go_meet
        have d0 := (c0.alloc (.cells #[.slice C k e_] 23)).grown hg4 (by simp [rowOf])
        have d1 := (c1.alloc (.cells #[.slice C k e_] 23)).grown hg4 (by simp [rowOf])
        have d2 := (c2.alloc (.cells #[.slice C k e_] 23)).grown hg4 (by simp [rowOf])
        have ho := OTx.app (G := fun g => F g ∧ g < w.heap.size) (B := C) (m := k) (d := e_) (x := now) (OTx.nil _ (w.heap.size + 3) _) (Sl.alloc (hN1.weak fun _ _ h => ⟨h, by simp [rowOf]⟩) _) hown4 hg4 hat4
        have K4 := (K1.alloc (.cells #[.slice C k e_] 23)).grown hg4 (by simp [rowOf])
        refine ⟨rfl, A4, 1, c4, [.slice C k e_], d2.set 0 _, ?_, d0.far (p := ⟨_, _, _⟩) (by show w.heap.size ≠ w.heap.size + 1 + 1; omega) _, d1.far (p := ⟨_, _, _⟩) (by show w.heap.size + 1 ≠ w.heap.size + 1 + 1; omega) _, K4.setCell (p := ⟨_, _, _⟩) (by show w.heap.size ≤ w.heap.size + 1 + 1; omega) _, ?_⟩
        · rw [newR_yes HFL.out]
          exact ho.far (b := w.heap.size + 1 + 1) (fun h => by have := h.2; omega) (by omega) _ 0
        · have := hg4.size; have := HZ.out; simp [World.setCell] at *; omega
    case rest =>
      obtain ⟨rfl, hI⟩ := hcut
      clear c0 c1 c2 K1 hT1 hN1 p0 p1 p2 q0 q1 q2 hfl hs1
      have hnl : (newR xs now).length ≤ 1 := by unfold newR; split <;> simp
      go_wp2_with fail
      go_loopg [6] n (fun g i wr => ∃ j : Nat, j + g = n ∧ i = .int .i64 j ∧ (newR xs now).length + j ≤ 500 ∧ AddI w F (.slice A n c) (.int .i64 at_) (.slice B m d) (newR xs now ++ xs.take j) wr)
      case atStart => exact ⟨0, by omega, rfl, by omega, by simpa using hI⟩
      case round =>
        obtain ⟨j, hj, rfl, hj5, A1, m1, c1, vs1, e2, ho, e0, e1, hkp, hz⟩ := hrel
        have hml : m1 = (newR xs now).length + j := by
          have := ho.2.1; rw [List.length_append, List.length_take, HLEN.out, Nat.min_eq_left (by omega)] at this; omega
        obtain ⟨p0, p1, p2, q0, q1, q2⟩ := e2.three
        have r0 := e0.cell 0
        obtain ⟨x0, x1, x2, y0, y1, y2⟩ := e1.three
        have hm5' : m1 ≤ 500 := by omega
        have HML := Lib.hid hml
        by_cases hlt : j < n
        · by_cases hm5 : m1 < 500
          · have hmb : decide ((m1 : Int) < 500) = true := by simp; omega
            obtain ⟨ad, B2, m2, d2, rfl, hc2, hr2⟩ := hTl.get hlt
            have hxe : xs.take (j + 1) = xs.take j ++ [xs[j]?.getD []] := by
              rw [List.take_succ_eq_append_getElem (by rw [HLEN.out]; exact hlt), List.getElem?_eq_getElem]; rfl
            generalize xs[j]?.getD [] = x at *
            have HX := Lib.hid hxe
            have hbl := World.block_lt_of_cell? w _ hc2
            have hc3 : wr.cell? (ad.add j) = some (.slice B2 m2 d2) := (hkp.cell hbl).trans hc2
            have ka : ∀ o, Kp w (wr.drew.alloc o) := fun o => hkp.drew.alloc o
            have pa : ∀ o, (wr.drew.alloc o).cell? ⟨w.heap.size + 1 + 1, 0, none⟩ = some (.slice A1 m1 c1) := fun o => ((Bx.drew e2).alloc o).cell 0
            have ra : ∀ o, (wr.drew.alloc o).cell? ⟨w.heap.size, 0, none⟩ = some (.slice (some ad) n c) := fun o => ((Bx.drew e0).alloc o).cell 0
            have ea : ∀ o, (wr.drew.alloc o).cell? (ad.add j) = some (.slice B2 m2 d2) := fun o => ((ka o).cell hbl).trans hc2
            have pa' : ∀ o, (wr.alloc o).cell? ⟨w.heap.size + 1 + 1, 0, none⟩ = some (.slice A1 m1 c1) := fun o => (e2.alloc o).cell 0
            have ra' : ∀ o, (wr.alloc o).cell? ⟨w.heap.size, 0, none⟩ = some (.slice (some ad) n c) := fun o => (e0.alloc o).cell 0
            have ea' : ∀ o, (wr.alloc o).cell? (ad.add j) = some (.slice B2 m2 d2) := fun o => ((hkp.alloc o).cell hbl).trans hc2
            have HO := Lib.hid ho
            have HR2 := Lib.hid hr2
            clear hxe hml p1 p2 q1 q2 x0 x1 x2 y0 y1 y2 ho hr2
            go_wp2_with fail
            go_region_law ((refine step_append_sl _ (by rfl) _ _ _ (by rfl) (w.heap.size + 3) 23 _ 1 24 Try.underlying22 infoRu rfl (by omega) A1 m1 c1 vs1 (by rfl) (Own.alloc (Own.drew HO.out.1) _) Any _ 1 1 [.slice B2 m2 d2] (by rfl) (Sl.new_ wr.drew #[.slice B2 m2 d2] _ 1 1 _ rfl trivial (by simp) (by omega)) (by simp [Value.oneCell']) (by simp only [maxLen]; omega) (by omega) (by simp; omega) ?_; intro A4 c4 w4 hown4 hg4 hat4; have hrow : ∀ g, rowOf A1 = some g → w.heap.size + 3 ≤ g := fun g h => (HO.out.1.lt g h).1; have f0 := ((Bx.drew e0).alloc (.cells #[.slice B2 m2 d2] 23)).grown hg4 (fun h => by have := hrow _ h; omega); have f1 := ((Bx.drew e1).alloc (.cells #[.slice B2 m2 d2] 23)).grown hg4 (fun h => by have := hrow _ h; omega); have f2 := ((Bx.drew e2).alloc (.cells #[.slice B2 m2 d2] 23)).grown hg4 (fun h => by have := hrow _ h; omega); have k4 := (ka (.cells #[.slice B2 m2 d2] 23)).grown hg4 (fun g h => by have := hrow _ h; omega); have u0 := f0.cell 0; have u1 := (k4.cell hbl).trans hc2; have z0 := f2.cell 0; have z1 := f2.frozen 0; have v0 := (f0.far (p := ⟨w.heap.size + 1 + 1, 0, none⟩) (by show w.heap.size ≠ w.heap.size + 1 + 1; omega) (.slice A4 (m1 + 1) c4)).cell 0; have v1 := ((k4.setCell (p := ⟨w.heap.size + 1 + 1, 0, none⟩) (by show w.heap.size ≤ w.heap.size + 1 + 1; omega) (.slice A4 (m1 + 1) c4)).cell hbl).trans hc2))
            all_goals go_wp2_with fail
            all_goals
              go_roundg (n - (j + 1))
              case measure => omega
              case rel =>
                have ho5 := ((HO.out.kp (Kp.refl wr).drew).kp ((Kp.refl wr.drew).alloc (.cells #[.slice B2 m2 d2] 23))).app (B := B2) (m := m2) (d := d2) (x := x) ((HR2.out.kp (ka _)).weak fun g _ h => ⟨h, fun e => by have := hrow _ e; have := h.2; omega⟩) hown4 hg4 hat4
                refine ⟨j + 1, by omega, by go_num, by have := HML.out; omega, A4, m1 + 1, c4, vs1 ++ [.slice B2 m2 d2], f2.set 0 _, ?_, f0.far (p := ⟨_, _, _⟩) (by show w.heap.size ≠ w.heap.size + 1 + 1; omega) _, f1.far (p := ⟨_, _, _⟩) (by show w.heap.size + 1 ≠ w.heap.size + 1 + 1; omega) _, k4.setCell (p := ⟨_, _, _⟩) (by show w.heap.size ≤ w.heap.size + 1 + 1; omega) _, ?_⟩
                · rw [HX.out, ← List.append_assoc]
                  exact ho5.far (b := w.heap.size + 1 + 1) (fun h => by have := h.2; omega) (by omega) _ 0
                · have := hg4.size; have := k4.size; simp [World.setCell] at *; omega
          · have hmb : decide ((m1 : Int) < 500) = false := by simp; omega
            clear hml
            go_wp2_with fail
            refine bodyPost_ret (v := .agg #[.slice A1 m1 c1, .int .i64 0, .slice none 0 0]) (by simp [results, Try.results21, go_sem, x0, x1, x2]) rfl ?_
            refine ⟨A1, m1, c1, rfl, ?_, ((hkp.setCell (p := ⟨_, _, _⟩) (by show w.heap.size ≤ w.heap.size + 1; omega) _).setCell (p := ⟨_, _, _⟩) (by show w.heap.size ≤ w.heap.size + 1; omega) _).setCell (p := ⟨_, _, _⟩) (by show w.heap.size ≤ w.heap.size + 1; omega) _⟩
            exact AddI.done ho (by rw [HLEN.out]; omega) (by rw [← HML.out]; exact hm5') (.inr (by rw [← HML.out]; omega)) HF.out
        · clear hml
          go_wp2_with fail
          refine bodyPost_ret (v := .agg #[.slice A1 m1 c1, .int .i64 0, .slice none 0 0]) (by simp [results, Try.results21, go_sem, x0, x1, x2]) rfl ?_
          refine ⟨A1, m1, c1, rfl, ?_, ((hkp.setCell (p := ⟨_, _, _⟩) (by show w.heap.size ≤ w.heap.size + 1; omega) _).setCell (p := ⟨_, _, _⟩) (by show w.heap.size ≤ w.heap.size + 1; omega) _).setCell (p := ⟨_, _, _⟩) (by show w.heap.size ≤ w.heap.size + 1; omega) _⟩
          exact AddI.done ho (by rw [HLEN.out]; omega) (by rw [← HML.out]; exact hm5') (.inl (by rw [HLEN.out]; omega)) HF.out
end Go.Proofs.Ytcbachblhfkcoaa
