/-
  typebarlaw20.PastPlays: the walk: it returns true, and what was in memory stays. Conditions: the deeds can be read.
-/
import Derived.Test.YtcbachblhfkcoaaPastBackW
import Derived.Test.YtcbachblhfkcoaaSame20
namespace Go.Proofs.Ytcbachblhfkcoaa
open Go.RowKit

theorem refGo_any (F : Nat → Prop) (A B C : Option Addr) (n c m d k e : Nat) (at_ i : Int) (L : List (List Int)) (st now : List Int) (w : World)
    (hT : Txs w F F A n c L) (hS : Ru w F B m d st) (hN : Ru w F C k e now) :
    Calls Try.prog 22 #[.agg #[.slice A n c, .int .i64 at_, .slice B m d], .int .i64 i, .slice C k e] w
      (RetGo F L (if (lineR L at_ st i now).isSome then i else at_) (if (lineR L at_ st i now).isSome then stashM at_ st i now else st) (lineR L at_ st i now) w) := by
  cases ho : lineR L at_ st i now with
  | none => exact refGo_none F A B C n c m d k e at_ i L st now w hT hS hN ho
  | some s =>
    simp only [Option.isSome_some, if_true]
    unfold stashM
    by_cases hi : i = 0
    · rw [if_pos hi]
      have hib : (i == 0) = true := by simpa using hi
      by_cases ha : at_ = 0
      · exact refGo_00 F A B C n c m d k e at_ i L st now w hT hS hN (by simpa using ha) hib s ho
      · exact refGo_10 F A B C n c m d k e at_ i L st now w hT hS hN (by simpa using ha) hib s ho
    · rw [if_neg hi]
      have hib : (i == 0) = false := by simpa using hi
      by_cases ha : at_ = 0
      · rw [if_pos ha]
        exact refGo_01 F A B C n c m d k e at_ i L st now w hT hS hN (by simpa using ha) hib s ho
      · rw [if_neg ha]
        exact refGo_11 F A B C n c m d k e at_ i L st now w hT hS hN (by simpa using ha) hib s ho

section
variable {w : World} {b : Nat} {u v s : Value}
theorem Txs.set3 {F G : Nat → Prop} {A : Option Addr} {n c : Nat} {L : List (List Int)} (h : Txs w F G A n c L) (hF : ∀ k, F k → k ≠ b) (hG : ∀ k, G k → k ≠ b) : Txs (((w.setCell ⟨b, 0, none⟩ u).setCell ⟨b, 1, none⟩ v).setCell ⟨b, 2, none⟩ s) F G A n c L :=
  have fr := set3_frame (w := w) (b := b) (u := u) (v := v) (s := s)
  h.frame fr.1 (fun k hk => fr.2 k (hF k hk)) (fun k hk => fr.2 k (hG k hk))
theorem Ru.set3 {F : Nat → Prop} {A : Option Addr} {n c : Nat} {xs : List Int} (h : Ru w F A n c xs) (hF : ∀ k, F k → k ≠ b) : Ru (((w.setCell ⟨b, 0, none⟩ u).setCell ⟨b, 1, none⟩ v).setCell ⟨b, 2, none⟩ s) F A n c xs :=
  have fr := set3_frame (w := w) (b := b) (u := u) (v := v) (s := s)
  Sl.frame h fr.1 (fun k hk => fr.2 k (hF k hk))
theorem Bx.far3 {a : Nat} {cs : Array Value} {t : TypeId} (h : Bx w a cs t) (hne : a ≠ b) : Bx (((w.setCell ⟨b, 0, none⟩ u).setCell ⟨b, 1, none⟩ v).setCell ⟨b, 2, none⟩ s) a cs t :=
  ((h.far (p := ⟨_, _, _⟩) hne u).far (p := ⟨_, _, _⟩) hne v).far (p := ⟨_, _, _⟩) hne s
theorem size_set3 : (((w.setCell ⟨b, 0, none⟩ u).setCell ⟨b, 1, none⟩ v).setCell ⟨b, 2, none⟩ s).heap.size = w.heap.size := by simp [World.setCell]
end

/-- A deed. -/
structure DeedM where
  kind : Int
  i : Int
  s : List Int

/-- A slice of deeds can be read. -/
def Dds (w : World) (G : Nat → Prop) (A : Option Addr) (n c : Nat) (ds : List DeedM) : Prop :=
  n ≤ c ∧ c ≤ maxLen ∧ ds.length = n ∧ ∀ (j : Nat) (d : DeedM), ds[j]? = some d → ∃ (ad : Addr) (B : Option Addr) (m e : Nat), A = some ad ∧ w.cell? (ad.add (j * 3)) = some (.int .i64 d.kind) ∧ w.cell? ⟨(ad.add (j * 3)).block, (ad.add (j * 3)).off + 1, none⟩ = some (.int .i64 d.i) ∧
    w.cell? ⟨(ad.add (j * 3)).block, (ad.add (j * 3)).off + 2, none⟩ = some (.slice B m e) ∧ Ru w G B m e d.s
theorem cell_kp {w w' : World} (k : Kp w w') {a : Addr} {v : Value} (h : w.cell? a = some v) : w'.cell? a = some v := (k.cell (World.block_lt_of_cell? w a h)).trans h
theorem Dds.kp {w w' : World} {G : Nat → Prop} {A : Option Addr} {n c : Nat} {ds : List DeedM} (h : Dds w G A n c ds) (k : Kp w w') : Dds w' G A n c ds := by
  obtain ⟨h1, h2, h3, h4⟩ := h
  refine ⟨h1, h2, h3, fun j d hd => ?_⟩
  obtain ⟨ad, B, m, e, hA, c0, c1, c2, hr⟩ := h4 j d hd
  exact ⟨ad, B, m, e, hA, cell_kp k c0, cell_kp k c1, cell_kp k c2, hr.kp k⟩

theorem Dds.low {w : World} {G : Nat → Prop} {A : Option Addr} {n c : Nat} {ds : List DeedM} (h : Dds w G A n c ds) : Dds w (To w.heap.size) A n c ds := by
  obtain ⟨h1, h2, h3, h4⟩ := h
  refine ⟨h1, h2, h3, fun j d hd => ?_⟩
  obtain ⟨ad, B, m, e, hA, c0, c1, c2, hr⟩ := h4 j d hd
  exact ⟨ad, B, m, e, hA, c0, c1, c2, hr.weak fun _ hk _ => hk⟩

/-- The two pasts, in their boxes: s, s + 1. -/
def St2 (s : Nat) (w wx : World) (F : Nat → Prop) (L : List (List Int)) (at_ : Int) (st : List Int) (A1 : Option Addr) (n1 c1 : Nat) (B1 : Option Addr) (m1 d1 : Nat) (A2 : Option Addr) (n2 c2 : Nat) (B2 : Option Addr) (m2 d2 : Nat) : Prop :=
  (Bx wx s #[.slice A1 n1 c1, .int .i64 at_, .slice B1 m1 d1] 27 ∧ Bx wx (s + 1) #[.slice A2 n2 c2, .int .i64 at_, .slice B2 m2 d2] 37) ∧
    (Txs wx F F A1 n1 c1 L ∧ Txs wx F F A2 n2 c2 L.reverse ∧ Ru wx F B1 m1 d1 st ∧ Ru wx F B2 m2 d2 st) ∧ Kp w wx
theorem St2.kp {s : Nat} {w wx wy : World} {F : Nat → Prop} {L : List (List Int)} {at_ : Int} {st : List Int} {A1 B1 A2 B2 : Option Addr} {n1 c1 m1 d1 n2 c2 m2 d2 : Nat}
    (h : St2 s w wx F L at_ st A1 n1 c1 B1 m1 d1 A2 n2 c2 B2 m2 d2) (k : Kp wx wy) : St2 s w wy F L at_ st A1 n1 c1 B1 m1 d1 A2 n2 c2 B2 m2 d2 :=
  ⟨⟨h.1.1.kp k, h.1.2.kp k⟩, ⟨h.2.1.1.kp k, h.2.1.2.1.kp k, h.2.1.2.2.1.kp k, h.2.1.2.2.2.kp k⟩, h.2.2.trans k⟩

/-- Between two rounds. -/
def PlayI (s : Nat) (w wx : World) (F : Nat → Prop) (j : Nat) : Prop :=
  ∃ L at_ st A1 n1 c1 B1 m1 d1 A2 n2 c2 B2 m2 d2, St2 s w wx F L at_ st A1 n1 c1 B1 m1 d1 A2 n2 c2 B2 m2 d2 ∧ Hid (L.length ≤ j ∧ (∀ x ∈ L, x.length ≤ 20) ∧ st.length ≤ 20)

set_option maxRecDepth 100000 in
set_option maxHeartbeats 6400000 in
theorem plays_walk' (A : Option Addr) (n c : Nat) (ds : List DeedM) (w : World) (hD0 : Dds w Any A n c ds) :
    Calls Try.prog 4 #[.slice A n c] w fun e w' => e = .returned (.bool true) ∧ Kp w w' := by
  have hD := hD0.low
  have hnc := hD.2.1
  have hnl := hD.1
  have hlen := hD.2.2.1
  unfold maxLen at hnc
  have HLEN := Lib.hid hlen
  clear hlen
  obtain ⟨F, hFd⟩ : ∃ F : Nat → Prop, F = fun k => k ≠ w.heap.size ∧ k ≠ w.heap.size + 1 := ⟨_, rfl⟩
  have hFn : ∀ k, w.heap.size + 2 ≤ k → F k := fun k hk => by rw [hFd]; show k ≠ _ ∧ k ≠ _; omega
  have hFl : ∀ k, k < w.heap.size → F k := fun k hk => by rw [hFd]; show k ≠ _ ∧ k ≠ _; omega
  have hFo : ∀ k, F k → k ≠ w.heap.size ∧ k ≠ w.heap.size + 1 := fun k hk => by rw [hFd] at hk; exact hk
  have HFN := Lib.hid hFn
  have HFL := Lib.hid hFl
  have HFO := Lib.hid hFo
  clear hFd hFn hFl hFo
  go_enter Try.func4, Try.ntmps4
  go_wp2_with fail
  go_loopg [5] 100 (fun g i wr => ∃ j : Nat, j + g = 100 ∧ i = .int .i64 j ∧ PlayI w.heap.size w wr F j)
  case atStart =>
    have b1 := Bx.new (w.alloc (.cells #[.slice none 0 0, .int .i64 0, .slice none 0 0] 27)) #[.slice none 0 0, .int .i64 0, .slice none 0 0] 37
    rw [World.size_alloc] at b1
    exact ⟨0, rfl, rfl, [], 0, [], none, 0, 0, none, 0, 0, none, 0, 0, none, 0, 0, ⟨⟨(Bx.new w _ _).alloc _, b1⟩, ⟨Txs.nil _ _ _, Txs.nil _ _ _, Ru.nil _ _, Ru.nil _ _⟩, ((Kp.refl _).alloc _).alloc _⟩, ⟨by simp, by simp, by simp⟩⟩
  case round =>
    obtain ⟨j, hj, rfl, L, at_, st, A1, n1, c1, B1, m1, d1, A2, n2, c2, B2, m2, d2, hst, hb⟩ := hrel
    by_cases hlt : j < n ∧ j < 100
    · obtain ⟨h1, h2⟩ := hlt
      have h2b : decide ((j : Int) < 100) = true := by simp; omega
      obtain ⟨dd, hdd⟩ : ∃ dd, ds[j]? = some dd := ⟨ds[j]'(by rw [HLEN.out]; exact h1), List.getElem?_eq_getElem _⟩
      obtain ⟨ad, B, m, e_, rfl, q0, q1, q2, hr⟩ := (hD.kp hst.2.2).2.2.2 j dd hdd
      clear hdd
      have hml := hr.len
      have hme := hr.le
      have hmc := hr.cap
      have hxl := few_len dd.s m 20 hml
      have hr2 := Sl.take hr (k := min m 20) (by omega)
      rw [Nat.mul_one, R32_take] at hr2
      have hrF : Ru wr F B (min m 20) e_ (dd.s.take (min m 20)) := Sl.weak hr2 fun k _ hk => HFL.out k hk
      generalize dd.s.take (min m 20) = x at *
      have hm20 : min m 20 ≤ 20 := by omega
      go_upto_region 8 with (go_at_call 14; refine (few_any B m e_ 20 hme hmc (by omega) _).mono ?_; rintro e w' ⟨rfl, rfl⟩)
      generalize min m 20 = m' at *
      have ka := (Kp.refl wr).alloc (.cells #[.int .i64 dd.kind, .int .i64 dd.i, .slice B m' e_] 39)
      have bd := Bx.new wr #[.int .i64 dd.kind, .int .i64 dd.i, .slice B m' e_] 39
      have st1 := hst.kp ka
      have hx1 := hrF.kp ka
      have hz1 : w.heap.size + 2 ≤ wr.heap.size := by have := hst.1.2.lt; omega
      generalize (wr.alloc (.cells #[.int .i64 dd.kind, .int .i64 dd.i, .slice B m' e_] 39)) = w1 at *
      generalize wr.heap.size = sd at *
      clear hst hr hr2 hrF ka q0 q1 q2 hme hmc
      obtain ⟨kind, hkind⟩ : ∃ kind, kind = dd.kind := ⟨_, rfl⟩
      obtain ⟨ii, hii⟩ : ∃ ii, ii = dd.i := ⟨_, rfl⟩
      rw [← hkind, ← hii] at bd ⊢
      clear hkind hii
      obtain ⟨b0, b1, b2, b3, b4, b5⟩ := bd.three
      go_upto_if 34 with fail
      go_cut [6] (fun v wx => v = .pointer (some ⟨sd, 0, none⟩) ∧ PlayI w.heap.size w wx F (j + 1) ∧ Bx wx sd #[.int .i64 kind, .int .i64 ii, .slice B m' e_] 39 ∧ Ru wx F B m' e_ x)
      case first =>
        have hsz1 : w.heap.size + 2 ≤ w1.heap.size := by have := bd.lt; omega
        have hF1 := fun (wx : World) (hz : w.heap.size + 2 ≤ wx.heap.size) (k : Nat) (hk : wx.heap.size ≤ k) => HFN.out k (by omega)
        have HF1 := Lib.hid hF1
        clear hF1
        obtain ⟨r0, r1, r2, r3, r4, r5⟩ := st1.1.1.three
        by_cases hkd : kind = 0
        · have hkb : (kind == 0) = true := by simpa using hkd
          clear hkd
          go_wp2_with fail
          refine (past_add F F A1 B1 B n1 c1 m1 d1 m' e_ at_ L x w1 (HF1.out w1 hsz1) st1.2.1.1 hx1 (by have := st1.2.1.1.len; have := hb.out.1; omega) (by omega)).mono ?_
          rintro e w2 ⟨A3, n3, c3, B3, m3, d3, rfl, hT3, hS3, k2⟩
          have st2 := st1.kp k2
          have bd2 := bd.kp k2
          have hx2 := hx1.kp k2
          have hsz2 : w.heap.size + 2 ≤ w2.heap.size := by have := k2.size; omega
          clear b0 b1 b2 b3 b4 b5 r0 r1 r2 r3 r4 r5 k2 st1 bd hx1
          obtain ⟨b0, b1, b2, b3, b4, b5⟩ := bd2.three
          obtain ⟨r0, r1, r2, r3, r4, r5⟩ := st2.1.1.three
          obtain ⟨x0, x1, x2, x3, x4, x5⟩ := st2.1.2.three
          have n1' : w.heap.size + 1 ≠ w.heap.size := by omega
          have n2' : sd ≠ w.heap.size := by omega
          go_upto_region 10 with fail
          have bp3 := Bx.set3 st2.1.1 (.slice A3 n3 c3) (.int .i64 0) (.slice B3 m3 d3)
          have bx3 := Bx.far3 (u := .slice A3 n3 c3) (v := .int .i64 0) (s := .slice B3 m3 d3) st2.1.2 n1'
          have bd3 := Bx.far3 (u := .slice A3 n3 c3) (v := .int .i64 0) (s := .slice B3 m3 d3) bd2 n2'
          have hT3' := Txs.set3 (b := w.heap.size) (u := .slice A3 n3 c3) (v := .int .i64 0) (s := .slice B3 m3 d3) hT3 (fun k h => (HFO.out k h).1) (fun k h => (HFO.out k h).1)
          have hX3 := Txs.set3 (b := w.heap.size) (u := .slice A3 n3 c3) (v := .int .i64 0) (s := .slice B3 m3 d3) st2.2.1.2.1 (fun k h => (HFO.out k h).1) (fun k h => (HFO.out k h).1)
          have hS3' := Ru.set3 (b := w.heap.size) (u := .slice A3 n3 c3) (v := .int .i64 0) (s := .slice B3 m3 d3) hS3 (fun k h => (HFO.out k h).1)
          have hx3 := Ru.set3 (b := w.heap.size) (u := .slice A3 n3 c3) (v := .int .i64 0) (s := .slice B3 m3 d3) hx2 (fun k h => (HFO.out k h).1)
          have kp3 := Kp.set3 (b := w.heap.size) st2.2.2 (Nat.le_refl _) (.slice A3 n3 c3) (.int .i64 0) (.slice B3 m3 d3)
          have hsz3 : w.heap.size + 2 ≤ (((w2.setCell ⟨w.heap.size, 0, none⟩ (.slice A3 n3 c3)).setCell ⟨w.heap.size, 1, none⟩ (.int .i64 0)).setCell ⟨w.heap.size, 2, none⟩ (.slice B3 m3 d3)).heap.size := by rw [size_set3]; exact hsz2
          clear b0 b1 b2 b3 b4 b5 r0 r1 r2 r3 r4 r5 x0 x1 x2 x3 x4 x5 st2 bd2 hx2 hsz2 hT3 hS3
          generalize (((w2.setCell ⟨w.heap.size, 0, none⟩ (.slice A3 n3 c3)).setCell ⟨w.heap.size, 1, none⟩ (.int .i64 0)).setCell ⟨w.heap.size, 2, none⟩ (.slice B3 m3 d3)) = w3 at *
          obtain ⟨b0, b1, b2, b3, b4, b5⟩ := bd3.three
          obtain ⟨x0, x1, x2, x3, x4, x5⟩ := bx3.three
          go_wp2_with fail
          refine (refAdd_any F A2 B2 B n2 c2 m2 d2 m' e_ at_ L.reverse x w3 hX3 hx3 (by have := hX3.len; rw [List.length_reverse] at this; have := hb.out.1; omega) (HF1.out w3 hsz3)).mono ?_
          rintro e w4 ⟨A4, n4, c4, rfl, hX4, k4⟩
          have bp4 := bp3.kp k4
          have bx4 := bx3.kp k4
          have bd4 := bd3.kp k4
          have hT4 := hT3'.kp k4
          have hS4 := hS3'.kp k4
          have hx4 := hx3.kp k4
          have kp4 := kp3.trans k4
          clear b0 b1 b2 b3 b4 b5 x0 x1 x2 x3 x4 x5 bp3 bx3 bd3 hT3' hX3 hS3' hx3 kp3 k4 hsz3
          obtain ⟨x0, x1, x2, x3, x4, x5⟩ := bx4.three
          go_wp2_with fail
          go_meet
          have hrev : (addM L x).reverse = addR L.reverse x := addM_rev L x (by have := hb.out.1; omega)
          rw [← hrev] at hX4
          refine ⟨rfl, ⟨addM L x, 0, [], A3, n3, c3, B3, m3, d3, A4, n4, c4, none, 0, 0, ⟨⟨bp4.far3 (by omega), bx4.set3 _ _ _⟩, ⟨hT4.set3 (fun k h => (HFO.out k h).2) (fun k h => (HFO.out k h).2), hX4.set3 (fun k h => (HFO.out k h).2) (fun k h => (HFO.out k h).2), hS4.set3 (fun k h => (HFO.out k h).2), Ru.nil _ _⟩, kp4.set3 (by omega) _ _ _⟩, ?_, ?_, by simp⟩, bd4.far3 (by omega), hx4.set3 (fun k h => (HFO.out k h).2)⟩
          · have := addM_length L x; have := hb.out.1; omega
          · intro y hy
            rcases addM_mem hy with h | rfl
            · exact hb.out.2.1 y h
            · exact hxl
        · have hkb : (kind == 0) = false := by simpa using hkd
          clear hkd
          have hL20 : ∀ y ∈ L, y.length ≤ 1099511627776 := fun y hy => by have := hb.out.2.1 y hy; omega
          have HL20 := Lib.hid hL20
          have hstl : st.length ≤ 20 := hb.out.2.2
          have hm1 : m1 ≤ 20 := by rw [← st1.2.1.2.2.1.len]; exact hstl
          have hm2 : m2 ≤ 20 := by rw [← st1.2.1.2.2.2.len]; exact hstl
          have hn1 : n1 ≤ 100 := by rw [← st1.2.1.1.len]; have := hb.out.1; omega
          clear hL20
          obtain ⟨o, ho⟩ : ∃ o, o = lineM L at_ st ii x := ⟨_, rfl⟩
          obtain ⟨at', hat'⟩ : ∃ at', at' = (if o.isSome then ii else at_) := ⟨_, rfl⟩
          obtain ⟨st', hst'⟩ : ∃ st', st' = (if o.isSome then stashM at_ st ii x else st) := ⟨_, rfl⟩
          have hstl' : st'.length ≤ 20 := by
            rw [hst']
            split
            · unfold stashM; split
              · simp
              · split
                · exact hxl
                · exact hstl
            · exact hstl
          have c1' := past_go F F A1 B1 B n1 c1 m1 d1 m' e_ at_ ii L st x w1 (HF1.out w1 hsz1) st1.2.1.1 st1.2.1.2.2.1 hx1 (by omega) (by omega) (by omega) HL20.out
          rw [← ho, ← hat', ← hst'] at c1'
          have c2' : ∀ w3 : World, Txs w3 F F A2 n2 c2 L.reverse → Ru w3 F B2 m2 d2 st → Ru w3 F B m' e_ x → Calls Try.prog 22 #[.agg #[.slice A2 n2 c2, .int .i64 at_, .slice B2 m2 d2], .int .i64 ii, .slice B m' e_] w3 (RetGo F L.reverse at' st' o w3) := fun w3 g1 g2 g3 => by
            have := refGo_any F A2 B2 B n2 c2 m2 d2 m' e_ at_ ii L.reverse st x w3 g1 g2 g3
            rw [lineR_rev, ← ho, ← hat', ← hst'] at this
            exact this
          have C1 := Lib.hid c1'
          have C2 := Lib.hid c2'
          clear c1' c2' ho hat' hst'
          go_wp2_with fail
          refine C1.out.mono ?_
          rintro e w2 ⟨A3, n3, c3, B3, m3, d3, C3, k3, f3, rfl, hT3, hS3, hs3, k2⟩
          have st2 := st1.kp k2
          have bd2 := bd.kp k2
          have hx2 := hx1.kp k2
          clear b0 b1 b2 b3 b4 b5 r0 r1 r2 r3 r4 r5 k2 st1 bd hx1 C1
          go_upto_region 12 with fail
          have ka := (Kp.refl w2).alloc (.cells #[.slice A3 n3 c3, .int .i64 at', .slice B3 m3 d3] 27)
          have bq := Bx.new w2 #[.slice A3 n3 c3, .int .i64 at', .slice B3 m3 d3] 27
          have st3 := st2.kp ka
          have bd3 := bd2.kp ka
          have hx3 := hx2.kp ka
          have hT3' := hT3.kp ka
          have hS3' := hS3.kp ka
          have hs3' := hs3.kp ka
          have hq2 : w.heap.size + 2 ≤ w2.heap.size := by have := st2.1.2.lt; omega
          clear st2 bd2 hx2 hT3 hS3 hs3 ka
          generalize (w2.alloc (.cells #[.slice A3 n3 c3, .int .i64 at', .slice B3 m3 d3] 27)) = w3 at *
          generalize w2.heap.size = sq at *
          obtain ⟨b0, b1, b2, b3, b4, b5⟩ := bd3.three
          obtain ⟨x0, x1, x2, x3, x4, x5⟩ := st3.1.2.three
          go_wp2_with fail
          refine (C2.out w3 st3.2.1.2.1 st3.2.1.2.2.2 hx3).mono ?_
          rintro e w4 ⟨A4, n4, c4, B4, m4, d4, C4, k4, f4, rfl, hX4, hS4, hs4, kk4⟩
          have st4 := st3.kp kk4
          have bd4 := bd3.kp kk4
          have bq4 := bq.kp kk4
          have hx4 := hx3.kp kk4
          have hT4 := hT3'.kp kk4
          have hS4' := hS3'.kp kk4
          have hs4' := hs3'.kp kk4
          clear b0 b1 b2 b3 b4 b5 x0 x1 x2 x3 x4 x5 kk4 st3 bd3 bq hx3 hT3' hS3' hs3' C2
          go_upto_region 13 with fail
          have ka := (Kp.refl w4).alloc (.cells #[.slice A4 n4 c4, .int .i64 at', .slice B4 m4 d4] 37)
          have bY := Bx.new w4 #[.slice A4 n4 c4, .int .i64 at', .slice B4 m4 d4] 37
          have st5 := st4.kp ka
          have bd5 := bd4.kp ka
          have bq5 := bq4.kp ka
          have hx5 := hx4.kp ka
          have hT5 := hT4.kp ka
          have hX5 := hX4.kp ka
          have hS5 := hS4.kp ka
          have hS5' := hS4'.kp ka
          have hs5 := hs4.kp ka
          have hs5' := hs4'.kp ka
          have hq4 : sq < w4.heap.size := bq4.lt
          clear st4 bd4 bq4 hx4 hT4 hX4 hS4 hS4' hs4 hs4' ka
          generalize (w4.alloc (.cells #[.slice A4 n4 c4, .int .i64 at', .slice B4 m4 d4] 37)) = w5 at *
          generalize w4.heap.size = sy at *
          go_wp2_with fail
          refine (same_any F F C3 C4 k3 f3 k4 f4 _ _ w5 hs5' hs5).mono ?_
          rintro e w6 ⟨rfl, hd6⟩
          rw [(sameB_iff _ _).2 rfl]
          have kk6 := hd6.kp
          have st6 := st5.kp kk6
          have bd6 := bd5.kp kk6
          have bq6 := bq5.kp kk6
          have bY6 := bY.kp kk6
          have hx6 := hx5.kp kk6
          have hT6 := hT5.kp kk6
          have hX6 := hX5.kp kk6
          have hS6 := hS5.kp kk6
          have hS6' := hS5'.kp kk6
          clear st5 bd5 bq5 bY hx5 hT5 hX5 hS5 hS5' hs5 hs5' kk6 hd6
          obtain ⟨b0, b1, b2, b3, b4, b5⟩ := bd6.three
          obtain ⟨r0, r1, r2, r3, r4, r5⟩ := st6.1.1.three
          obtain ⟨x0, x1, x2, x3, x4, x5⟩ := st6.1.2.three
          go_wp2_with fail
          refine (same20_true F A1 A2 B1 B2 B n1 n2 c1 c2 m1 m2 d1 d2 m' e_ at_ ii L st x w6 st6.2.1.1 st6.2.1.2.2.1 st6.2.1.2.1 st6.2.1.2.2.2 hx6 (by omega) (by omega) (by omega) HL20.out).mono ?_
          rintro e w7 ⟨rfl, kk7⟩
          have st7 := st6.kp kk7
          have bd7 := bd6.kp kk7
          have bq7 := bq6.kp kk7
          have bY7 := bY6.kp kk7
          have hx7 := hx6.kp kk7
          have hT7 := hT6.kp kk7
          have hX7 := hX6.kp kk7
          have hS7 := hS6.kp kk7
          have hS7' := hS6'.kp kk7
          clear b0 b1 b2 b3 b4 b5 r0 r1 r2 r3 r4 r5 x0 x1 x2 x3 x4 x5 st6 bd6 bq6 bY6 hx6 hT6 hX6 hS6 hS6' kk7
          obtain ⟨r0, r1, r2, r3, r4, r5⟩ := st7.1.1.three
          obtain ⟨g0, g1, g2, _, _, _⟩ := bq7.three
          go_upto_region 16 with fail
          have n1' : w.heap.size + 1 ≠ w.heap.size := by omega
          have n2' : sd ≠ w.heap.size := by omega
          have n3' : sy ≠ w.heap.size := by omega
          have bp8 := Bx.set3 st7.1.1 (.slice A3 n3 c3) (.int .i64 at') (.slice B3 m3 d3)
          have bx8 := Bx.far3 (u := .slice A3 n3 c3) (v := .int .i64 at') (s := .slice B3 m3 d3) st7.1.2 n1'
          have bd8 := Bx.far3 (u := .slice A3 n3 c3) (v := .int .i64 at') (s := .slice B3 m3 d3) bd7 n2'
          have bY8 := Bx.far3 (u := .slice A3 n3 c3) (v := .int .i64 at') (s := .slice B3 m3 d3) bY7 n3'
          have hT8 := Txs.set3 (b := w.heap.size) (u := .slice A3 n3 c3) (v := .int .i64 at') (s := .slice B3 m3 d3) hT7 (fun k h => (HFO.out k h).1) (fun k h => (HFO.out k h).1)
          have hX8 := Txs.set3 (b := w.heap.size) (u := .slice A3 n3 c3) (v := .int .i64 at') (s := .slice B3 m3 d3) hX7 (fun k h => (HFO.out k h).1) (fun k h => (HFO.out k h).1)
          have hS8 := Ru.set3 (b := w.heap.size) (u := .slice A3 n3 c3) (v := .int .i64 at') (s := .slice B3 m3 d3) hS7 (fun k h => (HFO.out k h).1)
          have hS8' := Ru.set3 (b := w.heap.size) (u := .slice A3 n3 c3) (v := .int .i64 at') (s := .slice B3 m3 d3) hS7' (fun k h => (HFO.out k h).1)
          have hx8 := Ru.set3 (b := w.heap.size) (u := .slice A3 n3 c3) (v := .int .i64 at') (s := .slice B3 m3 d3) hx7 (fun k h => (HFO.out k h).1)
          have kp8 := Kp.set3 (b := w.heap.size) st7.2.2 (Nat.le_refl _) (.slice A3 n3 c3) (.int .i64 at') (.slice B3 m3 d3)
          clear r0 r1 r2 r3 r4 r5 g0 g1 g2 st7 bd7 bq7 bY7 hx7 hT7 hX7 hS7 hS7'
          generalize (((w7.setCell ⟨w.heap.size, 0, none⟩ (.slice A3 n3 c3)).setCell ⟨w.heap.size, 1, none⟩ (.int .i64 at')).setCell ⟨w.heap.size, 2, none⟩ (.slice B3 m3 d3)) = w8 at *
          obtain ⟨x0, x1, x2, x3, x4, x5⟩ := bx8.three
          obtain ⟨g0, g1, g2, _, _, _⟩ := bY8.three
          go_wp2_with fail
          go_meet
          exact ⟨rfl, ⟨L, at', st', A3, n3, c3, B3, m3, d3, A4, n4, c4, B4, m4, d4, ⟨⟨bp8.far3 (by omega), bx8.set3 _ _ _⟩, ⟨hT8.set3 (fun k h => (HFO.out k h).2) (fun k h => (HFO.out k h).2), hX8.set3 (fun k h => (HFO.out k h).2) (fun k h => (HFO.out k h).2), hS8'.set3 (fun k h => (HFO.out k h).2), hS8.set3 (fun k h => (HFO.out k h).2)⟩, kp8.set3 (by omega) _ _ _⟩, ⟨by have := hb.out.1; omega, hb.out.2.1, hstl'⟩⟩, bd8.far3 (by omega), hx8.set3 (fun k h => (HFO.out k h).2)⟩
      case rest =>
        clear hb b0 b1 b2 b3 b4 b5 st1 bd hx1
        obtain ⟨rfl, ⟨L, at_, st, A1, n1, c1, B1, m1, d1, A2, n2, c2, B2, m2, d2, st1, hb⟩, bd, hx1⟩ := hcut
        obtain ⟨w1, hw1⟩ : ∃ w1 : World, w1 = wc := ⟨_, rfl⟩
        subst hw1
        have HL20 : Hid (∀ y ∈ L, y.length ≤ 1099511627776) := fun y hy => by have := hb.out.2.1 y hy; omega
        have hm1 : m1 ≤ 20 := by rw [← st1.2.1.2.2.1.len]; exact hb.out.2.2
        have hn1 : n1 ≤ 101 := by rw [← st1.2.1.1.len]; have := hb.out.1; omega
        obtain ⟨b0, b1, b2, b3, b4, b5⟩ := bd.three
        obtain ⟨r0, r1, r2, r3, r4, r5⟩ := st1.1.1.three
        obtain ⟨x0, x1, x2, x3, x4, x5⟩ := st1.1.2.three
        go_wp2_with fail
        refine (same20_true F A1 A2 B1 B2 B n1 n2 c1 c2 m1 m2 d1 d2 m' e_ at_ ii L st x w1 st1.2.1.1 st1.2.1.2.2.1 st1.2.1.2.1 st1.2.1.2.2.2 hx1 (by omega) (by omega) (by omega) HL20.out).mono ?_
        rintro e w2 ⟨rfl, k2⟩
        have st2 := st1.kp k2
        have bd2 := bd.kp k2
        have hx2 := hx1.kp k2
        clear b0 b1 b2 b3 b4 b5 r0 r1 r2 r3 r4 r5 x0 x1 x2 x3 x4 x5 st1 bd hx1 k2
        obtain ⟨b0, b1, b2, b3, b4, b5⟩ := bd2.three
        obtain ⟨r0, r1, r2, r3, r4, r5⟩ := st2.1.1.three
        obtain ⟨x0, x1, x2, x3, x4, x5⟩ := st2.1.2.three
        go_wp2_with fail
        refine (same20_true F A1 A2 B1 B2 B n1 n2 c1 c2 m1 m2 d1 d2 m' e_ at_ 0 L st x w2 st2.2.1.1 st2.2.1.2.2.1 st2.2.1.2.1 st2.2.1.2.2.2 hx2 (by omega) (by omega) (by omega) HL20.out).mono ?_
        rintro e w3 ⟨rfl, k3⟩
        have st3 := st2.kp k3
        clear b0 b1 b2 b3 b4 b5 r0 r1 r2 r3 r4 r5 x0 x1 x2 x3 x4 x5 st2 bd2 hx2 k3
        go_wp2_with fail
        go_roundg (100 - (j + 1))
        case measure => omega
        case rel => exact ⟨j + 1, by omega, by go_num, L, at_, st, A1, n1, c1, B1, m1, d1, A2, n2, c2, B2, m2, d2, st3, hb⟩
    · have kpw := hst.2.2
      clear hst hb
      by_cases h1 : j < n
      · have h2b : decide ((j : Int) < 100) = false := by simp; omega
        clear hlt
        go_wp2_with fail
        refine (awake20 wr).mono ?_
        rintro e w1 ⟨rfl, k1⟩
        go_wp2_with fail
        go_ret
        exact ⟨rfl, kpw.trans k1⟩
      · clear hlt
        go_wp2_with fail
        refine (awake20 wr).mono ?_
        rintro e w1 ⟨rfl, k1⟩
        go_wp2_with fail
        go_ret
        exact ⟨rfl, kpw.trans k1⟩
end Go.Proofs.Ytcbachblhfkcoaa
