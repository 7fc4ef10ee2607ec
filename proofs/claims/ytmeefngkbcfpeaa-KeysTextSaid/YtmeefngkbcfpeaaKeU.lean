/-
  package keys: Feed within a paste, and Feed at all. Conditions: a byte from 0 to 255; a decoder that feeding can make; what waits are bytes, not more than 100000.
-/
import Derived.Test.YtmeefngkbcfpeaaKeT
namespace Go.Proofs.Ytmeefngkbcfpeaa
open Go.RowKit

theorem pasteM_eq (p : Pm) (b : Int) : pasteM p b = if endB (p.pend ++ [b]) = true then (Pm.zero, [⟨4, 0, false, decodeM (cutM (p.pend ++ [b]))⟩]) else (⟨p.inn, p.met, p.d, p.pend ++ [b]⟩, []) := by
  unfold pasteM cutM endB
  by_cases h : (p.pend ++ [b]).drop ((p.pend ++ [b]).length - 6) = endsM
  · rw [if_pos h, if_pos (by simpa using h), if_pos (by simpa using h)]
  · rw [if_neg h, if_neg (by simpa using h)]
theorem cutM_len (l : List Int) : (cutM l).length ≤ l.length := by unfold cutM; split; simp; omega
theorem isB_cut {l : List Int} (h : isB l) : isB (cutM l) := by unfold cutM; split; exact isB_take h _; exact h

theorem set8_sl {w : World} {F : Nat → Prop} {size n c : Nat} {A : Option Addr} {vs : List Value} (h : Sl w F size A n c vs) {b : Nat} (hb : ¬ F b) (x0 x1 x2 x3 x4 x5 x6 x7 : Value) : Sl (set8 w b x0 x1 x2 x3 x4 x5 x6 x7) F size A n c vs :=
  (((((((h.setCell (p := ⟨_, _, _⟩) hb x0).setCell (p := ⟨_, _, _⟩) hb x1).setCell (p := ⟨_, _, _⟩) hb x2).setCell (p := ⟨_, _, _⟩) hb x3).setCell (p := ⟨_, _, _⟩) hb x4).setCell (p := ⟨_, _, _⟩) hb x5).setCell (p := ⟨_, _, _⟩) hb x6).setCell (p := ⟨_, _, _⟩) hb x7

set_option maxRecDepth 100000 in
set_option maxHeartbeats 3200000 in
theorem feedPaste_any (p : Pm) (h4 : p.inn = 4) (hb : isB p.pend) (hpl : p.pend.length ≤ 100000) (b : Int) (h0 : 0 ≤ b) (h1 : b ≤ 255) (w : World) : Calls Try.prog 28 #[p.v, .int .u8 b] w (RetFk (pasteM p b) w) := by
  obtain ⟨i, met, ⟨need, has, low, high, val⟩, pend⟩ := p
  obtain rfl : i = 4 := h4
  have hP := pasteM_eq ⟨4, met, ⟨need, has, low, high, val⟩, pend⟩ b
  dsimp only at hP hb hpl
  dsimp only [Pm.v, Pm.cells] at ⊢
  have hib : isB (pend ++ [b]) := isB_app hb (isB_one h0 h1)
  have hlen : (pend ++ [b]).length ≤ 100001 := by simp; omega
  have hcs := fun wx : World => cutSuffix_any (pend ++ [b]) hib (by omega) wx
  have hres : bs8 (pend ++ [b]) = bs8 pend ++ bs [b] := by rw [bs8_app]; rfl
  rw [hres] at hcs
  have hsz := bs8_size pend
  have hs1 : (bs [b]).size = 1 := by rw [bs_size]; rfl
  have hde := fun wx : World => decode_any (bs8 (cutM (pend ++ [b]))) (by rw [bs8_size]; have := cutM_len (pend ++ [b]); omega) wx
  rw [by8_bs8 (isB_cut hib)] at hde
  generalize decodeM (cutM (pend ++ [b])) = tx at *
  have HCS := Lib.hid hcs
  have HDE := Lib.hid hde
  have hs2 : (bs8 pend).size ≤ 100000 := by omega
  have HR := Lib.hid hres
  clear hcs hde hlen hib hsz hres hb
  generalize hs : bs8 pend = s at *
  clear hs
  generalize bs8 (cutM (pend ++ [b])) = s3 at *
  have hcv := conv_sl (P := Try.prog) (((w.alloc (.cells #[.int .i64 4, .bool met, .int .i64 need, .int .i64 has, .int .u8 low, .int .u8 high, .int .i32 val, .string s] 42)).alloc (.cells #[.int .i64 0, .bool false, .int .i64 0, .int .i64 0, .int .u8 0, .int .u8 0, .int .i32 0, .string ⟨#[]⟩] 42)).alloc (.cells #[.int .u8 b] 5)) 60 9 5 Try.underlying60 Try.underlying5 Try.underlying9 (A := some ⟨w.heap.size + 1 + 1, 0, none⟩) (n := 1) (c := 1) (l := [b]) (F := Any) (Sl.new_ _ #[.int .u8 b] _ 1 1 _ (by simp) trivial rfl (by omega)) (isB_one h0 h1)
  cases he : endB (pend ++ [b]) with
  | true =>
    rw [he, if_pos rfl] at hP
    rw [he] at HCS
    have HP := Lib.hid hP
    rw [HP.out]
    clear hP HP he
    go_enter Try.func28, Try.ntmps28
    have br0 := Bx.new (w.alloc (.cells #[.int .i64 4, .bool met, .int .i64 need, .int .i64 has, .int .u8 low, .int .u8 high, .int .i32 val, .string (s ++ bs [b])] 42)) #[.int .i64 0, .bool false, .int .i64 0, .int .i64 0, .int .u8 0, .int .u8 0, .int .i32 0, .string ⟨#[]⟩] 42
    rw [World.size_alloc] at br0
    have br1 := br0.alloc (.cells #[.int .u8 b] 5)
    have kp1 := (((Kp.refl w).alloc (.cells #[.int .i64 4, .bool met, .int .i64 need, .int .i64 has, .int .u8 low, .int .u8 high, .int .i32 val, .string (s ++ bs [b])] 42)).alloc (.cells #[.int .i64 0, .bool false, .int .i64 0, .int .i64 0, .int .u8 0, .int .u8 0, .int .i32 0, .string ⟨#[]⟩] 42)).alloc (.cells #[.int .u8 b] 5)
    clear br0
    go_wp2_with (first
      | (go_at_call 45; refine (HCS.out _).mono ?_; rintro e w' ⟨rfl, hw'⟩; subst hw')
      | (go_at_call 14; refine (HDE.out _).mono ?_; rintro e w2 ⟨A2, n2, c2, rfl, ho2, k2⟩; have br2 := br1.kp k2; have kp2 := kp1.trans k2; have hz2 := br2.lt; obtain ⟨⟨r0, r1, r2, r3, r4, r5, r6, r7⟩, t0, t1, t2, t3, t4, t5, t6, t7⟩ := br2.eight))
    simp only [World.size_alloc] at ho2
    have brF : Bx ((set8 w2 (w.heap.size + 1) (.int .i64 0) (.bool false) (.int .i64 0) (.int .i64 0) (.int .u8 0) (.int .u8 0) (.int .i32 0) (.string ByteArray.empty)).alloc (.cells #[.int .i64 4, .int .i32 0, .bool false, .slice A2 n2 c2] 57)) (w.heap.size + 1) #[.int .i64 0, .bool false, .int .i64 0, .int .i64 0, .int .u8 0, .int .u8 0, .int .i32 0, .string ByteArray.empty] 42 :=
      Bx.alloc ((((((((br2.set 0 (.int .i64 0)).set 1 (.bool false)).set 2 (.int .i64 0)).set 3 (.int .i64 0)).set 4 (.int .u8 0)).set 5 (.int .u8 0)).set 6 (.int .i32 0)).set 7 (.string ByteArray.empty)) _
    obtain ⟨⟨z0, z1, z2, z3, z4, z5, z6, z7⟩, _⟩ := brF.eight
    unfold set8 at z0 z1 z2 z3 z4 z5 z6 z7
    have hbe : ByteArray.empty = ⟨#[]⟩ := rfl
    rw [hbe] at z0 z1 z2 z3 z4 z5 z6 z7
    refine bodyPost_ret (v := .tuple #[Pm.zero.v, .slice (some ⟨w2.heap.size, 0, none⟩) 1 1]) (by simp [results, Try.results28, go_sem, z0, z1, z2, z3, z4, z5, z6, z7, Pm.v, Pm.cells, Pm.zero, Dm.zero, bs8]) rfl ?_
    have hs8 := set8_sl (w := w2) (b := w.heap.size + 1) ho2 (by unfold From; omega) (.int .i64 0) (.bool false) (.int .i64 0) (.int .i64 0) (.int .u8 0) (.int .u8 0) (.int .i32 0) (.string ByteArray.empty)
    have hru := Sl.weak (Sl.alloc hs8 (.cells #[.int .i64 4, .int .i32 0, .bool false, .slice A2 n2 c2] 57)) (G := From w.heap.size) (fun k _ h => by unfold From at *; omega)
    have hk8 := (set8_kp kp2 (b := w.heap.size + 1) (by omega) (.int .i64 0) (.bool false) (.int .i64 0) (.int .i64 0) (.int .u8 0) (.int .u8 0) (.int .i32 0) (.string ByteArray.empty)).alloc (.cells #[.int .i64 4, .int .i32 0, .bool false, .slice A2 n2 c2] 57)
    refine ⟨_, 1, 1, rfl, ⟨[[.int .i64 4, .int .i32 0, .bool false, .slice A2 n2 c2]], Sl.new_ (set8 w2 (w.heap.size + 1) _ _ _ _ _ _ _ _) #[.int .i64 4, .int .i32 0, .bool false, .slice A2 n2 c2] _ 4 1 _ (by simp [set8]) (show w.heap.size ≤ w2.heap.size by omega) rfl (by omega), ⟨⟨A2, n2, c2, rfl, hru⟩, trivial⟩, rfl⟩, hk8⟩
  | false =>
    rw [he, if_neg (by simp)] at hP
    rw [he] at HCS
    have HP := Lib.hid hP
    rw [HP.out]
    clear hP HP he
    go_enter Try.func28, Try.ntmps28
    go_wp2_with (go_at_call 45; refine (HCS.out _).mono ?_; rintro e w' ⟨rfl, hw'⟩; subst hw')
    have brF := Bx.new (w.alloc (.cells #[.int .i64 4, .bool met, .int .i64 need, .int .i64 has, .int .u8 low, .int .u8 high, .int .i32 val, .string (s ++ bs [b])] 42)) #[.int .i64 4, .bool met, .int .i64 need, .int .i64 has, .int .u8 low, .int .u8 high, .int .i32 val, .string (s ++ bs [b])] 42
    rw [World.size_alloc] at brF
    obtain ⟨⟨r0, r1, r2, r3, r4, r5, r6, r7⟩, _⟩ := (brF.alloc (.cells #[.int .u8 b] 5)).eight
    refine bodyPost_ret (v := .tuple #[(Pm.mk 4 met ⟨need, has, low, high, val⟩ (pend ++ [b])).v, .slice none 0 0]) (by simp [results, Try.results28, go_sem, r0, r1, r2, r3, r4, r5, r6, r7, Pm.v, Pm.cells, HR.out]) rfl ?_
    exact ⟨none, 0, 0, rfl, ⟨[], Sl.nil _ _ _, trivial, rfl⟩, (((Kp.refl w).alloc _).alloc _).alloc _⟩

theorem feedP_text {p : Pm} (h4 : p.inn ≠ 4) (b : Int) : ∀ k ∈ (feedP p b).2, k.text = [] := by
  have hch : ∀ (l : List Int) (m : Bool), ∀ k ∈ charsM l m, k.text = [] := by
    intro l m k hk
    cases l with
    | nil => cases hk
    | cons r t =>
      simp only [charsM, List.mem_cons, List.mem_map] at hk
      rcases hk with rfl | ⟨_, _, rfl⟩ <;> rfl
  have hpl : ∀ q : Pm, ∀ k ∈ (plainM q b).2, k.text = [] := by
    intro q k hk
    unfold plainM at hk
    split at hk
    · exact hch _ _ k hk
    · split at hk
      · rcases List.mem_append.1 hk with h | h
        · exact hch _ _ k h
        · simp at h; rw [h]
      · exact hch _ _ k hk
  have hnm : ∀ r : Int, (nameM r).text = [] := by intro r; unfold nameM; split <;> rfl
  intro k hk
  unfold feedP at hk
  split at hk
  · unfold escapedM at hk
    split at hk
    · cases hk
    · split at hk
      · cases hk
      · split at hk
        · simp at hk; rw [hk]
        · split at hk
          · simp at hk; rw [hk]
          · exact hch _ _ k hk
  · split at hk
    · unfold rowM at hk
      split at hk
      · rcases List.mem_cons.1 hk with rfl | h
        · exact hnm 0
        · exact hpl _ k h
      · split at hk
        · simp at hk; rw [hk]; exact hnm _
        · split at hk
          · cases hk
          · split at hk
            · cases hk
            · split at hk
              · simp at hk; rw [hk]; exact hnm _
              · split at hk
                · simp at hk; rw [hk]; exact hnm _
                · simp at hk; rw [hk]; exact hnm _
    · split at hk
      · split at hk
        · rcases List.mem_cons.1 hk with rfl | h
          · exact hnm 0
          · exact hpl _ k h
        · simp at hk; rw [hk]; exact hnm _
      · exact hpl _ k hk
theorem feedP_4 {p : Pm} (h4 : p.inn = 4) (b : Int) : feedP p b = pasteM p b := by unfold feedP; rw [if_neg (by omega), if_neg (by omega), if_neg (by omega), if_pos h4]
theorem feedF_any (p : Pm) (hd : p.d.ok) (hb : isB p.pend) (hpl : p.pend.length ≤ 100000) (b : Int) (h0 : 0 ≤ b) (h1 : b ≤ 255) (w : World) : Calls Try.prog 28 #[p.v, .int .u8 b] w (RetFk (feedP p b) w) := by
  by_cases h4 : p.inn = 4
  · rw [feedP_4 h4]
    exact feedPaste_any p h4 hb hpl b h0 h1 w
  · refine (feedP_any p h4 hd hb hpl b h0 h1 w).mono ?_
    rintro e w2 ⟨A, n, c, rfl, ho, k⟩
    exact ⟨A, n, c, rfl, KsF.of ho.sl (feedP_text h4 b), k⟩
theorem tickP_text (p : Pm) : ∀ k ∈ (tickP p).2, k.text = [] := by
  intro k hk
  have hnm : ∀ r : Int, (nameM r).text = [] := by intro r; unfold nameM; split <;> rfl
  unfold tickP at hk
  split at hk
  · simp at hk; rw [hk]
  · split at hk
    · simp at hk; rw [hk]; exact hnm _
    · split at hk
      · cases hk
      · unfold brokenM at hk
        cases h : endM p.d with
        | nil => rw [h] at hk; cases hk
        | cons r t =>
          rw [h] at hk
          simp only [charsM, List.mem_cons, List.mem_map] at hk
          rcases hk with rfl | ⟨_, _, rfl⟩ <;> rfl
theorem tickF_any (p : Pm) (w : World) : Calls Try.prog 30 #[p.v] w (RetFk (tickP p) w) := by
  refine (tick_any p w).mono ?_
  rintro e w2 ⟨A, n, c, rfl, ho, k⟩
  exact ⟨A, n, c, rfl, KsF.of ho.sl (tickP_text p), k⟩
end Go.Proofs.Ytmeefngkbcfpeaa
