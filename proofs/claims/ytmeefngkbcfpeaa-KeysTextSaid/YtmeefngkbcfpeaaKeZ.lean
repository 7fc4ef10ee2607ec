/-
  typebarref22: pasted, Feed, Tick: the parser in its box g. Conditions: the box is there; what waits are bytes, not more than 100000; a byte from 0 to 255.
-/
import Derived.Test.YtmeefngkbcfpeaaKeY
namespace Go.Proofs.Ytmeefngkbcfpeaa
open Go.RowKit

/-- Keys come back; box g is the parser r. -/
def RetRk (x : Rm × List Ky) (g : Nat) (w : World) (e : Ending) (w' : World) : Prop :=
  ∃ A n c, e = .returned (.slice A n c) ∧ KsF (From w.heap.size) w' A n c x.2 ∧ Bx w' g x.1.cells 45 ∧ Gb g w w'
theorem RetRr.rk {x : Rm × List Ky} {g : Nat} {w w' : World} {e : Ending} (ht : ∀ k ∈ x.2, k.text = []) (h : RetRr x g w e w') : RetRk x g w e w' := by
  obtain ⟨A, n, c, rfl, ho, hb, hg⟩ := h
  exact ⟨A, n, c, rfl, KsF.of ho.sl ht, hb, hg⟩
theorem pastedR_eq (r : Rm) (b : Int) : pastedR r b = if endB (r.row ++ [b]) = true then (⟨0, [], r.wait, r.met⟩, [⟨4, 0, false, decR ((r.row ++ [b]).take ((r.row ++ [b]).length - 6))⟩]) else (⟨r.inn, r.row ++ [b], r.wait, r.met⟩, []) := by
  unfold pastedR
  cases he : endB (r.row ++ [b]) with
  | true =>
    have h6 := endB_len he
    have hd := of_decide_eq_true he
    rw [if_neg (fun h => h.elim (fun h => by omega) (fun h => h hd)), if_pos rfl]
  | false =>
    have hd := of_decide_eq_false he
    rw [if_pos (Or.inr hd), if_neg (by simp)]

set_option maxRecDepth 100000 in
set_option maxHeartbeats 3200000 in
theorem refPasted_any (r : Rm) (hr : isB r.row) (hrl : r.row.length ≤ 100000) (b : Int) (h0 : 0 ≤ b) (h1 : b ≤ 255) (g : Nat) (w : World) (hg : Bx w g r.cells 45) :
    Calls Try.prog 51 #[.pointer (some ⟨g, 0, none⟩), .int .u8 b] w (RetRk (pastedR r b) g w) := by
  have hP := pastedR_eq r b
  obtain ⟨i, row, wait, met⟩ := r
  dsimp only [Rm.cells] at hP hg hr hrl
  have hib : isB (row ++ [b]) := isB_app hr (isB_one h0 h1)
  have hlen : (row ++ [b]).length = row.length + 1 := by simp
  have hres : bs8 (row ++ [b]) = bs8 row ++ bs [b] := by rw [bs8_app]; rfl
  have hsz := bs8_size (row ++ [b])
  have hsw := bs8_size row
  have hs1 : (bs [b]).size = 1 := by rw [bs_size]; rfl
  have hd := fun wx : World => refDecode_any (bs8 ((row ++ [b]).take ((row ++ [b]).length - 6))) (by rw [bs8_size]; simp; omega) wx
  rw [by8_bs8 (isB_take hib _)] at hd
  generalize decR ((row ++ [b]).take ((row ++ [b]).length - 6)) = tx at hd hP
  have hx1 := bs8_extract hib 0 ((row ++ [b]).length - 6)
  rw [List.drop_zero, Nat.sub_zero, ← hsz, hsz] at hx1
  rw [← hx1, ← hsz] at hd
  have hx2 := bs8_extract hib ((row ++ [b]).length - 6) (row ++ [b]).length
  rw [List.take_of_length_le (by simp)] at hx2
  have he := bs8_beq (isB_drop hib ((row ++ [b]).length - 6)) isB_ends
  rw [← hx2] at he
  have l2 : (bs8 endsM).toList = [27, 91, 50, 48, 49, 126] := by rw [ByteArray.toList_eq]; rfl
  rw [l2, ← hsz] at he
  have he2 : (((bs8 (row ++ [b])).extract ((bs8 (row ++ [b])).size - 6) (bs8 (row ++ [b])).size).toList == [27, 91, 50, 48, 49, 126]) = endB (row ++ [b]) := by rw [he, hsz]; rfl
  rw [hlen, hres] at hsz
  rw [hres] at hd he2
  have hs3 : (bs8 row).size ≤ 100000 := by omega
  have HD := Lib.hid hd
  have HRS := Lib.hid hres
  have hgl := hg.lt
  have hgb := Gb.refl g w
  have hend6 : endB (row ++ [b]) = true → 6 ≤ row.length + 1 := fun h => by have := endB_len h; omega
  generalize endB (row ++ [b]) = eb at *
  clear hd hx1 hx2 he l2 hres hib hr hlen
  generalize hs : bs8 row = s at *
  have HS := Lib.hid hs
  clear hs
  generalize hs2 : bs8 wait = s2 at *
  have HS2 := Lib.hid hs2
  clear hs2
  have hcv1 := conv_sl (P := Try.prog) (w.alloc (.cells #[.int .u8 b] 5)) 60 9 5 Try.underlying60 Try.underlying5 Try.underlying9 (A := some ⟨w.heap.size, 0, none⟩) (n := 1) (c := 1) (l := [b]) (F := Any) (Sl.new_ w #[.int .u8 b] 5 1 1 _ rfl trivial rfl (by omega)) (isB_one h0 h1)
  have hcv2 := conv_sl (P := Try.prog) ((w.alloc (.cells #[.int .u8 b] 5)).drew) 60 9 5 Try.underlying60 Try.underlying5 Try.underlying9 (A := some ⟨w.heap.size, 0, none⟩) (n := 1) (c := 1) (l := [b]) (F := Any) (Sl.drew (Sl.new_ w #[.int .u8 b] 5 1 1 _ rfl trivial rfl (by omega))) (isB_one h0 h1)
  obtain ⟨⟨p0, p1, p2, p3⟩, q0, q1, q2, q3⟩ := hg.four4
  have hs5 : (s ++ bs [b]).size ≤ 100001 := by omega
  have HSZ := Lib.hid hsz
  have HE2 := Lib.hid he2
  have HE6 := Lib.hid hend6
  obtain ⟨rr, hrr⟩ : ∃ rr, rr = pastedR ⟨i, row, wait, met⟩ b := ⟨_, rfl⟩
  rw [← hrr] at hP ⊢
  have HPP := Lib.hid hP
  clear hP hrr hsz he2 hsw hrl hend6
  go_enter Try.func51, Try.ntmps51
  go_wp2_with fail
  go_region
  have b1 := Bx.drew (Bx.alloc (hg.set 1 (.string (s ++ bs [b]))) (.cells #[.int .u8 b] 5))
  have gb1 := ((hgb.set 1 (.string (s ++ bs [b]))).alloc (.cells #[.int .u8 b] 5)).kp (Kp.refl _).drew
  have hz1 := gb1.size
  generalize ((w.setCell ⟨g, 1, none⟩ (.string (s ++ bs [b]))).alloc (.cells #[.int .u8 b] 5)).drew = w1 at *
  clear hcv1 hcv2 p0 p1 p2 p3 q0 q1 q2 q3
  obtain ⟨⟨p0, p1, p2, p3⟩, q0, q1, q2, q3⟩ := b1.four4
  generalize s ++ bs [b] = s5 at *
  clear hs3 hs1
  cases eb with
  | true =>
    have hP := HPP.out
    rw [if_pos rfl] at hP
    have h6 : 6 ≤ s5.size := by have := HE6.out rfl; have := HSZ.out; omega
    have he := HE2.out
    have hne : (s5.extract (s5.size - 6) s5.size).toList = [27, 91, 50, 48, 49, 126] := by simpa using he
    have hsub : (s5.size : Int) - 6 = ((s5.size - 6 : Nat) : Int) := by omega
    have hng : ¬ (((s5.size - 6 : Nat) : Int) < 0) := by omega
    clear he HE2 HE6 HSZ HPP
    have HPP := Lib.hid hP
    clear hP
    go_wp2_with (go_at_call 15; refine (HD.out _).mono ?_; rintro e w3 ⟨A3, n3, c3, rfl, hr3, k3⟩; have b3 := b1.kp k3; have gb3 := gb1.kp k3; have hz3 := b3.lt; have hzz := k3.size; obtain ⟨⟨u0, u1, u2, u3⟩, x0, x1, x2, x3⟩ := b3.four4)
    go_ret
    rw [HPP.out]
    have b4 := ((b3.set 0 (.int .i64 0)).set 1 (.string ⟨#[]⟩)).alloc (.cells #[.int .i64 4, .int .i32 0, .bool false, .slice A3 n3 c3] 57)
    have gb4 := ((gb3.set 0 (.int .i64 0)).set 1 (.string ⟨#[]⟩)).alloc (.cells #[.int .i64 4, .int .i32 0, .bool false, .slice A3 n3 c3] 57)
    have hru := Sl.weak (Sl.alloc (Sl.setCell (Sl.setCell hr3 (p := ⟨g, 0, none⟩) (fun h => by have h : w1.heap.size ≤ g := h; omega) (.int .i64 0)) (p := ⟨g, 1, none⟩) (fun h => by have h : w1.heap.size ≤ g := h; omega) (.string ⟨#[]⟩)) (.cells #[.int .i64 4, .int .i32 0, .bool false, .slice A3 n3 c3] 57)) (G := From w.heap.size) (fun k _ h => by unfold From at *; omega)
    refine ⟨_, 1, 1, rfl, ⟨[[.int .i64 4, .int .i32 0, .bool false, .slice A3 n3 c3]], Sl.new_ ((w3.setCell ⟨g, 0, none⟩ _).setCell ⟨g, 1, none⟩ _) #[.int .i64 4, .int .i32 0, .bool false, .slice A3 n3 c3] _ 4 1 _ (by simp) (show w.heap.size ≤ w3.heap.size by omega) rfl (by omega), ⟨⟨A3, n3, c3, rfl, hru⟩, trivial⟩, rfl⟩, ?_, gb4⟩
    show Bx _ g #[.int .i64 0, .string (bs8 []), .string (bs8 wait), .bool met] _
    rw [HS2.out]
    exact b4
  | false =>
    have hP := HPP.out
    rw [if_neg (by simp)] at hP
    have he := HE2.out
    have HPP2 := Lib.hid hP
    by_cases h6 : 6 ≤ s5.size
    · have hsub : (s5.size : Int) - 6 = ((s5.size - 6 : Nat) : Int) := by omega
      have hng : ¬ (((s5.size - 6 : Nat) : Int) < 0) := by omega
      clear HE2 HE6 HSZ HPP hP
      go_wp2_with fail
      go_ret
      rw [HPP2.out]
      refine ⟨none, 0, 0, rfl, ⟨[], Sl.nil _ _ _, trivial, rfl⟩, ?_, gb1⟩
      show Bx _ g #[.int .i64 i, .string (bs8 (row ++ [b])), .string (bs8 wait), .bool met] _
      rw [HRS.out, HS2.out]
      exact b1
    · have hng : (s5.size : Int) - 6 < 0 := by omega
      clear HE2 HE6 HSZ HPP hP he
      go_wp2_with fail
      go_ret
      rw [HPP2.out]
      refine ⟨none, 0, 0, rfl, ⟨[], Sl.nil _ _ _, trivial, rfl⟩, ?_, gb1⟩
      show Bx _ g #[.int .i64 i, .string (bs8 (row ++ [b])), .string (bs8 wait), .bool met] _
      rw [HRS.out, HS2.out]
      exact b1

theorem aloneR_text (r : Rm) (b : Int) : ∀ k ∈ (aloneR r b).2, k.text = [] := by
  have hch : ∀ (l : List Int) (m : Bool), ∀ k ∈ charsM l m, k.text = [] := by
    intro l m k hk
    cases l with
    | nil => cases hk
    | cons r t =>
      simp only [charsM, List.mem_cons, List.mem_map] at hk
      rcases hk with rfl | ⟨_, _, rfl⟩ <;> rfl
  intro k hk
  unfold aloneR at hk
  split at hk
  · exact hch _ _ k hk
  · split at hk
    · rcases List.mem_append.1 hk with h | h
      · exact hch _ _ k h
      · simp at h; rw [h]
    · exact hch _ _ k hk
theorem brokenR_text (r : Rm) (b : Int) : ∀ k ∈ (brokenR r b).2, k.text = [] := by
  intro k hk
  unfold brokenR at hk
  rcases List.mem_cons.1 hk with rfl | h
  · rfl
  · exact aloneR_text _ b k h
theorem escapedR_text (r : Rm) (b : Int) : ∀ k ∈ (escapedR r b).2, k.text = [] := by
  have hch : ∀ (l : List Int) (m : Bool), ∀ k ∈ charsM l m, k.text = [] := by
    intro l m k hk
    cases l with
    | nil => cases hk
    | cons r t =>
      simp only [charsM, List.mem_cons, List.mem_map] at hk
      rcases hk with rfl | ⟨_, _, rfl⟩ <;> rfl
  intro k hk
  unfold escapedR at hk
  split at hk
  · simp at hk; rw [hk]
  · split at hk
    · cases hk
    · split at hk
      · cases hk
      · split at hk
        · simp at hk; rw [hk]
        · exact hch _ _ k hk
theorem rowR_text (r : Rm) (b : Int) : ∀ k ∈ (rowR r b).2, k.text = [] := by
  intro k hk
  unfold rowR at hk
  split at hk
  · exact brokenR_text r b k hk
  · split at hk
    · cases hk
    · split at hk
      · simp at hk; rw [hk]
      · split at hk
        · cases hk
        · split at hk
          · simp at hk; rw [hk]; exact numberR_text _
          · split at hk
            · simp at hk; rw [hk]
            · simp at hk; rw [hk]; exact letterR_text _

set_option maxRecDepth 100000 in
set_option maxHeartbeats 3200000 in
theorem refFeed_any (r : Rm) (hr : isB r.row) (hrl : r.row.length ≤ 100000) (hw : isB r.wait) (hwl : r.wait.length ≤ 100000) (b : Int) (h0 : 0 ≤ b) (h1 : b ≤ 255) (g : Nat) (w : World) (hg : Bx w g r.cells 45) :
    Calls Try.prog 29 #[.pointer (some ⟨g, 0, none⟩), .int .u8 b] w (RetRk (feedR r b) g w) := by
  have hes := (refEscaped_any r hw hwl b h0 h1 g w hg).mono fun _ _ h => RetRr.rk (escapedR_text r b) h
  have hro := (refRow_any r hr hrl hw hwl b h0 h1 g w hg).mono fun _ _ h => RetRr.rk (rowR_text r b) h
  have hbk := (refBroken_any r hw hwl b h0 h1 g w hg).mono fun _ _ h => RetRr.rk (brokenR_text r b) h
  have hal := (refAlone_any r hw hwl b h0 h1 g w hg).mono fun _ _ h => RetRr.rk (aloneR_text r b) h
  have hpa := refPasted_any r hr hrl b h0 h1 g w hg
  have hP : feedR r b = if r.inn = 1 then escapedR r b else if r.inn = 2 then rowR r b
    else if r.inn = 3 then (if ctlM b = true ∨ 127 < b then brokenR r b else (⟨0, r.row, r.wait, r.met⟩, [letterR b])) else if r.inn = 4 then pastedR r b else aloneR r b := rfl
  generalize escapedR r b = es at *
  generalize rowR r b = ro at *
  generalize brokenR r b = bk at *
  generalize aloneR r b = al at *
  generalize pastedR r b = pa at *
  have hgl := hg.lt
  have hgb := Gb.refl g w
  have HCT := Lib.hid fun (wx : World) => refControl_any b wx
  have hle := fun (wx : World) => refLetter_any b wx
  unfold kyv at hle
  have hlt := letterR_text b
  generalize letterR b = kl at *
  obtain ⟨lk, lr, lm, lt⟩ := kl
  dsimp only at hlt
  subst hlt
  obtain ⟨i, row, wait, met⟩ := r
  dsimp only [Rm.cells] at hP hg hle
  have HES := Lib.hid hes
  have HRO := Lib.hid hro
  have HBK := Lib.hid hbk
  have HAL := Lib.hid hal
  have HPA := Lib.hid hpa
  have HLE := Lib.hid hle
  clear hes hro hbk hal hpa hr hrl hw hwl hle
  generalize hs : bs8 row = s at *
  have HS := Lib.hid hs
  generalize hs2 : bs8 wait = s2 at *
  have HS2 := Lib.hid hs2
  clear hs hs2
  obtain ⟨⟨p0, p1, p2, p3⟩, q0, q1, q2, q3⟩ := hg.four4
  by_cases c1 : i = 1
  · subst c1
    rw [if_pos rfl] at hP
    rw [hP]
    clear hP
    go_enter Try.func29, Try.ntmps29
    go_wp2_with (go_at_call 46; refine HES.out.mono ?_; rintro e w2 ⟨A2, n2, c2, rfl, ks2, b2, gb2⟩)
    go_ret
    exact ⟨A2, n2, c2, rfl, ks2, b2, gb2⟩
  · rw [if_neg c1] at hP
    by_cases c2 : i = 2
    · subst c2
      rw [if_pos rfl] at hP
      rw [hP]
      clear hP c1
      go_enter Try.func29, Try.ntmps29
      go_wp2_with (go_at_call 47; refine HRO.out.mono ?_; rintro e w2 ⟨A2, n2, c2, rfl, ks2, b2, gb2⟩)
      go_ret
      exact ⟨A2, n2, c2, rfl, ks2, b2, gb2⟩
    · rw [if_neg c2] at hP
      by_cases c3 : i = 3
      · subst c3
        rw [if_pos rfl] at hP
        clear c1 c2
        by_cases c1 : ctlM b = true ∨ 127 < b
        · rw [if_pos c1] at hP
          rw [hP]
          have hct := HCT.out
          obtain ⟨cb, hcb⟩ : ∃ cb, cb = ctlM b := ⟨_, rfl⟩
          rw [← hcb] at hct c1
          have HC2 := Lib.hid hct
          clear hct HCT hcb HLE hP
          go_enter Try.func29, Try.ntmps29
          cases cb with
          | true =>
            go_wp2_with (first | (go_at_call 48; refine (HC2.out _).mono ?_; rintro e w' ⟨rfl, hw'⟩; subst w') | (go_at_call 49; refine HBK.out.mono ?_; rintro e w2 ⟨A2, n2, c2, rfl, ks2, b2, gb2⟩))
            go_ret
            exact ⟨A2, n2, c2, rfl, ks2, b2, gb2⟩
          | false =>
            have c127 : 127 < b := by rcases c1 with c | c; cases c; exact c
            go_wp2_with (first | (go_at_call 48; refine (HC2.out _).mono ?_; rintro e w' ⟨rfl, hw'⟩; subst w') | (go_at_call 49; refine HBK.out.mono ?_; rintro e w2 ⟨A2, n2, c2, rfl, ks2, b2, gb2⟩))
            go_ret
            exact ⟨A2, n2, c2, rfl, ks2, b2, gb2⟩
        · have hcf : ctlM b = false := by simpa using fun h => c1 (Or.inl h)
          have h127 : ¬ 127 < b := by omega
          have hct := HCT.out
          rw [hcf] at hct
          have HC2 := Lib.hid hct
          rw [if_neg c1] at hP
          rw [hP]
          clear hct HCT hcf c1 HBK hP
          go_enter Try.func29, Try.ntmps29
          go_wp2_with (first | (go_at_call 48; refine (HC2.out _).mono ?_; rintro e w' ⟨rfl, hw'⟩; subst w') | (go_at_call 50; refine (HLE.out _).mono ?_; rintro e w2 ⟨rfl, k2⟩))
          go_ret
          have hz2 : w.heap.size ≤ w2.heap.size := by have := k2.size; simp at this; exact this
          refine ⟨_, 1, 1, rfl, KsF.of (ks := [⟨lk, lr, lm, []⟩]) (Own.new_ w2 #[.int .i64 lk, .int .i32 lr, .bool lm, .slice none 0 0] 57 4 1 _ _ rfl hz2 rfl (by omega)).sl (by simp), ?_, ((hgb.set 0 _).kp k2).alloc _⟩
          show Bx _ g #[.int .i64 0, .string (bs8 row), .string (bs8 wait), .bool met] _
          rw [HS.out, HS2.out]
          exact Bx.alloc (Bx.kp (hg.set 0 _) k2) _
      · rw [if_neg c3] at hP
        by_cases c4 : i = 4
        · subst c4
          rw [if_pos rfl] at hP
          rw [hP]
          clear hP c1 c2 c3
          go_enter Try.func29, Try.ntmps29
          go_wp2_with (go_at_call 51; refine HPA.out.mono ?_; rintro e w2 ⟨A2, n2, c2, rfl, ks2, b2, gb2⟩)
          go_ret
          exact ⟨A2, n2, c2, rfl, ks2, b2, gb2⟩
        · rw [if_neg c4] at hP
          rw [hP]
          have b1 : (i == 1) = false := by simpa using c1
          have b2 : (i == 2) = false := by simpa using c2
          have b3 : (i == 3) = false := by simpa using c3
          have b4 : (i == 4) = false := by simpa using c4
          clear hP c1 c2 c3 c4
          go_enter Try.func29, Try.ntmps29
          go_wp2_with (go_at_call 52; refine HAL.out.mono ?_; rintro e w2 ⟨A2, n2, c2, rfl, ks2, b2, gb2⟩)
          go_ret
          exact ⟨A2, n2, c2, rfl, ks2, b2, gb2⟩

set_option maxRecDepth 100000 in
set_option maxHeartbeats 3200000 in
theorem refTick_any (r : Rm) (hw : isB r.wait) (hwl : r.wait.length ≤ 100000) (g : Nat) (w : World) (hg : Bx w g r.cells 45) :
    Calls Try.prog 31 #[.pointer (some ⟨g, 0, none⟩)] w (RetRk (tickR r) g w) := by
  have hre := fun (wx : World) (hx : Bx wx g (Rm.cells ⟨0, [], r.wait, r.met⟩) 45) => refRest_any ⟨0, [], r.wait, r.met⟩ hw (Nat.le_trans hwl (by omega)) g wx hx
  have htx : ∀ k ∈ (restR ⟨0, [], r.wait, r.met⟩).2, k.text = [] := by
    intro k hk
    have := aloneR_text ⟨0, [], r.wait, r.met⟩ 27 k
    unfold aloneR at this
    rw [if_pos rfl] at this
    exact this hk
  have hP : tickR r = if r.inn = 4 then (r, []) else if r.inn = 1 then (⟨0, [], r.wait, r.met⟩, [⟨2, 27, false, []⟩]) else if r.inn = 2 ∨ r.inn = 3 then (⟨0, [], r.wait, r.met⟩, [⟨5, 0, false, []⟩])
    else restR ⟨0, [], r.wait, r.met⟩ := rfl
  generalize restR ⟨0, [], r.wait, r.met⟩ = rr at *
  obtain ⟨i, row, wait, met⟩ := r
  dsimp only [Rm.cells] at hP hg hre htx
  have HRE := Lib.hid hre
  have HTX := Lib.hid htx
  clear hre htx hw hwl
  have hgl := hg.lt
  have hgb := Gb.refl g w
  have hbs : bs8 [] = ⟨#[]⟩ := rfl
  rw [hbs] at HRE
  have HBS := Lib.hid hbs
  clear hbs
  generalize hs2 : bs8 wait = s2 at *
  have HS2 := Lib.hid hs2
  clear hs2
  obtain ⟨⟨p0, p1, p2, p3⟩, q0, q1, q2, q3⟩ := hg.four4
  by_cases c4 : i = 4
  · subst c4
    rw [if_pos rfl] at hP
    rw [hP]
    clear hP
    go_enter Try.func31, Try.ntmps31
    go_wp2_with fail
    go_ret
    refine ⟨none, 0, 0, rfl, ⟨[], Sl.nil _ _ _, trivial, rfl⟩, ?_, hgb⟩
    show Bx _ g #[.int .i64 4, .string (bs8 row), .string (bs8 wait), .bool met] _
    rw [HS2.out]
    exact hg
  · have b4 : (i == 4) = false := by simpa using c4
    rw [if_neg c4] at hP
    by_cases c1 : i = 1
    · subst c1
      rw [if_pos rfl] at hP
      rw [hP]
      clear hP c4
      go_enter Try.func31, Try.ntmps31
      go_wp2_with fail
      go_ret
      refine ⟨_, 1, 1, rfl, KsF.of (ks := [⟨2, 27, false, []⟩]) (Own.new_ ((w.setCell ⟨g, 0, none⟩ _).setCell ⟨g, 1, none⟩ _) #[.int .i64 2, .int .i32 27, .bool false, .slice none 0 0] 57 4 1 _ _ (by simp) (Nat.le_refl _) rfl (by omega)).sl (by simp), ?_, ((hgb.set 0 _).set 1 _).alloc _⟩
      show Bx _ g #[.int .i64 0, .string (bs8 []), .string (bs8 wait), .bool met] _
      rw [HS2.out]
      exact Bx.alloc ((hg.set 0 _).set 1 _) _
    · have b1 : (i == 1) = false := by simpa using c1
      rw [if_neg c1] at hP
      by_cases c2 : i = 2 ∨ i = 3
      · rw [if_pos c2] at hP
        rw [hP]
        clear hP c1 c4
        rcases c2 with rfl | rfl
        all_goals
          go_enter Try.func31, Try.ntmps31
          go_wp2_with fail
          go_ret
          refine ⟨_, 1, 1, rfl, KsF.of (ks := [⟨5, 0, false, []⟩]) (Own.new_ ((w.setCell ⟨g, 0, none⟩ _).setCell ⟨g, 1, none⟩ _) #[.int .i64 5, .int .i32 0, .bool false, .slice none 0 0] 57 4 1 _ _ (by simp) (Nat.le_refl _) rfl (by omega)).sl (by simp), ?_, ((hgb.set 0 _).set 1 _).alloc _⟩
          show Bx _ g #[.int .i64 0, .string (bs8 []), .string (bs8 wait), .bool met] _
          rw [HS2.out]
          exact Bx.alloc ((hg.set 0 _).set 1 _) _
      · rw [if_neg c2] at hP
        rw [hP]
        have b2 : (i == 2) = false := by simp; omega
        have b3 : (i == 3) = false := by simp; omega
        clear hP c1 c2 c4
        go_enter Try.func31, Try.ntmps31
        go_wp2_with (go_at_call 54; refine (HRE.out _ ((hg.set 0 _).set 1 _)).mono ?_; rintro e w2 h2; obtain ⟨A2, n2, c2, rfl, ks2, b2, gb2⟩ := RetRr.rk HTX.out h2)
        go_ret
        simp only [World.size_setCell] at ks2
        exact ⟨A2, n2, c2, rfl, ks2, b2, ((hgb.set 0 _).set 1 _).trans gb2⟩
end Go.Proofs.Ytmeefngkbcfpeaa
