/-
  typebarlaw01.UtfBack, UtfOnly: the walks: they return true, and what was in memory stays. Conditions: what comes in can be read.
-/
import Derived.Test.YtmeefngkbcfpeaaPutE
import Derived.Test.YtmeefngkbcfpeaaUtfD
namespace Go.Proofs.Ytmeefngkbcfpeaa
open Go.RowKit

theorem by8_bs {l : List Int} (h : isB l) : by8 (bs l) = l := by
  unfold by8 bs
  simp only [List.map_map]
  conv => rhs; rw [← List.map_id l]
  refine List.map_congr_left fun b hb => ?_
  simp only [Function.comp, id]
  exact u8of_toNat (h b hb)
theorem bs_by8 (s : ByteArray) : bs (by8 s) = s := by
  unfold by8 bs
  simp only [List.map_map]
  have h : (s.data.toList.map (u8of ∘ fun b : UInt8 => (b.toNat : Int))) = s.data.toList := by
    conv => rhs; rw [← List.map_id s.data.toList]
    refine List.map_congr_left fun b _ => ?_
    simp [u8of]
  rw [h]

set_option maxRecDepth 100000 in
set_option maxHeartbeats 1600000 in
theorem utfBack_walk {w0 : World} (B : Option Addr) (n d : Nat) (l : List Int) (hl0 : Sl w0 Any 1 B n d (l.map (Value.int .i32))) (_ : ∀ y ∈ l, (Lit.int .i32 y).wf = true) (w : World) (hw : w = w0 := by rfl) :
    Calls Try.prog 7 #[.slice B n d] w fun e w' => e = .returned (.bool true) ∧ Kp w w' := by
  subst hw
  have hl : Ru w Any B n d l := hl0
  clear hl0
  have hle := hl.le
  have hcap := hl.cap
  unfold maxLen at hcap
  obtain ⟨n', hn'⟩ : ∃ n', n' = min n 2000 := ⟨_, rfl⟩
  have hl1 := hl.take (k := n') (by omega)
  have hn2 : n' ≤ 2000 := by omega
  have hnn : n' ≤ n := by omega
  have HN := Lib.hid hn'
  clear hl hn'
  go_enter Try.func7, Try.ntmps7
  go_upto_if 8 with fail
  go_cut [0] (fun v wx => v = .slice B n' d ∧ wx = w)
  case first =>
    by_cases hb : 2000 < n
    · have h1 : Hid (n' = 2000) := by show _ = _; have := HN.out; omega
      go_wp2_with fail
      go_meet
      exact ⟨by rw [h1.out], rfl⟩
    · have h1 : Hid (n' = n) := by show _ = _; have := HN.out; omega
      go_wp2_with fail
      go_meet
      exact ⟨by rw [h1.out], rfl⟩
  case rest =>
    obtain ⟨hv, hwc⟩ := hcut
    subst hv
    subst hwc
    generalize l.take n' = l' at *
    have HLEN := Lib.hid hl1.len
    clear HN hnn hle
    have hle := hl1.le
    go_wp2_with fail
    refine (encode_any B n' d l' wc hl1 (by omega)).mono ?_
    rintro e w2 ⟨rfl, k2⟩
    have hdec : decodeM (by8 (bs (encM l'))) = l'.map fixM := by rw [by8_bs (encM_bd l'), dec_enc]
    have hsz : (bs (encM l')).size ≤ 1073741824 := by rw [bs_size]; have := encM_len l'; have := HLEN.out; omega
    go_wp2_with fail
    refine (decode_any (bs (encM l')) hsz w2).mono ?_
    rintro e w3 ⟨A3, n3, c3, rfl, hr3, k3⟩
    rw [hdec] at hr3
    have hn3 : n3 = n' := by rw [← hr3.len, List.length_map]; exact HLEN.out
    subst hn3
    have kw3 := k2.trans k3
    have hl3 := hl1.kp kw3
    have hle3 := hr3.le
    have hcap3 := hr3.cap
    unfold maxLen at hcap3
    clear hdec hsz k2 k3 hl1
    go_wp2_with fail
    go_loopg [4, 5] n3 (fun g i v5 wr => ∃ (k : Nat), k + g = n3 ∧ i = .int .i64 k ∧ Kp w3 wr)
    case atStart => exact ⟨0, by omega, rfl, Kp.refl _⟩
    case round =>
      obtain ⟨k, hk, rfl, kw⟩ := hrel
      by_cases hlt : k < n3
      · obtain ⟨ad, rfl, hc⟩ := Ru.get (hl3.kp kw) hlt
        obtain ⟨ad3, rfl, hc3⟩ := Ru.get (hr3.kp kw) hlt
        obtain ⟨x, hx⟩ : ∃ x, l'[k]? = some x := ⟨l'[k]'(by rw [HLEN.out]; exact hlt), List.getElem?_eq_getElem _⟩
        rw [List.getElem?_map, hx] at hc3
        rw [hx] at hc
        dsimp only [Option.getD_some, Option.map_some] at hc hc3
        clear hx
        obtain ⟨y, hy⟩ : ∃ y, y = fixM x := ⟨_, rfl⟩
        rw [← hy] at hc3
        have HY := Lib.hid hy
        clear hy
        have hyy : (y != y) = false := by simp
        go_wp2_with fail
        refine (refValid_any x wr).mono ?_
        rintro e w' ⟨rfl, rfl⟩
        cases hb : validB x with
        | true =>
          have hxy : x = y := by rw [HY.out]; unfold fixM; rw [hb]; rfl
          subst hxy
          clear hb
          go_wp2_with fail
          go_roundg (n3 - (k + 1))
          case measure => omega
          case rel => exact ⟨k + 1, by omega, by go_num, kw⟩
        | false =>
          have hxy : y = 65533 := by rw [HY.out]; unfold fixM; rw [hb]; rfl
          subst hxy
          clear hb
          go_wp2_with fail
          go_roundg (n3 - (k + 1))
          case measure => omega
          case rel => exact ⟨k + 1, by omega, by go_num, kw⟩
      · go_wp2_with fail
        refine (awake01 wr).mono ?_
        rintro e w4 ⟨rfl, k4⟩
        go_wp2_with fail
        go_ret
        exact ⟨rfl, (kw3.trans kw).trans k4⟩
set_option maxRecDepth 100000 in
set_option maxHeartbeats 1600000 in
theorem utfOnly_walk (s : ByteArray) (_hs : s.size ≤ maxLen) (w : World) : Calls Try.prog 8 #[.string s] w fun e w' => e = .returned (.bool true) ∧ Kp w w' := by
  obtain ⟨t, ht⟩ : ∃ t : ByteArray, t = if 5000 < s.size then s.extract 0 5000 else s := ⟨_, rfl⟩
  have hts : t.size ≤ 5000 := by
    rw [ht]
    split
    · rw [ByteArray.size_extract]; omega
    · omega
  have HT := Lib.hid ht
  clear ht
  go_enter Try.func8, Try.ntmps8
  go_upto_if 7 with fail
  go_cut [0] (fun v wx => v = .string t ∧ wx = w)
  case first =>
    by_cases hb : 5000 < s.size
    · have h1 : Hid (t = s.extract 0 5000) := by show _ = _; rw [HT.out, if_pos hb]
      go_wp2_with fail
      go_meet
      exact ⟨by rw [h1.out], rfl⟩
    · have h1 : Hid (t = s) := by show _ = _; rw [HT.out, if_neg hb]
      go_wp2_with fail
      go_meet
      exact ⟨by rw [h1.out], rfl⟩
  case rest =>
    obtain ⟨hv, hwc⟩ := hcut
    subst hv
    subst hwc
    go_wp2_with fail
    refine (decode_any t (by omega) wc).mono ?_
    rintro e w3 ⟨A3, n, c3, rfl, hr3, k3⟩
    have hle := hr3.le
    have hcap := hr3.cap
    unfold maxLen at hcap
    have HLEN := Lib.hid hr3.len
    have hn : n ≤ 20000 := by
      have h1 := feedsM_len Dm.zero (by8 t)
      have h2 := by8_length t
      have h3 := HLEN.out
      unfold decodeM at h3
      rw [List.length_append] at h3
      have h4 : (endM (feedsM Dm.zero (by8 t)).1).length ≤ 1 := by unfold endM; split <;> simp
      omega
    have HENC : Hid ((∀ r ∈ decodeM (by8 t), r ≠ 65533) → bs (encM (decodeM (by8 t))) = t) := fun h => by
      rw [enc_decM (by8 t) (by8_bd t) h, bs_by8]
    generalize decodeM (by8 t) = L at *
    clear hts HT
    go_wp2_with fail
    go_loopg [4] n (fun g i wr => ∃ (k : Nat), k + g = n ∧ i = .int .i64 k ∧ Kp w3 wr ∧ Hid (∀ (i : Nat) (r : Int), i < k → L[i]? = some r → r ≠ 65533))
    case atStart => exact ⟨0, by omega, rfl, Kp.refl _, fun i r h => absurd h (by omega)⟩
    case round =>
      obtain ⟨k, hk, rfl, kw, hne⟩ := hrel
      by_cases hlt : k < n
      · obtain ⟨ad3, rfl, hc3⟩ := Ru.get (hr3.kp kw) hlt
        obtain ⟨x, hx⟩ : ∃ x, L[k]? = some x := ⟨L[k]'(by rw [HLEN.out]; exact hlt), List.getElem?_eq_getElem _⟩
        rw [hx] at hc3
        dsimp only [Option.getD_some] at hc3
        have HX := Lib.hid hx
        clear hx
        by_cases hb : x = 65533
        · subst hb
          go_wp2_with fail
          refine (awake01 wr).mono ?_
          rintro e w4 ⟨rfl, k4⟩
          go_wp2_with fail
          go_ret
          exact ⟨rfl, (k3.trans kw).trans k4⟩
        · have hbb : (x == 65533) = false := by simpa using hb
          have HB := Lib.hid hb
          clear hb
          go_wp2_with fail
          go_roundg (n - (k + 1))
          case measure => omega
          case rel =>
            refine ⟨k + 1, by omega, by go_num, kw, fun i r hi hr => ?_⟩
            rcases Nat.lt_or_ge i k with h | h
            · exact hne.out i r h hr
            · obtain rfl : i = k := by omega
              rw [HX.out] at hr
              cases hr
              exact HB.out
      · have hall : bs (encM L) = t := HENC.out fun r hr => by
          obtain ⟨i, hi⟩ := List.getElem?_of_mem hr
          have hil := (List.getElem?_eq_some_iff.1 hi).1
          exact hne.out i r (by have := HLEN.out; omega) hi
        have HALL := Lib.hid hall
        clear hall
        go_wp2_with fail
        refine (encode_any A3 n c3 L wr ((hr3.kp kw).any) (by omega)).mono ?_
        rintro e w4 ⟨rfl, k4⟩
        rw [HALL.out]
        have htt : (t == t) = true := show (t.data == t.data) = true by simp
        go_wp2_with fail
        refine (awake01 w4).mono ?_
        rintro e w5 ⟨rfl, k5⟩
        go_wp2_with fail
        go_ret
        exact ⟨rfl, ((k3.trans kw).trans k4).trans k5⟩
end Go.Proofs.Ytmeefngkbcfpeaa
