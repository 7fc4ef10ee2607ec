/-
  typebarlaw47.StoreTears: the walk. Conditions: the arguments can be read.
-/
import Derived.Test.YtcbachblhfkcoaaSt12
namespace Go.Proofs.Ytcbachblhfkcoaa
open Go.RowKit

/-- The place at which a store is torn. -/
theorem tear_place (x : Int) (n : Nat) (hn : n ≤ 2000000) : ∃ q : Nat, q ≤ n ∧ (wrap64 (wrap64 (x.tmod (n + 1) + n) + 1)).tmod (n + 1) = (q : Int) := by
  have a1 := Int.tmod_lt_of_pos x (show (0 : Int) < (n : Int) + 1 by omega)
  have a2 := Int.lt_tmod_of_pos x (show (0 : Int) < (n : Int) + 1 by omega)
  have e1 : wrap64 (x.tmod (n + 1) + n) = x.tmod (n + 1) + n := IntWalk.wrap64_in _ ⟨by omega, by omega⟩
  have e2 : wrap64 (x.tmod (n + 1) + n + 1) = x.tmod (n + 1) + n + 1 := IntWalk.wrap64_in _ ⟨by omega, by omega⟩
  rw [e1, e2]
  have b1 := Int.tmod_lt_of_pos (x.tmod (n + 1) + n + 1) (show (0 : Int) < (n : Int) + 1 by omega)
  have b2 := Int.tmod_nonneg ((n : Int) + 1) (show 0 ≤ x.tmod (n + 1) + n + 1 by omega)
  obtain ⟨q, hq⟩ := Int.eq_ofNat_of_zero_le b2
  exact ⟨q, by omega, by rw [hq]⟩
theorem cell_kp3 {w w' : World} {p : Addr} {v : Value} (d : Kp w w') (h : w.cell? p = some v) : w'.cell? p = some v := by
  rw [d.cell (World.block_lt_of_cell? w p h)]; exact h
/-- The first lines of a slice of texts. -/
theorem Txs.take {w : World} {F G : Nat → Prop} {A : Option Addr} {n c : Nat} {L : List (List Int)} (h : Txs w F G A n c L) {k : Nat} (hk : k ≤ n) : Txs w F G A k c (L.take k) := by
  obtain ⟨vs, h1, h2, h3⟩ := h
  have h4 := h1.take hk
  rw [Nat.mul_one] at h4
  refine ⟨vs.take k, h4, by rw [List.length_take]; omega, fun i x hx => ?_⟩
  rw [List.getElem?_take] at hx
  split at hx
  · obtain ⟨B, m, d, hv, hr⟩ := h3 i x hx
    refine ⟨B, m, d, ?_, hr⟩
    rw [List.getElem?_take, if_pos (by assumption)]
    exact hv
  · cases hx

set_option maxRecDepth 100000 in
set_option maxHeartbeats 1600000 in
theorem storeTears_walk' (A : Option Addr) (n c : Nat) (L0 : List (List Int)) (x : Int) (w : World) (hT : Txs w Any Any A n c L0) :
    Calls Try.prog 11 #[.slice A n c, .int .i64 x] w fun e w' => e = .returned (.bool true) ∧ Kp w w' := by
  have HF := Lib.hid (few47_any A n c L0 w hT)
  obtain ⟨L, hL⟩ : ∃ L, L = fewM L0 := ⟨_, rfl⟩
  have hb20 : ∀ y ∈ L, y.length ≤ 20 := fun y hy => by rw [hL] at hy; exact fewM_mem hy
  have hl12 : L.length ≤ 12 := by rw [hL]; exact fewM_len L0
  rw [← hL] at HF
  have htot : (allM L).length ≤ 1008 := by
    have h := allM_len hb20
    have : L.length * (4 * 20 + 4) ≤ 12 * 84 := Nat.mul_le_mul_right _ hl12
    omega
  have HB := Lib.hid hb20
  have HRA := Lib.hid (read_all L)
  have hbz := bs_size (allM L)
  obtain ⟨N, hN⟩ : ∃ N, N = (allM L).length := ⟨_, rfl⟩
  rw [← hN] at hbz htot
  have HN := Lib.hid hN
  obtain ⟨q, hq, hcut⟩ := tear_place x N (by omega)
  clear hL hb20 hT hN
  go_enter Try.func11, Try.ntmps11
  go_wp2_with fail
  refine HF.out.mono ?_
  rintro e w2 ⟨A2, n2, c2, rfl, hT2, k2⟩
  have hn2 : n2 ≤ 12 := by rw [← hT2.len]; exact hl12
  have hc2 := hT2.cap
  have hle2 := hT2.le
  unfold maxLen at hc2
  have HL2 := Lib.hid hT2.len
  have HA := Lib.hid (all_any Any Any A2 n2 c2 L w2 hT2 (fun y hy => by have := HB.out y hy; omega) (by rw [← HN.out]; omega))
  clear hl12
  go_wp2_with fail
  refine HA.out.mono ?_
  rintro e w3 ⟨rfl, k3⟩
  have kw3 := k2.trans k3
  have hT3 := hT2.kp k3
  clear k2 k3 hT2
  have HRD := Lib.hid fun wx => storeRead_any (bs (allM L)) (by omega) wx
  have HRD2 := Lib.hid fun wx => storeRead_any ((bs (allM L)).extract 0 q) (by rw [ByteArray.size_extract]; omega) wx
  rw [by8_extract, List.drop_zero, Nat.sub_zero] at HRD2
  rw [by8_bs (allM_bd L)] at HRD HRD2
  rw [HRA.out, ← HN.out] at HRD
  rw [read_torn] at HRD2
  generalize bs (allM L) = s1 at *
  go_upto_block 0 with fail
  go_cut [7, 8] (fun v7 _ wx => ∃ (A7 : Option Addr) (n7 c7 : Nat) (vs : List Value), v7 = .slice A7 n7 c7 ∧ OTx wx w3.heap.size (From w3.heap.size) A7 n7 c7 (L.map (·.map fixM)) vs ∧ Kp w3 wx)
  case first =>
    go_wp2_with fail
    go_loopg [7, 8] n2 (fun g ov iv wr => ∃ (k : Nat) (A7 : Option Addr) (n7 c7 : Nat) (vs : List Value), k + g = n2 ∧ iv = .int .i64 k ∧ ov = .slice A7 n7 c7 ∧ OTx wr w3.heap.size (From w3.heap.size) A7 n7 c7 ((L.take k).map (·.map fixM)) vs ∧ n7 ≤ k ∧ Kp w3 wr)
    case atStart => exact ⟨0, none, 0, 0, [], by omega, rfl, rfl, OTx.nil _ _ _, by omega, Kp.refl _⟩
    case round =>
      obtain ⟨k, A7, n7, c7, vs, hk, rfl, rfl, ho, hn7, kw⟩ := hrel
      by_cases hlt : k < n2
      · obtain ⟨ad, B, m, d, rfl, hc, hr⟩ := (hT3.kp kw).get hlt
        have hlL : k < L.length := by rw [HL2.out]; exact hlt
        have hts : (L.take (k + 1)).map (fun y => y.map fixM) = (L.take k).map (fun y => y.map fixM) ++ [(L[k]?.getD []).map fixM] := by
          rw [List.take_succ_eq_append_getElem hlL, List.getElem?_eq_getElem hlL, List.map_append]; rfl
        have hx1 : (L[k]?.getD []).length ≤ 20 := by rw [List.getElem?_eq_getElem hlL]; exact HB.out _ (List.getElem_mem hlL)
        have HRI := Lib.hid (right_any Any B m d (L[k]?.getD []) wr hr (by rw [← hr.len]; omega))
        have HTS := Lib.hid hts
        have hzr := kw.size
        have hol := ho.1.lt
        clear hts hx1 hr
        generalize (L[k]?.getD []).map fixM = y at *
        go_wp2_with (first
          | (go_at_call 36; refine HRI.out.mono ?_; rintro e w4 ⟨A4, n4, c4, rfl, ho4, k4⟩; have ho5 := ho.kp k4; have hz4 : w3.heap.size ≤ w4.heap.size := Nat.le_trans hzr k4.size)
          | (at_builtin; refine wpList_append_sl _ rfl (.tmp 28) (.tmp 34) _ rfl w3.heap.size 23 _ 1 24 Try.underlying22 infoTx rfl (by omega) A7 n7 c7 vs rfl (ho5.1.alloc _) Any _ 1 1 [.slice A4 n4 c4] rfl (Sl.new _ _ _ _ _ trivial rfl (by omega)) (by simp [Value.oneCell']) (by simp only [maxLen]; omega) (by omega) (by first | omega | (simp; omega)) ?_; intro A6 c6 w6 hown6 hg6 hat6))
        have ka := (Kp.refl w4).alloc (.cells #[.slice A4 n4 c4] 23)
        have hl3 : Ru (w4.alloc (.cells #[.slice A4 n4 c4] 23)) (fun g => From w3.heap.size g ∧ rowOf A7 ≠ some g) A4 n4 c4 y :=
          Sl.kp (Sl.weak ho4.sl fun g _ hg => ⟨by unfold From at *; omega, fun e => by have := (hol g e).2; unfold From at hg; omega⟩) ka
        have ho6 := (ho5.kp ka).app hl3 hown6 hg6 hat6
        go_roundg (n2 - (k + 1))
        case measure => omega
        case rel =>
          refine ⟨k + 1, A6, n7 + 1, c6, vs ++ [.slice A4 n4 c4], by omega, by go_num, rfl, ?_, by omega, ((kw.trans k4).trans ka).grown hg6 fun g e => (hol g e).1⟩
          rw [HTS.out]
          exact ho6
      · obtain rfl : k = n2 := by omega
        have HO : Hid (OTx wr w3.heap.size (From w3.heap.size) A7 n7 c7 (L.map (·.map fixM)) vs) := by
          show OTx _ _ _ _ _ _ _ _
          rwa [List.take_of_length_le (by rw [HL2.out]; omega)] at ho
        clear ho
        go_wp2_with fail
        go_meet
        exact ⟨A7, n7, c7, vs, rfl, HO.out, kw⟩
  case rest =>
    obtain ⟨A7, n7, c7, vs7, rfl, ho7, k7⟩ := hcut
    obtain ⟨w4, hw4⟩ : ∃ w4 : World, w4 = wc := ⟨_, rfl⟩
    subst hw4
    have kw4 := kw3.trans k7
    have hT4 := hT3.kp k7
    have hT7 := ho7.txs.any
    obtain rfl : n2 = n7 := by have := hT7.len; rw [List.length_map, HL2.out] at this; omega
    have hle7 := hT7.le
    have hc7 := hT7.cap
    unfold maxLen at hc7
    clear ho7 k7 hT3 kw3
    have hnb : ((N : Int) != (s1.size : Int)) = false := by rw [hbz]; simp
    go_wp2_with fail
    refine (HRD.out w4).mono ?_
    rintro e w5 ⟨A5, n5, c5, vs5, rfl, ho5, k5⟩
    have hT5 := ho5.txs.any
    have kw5 := kw4.trans k5
    have hT45 := hT4.kp k5
    have hT75 := hT7.kp k5
    clear ho5 k5 hT4 hT7 kw4
    go_wp2_with fail
    refine (sameTexts_true _ _ _ _ A5 A7 n5 c5 n2 c7 (L.map (·.map fixM)) w5 hT5 hT75).mono ?_
    rintro e w6 ⟨rfl, hd⟩
    have kw6 := kw5.trans hd.kp
    have hT46 := hT45.kp hd.kp
    have hT76 := hT75.kp hd.kp
    clear hd kw5 hT45 hT75 hT5
    subst hbz
    go_upto_block 2 with fail
    clear hcut
    go_cut [11, 12] (fun v11 v12 wx => v11 = .int .i64 ((wholeM L q).2 : Int) ∧ v12 = .int .i64 ((wholeM L q).1 : Int) ∧ Kp w6 wx)
    case first =>
      go_wp2_with fail
      go_loopg [11, 12] n2 (fun g av kv wr => ∃ (k : Nat), k + g = n2 ∧ kv = .int .i64 k ∧ av = .int .i64 ((allM (L.take k)).length : Int) ∧ (allM (L.take k)).length ≤ q ∧ Kp w6 wr)
      case atStart => exact ⟨0, by omega, rfl, rfl, by simp [allM], Kp.refl _⟩
      case round =>
        obtain ⟨k, hk, rfl, rfl, hat, kw⟩ := hrel
        by_cases hlt : k < n2
        · obtain ⟨ad, B, m, d, rfl, hc, hr⟩ := (hT46.kp kw).get hlt
          have hlL : k < L.length := by rw [HL2.out]; exact hlt
          have hts : (allM (L.take (k + 1))).length = (allM (L.take k)).length + (entryM (L[k]?.getD [])).length := by
            rw [List.take_succ_eq_append_getElem hlL, allM_snoc, List.getElem?_eq_getElem hlL, List.length_append]; rfl
          have hx1 : (L[k]?.getD []).length ≤ 20 := by rw [List.getElem?_eq_getElem hlL]; exact HB.out _ (List.getElem_mem hlL)
          have HEN := Lib.hid fun wx (kk : Kp wr wx) => entryR_any Any B m d (L[k]?.getD []) wx (hr.kp kk) (by rw [← hr.len]; omega)
          have hez : (bs (entryM (L[k]?.getD []))).size = (entryM (L[k]?.getD [])).length := bs_size _
          have hel : (entryM (L[k]?.getD [])).length ≤ 100 := by rw [entryM_len]; have := textM_len (L[k]?.getD []); omega
          rw [← hez] at hts hel
          clear hr hx1 hez
          generalize bs (entryM (L[k]?.getD [])) = s2 at *
          obtain ⟨a, ha⟩ : ∃ a, a = (allM (L.take k)).length := ⟨_, rfl⟩
          rw [← ha] at hat hts ⊢
          have HTS := Lib.hid hts
          have HA0 := Lib.hid ha
          clear hts ha
          by_cases hfit : a + s2.size ≤ q
          · have hfi : (a : Int) + (s2.size : Int) ≤ (q : Int) := by omega
            have hcc := hc
            go_wp2_with fail
            refine (HEN.out wr (Kp.refl _)).mono ?_
            rintro e w7 ⟨rfl, k7⟩
            have hc7' := cell_kp3 k7 hc
            go_wp2_with fail
            refine (HEN.out w7 k7).mono ?_
            rintro e w8 ⟨rfl, k8⟩
            go_wp2_with fail
            go_roundg (n2 - (k + 1))
            case measure => omega
            case rel => exact ⟨k + 1, by omega, by go_num, by rw [HTS.out]; go_num, by rw [HTS.out]; exact hfit, kw.trans (k7.trans k8)⟩
          · have hfi : ¬ (a : Int) + (s2.size : Int) ≤ (q : Int) := by omega
            have HW : Hid (wholeM L q = (k, a)) := by
              show _ = _
              have h := whole_at L q k (by omega) (by rw [← HA0.out]; exact hat) (.inr (by rw [HTS.out]; omega))
              rw [h, HA0.out]
            go_wp2_with fail
            refine (HEN.out wr (Kp.refl _)).mono ?_
            rintro e w7 ⟨rfl, k7⟩
            go_wp2_with fail
            go_meet
            rw [HW.out]
            exact ⟨rfl, rfl, kw.trans k7⟩
        · obtain rfl : k = n2 := by omega
          have HW : Hid (wholeM L q = (k, (allM (L.take k)).length)) := whole_at L q k (by rw [HL2.out]; omega) hat (.inl HL2.out.symm)
          go_wp2_with fail
          go_meet
          rw [HW.out]
          exact ⟨rfl, rfl, kw⟩
    case rest =>
      obtain ⟨rfl, rfl, k7⟩ := hcut
      obtain ⟨w7, hw7⟩ : ∃ w7 : World, w7 = wc := ⟨_, rfl⟩
      subst hw7
      have kw7 := kw6.trans k7
      obtain ⟨wl1, wl2, _⟩ := whole_le L q
      obtain ⟨wn, hwn⟩ : ∃ wn, wn = (wholeM L q).1 := ⟨_, rfl⟩
      obtain ⟨wa, hwa⟩ : ∃ wa, wa = (wholeM L q).2 := ⟨_, rfl⟩
      rw [← hwn, ← hwa] at HRD2
      rw [← hwn] at wl1 ⊢
      rw [← hwa] at wl2 ⊢
      rw [HL2.out] at wl1
      clear hwn hwa
      have hT77 := (hT76.kp k7).take (k := wn) (by omega)
      have hqi : (q : Int) ≤ (s1.size : Int) := by omega
      have hwi : (wn : Int) ≤ (n2 : Int) := by omega
      have hwc : (wn : Int) ≤ (c7 : Int) := by omega
      go_wp2_with fail
      refine (HRD2.out w7).mono ?_
      rintro e w8 ⟨A8, n8, c8, vs8, rfl, ho8, k8⟩
      have hT8 := ho8.txs.any
      have kw8 := kw7.trans k8
      have hT78 := hT77.kp k8
      clear ho8 k8 hT77
      go_wp2_with fail
      refine (sameTexts_true _ _ _ _ A8 A7 n8 c8 wn c7 _ w8 hT8 hT78).mono ?_
      rintro e w9 ⟨rfl, hd⟩
      have hwe : ((wa : Int) == (wa : Int)) = true := by simp
      have kw9 := kw8.trans hd.kp
      go_wp2_with fail
      refine (awake47 w9).mono ?_
      rintro e w10 ⟨rfl, k10⟩
      go_wp2_with fail
      go_ret
      exact ⟨rfl, kw9.trans k10⟩
/-- As the frame asks it. -/
theorem storeTears_walk {w0 : World} (A : Option Addr) (n c : Nat) (L : List (List Int)) (hT : Txs w0 Any Any A n c L) (_ : ∀ l ∈ L, ∀ y ∈ l, (Lit.int .i32 y).wf = true)
    (x : Int) (_ : (Lit.int .i64 x).wf = true) (w : World) (hw : w = w0 := by rfl) :
    Calls Try.prog 11 #[.slice A n c, .int .i64 x] w fun e w' => e = .returned (.bool true) ∧ Kp w w' := by
  subst hw
  exact storeTears_walk' A n c L x w hT
end Go.Proofs.Ytcbachblhfkcoaa
