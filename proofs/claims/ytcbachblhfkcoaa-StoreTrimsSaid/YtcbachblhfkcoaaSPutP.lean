/-
  package utf: Put: a scalar's bytes. No conditions but that of its type.
-/
import Derived.Test.YtcbachblhfkcoaaSPutV
import Derived.Deep.LoopGhost
import Derived.Deep.OwnRows
import Derived.Deep.DeepCutAuto
namespace Go.Proofs.Ytcbachblhfkcoaa
open Go.RowKit

theorem or_192 (x : Int) (h0 : 0 ≤ x) (h1 : x < 32) : bits .or .u8 192 x = 192 + x := by
  obtain ⟨k, rfl⟩ := Int.eq_ofNat_of_zero_le h0
  have h : ∀ k : Fin 32, bits .or .u8 192 ((k.val : Nat) : Int) = 192 + ((k.val : Nat) : Int) := by decide +kernel
  exact h ⟨k, by omega⟩
theorem or_224 (x : Int) (h0 : 0 ≤ x) (h1 : x < 16) : bits .or .u8 224 x = 224 + x := by
  obtain ⟨k, rfl⟩ := Int.eq_ofNat_of_zero_le h0
  have h : ∀ k : Fin 16, bits .or .u8 224 ((k.val : Nat) : Int) = 224 + ((k.val : Nat) : Int) := by decide +kernel
  exact h ⟨k, by omega⟩
theorem or_240 (x : Int) (h0 : 0 ≤ x) (h1 : x < 8) : bits .or .u8 240 x = 240 + x := by
  obtain ⟨k, rfl⟩ := Int.eq_ofNat_of_zero_le h0
  have h : ∀ k : Fin 8, bits .or .u8 240 ((k.val : Nat) : Int) = 240 + ((k.val : Nat) : Int) := by decide +kernel
  exact h ⟨k, by omega⟩
theorem or_128 (x : Int) (h0 : 0 ≤ x) (h1 : x < 64) : bits .or .i32 128 x = 128 + x := by
  obtain ⟨k, rfl⟩ := Int.eq_ofNat_of_zero_le h0
  have h : ∀ k : Fin 64, bits .or .i32 128 ((k.val : Nat) : Int) = 128 + ((k.val : Nat) : Int) := by decide +kernel
  exact h ⟨k, by omega⟩
theorem and_mask32 (x : Int) (h0 : 0 ≤ x) (h1 : x < 2147483648) : bits .and .i32 x 63 = x % 64 := by
  obtain ⟨n, rfl⟩ := Int.eq_ofNat_of_zero_le h0
  have e3 : bits .and .i32 (n : Int) 63 = IntKind.i32.wrap (((BitVec.ofInt 32 (n : Int)) &&& (BitVec.ofInt 32 63)).toNat : Int) := rfl
  have e2 : ((BitVec.ofInt 32 (n : Int)) &&& (BitVec.ofInt 32 63)).toNat = n % 64 := by
    rw [BitVec.toNat_and]
    have a1 : (BitVec.ofInt 32 (n : Int)).toNat = n := by rw [BitVec.toNat_ofInt]; omega
    have a2 : (BitVec.ofInt 32 63).toNat = 2 ^ 6 - 1 := by rfl
    rw [a1, a2, Nat.and_two_pow_sub_one_eq_mod]
  rw [e3, e2]
  have := Nat.mod_lt n (show 0 < 64 by omega)
  have h : IntKind.i32.wrap ((n % 64 : Nat) : Int) = ((n % 64 : Nat) : Int) := by
    rw [IntWalk.i32_in _ (by omega)]
  rw [h]
  omega

theorem Sl.of_bx8 {w : World} {b : Nat} {cs : Array Value} {t : TypeId} (h : Bx w b cs t) (n : Nat) (hs : cs.size = n) (hn : n ≤ 1099511627776) : Sl w Any 1 (some ⟨b, 0, none⟩) n n cs.toList :=
  ⟨Nat.le_refl _, by unfold maxLen; omega, by simp [hs], fun _ => ⟨⟨b, 0, none⟩, rfl, trivial, h.lt, fun j u hu => by
    have e : (⟨b, 0, none⟩ : Addr).add j = ⟨b, j, none⟩ := by unfold Addr.add; split <;> simp_all
    rw [e, h.cell j]; simpa using hu⟩⟩
theorem infoU8 : (Try.prog.info? 5).map (fun i => (i.zero, i.size, i.bytes)) = some (some (.int .u8 0), 1, 1) := by kernel_rfl

set_option maxRecDepth 100000 in
set_option maxHeartbeats 1600000 in
theorem put_any (r : Int) (w : World) : Calls Try.prog 72 #[.int .i32 r] w fun e w' => e = .returned (.string (bs (putM r))) ∧ Kp w w' := by
  obtain ⟨m, hm⟩ : ∃ m, m = fixM r := ⟨_, rfl⟩
  have HM := Lib.hid hm
  have hmv : validB m = true := by rw [hm]; exact fixM_valid r
  clear hm
  go_enter Try.func72, Try.ntmps72
  go_wp2_with fail
  refine (valid_any r w).mono ?_
  rintro e w' ⟨rfl, rfl⟩
  go_upto_if 9 with fail
  go_cut [0] (fun v wx => v = .int .i32 m ∧ wx = w)
  case first =>
    cases hb : validB r with
    | false =>
      have hm2 : Hid (m = 65533) := by show _ = _; rw [HM.out]; unfold fixM; rw [hb]; rfl
      clear hb
      go_wp2_with fail
      go_meet
      exact ⟨by rw [hm2.out], rfl⟩
    | true =>
      have hm2 : Hid (m = r) := by show _ = _; rw [HM.out]; unfold fixM; rw [hb]; rfl
      clear hb
      go_wp2_with fail
      go_meet
      exact ⟨by rw [hm2.out], rfl⟩
  case rest =>
    obtain ⟨rfl, rfl⟩ := hcut
    have hrg := (validB_iff m).1 hmv
    have HP : Hid (putM r = putI m) := by show _ = _; rw [HM.out]; rfl
    obtain ⟨s1, s2, s3, s4⟩ := sizeM_yes hmv
    go_wp2_with fail
    refine (size_any m _).mono ?_
    rintro e w' ⟨rfl, rfl⟩
    by_cases h1 : m < 128
    · rw [s1 h1]
      clear s1 s2 s3 s4
      have HP2 : Hid (putM r = [m]) := by show _ = _; rw [HP.out]; unfold putI; rw [if_pos h1]
      have g0 : 0 ≤ m := by omega
      clear hrg
      have hcv := conv_sl (P := Try.prog) (wc.alloc (.cells #[.int .u8 m] 5)) 61 9 5 Try.underlying61 Try.underlying5 Try.underlying9 (l := [m])
        (Sl.new (F := Any) wc #[.int .u8 m] 5 1 1 trivial rfl (by omega)) (by intro b hb; simp at hb; omega)
      go_wp2_with fail
      go_ret
      exact ⟨by rw [HP2.out]; rfl, (Kp.refl wc).alloc _⟩
    · by_cases h2 : m < 2048
      · rw [s2 (by omega) h2]
        clear s1 s2 s3 s4
        have HP2 : Hid (putM r = [192 + m / 64, 128 + m % 64]) := by
          show _ = _
          rw [HP.out]; unfold putI; rw [if_neg h1, if_pos h2]
        have hmk : (Instr.makeSlice 61 (.int .i64 2) (.int .i64 2)).run Try.prog wc = .ok (.slice (some ⟨wc.heap.size, 0, none⟩) 2 2) (wc.alloc (.cells #[.int .u8 0, .int .u8 0] 5)) := by
          have h := run_make_row' (P := Try.prog) 61 5 (.int .u8 0) 1 Try.underlying61 infoU8 rfl .i64 .i64 2 (by omega) (by omega) wc
          rw [show madeCells #[Value.int .u8 0] 2 = #[.int .u8 0, .int .u8 0] from by kernel_rfl] at h
          exact h
        have g0 : 0 ≤ m := by omega
        have e0 : bits .and .i32 (m) 63 = m % 64 := and_mask32 _ (by omega) (by omega)
        have f0 : bits .or .i32 128 (m % 64) = 128 + m % 64 := or_128 _ (by omega) (by omega)
        have a0 : 0 ≤ m % 64 := by omega
        have b0 : m % 64 < 64 := by omega
        have g1 : 0 ≤ m / 64 := by omega
        have hlast : m / 64 < 32 := by omega
        have fl : bits .or .u8 192 (m / 64) = 192 + m / 64 := or_192 _ g1 hlast
        have hm32 : m ≤ 1114111 := by omega
        clear hrg
        go_upto_region 7 with fail
        clear hmk
        have ka := (Kp.refl wc).alloc (.cells #[.int .u8 0, .int .u8 0] 5)
        have bx := Bx.new wc #[.int .u8 0, .int .u8 0] 5
        generalize (wc.alloc (.cells #[.int .u8 0, .int .u8 0] 5)) = w1 at *
        go_wp2_with fail
        go_loopg [0, 5] 2 (fun gk v0 v5 wr => Kp wc wr ∧ ((gk = 2 ∧ v0 = .int .i32 (m) ∧ v5 = .int .i64 1 ∧ Bx wr wc.heap.size #[.int .u8 0, .int .u8 0] 5) ∨ (gk = 1 ∧ v0 = .int .i32 (m / 64) ∧ v5 = .int .i64 0 ∧ Bx wr wc.heap.size #[.int .u8 0, .int .u8 (128 + m % 64)] 5)))
        case atStart => exact ⟨ka, .inl ⟨rfl, rfl, rfl, bx⟩⟩
        case round =>
          clear bx ka
          obtain ⟨kw, hr⟩ := hrel
          rcases hr with ⟨rfl, rfl, rfl, bx⟩ | ⟨rfl, rfl, rfl, bx⟩
          · have p0 := bx.cell 1
            have p1 := bx.frozen 1
            go_wp2_with fail
            go_roundg 1
            case measure => omega
            case rel => exact ⟨kw.setCell (p := ⟨wc.heap.size, 1, none⟩) (Nat.le_refl _) _, .inr (⟨rfl, rfl, rfl, bx.set 1 _⟩)⟩
          · have p0 := bx.cell 0
            have p1 := bx.frozen 0
            have bx2 := bx.set 0 (.int .u8 (192 + m / 64))
            have hcv := conv_sl (P := Try.prog) (wr.setCell ⟨wc.heap.size, 0, none⟩ (.int .u8 (192 + m / 64))) 61 9 5 Try.underlying61 Try.underlying5 Try.underlying9 (A := some ⟨wc.heap.size, 0, none⟩) (n := 2) (c := 2) (l := [192 + m / 64, 128 + m % 64])
              (Sl.of_bx8 bx2 2 rfl (by omega)) (by intro b hb; simp at hb; omega)
            go_wp2_with fail
            go_ret
            exact ⟨by rw [HP2.out]; rfl, kw.setCell (p := ⟨wc.heap.size, 0, none⟩) (Nat.le_refl _) _⟩
      · by_cases h3 : m < 65536
        · rw [s3 (by omega) h3]
          clear s1 s2 s3 s4
          have HP2 : Hid (putM r = [224 + m / 64 / 64, 128 + m / 64 % 64, 128 + m % 64]) := by
            show _ = _
            rw [HP.out]; unfold putI; rw [if_neg h1, if_neg h2, if_pos h3]
            congr 1
            · omega
          have hmk : (Instr.makeSlice 61 (.int .i64 3) (.int .i64 3)).run Try.prog wc = .ok (.slice (some ⟨wc.heap.size, 0, none⟩) 3 3) (wc.alloc (.cells #[.int .u8 0, .int .u8 0, .int .u8 0] 5)) := by
            have h := run_make_row' (P := Try.prog) 61 5 (.int .u8 0) 1 Try.underlying61 infoU8 rfl .i64 .i64 3 (by omega) (by omega) wc
            rw [show madeCells #[Value.int .u8 0] 3 = #[.int .u8 0, .int .u8 0, .int .u8 0] from by kernel_rfl] at h
            exact h
          have g0 : 0 ≤ m := by omega
          have e0 : bits .and .i32 (m) 63 = m % 64 := and_mask32 _ (by omega) (by omega)
          have f0 : bits .or .i32 128 (m % 64) = 128 + m % 64 := or_128 _ (by omega) (by omega)
          have a0 : 0 ≤ m % 64 := by omega
          have b0 : m % 64 < 64 := by omega
          have g1 : 0 ≤ m / 64 := by omega
          have e1 : bits .and .i32 (m / 64) 63 = m / 64 % 64 := and_mask32 _ (by omega) (by omega)
          have f1 : bits .or .i32 128 (m / 64 % 64) = 128 + m / 64 % 64 := or_128 _ (by omega) (by omega)
          have a1 : 0 ≤ m / 64 % 64 := by omega
          have b1 : m / 64 % 64 < 64 := by omega
          have g2 : 0 ≤ m / 64 / 64 := by omega
          have hlast : m / 64 / 64 < 16 := by omega
          have fl : bits .or .u8 224 (m / 64 / 64) = 224 + m / 64 / 64 := or_224 _ g2 hlast
          have hm32 : m ≤ 1114111 := by omega
          clear hrg
          go_upto_region 7 with fail
          clear hmk
          have ka := (Kp.refl wc).alloc (.cells #[.int .u8 0, .int .u8 0, .int .u8 0] 5)
          have bx := Bx.new wc #[.int .u8 0, .int .u8 0, .int .u8 0] 5
          generalize (wc.alloc (.cells #[.int .u8 0, .int .u8 0, .int .u8 0] 5)) = w1 at *
          go_wp2_with fail
          go_loopg [0, 5] 3 (fun gk v0 v5 wr => Kp wc wr ∧ ((gk = 3 ∧ v0 = .int .i32 (m) ∧ v5 = .int .i64 2 ∧ Bx wr wc.heap.size #[.int .u8 0, .int .u8 0, .int .u8 0] 5) ∨ (gk = 2 ∧ v0 = .int .i32 (m / 64) ∧ v5 = .int .i64 1 ∧ Bx wr wc.heap.size #[.int .u8 0, .int .u8 0, .int .u8 (128 + m % 64)] 5) ∨ (gk = 1 ∧ v0 = .int .i32 (m / 64 / 64) ∧ v5 = .int .i64 0 ∧ Bx wr wc.heap.size #[.int .u8 0, .int .u8 (128 + m / 64 % 64), .int .u8 (128 + m % 64)] 5)))
          case atStart => exact ⟨ka, .inl ⟨rfl, rfl, rfl, bx⟩⟩
          case round =>
            clear bx ka
            obtain ⟨kw, hr⟩ := hrel
            rcases hr with ⟨rfl, rfl, rfl, bx⟩ | ⟨rfl, rfl, rfl, bx⟩ | ⟨rfl, rfl, rfl, bx⟩
            · have p0 := bx.cell 2
              have p1 := bx.frozen 2
              go_wp2_with fail
              go_roundg 2
              case measure => omega
              case rel => exact ⟨kw.setCell (p := ⟨wc.heap.size, 2, none⟩) (Nat.le_refl _) _, .inr (.inl ⟨rfl, rfl, rfl, bx.set 2 _⟩)⟩
            · have p0 := bx.cell 1
              have p1 := bx.frozen 1
              go_wp2_with fail
              go_roundg 1
              case measure => omega
              case rel => exact ⟨kw.setCell (p := ⟨wc.heap.size, 1, none⟩) (Nat.le_refl _) _, .inr (.inr (⟨rfl, rfl, rfl, bx.set 1 _⟩))⟩
            · have p0 := bx.cell 0
              have p1 := bx.frozen 0
              have bx2 := bx.set 0 (.int .u8 (224 + m / 64 / 64))
              have hcv := conv_sl (P := Try.prog) (wr.setCell ⟨wc.heap.size, 0, none⟩ (.int .u8 (224 + m / 64 / 64))) 61 9 5 Try.underlying61 Try.underlying5 Try.underlying9 (A := some ⟨wc.heap.size, 0, none⟩) (n := 3) (c := 3) (l := [224 + m / 64 / 64, 128 + m / 64 % 64, 128 + m % 64])
                (Sl.of_bx8 bx2 3 rfl (by omega)) (by intro b hb; simp at hb; omega)
              go_wp2_with fail
              go_ret
              exact ⟨by rw [HP2.out]; rfl, kw.setCell (p := ⟨wc.heap.size, 0, none⟩) (Nat.le_refl _) _⟩
        · rw [s4 (by omega)]
          clear s1 s2 s3 s4
          have HP2 : Hid (putM r = [240 + m / 64 / 64 / 64, 128 + m / 64 / 64 % 64, 128 + m / 64 % 64, 128 + m % 64]) := by
            show _ = _
            rw [HP.out]; unfold putI; rw [if_neg h1, if_neg h2, if_neg h3]
            congr 1
            · omega
            · congr 1
              omega
          have hmk : (Instr.makeSlice 61 (.int .i64 4) (.int .i64 4)).run Try.prog wc = .ok (.slice (some ⟨wc.heap.size, 0, none⟩) 4 4) (wc.alloc (.cells #[.int .u8 0, .int .u8 0, .int .u8 0, .int .u8 0] 5)) := by
            have h := run_make_row' (P := Try.prog) 61 5 (.int .u8 0) 1 Try.underlying61 infoU8 rfl .i64 .i64 4 (by omega) (by omega) wc
            rw [show madeCells #[Value.int .u8 0] 4 = #[.int .u8 0, .int .u8 0, .int .u8 0, .int .u8 0] from by kernel_rfl] at h
            exact h
          have g0 : 0 ≤ m := by omega
          have e0 : bits .and .i32 (m) 63 = m % 64 := and_mask32 _ (by omega) (by omega)
          have f0 : bits .or .i32 128 (m % 64) = 128 + m % 64 := or_128 _ (by omega) (by omega)
          have a0 : 0 ≤ m % 64 := by omega
          have b0 : m % 64 < 64 := by omega
          have g1 : 0 ≤ m / 64 := by omega
          have e1 : bits .and .i32 (m / 64) 63 = m / 64 % 64 := and_mask32 _ (by omega) (by omega)
          have f1 : bits .or .i32 128 (m / 64 % 64) = 128 + m / 64 % 64 := or_128 _ (by omega) (by omega)
          have a1 : 0 ≤ m / 64 % 64 := by omega
          have b1 : m / 64 % 64 < 64 := by omega
          have g2 : 0 ≤ m / 64 / 64 := by omega
          have e2 : bits .and .i32 (m / 64 / 64) 63 = m / 64 / 64 % 64 := and_mask32 _ (by omega) (by omega)
          have f2 : bits .or .i32 128 (m / 64 / 64 % 64) = 128 + m / 64 / 64 % 64 := or_128 _ (by omega) (by omega)
          have a2 : 0 ≤ m / 64 / 64 % 64 := by omega
          have b2 : m / 64 / 64 % 64 < 64 := by omega
          have g3 : 0 ≤ m / 64 / 64 / 64 := by omega
          have hlast : m / 64 / 64 / 64 < 8 := by omega
          have fl : bits .or .u8 240 (m / 64 / 64 / 64) = 240 + m / 64 / 64 / 64 := or_240 _ g3 hlast
          have hm32 : m ≤ 1114111 := by omega
          clear hrg
          go_upto_region 7 with fail
          clear hmk
          have ka := (Kp.refl wc).alloc (.cells #[.int .u8 0, .int .u8 0, .int .u8 0, .int .u8 0] 5)
          have bx := Bx.new wc #[.int .u8 0, .int .u8 0, .int .u8 0, .int .u8 0] 5
          generalize (wc.alloc (.cells #[.int .u8 0, .int .u8 0, .int .u8 0, .int .u8 0] 5)) = w1 at *
          go_wp2_with fail
          go_loopg [0, 5] 4 (fun gk v0 v5 wr => Kp wc wr ∧ ((gk = 4 ∧ v0 = .int .i32 (m) ∧ v5 = .int .i64 3 ∧ Bx wr wc.heap.size #[.int .u8 0, .int .u8 0, .int .u8 0, .int .u8 0] 5) ∨ (gk = 3 ∧ v0 = .int .i32 (m / 64) ∧ v5 = .int .i64 2 ∧ Bx wr wc.heap.size #[.int .u8 0, .int .u8 0, .int .u8 0, .int .u8 (128 + m % 64)] 5) ∨ (gk = 2 ∧ v0 = .int .i32 (m / 64 / 64) ∧ v5 = .int .i64 1 ∧ Bx wr wc.heap.size #[.int .u8 0, .int .u8 0, .int .u8 (128 + m / 64 % 64), .int .u8 (128 + m % 64)] 5) ∨ (gk = 1 ∧ v0 = .int .i32 (m / 64 / 64 / 64) ∧ v5 = .int .i64 0 ∧ Bx wr wc.heap.size #[.int .u8 0, .int .u8 (128 + m / 64 / 64 % 64), .int .u8 (128 + m / 64 % 64), .int .u8 (128 + m % 64)] 5)))
          case atStart => exact ⟨ka, .inl ⟨rfl, rfl, rfl, bx⟩⟩
          case round =>
            clear bx ka
            obtain ⟨kw, hr⟩ := hrel
            rcases hr with ⟨rfl, rfl, rfl, bx⟩ | ⟨rfl, rfl, rfl, bx⟩ | ⟨rfl, rfl, rfl, bx⟩ | ⟨rfl, rfl, rfl, bx⟩
            · have p0 := bx.cell 3
              have p1 := bx.frozen 3
              go_wp2_with fail
              go_roundg 3
              case measure => omega
              case rel => exact ⟨kw.setCell (p := ⟨wc.heap.size, 3, none⟩) (Nat.le_refl _) _, .inr (.inl ⟨rfl, rfl, rfl, bx.set 3 _⟩)⟩
            · have p0 := bx.cell 2
              have p1 := bx.frozen 2
              go_wp2_with fail
              go_roundg 2
              case measure => omega
              case rel => exact ⟨kw.setCell (p := ⟨wc.heap.size, 2, none⟩) (Nat.le_refl _) _, .inr (.inr (.inl ⟨rfl, rfl, rfl, bx.set 2 _⟩))⟩
            · have p0 := bx.cell 1
              have p1 := bx.frozen 1
              go_wp2_with fail
              go_roundg 1
              case measure => omega
              case rel => exact ⟨kw.setCell (p := ⟨wc.heap.size, 1, none⟩) (Nat.le_refl _) _, .inr (.inr (.inr (⟨rfl, rfl, rfl, bx.set 1 _⟩)))⟩
            · have p0 := bx.cell 0
              have p1 := bx.frozen 0
              have bx2 := bx.set 0 (.int .u8 (240 + m / 64 / 64 / 64))
              have hcv := conv_sl (P := Try.prog) (wr.setCell ⟨wc.heap.size, 0, none⟩ (.int .u8 (240 + m / 64 / 64 / 64))) 61 9 5 Try.underlying61 Try.underlying5 Try.underlying9 (A := some ⟨wc.heap.size, 0, none⟩) (n := 4) (c := 4) (l := [240 + m / 64 / 64 / 64, 128 + m / 64 / 64 % 64, 128 + m / 64 % 64, 128 + m % 64])
                (Sl.of_bx8 bx2 4 rfl (by omega)) (by intro b hb; simp at hb; omega)
              go_wp2_with fail
              go_ret
              exact ⟨by rw [HP2.out]; rfl, kw.setCell (p := ⟨wc.heap.size, 0, none⟩) (Nat.le_refl _) _⟩
end Go.Proofs.Ytcbachblhfkcoaa
