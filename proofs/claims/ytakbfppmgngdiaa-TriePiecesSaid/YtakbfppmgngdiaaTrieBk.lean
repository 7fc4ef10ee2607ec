/-
  TrieBlocks: the document's Blocks, plain law and walk. Conditions: the arguments can be read.
-/
import Derived.Test.YtakbfppmgngdiaaTrieGt
namespace Go.Proofs.Ytakbfppmgngdiaa
open Go.RowKit

/-- Are blocks a and b of f the same? -/
def sameM (f : Int → Int) (a b : Nat) : Bool := (List.range 128).all fun i => decide (f ((128 * a + i : Nat) : Int) = f ((128 * b + i : Nat) : Int))
theorem sameM_all (f : Int → Int) (a b : Nat) : sameM f a b = true ↔ ∀ i, i < 128 → f ((128 * a + i : Nat) : Int) = f ((128 * b + i : Nat) : Int) := by
  unfold sameM
  rw [List.all_eq_true]
  constructor
  · intro h i hi
    exact of_decide_eq_true (h i (List.mem_range.2 hi))
  · intro h i hi
    exact decide_eq_true (h i (List.mem_range.1 hi))
/-- Is block a none of the ones ahead? -/
def firstM (f : Int → Int) (a b : Nat) : Bool := (List.range b).all fun q => !sameM f a q
theorem firstM_succ (f : Int → Int) (a b : Nat) : firstM f a (b + 1) = (firstM f a b && !sameM f a b) := by simp [firstM, List.range_succ, List.all_append]
theorem firstM_no (f : Int → Int) (a b : Nat) : firstM f a b = false ↔ ∃ q, q < b ∧ sameM f a q = true := by
  unfold firstM
  rw [List.all_eq_false]
  constructor
  · rintro ⟨q, hq, h⟩
    exact ⟨q, List.mem_range.1 hq, by simpa using h⟩
  · rintro ⟨q, hq, h⟩
    exact ⟨q, List.mem_range.2 hq, by simpa using h⟩
/-- How many of the first a blocks are there, each once. -/
def countM (f : Int → Int) : Nat → Nat
  | 0 => 0
  | a + 1 => countM f a + if firstM f a a then 1 else 0

theorem sameM_iff (f : Int → Int) (size : Int) (a b : Nat) (ha : 128 * (a : Int) + 128 ≤ size) (hb : 128 * (b : Int) + 128 ≤ size) : sameM f a b = true ↔ blockM f size a = blockM f size b := by
  rw [sameM_all]
  unfold blockM
  constructor
  · intro h
    apply List.map_congr_left
    intro r hr
    have hr' := List.mem_range.1 hr
    have := h r hr'
    rw [show min (((128 * a + r : Nat) : Int)) (size - 1) = ((128 * a + r : Nat) : Int) by omega, show min (((128 * b + r : Nat) : Int)) (size - 1) = ((128 * b + r : Nat) : Int) by omega]
    exact this
  · intro h i hi
    have h1 := congrArg (fun l => l[i]?) h
    simp only [List.getElem?_map, List.getElem?_range hi, Option.map_some, Option.some.injEq] at h1
    rw [show min (((128 * a + i : Nat) : Int)) (size - 1) = ((128 * a + i : Nat) : Int) by omega, show min (((128 * b + i : Nat) : Int)) (size - 1) = ((128 * b + i : Nat) : Int) by omega] at h1
    exact h1

theorem countM_blocks (f : Int → Int) (size : Int) : ∀ a : Nat, 128 * (a : Int) ≤ size → (blocksM f size a).length = countM f a
  | 0, _ => rfl
  | a + 1, h => by
    have ih := countM_blocks f size a (by omega)
    unfold blocksM countM addB
    have hiff : blockM f size a ∈ blocksM f size a ↔ firstM f a a = false := by
      rw [mem_blocksM, firstM_no]
      constructor
      · rintro ⟨q, hq, e⟩
        exact ⟨q, hq, (sameM_iff f size a q (by omega) (by omega)).2 e⟩
      · rintro ⟨q, hq, e⟩
        exact ⟨q, hq, (sameM_iff f size a q (by omega) (by omega)).1 e⟩
    by_cases hin : blockM f size a ∈ blocksM f size a
    · rw [if_pos hin, ih, hiff.1 hin]; rfl
    · rw [if_neg hin]
      have : firstM f a a = true := by
        cases hf : firstM f a a with
        | true => rfl
        | false => exact absurd (hiff.2 hf) hin
      rw [this, List.length_append, ih]; rfl

set_option maxRecDepth 100000 in
set_option maxHeartbeats 3200000 in
theorem refSame (A : Option Addr) (n c : Nat) (l : List (Pc Int)) (z size : Int) (a b : Nat) (w : World) (hP : Pcs (Value.int .i64) w A n c l) (hn : n ≤ 1099511627776) (ha : 128 * (a : Int) + 128 ≤ size) (hb : 128 * (b : Int) + 128 ≤ size) (hs : size ≤ 1024) :
    Calls Try.prog 59 #[.slice A n c, .int .i64 z, .int .i64 size, .int .i64 (a : Int), .int .i64 (b : Int)] w fun e w' => e = .returned (.bool (sameM (getM l z) a b)) ∧ Kp w w' := by
  have HG : ∀ (wx : World) (i : Int), Kp w wx → Calls Try.prog 42 #[.slice A n c, .int .i64 z, .int .i64 i] wx fun e w' => e = .returned (.int .i64 (getM l z i)) ∧ Kp wx w' := fun wx i k => refGet A n c l z i wx (hP.kp k) hn
  obtain ⟨f, hf⟩ : ∃ f, f = getM l z := ⟨_, rfl⟩
  rw [← hf] at HG ⊢
  have HG' := Lib.hid HG
  obtain ⟨kb, hkb⟩ : ∃ kb, kb = sameM f a b := ⟨_, rfl⟩
  rw [← hkb]
  have HKB := Lib.hid hkb
  clear HG hf hkb hP
  have w1 : IntKind.i64.wrap (128 * (a : Int)) = 128 * (a : Int) := wrapS (by omega) (by omega)
  have w2 : IntKind.i64.wrap (128 * (b : Int)) = 128 * (b : Int) := wrapS (by omega) (by omega)
  go_enter Try.func59, Try.ntmps59
  go_wp2_with fail
  go_loopg [11] 128 (fun g iv wr => ∃ (k : Nat), k + g = 128 ∧ iv = .int .i64 k ∧ Hid (∀ i, i < k → f ((128 * a + i : Nat) : Int) = f ((128 * b + i : Nat) : Int)) ∧ Kp w wr)
  case atStart => exact ⟨0, by omega, rfl, fun i hi => absurd hi (by omega), Kp.refl _⟩
  case round =>
    obtain ⟨k, hk, rfl, hall, kp⟩ := hrel
    by_cases hlt : k < 128
    · have w3 : IntKind.i64.wrap (128 * (a : Int) + (k : Int)) = 128 * (a : Int) + (k : Int) := wrapS (by omega) (by omega)
      have w4 : IntKind.i64.wrap (128 * (b : Int) + (k : Int)) = 128 * (b : Int) + (k : Int) := wrapS (by omega) (by omega)
      have hlt' : (k : Int) < 128 := by omega
      have w3 : IntKind.i64.wrap (128 * (a : Int) + (k : Int)) = 128 * (a : Int) + (k : Int) := wrapS (by omega) (by omega)
      have w4 : IntKind.i64.wrap (128 * (b : Int) + (k : Int)) = 128 * (b : Int) + (k : Int) := wrapS (by omega) (by omega)
      have t1 : 128 * (a : Int) + (k : Int) < size := by omega
      have t2 : 128 * (b : Int) + (k : Int) < size := by omega
      have EA := Lib.hid (show ((128 * a + k : Nat) : Int) = 128 * (a : Int) + (k : Int) by omega)
      have EB := Lib.hid (show ((128 * b + k : Nat) : Int) = 128 * (b : Int) + (k : Int) by omega)
      have GA := Lib.hid (HG'.out wr (128 * (a : Int) + (k : Int)) kp)
      have GB := Lib.hid fun wx (k' : Kp wr wx) => HG'.out wx (128 * (b : Int) + (k : Int)) (kp.trans k')
      obtain ⟨ya, hya⟩ : ∃ ya, ya = f (128 * (a : Int) + (k : Int)) := ⟨_, rfl⟩
      obtain ⟨yb, hyb⟩ : ∃ yb, yb = f (128 * (b : Int) + (k : Int)) := ⟨_, rfl⟩
      rw [← hya] at GA
      rw [← hyb] at GB
      have HYA := Lib.hid hya
      have HYB := Lib.hid hyb
      clear hya hyb
      by_cases he : ya = yb
      · have hnx : Hid (∀ i, i < k + 1 → f ((128 * a + i : Nat) : Int) = f ((128 * b + i : Nat) : Int)) := fun i hi => by
          by_cases h : i = k
          · subst h; rw [EA.out, EB.out, ← HYA.out, ← HYB.out, he]
          · exact hall.out i (by omega)
        clear hall
        subst he
        go_wp2_with (first
          | (go_at_call 42; refine GA.out.mono ?_; rintro e w4 ⟨rfl, k4⟩; clear GA)
          | (go_at_call 42; refine (GB.out _ k4).mono ?_; rintro e w5 ⟨rfl, k5⟩))
        go_roundg (128 - (k + 1))
        case measure => omega
        case rel => exact ⟨k + 1, by omega, by go_num, hnx, (kp.trans k4).trans k5⟩
      · have hkf : kb = false := by
          rw [HKB.out]
          cases h : sameM f a b with
          | false => rfl
          | true => exact absurd ((sameM_all f a b).1 h k hlt) (by rw [EA.out, EB.out, ← HYA.out, ← HYB.out]; exact he)
        have he' : (ya != yb) = true := by rw [bne_iff_ne]; exact he
        have HKF := Lib.hid hkf
        clear he hkf
        go_wp2_with (first
          | (go_at_call 42; refine GA.out.mono ?_; rintro e w4 ⟨rfl, k4⟩; clear GA)
          | (go_at_call 42; refine (GB.out _ k4).mono ?_; rintro e w5 ⟨rfl, k5⟩))
        go_ret
        rw [HKF.out]
        exact ⟨rfl, (kp.trans k4).trans k5⟩
    · have hkt : kb = true := by
        rw [HKB.out]
        exact (sameM_all f a b).2 fun i hi => hall.out i (by omega)
      have HKF := Lib.hid hkt
      clear hkt
      go_wp2_with fail
      go_ret
      rw [HKF.out]
      exact ⟨rfl, kp⟩

set_option maxRecDepth 100000 in
set_option maxHeartbeats 1600000 in
theorem refBlocks (A : Option Addr) (n c : Nat) (l : List (Pc Int)) (z : Int) (N : Nat) (w : World) (hP : Pcs (Value.int .i64) w A n c l) (hn : n ≤ 1099511627776) (hN : N ≤ 7) :
    Calls Try.prog 46 #[.slice A n c, .int .i64 z, .int .i64 (128 * (N : Int))] w fun e w' => e = .returned (.int .i64 (countM (getM l z) N : Int)) ∧ Kp w w' := by
  have HS : ∀ (wx : World) (a b : Nat), Kp w wx → a < N → b < a → Calls Try.prog 59 #[.slice A n c, .int .i64 z, .int .i64 (128 * (N : Int)), .int .i64 (a : Int), .int .i64 (b : Int)] wx fun e w' => e = .returned (.bool (sameM (getM l z) a b)) ∧ Kp wx w' :=
    fun wx a b k h1 h2 => refSame A n c l z (128 * (N : Int)) a b wx (hP.kp k) hn (by omega) (by omega) (by omega)
  obtain ⟨f, hf⟩ : ∃ f, f = getM l z := ⟨_, rfl⟩
  rw [← hf] at HS ⊢
  obtain ⟨size, hsz⟩ : ∃ size : Int, size = 128 * (N : Int) := ⟨_, rfl⟩
  rw [← hsz] at HS ⊢
  have HS' := Lib.hid HS
  have HSZ := Lib.hid hsz
  clear HS hf hP hsz
  go_enter Try.func46, Try.ntmps46
  go_wp2_with fail
  go_loopg [7, 8] N (fun g nv av wr => ∃ (a : Nat), a + g = N ∧ av = .int .i64 a ∧ nv = .int .i64 (countM f a : Int) ∧ Hid (countM f a ≤ a) ∧ Kp w wr)
  case atStart => exact ⟨0, by omega, rfl, rfl, Nat.le_refl 0, Kp.refl _⟩
  case round =>
    obtain ⟨a, ha, rfl, rfl, hca, kp⟩ := hrel
    obtain ⟨ca, hcae⟩ : ∃ ca, ca = countM f a := ⟨_, rfl⟩
    rw [← hcae] at hca ⊢
    have HCA := Lib.hid hcae
    clear hcae
    obtain ⟨t, ht⟩ : ∃ t : Int, t = 128 * (a : Int) := ⟨_, rfl⟩
    have w1 : IntKind.i64.wrap (128 * (a : Int)) = t := by rw [wrapS (by omega) (by omega), ht]
    have w2 : IntKind.i64.wrap (t + 128) = t + 128 := wrapS (by omega) (by omega)
    by_cases hlt : a < N
    · have t1 : t + 128 ≤ size := by have := HSZ.out; omega
      have HT := Lib.hid ht
      clear ht
      go_wp2_with fail
      go_loopg [9, 10] a (fun g fv bv wr2 => ∃ (b : Nat), b + g = a ∧ bv = .int .i64 b ∧ fv = .bool (firstM f a b) ∧ Kp w wr2)
      case atStart => exact ⟨0, by omega, rfl, rfl, kp⟩
      case round =>
        clear kp
        obtain ⟨b, hb, rfl, rfl, kp⟩ := hrel
        obtain ⟨fb, hfb⟩ : ∃ fb, fb = firstM f a b := ⟨_, rfl⟩
        rw [← hfb]
        have HFB := Lib.hid hfb
        clear hfb
        by_cases hlb : b < a
        · have SM := HS'.out wr a b kp hlt hlb
          obtain ⟨sm, hsm⟩ : ∃ sm, sm = sameM f a b := ⟨_, rfl⟩
          rw [← hsm] at SM
          have HSM := Lib.hid SM
          have HNX := Lib.hid (show firstM f a (b + 1) = (fb && !sm) by rw [firstM_succ, ← hsm, ← HFB.out])
          clear SM hsm
          cases sm with
          | true =>
            go_wp2_with (go_at_call 59; refine HSM.out.mono ?_; rintro e w4 ⟨rfl, k4⟩)
            go_roundg (a - (b + 1))
            case measure => omega
            case rel => exact ⟨b + 1, by omega, by go_num, by rw [HNX.out]; simp, kp.trans k4⟩
          | false =>
            go_wp2_with (go_at_call 59; refine HSM.out.mono ?_; rintro e w4 ⟨rfl, k4⟩)
            go_roundg (a - (b + 1))
            case measure => omega
            case rel => exact ⟨b + 1, by omega, by go_num, by rw [HNX.out]; simp, kp.trans k4⟩
        · have hba : b = a := by omega
          have HBA := Lib.hid hba
          cases fb with
          | true =>
            have hcount : countM f (a + 1) = ca + 1 := by
              have h1 := HFB.out
              rw [HBA.out] at h1
              show countM f a + _ = _
              rw [← h1, ← HCA.out]
              rfl
            have HCO := Lib.hid hcount
            have w3 : IntKind.i64.wrap ((ca : Int) + 1) = (ca : Int) + 1 := wrapS (by omega) (by have := hca.out; omega)
            clear hba hcount
            go_wp2_with fail
            go_roundg (N - (a + 1))
            case measure => omega
            case rel =>
              refine ⟨a + 1, by omega, by go_num, ?_, ?_, kp⟩
              · rw [HCO.out]; rfl
              · show _ ≤ _
                rw [HCO.out]
                have := hca.out
                omega
          | false =>
            have hcount : countM f (a + 1) = ca := by
              have h1 := HFB.out
              rw [HBA.out] at h1
              show countM f a + _ = _
              rw [← h1, ← HCA.out]
              rfl
            have HCO := Lib.hid hcount
            clear hba hcount
            go_wp2_with fail
            go_roundg (N - (a + 1))
            case measure => omega
            case rel =>
              refine ⟨a + 1, by omega, by go_num, ?_, ?_, kp⟩
              · rw [HCO.out]
              · show _ ≤ _
                rw [HCO.out]
                have := hca.out
                omega
    · have t1 : ¬ (t + 128 ≤ size) := by have := HSZ.out; omega
      have haN : a = N := by omega
      have HT := Lib.hid ht
      clear ht
      subst haN
      go_wp2_with fail
      go_ret
      rw [HCA.out]
      exact ⟨rfl, kp⟩
end Go.Proofs.Ytakbfppmgngdiaa
