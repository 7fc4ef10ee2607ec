/-
  typebarref22.Same of two lists of the same keys. Conditions: none.
-/
import Derived.Test.YtmeefngkbcfpeaaKeZ
import Derived.BigQuiet
import Derived.IntWalk
namespace Go.Proofs.Ytmeefngkbcfpeaa
open Go.RowKit

theorem same_true8 (F G : Nat → Prop) (A B : Option Addr) (n c m d : Nat) (xs : List Int) (w : World) (ha : Ru w F A n c xs) (hb : Ru w G B m d xs) :
    Calls Try.prog 13 #[.slice A n c, .slice B m d] w fun e w' => e = .returned (.bool true) ∧ Dr w w' :=
  (same_any F G A B n c m d xs xs w ha hb).mono fun _ _ ⟨he, hd⟩ => ⟨by rw [he, (sameB_iff _ _).2 rfl], hd⟩

set_option maxRecDepth 100000 in
set_option maxHeartbeats 3200000 in
theorem keysSame (F G : Nat → Prop) (A B : Option Addr) (n c m d : Nat) (ks : List Ky) (w : World) (ha : KsF F w A n c ks) (hb : KsF G w B m d ks) :
    Calls Try.prog 32 #[.slice A n c, .slice B m d] w fun e w' => e = .returned (.bool true) ∧ Dr w w' := by
  obtain ⟨hlx, hcx⟩ := ha.le
  obtain ⟨hly, hcy⟩ := hb.le
  have hnm : n = m := by rw [← ha.len, ← hb.len]
  subst hnm
  have HL := Lib.hid ha.len
  unfold maxLen at hcx hcy
  go_enter Try.func32, Try.ntmps32
  go_wp2_with fail
  go_loopg [5] n (fun g i wr => ∃ k : Nat, k + g = n ∧ i = .int .i64 k ∧ Dr w wr)
  case atStart => exact ⟨0, by omega, rfl, Dr.refl _⟩
  case round =>
    obtain ⟨k, hk, rfl, hdr⟩ := hrel
    by_cases hlt : k < n
    · obtain ⟨x, hx⟩ : ∃ x, ks[k]? = some x := ⟨ks[k]'(by rw [HL.out]; exact hlt), List.getElem?_eq_getElem _⟩
      obtain ⟨ad, B1, m1, d1, rfl, a0, a1, a2, a3, hr1⟩ := (ha.kp hdr.kp).get hx
      obtain ⟨bd, B2, m2, d2, rfl, b0, b1, b2, b3, hr2⟩ := (hb.kp hdr.kp).get hx
      obtain ⟨kd, rn, mt, tx⟩ := x
      dsimp only at a0 a1 a2 a3 b0 b1 b2 b3 hr1 hr2
      clear hx
      have hne : (kd != kd) = false := by simp
      have hne2 : (rn != rn) = false := by simp
      have hne3 : (mt != mt) = false := by simp
      go_wp2_with fail
      refine wp_region_quiet_lit (by kernel_rfl) (by kernel_rfl) ?_
      repeat (go_big_quiet_step (exact Calls.quiet_of (same_true8 F G B1 B2 m1 d1 m2 d2 tx _ (Sl.drewN hr1 _) (Sl.drewN hr2 _))))
      refine wpQuiet_nil ?_
      rintro w5 ⟨q5, rfl⟩
      go_wp2_with fail
      go_roundg (n - (k + 1))
      case measure => omega
      case rel => exact ⟨k + 1, by omega, by go_num, hdr.drewN _⟩
    · go_wp2_with fail
      go_ret
      exact ⟨rfl, hdr⟩
end Go.Proofs.Ytmeefngkbcfpeaa
