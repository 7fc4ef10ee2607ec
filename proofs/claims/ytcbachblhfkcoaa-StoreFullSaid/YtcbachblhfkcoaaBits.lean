/-
  'x & (2^p - 1)' of any int is a number below 2^p. Plain arithmetic.
-/
import Derived.Test.YtcbachblhfkcoaaWords
import Derived.Laws.Entries
import Derived.WalkArith
namespace Go.Proofs.Ytcbachblhfkcoaa
open Go.RowKit

theorem and_mask (x : Int) (p : Nat) (hp : p ≤ 32) : bits .and .i64 x ((2 ^ p - 1 : Nat) : Int) = x % ((2 ^ p : Nat) : Int) := by
  have h32 : 2 ^ p ≤ 2 ^ 32 := Nat.pow_le_pow_right (by omega) hp
  have hpos : 0 < 2 ^ p := Nat.pow_pos (by omega)
  generalize hq : 2 ^ p = q at *
  have e1 : (BitVec.ofInt 64 ((q - 1 : Nat) : Int)).toNat = q - 1 := by
    rw [BitVec.toNat_ofInt]
    omega
  have e2 : ((BitVec.ofInt 64 x) &&& (BitVec.ofInt 64 ((q - 1 : Nat) : Int))).toNat = (x % 18446744073709551616).toNat % q := by
    rw [BitVec.toNat_and, e1, BitVec.toNat_ofInt, ← hq, Nat.and_two_pow_sub_one_eq_mod]
    rfl
  have e3 : bits .and .i64 x ((q - 1 : Nat) : Int) = IntKind.i64.wrap (((BitVec.ofInt 64 x) &&& (BitVec.ofInt 64 ((q - 1 : Nat) : Int))).toNat : Int) := rfl
  rw [e3, e2]
  have h0 := Int.emod_nonneg x (show (18446744073709551616 : Int) ≠ 0 by omega)
  have h1 : (x % 18446744073709551616).toNat % q < q := Nat.mod_lt _ hpos
  rw [IntWalk.i64_in _ (by omega)]
  have h2 : (((x % 18446744073709551616).toNat % q : Nat) : Int) = (x % 18446744073709551616) % (q : Int) := by
    rw [Int.natCast_emod, Int.toNat_of_nonneg h0]
  rw [h2]
  refine Int.emod_emod_of_dvd _ ?_
  have : (2 ^ p : Nat) ∣ 2 ^ 64 := Nat.pow_dvd_pow 2 (by omega)
  rw [hq] at this
  obtain ⟨c, hc⟩ := this
  have h3 : ((q * c : Nat) : Int) = 18446744073709551616 := by rw [← hc]; rfl
  rw [Int.natCast_mul] at h3
  exact ⟨c, h3.symm⟩

theorem and_below (x : Int) (p : Nat) (hp : p ≤ 32) : ∃ r : Nat, r < 2 ^ p ∧ bits .and .i64 x ((2 ^ p - 1 : Nat) : Int) = (r : Int) := by
  have hpos : 0 < 2 ^ p := Nat.pow_pos (by omega)
  obtain ⟨r, hr⟩ := Int.eq_ofNat_of_zero_le (Int.emod_nonneg x (show ((2 ^ p : Nat) : Int) ≠ 0 by omega))
  have := Int.emod_lt_of_pos x (show (0 : Int) < ((2 ^ p : Nat) : Int) by omega)
  exact ⟨r, by omega, by rw [and_mask x p hp, hr]⟩
end Go.Proofs.Ytcbachblhfkcoaa
