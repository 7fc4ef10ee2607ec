/-
  typebarref18.SameTexts at the same texts: it returns true and makes only draws. Conditions: both slices hold the texts.
-/
import Derived.Test.YtcbachblhfkcoaaPast
namespace Go.Proofs.Ytcbachblhfkcoaa
open Go.RowKit

theorem same_true (F G : Nat → Prop) (A B : Option Addr) (n c m d : Nat) (xs : List Int) (w : World) (ha : Ru w F A n c xs) (hb : Ru w G B m d xs) :
    Calls Try.prog 18 #[.slice A n c, .slice B m d] w fun e w' => e = .returned (.bool true) ∧ ∃ k, w' = w.drewN k :=
  (same_any F G A B n c m d xs xs w ha hb).mono fun _ _ ⟨he, hd⟩ => ⟨by rw [he, (sameB_iff _ _).2 rfl], hd⟩

set_option maxHeartbeats 800000 in
theorem sameTexts_true (F G F' G' : Nat → Prop) (A B : Option Addr) (n c m d : Nat) (L : List (List Int)) (w : World) (ha : Txs w F G A n c L) (hb : Txs w F' G' B m d L) :
    Calls Try.prog 33 #[.slice A n c, .slice B m d] w fun e w' => e = .returned (.bool true) ∧ Dr w w' := by
  have hcx := ha.cap
  have hlx := ha.le
  have hcy := hb.cap
  have hly := hb.le
  have hnm : n = m := by rw [← ha.len, ← hb.len]
  subst hnm
  unfold maxLen at hcx hcy
  go_enter Try.func33, Try.ntmps33
  go_wp2
  go_loopw [5] (fun i wr => ∃ k : Nat, k ≤ n ∧ i = .int .i64 k ∧ Dr w wr) (fun i _ => n - (intOf i).toNat)
  case atStart => exact ⟨0, Nat.zero_le _, rfl, Dr.refl _⟩
  case round =>
    obtain ⟨k, hk, rfl, hdr⟩ := hrel
    by_cases hlt : k < n
    · obtain ⟨ad, B1, m1, d1, rfl, hc1, hr1⟩ := (ha.kp hdr.kp).get hlt
      obtain ⟨bd, B2, m2, d2, rfl, hc2, hr2⟩ := (hb.kp hdr.kp).get hlt
      generalize L[k]?.getD [] = x at *
      go_wp2
      go_quiet ((go_at_call 18; refine Calls.quiet_of (same_true G G' B1 B2 m1 d1 m2 d2 x _ (Sl.drewN hr1 _) (Sl.drewN hr2 _))))
      go_wp2
      go_roundw
      case rel => exact ⟨k + 1, by omega, by go_num, hdr.drewN _⟩
      case measure => simp [intOf]; omega
    · go_wp2
      go_ret
      exact ⟨rfl, hdr⟩
end Go.Proofs.Ytcbachblhfkcoaa
