/-
  typebarlaw47: awake, StoreReads, StoreEntries: the walks. Conditions: the arguments can be read.
-/
import Derived.Test.YtcbachblhfkcoaaSt7
import Derived.Test.YtcbachblhfkcoaaTexts
namespace Go.Proofs.Ytcbachblhfkcoaa
open Go.RowKit

theorem aw1 : (⟨#[]⟩ : ByteArray) ++ bs (entryM [97]) = ⟨#[51, 97, 32, 97, 10]⟩ := by decide +kernel
theorem aw2 : readF (by8 ⟨#[51, 97, 32, 97, 10]⟩) = ([[97]], 5) := by decide +kernel
/-- A slice of one text, newly made. -/
theorem txs_one (w : World) (x : List Int) (n c : Nat) (A : Option Addr) (t : TypeId) (h : Ru w Any A n c x) : Txs (w.alloc (.cells #[.slice A n c] t)) Any Any (some ⟨w.heap.size, 0, none⟩) 1 1 [x] := by
  refine ⟨[.slice A n c], Sl.new w #[.slice A n c] t 1 1 trivial (by simp) (by omega), rfl, fun k y hy => ?_⟩
  cases k with
  | zero => cases hy; exact ⟨A, n, c, rfl, h.kp ((Kp.refl w).alloc _)⟩
  | succ k => simp at hy

set_option maxRecDepth 100000 in
set_option maxHeartbeats 1600000 in
theorem awake47 (w : World) : Calls Try.prog 30 #[] w fun e w' => e = .returned (.bool true) ∧ Kp w w' := by
  have k1 := (Kp.refl w).alloc (.cells #[.int .i32 97] 21)
  have hr := Ru.one_at w Any w.heap.size rfl trivial 97 21
  have HA := Lib.hid (append_any Any (some ⟨w.heap.size, 0, none⟩) 1 1 [97] ⟨#[]⟩ (w.alloc (.cells #[.int .i32 97] 21)) hr (by omega) (by decide) (by decide +kernel))
  rw [aw1] at HA
  have HR := Lib.hid fun wx => storeRead_any ⟨#[51, 97, 32, 97, 10]⟩ (by decide) wx
  rw [aw2] at HR
  clear hr
  go_enter Try.func30, Try.ntmps30
  go_wp2_with fail
  refine HA.out.mono ?_
  rintro e w2 ⟨rfl, k2⟩
  have kw2 := k1.trans k2
  clear k1 k2 HA
  go_wp2_with fail
  refine (HR.out w2).mono ?_
  rintro e w3 ⟨A3, n3, c3, vs3, rfl, ho3, k3⟩
  have kw3 := kw2.trans k3
  have hT3 := ho3.txs.any
  clear ho3 k3 kw2
  go_wp2_with fail
  have ka := (Kp.refl w3).alloc (.cells #[.int .i32 97] 21)
  have hr1 := Ru.one_at w3 Any w3.heap.size rfl trivial 97 21
  have hT4 := txs_one (w3.alloc (.cells #[.int .i32 97] 21)) [97] 1 1 _ 23 hr1
  rw [World.size_alloc] at hT4
  have kb := ka.alloc (.cells #[.slice (some ⟨w3.heap.size, 0, none⟩) 1 1] 23)
  refine (sameTexts_true _ _ _ _ A3 _ n3 c3 1 1 [[97]] _ (hT3.kp kb) hT4).mono ?_
  rintro e w4 ⟨rfl, hd⟩
  go_wp2_with fail
  go_ret
  exact ⟨rfl, (kw3.trans kb).trans hd.kp⟩

/-- Not more than so many bytes of a text. -/
def cutS (s : ByteArray) (k : Nat) : ByteArray := if k < s.size then s.extract 0 k else s
theorem cutS_size (s : ByteArray) (k : Nat) : (cutS s k).size ≤ k := by
  unfold cutS
  split
  · rw [ByteArray.size_extract]; omega
  · omega

set_option maxRecDepth 100000 in
set_option maxHeartbeats 1600000 in
theorem storeReads_walk (s : ByteArray) (hs : s.size ≤ maxLen) (w : World) : Calls Try.prog 9 #[.string s] w fun e w' => e = .returned (.bool true) ∧ Kp w w' := by
  unfold maxLen at hs
  obtain ⟨t, ht⟩ : ∃ t, t = cutS s 600 := ⟨_, rfl⟩
  have hts : t.size ≤ 600 := by rw [ht]; exact cutS_size s 600
  have HR := Lib.hid fun wx => storeRead_any t (by omega) wx
  have HR2 := Lib.hid fun wx => readR_any t (by omega) wx
  obtain ⟨ls, hls⟩ : ∃ ls, ls = (readF (by8 t)).1 := ⟨_, rfl⟩
  obtain ⟨k, hk⟩ : ∃ k, k = (readF (by8 t)).2 := ⟨_, rfl⟩
  rw [← hls, ← hk] at HR HR2
  have HTT := Lib.hid ht
  clear ht hls hk
  go_enter Try.func9, Try.ntmps9
  go_upto_if 9 with fail
  go_cut [0] (fun v wx => v = .string t ∧ wx = w)
  case first =>
    by_cases h : 600 < s.size
    · have HT2 : Hid (t = s.extract 0 600) := by show _ = _; rw [HTT.out, cutS, if_pos h]
      have hi : (600 : Int) < (s.size : Int) := by omega
      go_wp2_with fail
      go_meet
      exact ⟨by rw [HT2.out], rfl⟩
    · have HT2 : Hid (t = s) := by show _ = _; rw [HTT.out, cutS, if_neg h]
      have hi : ¬ (600 : Int) < (s.size : Int) := by omega
      go_wp2_with fail
      go_meet
      exact ⟨by rw [HT2.out], rfl⟩
  case rest =>
    obtain ⟨rfl, hw⟩ := hcut
    replace hw := hw.symm
    subst hw
    go_wp2_with fail
    refine (HR.out _).mono ?_
    rintro e w2 ⟨A2, n2, c2, vs2, rfl, ho2, k2⟩
    go_wp2_with fail
    refine (HR2.out _).mono ?_
    rintro e w3 ⟨A3, n3, c3, vs3, rfl, ho3, k3⟩
    have hT2 := (ho2.kp k3).txs.any
    have hT3 := ho3.txs.any
    have kw3 := k2.trans k3
    clear ho2 ho3 k2 k3
    go_wp2_with fail
    refine (sameTexts_true _ _ _ _ A2 A3 n2 c2 n3 c3 ls _ hT2 hT3).mono ?_
    rintro e w4 ⟨rfl, hd⟩
    have hkk : ((k : Int) == (k : Int)) = true := by simp
    have kw4 := kw3.trans hd.kp
    go_wp2_with fail
    refine (awake47 w4).mono ?_
    rintro e w5 ⟨rfl, k5⟩
    go_wp2_with fail
    go_ret
    exact ⟨rfl, kw4.trans k5⟩
end Go.Proofs.Ytcbachblhfkcoaa
