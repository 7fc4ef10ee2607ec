/-
  typebarref01: row, value: what each returns, as the plain functions of UtfRM. Conditions: sizes.
-/
import Derived.Test.YtmeefngkbcfpeaaUtfR
import Derived.Deep.CutBlock
import Derived.Deep.DeepCutAuto
namespace Go.Proofs.Ytmeefngkbcfpeaa
open Go.RowKit

set_option maxHeartbeats 1600000 in
theorem row_any (s : ByteArray) (hs : s.size ≤ 1073741824) (w : World) : Calls Try.prog 36 #[.string s] w fun e w' => e = .returned (.tuple #[.int .i64 (rowN (by8 s) : Nat), .bool (rowW (by8 s))]) ∧ Dr w w' := by
  obtain ⟨c, hc⟩ : ∃ c, (by8 s)[0]?.getD 0 = c := ⟨_, rfl⟩
  have hlen := by8_length s
  have HL := Lib.hid hlen
  have HC := Lib.hid hc
  have hl1 := longM_le c
  have ic : 0 < s.size → ∀ wx : World, (Instr.index 9 (.string s) (.int .i64 0)).run Try.prog wx = .ok (.int .u8 c) wx := fun h0 wx => run_index_str (P := Try.prog) wx 9 s .i64 0 0 Try.underlying9 rfl h0 c HC.out
  have IC := Lib.hid ic
  have hrl := (rowN_le (by8 s)).1
  rw [hlen] at hrl
  have hr4 := (rowN_le (by8 s)).2
  have HW : Hid (rowW (by8 s) = (decide (0 < rowN (by8 s)) && decide (rowN (by8 s) = longM c))) := by show _ = _; rw [rowW, hc]
  clear hc hlen ic
  obtain ⟨r, hr⟩ : ∃ r, r = rowN (by8 s) := ⟨_, rfl⟩
  obtain ⟨wh, hwh⟩ : ∃ wh, wh = rowW (by8 s) := ⟨_, rfl⟩
  rw [← hr, ← hwh]
  rw [← hr] at hrl hr4
  rw [← hr, ← hwh] at HW
  have HR := Lib.hid hr
  clear hr hwh
  go_enter Try.func36, Try.ntmps36
  go_upto_block 0 with fail
  go_cut [4] (fun s4 wx => s4 = .int .i64 r ∧ Dr w wx)
  case first =>
    go_wp2_with fail
    go_loopg [4] 4 (fun g n wr => ∃ k : Nat, k + g = 4 ∧ k ≤ s.size ∧ n = .int .i64 k ∧ Dr w wr ∧ Hid (rowGo (by8 s) g k = r))
    case atStart => exact ⟨0, rfl, Nat.zero_le _, rfl, Dr.refl _, HR.out.symm⟩
    case round =>
      obtain ⟨k, hk, hks, rfl, hdr, hg⟩ := hrel
      by_cases h1 : k < s.size
      · have ic := IC.out (by omega)
        by_cases h2 : k < longM c
        · cases hm : mayM (by8 s) k with
          | true =>
            have hnext : Hid (rowGo (by8 s) (gk - 1) (k + 1) = r) := by
              show _ = _
              have hgk : gk = (gk - 1) + 1 := by omega
              have := hg.out
              rw [hgk, rowGo_step _ _ _ (by rw [HL.out]; exact h1) (by rw [HC.out]; exact h2) hm] at this
              exact this
            have HM := Lib.hid hm
            clear hm hg
            go_wp2_with fail
            refine (long_any c wr).mono ?_
            rintro e w' ⟨rfl, rfl⟩
            go_wp2_with fail
            refine (may_any s k h1 hs wr).mono ?_
            rintro e w2 ⟨rfl, hd2⟩
            rw [HM.out]
            go_wp2_with fail
            go_roundg (gk - 1)
            case measure => omega
            case rel => exact ⟨k + 1, by omega, by omega, by go_num, hdr.trans hd2, hnext⟩
          | false =>
            have hkr : Hid (k = r) := by
              show _ = _
              rw [← hg.out, rowGo_stop]
              rintro ⟨_, _, h⟩
              rw [hm] at h
              cases h
            have HM := Lib.hid hm
            clear hm hg
            go_wp2_with fail
            refine (long_any c wr).mono ?_
            rintro e w' ⟨rfl, rfl⟩
            go_wp2_with fail
            refine (may_any s k h1 hs wr).mono ?_
            rintro e w2 ⟨rfl, hd2⟩
            rw [HM.out]
            go_wp2_with fail
            go_meet
            exact ⟨by rw [hkr.out], hdr.trans hd2⟩
        · have hkr : Hid (k = r) := by
            show _ = _
            rw [← hg.out, rowGo_stop]
            rintro ⟨_, h, _⟩
            rw [HC.out] at h
            exact h2 h
          have hdl : decide ((k : Int) < ((longM c : Nat) : Int)) = false := by simp; omega
          clear hg
          go_wp2_with fail
          refine (long_any c wr).mono ?_
          rintro e w' ⟨rfl, rfl⟩
          go_wp2_with fail
          go_meet
          exact ⟨by rw [hkr.out], hdr⟩
      · have hkr : Hid (k = r) := by
          show _ = _
          rw [← hg.out, rowGo_stop]
          rintro ⟨h, _, _⟩
          rw [HL.out] at h
          exact h1 h
        clear hg
        go_wp2_with fail
        go_meet
        exact ⟨by rw [hkr.out], hdr⟩
  case rest =>
    obtain ⟨rfl, hdr⟩ := hcut
    by_cases h0 : 0 < r
    · have ic := IC.out (by omega)
      have h0' : (0 : Int) < (r : Int) := by omega
      go_wp2_with fail
      refine (long_any c wc).mono ?_
      rintro e w' ⟨rfl, rfl⟩
      go_wp2_with fail
      go_ret2
      refine ⟨?_, hdr⟩
      rw [HW.out]
      simp [h0]
      rw [Bool.eq_iff_iff]
      simp
      try omega
    · go_wp2_with fail
      go_ret2
      refine ⟨?_, hdr⟩
      rw [HW.out]
      simp [h0]
end Go.Proofs.Ytmeefngkbcfpeaa
