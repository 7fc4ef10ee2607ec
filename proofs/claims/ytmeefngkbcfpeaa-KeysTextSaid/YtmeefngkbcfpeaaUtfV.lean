/-
  typebarref01: value: what it returns, as the plain function of UtfRM. Conditions: a row of 1 to 4 bytes.
-/
import Derived.Test.YtmeefngkbcfpeaaUtfR2
namespace Go.Proofs.Ytmeefngkbcfpeaa
open Go.RowKit

set_option maxHeartbeats 1600000 in
theorem value_any (s : ByteArray) (h1 : 1 ≤ s.size) (h4 : s.size ≤ 4) (w : World) : Calls Try.prog 37 #[.string s] w fun e w' => e = .returned (.int .i32 (valueM (by8 s))) ∧ w = w' := by
  obtain ⟨c, hc⟩ : ∃ c, (by8 s)[0]?.getD 0 = c := ⟨_, rfl⟩
  have hlen := by8_length s
  obtain ⟨hc1, hc2⟩ := by8_bound s 0
  rw [hc] at hc1 hc2
  have ic := fun wx : World => run_index_str (P := Try.prog) wx 9 s .i64 0 0 Try.underlying9 rfl (by omega) c hc
  by_cases hs1 : s.size = 1
  · have HE : Hid (valueM (by8 s) = c) := by show _ = _; rw [valueM, if_pos (by omega), hc]
    have hb : ((s.size : Int) == 1) = true := by simp; omega
    clear hs1 hlen hc
    go_enter Try.func37, Try.ntmps37
    go_wp2_with fail
    go_ret
    exact ⟨by rw [HE.out]; rfl, rfl⟩
  · have hb1 : ((s.size : Int) == 1) = false := by simp; omega
    have HL := Lib.hid hlen
    obtain ⟨v0, hv0⟩ : ∃ v0, v0 = (if s.size = 4 then c - 240 else if s.size = 3 then c - 224 else c - 192) := ⟨_, rfl⟩
    have HE : Hid (valueM (by8 s) = valGo v0 ((by8 s).drop 1)) := by show _ = _; rw [valueM, if_neg (by omega), hc, hlen, hv0]
    have hvb : -256 ≤ v0 ∧ v0 ≤ 256 := by rw [hv0]; (repeat' split) <;> omega
    obtain ⟨f, hf⟩ : ∃ f, f = valueM (by8 s) := ⟨_, rfl⟩
    rw [← hf]
    rw [← hf] at HE
    have hcase : s.size = 2 ∨ s.size = 3 ∨ s.size = 4 := by omega
    clear hs1 hlen hc hf
    rcases hcase with hs | hs | hs
    · have e0' : v0 = c - 192 := by rw [hv0]; simp [hs]
      have hs1 : 2 ≤ s.size := by omega
      have hs2 : s.size ≤ 2 := by omega
      have E0 := Lib.hid e0'
      clear hs hv0 e0'
      go_enter Try.func37, Try.ntmps37
      go_wp2_with fail
      go_loopg [4, 5] 3 (fun g v i wr => ∃ (k : Nat) (q : Int), k + g = 4 ∧ 1 ≤ k ∧ k ≤ s.size ∧ i = .int .i64 k ∧ v = .int .i64 q ∧ w = wr ∧ Hid (valGo q ((by8 s).drop k) = f) ∧ (k = 1 → -256 ≤ q ∧ q ≤ 256) ∧ (k = 2 → -17000 ≤ q ∧ q ≤ 17000) ∧ (k = 3 → -1100000 ≤ q ∧ q ≤ 1100000) ∧ (k = 4 → -71000000 ≤ q ∧ q ≤ 71000000))
      case atStart =>
        refine ⟨1, v0, rfl, by omega, by omega, rfl, by rw [E0.out], rfl, HE.out.symm, fun _ => hvb, fun h => by omega, fun h => by omega, fun h => by omega⟩
      case round =>
        obtain ⟨k, q, hk, hk1, hks, rfl, rfl, rfl, hg, q1, q2, q3, q4⟩ := hrel
        by_cases hlt : k < s.size
        · obtain ⟨b, hb⟩ : ∃ b, (by8 s)[k]?.getD 0 = b := ⟨_, rfl⟩
          obtain ⟨hb1, hb2⟩ := by8_bound s k
          rw [hb] at hb1 hb2
          have ib := fun wx : World => run_index_str (P := Try.prog) wx 9 s .i64 k k Try.underlying9 rfl hlt b hb
          have hnext : Hid (valGo (64 * q + b - 128) ((by8 s).drop (k + 1)) = f) := by
            show _ = _
            have hkl : k < (by8 s).length := by rw [HL.out]; exact hlt
            have := hg.out
            rw [List.drop_eq_getElem_cons hkl, valGo] at this
            rw [List.getElem?_eq_getElem hkl] at hb
            simp at hb
            rw [hb] at this
            exact this
          have hqb : -1100000 ≤ q ∧ q ≤ 1100000 := by
            have : k = 1 ∨ k = 2 ∨ k = 3 := by omega
            rcases this with h | h | h
            · have := q1 h; omega
            · have := q2 h; omega
            · exact q3 h
          clear hb hg
          go_wp2_with fail
          go_roundg (gk - 1)
          case measure => omega
          case rel =>
            refine ⟨k + 1, 64 * q + b - 128, by omega, by omega, by omega, by go_num, by go_num, rfl, hnext, fun h => by omega, fun h => by have := q1 (by omega); omega, fun h => by have := q2 (by omega); omega, fun h => by have := q3 (by omega); omega⟩
        · have hfin : Hid (q = f) := by
            show _ = _
            rw [← hg.out, List.drop_of_length_le (by rw [HL.out]; omega)]
            rfl
          have hqb : -71000000 ≤ q ∧ q ≤ 71000000 := by
            have : k = 1 ∨ k = 2 ∨ k = 3 ∨ k = 4 := by omega
            rcases this with h | h | h | h
            · have := q1 h; omega
            · have := q2 h; omega
            · have := q3 h; omega
            · exact q4 h
          clear hg
          go_wp2_with fail
          go_ret
          exact ⟨ret_int hfin.out, rfl⟩
    · have e0' : v0 = c - 224 := by rw [hv0]; simp [hs]
      have hs1 : 3 ≤ s.size := by omega
      have hs2 : s.size ≤ 3 := by omega
      have E0 := Lib.hid e0'
      clear hs hv0 e0'
      go_enter Try.func37, Try.ntmps37
      go_wp2_with fail
      go_loopg [4, 5] 3 (fun g v i wr => ∃ (k : Nat) (q : Int), k + g = 4 ∧ 1 ≤ k ∧ k ≤ s.size ∧ i = .int .i64 k ∧ v = .int .i64 q ∧ w = wr ∧ Hid (valGo q ((by8 s).drop k) = f) ∧ (k = 1 → -256 ≤ q ∧ q ≤ 256) ∧ (k = 2 → -17000 ≤ q ∧ q ≤ 17000) ∧ (k = 3 → -1100000 ≤ q ∧ q ≤ 1100000) ∧ (k = 4 → -71000000 ≤ q ∧ q ≤ 71000000))
      case atStart =>
        refine ⟨1, v0, rfl, by omega, by omega, rfl, by rw [E0.out], rfl, HE.out.symm, fun _ => hvb, fun h => by omega, fun h => by omega, fun h => by omega⟩
      case round =>
        obtain ⟨k, q, hk, hk1, hks, rfl, rfl, rfl, hg, q1, q2, q3, q4⟩ := hrel
        by_cases hlt : k < s.size
        · obtain ⟨b, hb⟩ : ∃ b, (by8 s)[k]?.getD 0 = b := ⟨_, rfl⟩
          obtain ⟨hb1, hb2⟩ := by8_bound s k
          rw [hb] at hb1 hb2
          have ib := fun wx : World => run_index_str (P := Try.prog) wx 9 s .i64 k k Try.underlying9 rfl hlt b hb
          have hnext : Hid (valGo (64 * q + b - 128) ((by8 s).drop (k + 1)) = f) := by
            show _ = _
            have hkl : k < (by8 s).length := by rw [HL.out]; exact hlt
            have := hg.out
            rw [List.drop_eq_getElem_cons hkl, valGo] at this
            rw [List.getElem?_eq_getElem hkl] at hb
            simp at hb
            rw [hb] at this
            exact this
          have hqb : -1100000 ≤ q ∧ q ≤ 1100000 := by
            have : k = 1 ∨ k = 2 ∨ k = 3 := by omega
            rcases this with h | h | h
            · have := q1 h; omega
            · have := q2 h; omega
            · exact q3 h
          clear hb hg
          go_wp2_with fail
          go_roundg (gk - 1)
          case measure => omega
          case rel =>
            refine ⟨k + 1, 64 * q + b - 128, by omega, by omega, by omega, by go_num, by go_num, rfl, hnext, fun h => by omega, fun h => by have := q1 (by omega); omega, fun h => by have := q2 (by omega); omega, fun h => by have := q3 (by omega); omega⟩
        · have hfin : Hid (q = f) := by
            show _ = _
            rw [← hg.out, List.drop_of_length_le (by rw [HL.out]; omega)]
            rfl
          have hqb : -71000000 ≤ q ∧ q ≤ 71000000 := by
            have : k = 1 ∨ k = 2 ∨ k = 3 ∨ k = 4 := by omega
            rcases this with h | h | h | h
            · have := q1 h; omega
            · have := q2 h; omega
            · have := q3 h; omega
            · exact q4 h
          clear hg
          go_wp2_with fail
          go_ret
          exact ⟨ret_int hfin.out, rfl⟩
    · have e0' : v0 = c - 240 := by rw [hv0]; simp [hs]
      have hs1 : 4 ≤ s.size := by omega
      have hs2 : s.size ≤ 4 := by omega
      have E0 := Lib.hid e0'
      clear hs hv0 e0'
      go_enter Try.func37, Try.ntmps37
      go_wp2_with fail
      go_loopg [4, 5] 3 (fun g v i wr => ∃ (k : Nat) (q : Int), k + g = 4 ∧ 1 ≤ k ∧ k ≤ s.size ∧ i = .int .i64 k ∧ v = .int .i64 q ∧ w = wr ∧ Hid (valGo q ((by8 s).drop k) = f) ∧ (k = 1 → -256 ≤ q ∧ q ≤ 256) ∧ (k = 2 → -17000 ≤ q ∧ q ≤ 17000) ∧ (k = 3 → -1100000 ≤ q ∧ q ≤ 1100000) ∧ (k = 4 → -71000000 ≤ q ∧ q ≤ 71000000))
      case atStart =>
        refine ⟨1, v0, rfl, by omega, by omega, rfl, by rw [E0.out], rfl, HE.out.symm, fun _ => hvb, fun h => by omega, fun h => by omega, fun h => by omega⟩
      case round =>
        obtain ⟨k, q, hk, hk1, hks, rfl, rfl, rfl, hg, q1, q2, q3, q4⟩ := hrel
        by_cases hlt : k < s.size
        · obtain ⟨b, hb⟩ : ∃ b, (by8 s)[k]?.getD 0 = b := ⟨_, rfl⟩
          obtain ⟨hb1, hb2⟩ := by8_bound s k
          rw [hb] at hb1 hb2
          have ib := fun wx : World => run_index_str (P := Try.prog) wx 9 s .i64 k k Try.underlying9 rfl hlt b hb
          have hnext : Hid (valGo (64 * q + b - 128) ((by8 s).drop (k + 1)) = f) := by
            show _ = _
            have hkl : k < (by8 s).length := by rw [HL.out]; exact hlt
            have := hg.out
            rw [List.drop_eq_getElem_cons hkl, valGo] at this
            rw [List.getElem?_eq_getElem hkl] at hb
            simp at hb
            rw [hb] at this
            exact this
          have hqb : -1100000 ≤ q ∧ q ≤ 1100000 := by
            have : k = 1 ∨ k = 2 ∨ k = 3 := by omega
            rcases this with h | h | h
            · have := q1 h; omega
            · have := q2 h; omega
            · exact q3 h
          clear hb hg
          go_wp2_with fail
          go_roundg (gk - 1)
          case measure => omega
          case rel =>
            refine ⟨k + 1, 64 * q + b - 128, by omega, by omega, by omega, by go_num, by go_num, rfl, hnext, fun h => by omega, fun h => by have := q1 (by omega); omega, fun h => by have := q2 (by omega); omega, fun h => by have := q3 (by omega); omega⟩
        · have hfin : Hid (q = f) := by
            show _ = _
            rw [← hg.out, List.drop_of_length_le (by rw [HL.out]; omega)]
            rfl
          have hqb : -71000000 ≤ q ∧ q ≤ 71000000 := by
            have : k = 1 ∨ k = 2 ∨ k = 3 ∨ k = 4 := by omega
            rcases this with h | h | h | h
            · have := q1 h; omega
            · have := q2 h; omega
            · have := q3 h; omega
            · exact q4 h
          clear hg
          go_wp2_with fail
          go_ret
          exact ⟨ret_int hfin.out, rfl⟩
end Go.Proofs.Ytmeefngkbcfpeaa
