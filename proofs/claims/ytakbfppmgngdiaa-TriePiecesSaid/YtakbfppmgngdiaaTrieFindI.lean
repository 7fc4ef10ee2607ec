/-
  Package trie at int: find: the first piece that has a number, and up to where nothing changes. Conditions: the pieces can be read; numbers are ints.
-/
import Derived.Test.YtakbfppmgngdiaaTrieX
namespace Go.Proofs.Ytakbfppmgngdiaa
open Go.RowKit

/-- Numbers that are ints. -/
def pcOkI (l : List (Pc Int)) : Prop := ∀ p ∈ l, -9223372036854775808 ≤ p.fr ∧ p.fr ≤ 9223372036854775807

set_option maxHeartbeats 1600000 in
theorem findI (A : Option Addr) (n c : Nat) (l : List (Pc Int)) (z : Int) (i last : Int) (w : World) (hP : Pcs (Value.int .i64) w A n c l) (hok : pcOkI l) (hi : -9223372036854775808 ≤ i) (hil : i ≤ last) (hn : n ≤ 1099511627776) :
    Calls Try.prog 67 #[.slice A n c, (Value.int .i64) z, .int .i64 i, .int .i64 last] w fun e w' => e = .returned (.tuple #[(Value.int .i64) (findM l z i last).1, .int .i64 (findM l z i last).2]) ∧ Kp w w' := by
  have hlen := hP.len
  have hle := hP.le
  have hcp := hP.cap
  unfold maxLen at hcp
  have HOK := Lib.hid hok
  clear hok
  go_enter Try.func67, Try.ntmps67
  go_wp2_with fail
  go_loopg [14, 3] n (fun g iv lv wr => ∃ (k : Nat) (lt : Int), k + g = n ∧ iv = .int .i64 k ∧ lv = .int .i64 lt ∧ i ≤ lt ∧ Hid (findM l z i last = findM (l.drop k) z i lt) ∧ Kp w wr)
  case atStart => exact ⟨0, last, by omega, rfl, rfl, hil, (rfl : findM l z i last = _), Kp.refl _⟩
  case round =>
    obtain ⟨k, lt, hk, rfl, rfl, h1, hf, kp⟩ := hrel
    by_cases hkn : k < n
    · obtain ⟨p, hp⟩ : ∃ p, l[k]? = some p := ⟨l[k]'(by omega), List.getElem?_eq_getElem _⟩
      obtain ⟨ad, rfl, c0, c1, c2⟩ := (hP.kp kp).get hp
      have hpk := HOK.out p (List.mem_of_getElem? hp)
      have hd : l.drop k = p :: l.drop (k + 1) := by
        have hk' := (List.getElem?_eq_some_iff.1 hp)
        rw [List.drop_eq_getElem_cons hk'.1, hk'.2]
      have hf' := hf.out
      rw [hd, findM_cons] at hf'
      clear hf hd hp
      have kp1 := kp.alloc (.cells #[.int .i64 p.fr, .int .i64 p.to, (Value.int .i64) p.v] 101)
      have ne := Nat.ne_of_gt (World.block_lt_of_cell? wr _ c0)
      by_cases ha : p.fr ≤ i
      · by_cases hb : i ≤ p.to
        · have e1 : Hid (findM l z i last = (p.v, min p.to lt)) := by show _ = _; rw [hf', if_pos ⟨ha, hb⟩]
          clear hf'
          go_upto_region 5 with fail
          go_quiet (fail)
          go_wp2_with fail
          all_goals
            go_ret2
            rw [e1.out]
            first
            | (have hm : min p.to lt = p.to := by omega
               rw [hm]
               exact ⟨rfl, kp1.drewN _⟩)
            | (have hm : min p.to lt = lt := by omega
               rw [hm]
               exact ⟨rfl, kp1.drewN _⟩)
        · have hb' : decide (i ≤ p.to) = false := by simp; omega
          have hc1 : decide (i < p.fr) = false := by simp; omega
          have e1 : Hid (findM l z i last = findM (l.drop (k + 1)) z i lt) := by show _ = _; rw [hf', if_neg (by omega), if_neg (by omega)]
          clear hf' hb
          go_wp2_with fail
          go_roundg (n - (k + 1))
          case measure => omega
          case rel => exact ⟨k + 1, lt, by omega, by go_num, rfl, h1, e1, kp1⟩
      · have ha' : decide (p.fr ≤ i) = false := by simp; omega
        have hc1 : decide (i < p.fr) = true := by simp; omega
        by_cases hb : p.fr ≤ lt
        · have e1 : Hid (findM l z i last = findM (l.drop (k + 1)) z i (p.fr - 1)) := by show _ = _; rw [hf', if_neg (by omega), if_pos (by omega)]
          have hw : IntKind.i64.wrap (p.fr - 1) = p.fr - 1 := wrapS (by omega) (by omega)
          clear hf' ha
          go_wp2_with fail
          go_roundg (n - (k + 1))
          case measure => omega
          case rel => exact ⟨k + 1, p.fr - 1, by omega, by go_num, rfl, by simp at hc1; omega, e1, kp1⟩
        · have hb' : decide (p.fr ≤ lt) = false := by simp; omega
          have e1 : Hid (findM l z i last = findM (l.drop (k + 1)) z i lt) := by show _ = _; rw [hf', if_neg (by omega), if_neg (by omega)]
          clear hf' ha hb
          go_wp2_with fail
          go_roundg (n - (k + 1))
          case measure => omega
          case rel => exact ⟨k + 1, lt, by omega, by go_num, rfl, h1, e1, kp1⟩
    · have hk0 : l.drop k = [] := List.drop_eq_nil_of_le (by omega)
      have hf' := hf.out
      rw [hk0] at hf'
      have e1 : Hid (findM l z i last = (z, lt)) := hf'
      clear hf hf'
      go_wp2_with fail
      go_ret2
      rw [e1.out]
      exact ⟨rfl, kp⟩
end Go.Proofs.Ytakbfppmgngdiaa
