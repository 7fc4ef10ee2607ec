/-
  TrieGets, the walk. Conditions: the arguments can be read.
-/
import Derived.Test.YtakbfppmgngdiaaTrieV
import Derived.Test.YtakbfppmgngdiaaBits
namespace Go.Proofs.Ytakbfppmgngdiaa
open Go.RowKit

/-- What of pieces can be read. -/
def PcOks (l : List (Pc Int)) : Prop := ∀ p ∈ l, (-9223372036854775808 ≤ p.fr ∧ p.fr ≤ 9223372036854775807) ∧ wfI p.v
theorem PcOks.take {l : List (Pc Int)} (h : PcOks l) (n : Nat) : PcOks (l.take n) := fun p hp => h p (List.mem_of_mem_take hp)
theorem PcOks.ok {l : List (Pc Int)} (h : PcOks l) : pcOkI l := fun p hp => (h p hp).1
theorem PcOks.wf {l : List (Pc Int)} (h : PcOks l) : ∀ p ∈ l, wfI p.v := fun p hp => (h p hp).2


set_option maxHeartbeats 3200000 in
theorem trieGets_walk' (x0 : Int) (x1 : Int) (wf1 : (Lit.int .i64 x1).wf = true) (A : Option Addr) (n c : Nat) (l : List (Pc Int)) (w : World) (hP : Pcs (Value.int .i64) w A n c l) (hl : PcOks l) :
    Calls Try.prog 10 #[.int .i64 x0, .int .i64 x1, .slice A n c] w fun e w' => e = .returned (.bool true) ∧ Kp w w' := by
  obtain ⟨r, hr, hb⟩ := and_below x0 10 (by omega)
  have hb' : bits .and .i64 x0 1023 = (r : Int) := hb
  clear hb
  have hr' : r < 1024 := hr
  clear hr
  have hfew := few03 A n c l w hP
  have hl30 := hl.take 30
  obtain ⟨l', hl'⟩ : ∃ l', l' = l.take 30 := ⟨_, rfl⟩
  rw [← hl'] at hfew hl30
  have HF := Lib.hid hfew
  have HL := Lib.hid hl30
  have HW1 := Lib.hid wf1
  clear hP hl wf1 hfew hl30 hl'
  go_enter Try.func10, Try.ntmps10
  go_upto_region 2 with fail
  go_upto_region 3 with (go_at_call 39; refine HF.out.mono ?_; rintro e w1 ⟨m, rfl, hm, hP1, k1⟩)
  clear HF
  have HM := Lib.hid (made03 (r : Int) x1 A m c l' w1 hP1 HL.out.ok HL.out.wf HW1.out (by omega) (by omega) (by omega))
  obtain ⟨f, hf⟩ : ∃ f, f = getM l' x1 := ⟨_, rfl⟩
  have HG : ∀ (wx : World) (i : Int), Kp w1 wx → Calls Try.prog 42 #[.slice A m c, .int .i64 x1, .int .i64 i] wx fun e w' => e = .returned (.int .i64 (f i)) ∧ Kp wx w' := fun wx i k => by
    rw [hf]
    exact refGet A m c l' x1 i wx (hP1.kp k) (by omega)
  rw [← hf] at HM
  have HG' := Lib.hid HG
  clear HG hf hP1 HL HW1
  by_cases h0 : r = 0
  · subst h0
    go_upto_region 4 with (go_at_call 40; refine HM.out.mono ?_; rintro e w2 (⟨_, rfl, k2⟩ | ⟨h1, _⟩); case inr => exact absurd h1 (by omega))
    have kw := k1.trans k2
    clear HM k1 k2
    go_wp2_with (go_at_call 41; refine (len_nil _).mono ?_; rintro e w3 ⟨rfl, k3⟩; have kw3 := kw.trans k3; clear kw k3)
    go_loopg [8] 2 (fun g iv wr => ∃ (i : Int), i + g = 1 ∧ -1 ≤ i ∧ iv = .int .i64 i ∧ Kp w wr)
    case atStart => exact ⟨-1, by omega, by omega, rfl, kw3⟩
    case round =>
      clear kw3
      obtain ⟨i, hg, h1, rfl, kp⟩ := hrel
      by_cases hi : i ≤ 0
      · have hj : (0 ≤ i ∧ decide (i < 0) = false) ∨ i < 0 := by by_cases h : i < 0; exact .inr h; exact .inl ⟨by omega, by simpa using h⟩
        rcases hj with ⟨hj0, hj⟩ | hj
        · go_wp2_with (go_at_call 43; refine (getNilI _ _).mono ?_; rintro e w4 ⟨rfl, k4⟩)
          go_roundg (1 - (i + 1)).toNat
          case measure => omega
          case rel => exact ⟨i + 1, by omega, by omega, by go_num, kp.trans k4⟩
        · go_wp2_with (go_at_call 43; refine (getNilI _ _).mono ?_; rintro e w4 ⟨rfl, k4⟩)
          go_roundg (1 - (i + 1)).toNat
          case measure => omega
          case rel => exact ⟨i + 1, by omega, by omega, by go_num, kp.trans k4⟩
      · go_wp2_with (go_at_call 44; refine (awake03 _).mono ?_; rintro e w4 ⟨rfl, k4⟩)
        go_ret
        exact ⟨rfl, kp.trans k4⟩
  · go_upto_region 4 with (go_at_call 40; refine HM.out.mono ?_; rintro e w2 (⟨h1, _⟩ | ⟨_, tB, rfl, hT, k2⟩); exact absurd h1 (by omega))
    have kw := k1.trans k2
    have HT := Lib.hid fun (wx : World) (k : Kp w2 wx) => hT.kp k
    clear HM k1
    go_wp2_with (go_at_call 41; refine (len_t tB r f _ hT).mono ?_; rintro e w3 ⟨rfl, k3⟩)
    clear hT
    go_loopg [8] (r + 2) (fun g iv wr => ∃ (i : Int), i + g = (r : Int) + 1 ∧ -1 ≤ i ∧ iv = .int .i64 i ∧ Kp w2 wr)
    case atStart => exact ⟨-1, by omega, by omega, rfl, k3⟩
    case round =>
      clear k3
      obtain ⟨i, hg, h1, rfl, kp⟩ := hrel
      by_cases hi : i ≤ (r : Int)
      · by_cases hin : 0 ≤ i ∧ i < (r : Int)
        · have hgv : Hid ((if 0 ≤ i ∧ i < (r : Int) then f i else 0) = f i) := if_pos hin
          obtain ⟨hi0, hi1⟩ := hin
          go_wp2_with (first
            | (go_at_call 42; refine (HG'.out _ i (k2.trans kp)).mono ?_; rintro e w4 ⟨rfl, k4⟩; have GT := getI tB r f i w4 (HT.out w4 (kp.trans k4)); rw [hgv.out] at GT; have HGT := Lib.hid GT; clear GT)
            | (go_at_call 43; refine HGT.out.mono ?_; rintro e w5 ⟨rfl, k5⟩))
          go_roundg ((r : Int) + 1 - (i + 1)).toNat
          case measure => omega
          case rel => exact ⟨i + 1, by omega, by omega, by go_num, (kp.trans k4).trans k5⟩
        · have GT := getI tB r f i wr (HT.out wr kp)
          rw [if_neg hin] at GT
          have HGT := Lib.hid GT
          clear GT
          have hj : (0 ≤ i ∧ decide (i < (r : Int)) = false) ∨ i < 0 := by by_cases h : i < 0; exact .inr h; exact .inl ⟨by omega, by simp; omega⟩
          clear hin
          rcases hj with hj | hj
          · obtain ⟨hj0, hj1⟩ := hj
            go_wp2_with (go_at_call 43; refine HGT.out.mono ?_; rintro e w5 ⟨rfl, k5⟩)
            go_roundg ((r : Int) + 1 - (i + 1)).toNat
            case measure => omega
            case rel => exact ⟨i + 1, by omega, by omega, by go_num, kp.trans k5⟩
          · go_wp2_with (go_at_call 43; refine HGT.out.mono ?_; rintro e w5 ⟨rfl, k5⟩)
            go_roundg ((r : Int) + 1 - (i + 1)).toNat
            case measure => omega
            case rel => exact ⟨i + 1, by omega, by omega, by go_num, kp.trans k5⟩
      · go_wp2_with (go_at_call 44; refine (awake03 _).mono ?_; rintro e w4 ⟨rfl, k4⟩)
        go_ret
        exact ⟨rfl, (kw.trans kp).trans k4⟩

theorem trieGets_walk {w0 : World} (x0 : Int) (_ : (Lit.int .i64 x0).wf = true) (x1 : Int) (wf1 : (Lit.int .i64 x1).wf = true) (A : Option Addr) (n c : Nat) (l : List (Pc Int)) (hP : Pcs (Value.int .i64) w0 A n c l) (hl : PcOks l) (w : World) (hw : w = w0 := by rfl) :
    Calls Try.prog 10 #[.int .i64 x0, .int .i64 x1, .slice A n c] w fun e w' => e = .returned (.bool true) ∧ Kp w w' := by
  subst hw
  exact trieGets_walk' x0 x1 wf1 A n c l w hP hl
end Go.Proofs.Ytakbfppmgngdiaa
