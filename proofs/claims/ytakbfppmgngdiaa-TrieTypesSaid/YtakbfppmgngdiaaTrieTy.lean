/-
  TrieTypes, the walk. Conditions: the arguments can be read.
-/
import Derived.Test.YtakbfppmgngdiaaTrieBw
import Derived.Test.YtakbfppmgngdiaaTrieGetS
import Derived.Test.YtakbfppmgngdiaaTrieGetB
namespace Go.Proofs.Ytakbfppmgngdiaa
open Go.RowKit

theorem TrRS.kp {w w' : World} {tB : Nat} {size : Int} {f : Int → ByteArray} (h : TrRS w tB size f) (k : Kp w w') : TrRS w' tB size f := by
  obtain ⟨a, IA, Ic, BA, Bc, h1, h2, h3, h4⟩ := h
  exact ⟨a, IA, Ic, BA, Bc, h1.kp k, h2.kp k, h3.kp k, h4⟩
theorem TrRB.kp {w w' : World} {tB : Nat} {size : Int} {f : Int → Bool} (h : TrRB w tB size f) (k : Kp w w') : TrRB w' tB size f := by
  obtain ⟨a, IA, Ic, BA, Bc, h1, h2, h3, h4⟩ := h
  exact ⟨a, IA, Ic, BA, Bc, h1.kp k, h2.kp k, h3.kp k, h4⟩

/-- A trie of one piece. -/
theorem oneS (fr tt : Int) (s : ByteArray) (hf : -9223372036854775808 ≤ fr ∧ fr ≤ 9223372036854775807) (hs : s.size ≤ maxLen) (w : World) :
    Calls Try.prog 47 #[.int .i64 500, .string ByteArray.empty, .slice (some ⟨w.heap.size, 0, none⟩) 1 1] (w.alloc (.cells #[.int .i64 fr, .int .i64 tt, .string s] 91)) fun e w' =>
      ∃ tB, e = .returned (.pointer (some ⟨tB, 0, none⟩)) ∧ TrRS w' tB 500 (getM [⟨fr, tt, s⟩] ByteArray.empty) ∧ Kp w w' := by
  refine (buildS 500 ByteArray.empty _ 1 1 [⟨fr, tt, s⟩] _ (Sl.new _ _ _ _ _ trivial rfl (by omega)) (fun p hp => by rw [List.mem_singleton] at hp; subst hp; exact hf) (fun p hp => by rw [List.mem_singleton] at hp; subst hp; exact hs) (by show ByteArray.empty.size ≤ maxLen; simp [maxLen]) (by omega) (by omega) (by omega)).mono ?_
  rintro e w' (⟨h, _⟩ | ⟨_, tB, rfl, hT, k⟩)
  · omega
  · exact ⟨tB, rfl, hT, ((Kp.refl w).alloc _).trans k⟩
theorem oneB (fr tt : Int) (s : Bool) (hf : -9223372036854775808 ≤ fr ∧ fr ≤ 9223372036854775807) (w : World) :
    Calls Try.prog 48 #[.int .i64 500, .bool false, .slice (some ⟨w.heap.size, 0, none⟩) 1 1] (w.alloc (.cells #[.int .i64 fr, .int .i64 tt, .bool s] 95)) fun e w' =>
      ∃ tB, e = .returned (.pointer (some ⟨tB, 0, none⟩)) ∧ TrRB w' tB 500 (getM [⟨fr, tt, s⟩] false) ∧ Kp w w' := by
  refine (buildB 500 false _ 1 1 [⟨fr, tt, s⟩] _ (Sl.new _ _ _ _ _ trivial rfl (by omega)) (fun p hp => by rw [List.mem_singleton] at hp; subst hp; exact hf) (fun p hp => trivial) trivial (by omega) (by omega) (by omega)).mono ?_
  rintro e w' (⟨h, _⟩ | ⟨_, tB, rfl, hT, k⟩)
  · omega
  · exact ⟨tB, rfl, hT, ((Kp.refl w).alloc _).trans k⟩

set_option maxRecDepth 100000 in
set_option maxHeartbeats 1600000 in
theorem trieTypes_walk (x0 : Int) (wf0 : (Lit.int .i64 x0).wf = true) (x1 : Int) (_ : (Lit.int .i64 x1).wf = true) (s : ByteArray) (hs : s.size ≤ maxLen) (x3 : Int) (_ : (Lit.int .i64 x3).wf = true) (w : World) :
    Calls Try.prog 12 #[.int .i64 x0, .int .i64 x1, .string s, .int .i64 x3] w fun e w' => e = .returned (.bool true) ∧ Kp w w' := by
  have h0 := wf64 wf0
  have HA := Lib.hid (oneS x0 x1 s h0 hs w)
  have HB := Lib.hid fun w => oneB x0 x1 true h0 w
  obtain ⟨kb, hkb⟩ : ∃ kb : Bool, kb = decide (0 ≤ x3 ∧ x3 < 500 ∧ x0 ≤ x3 ∧ x3 ≤ x1) := ⟨_, rfl⟩
  have GS : ∀ tB w, TrRS w tB 500 (getM [⟨x0, x1, s⟩] ByteArray.empty) → Calls Try.prog 49 #[.pointer (some ⟨tB, 0, none⟩), .int .i64 x3] w fun e w' => e = .returned (.string (if kb = true then s else ByteArray.empty)) ∧ Kp w w' := fun tB w h => by
    have := getS tB 500 _ x3 w h
    have e : (if 0 ≤ x3 ∧ x3 < 500 then getM [⟨x0, x1, s⟩] ByteArray.empty x3 else ByteArray.empty) = (if kb = true then s else ByteArray.empty) := by
      rw [hkb]
      unfold getM getM
      dsimp only
      by_cases h1 : 0 ≤ x3 ∧ x3 < 500
      · by_cases h2 : x0 ≤ x3 ∧ x3 ≤ x1
        · rw [if_pos h1, if_pos h2, if_pos (decide_eq_true ⟨h1.1, h1.2, h2⟩)]
        · rw [if_pos h1, if_neg h2, if_neg (by simp; omega)]
      · rw [if_neg h1, if_neg (by simp; omega)]
    rw [e] at this
    exact this
  have GB : ∀ tB w, TrRB w tB 500 (getM [⟨x0, x1, true⟩] false) → Calls Try.prog 50 #[.pointer (some ⟨tB, 0, none⟩), .int .i64 x3] w fun e w' => e = .returned (.bool kb) ∧ Kp w w' := fun tB w h => by
    have := getB tB 500 _ x3 w h
    have e : (if 0 ≤ x3 ∧ x3 < 500 then getM [⟨x0, x1, true⟩] false x3 else false) = kb := by
      rw [hkb]
      unfold getM getM
      dsimp only
      by_cases h1 : 0 ≤ x3 ∧ x3 < 500
      · by_cases h2 : x0 ≤ x3 ∧ x3 ≤ x1
        · rw [if_pos h1, if_pos h2, decide_eq_true ⟨h1.1, h1.2, h2⟩]
        · rw [if_pos h1, if_neg h2, eq_comm]; simp; omega
      · rw [if_neg h1, eq_comm]; simp; omega
    rw [e] at this
    exact this
  have HGS := Lib.hid GS
  have HGB := Lib.hid GB
  have HKB := Lib.hid hkb
  clear GS GB hkb wf0 hs
  go_enter Try.func12, Try.ntmps12
  go_upto_region 3 with (first
    | (go_at_call 47; refine HA.out.mono ?_; rintro e w2 ⟨tA, rfl, hTA, k2⟩)
    | (go_at_call 48; refine (HB.out w2).mono ?_; rintro e w3 ⟨tC, rfl, hTC, k3⟩))
  have kw := k2.trans k3
  clear HA HB
  go_cut [11] (fun v wx => v = .bool kb ∧ wx = w3)
  case first =>
    by_cases c1 : 0 ≤ x3
    · by_cases c2 : x3 < 500
      · by_cases c3 : x0 ≤ x3
        · by_cases c4 : x3 ≤ x1
          · go_upto_region 4 with fail
            go_meet
            exact ⟨by rw [HKB.out, decide_eq_true ⟨c1, c2, c3, c4⟩], rfl⟩
          · have c4' : decide (x3 ≤ x1) = false := by simp; omega
            go_upto_region 4 with fail
            go_meet
            exact ⟨by rw [HKB.out, decide_eq_false (by omega)], rfl⟩
        · go_upto_region 4 with fail
          go_meet
          exact ⟨by rw [HKB.out, decide_eq_false (by omega)], rfl⟩
      · go_upto_region 4 with fail
        go_meet
        exact ⟨by rw [HKB.out, decide_eq_false (by omega)], rfl⟩
    · go_upto_region 4 with fail
      go_meet
      exact ⟨by rw [HKB.out, decide_eq_false (by omega)], rfl⟩
  case rest =>
    obtain ⟨rfl, rfl⟩ := hcut
    obtain ⟨w3, hw3⟩ : ∃ x : World, x = wc := ⟨_, rfl⟩
    subst hw3
    have G1 := HGS.out tA w3 (hTA.kp k3)
    have G2 := fun wx (k : Kp w3 wx) => HGB.out tC wx (hTC.kp k)
    clear HGS HGB hTA hTC HKB
    cases kb with
    | true =>
      rw [if_pos rfl] at G1
      have HG1 := Lib.hid G1
      have HG2 := Lib.hid G2
      clear G1 G2
      go_wp2_with (first
        | (go_at_call 49; refine HG1.out.mono ?_; rintro e w4 ⟨rfl, k4⟩)
        | (go_at_call 50; refine (HG2.out _ k4).mono ?_; rintro e w5 ⟨rfl, k5⟩)
        | (go_at_call 44; refine (awake03 _).mono ?_; rintro e w6 ⟨rfl, k6⟩))
      go_ret
      exact ⟨rfl, ((kw.trans k4).trans k5).trans k6⟩
    | false =>
      rw [if_neg (by simp)] at G1
      have HG1 := Lib.hid G1
      have HG2 := Lib.hid G2
      clear G1 G2
      go_wp2_with (first
        | (go_at_call 49; refine HG1.out.mono ?_; rintro e w4 ⟨rfl, k4⟩)
        | (go_at_call 50; refine (HG2.out _ k4).mono ?_; rintro e w5 ⟨rfl, k5⟩)
        | (go_at_call 44; refine (awake03 _).mono ?_; rintro e w6 ⟨rfl, k6⟩))
      go_ret
      exact ⟨rfl, ((kw.trans k4).trans k5).trans k6⟩
end Go.Proofs.Ytakbfppmgngdiaa
