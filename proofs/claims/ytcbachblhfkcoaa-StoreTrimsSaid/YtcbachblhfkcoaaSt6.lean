/-
  typebarref47: line: the line whose entry a text is. Conditions: not more than 100000 bytes.
-/
import Derived.Test.YtcbachblhfkcoaaSt5
namespace Go.Proofs.Ytcbachblhfkcoaa
open Go.RowKit

set_option maxRecDepth 100000 in
set_option maxHeartbeats 3200000 in
theorem lineR_any (s : ByteArray) (hs : s.size ≤ 100000) (w : World) : Calls Try.prog 56 #[.string s] w (RetO (slR (by8 s)) w) := by
  have hlen := by8_length s
  by_cases h3 : s.size < 3
  · have HE : Hid (slR (by8 s) = none) := by show _ = _; unfold slR; rw [if_neg (by omega)]
    have h3i : (s.size : Int) < 3 := by omega
    clear hlen
    go_enter Try.func56, Try.ntmps56
    go_wp2_with fail
    go_ret2
    rw [HE.out]
    exact ⟨none, 0, 0, rfl, (fun l h => by cases h), Kp.refl _⟩
  · obtain ⟨x, hx⟩ : ∃ x, x = (by8 s)[2]?.getD 0 := ⟨_, rfl⟩
    have hrix := fun wx : World => run_index_str (P := Try.prog) wx 9 s .i64 2 2 Try.underlying9 rfl (by omega) x hx.symm
    have h3i : decide ((s.size : Int) < 3) = false := decide_eq_false (by omega)
    have h2i : (2 : Int) ≤ (s.size : Int) := by omega
    have h3j : (3 : Int) ≤ (s.size : Int) := by omega
    by_cases hx32 : x = 32
    · subst hx32
      have HSR : Hid (slR (by8 s) = match unM ((by8 s).drop 3) with
        | some t => if entryM (decR t) = by8 s ++ [10] then some (decR t) else none
        | none => none) := by show _ = _; unfold slR; rw [if_pos ⟨by omega, hx.symm⟩]; rfl
      have HL := Lib.hid hlen
      clear hlen hx
      go_enter Try.func56, Try.ntmps56
      go_wp2_with fail
      clear hrix
      go_loopg [4, 5] (s.size - 3) (fun g tv i wr => ∃ (k : Nat) (o : List Int), k + g = s.size ∧ 3 ≤ k ∧ k ≤ s.size ∧ i = .int .i64 k ∧ tv = .string (bs o) ∧ Hid (isB o) ∧ Hid (unM ((by8 s).drop 3) = (unM ((by8 s).drop k)).map (o ++ ·)) ∧ o.length ≤ k ∧ Kp w wr)
      case atStart => exact ⟨3, [], by omega, by omega, by omega, rfl, rfl, isB_nil, (by show _ = _; simp : unM ((by8 s).drop 3) = (unM ((by8 s).drop 3)).map ([] ++ ·)), by simp, Kp.refl _⟩
      case round =>
        obtain ⟨k, o, hg, hk3, hk, rfl, rfl, hib, hf, hol, kw⟩ := hrel
        have hb1 : (bs o).size ≤ 100000 := by rw [bs_size]; omega
        by_cases hlt : k < s.size
        · have hdr : (by8 s).drop k = (by8 s)[k]?.getD 0 :: (by8 s).drop (k + 1) := by
            have hl : k < (by8 s).length := by rw [HL.out]; exact hlt
            rw [List.drop_eq_getElem_cons hl, List.getElem?_eq_getElem hl]; rfl
          obtain ⟨x0, x1⟩ := by8_bound s k
          obtain ⟨x, hx⟩ : ∃ x, x = (by8 s)[k]?.getD 0 := ⟨_, rfl⟩
          have hrix := run_index_str (P := Try.prog) wr 9 s .i64 k k Try.underlying9 rfl hlt x hx.symm
          rw [← hx] at x0 x1 hdr
          have hxe : s.extract k (k + 1) = bs [x] := by
            rw [← bs_by8 (s.extract k (k + 1)), by8_extract, hdr]
            simp
          clear hx
          by_cases h92 : x = 92
          · subst h92
            by_cases hk1 : k + 1 < s.size
            · have hdr2 : (by8 s).drop (k + 1) = (by8 s)[k + 1]?.getD 0 :: (by8 s).drop (k + 1 + 1) := by
                have hl : k + 1 < (by8 s).length := by rw [HL.out]; exact hk1
                rw [List.drop_eq_getElem_cons hl, List.getElem?_eq_getElem hl]; rfl
              obtain ⟨y, hy⟩ : ∃ y, y = (by8 s)[k + 1]?.getD 0 := ⟨_, rfl⟩
              have hriy := run_index_str (P := Try.prog) wr 9 s .i64 ((k : Int) + 1) (k + 1) Try.underlying9 (by omega) hk1 y hy.symm
              rw [← hy] at hdr2
              clear hy
              have hk1i : (k : Int) + 1 < (s.size : Int) := by omega
              by_cases h110 : y = 110
              · subst h110
                have HT : Hid (unM ((by8 s).drop 3) = (unM ((by8 s).drop (k + 1 + 1))).map ((o ++ [10]) ++ ·)) := by
                  show _ = _
                  refine advU hf.out ?_
                  rw [hdr, hdr2, unM_n]
                have HAP : Hid (bs (o ++ [10]) = bs o ++ ⟨#[10]⟩) := by show _ = _; rw [bs_app, bsL]
                have HIB : Hid (isB (o ++ [10])) := isB_app hib.out (by intro b hb; simp at hb; omega)
                clear hf hdr hdr2 hxe
                generalize bs o = s1 at *
                go_wp2_with fail
                go_roundg (s.size - (k + 1 + 1))
                case measure => omega
                case rel => exact ⟨k + 1 + 1, o ++ [10], by omega, by omega, by omega, by go_num, by rw [HAP.out], HIB, HT, by simp; omega, kw⟩
              · have b110 : (y == 110) = false := by simpa using h110
                by_cases h92 : y = 92
                · subst h92
                  have HT : Hid (unM ((by8 s).drop 3) = (unM ((by8 s).drop (k + 1 + 1))).map ((o ++ [92]) ++ ·)) := by
                    show _ = _
                    refine advU hf.out ?_
                    rw [hdr, hdr2, unM_b]
                  have HAP : Hid (bs (o ++ [92]) = bs o ++ ⟨#[92]⟩) := by show _ = _; rw [bs_app]; rfl
                  have HIB : Hid (isB (o ++ [92])) := isB_app hib.out (by intro b hb; simp at hb; omega)
                  clear hf hdr hdr2 hxe h110
                  generalize bs o = s1 at *
                  go_wp2_with fail
                  go_roundg (s.size - (k + 1 + 1))
                  case measure => omega
                  case rel => exact ⟨k + 1 + 1, o ++ [92], by omega, by omega, by omega, by go_num, by rw [HAP.out], HIB, HT, by simp; omega, kw⟩
                · have b92 : (y == 92) = false := by simpa using h92
                  have HE : Hid (slR (by8 s) = none) := by
                    show _ = _
                    rw [HSR.out, hf.out, hdr, hdr2, unM_bad (by simpa using h110) (by simpa using h92)]
                    rfl
                  clear hf hdr hdr2 h110 h92 hxe
                  go_wp2_with fail
                  go_ret2
                  rw [HE.out]
                  exact ⟨none, 0, 0, rfl, (fun l h => by cases h), kw⟩
            · have HE : Hid (slR (by8 s) = none) := by
                show _ = _
                rw [HSR.out, hf.out, hdr, List.drop_eq_nil_of_le (by rw [HL.out]; omega), unM_bad (by simp) (by simp)]
                rfl
              have hk1i : ¬ (k : Int) + 1 < (s.size : Int) := by omega
              clear hf hdr hxe
              go_wp2_with fail
              go_ret2
              rw [HE.out]
              exact ⟨none, 0, 0, rfl, (fun l h => by cases h), kw⟩
          · have b92 : (x != 92) = true := by simpa using h92
            have HT : Hid (unM ((by8 s).drop 3) = (unM ((by8 s).drop (k + 1))).map ((o ++ [x]) ++ ·)) := by
              show _ = _
              refine advU hf.out ?_
              rw [hdr, unM_c _ h92]
            have HAP : Hid (bs (o ++ [x]) = bs o ++ s.extract k (k + 1)) := by show _ = _; rw [bs_app, hxe]
            have HIB : Hid (isB (o ++ [x])) := isB_app hib.out (by intro b hb; simp at hb; omega)
            have hze : (s.extract k (k + 1)).size = 1 := by rw [ByteArray.size_extract]; omega
            have HZE := Lib.hid hze
            clear hf hdr h92 hxe hze
            generalize bs o = s1 at *
            go_wp2_with fail
            go_roundg (s.size - (k + 1))
            case measure => omega
            case rel => exact ⟨k + 1, o ++ [x], by omega, by omega, by omega, by go_num, by rw [HAP.out], HIB, HT, by simp; omega, kw⟩
        · obtain rfl : k = s.size := by omega
          have hun : unM ((by8 s).drop 3) = some o := by
            rw [hf.out, List.drop_eq_nil_of_le (by rw [HL.out]; omega), unM_nil]
            simp
          have HP : Hid (slR (by8 s) = if entryM (decR o) = by8 s ++ [10] then some (decR o) else none) := by show _ = _; rw [HSR.out, hun]
          have HDE := Lib.hid fun (wx : World) => refDecode_any (bs o) (by omega) wx
          rw [by8_bs hib.out] at HDE
          have hdl : (decR o).length ≤ 100000 := by have := decR_length o; omega
          have HEN := Lib.hid fun (wx : World) (F : Nat → Prop) (B : Option Addr) (n d : Nat) (hl : Ru wx F B n d (decR o)) => entryR_any F B n d (decR o) wx hl (by have := hl.len; omega)
          obtain ⟨bb, hbb⟩ : ∃ bb : Bool, bb = decide (entryM (decR o) = by8 s ++ [10]) := ⟨_, rfl⟩
          have HBB := Lib.hid hbb
          have HEQ : Hid (((bs (entryM (decR o))).toList == (s ++ ⟨#[10]⟩).toList) = bb) := by
            show _ = _
            rw [hbb, show s ++ ⟨#[10]⟩ = bs (by8 s ++ [10]) by rw [bs_app, bs_by8, bsL]]
            exact bs_beq (entryM_bd _) (isB_app (by8_bd s) (by intro b hb; simp at hb; omega))
          clear hf hun hbb hdl hol hb1
          generalize bs (entryM (decR o)) = s1 at *
          go_wp2_with (go_at_call 77; refine (HDE.out _).mono ?_; rintro e w3 ⟨A3, n3, c3, rfl, hr3, k3⟩; have kw3 := kw.trans k3)
          refine (HEN.out w3 _ A3 n3 c3 hr3).mono ?_
          rintro e w4 ⟨rfl, k4⟩
          go_wp2_with fail
          go_ret2
          have hval : (Value.bool (s1.toList == (s ++ ⟨#[10]⟩).toList)) = .bool (slR (by8 s)).isSome := by
            rw [HEQ.out, HP.out, HBB.out]
            by_cases h : entryM (decR o) = by8 s ++ [10]
            · rw [if_pos h, decide_eq_true h]; rfl
            · rw [if_neg h, decide_eq_false h]; rfl
          refine ⟨A3, n3, c3, congrArg (fun v => Ending.returned (.tuple #[.slice A3 n3 c3, v])) hval, fun l hl => ?_, kw3.trans k4⟩
          have hl2 : l = decR o := by
            rw [HP.out] at hl
            split at hl
            · cases hl; rfl
            · cases hl
          subst hl2
          exact (hr3.kp k4).weak fun g _ hg => by unfold From at *; have := kw.size; omega
    · have HE : Hid (slR (by8 s) = none) := by show _ = _; unfold slR; rw [if_neg (fun h => hx32 (hx.trans h.2))]
      have hb : (x != 32) = true := by simpa using hx32
      clear hlen hx hx32
      go_enter Try.func56, Try.ntmps56
      go_wp2_with fail
      go_ret2
      rw [HE.out]
      exact ⟨none, 0, 0, rfl, (fun l h => by cases h), Kp.refl _⟩
end Go.Proofs.Ytcbachblhfkcoaa
