/-
  package store and typebarref47: Trim. Conditions: not more than 1000 bytes.
-/
import Derived.Test.YtcbachblhfkcoaaSt14
import Derived.Test.YtcbachblhfkcoaaSt12
import Derived.WalkLawsBesides
namespace Go.Proofs.Ytcbachblhfkcoaa
open Go.RowKit

/-- What is read as a line is its entry. -/
theorem slM_entry {s l : List Int} (hs : ∀ b ∈ s, b ≠ 10) (h : slM s = some l) : entryM l = s ++ [10] ∧ decodeM (encM l) = l := by
  have h2 := slR_eq hs
  rw [h] at h2
  constructor
  · unfold slR at h2
    split at h2
    · cases hu : unM (s.drop 3) with
      | none => rw [hu] at h2; cases h2
      | some t =>
        rw [hu] at h2
        dsimp only at h2
        split at h2
        · cases h2; assumption
        · cases h2
    · cases h2
  · unfold slM at h
    split at h
    · cases hu : unM (s.drop 3) with
      | none => rw [hu] at h; cases h
      | some t =>
        rw [hu] at h
        dsimp only at h
        split at h
        · rename_i he
          cases h
          rw [he]
        · cases h
    · cases h
theorem notL_eq {x : Int} (h : notL x = false) : x = 10 := by unfold notL at h; simpa using h
theorem take_no10 {s : List Int} : ∀ b ∈ s.take (spanG notL s), b ≠ 10 := by
  intro b hb e
  obtain ⟨j, hj, hbj⟩ := List.getElem_of_mem hb
  rw [List.length_take] at hj
  have h := spanG_all (p := notL) s j (by omega)
  rw [List.getElem_take] at hbj
  rw [List.getElem?_eq_getElem (by omega), Option.getD_some, hbj, e] at h
  cases h
/-- What was read stands at the beginning, entry by entry; each line is what its bytes say. -/
theorem read_take : ∀ (n : Nat) (s : List Int), s.length ≤ n → s = allM (readF s).1 ++ s.drop (readF s).2 ∧ (allM (readF s).1).length = (readF s).2 ∧ ∀ x ∈ (readF s).1, decodeM (encM x) = x
  | 0, s, h => by
    obtain rfl : s = [] := List.eq_nil_of_length_eq_zero (by omega)
    simp [readF, readG, allM]
  | n + 1, s, h => by
    rw [readF_eq]
    split
    · simp [allM]
    · rename_i hne
      have hle := spanG_le notL s
      have hst := spanG_stop (p := notL) s (by omega)
      split
      · simp [allM]
      · rename_i l hl
        obtain ⟨he, hd⟩ := slM_entry take_no10 hl
        obtain ⟨i1, i2, i3⟩ := read_take n (s.drop (spanG notL s + 1)) (by rw [List.length_drop]; omega)
        dsimp only
        have hs10 : s[spanG notL s]?.getD 0 = 10 := notL_eq hst
        have hsp : s = s.take (spanG notL s) ++ 10 :: s.drop (spanG notL s + 1) := by
          have hlt : spanG notL s < s.length := by omega
          have h1 := (List.take_append_drop (spanG notL s) s).symm
          rw [List.drop_eq_getElem_cons hlt] at h1
          rw [List.getElem?_eq_getElem hlt, Option.getD_some] at hs10
          rw [hs10] at h1
          exact h1
        have hel : (entryM l).length = spanG notL s + 1 := by rw [he, List.length_append, List.length_take]; simp; omega
        refine ⟨?_, by rw [allM_cons, List.length_append, i2, hel], fun x hx => ?_⟩
        · rw [allM_cons, he, ← List.drop_drop]
          calc s = s.take (spanG notL s) ++ 10 :: s.drop (spanG notL s + 1) := hsp
            _ = s.take (spanG notL s) ++ 10 :: (allM (readF (s.drop (spanG notL s + 1))).1 ++ (s.drop (spanG notL s + 1)).drop (readF (s.drop (spanG notL s + 1))).2) := by rw [← i1]
            _ = _ := by simp
        · rcases List.mem_cons.1 hx with rfl | hx
          · exact hd
          · exact i3 x hx
/-- How many lines go. -/
def dropN (len : Nat) (n : Int) : Nat := len - (min (max n 0) len).toNat
theorem allM_split (L : List (List Int)) (k : Nat) : allM L = allM (L.take k) ++ allM (L.drop k) := by unfold allM; rw [← List.flatMap_append, List.take_append_drop]
theorem drop_at {L : List (List Int)} {rest : List Int} (k : Nat) : (allM L ++ rest).drop (allM (L.take k)).length = allM (L.drop k) ++ rest := by
  rw [allM_split L k, List.append_assoc]
  exact List.drop_left' rfl
/-- One line on. -/
theorem step_at {L : List (List Int)} {rest : List Int} {k : Nat} (hk : k < L.length) : spanG notL ((allM L ++ rest).drop (allM (L.take k)).length) + 1 = (entryM (L[k]?.getD [])).length ∧
    spanG notL ((allM L ++ rest).drop (allM (L.take k)).length) ≠ ((allM L ++ rest).drop (allM (L.take k)).length).length ∧ (allM (L.take (k + 1))).length = (allM (L.take k)).length + (entryM (L[k]?.getD [])).length := by
  have hd : L.drop k = L[k] :: L.drop (k + 1) := List.drop_eq_getElem_cons hk
  rw [drop_at, hd, allM_cons, List.append_assoc, span_body, List.getElem?_eq_getElem hk, Option.getD_some]
  have hel : (entryM L[k]).length = (bodyM L[k]).length + 1 := by rw [entryM_body]; simp
  refine ⟨hel.symm, by rw [List.length_append]; omega, ?_⟩
  rw [List.take_succ_eq_append_getElem hk, allM_snoc, List.length_append]

set_option maxRecDepth 100000 in
set_option maxHeartbeats 3200000 in
theorem trim_any (s : ByteArray) (hs : s.size ≤ 1000) (n : Int) (w : World) :
    Calls Try.prog 38 #[.string s, .int .i64 n] w fun e w' => e = .returned (.string (bs (allM ((readF (by8 s)).1.drop (dropN (readF (by8 s)).1.length n))))) ∧ Kp w w' := by
  have HRD := Lib.hid fun wx => storeRead_any s (by omega) wx
  obtain ⟨h1, h2, _⟩ := read_take _ (by8 s) (Nat.le_refl _)
  have hll := (readF_len _ (by8 s) (Nat.le_refl _)).2
  have hlk := (readF_len _ (by8 s) (Nat.le_refl _)).1
  rw [by8_length] at hll hlk
  obtain ⟨ls, hls⟩ : ∃ ls, ls = (readF (by8 s)).1 := ⟨_, rfl⟩
  obtain ⟨N, hN⟩ : ∃ N, N = (readF (by8 s)).2 := ⟨_, rfl⟩
  rw [← hls, ← hN] at HRD h1 h2
  rw [← hls] at hll ⊢
  rw [← hN] at hlk
  have H1 := Lib.hid h1
  have H2 := Lib.hid h2
  have HL8 := Lib.hid (by8_length s)
  obtain ⟨m, hm⟩ : ∃ m, m = ls.length := ⟨_, rfl⟩
  rw [← hm] at hll ⊢
  have HM := Lib.hid hm
  clear hls hN h1 h2 hm
  obtain ⟨D, hD⟩ : ∃ D, D = dropN m n := ⟨_, rfl⟩
  have hDm : D ≤ m := by rw [hD]; unfold dropN; omega
  have hDv : (m : Int) - min (max n 0) (m : Int) = (D : Int) := by rw [hD]; unfold dropN; omega
  rw [← hD]
  have HD := Lib.hid hDv
  clear hD hDv
  go_enter Try.func38, Try.ntmps38
  go_wp2_with fail
  refine (HRD.out w).mono ?_
  rintro e w2 ⟨A2, n2, c2, vs2, rfl, ho2, k2⟩
  obtain rfl : m = n2 := by rw [HM.out]; exact ho2.txs.len
  clear ho2
  go_upto_region 3 with fail
  rw [HD.out]
  have hNs : N ≤ s.size := hlk
  go_wp2_with fail
  go_loopg [8, 23] D (fun g av iv wr => ∃ (k : Nat), k + g = D ∧ k ≤ D ∧ iv = .int .i64 k ∧ av = .int .i64 ((allM (ls.take k)).length : Int) ∧ Kp w wr)
  case atStart => exact ⟨0, by omega, by omega, rfl, rfl, k2⟩
  case round =>
    obtain ⟨k, hk, hkD, rfl, rfl, kw⟩ := hrel
    have hat : (allM (ls.take k)).length ≤ N := by rw [← H2.out]; exact allM_take_len ls k
    obtain ⟨a, ha⟩ : ∃ a, a = (allM (ls.take k)).length := ⟨_, rfl⟩
    by_cases hlt : k < D
    · obtain ⟨e1, e2, e3⟩ := step_at (rest := (by8 s).drop N) (show k < ls.length by rw [← HM.out]; omega)
      rw [← H1.out] at e1 e2
      have hat2 : (allM (ls.take (k + 1))).length ≤ N := by rw [← H2.out]; exact allM_take_len ls (k + 1)
      rw [← ha] at hat e1 e2 e3 ⊢
      have HIX := Lib.hid fun (wx : World) => Try.strings_IndexByte (s.extract a s.size) 10 wx
      rw [index_str, by8_from, if_neg e2] at HIX
      obtain ⟨sp, hsp⟩ : ∃ sp, sp = spanG notL ((by8 s).drop a) := ⟨_, rfl⟩
      rw [← hsp] at HIX e1
      have hspb : a + sp + 1 ≤ N := by omega
      have HT : Hid ((allM (ls.take (k + 1))).length = a + (sp + 1)) := by show _ = _; omega
      clear e1 e2 e3 hsp ha hat2
      go_wp2_with (go_at_call 54; refine (HIX.out _).mono ?_; rintro e w2 ⟨rfl, hw2⟩; replace hw2 := hw2.symm; subst hw2)
      go_roundg (D - (k + 1))
      case measure => omega
      case rel => exact ⟨k + 1, by omega, by omega, by go_num, by rw [HT.out]; go_num, kw⟩
    · obtain rfl : k = D := by omega
      have HF : Hid (s.extract a N = bs (allM (ls.drop k))) := by
        show _ = _
        rw [← bs_by8 (s.extract a N), by8_extract]
        congr 1
        have h := drop_at (L := ls) (rest := (by8 s).drop N) k
        rw [← H1.out, ← ha] at h
        rw [h, List.take_append_of_le_length, List.take_of_length_le]
        · have := allM_split ls k; have h3 := H2.out; rw [this, List.length_append, ← ha] at h3; omega
        · have := allM_split ls k; have h3 := H2.out; rw [this, List.length_append, ← ha] at h3; omega
      rw [← ha] at hat ⊢
      clear ha
      go_wp2_with fail
      go_ret
      exact ⟨congrArg (fun x => Ending.returned (Value.string x)) HF.out, kw⟩

set_option maxRecDepth 100000 in
set_option maxHeartbeats 3200000 in
theorem trimR_any (s : ByteArray) (hs : s.size ≤ 1000) (n : Int) (w : World) :
    Calls Try.prog 39 #[.string s, .int .i64 n] w fun e w' => e = .returned (.string (bs (allM ((readF (by8 s)).1.drop (dropN (readF (by8 s)).1.length n))))) ∧ Kp w w' := by
  have HRD := Lib.hid fun wx => readR_any s (by omega) wx
  have hll := (readF_len _ (by8 s) (Nat.le_refl _)).2
  have hlm := readF_mem _ (by8 s) (Nat.le_refl _)
  obtain ⟨_, h2, _⟩ := read_take _ (by8 s) (Nat.le_refl _)
  have hlk := (readF_len _ (by8 s) (Nat.le_refl _)).1
  rw [by8_length] at hll hlm hlk
  obtain ⟨ls, hls⟩ : ∃ ls, ls = (readF (by8 s)).1 := ⟨_, rfl⟩
  rw [← hls] at HRD hll hlm h2 ⊢
  have htot : (allM ls).length ≤ 1000 := by omega
  generalize (readF (by8 s)).2 = N at *
  have HTOT := Lib.hid htot
  have HLM := Lib.hid hlm
  obtain ⟨m, hm⟩ : ∃ m, m = ls.length := ⟨_, rfl⟩
  obtain ⟨D, hD⟩ : ∃ D, D = dropN m n := ⟨_, rfl⟩
  have hDD : ∀ k : Nat, k < m → ((m : Int) - (k : Int) ≤ n ↔ D ≤ k) := fun k hk => by rw [hD]; unfold dropN; omega
  have HDD := Lib.hid hDD
  have hm1 : m ≤ 1000 := by omega
  rw [← hm, ← hD]
  have HM := Lib.hid hm.symm
  clear hls hlm h2 hlk htot hDD hD hm hll
  go_enter Try.func39, Try.ntmps39
  go_wp2_with fail
  refine (HRD.out w).mono ?_
  rintro e w2 ⟨A2, n2, c2, vs2, rfl, ho2, k2⟩
  have hT2 := ho2.txs
  obtain rfl : m = n2 := by have := hT2.len; have := HM.out; omega
  have hle2 := hT2.le
  have hc2 := hT2.cap
  unfold maxLen at hc2
  clear ho2
  go_wp2_with fail
  go_loopg [7, 8] m (fun g tv iv wr => ∃ (k : Nat), k + g = m ∧ iv = .int .i64 k ∧ tv = .string (bs (allM ((ls.take k).drop D))) ∧ Kp w2 wr)
  case atStart => exact ⟨0, by omega, rfl, by simp [allM, bs_nil], Kp.refl _⟩
  case round =>
    obtain ⟨k, hk, rfl, rfl, kw⟩ := hrel
    by_cases hlt : k < m
    · obtain ⟨ad, B, q, d, rfl, hc, hr⟩ := (hT2.kp kw).get hlt
      have hlL : k < ls.length := by rw [HM.out]; exact hlt
      have hx1 : (ls[k]?.getD []).length ≤ 1000 := by rw [List.getElem?_eq_getElem hlL, Option.getD_some]; have := HLM.out _ (List.getElem_mem hlL); omega
      have hdk := HDD.out k hlt
      have hb1 : (bs (allM ((ls.take k).drop D))).size ≤ 1000 := by
        rw [bs_size]
        have h1 := allM_split (ls.take k) D
        have h2 := allM_take_len ls k
        have h3 := HTOT.out
        rw [h1, List.length_append] at h2
        omega
      by_cases hfit : D ≤ k
      · have hts : allM ((ls.take (k + 1)).drop D) = allM ((ls.take k).drop D) ++ entryM (ls[k]?.getD []) := by
          rw [List.take_succ_eq_append_getElem hlL, List.drop_append_of_le_length (by rw [List.length_take]; omega), allM_snoc, List.getElem?_eq_getElem hlL]; rfl
        have HTS : Hid (bs (allM ((ls.take (k + 1)).drop D)) = bs (allM ((ls.take k).drop D)) ++ bs (entryM (ls[k]?.getD []))) := by show _ = _; rw [hts, bs_app]
        have HEN := Lib.hid (entryR_any _ B q d (ls[k]?.getD []) wr hr (by rw [← hr.len]; omega))
        have hez : (bs (entryM (ls[k]?.getD []))).size ≤ 10000 := by rw [bs_size, entryM_len]; have := textM_len (ls[k]?.getD []); omega
        have hni : (m : Int) - (k : Int) ≤ n := hdk.2 hfit
        clear hts hr hx1 hdk
        generalize bs (allM ((ls.take k).drop D)) = s1 at *
        generalize bs (entryM (ls[k]?.getD [])) = s2 at *
        go_wp2_with (go_at_call 29; refine HEN.out.mono ?_; rintro e w3 ⟨rfl, k3⟩)
        go_roundg (m - (k + 1))
        case measure => omega
        case rel => exact ⟨k + 1, by omega, by go_num, by rw [HTS.out], kw.trans k3⟩
      · have HTS : Hid (allM ((ls.take (k + 1)).drop D) = allM ((ls.take k).drop D)) := by
          show _ = _
          rw [List.drop_eq_nil_of_le (by rw [List.length_take]; omega), List.drop_eq_nil_of_le (by rw [List.length_take]; omega)]
        have hni : ¬ (m : Int) - (k : Int) ≤ n := fun h => hfit (hdk.1 h)
        clear hr hx1 hdk
        go_wp2_with fail
        go_roundg (m - (k + 1))
        case measure => omega
        case rel => exact ⟨k + 1, by omega, by go_num, by rw [HTS.out], kw⟩
    · obtain rfl : k = m := by omega
      have hta : ls.take k = ls := List.take_of_length_le (by rw [HM.out]; omega)
      rw [hta]
      clear hta
      go_wp2_with fail
      go_ret
      exact ⟨rfl, k2.trans kw⟩
end Go.Proofs.Ytcbachblhfkcoaa
