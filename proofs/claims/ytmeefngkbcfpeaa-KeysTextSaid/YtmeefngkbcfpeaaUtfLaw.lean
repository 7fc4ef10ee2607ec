/-
  UTF-8, the plain law: the decoder that takes byte by byte answers as the document says. No program.
-/
import Derived.Test.YtmeefngkbcfpeaaUtfRM
namespace Go.Proofs.Ytmeefngkbcfpeaa

theorem rowGo_take (l : List Int) (j : Nat) : ∀ (f n : Nat), rowGo l f n ≤ j → (0 < j) → rowGo (l.take j) f n = rowGo l f n
  | 0, n, _, _ => rfl
  | f + 1, n, h, hj => by
    have h0 : (l.take j)[0]?.getD 0 = l[0]?.getD 0 := by rw [List.getElem?_take, if_pos hj]
    by_cases hc : n < l.length ∧ n < longM (l[0]?.getD 0) ∧ mayM l n = true
    · rw [rowGo, if_pos hc] at h
      have hn : n < j := by have := rowGo_ge l f (n + 1); omega
      have hm : mayM (l.take j) n = mayM l n := by unfold mayM; rw [h0, List.getElem?_take, if_pos hn]
      have hc' : n < (l.take j).length ∧ n < longM ((l.take j)[0]?.getD 0) ∧ mayM (l.take j) n = true := ⟨by simp; omega, by rw [h0]; exact hc.2.1, by rw [hm]; exact hc.2.2⟩
      rw [rowGo, if_pos hc', rowGo_take l j f (n + 1) h hj, rowGo, if_pos hc]
    · have h1 := rowGo_stop l (f + 1) n hc
      rw [h1]
      apply rowGo_stop
      rintro ⟨a1, a2, a3⟩
      have hn : n < j := by simp at a1; omega
      apply hc
      refine ⟨by simp at a1; omega, by rw [← h0]; exact a2, ?_⟩
      unfold mayM at a3 ⊢
      rw [h0, List.getElem?_take, if_pos hn] at a3
      exact a3
theorem rowN_take (l : List Int) (j : Nat) (h : rowN l ≤ j) (hj : 0 < j) : rowN (l.take j) = rowN l := rowGo_take l j 4 0 h hj
theorem rowW_take (l : List Int) (j : Nat) (h : rowN l ≤ j) (hj : 0 < j) : rowW (l.take j) = rowW l := by
  have h0 : (l.take j)[0]?.getD 0 = l[0]?.getD 0 := by rw [List.getElem?_take, if_pos hj]
  unfold rowW
  rw [rowN_take l j h hj, h0]

/-- Each byte of a row may stand where it stands. -/
theorem rowGo_may (l : List Int) : ∀ (f n : Nat), ∀ i, n ≤ i → i < rowGo l f n → mayM l i = true
  | 0, n, i, h, h' => by simp [rowGo] at h'; omega
  | f + 1, n, i, h, h' => by
    by_cases hc : n < l.length ∧ n < longM (l[0]?.getD 0) ∧ mayM l n = true
    · rw [rowGo, if_pos hc] at h'
      by_cases hi : i = n
      · subst hi; exact hc.2.2
      · exact rowGo_may l f (n + 1) i (by omega) h'
    · rw [rowGo_stop l (f + 1) n hc] at h'
      omega
theorem rowN_may (l : List Int) (i : Nat) (h : i < rowN l) : mayM l i = true := rowGo_may l 4 0 i (Nat.zero_le _) h
theorem rowN_long (l : List Int) : rowN l ≤ longM (l[0]?.getD 0) := (rowGo_le l 4 0 (Nat.zero_le _) (by have := (longM_le (l[0]?.getD 0)).1; omega)).2
/-- Where a row stops. -/
theorem rowGo_stops (l : List Int) : ∀ (f n : Nat), f + n = 4 → ¬ (rowGo l f n < l.length ∧ rowGo l f n < longM (l[0]?.getD 0) ∧ mayM l (rowGo l f n) = true)
  | 0, n, h => by
    have := (longM_le (l[0]?.getD 0)).2
    simp only [rowGo]
    omega
  | f + 1, n, h => by
    by_cases hc : n < l.length ∧ n < longM (l[0]?.getD 0) ∧ mayM l n = true
    · rw [rowGo, if_pos hc]
      exact rowGo_stops l f (n + 1) (by omega)
    · rw [rowGo_stop l (f + 1) n hc]
      exact hc
theorem rowN_stops (l : List Int) : ¬ (rowN l < l.length ∧ rowN l < longM (l[0]?.getD 0) ∧ mayM l (rowN l) = true) := rowGo_stops l 4 0 rfl

/-- What the lead of a row gives to its value. -/
def leadM (c : Int) : Int := if c < 224 then c - 192 else if c < 240 then c - 224 else c - 240
theorem valGo_snoc (b : Int) : ∀ (l : List Int) (v : Int), valGo v (l ++ [b]) = 64 * valGo v l + b - 128
  | [], v => rfl
  | a :: l, v => by simp only [List.cons_append, valGo]; exact valGo_snoc b l _
theorem valueM_lead (p : List Int) (h : p.length = longM (p[0]?.getD 0)) (h2 : 2 ≤ p.length) : valueM p = valGo (leadM (p[0]?.getD 0)) (p.drop 1) := by
  unfold valueM leadM
  rw [if_neg (by omega), h]
  unfold longM at h ⊢
  congr 1
  (repeat' split) <;> (first | rfl | omega)

/-- What the decoder is behind a row that is not whole; and what it tells of one that is. -/
def Good (p : List Int) (r : Dm × List Int) : Prop :=
  (p.length < longM (p[0]?.getD 0) → r.2 = [] ∧ r.1.need = (longM (p[0]?.getD 0) : Int) - p.length ∧ r.1.has = p.length ∧ r.1.val = valGo (leadM (p[0]?.getD 0)) (p.drop 1) ∧ ∀ b, (¬ (b < r.1.low ∨ r.1.high < b)) ↔ mayB (p[0]?.getD 0) b p.length = true) ∧
  (p.length = longM (p[0]?.getD 0) → r = (Dm.zero, [valueM p]))

theorem good1 (a : Int) (h : mayB a a 0 = true) : Good [a] (feedsM Dm.zero [a]) := by
  simp only [mayB, if_true, Bool.or_eq_true, Bool.and_eq_true, decide_eq_true_eq] at h
  by_cases h1 : a < 128
  · refine ⟨fun hl => ?_, fun _ => ?_⟩
    · simp [longM, h1] at hl
    · simp [feedsM, feedM, Dm.zero, firstM, h1, valueM]
  · have h2 : ¬ (a < 194 ∨ 244 < a) := by omega
    have e : feedsM Dm.zero [a] = firstM a := by simp [feedsM, feedM, Dm.zero]
    rw [e]
    refine ⟨fun _ => ?_, fun hl => ?_⟩
    · simp only [firstM, if_neg h1, if_neg h2, List.length_singleton, List.getElem?_cons_zero, Option.getD_some, true_and]
      refine ⟨?_, rfl, ?_, fun b => ?_⟩
      · unfold longM
        (repeat' split) <;> omega
      · simp only [List.drop_succ_cons, List.drop_zero, valGo]
        unfold leadM
        (repeat' split) <;> omega
      · unfold mayB
        (repeat' split) <;> simp <;> omega
    · simp only [List.length_singleton, List.getElem?_cons_zero, Option.getD_some] at hl
      unfold longM at hl
      (repeat' split at hl) <;> omega

theorem mayB_range (c b : Int) (i : Nat) (hi : 1 ≤ i) (h : mayB c b i = true) : 128 ≤ b ∧ b ≤ 191 := by
  unfold mayB at h
  rw [if_neg (by omega)] at h
  (repeat' split at h) <;> simp at h <;> omega

theorem good_snoc (p : List Int) (b : Int) (hp : 1 ≤ p.length) (hl : p.length < longM (p[0]?.getD 0)) (hm : mayB (p[0]?.getD 0) b p.length = true) (h : Good p (feedsM Dm.zero p)) : Good (p ++ [b]) (feedsM Dm.zero (p ++ [b])) := by
  have h0 : (p ++ [b])[0]?.getD 0 = p[0]?.getD 0 := by rw [List.getElem?_append_left (by omega)]
  have hd1 : (p ++ [b]).drop 1 = p.drop 1 ++ [b] := by rw [List.drop_append_of_le_length hp]
  obtain ⟨g1, _⟩ := h
  obtain ⟨e2, en, eh, ev, eb⟩ := g1 hl
  have hin := (eb b).2 hm
  obtain ⟨r1, r2⟩ := mayB_range _ _ _ hp hm
  have hmod : b % 64 = b - 128 := by omega
  rw [feedsM_snoc, e2, List.nil_append]
  have hf : feedM (feedsM Dm.zero p).1 b = if (feedsM Dm.zero p).1.need = 1 then (Dm.zero, [(feedsM Dm.zero p).1.val * 64 + b % 64]) else (⟨(feedsM Dm.zero p).1.need - 1, (feedsM Dm.zero p).1.has + 1, 128, 191, (feedsM Dm.zero p).1.val * 64 + b % 64⟩, []) := by
    unfold feedM
    rw [if_neg (by omega), if_neg hin]
  have hval : (feedsM Dm.zero p).1.val * 64 + b % 64 = valGo (leadM (p[0]?.getD 0)) (p.drop 1 ++ [b]) := by rw [valGo_snoc, ev, hmod]; omega
  rw [hf]
  unfold Good
  rw [h0, hd1, List.length_append, List.length_singleton]
  refine ⟨fun hl2 => ?_, fun hl2 => ?_⟩
  · rw [if_neg (by omega)]
    refine ⟨rfl, ?_, ?_, hval, fun b' => ?_⟩
    · show _ - 1 = _; omega
    · show _ + 1 = _; omega
    · show ¬ (b' < 128 ∨ 191 < b') ↔ _
      unfold mayB
      rw [if_neg (by omega), if_neg (by omega)]
      simp
  · rw [if_pos (by omega), hval]
    rw [valueM_lead (p ++ [b]) (by rw [h0, List.length_append, List.length_singleton]; exact hl2) (by simp; omega), h0, hd1]

/-- Behind any beginning of a row. -/
theorem good_row (l : List Int) (n : Nat) (h1 : 1 ≤ n) (hn : n ≤ rowN l) : Good (l.take n) (feedsM Dm.zero (l.take n)) := by
  have hlen := (rowN_le l).1
  induction n with
  | zero => omega
  | succ n ih =>
    have hm := rowN_may l n (by omega)
    have hll : n < l.length := by omega
    have hlong := rowN_long l
    by_cases hz : n = 0
    · subst hz
      have e : l.take 1 = [l[0]?.getD 0] := by
        cases l with
        | nil => simp at hll
        | cons a l => simp
      rw [Nat.zero_add, e]
      exact good1 _ hm
    · have e : l.take (n + 1) = l.take n ++ [l[n]?.getD 0] := by
        rw [List.take_succ_eq_append_getElem hll, List.getElem?_eq_getElem hll]; rfl
      have h0 : (l.take n)[0]?.getD 0 = l[0]?.getD 0 := by rw [List.getElem?_take, if_pos (by omega)]
      have hln : (l.take n).length = n := by simp; omega
      rw [e]
      refine good_snoc _ _ (by omega) (by rw [h0, hln]; omega) ?_ (ih (by omega) (by omega))
      rw [h0, hln]
      exact hm

/-- THE LAW: what is told, what waits, what is told at the end. -/
theorem feedsM_law : ∀ (f : Nat) (l : List Int), l.length ≤ f →
    (feedsM Dm.zero l).2 ++ endM (feedsM Dm.zero l).1 = decR l ∧ (feedsM Dm.zero l).1.has = waitR l ∧ waitR l ≤ l.length ∧ (feedsM Dm.zero l).2 = decR (l.take (l.length - waitR l)) := by
  intro f
  induction f with
  | zero =>
    intro l hl
    have : l = [] := List.eq_nil_of_length_eq_zero (by omega)
    subst this
    simp [feedsM, Dm.zero, endM, decR_nil, waitR_nil]
  | succ f ih =>
    intro l hl
    by_cases hne : l = []
    · subst hne
      simp [feedsM, Dm.zero, endM, decR_nil, waitR_nil]
    · have hpos : 0 < l.length := List.length_pos_iff.2 hne
      have hrl := rowN_le l
      have hlong := rowN_long l
      have hW : rowW l = true ↔ (0 < rowN l ∧ rowN l = longM (l[0]?.getD 0)) := by unfold rowW; simp
      by_cases hpend : rowW l = false ∧ 0 < rowN l ∧ rowN l = l.length
      · obtain ⟨hw, hn, hnl⟩ := hpend
        have hlt : rowN l ≠ longM (l[0]?.getD 0) := fun h => by rw [hW.2 ⟨hn, h⟩] at hw; cases hw
        have hg := good_row l l.length (by omega) (by omega)
        rw [List.take_length] at hg
        obtain ⟨e2, en, eh, _, _⟩ := hg.1 (by omega)
        have hwr : waitR l = l.length := by rw [waitR_cons l hne, if_pos ⟨hw, hn, hnl⟩, hnl]
        refine ⟨?_, ?_, by omega, ?_⟩
        · have e := decR_cons l hne
          rw [hw, hnl, if_neg (show ¬ l.length = 0 by omega), List.drop_length, decR_nil] at e
          rw [e2, e]
          unfold endM
          rw [if_neg (by omega)]
          simp
        · rw [eh, hwr]
        · rw [e2, hwr, Nat.sub_self]; rfl
      · have hwr : waitR l = waitR (l.drop (if rowN l = 0 then 1 else rowN l)) := by rw [waitR_cons l hne, if_neg hpend]
        obtain ⟨k, hk⟩ : ∃ k, k = (if rowN l = 0 then 1 else rowN l) := ⟨_, rfl⟩
        obtain ⟨ch, hch⟩ : ∃ ch, ch = (if rowW l = true then valueM (l.take (rowN l)) else 65533) := ⟨_, rfl⟩
        have hk1 : 1 ≤ k ∧ k ≤ l.length ∧ rowN l ≤ k := by rw [hk]; split <;> omega
        have hdc := decR_cons l hne
        rw [← hk, ← hch] at hdc
        rw [← hk] at hwr
        -- the chunk is told
        have hstep : feedsM Dm.zero l = ((feedsM Dm.zero (l.drop k)).1, ch :: (feedsM Dm.zero (l.drop k)).2) := by
          by_cases hw : rowW l = true
          · obtain ⟨hn, hnl⟩ := hW.1 hw
            have hkn : k = rowN l := by rw [hk, if_neg (by omega)]
            have hg := good_row l (rowN l) (by omega) (Nat.le_refl _)
            have h0 : (l.take (rowN l))[0]?.getD 0 = l[0]?.getD 0 := by rw [List.getElem?_take, if_pos hn]
            have hln : (l.take (rowN l)).length = rowN l := by simp; omega
            have hz := hg.2 (by rw [h0, hln]; exact hnl)
            conv => lhs; rw [← List.take_append_drop (rowN l) l, feedsM_append, hz]
            rw [hch, if_pos hw, hkn]
            rfl
          · have hw' : rowW l = false := by simpa using hw
            rw [if_neg hw] at hch
            by_cases hn : rowN l = 0
            · have hkn : k = 1 := by rw [hk, if_pos hn]
              have hs := rowN_stops l
              rw [hn] at hs
              cases l with
              | nil => exact absurd rfl hne
              | cons a l =>
                have hma : ¬ (mayB a a 0 = true) := by
                  intro h
                  apply hs
                  refine ⟨by simp, by have := (longM_le ((a :: l)[0]?.getD 0)).1; omega, ?_⟩
                  simpa [mayM] using h
                have hfa : firstM a = (Dm.zero, [65533]) := by
                  unfold mayB at hma
                  simp at hma
                  unfold firstM
                  rw [if_neg (by omega), if_pos (by omega)]
                rw [hkn, hch]
                show feedsM Dm.zero (a :: l) = _
                have hfe : feedM Dm.zero a = firstM a := by simp [feedM, Dm.zero]
                rw [feedsM, hfe, hfa]
                rfl
            · have hkn : k = rowN l := by rw [hk, if_neg hn]
              have hlt : rowN l ≠ longM (l[0]?.getD 0) := fun h => by rw [hW.2 ⟨by omega, h⟩] at hw'; cases hw'
              have hll : rowN l < l.length := by
                rcases Nat.lt_or_ge (rowN l) l.length with h | h
                · exact h
                · exact absurd ⟨hw', by omega, by omega⟩ hpend
              have hs := rowN_stops l
              have hmay : ¬ (mayM l (rowN l) = true) := fun h => hs ⟨hll, by omega, h⟩
              have hg := good_row l (rowN l) (by omega) (Nat.le_refl _)
              have h0 : (l.take (rowN l))[0]?.getD 0 = l[0]?.getD 0 := by rw [List.getElem?_take, if_pos (by omega)]
              have hln : (l.take (rowN l)).length = rowN l := by simp; omega
              obtain ⟨e2, en, _, _, eb⟩ := hg.1 (by rw [h0, hln]; omega)
              rw [h0, hln] at en eb
              have hdrop : l.drop (rowN l) = l[rowN l] :: l.drop (rowN l + 1) := List.drop_eq_getElem_cons hll
              have hmb : ¬ (mayB (l[0]?.getD 0) (l[rowN l]) (rowN l) = true) := by
                have : l[rowN l]?.getD 0 = l[rowN l] := by rw [List.getElem?_eq_getElem hll]; rfl
                rw [← this]; exact hmay
              have hout : l[rowN l] < (feedsM Dm.zero (l.take (rowN l))).1.low ∨ (feedsM Dm.zero (l.take (rowN l))).1.high < l[rowN l] := by
                apply Classical.byContradiction
                intro h
                exact hmb ((eb _).1 h)
              have hf1 : feedM (feedsM Dm.zero (l.take (rowN l))).1 l[rowN l] = ((firstM l[rowN l]).1, 65533 :: (firstM l[rowN l]).2) := by
                unfold feedM
                rw [if_neg (by omega), if_pos hout]
              have hf2 : feedM Dm.zero l[rowN l] = firstM l[rowN l] := by simp [feedM, Dm.zero]
              conv => lhs; rw [← List.take_append_drop (rowN l) l, feedsM_append, e2, hdrop, feedsM, hf1]
              rw [hkn, hch, hdrop, feedsM, hf2]
              simp
        obtain ⟨i1, i2, i3, i4⟩ := ih (l.drop k) (by simp; omega)
        rw [List.length_drop] at i3 i4
        refine ⟨?_, ?_, by omega, ?_⟩
        · rw [hstep, hdc]
          simp only [List.cons_append]
          rw [i1]
        · rw [hstep, hwr]; exact i2
        · rw [hstep, hwr]
          show ch :: _ = _
          obtain ⟨j, hj⟩ : ∃ j, j = l.length - waitR (l.drop k) := ⟨_, rfl⟩
          rw [← hj]
          have hjk : k ≤ j := by omega
          have htn : l.take j ≠ [] := by
            intro h
            have := congrArg List.length h
            rw [List.length_take, List.length_nil] at this
            omega
          rw [decR_cons _ htn, rowN_take l j (by omega) (by omega), rowW_take l j (by omega) (by omega), ← hk, List.take_take, Nat.min_eq_left (by omega), ← hch, i4]
          rw [List.drop_take, show l.length - k - waitR (l.drop k) = j - k from by omega]

theorem decode_law (l : List Int) : decodeM l = decR l := (feedsM_law _ l (Nat.le_refl _)).1
end Go.Proofs.Ytmeefngkbcfpeaa
