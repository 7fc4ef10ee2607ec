/-
  The keys of a terminal, as plain functions: the parser of package keys, the document's parser, and that they tell the same. Plain definitions, no program.
-/
import Derived.Test.YtmeefngkbcfpeaaUtfLaw
namespace Go.Proofs.Ytmeefngkbcfpeaa

/-- The first row of bytes is told. -/
theorem feedsM_chunk (l : List Int) (hne : l ≠ []) (hpend : ¬ (rowW l = false ∧ 0 < rowN l ∧ rowN l = l.length)) (k : Nat) (hk : k = (if rowN l = 0 then 1 else rowN l)) (ch : Int) (hch : ch = (if rowW l = true then valueM (l.take (rowN l)) else 65533)) :
    feedsM Dm.zero l = ((feedsM Dm.zero (l.drop k)).1, ch :: (feedsM Dm.zero (l.drop k)).2) := by
  have hpos : 0 < l.length := List.length_pos_iff.2 hne
  have hrl := rowN_le l
  have hlong := rowN_long l
  have hW : rowW l = true ↔ (0 < rowN l ∧ rowN l = longM (l[0]?.getD 0)) := by unfold rowW; simp
  by_cases hw : rowW l = true
  · obtain ⟨hn, hnl⟩ := hW.1 hw
    have hkn : k = rowN l := by rw [hk, if_neg (by omega)]
    have hg := good_row l (rowN l) (by omega) (Nat.le_refl _)
    have h0 : (l.take (rowN l))[0]?.getD 0 = l[0]?.getD 0 := by rw [List.getElem?_take, if_pos hn]
    have hln : (l.take (rowN l)).length = rowN l := by simp; omega
    have hz := hg.2 (by rw [h0, hln]; exact hnl)
    conv => lhs; rw [← List.take_append_drop (rowN l) l, feedsM_append, hz]
    rw [hch, if_pos hw, hkn]
    rfl
  · have hw' : rowW l = false := by simpa using hw
    rw [if_neg hw] at hch
    by_cases hn : rowN l = 0
    · have hkn : k = 1 := by rw [hk, if_pos hn]
      have hs := rowN_stops l
      rw [hn] at hs
      cases l with
      | nil => exact absurd rfl hne
      | cons a l =>
        have hma : ¬ (mayB a a 0 = true) := by
          intro h
          apply hs
          refine ⟨by simp, by have := (longM_le ((a :: l)[0]?.getD 0)).1; omega, ?_⟩
          simpa [mayM] using h
        have hfa : firstM a = (Dm.zero, [65533]) := by
          unfold mayB at hma
          simp at hma
          unfold firstM
          rw [if_neg (by omega), if_pos (by omega)]
        rw [hkn, hch]
        show feedsM Dm.zero (a :: l) = _
        have hfe : feedM Dm.zero a = firstM a := by simp [feedM, Dm.zero]
        rw [feedsM, hfe, hfa]
        rfl
    · have hkn : k = rowN l := by rw [hk, if_neg hn]
      have hlt : rowN l ≠ longM (l[0]?.getD 0) := fun h => by rw [hW.2 ⟨by omega, h⟩] at hw'; cases hw'
      have hll : rowN l < l.length := by
        rcases Nat.lt_or_ge (rowN l) l.length with h | h
        · exact h
        · exact absurd ⟨hw', by omega, by omega⟩ hpend
      have hs := rowN_stops l
      have hmay : ¬ (mayM l (rowN l) = true) := fun h => hs ⟨hll, by omega, h⟩
      have hg := good_row l (rowN l) (by omega) (Nat.le_refl _)
      have h0 : (l.take (rowN l))[0]?.getD 0 = l[0]?.getD 0 := by rw [List.getElem?_take, if_pos (by omega)]
      have hln : (l.take (rowN l)).length = rowN l := by simp; omega
      obtain ⟨e2, en, _, _, eb⟩ := hg.1 (by rw [h0, hln]; omega)
      rw [h0, hln] at en eb
      have hdrop : l.drop (rowN l) = l[rowN l] :: l.drop (rowN l + 1) := List.drop_eq_getElem_cons hll
      have hmb : ¬ (mayB (l[0]?.getD 0) (l[rowN l]) (rowN l) = true) := by
        have : l[rowN l]?.getD 0 = l[rowN l] := by rw [List.getElem?_eq_getElem hll]; rfl
        rw [← this]; exact hmay
      have hout : l[rowN l] < (feedsM Dm.zero (l.take (rowN l))).1.low ∨ (feedsM Dm.zero (l.take (rowN l))).1.high < l[rowN l] := by
        apply Classical.byContradiction
        intro h
        exact hmb ((eb _).1 h)
      have hf1 : feedM (feedsM Dm.zero (l.take (rowN l))).1 l[rowN l] = ((firstM l[rowN l]).1, 65533 :: (firstM l[rowN l]).2) := by
        unfold feedM
        rw [if_neg (by omega), if_pos hout]
      have hf2 : feedM Dm.zero l[rowN l] = firstM l[rowN l] := by simp [feedM, Dm.zero]
      conv => lhs; rw [← List.take_append_drop (rowN l) l, feedsM_append, e2, hdrop, feedsM, hf1]
      rw [hkn, hch, hdrop, feedsM, hf2]
      simp

/-- What waits says all of the decoder. -/
theorem feedsM_tail : ∀ (f : Nat) (l : List Int), l.length ≤ f → feedsM Dm.zero (l.drop (l.length - waitR l)) = ((feedsM Dm.zero l).1, [])
  | 0, l, h => by
    obtain rfl : l = [] := List.eq_nil_of_length_eq_zero (by omega)
    simp [feedsM]
  | f + 1, l, h => by
    by_cases hne : l = []
    · subst hne
      simp [feedsM]
    · obtain ⟨_, _, hwl, hlast⟩ := feedsM_law _ l (Nat.le_refl _)
      by_cases hpend : rowW l = false ∧ 0 < rowN l ∧ rowN l = l.length
      · have hw : waitR l = l.length := by rw [waitR_cons l hne, if_pos hpend, hpend.2.2]
        rw [hw, Nat.sub_self, List.take_zero, decR_nil] at hlast
        rw [hw, Nat.sub_self, List.drop_zero]
        exact Prod.ext rfl hlast
      · have hpos : 0 < l.length := List.length_pos_iff.2 hne
        have hrl := rowN_le l
        obtain ⟨k, hk⟩ : ∃ k, k = (if rowN l = 0 then 1 else rowN l) := ⟨_, rfl⟩
        have hk1 : 1 ≤ k ∧ k ≤ l.length := by rw [hk]; split <;> omega
        have hwr : waitR l = waitR (l.drop k) := by rw [waitR_cons l hne, if_neg hpend, ← hk]
        have hs := feedsM_chunk l hne hpend k hk _ rfl
        have ih := feedsM_tail f (l.drop k) (by rw [List.length_drop]; omega)
        obtain ⟨_, _, hwk, _⟩ := feedsM_law _ (l.drop k) (Nat.le_refl _)
        rw [List.length_drop] at hwk ih
        rw [hs, hwr]
        show _ = ((feedsM Dm.zero (l.drop k)).1, [])
        rw [← ih, List.drop_drop]
        congr 2
        omega

/-- The decoder d has the bytes p, and has told nothing of them. -/
def Wt (d : Dm) (p : List Int) : Prop := feedsM Dm.zero p = (d, [])
theorem Wt.zero : Wt Dm.zero [] := rfl
theorem Wt.ok {d : Dm} {p : List Int} (h : Wt d p) : d.ok := by have := feedsM_ok Dm.zero p (.inl rfl); rw [show feedsM Dm.zero p = (d, []) from h] at this; exact this
theorem Wt.has {d : Dm} {p : List Int} (h : Wt d p) : d.has = p.length := by
  obtain ⟨_, h2, h3, h4⟩ := feedsM_law _ p (Nat.le_refl _)
  have h : feedsM Dm.zero p = (d, []) := h
  rw [h] at h2 h4
  have hp : waitR p = p.length := by
    apply Classical.byContradiction
    intro hn
    have hne : p.take (p.length - waitR p) ≠ [] := fun e => by
      have := congrArg List.length e
      rw [List.length_take, List.length_nil] at this
      omega
    rw [decR_cons _ hne] at h4
    cases h4
  rw [← hp]; exact h2
theorem Wt.end_ {d : Dm} {p : List Int} (h : Wt d p) : endM d = decR p := by
  obtain ⟨h1, _⟩ := feedsM_law _ p (Nat.le_refl _)
  rw [show feedsM Dm.zero p = (d, []) from h] at h1
  exact h1
/-- A byte more. -/
theorem Wt.feed {d : Dm} {p : List Int} (h : Wt d p) (b : Int) (n : Nat) (hn : n = waitR (p ++ [b])) :
    (feedM d b).2 = decR ((p ++ [b]).take (p.length + 1 - n)) ∧ Wt (feedM d b).1 ((p ++ [b]).drop (p.length + 1 - n)) ∧ (feedM d b).1.has = n ∧ n ≤ p.length + 1 := by
  have hs := feedsM_snoc Dm.zero p b
  rw [show feedsM Dm.zero p = (d, []) from h, List.nil_append] at hs
  obtain ⟨_, h2, h3, h4⟩ := feedsM_law _ (p ++ [b]) (Nat.le_refl _)
  have ht := feedsM_tail _ (p ++ [b]) (Nat.le_refl _)
  have hl : (p ++ [b]).length = p.length + 1 := by simp
  rw [hs] at h2 h4 ht
  rw [hl, ← hn] at h3 h4 ht
  rw [← hn] at h2
  exact ⟨h4, ht, h2, h3⟩

/-- A key. -/
structure Ky where
  kind : Int
  rune : Int
  met : Bool
  text : List Int
deriving DecidableEq
/-- The keys of scalars: the first one perhaps with Meta. -/
def charsM (l : List Int) (met : Bool) : List Ky := match l with
  | [] => []
  | r :: t => ⟨1, r, met, []⟩ :: t.map fun r => ⟨1, r, false, []⟩
/-- The parser of package keys. -/
structure Pm where
  inn : Int
  met : Bool
  d : Dm
  pend : List Int
deriving DecidableEq
def Pm.zero : Pm := ⟨0, false, Dm.zero, []⟩
def ctlM (b : Int) : Bool := decide (b < 32) || decide (b = 127)
def brokenM (p : Pm) : List Ky := charsM (endM p.d) p.met
def scalarM (p : Pm) (b : Int) : Pm × List Ky := (⟨0, (if (feedM p.d b).2 ≠ [] ∨ (feedM p.d b).1.has = 0 then false else p.met), (feedM p.d b).1, p.pend⟩, charsM (feedM p.d b).2 p.met)
def plainM (p : Pm) (b : Int) : Pm × List Ky :=
  if b = 27 then (⟨1, false, Dm.zero, []⟩, brokenM p) else if ctlM b = true then (Pm.zero, brokenM p ++ [⟨2, b, false, []⟩]) else scalarM p b
def escapedM (p : Pm) (b : Int) : Pm × List Ky :=
  if b = 91 then (⟨2, false, Dm.zero, []⟩, []) else if b = 79 then (⟨3, false, Dm.zero, []⟩, []) else if b = 27 then (p, [⟨2, 27, false, []⟩])
  else if ctlM b = true then (Pm.zero, [⟨2, b, true, []⟩]) else scalarM ⟨0, true, Dm.zero, []⟩ b
def letterM (b : Int) : Int := if b = 65 then 1 else if b = 66 then 2 else if b = 67 then 3 else if b = 68 then 4 else if b = 72 then 5 else if b = 70 then 6 else 0
def numberM (s : List Int) : Int := if s = [49] ∨ s = [55] then 5 else if s = [52] ∨ s = [56] then 6 else if s = [50] then 7 else if s = [51] then 8 else if s = [53] then 9 else if s = [54] then 10 else 0
def nameM (r : Int) : Ky := if r = 0 then ⟨5, 0, false, []⟩ else ⟨3, r, false, []⟩
def rowM (p : Pm) (b : Int) : Pm × List Ky :=
  if ctlM b = true ∨ 127 < b then ((plainM Pm.zero b).1, nameM 0 :: (plainM Pm.zero b).2)
  else if b < 64 ∧ p.pend.length = 16 then (Pm.zero, [nameM 0])
  else if b < 64 then (⟨p.inn, p.met, p.d, p.pend ++ [b]⟩, [])
  else if b = 126 ∧ p.pend = [50, 48, 48] then (⟨4, false, Dm.zero, []⟩, [])
  else if b = 126 then (Pm.zero, [nameM (numberM p.pend)])
  else if p.pend ≠ [] then (Pm.zero, [nameM 0])
  else (Pm.zero, [nameM (letterM b)])
def endsM : List Int := [27, 91, 50, 48, 49, 126]
def pasteM (p : Pm) (b : Int) : Pm × List Ky :=
  if (p.pend ++ [b]).drop ((p.pend ++ [b]).length - 6) = endsM then (Pm.zero, [⟨4, 0, false, decodeM ((p.pend ++ [b]).take ((p.pend ++ [b]).length - 6))⟩])
  else (⟨p.inn, p.met, p.d, p.pend ++ [b]⟩, [])
def feedP (p : Pm) (b : Int) : Pm × List Ky :=
  if p.inn = 1 then escapedM p b else if p.inn = 2 then rowM p b
  else if p.inn = 3 then (if ctlM b = true ∨ 127 < b then ((plainM Pm.zero b).1, nameM 0 :: (plainM Pm.zero b).2) else (Pm.zero, [nameM (letterM b)]))
  else if p.inn = 4 then pasteM p b else plainM p b
def tickP (p : Pm) : Pm × List Ky :=
  if p.inn = 1 then (Pm.zero, [⟨2, 27, false, []⟩]) else if p.inn = 2 ∨ p.inn = 3 then (Pm.zero, [nameM 0]) else if p.inn = 4 then (p, []) else (Pm.zero, brokenM p)
def waitsP (p : Pm) : Bool := decide (p.inn ≠ 0) || decide (0 < p.d.has)
end Go.Proofs.Ytmeefngkbcfpeaa
