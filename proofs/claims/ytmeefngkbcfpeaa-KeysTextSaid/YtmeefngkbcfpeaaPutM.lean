/-
  UTF-8 the other way, as plain functions: a scalar's bytes; what is encoded is decoded as it was, and back. Plain Lean, no program in sight.
-/
import Derived.Test.YtmeefngkbcfpeaaUtfLaw
namespace Go.Proofs.Ytmeefngkbcfpeaa

def validB (r : Int) : Bool := (decide (0 ≤ r) && decide (r < 55296)) || (decide (57343 < r) && decide (r ≤ 1114111))
theorem validB_iff (r : Int) : validB r = true ↔ (0 ≤ r ∧ r < 55296) ∨ (57343 < r ∧ r ≤ 1114111) := by simp [validB]
theorem validB_no (r : Int) : validB r = false ↔ ¬ ((0 ≤ r ∧ r < 55296) ∨ (57343 < r ∧ r ≤ 1114111)) := by rw [← validB_iff]; cases validB r <;> simp
/-- What stands for a number. -/
def fixM (r : Int) : Int := if validB r = true then r else 65533
theorem fixM_valid (r : Int) : validB (fixM r) = true := by
  unfold fixM
  split
  · assumption
  · rfl
def putI (n : Int) : List Int :=
  if n < 128 then [n] else if n < 2048 then [192 + n / 64, 128 + n % 64] else if n < 65536 then [224 + n / 4096, 128 + n / 64 % 64, 128 + n % 64] else [240 + n / 262144, 128 + n / 4096 % 64, 128 + n / 64 % 64, 128 + n % 64]
def putM (r : Int) : List Int := putI (fixM r)
def encM (l : List Int) : List Int := l.flatMap putM
theorem encM_snoc (l : List Int) (r : Int) : encM (l ++ [r]) = encM l ++ putM r := by simp [encM]
theorem putI_bd {n : Int} (h : validB n = true) : ∀ b ∈ putI n, 0 ≤ b ∧ b ≤ 255 := by
  rw [validB_iff] at h
  intro b hb
  unfold putI at hb
  split at hb
  · simp at hb; omega
  · split at hb
    · simp at hb; omega
    · split at hb
      · simp at hb; omega
      · simp at hb; omega
theorem putM_bd (r : Int) : ∀ b ∈ putM r, 0 ≤ b ∧ b ≤ 255 := putI_bd (fixM_valid r)
theorem putM_len (r : Int) : 1 ≤ (putM r).length ∧ (putM r).length ≤ 4 := by
  unfold putM putI
  split
  · simp
  · split
    · simp
    · split <;> simp
theorem encM_bd (l : List Int) : ∀ b ∈ encM l, 0 ≤ b ∧ b ≤ 255 := by
  intro b hb
  obtain ⟨r, _, hr⟩ := List.mem_flatMap.1 hb
  exact putM_bd r b hr
theorem encM_len (l : List Int) : (encM l).length ≤ 4 * l.length := by
  induction l with
  | nil => simp [encM]
  | cons r l ih =>
    have := putM_len r
    simp only [encM, List.flatMap_cons, List.length_append, List.length_cons] at ih ⊢
    omega

theorem feedsM_cons (d : Dm) (b : Int) (l : List Int) : feedsM d (b :: l) = ((feedsM (feedM d b).1 l).1, (feedM d b).2 ++ (feedsM (feedM d b).1 l).2) := rfl
theorem feed_zero (b : Int) : feedM Dm.zero b = firstM b := if_pos rfl
theorem feed_mid {nd hs lo hi v b : Int} (h0 : 2 ≤ nd) (h1 : lo ≤ b) (h2 : b ≤ hi) : feedM ⟨nd, hs, lo, hi, v⟩ b = (⟨nd - 1, hs + 1, 128, 191, v * 64 + b % 64⟩, []) := by
  unfold feedM
  have e1 : ¬ nd = 0 := by omega
  have e2 : ¬ (b < lo ∨ hi < b) := by omega
  have e3 : ¬ nd = 1 := by omega
  simp only [if_neg e1, if_neg e2, if_neg e3]
theorem feed_last {hs lo hi v b : Int} (h1 : lo ≤ b) (h2 : b ≤ hi) : feedM ⟨1, hs, lo, hi, v⟩ b = (Dm.zero, [v * 64 + b % 64]) := by
  unfold feedM
  have e1 : ¬ (1 : Int) = 0 := by omega
  have e2 : ¬ (b < lo ∨ hi < b) := by omega
  simp only [if_neg e1, if_neg e2, if_true]
/-- What was encoded is decoded. -/
theorem feed_putI {n : Int} (h : validB n = true) : feedsM Dm.zero (putI n) = (Dm.zero, [n]) := by
  rw [validB_iff] at h
  unfold putI
  split
  · rename_i h1
    rw [feedsM_cons, feed_zero]
    unfold firstM
    rw [if_pos h1]
    rfl
  · split
    · rename_i h1 h2
      have e1 : firstM (192 + n / 64) = (⟨1, 1, 128, 191, n / 64⟩, []) := by
        have c1 : ¬ (192 + n / 64 < 128) := by omega
        have c2 : ¬ (192 + n / 64 < 194 ∨ 244 < 192 + n / 64) := by omega
        have c3 : 192 + n / 64 < 224 := by omega
        have c5 : ¬ 192 + n / 64 = 224 := by omega
        have c6 : ¬ 192 + n / 64 = 240 := by omega
        have c7 : ¬ 192 + n / 64 = 237 := by omega
        have c8 : ¬ 192 + n / 64 = 244 := by omega
        simp only [firstM, if_neg c1, if_neg c2, if_pos c3, if_neg c5, if_neg c6, if_neg c7, if_neg c8]
        rw [show (192 + n / 64) % 32 = n / 64 by omega]
      rw [feedsM_cons, feed_zero, e1]
      simp only []
      rw [feedsM_cons, feed_last (by omega) (by omega)]
      rw [show n / 64 * 64 + (128 + n % 64) % 64 = n by omega]
      rfl
    · split
      · rename_i h1 h2 h3
        have e1 : ∃ lo hi, firstM (224 + n / 4096) = (⟨2, 1, lo, hi, n / 4096⟩, []) ∧ lo ≤ 128 + n / 64 % 64 ∧ 128 + n / 64 % 64 ≤ hi := by
          have c1 : ¬ (224 + n / 4096 < 128) := by omega
          have c2 : ¬ (224 + n / 4096 < 194 ∨ 244 < 224 + n / 4096) := by omega
          have c3 : ¬ 224 + n / 4096 < 224 := by omega
          have c4 : 224 + n / 4096 < 240 := by omega
          simp only [firstM, if_neg c1, if_neg c2, if_neg c3, if_pos c4]
          rw [show (224 + n / 4096) % 16 = n / 4096 by omega]
          refine ⟨_, _, rfl, ?_, ?_⟩
          · split
            · omega
            · split <;> omega
          · split
            · omega
            · split <;> omega
        obtain ⟨lo, hi, e1, hlo, hhi⟩ := e1
        rw [feedsM_cons, feed_zero, e1]
        simp only []
        rw [feedsM_cons, feed_mid (by omega) hlo hhi]
        simp only []
        rw [feedsM_cons, show (2 : Int) - 1 = 1 from rfl, feed_last (by omega) (by omega)]
        rw [show (n / 4096 * 64 + (128 + n / 64 % 64) % 64) * 64 + (128 + n % 64) % 64 = n by omega]
        rfl
      · rename_i h1 h2 h3
        have e1 : ∃ lo hi, firstM (240 + n / 262144) = (⟨3, 1, lo, hi, n / 262144⟩, []) ∧ lo ≤ 128 + n / 4096 % 64 ∧ 128 + n / 4096 % 64 ≤ hi := by
          have c1 : ¬ (240 + n / 262144 < 128) := by omega
          have c2 : ¬ (240 + n / 262144 < 194 ∨ 244 < 240 + n / 262144) := by omega
          have c3 : ¬ 240 + n / 262144 < 224 := by omega
          have c4 : ¬ 240 + n / 262144 < 240 := by omega
          simp only [firstM, if_neg c1, if_neg c2, if_neg c3, if_neg c4]
          rw [show (240 + n / 262144) % 8 = n / 262144 by omega]
          refine ⟨_, _, rfl, ?_, ?_⟩
          · split
            · omega
            · split <;> omega
          · split
            · omega
            · split <;> omega
        obtain ⟨lo, hi, e1, hlo, hhi⟩ := e1
        rw [feedsM_cons, feed_zero, e1]
        simp only []
        rw [feedsM_cons, feed_mid (by omega) hlo hhi]
        simp only []
        rw [feedsM_cons, show (3 : Int) - 1 = 2 from rfl, feed_mid (by omega) (by omega) (by omega)]
        simp only []
        rw [feedsM_cons, show (2 : Int) - 1 = 1 from rfl, feed_last (by omega) (by omega)]
        rw [show ((n / 262144 * 64 + (128 + n / 4096 % 64) % 64) * 64 + (128 + n / 64 % 64) % 64) * 64 + (128 + n % 64) % 64 = n by omega]
        rfl
theorem feed_putM (r : Int) : feedsM Dm.zero (putM r) = (Dm.zero, [fixM r]) := feed_putI (fixM_valid r)
theorem feed_encM (l : List Int) : feedsM Dm.zero (encM l) = (Dm.zero, l.map fixM) := by
  induction l with
  | nil => rfl
  | cons r l ih =>
    simp only [encM, List.flatMap_cons, List.map_cons] at ih ⊢
    rw [feedsM_append, feed_putM]
    simp only
    rw [ih]
    rfl
theorem dec_enc (l : List Int) : decodeM (encM l) = l.map fixM := by
  unfold decodeM
  rw [feed_encM]
  simp [endM, Dm.zero]

theorem put_of {v : Int} (h : validB v = true) : putM v = putI v := by unfold putM fixM; rw [if_pos h]
theorem mayB_tail {c b : Int} {i : Nat} (hi : 1 ≤ i) (h : mayB c b i = true) : 128 ≤ b ∧ b ≤ 191 := mayB_range c b i hi h
theorem mayB_one {c b : Int} (h : mayB c b 1 = true) : (c = 224 → 160 ≤ b) ∧ (c = 237 → b ≤ 159) ∧ (c = 240 → 144 ≤ b) ∧ (c = 244 → b ≤ 143) := by
  unfold mayB at h
  rw [if_neg (by omega), if_pos rfl] at h
  refine ⟨?_, ?_, ?_, ?_⟩ <;> (intro hc; subst hc; simp at h; omega)
theorem mayB_zero {c b : Int} (h : mayB c b 0 = true) : c < 128 ∨ (194 ≤ c ∧ c ≤ 244) := by
  unfold mayB at h
  rw [if_pos rfl] at h
  simpa using h
/-- A whole row is the bytes of its value. -/
theorem put_value {p : List Int} (hb : ∀ b ∈ p, 0 ≤ b ∧ b ≤ 255) (hl : p.length = longM (p[0]?.getD 0)) (hm : ∀ i, i < p.length → mayB (p[0]?.getD 0) (p[i]?.getD 0) i = true) : putM (valueM p) = p := by
  match p, hb, hl, hm with
  | [], _, hl, _ => exact absurd hl (by have := (longM_le ((([] : List Int)[0]?).getD 0)).1; simp only [List.length_nil]; omega)
  | [a], hb, hl, hm =>
    have h0 := mayB_zero (hm 0 (by simp))
    have ha := hb a (by simp)
    simp only [List.getElem?_cons_zero, Option.getD_some, List.length_singleton] at hl h0
    have hlt : a < 128 := by unfold longM at hl; (repeat' split at hl) <;> omega
    have hv : valueM [a] = a := rfl
    rw [hv, put_of ((validB_iff a).2 (by omega))]
    unfold putI
    rw [if_pos hlt]
  | [a, b], hb, hl, hm =>
    have h0 := mayB_zero (hm 0 (by simp))
    have h1 := mayB_tail (by omega) (hm 1 (by simp))
    simp only [List.getElem?_cons_zero, List.getElem?_cons_succ, Option.getD_some, List.length_cons, List.length_nil] at hl h0 h1
    have hlt : 128 ≤ a ∧ a < 224 := by unfold longM at hl; (repeat' split at hl) <;> omega
    have hv : valueM [a, b] = 64 * (a - 192) + b - 128 := by simp [valueM, valGo]
    rw [hv, put_of ((validB_iff _).2 (by omega))]
    unfold putI
    rw [if_neg (by omega), if_pos (by omega)]
    congr 1
    · omega
    · congr 1; omega
  | [a, b, c], hb, hl, hm =>
    have h0 := mayB_zero (hm 0 (by simp))
    have h1 := mayB_tail (by omega) (hm 1 (by simp))
    have h2 := mayB_tail (by omega) (hm 2 (by simp))
    have h3 := mayB_one (hm 1 (by simp))
    simp only [List.getElem?_cons_zero, List.getElem?_cons_succ, Option.getD_some, List.length_cons, List.length_nil] at hl h0 h1 h2 h3
    have hlt : 224 ≤ a ∧ a < 240 := by unfold longM at hl; (repeat' split at hl) <;> omega
    have hv : valueM [a, b, c] = 64 * (64 * (a - 224) + b - 128) + c - 128 := by simp [valueM, valGo]
    obtain ⟨g1, g2, _, _⟩ := h3
    rw [hv, put_of ((validB_iff _).2 (by omega))]
    unfold putI
    rw [if_neg (by omega), if_neg (by omega), if_pos (by omega)]
    congr 1
    · omega
    · congr 1
      · omega
      · congr 1; omega
  | [a, b, c, d], hb, hl, hm =>
    have h0 := mayB_zero (hm 0 (by simp))
    have h1 := mayB_tail (by omega) (hm 1 (by simp))
    have h2 := mayB_tail (by omega) (hm 2 (by simp))
    have h4 := mayB_tail (by omega) (hm 3 (by simp))
    have h3 := mayB_one (hm 1 (by simp))
    simp only [List.getElem?_cons_zero, List.getElem?_cons_succ, Option.getD_some, List.length_cons, List.length_nil] at hl h0 h1 h2 h3 h4
    have hlt : 240 ≤ a := by unfold longM at hl; (repeat' split at hl) <;> omega
    have hv : valueM [a, b, c, d] = 64 * (64 * (64 * (a - 240) + b - 128) + c - 128) + d - 128 := by simp [valueM, valGo]
    obtain ⟨_, _, g1, g2⟩ := h3
    rw [hv, put_of ((validB_iff _).2 (by omega))]
    unfold putI
    rw [if_neg (by omega), if_neg (by omega), if_neg (by omega)]
    congr 1
    · omega
    · congr 1
      · omega
      · congr 1
        · omega
        · congr 1; omega
  | a :: b :: c :: d :: e :: r, _, hl, _ =>
    have := (longM_le (((a :: b :: c :: d :: e :: r)[0]?).getD 0)).2
    simp only [List.length_cons] at hl
    omega
/-- Bytes that are decoded without what stands for nothing are encoded as they were. -/
theorem enc_dec : ∀ (f : Nat) (s : List Int), s.length ≤ f → (∀ b ∈ s, 0 ≤ b ∧ b ≤ 255) → (∀ r ∈ decR s, r ≠ 65533) → encM (decR s) = s
  | f, [], _, _, _ => rfl
  | 0, _ :: _, h, _, _ => by simp at h
  | f + 1, a :: r, h, hb, hn => by
    obtain ⟨s, hs⟩ : ∃ s, s = a :: r := ⟨_, rfl⟩
    rw [← hs] at h hb hn ⊢
    have hne : s ≠ [] := by rw [hs]; simp
    have hl : 0 < s.length := by rw [hs]; simp
    rw [decR_cons s hne] at hn ⊢
    by_cases hw : rowW s = true
    · rw [if_pos hw] at hn ⊢
      have hw2 : 0 < rowN s ∧ rowN s = longM (s[0]?.getD 0) := by simpa [rowW] using hw
      rw [if_neg (by omega)] at hn ⊢
      have hle := (rowN_le s).1
      have hlen : (s.take (rowN s)).length = rowN s := by rw [List.length_take]; omega
      have h0 : (s.take (rowN s))[0]?.getD 0 = s[0]?.getD 0 := by rw [List.getElem?_take, if_pos hw2.1]
      have hv := put_value (p := s.take (rowN s)) (fun b hb' => hb b (List.mem_of_mem_take hb')) (by rw [hlen, h0]; exact hw2.2) (fun i hi => by
        rw [hlen] at hi
        rw [h0, List.getElem?_take, if_pos hi]
        exact rowN_may s i hi)
      have ih := enc_dec f (s.drop (rowN s)) (by rw [List.length_drop]; omega) (fun b hb' => hb b (List.mem_of_mem_drop hb')) (fun r hr => hn r (by simp [hr]))
      have e : encM (valueM (s.take (rowN s)) :: decR (s.drop (rowN s))) = putM (valueM (s.take (rowN s))) ++ encM (decR (s.drop (rowN s))) := by simp [encM]
      rw [e, hv, ih, List.take_append_drop]
    · rw [if_neg hw] at hn
      exact absurd rfl (hn 65533 (by simp))
theorem enc_decM (s : List Int) (hb : ∀ b ∈ s, 0 ≤ b ∧ b ≤ 255) (hn : ∀ r ∈ decodeM s, r ≠ 65533) : encM (decodeM s) = s := by
  rw [decode_law] at hn ⊢
  exact enc_dec _ s (Nat.le_refl _) hb hn
end Go.Proofs.Ytmeefngkbcfpeaa
