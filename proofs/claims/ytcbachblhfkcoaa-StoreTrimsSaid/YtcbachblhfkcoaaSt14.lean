/-
  package store: Past: the past that a store's lines make. Conditions: not more than 100000 bytes.
-/
import Derived.Test.YtcbachblhfkcoaaPlaysW
import Derived.Test.YtcbachblhfkcoaaSt9
namespace Go.Proofs.Ytcbachblhfkcoaa
open Go.RowKit

/-- The lines that were added, one by one. -/
def pastL (ls : List (List Int)) : List (List Int) := ls.foldl addM []
theorem pastL_snoc (ls : List (List Int)) (x : List Int) : pastL (ls ++ [x]) = addM (pastL ls) x := by simp [pastL]
theorem pastL_len (ls : List (List Int)) : (pastL ls).length ≤ 500 := by
  suffices h : ∀ (ls L : List (List Int)), L.length ≤ 500 → (ls.foldl addM L).length ≤ 500 from h ls [] (by simp)
  intro ls
  induction ls with
  | nil => intro L h; exact h
  | cons x t ih => intro L h; exact ih _ (addM_length_le L x h)
theorem pastL_mem {ls : List (List Int)} {b : Nat} (h : ∀ x ∈ ls, x.length ≤ b) : ∀ x ∈ pastL ls, x.length ≤ b := by
  suffices hh : ∀ (ls L : List (List Int)), (∀ x ∈ ls, x.length ≤ b) → (∀ x ∈ L, x.length ≤ b) → ∀ x ∈ ls.foldl addM L, x.length ≤ b from hh ls [] h (by simp)
  intro ls
  induction ls with
  | nil => intro L _ h2; exact h2
  | cons x t ih =>
    intro L h1 h2
    refine ih _ (fun y hy => h1 y (by simp [hy])) fun y hy => ?_
    rcases addM_mem hy with h3 | h3
    · exact h2 y h3
    · rw [h3]; exact h1 x (by simp)
theorem decodeM_len (t : List Int) : (decodeM t).length ≤ t.length := by rw [decode_law]; exact decR_length t
theorem unM_len : ∀ (n : Nat) (s t : List Int), s.length ≤ n → unM s = some t → t.length ≤ s.length
  | _, [], t, _, h => by cases h; simp
  | 0, c :: s, t, h, _ => by simp at h
  | n + 1, c :: s, t, hn, h => by
    simp only [List.length_cons] at hn
    by_cases hc : c = 92
    · subst hc
      cases s with
      | nil => rw [unM_bad (by simp) (by simp)] at h; cases h
      | cons d u =>
        simp only [List.length_cons] at hn
        by_cases h1 : d = 110
        · subst h1
          rw [unM_n] at h
          cases hq : unM u with
          | none => rw [hq] at h; cases h
          | some q => rw [hq] at h; cases h; have := unM_len n u q (by omega) hq; simp; omega
        · by_cases h2 : d = 92
          · subst h2
            rw [unM_b] at h
            cases hq : unM u with
            | none => rw [hq] at h; cases h
            | some q => rw [hq] at h; cases h; have := unM_len n u q (by omega) hq; simp; omega
          · rw [unM_bad (by simpa using h1) (by simpa using h2)] at h; cases h
    · rw [unM_c _ hc] at h
      cases hq : unM s with
      | none => rw [hq] at h; cases h
      | some q => rw [hq] at h; cases h; have := unM_len n s q (by omega) hq; simp; omega
theorem slM_len {s l : List Int} (h : slM s = some l) : l.length ≤ s.length := by
  unfold slM at h
  split at h
  · cases hu : unM (s.drop 3) with
    | none => rw [hu] at h; cases h
    | some t =>
      rw [hu] at h
      dsimp only at h
      split at h
      · cases h
        have h1 := unM_len _ _ _ (Nat.le_refl _) hu
        have h2 := decodeM_len t
        rw [List.length_drop] at h1
        omega
      · cases h
  · cases h
theorem readF_mem : ∀ (n : Nat) (s : List Int), s.length ≤ n → ∀ x ∈ (readF s).1, x.length ≤ s.length
  | 0, s, h => by
    obtain rfl : s = [] := List.eq_nil_of_length_eq_zero (by omega)
    simp [readF, readG]
  | n + 1, s, h => by
    rw [readF_eq]
    split
    · simp
    · split
      · simp
      · rename_i l hl
        have h1 := slM_len hl
        intro x hx
        rcases List.mem_cons.1 hx with rfl | hx
        · rw [List.length_take] at h1; omega
        · have := readF_mem n (s.drop (spanG notL s + 1)) (by rw [List.length_drop]; omega) x hx
          rw [List.length_drop] at this
          omega

set_option maxRecDepth 100000 in
set_option maxHeartbeats 3200000 in
theorem storePast_any (s : ByteArray) (hs : s.size ≤ 1000) (w : World) :
    Calls Try.prog 41 #[.string s] w fun e w' => ∃ A n c B m d, e = .returned (.agg #[.slice A n c, .int .i64 0, .slice B m d]) ∧ Txs w' Any Any A n c (pastL (readF (by8 s)).1) ∧ Ru w' Any B m d [] ∧ Kp w w' := by
  obtain ⟨F, hFd⟩ : ∃ F : Nat → Prop, F = fun k => k ≠ w.heap.size ∧ k ≠ w.heap.size + 1 := ⟨_, rfl⟩
  have hFn : ∀ k, w.heap.size + 2 ≤ k → F k := fun k hk => by rw [hFd]; show k ≠ _ ∧ k ≠ _; omega
  have hFo : ∀ k, F k → k ≠ w.heap.size ∧ k ≠ w.heap.size + 1 := fun k hk => by rw [hFd] at hk; exact hk
  have HFN := Lib.hid hFn
  have HFO := Lib.hid hFo
  clear hFd hFn hFo
  have HRD := Lib.hid fun wx => storeRead_any s (by omega) wx
  have hlm := readF_mem _ (by8 s) (Nat.le_refl _)
  have hll := (readF_len _ (by8 s) (Nat.le_refl _)).2
  rw [by8_length] at hlm hll
  generalize (readF (by8 s)).1 = ls at *
  have HLM := Lib.hid hlm
  clear hlm
  go_enter Try.func41, Try.ntmps41
  go_wp2_with fail
  have k0 := ((Kp.refl w).alloc (.cells #[.slice none 0 0, .int .i64 0, .slice none 0 0] 27)).alloc (.cells #[.slice none 0 0, .int .i64 0, .slice none 0 0] 27)
  have b0 := (Bx.new w #[.slice none 0 0, .int .i64 0, .slice none 0 0] 27).alloc (.cells #[.slice none 0 0, .int .i64 0, .slice none 0 0] 27)
  have b1 := Bx.new (w.alloc (.cells #[.slice none 0 0, .int .i64 0, .slice none 0 0] 27)) #[.slice none 0 0, .int .i64 0, .slice none 0 0] 27
  rw [World.size_alloc] at b1
  have hz0 : ((w.alloc (.cells #[.slice none 0 0, .int .i64 0, .slice none 0 0] 27)).alloc (.cells #[.slice none 0 0, .int .i64 0, .slice none 0 0] 27)).heap.size = w.heap.size + 2 := by simp
  generalize (w.alloc (.cells #[.slice none 0 0, .int .i64 0, .slice none 0 0] 27)).alloc (.cells #[.slice none 0 0, .int .i64 0, .slice none 0 0] 27) = w1 at *
  refine (HRD.out w1).mono ?_
  rintro e w2 ⟨A2, n2, c2, vs2, rfl, ho2, k2⟩
  have hT2 : Txs w2 F F A2 n2 c2 ls := ho2.txs.weak (fun k _ hk => HFN.out k (by unfold From at hk; omega)) (fun k _ hk => HFN.out k (by unfold From at hk; omega))
  have kw2 := k0.trans k2
  have b02 := b0.kp k2
  have b12 := b1.kp k2
  have hn2 : n2 ≤ 1000 := by rw [← hT2.len]; omega
  have hle2 := hT2.le
  have hc2 := hT2.cap
  unfold maxLen at hc2
  have HL2 := Lib.hid hT2.len
  clear ho2 k0 k2 b0 b1 hz0 hll
  go_wp2_with fail
  go_loopg [15] n2 (fun g iv wr => ∃ (k : Nat), k + g = n2 ∧ iv = .int .i64 k ∧ PBox wr F (w.heap.size + 1) (pastL (ls.take k)) 0 [] ∧ (∃ x y z, Bx wr w.heap.size #[x, y, z] 27) ∧ Txs wr F F A2 n2 c2 ls ∧ Kp w wr)
  case atStart => exact ⟨0, by omega, rfl, ⟨none, 0, 0, none, 0, 0, b12, Txs.nil _ _ _, Ru.nil _ _⟩, ⟨_, _, _, b02⟩, hT2, kw2⟩
  case round =>
    obtain ⟨k, hk, rfl, ⟨A1, n1, c1, B1, m1, d1, hbx, hT1, hS1⟩, ⟨y0, y1, y2, hby⟩, hTl, kw⟩ := hrel
    obtain ⟨p0, p1, p2, q0, q1, q2⟩ := hbx.three
    by_cases hlt : k < n2
    · obtain ⟨ad, B, m, d, rfl, hc, hr⟩ := hTl.get hlt
      have hlL : k < ls.length := by rw [HL2.out]; exact hlt
      have hts : pastL (ls.take (k + 1)) = addM (pastL (ls.take k)) (ls[k]?.getD []) := by
        rw [List.take_succ_eq_append_getElem hlL, pastL_snoc, List.getElem?_eq_getElem hlL]; rfl
      have hx1 : (ls[k]?.getD []).length ≤ 1000 := by rw [List.getElem?_eq_getElem hlL, Option.getD_some]; have := HLM.out _ (List.getElem_mem hlL); omega
      have HTS := Lib.hid hts
      have hn1 : n1 ≤ 500 := by rw [← hT1.len]; exact pastL_len _
      have hml := hr.len
      have hlb : w.heap.size + 2 ≤ wr.heap.size := hbx.lt
      have hm1 : m ≤ 1000 := by omega
      have HF1 := Lib.hid fun (g : Nat) (hg : wr.heap.size ≤ g) => HFN.out g (Nat.le_trans hlb hg)
      clear hts hml
      go_wp2_with fail
      refine (past_add F F A1 B1 B n1 c1 m1 d1 m d 0 (pastL (ls.take k)) (ls[k]?.getD []) wr HF1.out hT1 hr (by omega) (by omega)).mono ?_
      rintro e w3 ⟨A3, n3, c3, B3, m3, d3, rfl, hT3, hS3, hk3⟩
      have b3 := hbx.kp hk3
      have b4 := hby.kp hk3
      have hTl3 := hTl.kp hk3
      have hkp3 := kw.trans hk3
      clear hk3 p0 p1 p2 q0 q1 q2 hc hT1 hS1 hr hbx hby hTl
      obtain ⟨p0, p1, p2, q0, q1, q2⟩ := b3.three
      go_wp2_with fail
      go_roundg (n2 - (k + 1))
      case measure => omega
      case rel =>
        refine ⟨k + 1, by omega, by go_num, ?_, ⟨y0, y1, y2, b4.far3 (by omega)⟩, hTl3.set3 (fun g h => (HFO.out g h).2) (fun g h => (HFO.out g h).2), hkp3.set3 (by omega) _ _ _⟩
        rw [HTS.out]
        exact pbox_store (fun g h => (HFO.out g h).2) b3 hT3 hS3
    · obtain rfl : k = n2 := by omega
      have hta : ls.take k = ls := List.take_of_length_le (by rw [HL2.out]; omega)
      rw [hta] at hT1
      obtain ⟨z0, z1, z2, v0, v1, v2⟩ := hby.three
      clear hta hTl
      go_wp2_with fail
      have b5 := hby.set3 (.slice A1 n1 c1) (.int .i64 0) (.slice B1 m1 d1)
      have hT5 := Txs.set3 (b := w.heap.size) (u := .slice A1 n1 c1) (v := .int .i64 0) (s := .slice B1 m1 d1) hT1 (fun k h => (HFO.out k h).1) (fun k h => (HFO.out k h).1)
      have hS5 := Ru.set3 (b := w.heap.size) (u := .slice A1 n1 c1) (v := .int .i64 0) (s := .slice B1 m1 d1) hS1 (fun k h => (HFO.out k h).1)
      have k5 := Kp.set3 (b := w.heap.size) kw (Nat.le_refl _) (.slice A1 n1 c1) (.int .i64 0) (.slice B1 m1 d1)
      clear p0 p1 p2 q0 q1 q2 z0 z1 z2 v0 v1 v2
      generalize (((wr.setCell ⟨w.heap.size, 0, none⟩ (.slice A1 n1 c1)).setCell ⟨w.heap.size, 1, none⟩ (.int .i64 0)).setCell ⟨w.heap.size, 2, none⟩ (.slice B1 m1 d1)) = w5 at *
      obtain ⟨z0, z1, z2, v0, v1, v2⟩ := b5.three
      refine bodyPost_ret (v := .agg #[.slice A1 n1 c1, .int .i64 0, .slice B1 m1 d1]) (by simp [results, Try.results41, go_sem, z0, z1, z2]) rfl ?_
      exact ⟨A1, n1, c1, B1, m1, d1, rfl, hT5.any, Ru.any hS5, k5⟩
end Go.Proofs.Ytcbachblhfkcoaa
