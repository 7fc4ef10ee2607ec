/-
  The lines of two stores, each where it stands last: plain law; rows of texts appended to each other; typebarref47.Merge. Conditions: not more than 1000 bytes each.
-/
import Derived.Test.YtcbachblhfkcoaaSt16
namespace Go.Proofs.Ytcbachblhfkcoaa
open Go.RowKit

/-- The lines among the first k that no equal line follows. -/
def keepM (L : List (List Int)) : Nat → List (List Int)
  | 0 => []
  | k + 1 => keepM L k ++ (if L[k]?.getD [] ∈ L.drop (k + 1) then [] else [L[k]?.getD []])
theorem keepM_hit {L : List (List Int)} {k : Nat} (h : L[k]?.getD [] ∈ L.drop (k + 1)) : keepM L (k + 1) = keepM L k := by show keepM L k ++ _ = _; rw [if_pos h, List.append_nil]
theorem keepM_miss {L : List (List Int)} {k : Nat} (h : L[k]?.getD [] ∉ L.drop (k + 1)) : keepM L (k + 1) = keepM L k ++ [L[k]?.getD []] := by show keepM L k ++ _ = _; rw [if_neg h]
theorem keepM_len (L : List (List Int)) : ∀ k, k ≤ L.length → (allM (keepM L k)).length ≤ (allM (L.take k)).length ∧ (keepM L k).length ≤ k ∧ ∀ x ∈ keepM L k, x ∈ L
  | 0, _ => by simp [keepM, allM]
  | k + 1, h => by
    obtain ⟨i1, i2, i3⟩ := keepM_len L k (by omega)
    rw [List.take_succ_eq_append_getElem (by omega), allM_snoc, List.length_append]
    by_cases hm : L[k]?.getD [] ∈ L.drop (k + 1)
    · rw [keepM_hit hm]
      exact ⟨by omega, by omega, i3⟩
    · rw [keepM_miss hm, allM_snoc, List.length_append, List.length_append, List.getElem?_eq_getElem (by omega), Option.getD_some]
      refine ⟨by omega, by simp; omega, fun x hx => ?_⟩
      rcases List.mem_append.1 hx with hx | hx
      · exact i3 x hx
      · rw [List.mem_singleton.1 hx]; exact List.getElem_mem _
/-- Whether the line i stands again between i and k. -/
def againM (L : List (List Int)) (i k : Nat) : Bool := decide (L[i]?.getD [] ∈ (L.take k).drop (i + 1))
theorem againM_start (L : List (List Int)) (i : Nat) : againM L i (i + 1) = false := by
  unfold againM
  rw [List.drop_eq_nil_of_le (by rw [List.length_take]; omega)]
  simp
theorem againM_step {L : List (List Int)} {i k : Nat} (hi : i + 1 ≤ k) (hk : k < L.length) : againM L i (k + 1) = (againM L i k || sameB (L[i]?.getD []) (L[k]?.getD [])) := by
  unfold againM sameB
  rw [List.take_succ_eq_append_getElem hk, List.drop_append_of_le_length (by rw [List.length_take]; omega), List.getElem?_eq_getElem hk]
  simp [Bool.decide_or]
theorem againM_end (L : List (List Int)) (i : Nat) : againM L i L.length = true ↔ L[i]?.getD [] ∈ L.drop (i + 1) := by unfold againM; simp

section
variable {w w' : World} {base n c m : Nat} {G : Nat → Prop} {A A' : Option Addr} {c' : Nat} {L L2 : List (List Int)} {vs vs2 : List Value}
theorem OTx.one (h : OTx w base G A n c L vs) : ∀ u ∈ vs, u.oneCell' = true := by
  intro u hu
  obtain ⟨j, hj, hju⟩ := List.getElem_of_mem hu
  have hl := h.1.len
  have hjL : j < L.length := by have := h.2.1; omega
  obtain ⟨B, m, d, hv, _⟩ := h.2.2 j _ (List.getElem?_eq_getElem hjL)
  rw [List.getElem?_eq_getElem hj, hju] at hv
  rw [Option.some.inj hv]
  rfl
theorem OTx.apps (h : OTx w base G A n c L vs) (hL : L2.length = m)
    (hN : ∀ (k : Nat) (x : List Int), L2[k]? = some x → ∃ (B : Option Addr) (m d : Nat), vs2[k]? = some (Value.slice B m d) ∧ Ru w (fun g => G g ∧ rowOf A ≠ some g) B m d x)
    (hown : Own w' base 23 1 A' (n + m) c' (vs ++ vs2)) (hg : w.grownBy w' (rowOf A)) (hat : rowOf A' = rowOf A ∨ rowOf A' = some w.heap.size) :
    OTx w' base G A' (n + m) c' (L ++ L2) (vs ++ vs2) := by
  obtain ⟨h1, h2, h3⟩ := h
  have mv : ∀ {B' : Option Addr} {m' d' : Nat} {y : List Int}, Ru w (fun g => G g ∧ rowOf A ≠ some g) B' m' d' y → Ru w' (fun g => G g ∧ rowOf A' ≠ some g) B' m' d' y := by
    intro B' m' d' y hy
    have h5 : Ru w (fun g => (G g ∧ rowOf A ≠ some g) ∧ g < w.heap.size) B' m' d' y := hy.weak fun k hk h => ⟨h, hk⟩
    have h6 : Ru w' (fun g => (G g ∧ rowOf A ≠ some g) ∧ g < w.heap.size) B' m' d' y := Sl.grown h5 hg fun g e h => h.1.2 e
    refine h6.weak fun k _ h => ⟨h.1.1, fun e => ?_⟩
    rcases hat with ha | ha
    · exact h.1.2 (ha ▸ e)
    · rw [ha] at e; cases e; exact absurd h.2 (Nat.lt_irrefl _)
  have hvl : vs.length = n := by have := h1.len; omega
  refine ⟨hown, by simp [h2, hL], fun k y hy => ?_⟩
  by_cases hk : k < n
  · rw [List.getElem?_append_left (by omega)] at hy
    obtain ⟨B', m', d', hv, hr⟩ := h3 k y hy
    exact ⟨B', m', d', by rw [List.getElem?_append_left (by omega)]; exact hv, mv hr⟩
  · rw [List.getElem?_append_right (by omega), h2] at hy
    obtain ⟨B', m', d', hv, hr⟩ := hN _ y hy
    exact ⟨B', m', d', by rw [List.getElem?_append_right (by omega), hvl]; exact hv, mv hr⟩
/-- What is appended: a row of texts from b2 on, in a world that has only grown since. -/
theorem OTx.src {b2 : Nat} (h : OTx w b2 (From b2) A n c L vs) (hk : Kp w w') (hb : base ≤ b2) (hA : ∀ g, rowOf A' = some g → g < b2 ∨ w.heap.size ≤ g) :
    ∀ (k : Nat) (x : List Int), L[k]? = some x → ∃ (B : Option Addr) (m d : Nat), vs[k]? = some (Value.slice B m d) ∧ Ru w' (fun g => From base g ∧ rowOf A' ≠ some g) B m d x := by
  intro k x hx
  obtain ⟨B, m, d, hv, hr⟩ := h.2.2 k x hx
  refine ⟨B, m, d, hv, Sl.kp (Sl.weak hr fun g hg hG => ⟨?_, fun e => ?_⟩) hk⟩
  · have := hG.1; unfold From at *; omega
  · have h1 := hG.1; have h2 := hA g e; unfold From at *; omega
end

set_option maxRecDepth 100000 in
set_option maxHeartbeats 3200000 in
theorem mergeR_any (a b : ByteArray) (ha : a.size ≤ 1000) (hb : b.size ≤ 1000) (w : World) :
    Calls Try.prog 40 #[.string a, .string b] w fun e w' => e = .returned (.string (bs (allM (keepM ((readF (by8 a)).1 ++ (readF (by8 b)).1) ((readF (by8 a)).1 ++ (readF (by8 b)).1).length)))) ∧ Kp w w' := by
  have HRA := Lib.hid fun wx => readR_any a (by omega) wx
  have HRB := Lib.hid fun wx => readR_any b (by omega) wx
  have hla := (readF_len _ (by8 a) (Nat.le_refl _)).2
  have hlb := (readF_len _ (by8 b) (Nat.le_refl _)).2
  have hka := (readF_len _ (by8 a) (Nat.le_refl _)).1
  have hkb := (readF_len _ (by8 b) (Nat.le_refl _)).1
  have hma := readF_mem _ (by8 a) (Nat.le_refl _)
  have hmb := readF_mem _ (by8 b) (Nat.le_refl _)
  obtain ⟨_, h2a, _⟩ := read_take _ (by8 a) (Nat.le_refl _)
  obtain ⟨_, h2b, _⟩ := read_take _ (by8 b) (Nat.le_refl _)
  rw [by8_length] at hla hlb hma hmb hka hkb
  obtain ⟨la, ela⟩ : ∃ la, la = (readF (by8 a)).1 := ⟨_, rfl⟩
  obtain ⟨lb, elb⟩ : ∃ lb, lb = (readF (by8 b)).1 := ⟨_, rfl⟩
  rw [← ela] at HRA hla hma h2a ⊢
  rw [← elb] at HRB hlb hmb h2b ⊢
  obtain ⟨ls, els⟩ : ∃ ls, ls = la ++ lb := ⟨_, rfl⟩
  have HLM : Hid (∀ x ∈ ls, x.length ≤ 1000) := fun x hx => by
    rw [els] at hx
    rcases List.mem_append.1 hx with hx | hx
    · exact Nat.le_trans (hma x hx) ha
    · exact Nat.le_trans (hmb x hx) hb
  have HTOT : Hid ((allM ls).length ≤ 2000) := by
    show _ ≤ _
    rw [els]
    have h : allM (la ++ lb) = allM la ++ allM lb := by unfold allM; rw [List.flatMap_append]
    rw [h, List.length_append]
    omega
  have hm2 : ls.length ≤ 2000 := by rw [els, List.length_append]; omega
  have HAB : Hid (la ++ lb = ls) := els.symm
  rw [← els]
  have HLA : Hid (la.length ≤ 1000) := by show _ ≤ _; omega
  have HLB : Hid (lb.length ≤ 1000) := by show _ ≤ _; omega
  clear ela elb hma hmb h2a h2b hka hkb els hla hlb
  generalize (readF (by8 a)).2 = pa at *
  generalize (readF (by8 b)).2 = pb at *
  obtain ⟨m, hm⟩ : ∃ m, m = ls.length := ⟨_, rfl⟩
  rw [← hm] at hm2 ⊢
  have HM := Lib.hid hm.symm
  clear hm
  go_enter Try.func40, Try.ntmps40
  go_wp2_with fail
  refine (HRA.out w).mono ?_
  rintro e w2 ⟨A2, n2, c2, vs2, rfl, ho2, k2⟩
  go_wp2_with fail
  refine (HRB.out w2).mono ?_
  rintro e w3 ⟨A3, n3, c3, vs3, rfl, ho3, k3⟩
  have hn2 : n2 ≤ 1000 := by have := HLA.out; have := ho2.2.1; omega
  have hn3 : n3 ≤ 1000 := by have := HLB.out; have := ho3.2.1; omega
  have hz2 := k2.size
  have hz3 := k3.size
  have ho2' := ho2.kp k3
  have HL2 := Lib.hid ho2.2.1
  have HL3 := Lib.hid ho3.2.1
  have h1a := ho2.one
  have h1b := ho3.one
  have hsl2 := ho2'.1.sl
  have hsl3 := ho3.1.sl
  have HS2 := Lib.hid (ho2.src (base := w.heap.size) (A' := none) k3 (Nat.le_refl _) (fun g e => by cases e))
  go_wp2_with (first
    | (at_builtin; refine wpList_append_sl _ rfl (.tmp 24) (.tmp 25) _ rfl w.heap.size 23 _ 1 24 Try.underlying22 infoTx rfl (by omega) none 0 0 [] rfl (Own.nil _ _ _ _) _ A2 n2 c2 vs2 rfl hsl2 h1a (by simp only [maxLen]; omega) (by omega) (by first | omega | (simp; omega)) ?_; intro A4 c4 w4 hown4 hg4 hat4; have k4 : Kp w3 w4 := (Kp.refl w3).grown hg4 (fun g e => by cases e); have ho4 := (OTx.nil w3 w.heap.size (From w.heap.size)).apps HL2.out HS2.out hown4 hg4 hat4; rw [Nat.zero_add, List.nil_append, List.nil_append] at ho4; have hsl4 := hsl3.kp k4; have hz4 := k4.size)
    | (at_builtin; refine wpList_append_sl _ rfl (.tmp 27) (.tmp 28) _ rfl w.heap.size 23 _ 1 24 Try.underlying22 infoTx rfl (by omega) A4 n2 c4 vs2 rfl ho4.1 _ A3 n3 c3 vs3 rfl hsl4 h1b (by simp only [maxLen]; omega) (by omega) (by first | omega | (simp; omega)) ?_; intro A5 c5 w5 hown5 hg5 hat5))
  have ho5 := ho4.apps HL3.out (ho3.src (base := w.heap.size) (A' := A4) k4 (by omega) (fun g e => by
    rcases hat4 with h | h
    · rw [h] at e; cases e
    · rw [h] at e; cases e; exact Or.inr (Nat.le_refl _))) hown5 hg5 hat5
  rw [HAB.out] at ho5
  have kw5 : Kp w w5 := ((k2.trans k3).trans k4).grown hg5 fun g e => (ho4.1.lt g e).1
  obtain ⟨n5, hn5⟩ : ∃ n5, n5 = n2 + n3 := ⟨_, rfl⟩
  have hT5 := ho5.txs
  rw [← hn5] at hT5 ⊢
  obtain rfl : m = n5 := by have := hT5.len; have := HM.out; omega
  have hc5 := hT5.cap
  have hle5 := hT5.le
  unfold maxLen at hc5
  clear ho5 hown5 hg5 hat5 ho4 hown4 hg4 hat4 hsl4 hsl2 hsl3 HS2 h1a h1b ho2' ho2 ho3 HL2 HL3 hn5 k4 k3 k2 hz4 hz3 hz2 HAB HLA HLB HRA HRB
  have HAE := Lib.hid fun k => againM_end ls k
  rw [HM.out] at HAE
  go_loopg [10, 11] m (fun g tv iv wr => ∃ (k : Nat), k + g = m ∧ iv = .int .i64 k ∧ tv = .string (bs (allM (keepM ls k))) ∧ Kp w5 wr)
  case atStart => exact ⟨0, by omega, rfl, by simp [allM, keepM, bs_nil], Kp.refl _⟩
  case round =>
    obtain ⟨k, hk, rfl, rfl, kw⟩ := hrel
    by_cases hlt : k < m
    · have hT6 := hT5.kp kw
      have hlL : k < ls.length := by rw [HM.out]; exact hlt
      have hx1 : (ls[k]?.getD []).length ≤ 1000 := by rw [List.getElem?_eq_getElem hlL, Option.getD_some]; exact HLM.out _ (List.getElem_mem hlL)
      have hb1 : (bs (allM (keepM ls k))).size ≤ 2000 := by
        rw [bs_size]
        have h1 := (keepM_len ls k (by omega)).1
        have h2 := allM_take_len ls k
        have h3 := HTOT.out
        omega
      have HKH := Lib.hid fun h => keepM_hit (L := ls) (k := k) h
      have HKN := Lib.hid fun h => keepM_miss (L := ls) (k := k) h
      generalize hs1 : bs (allM (keepM ls k)) = s1 at *
      have HS1 := Lib.hid hs1
      clear hs1
      go_wp2_with fail
      go_loopg [12, 13] (m - (k + 1)) (fun g av jv wq => ∃ (j : Nat), j + g = m ∧ k + 1 ≤ j ∧ jv = .int .i64 j ∧ av = .bool (againM ls k j) ∧ Dr wr wq)
      case atStart => exact ⟨k + 1, by omega, by omega, by go_num, by rw [againM_start], Dr.refl _⟩
      case round =>
        obtain ⟨j, hj, hkj, rfl, rfl, hd⟩ := hrel
        by_cases hjt : j < m
        · obtain ⟨ad, B, q, d, rfl, hc, hr⟩ := (hT6.kp hd.kp).get hlt
          obtain ⟨ad2, B2, q2, d2, e2, hc2, hr2⟩ := (hT6.kp hd.kp).get hjt
          obtain rfl : ad = ad2 := Option.some.inj e2
          have HST := Lib.hid (againM_step (L := ls) (i := k) hkj (by rw [HM.out]; exact hjt))
          generalize againM ls k j = ag at *
          generalize ls[k]?.getD [] = x at *
          generalize ls[j]?.getD [] = y at *
          cases hsm : sameB x y with
          | true =>
            have HAG : Hid (againM ls k (j + 1) = true) := by show _ = _; rw [HST.out, hsm, Bool.or_true]
            have HSM := Lib.hid fun (i : Nat) => same_any _ _ B B2 q d q2 d2 x y _ (Sl.drewN hr i) (Sl.drewN hr2 i)
            rw [hsm] at HSM
            clear hsm hr hr2
            go_wp2_with fail
            go_quiet ((go_at_call 18; exact Calls.quiet_of (HSM.out _)))
            go_wp2_with fail
            go_roundg (m - (j + 1))
            case measure => omega
            case rel => exact ⟨j + 1, by omega, by omega, by go_num, by rw [HAG.out], hd.drewN _⟩
          | false =>
            have HAG : Hid (againM ls k (j + 1) = ag) := by show _ = _; rw [HST.out, hsm, Bool.or_false]
            have HSM := Lib.hid fun (i : Nat) => same_any _ _ B B2 q d q2 d2 x y _ (Sl.drewN hr i) (Sl.drewN hr2 i)
            rw [hsm] at HSM
            clear hsm hr hr2
            go_wp2_with fail
            go_quiet ((go_at_call 18; exact Calls.quiet_of (HSM.out _)))
            go_wp2_with fail
            go_roundg (m - (j + 1))
            case measure => omega
            case rel => exact ⟨j + 1, by omega, by omega, by go_num, by rw [HAG.out], hd.drewN _⟩
        · obtain rfl : j = m := by omega
          obtain ⟨ad, B, q, d, rfl, hc, hr⟩ := (hT6.kp hd.kp).get hlt
          have HEND := Lib.hid (HAE.out k)
          cases hag : againM ls k j with
          | true =>
            have HTS : Hid (bs (allM (keepM ls (k + 1))) = s1) := by show _ = _; rw [HKH.out (HEND.out.1 hag), HS1.out]
            go_wp2_with fail
            go_roundg (j - (k + 1))
            case measure => omega
            case rel => exact ⟨k + 1, by omega, by go_num, by rw [HTS.out], kw.trans hd.kp⟩
          | false =>
            have HTS : Hid (bs (allM (keepM ls (k + 1))) = s1 ++ bs (entryM (ls[k]?.getD []))) := by
              show _ = _
              rw [HKN.out (fun h => by rw [HEND.out.2 h] at hag; cases hag), allM_snoc, bs_app, HS1.out]
            have HEN := Lib.hid fun wx hk => entryR_any _ B q d (ls[k]?.getD []) wx (Sl.kp hr hk) (by rw [← hr.len]; omega)
            have hez : (bs (entryM (ls[k]?.getD []))).size ≤ 10000 := by rw [bs_size, entryM_len]; have := textM_len (ls[k]?.getD []); omega
            clear hr hx1
            generalize bs (entryM (ls[k]?.getD [])) = s2 at *
            go_wp2_with (go_at_call 29; refine (HEN.out _ (Kp.refl _)).mono ?_; rintro e w6 ⟨rfl, k6⟩)
            go_roundg (j - (k + 1))
            case measure => omega
            case rel => exact ⟨k + 1, by omega, by go_num, by rw [HTS.out], (kw.trans hd.kp).trans k6⟩
    · obtain rfl : k = m := by omega
      go_wp2_with fail
      go_ret
      exact ⟨rfl, kw5.trans kw⟩
end Go.Proofs.Ytcbachblhfkcoaa
