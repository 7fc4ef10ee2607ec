/-
  typebarlaw47.few, typebarref13.Right, store.All: what they return. Conditions: the slices can be read, and are not too long.
-/
import Derived.Test.YtcbachblhfkcoaaSt11
import Derived.Test.YtcbachblhfkcoaaSt9
namespace Go.Proofs.Ytcbachblhfkcoaa
open Go.RowKit

def fewM (L : List (List Int)) : List (List Int) := (L.take 12).map (·.take 20)
theorem fewM_mem {L : List (List Int)} {x : List Int} (h : x ∈ fewM L) : x.length ≤ 20 := by
  unfold fewM at h
  obtain ⟨y, _, rfl⟩ := List.mem_map.1 h
  rw [List.length_take]; omega
theorem fewM_len (L : List (List Int)) : (fewM L).length ≤ 12 := by unfold fewM; rw [List.length_map, List.length_take]; omega

set_option maxRecDepth 100000 in
set_option maxHeartbeats 3200000 in
theorem few47_any (A : Option Addr) (n c : Nat) (L : List (List Int)) (w : World) (hT : Txs w Any Any A n c L) :
    Calls Try.prog 34 #[.slice A n c] w fun e w' => ∃ A' n' c', e = .returned (.slice A' n' c') ∧ Txs w' Any Any A' n' c' (fewM L) ∧ Kp w w' := by
  have hnl := hT.le
  have hnc := hT.cap
  unfold maxLen at hnc
  have HL := Lib.hid hT.len
  go_enter Try.func34, Try.ntmps34
  go_wp2_with fail
  go_loopg [3, 4] 12 (fun g ov iv wr => ∃ (k : Nat) (A3 : Option Addr) (n3 c3 : Nat) (vs : List Value), k + g = 12 ∧ iv = .int .i64 k ∧ ov = .slice A3 n3 c3 ∧ OTx wr w.heap.size (To w.heap.size) A3 n3 c3 ((L.take k).map (·.take 20)) vs ∧ n3 ≤ k ∧ Kp w wr)
  case atStart => exact ⟨0, none, 0, 0, [], by omega, rfl, rfl, OTx.nil _ _ _, by omega, Kp.refl _⟩
  case round =>
    obtain ⟨k, A3, n3, c3, vs, hk, rfl, rfl, ho, hn3, kw⟩ := hrel
    by_cases h1 : k < n
    · by_cases h2 : k < 12
      · have h2b : decide ((k : Int) < 12) = true := by simp; omega
        obtain ⟨ad, B, m, d, rfl, hc, hr⟩ := ((hT.weak (F' := To w.heap.size) (G' := To w.heap.size) (fun k hk _ => hk) (fun k hk _ => hk)).kp kw).get h1
        have hml := hr.le
        have hmc := hr.cap
        have hts : (L.take (k + 1)).map (fun x => x.take 20) = (L.take k).map (fun x => x.take 20) ++ [(L[k]?.getD []).take 20] := by
          have hl : k < L.length := by rw [HL.out]; exact h1
          rw [List.take_succ_eq_append_getElem hl, List.getElem?_eq_getElem hl, List.map_append]; rfl
        have hr2 := Ru.take hr (show min m 20 ≤ m by omega)
        have hmin : (L[k]?.getD []).take (min m 20) = (L[k]?.getD []).take 20 := by
          rcases Nat.le_total m 20 with h | h
          · rw [Nat.min_eq_left h, List.take_of_length_le (by rw [hr.len]; omega), List.take_of_length_le (by rw [hr.len]; omega)]
          · rw [Nat.min_eq_right h]
        rw [hmin] at hr2
        have HTS := Lib.hid hts
        have HF20 := Lib.hid fun wx => few_any B m d 20 hml hmc (by omega) wx
        have hzr := kw.size
        have hol := ho.1.lt
        generalize (L[k]?.getD []).take 20 = x at *
        generalize min m 20 = m' at *
        clear hts hmin hr
        go_wp2_with (first
          | (go_at_call 14; refine (HF20.out _).mono ?_; rintro e w' ⟨rfl, rfl⟩)
          | (at_builtin; refine wpList_append_sl _ rfl (.tmp 15) (.tmp 21) _ rfl w.heap.size 23 _ 1 24 Try.underlying22 infoTx rfl (by omega) A3 n3 c3 vs rfl (ho.1.alloc _) Any _ 1 1 [.slice B m' d] rfl (Sl.new _ _ _ _ _ trivial rfl (by omega)) (by simp [Value.oneCell']) (by simp only [maxLen]; omega) (by omega) (by first | omega | (simp; omega)) ?_; intro A4 c4 w4 hown4 hg4 hat4))
        have ka := (Kp.refl wr).alloc (.cells #[.slice B m' d] 23)
        have hl3 : Ru (wr.alloc (.cells #[.slice B m' d] 23)) (fun g => To w.heap.size g ∧ rowOf A3 ≠ some g) B m' d x :=
          Sl.kp (Sl.weak hr2 fun g _ hg => ⟨hg, fun e => by have := (hol g e).1; unfold To at hg; omega⟩) ka
        have ho4 := (ho.kp ka).app hl3 hown4 hg4 hat4
        go_roundg (12 - (k + 1))
        case measure => omega
        case rel =>
          refine ⟨k + 1, A4, n3 + 1, c4, vs ++ [.slice B m' d], by omega, by go_num, rfl, ?_, by omega, (kw.trans ka).grown hg4 fun g e => (hol g e).1⟩
          rw [HTS.out]
          exact ho4
      · have hk12 : k = 12 := by omega
        subst hk12
        have hT4 := ho.txs.any
        clear ho
        go_wp2_with fail
        go_ret
        exact ⟨A3, n3, c3, rfl, hT4, kw⟩
    · have hT4 : Txs wr Any Any A3 n3 c3 (fewM L) := by
        have h := ho.txs.any
        rw [show fewM L = (L.take k).map (·.take 20) by unfold fewM; rw [List.take_of_length_le (by rw [HL.out]; omega), List.take_of_length_le (by rw [HL.out]; omega)]]
        exact h
      clear ho
      go_wp2_with fail
      go_ret
      exact ⟨A3, n3, c3, rfl, hT4, kw⟩

set_option maxRecDepth 100000 in
set_option maxHeartbeats 3200000 in
theorem right_any (F : Nat → Prop) (A : Option Addr) (n c : Nat) (l : List Int) (w : World) (hl : Ru w F A n c l) (hn : n ≤ 100000) : Calls Try.prog 36 #[.slice A n c] w (RetSl 21 (R32 (l.map fixM)) w) := by
  have hle := hl.le
  have hcp := hl.cap
  unfold maxLen at hcp
  have HL := Lib.hid hl.len
  go_enter Try.func36, Try.ntmps36
  go_wp2_with fail
  go_loopg [3, 4] n (fun g ov iv wr => ∃ (k : Nat) (A3 : Option Addr) (c3 : Nat), k + g = n ∧ iv = .int .i64 k ∧ ov = .slice A3 k c3 ∧ Own wr w.heap.size 21 1 A3 k c3 (R32 ((l.take k).map fixM)) ∧ Kp w wr)
  case atStart => exact ⟨0, none, 0, by omega, rfl, rfl, Own.nil _ _ _ _, Kp.refl _⟩
  case round =>
    obtain ⟨k, A3, c3, hk, rfl, rfl, ho, kw⟩ := hrel
    by_cases hlt : k < n
    · obtain ⟨ad, rfl, hc⟩ := Ru.get (hl.kp kw) hlt
      have hts : (l.take (k + 1)).map fixM = (l.take k).map fixM ++ [fixM (l[k]?.getD 0)] := by
        have hl : k < l.length := by rw [HL.out]; exact hlt
        rw [List.take_succ_eq_append_getElem hl, List.getElem?_eq_getElem hl, List.map_append]; rfl
      obtain ⟨x, hx⟩ : ∃ x, x = l[k]?.getD 0 := ⟨_, rfl⟩
      rw [← hx] at hts hc
      have HTS := Lib.hid hts
      have hzr := kw.size
      have HV := Lib.hid fun wx => refValid_any x wx
      clear hx hts
      cases hv : validB x with
      | true =>
        have HF : Hid (fixM x = x) := fixM_id hv
        rw [hv] at HV
        clear hv
        go_wp2_with (first
          | (go_at_call 57; refine (HV.out _).mono ?_; rintro e w' ⟨rfl, hw'⟩; subst hw')
          | (at_builtin; refine wpList_append_sl _ rfl (.tmp 16) (.tmp 21) _ rfl w.heap.size 21 _ 1 4 Try.underlying23 info32 rfl (by omega) A3 k c3 (R32 ((l.take k).map fixM)) rfl (ho.alloc _) Any _ 1 1 (R32 [x]) rfl (Sl.new _ _ _ _ _ trivial rfl (by omega)) (R32_one [x]) (by simp only [maxLen]; omega) (by omega) (by first | omega | (simp; omega)) ?_; intro A4 c4 w4 hown4 hg4 hat4))
        have ka := (Kp.refl wr).alloc (.cells #[.int .i32 x] 21)
        rw [R32_append] at hown4
        go_roundg (n - (k + 1))
        case measure => omega
        case rel => exact ⟨k + 1, A4, c4, by omega, by go_num, rfl, by rw [HTS.out, HF.out]; exact hown4, (kw.trans ka).grown hg4 fun g e => (ho.lt g e).1⟩
      | false =>
        have HF : Hid (fixM x = 65533) := by show _ = _; unfold fixM; rw [hv]; rfl
        rw [hv] at HV
        clear hv
        go_wp2_with (first
          | (go_at_call 57; refine (HV.out _).mono ?_; rintro e w' ⟨rfl, hw'⟩; subst hw')
          | (at_builtin; refine wpList_append_sl _ rfl (.tmp 23) (.tmp 24) _ rfl w.heap.size 21 _ 1 4 Try.underlying23 info32 rfl (by omega) A3 k c3 (R32 ((l.take k).map fixM)) rfl (ho.alloc _) Any _ 1 1 (R32 [65533]) rfl (Sl.new _ _ _ _ _ trivial rfl (by omega)) (R32_one [65533]) (by simp only [maxLen]; omega) (by omega) (by first | omega | (simp; omega)) ?_; intro A4 c4 w4 hown4 hg4 hat4))
        have ka := (Kp.refl wr).alloc (.cells #[.int .i32 65533] 21)
        rw [R32_append] at hown4
        go_roundg (n - (k + 1))
        case measure => omega
        case rel => exact ⟨k + 1, A4, c4, by omega, by go_num, rfl, by rw [HTS.out, HF.out]; exact hown4, (kw.trans ka).grown hg4 fun g e => (ho.lt g e).1⟩
    · obtain rfl : k = n := by omega
      have hta : l.take k = l := List.take_of_length_le (by rw [HL.out]; omega)
      rw [hta] at ho
      clear hta
      go_wp2_with fail
      go_ret
      exact ⟨A3, k, c3, rfl, ho, kw⟩

theorem allM_len {L : List (List Int)} {b : Nat} (h : ∀ x ∈ L, x.length ≤ b) : (allM L).length ≤ L.length * (4 * b + 4) := by
  induction L with
  | nil => simp [allM]
  | cons l L ih =>
    rw [allM_cons, List.length_append, entryM_len, List.length_cons, Nat.add_mul]
    have h1 := textM_len l
    have h2 := h l (by simp)
    have h3 := ih fun x hx => h x (by simp [hx])
    omega
theorem allM_take_len (L : List (List Int)) (k : Nat) : (allM (L.take k)).length ≤ (allM L).length := by
  have h : allM L = allM (L.take k) ++ allM (L.drop k) := by unfold allM; rw [← List.flatMap_append, List.take_append_drop]
  rw [h, List.length_append]
  omega

set_option maxRecDepth 100000 in
set_option maxHeartbeats 3200000 in
/-- All: the store of lines. -/
theorem all_any (F G : Nat → Prop) (A : Option Addr) (n c : Nat) (L : List (List Int)) (w : World) (hT : Txs w F G A n c L) (hb : ∀ x ∈ L, x.length ≤ 100000) (htot : (allM L).length ≤ 1048576) :
    Calls Try.prog 35 #[.slice A n c] w fun e w' => e = .returned (.tuple #[.string (bs (allM L)), .int .i64 0]) ∧ Kp w w' := by
  have hnl := hT.le
  have hnc := hT.cap
  unfold maxLen at hnc
  have HL := Lib.hid hT.len
  have HB := Lib.hid hb
  have HTOT := Lib.hid htot
  clear hb htot
  go_enter Try.func35, Try.ntmps35
  go_wp2_with fail
  go_loopg [4, 11] n (fun g sv iv wr => ∃ (k : Nat), k + g = n ∧ iv = .int .i64 k ∧ sv = .string (bs (allM (L.take k))) ∧ Kp w wr)
  case atStart => exact ⟨0, by omega, rfl, rfl, Kp.refl _⟩
  case round =>
    obtain ⟨k, hk, rfl, rfl, kw⟩ := hrel
    by_cases hlt : k < n
    · obtain ⟨ad, B, m, d, rfl, hc, hr⟩ := (hT.kp kw).get hlt
      have hlL : k < L.length := by rw [HL.out]; exact hlt
      have hts : allM (L.take (k + 1)) = allM (L.take k) ++ entryM (L[k]?.getD []) := by
        rw [List.take_succ_eq_append_getElem hlL, allM_snoc, List.getElem?_eq_getElem hlL]; rfl
      have hx1 : (L[k]?.getD []).length ≤ 100000 := by rw [List.getElem?_eq_getElem hlL]; exact HB.out _ (List.getElem_mem hlL)
      have htl := allM_take_len L (k + 1)
      rw [hts, List.length_append] at htl
      have hfit : (bs (allM (L.take k))).size + (entryM (L[k]?.getD [])).length ≤ 1048576 := by rw [bs_size]; have := HTOT.out; omega
      have HA := Lib.hid (append_any G B m d (L[k]?.getD []) (bs (allM (L.take k))) wr hr (by rw [← hr.len]; exact hx1) (by omega) hfit)
      have HTS : Hid (bs (allM (L.take (k + 1))) = bs (allM (L.take k)) ++ bs (entryM (L[k]?.getD []))) := by show _ = _; rw [hts, bs_app]
      clear hts hx1 htl hfit hr
      generalize bs (allM (L.take k)) = s1 at *
      generalize bs (entryM (L[k]?.getD [])) = s2 at *
      go_wp2_with (go_at_call 27; refine HA.out.mono ?_; rintro e w2 ⟨rfl, k2⟩)
      go_roundg (n - (k + 1))
      case measure => omega
      case rel => exact ⟨k + 1, by omega, by go_num, by rw [HTS.out], kw.trans k2⟩
    · obtain rfl : k = n := by omega
      have hta : L.take k = L := List.take_of_length_le (by rw [HL.out]; omega)
      rw [hta]
      clear hta
      go_wp2_with fail
      go_ret2
      exact ⟨rfl, kw⟩
end Go.Proofs.Ytcbachblhfkcoaa
