/-
  package store and typebarref47: Read: the lines of a store, and how many bytes they have. Conditions: not more than 100000 bytes.
-/
import Derived.Lib.IndexLaws
import Derived.Test.YtcbachblhfkcoaaSt6
import Derived.Test.YtcbachblhfkcoaaOTx
namespace Go.Proofs.Ytcbachblhfkcoaa
open Go.RowKit

theorem index_eq : ∀ l : List UInt8, Lib.indexByte l 10 = if spanG notL (l.map fun b => (b.toNat : Int)) = l.length then -1 else (spanG notL (l.map fun b => (b.toNat : Int)) : Int)
  | [] => rfl
  | b :: l => by
    rw [Lib.indexByte, List.map_cons, spanG_cons, index_eq l]
    have hle := spanG_le notL (l.map fun b => (b.toNat : Int))
    rw [List.length_map] at hle
    by_cases h : b = 10
    · subst h
      simp [notL]
    · have h1 : (b == 10) = false := by simpa using h
      have h2 : notL (b.toNat : Int) = true := by
        unfold notL
        rw [decide_eq_true_eq]
        intro e
        exact h (UInt8.toNat_inj.1 (by have : b.toNat = 10 := by omega
                                       rw [this]; rfl))
      rw [h1, if_pos h2]
      generalize spanG notL (l.map fun b => (b.toNat : Int)) = q at *
      rw [List.length_cons]
      by_cases hs : q = l.length
      · rw [if_pos hs, if_pos (show q + 1 = l.length + 1 by omega)]; rfl
      · rw [if_neg hs, if_neg (show ¬ q + 1 = l.length + 1 by omega), if_neg (by simp), if_neg (by simp <;> omega)]
        omega
theorem index_str (s : ByteArray) : Lib.indexByte s.data.toList (10 : Int).toNat.toUInt8 = if spanG notL (by8 s) = (by8 s).length then -1 else (spanG notL (by8 s) : Int) := by
  have h := index_eq s.data.toList
  have e : (by8 s).length = s.data.toList.length := by simp [by8]
  rw [e]
  exact h
theorem spanG_at {p : Int → Bool} : ∀ (l : List Int) (n : Nat), (∀ j, j < n → p (l[j]?.getD 0) = true) → n < l.length → p (l[n]?.getD 0) = false → spanG p l = n
  | [], n, _, h, _ => by simp at h
  | c :: t, n, h1, h2, h3 => by
    rw [spanG_cons]
    cases n with
    | zero => rw [if_neg (by simpa using h3)]
    | succ n =>
      rw [if_pos (by simpa using h1 0 (by omega)), spanG_at t n (fun j hj => by simpa using h1 (j + 1) (by omega)) (by simpa using h2) (by simpa using h3)]
theorem spanG_full {p : Int → Bool} : ∀ (l : List Int), (∀ j, j < l.length → p (l[j]?.getD 0) = true) → spanG p l = l.length
  | [], _ => rfl
  | c :: t, h => by
    rw [spanG_cons, if_pos (by simpa using h 0 (by simp)), spanG_full t (fun j hj => by simpa using h (j + 1) (by simpa using hj))]
    rfl

/-- Lines and a number come back: the lines a row of the call's own. -/
def RetRd (ls : List (List Int)) (k : Nat) (w : World) (e : Ending) (w' : World) : Prop :=
  ∃ A n c vs, e = .returned (.tuple #[.slice A n c, .int .i64 (k : Int)]) ∧ OTx w' w.heap.size (From w.heap.size) A n c ls vs ∧ Kp w w'
theorem rd_none {S out : List (List Int)} {N k : Nat} {r : List Int} (h : S = out ++ (readF r).1 ∧ N = k + (readF r).2) (hr : readF r = ([], 0)) : S = out ∧ N = k := by
  rw [hr] at h
  simpa using h
theorem rd_some {S out : List (List Int)} {N k : Nat} {r l : List Int} (h : S = out ++ (readF r).1 ∧ N = k + (readF r).2) (hs : spanG notL r ≠ r.length) (hl : slM (r.take (spanG notL r)) = some l) :
    S = (out ++ [l]) ++ (readF (r.drop (spanG notL r + 1))).1 ∧ N = k + spanG notL r + 1 + (readF (r.drop (spanG notL r + 1))).2 := by
  rw [readF_eq r, if_neg hs, hl] at h
  exact ⟨by rw [h.1]; simp, by rw [h.2]; dsimp only; omega⟩
theorem rd_end {r : List Int} (hs : spanG notL r = r.length) : readF r = ([], 0) := by rw [readF_eq, if_pos hs]
theorem rd_bad {r : List Int} (hs : spanG notL r ≠ r.length) (hl : slM (r.take (spanG notL r)) = none) : readF r = ([], 0) := by rw [readF_eq, if_neg hs, hl]
theorem infoTx : (Try.prog.info? 23).map (fun i => (i.zero, i.size, i.bytes)) = some (some (.slice none 0 0), 1, 24) := by kernel_rfl

set_option maxRecDepth 100000 in
set_option maxHeartbeats 3200000 in
theorem storeRead_any (s : ByteArray) (hs : s.size ≤ 100000) (w : World) : Calls Try.prog 31 #[.string s] w (RetRd (readF (by8 s)).1 (readF (by8 s)).2 w) := by
  have HL := Lib.hid (by8_length s)
  go_enter Try.func31, Try.ntmps31
  go_wp2_with fail
  go_loopg [4, 5] (s.size + 1) (fun g ov iv wr => ∃ (k : Nat) (out : List (List Int)) (A : Option Addr) (n c : Nat) (vs : List Value), k + g = s.size + 1 ∧ k ≤ s.size ∧ iv = .int .i64 k ∧ ov = .slice A n c ∧ OTx wr w.heap.size (From w.heap.size) A n c out vs ∧
    Hid ((readF (by8 s)).1 = out ++ (readF ((by8 s).drop k)).1 ∧ (readF (by8 s)).2 = k + (readF ((by8 s).drop k)).2) ∧ n ≤ k ∧ Kp w wr)
  case atStart => exact ⟨0, [], none, 0, 0, [], by omega, by omega, rfl, rfl, OTx.nil _ _ _, ⟨by simp, by simp⟩, by omega, Kp.refl _⟩
  case round =>
    obtain ⟨k, out, A, n, c, vs, hg, hk, rfl, rfl, ho, hf, hn, kw⟩ := hrel
    have he8 : by8 (s.extract k s.size) = (by8 s).drop k := by8_from s k
    have hrl : ((by8 s).drop k).length = s.size - k := by rw [List.length_drop, HL.out]
    have hsp := spanG_le notL ((by8 s).drop k)
    have HIX := Lib.hid fun (wx : World) => Try.strings_IndexByte (s.extract k s.size) 10 wx
    rw [index_str, he8, hrl] at HIX
    obtain ⟨sp, hspd⟩ : ∃ sp, sp = spanG notL ((by8 s).drop k) := ⟨_, rfl⟩
    rw [← hspd] at hsp HIX
    by_cases hend : sp = s.size - k
    · have HE := Lib.hid (rd_none hf.out (rd_end (by rw [hrl, ← hspd]; exact hend)))
      rw [if_pos hend] at HIX
      clear hend hspd hf he8 hrl
      go_wp2_with (go_at_call 54; refine (HIX.out _).mono ?_; rintro e w2 ⟨rfl, hw2⟩; replace hw2 := hw2.symm; subst hw2)
      go_ret2
      rw [HE.out.1, HE.out.2]
      exact ⟨A, n, c, vs, rfl, ho, kw⟩
    · rw [if_neg hend] at HIX
      have hsp2 : sp < s.size - k := by omega
      have he9 : by8 (s.extract k (k + sp)) = ((by8 s).drop k).take sp := by rw [by8_extract]; congr 1; omega
      have HRD := Lib.hid fun (wx : World) => read_any (s.extract k (k + sp)) (by rw [ByteArray.size_extract]; omega) wx
      rw [he9] at HRD
      have hne : spanG notL ((by8 s).drop k) ≠ ((by8 s).drop k).length := by rw [hrl, ← hspd]; exact hend
      cases hsl : slM (((by8 s).drop k).take sp) with
      | none =>
        have HE := Lib.hid (rd_none hf.out (rd_bad hne (by rw [← hspd]; exact hsl)))
        rw [hsl] at HRD
        clear hend hspd hf he8 hrl he9 hne hsl
        go_wp2_with (first
          | (go_at_call 54; refine (HIX.out _).mono ?_; rintro e w2 ⟨rfl, hw2⟩; replace hw2 := hw2.symm; subst hw2)
          | (go_at_call 55; refine (HRD.out _).mono ?_; rintro e w3 ⟨A3, n3, c3, rfl, hr3, k3⟩))
        go_ret2
        rw [HE.out.1, HE.out.2]
        exact ⟨A, n, c, vs, rfl, ho.kp k3, kw.trans k3⟩
      | some l =>
        have HE := Lib.hid (rd_some hf.out hne (by rw [← hspd]; exact hsl))
        rw [← hspd, List.drop_drop] at HE
        rw [hsl] at HRD
        have hzr := kw.size
        have hol := ho.1.lt
        clear hend hspd hf he8 hrl he9 hne hsl
        go_wp2_with (first
          | (go_at_call 54; refine (HIX.out _).mono ?_; rintro e w2 ⟨rfl, hw2⟩; replace hw2 := hw2.symm; subst hw2)
          | (go_at_call 55; refine (HRD.out _).mono ?_; rintro e w3 ⟨A3, n3, c3, rfl, hr3, k3⟩; have ho3 := ho.kp k3; have hz3 : w.heap.size ≤ w3.heap.size := Nat.le_trans hzr k3.size)
          | (at_builtin; refine wpList_append_sl _ rfl (.tmp 31) (.tmp 33) _ rfl w.heap.size 23 _ 1 24 Try.underlying22 infoTx rfl (by omega) A n c vs rfl (ho3.1.alloc _) Any _ 1 1 [.slice A3 n3 c3] rfl (Sl.new _ _ _ _ _ trivial rfl (by omega)) (by simp [Value.oneCell']) (by simp only [maxLen]; omega) (by omega) (by first | omega | (simp; omega)) ?_; intro A4 c4 w4 hown4 hg4 hat4))
        have ka := (Kp.refl w3).alloc (.cells #[.slice A3 n3 c3] 23)
        have hl3 : Ru (w3.alloc (.cells #[.slice A3 n3 c3] 23)) (fun g => From w.heap.size g ∧ rowOf A ≠ some g) A3 n3 c3 l :=
          Sl.kp (Sl.weak (hr3 l rfl) fun g _ hg => ⟨by unfold From at *; omega, fun e => by have := (hol g e).2; unfold From at hg; omega⟩) ka
        have ho4 := (ho3.kp ka).app hl3 hown4 hg4 hat4
        go_roundg (s.size + 1 - (k + sp + 1))
        case measure => omega
        case rel =>
          refine ⟨k + sp + 1, out ++ [l], A4, n + 1, c4, _, by omega, by omega, by go_num, rfl, ho4, ?_, by omega, ((kw.trans k3).trans ka).grown hg4 fun g e => (hol g e).1⟩
          have h := HE.out
          rw [show k + (sp + 1) = k + sp + 1 by omega] at h
          exact h

set_option maxRecDepth 100000 in
set_option maxHeartbeats 3200000 in
theorem readR_any (s : ByteArray) (hs : s.size ≤ 100000) (w : World) : Calls Try.prog 32 #[.string s] w (RetRd (readF (by8 s)).1 (readF (by8 s)).2 w) := by
  have HL := Lib.hid (by8_length s)
  go_enter Try.func32, Try.ntmps32
  go_wp2_with fail
  go_loopg [4, 5, 6] s.size (fun g ov av iv wr => ∃ (a k : Nat) (out : List (List Int)) (A : Option Addr) (n c : Nat) (vs : List Value), k + g = s.size ∧ k ≤ s.size ∧ a ≤ k ∧ iv = .int .i64 k ∧ av = .int .i64 a ∧ ov = .slice A n c ∧ OTx wr w.heap.size (From w.heap.size) A n c out vs ∧
    Hid ((readF (by8 s)).1 = out ++ (readF ((by8 s).drop a)).1 ∧ (readF (by8 s)).2 = a + (readF ((by8 s).drop a)).2) ∧ Hid (∀ j, j < k - a → notL (((by8 s).drop a)[j]?.getD 0) = true) ∧ n ≤ a ∧ Kp w wr)
  case atStart => exact ⟨0, 0, [], none, 0, 0, [], by omega, by omega, by omega, rfl, rfl, rfl, OTx.nil _ _ _, ⟨by simp, by simp⟩, (fun j hj => absurd hj (by omega)), by omega, Kp.refl _⟩
  case round =>
    obtain ⟨a, k, out, A, n, c, vs, hg, hk, hak, rfl, rfl, rfl, ho, hf, hno, hn, kw⟩ := hrel
    have hrl : ((by8 s).drop a).length = s.size - a := by rw [List.length_drop, HL.out]
    by_cases hlt : k < s.size
    · obtain ⟨x, hx⟩ : ∃ x, x = (by8 s)[k]?.getD 0 := ⟨_, rfl⟩
      have hrix := run_index_str (P := Try.prog) wr 9 s .i64 k k Try.underlying9 rfl hlt x hx.symm
      have hxd : ((by8 s).drop a)[k - a]?.getD 0 = x := by rw [List.getElem?_drop, show a + (k - a) = k by omega, hx]
      clear hx
      by_cases h10 : x = 10
      · subst h10
        have hsp : spanG notL ((by8 s).drop a) = k - a := spanG_at _ _ hno.out (by rw [hrl]; omega) (by rw [hxd]; rfl)
        have hne : spanG notL ((by8 s).drop a) ≠ ((by8 s).drop a).length := by rw [hrl, hsp]; omega
        have he9 : by8 (s.extract a k) = ((by8 s).drop a).take (k - a) := by8_extract _ _ _
        have hnn : ∀ b ∈ ((by8 s).drop a).take (k - a), b ≠ 10 := by
          intro b hb e
          obtain ⟨j, hj, hbj⟩ := List.getElem_of_mem hb
          rw [List.length_take] at hj
          have h := hno.out j (by omega)
          rw [List.getElem_take] at hbj
          rw [List.getElem?_eq_getElem (by omega), Option.getD_some, hbj, e] at h
          cases h
        have HRD := Lib.hid fun (wx : World) => lineR_any (s.extract a k) (by rw [ByteArray.size_extract]; omega) wx
        rw [he9, slR_eq hnn] at HRD
        cases hsl : slM (((by8 s).drop a).take (k - a)) with
        | none =>
          have HE := Lib.hid (rd_none hf.out (rd_bad hne (by rw [hsp]; exact hsl)))
          rw [hsl] at HRD
          clear hf hrl he9 hne hsl hnn hno hsp hxd
          go_wp2_with (go_at_call 56; refine (HRD.out _).mono ?_; rintro e w3 ⟨A3, n3, c3, rfl, hr3, k3⟩)
          go_ret2
          rw [HE.out.1, HE.out.2]
          exact ⟨A, n, c, vs, rfl, ho.kp k3, kw.trans k3⟩
        | some l =>
          have HE := Lib.hid (rd_some hf.out hne (by rw [hsp]; exact hsl))
          rw [hsp, List.drop_drop] at HE
          rw [hsl] at HRD
          have hzr := kw.size
          have hol := ho.1.lt
          clear hf hrl he9 hne hsl hnn hno hsp hxd
          go_wp2_with (first
            | (go_at_call 56; refine (HRD.out _).mono ?_; rintro e w3 ⟨A3, n3, c3, rfl, hr3, k3⟩; have ho3 := ho.kp k3; have hz3 : w.heap.size ≤ w3.heap.size := Nat.le_trans hzr k3.size)
            | (at_builtin; refine wpList_append_sl _ rfl (.tmp 31) (.tmp 33) _ rfl w.heap.size 23 _ 1 24 Try.underlying22 infoTx rfl (by omega) A n c vs rfl (ho3.1.alloc _) Any _ 1 1 [.slice A3 n3 c3] rfl (Sl.new _ _ _ _ _ trivial rfl (by omega)) (by simp [Value.oneCell']) (by simp only [maxLen]; omega) (by omega) (by first | omega | (simp; omega)) ?_; intro A4 c4 w4 hown4 hg4 hat4))
          have ka := (Kp.refl w3).alloc (.cells #[.slice A3 n3 c3] 23)
          have hl3 : Ru (w3.alloc (.cells #[.slice A3 n3 c3] 23)) (fun g => From w.heap.size g ∧ rowOf A ≠ some g) A3 n3 c3 l :=
            Sl.kp (Sl.weak (hr3 l rfl) fun g _ hg => ⟨by unfold From at *; omega, fun e => by have := (hol g e).2; unfold From at hg; omega⟩) ka
          have ho4 := (ho3.kp ka).app hl3 hown4 hg4 hat4
          go_roundg (s.size - (k + 1))
          case measure => omega
          case rel =>
            refine ⟨k + 1, k + 1, out ++ [l], A4, n + 1, c4, _, by omega, by omega, by omega, by go_num, by go_num, rfl, ho4, ?_, (fun j hj => absurd hj (by omega)), by omega, ((kw.trans k3).trans ka).grown hg4 fun g e => (hol g e).1⟩
            have h := HE.out
            rw [show a + (k - a + 1) = k + 1 by omega, show a + (k - a) + 1 = k + 1 by omega] at h
            exact h
      · have hb : (x != 10) = true := by simpa using h10
        have HN : Hid (∀ j, j < k + 1 - a → notL (((by8 s).drop a)[j]?.getD 0) = true) := fun j hj => by
          by_cases e : j = k - a
          · rw [e, hxd]; exact decide_eq_true h10
          · exact hno.out j (by omega)
        clear hno hxd h10 hrl
        go_wp2_with fail
        go_roundg (s.size - (k + 1))
        case measure => omega
        case rel => exact ⟨a, k + 1, out, A, n, c, vs, by omega, by omega, by omega, by go_num, rfl, rfl, ho, hf, HN, hn, kw⟩
    · obtain rfl : k = s.size := by omega
      have HE := Lib.hid (rd_none hf.out (rd_end (spanG_full _ (fun j hj => hno.out j (by omega)))))
      clear hf hrl hno
      go_wp2_with fail
      go_ret2
      rw [HE.out.1, HE.out.2]
      exact ⟨A, n, c, vs, rfl, ho, kw⟩
end Go.Proofs.Ytcbachblhfkcoaa
