/-
  shift.Edit.Do: an edit is done to a line, or does not fit. Conditions: the edit and the line can be read, and are shorter than 10^9.
-/
import Derived.Test.YtakbfppmgngdiaaUndoG
namespace Go.Proofs.Ytakbfppmgngdiaa
open Go.RowKit

theorem info32 : (Try.prog.info? 21).map (fun i => (i.zero, i.size, i.bytes)) = some (some (.int .i32 0), 1, 4) := by kernel_rfl
/-- A line comes back, or none. -/
def RetLine (o : Option (List Int)) (w : World) (e : Ending) (w' : World) : Prop :=
  match o with
  | some l => ∃ A n c, e = .returned (.tuple #[.slice A n c, .bool true]) ∧ Ru w' (From w.heap.size) A n c l ∧ Kp w w'
  | none => e = .returned (.tuple #[.slice none 0 0, .bool false]) ∧ Kp w w'
theorem doM_neg {e : Ed} {l : List Int} (h : e.at_ < 0) : doM e l = none := by unfold doM; rw [if_neg]; omega
theorem doM_far {e : Ed} {l : List Int} (h : (l.length : Int) < e.at_ + e.old.length) : doM e l = none := by unfold doM; rw [if_neg]; omega
theorem doM_no {a : Nat} {o nw l : List Int} (h : (l.drop a).take o.length ≠ o) : doM ⟨a, o, nw⟩ l = none := by unfold doM; rw [if_neg]; rintro ⟨_, _, h3⟩; exact h h3
theorem doM_yes {a : Nat} {o nw l : List Int} (h : a + o.length ≤ l.length) (h2 : (l.drop a).take o.length = o) : doM ⟨a, o, nw⟩ l = some (l.take a ++ nw ++ l.drop (a + o.length)) := by
  unfold doM; rw [if_pos]
  · rfl
  · exact ⟨by simp, by simp; omega, h2⟩
theorem drop_getD (l : List Int) (a k : Nat) : (l.drop a)[k]?.getD 0 = l[a + k]?.getD 0 := by rw [List.getElem?_drop]
theorem take_ne {xs ys : List Int} {k : Nat} (hy : k < ys.length) (h : xs[k]?.getD 0 ≠ ys[k]?.getD 0) : xs.take ys.length ≠ ys := by
  intro e
  apply h
  have h2 : (xs.take ys.length)[k]? = xs[k]? := List.getElem?_take_of_lt hy
  rw [← h2, e]

set_option maxRecDepth 100000 in
set_option maxHeartbeats 3200000 in
theorem do_fail_neg (at_ : Int) (A B C : Option Addr) (n c m d p q : Nat) (w : World) (hat : at_ < 0) :
    Calls Try.prog 38 #[.agg #[.int .i64 at_, .slice A n c, .slice B m d], .slice C p q] w fun e w' => e = .returned (.tuple #[.slice none 0 0, .bool false]) ∧ Kp w w' := by
  go_enter Try.func38, Try.ntmps38
  go_wp2
  refine bodyPost_ret (v := .tuple #[.slice none 0 0, .bool false]) (by simp [results, Try.results38, go_sem]) rfl ?_
  exact ⟨rfl, (Kp.refl _).alloc _⟩
set_option maxRecDepth 100000 in
set_option maxHeartbeats 3200000 in
theorem do_fail_end (at_ v : Int) (A B C : Option Addr) (n c m d p q : Nat) (w : World) (hat : ¬ at_ < 0) (hv : wrap64 (at_ + n) = v) (hf : v < 0 ∨ (p : Int) < v) :
    Calls Try.prog 38 #[.agg #[.int .i64 at_, .slice A n c, .slice B m d], .slice C p q] w fun e w' => e = .returned (.tuple #[.slice none 0 0, .bool false]) ∧ Kp w w' := by
  by_cases h0 : v < 0
  · clear hf
    go_enter Try.func38, Try.ntmps38
    go_wp2
    refine bodyPost_ret (v := .tuple #[.slice none 0 0, .bool false]) (by simp [results, Try.results38, go_sem]) rfl ?_
    exact ⟨rfl, (Kp.refl _).alloc _⟩
  · have h1 : (p : Int) < v := by omega
    clear hf
    go_enter Try.func38, Try.ntmps38
    go_wp2
    refine bodyPost_ret (v := .tuple #[.slice none 0 0, .bool false]) (by simp [results, Try.results38, go_sem]) rfl ?_
    exact ⟨rfl, (Kp.refl _).alloc _⟩

set_option maxRecDepth 100000 in
set_option maxHeartbeats 3200000 in
theorem do_fit (a : Nat) (A B C : Option Addr) (n c m d p q : Nat) (xs ys l : List Int) (w : World) (hx : Ru w Any A n c xs) (hy : Ru w Any B m d ys) (hl : Ru w Any C p q l) (hn : n ≤ 1000000000) (hm : m ≤ 1000000000) (hp : p ≤ 1000000000) (hfit : a + n ≤ p) :
    Calls Try.prog 38 #[.agg #[.int .i64 (a : Int), .slice A n c, .slice B m d], .slice C p q] w (RetLine (doM ⟨a, xs, ys⟩ l) w) := by
  have hxl := hx.len
  have hll := hl.len
  have hcx := hx.cap
  have hlx := hx.le
  have hcl := hl.cap
  have hlel := hl.le
  have hcy := hy.cap
  have hly := hy.le
  unfold maxLen at hcx hcl hcy
  have HX := Lib.hid hxl
  have HL := Lib.hid hll
  clear hxl hll
  go_enter Try.func38, Try.ntmps38
  go_upto_region 1 with fail
  have ka := (Kp.refl w).alloc (.cells #[.int .i64 (a : Int), .slice A n c, .slice B m d] 56)
  have b1 := Bx.new w #[.int .i64 (a : Int), .slice A n c, .slice B m d] 56
  have hx1 := hx.kp ka
  have hy1 := hy.kp ka
  have hl1 := hl.kp ka
  clear hx hy hl
  generalize (w.alloc (.cells #[.int .i64 (a : Int), .slice A n c, .slice B m d] 56)) = w1 at *
  obtain ⟨b0, b1', b2, _, _, _⟩ := b1.three
  have hwr : wrap64 ((a : Int) + n) = ((a + n : Nat) : Int) := by rw [IntWalk.wrap64_in _ (by omega)]; omega
  have hgt : ¬ (p : Int) < ((a + n : Nat) : Int) := by omega
  obtain ⟨en, hen⟩ : ∃ en, en = a + n := ⟨_, rfl⟩
  rw [← hen] at hwr hgt
  have HEN := Lib.hid hen
  clear hen
  go_wp2_with fail
  go_loopw [32] (fun i wr => ∃ k : Nat, k ≤ n ∧ i = .int .i64 k ∧ wr = w1 ∧ Hid ((l.drop a).take k = xs.take k)) (fun i _ => n - (intOf i).toNat)
  case atStart => exact ⟨0, Nat.zero_le _, rfl, rfl, rfl⟩
  case round =>
    obtain ⟨k, hk, rfl, rfl, htk⟩ := hrel
    by_cases hlt : k < n
    · obtain ⟨ad, rfl, hc1⟩ := hx1.get hlt
      obtain ⟨bd, rfl, hc2⟩ := hl1.get (k := a + k) (by omega)
      have hak : (a : Int) + k = ((a + k : Nat) : Int) := by omega
      have hak2 : a + k < p := by omega
      by_cases hxy : (l.drop a)[k]?.getD 0 = xs[k]?.getD 0
      · have HT : Hid ((l.drop a).take (k + 1) = xs.take (k + 1)) := take_eq_of (by rw [List.length_drop, HL.out]; omega) (by rw [HX.out]; exact hlt) htk.out hxy
        rw [drop_getD] at hxy
        generalize l[a + k]?.getD 0 = u at *
        generalize xs[k]?.getD 0 = v at *
        subst hxy
        generalize a + k = ak at *
        go_wp2
        exact ⟨⟨k + 1, by omega, by go_num, trivial, HT⟩, by simp [intOf]; omega⟩
      · have hB : ((l[a + k]?.getD 0) != (xs[k]?.getD 0)) = true := by rw [bne_iff_ne, ← drop_getD]; exact hxy
        have HN : Hid (doM ⟨a, xs, ys⟩ l = none) := doM_no (take_ne (by rw [HX.out]; exact hlt) hxy)
        rw [drop_getD] at hxy
        generalize l[a + k]?.getD 0 = u at *
        generalize xs[k]?.getD 0 = v at *
        generalize a + k = ak at *
        go_wp2
        refine bodyPost_ret (v := .tuple #[.slice none 0 0, .bool false]) (by simp [results, Try.results38, go_sem]) rfl ?_
        rw [HN.out]
        exact ⟨rfl, ka⟩
    · have HY : Hid (doM ⟨a, xs, ys⟩ l = some (l.take a ++ ys ++ l.drop (a + n))) := by
        show _ = _
        have hkn : k = n := by omega
        subst hkn
        have h1 := htk.out
        rw [← HX.out, List.take_of_length_le (Nat.le_refl xs.length)] at h1
        have := doM_yes (nw := ys) (by rw [HX.out, HL.out]; exact hfit) h1
        rw [HX.out] at this
        exact this
      have hta := hl1.take (k := a) (by omega)
      have htd : Ru wr (To wr.heap.size) (if q = a + n then C else C.map (·.add (a + n))) (p - (a + n)) (q - (a + n)) (l.drop (a + n)) := Sl.weak (hl1.drop (k := a + n) hfit) fun k hk _ => hk
      rw [← HEN.out] at htd
      have hal : a ≤ p := by omega
      have hel : en ≤ p := by have := HEN.out; omega
      have hkd : Hid (k = k) := rfl
      clear hl1 htk hk
      go_upto_region 11 with (at_builtin; refine wpList_append_sl _ rfl _ _ _ rfl wr.heap.size 21 _ 1 4 Try.underlying49 info32 rfl (by omega) none 0 0 [] rfl (Own.nil _ _ _ _) Any C a q (R32 (l.take a)) rfl hta (R32_one _) (by simp only [maxLen]; omega) (by omega) (by omega) ?_; intro A3 c3 w3 hown hg3 hat3)
      rw [List.nil_append, Nat.zero_add] at hown
      have k3 := ka.grown hg3 (by simp [rowOf])
      have b3 := b1.grown hg3 (by simp [rowOf])
      have hy3 := Sl.grown hy1 hg3 (by simp [rowOf])
      have hd3 := Sl.grown htd hg3 (by simp [rowOf])
      have hz3 := hg3.size
      have hzk := ka.size
      clear hy1 htd hta hx1 b1 ka hg3 hat3 b0 b1' b2 hwr
      generalize wr.heap.size = bs at *
      obtain ⟨b0, b1, b2, _, _, _⟩ := b3.three
      go_upto_region 12 with (at_builtin; refine wpList_append_sl _ rfl _ _ _ rfl bs 21 _ 1 4 Try.underlying49 info32 rfl (by omega) A3 a c3 (R32 (l.take a)) rfl hown Any B m d (R32 ys) rfl hy3 (R32_one _) (by simp only [maxLen]; omega) (by omega) (by omega) ?_; intro A4 c4 w4 hown4 hg4 hat4)
      have hrow : ∀ g, rowOf A3 = some g → bs ≤ g := fun g h => (hown.lt g h).1
      have hbl := b3.lt
      have k4 := k3.grown hg4 (fun g h => by have := hrow g h; omega)
      have hd4 : Ru w4 Any (if q = en then C else C.map (·.add en)) (p - en) (q - en) (l.drop en) := by
        have h1 : Sl w3 (To bs) 1 (if q = en then C else C.map (·.add en)) (p - en) (q - en) (R32 (l.drop en)) := hd3
        exact (Sl.grown h1 hg4 fun g h hF => by have := hrow g h; unfold To at hF; omega).any
      have hz4 : bs ≤ w4.heap.size := Nat.le_trans hz3 hg4.size
      have hen3 : (a : Int) + n = (en : Int) := by have := HEN.out; omega
      clear hown hg4 hat4 hrow hd3 hy3 b3 b0 b1 b2 hz3 k3
      have hcs : q = en ∨ q ≠ en := by omega
      rcases hcs with hc | hc
      rw [if_pos hc] at hd4
      have e0 : q - en = 0 := by omega
      rw [e0] at hd4
      rotate_left
      rw [if_neg hc] at hd4
      all_goals
        go_wp2_with (at_builtin; refine wpList_append_sl _ rfl _ _ _ rfl bs 21 _ 1 4 Try.underlying49 info32 rfl (by omega) A4 (a + m) c4 (R32 (l.take a) ++ R32 ys) rfl hown4 Any _ _ _ (R32 (l.drop en)) rfl hd4 (R32_one _) (by simp only [maxLen]; omega) (by omega) (by omega) ?_; intro A5 c5 w5 hown5 hg5 hat5)
        have hrow : ∀ g, rowOf A4 = some g → bs ≤ g := fun g h => (hown4.lt g h).1
        refine bodyPost_ret (v := .tuple #[.slice A5 (a + m + (p - en)) c5, .bool true]) (by simp [results, Try.results38, go_sem]) rfl ?_
        rw [HY.out, ← HEN.out]
        have o5 := hown5.sl
        rw [R32_append, R32_append] at o5
        have o5 : Ru w5 (From w.heap.size) A5 (a + m + (p - en)) c5 (l.take a ++ ys ++ l.drop en) := Sl.weak o5 fun k _ h => by unfold From at h ⊢; omega
        exact ⟨_, _, _, rfl, o5, k4.grown hg5 (fun g h => by have := hrow g h; omega)⟩

/-- An edit is done. -/
theorem do_any (ed : Ed) (A B C : Option Addr) (n c m d p q : Nat) (l : List Int) (w : World) (hx : Ru w Any A n c ed.old) (hy : Ru w Any B m d ed.new) (hl : Ru w Any C p q l) (hn : n ≤ 1000000000) (hm : m ≤ 1000000000) (hp : p ≤ 1000000000)
    (hat : ed.at_ ≤ 9223372036854775807) :
    Calls Try.prog 38 #[.agg #[.int .i64 ed.at_, .slice A n c, .slice B m d], .slice C p q] w (RetLine (doM ed l) w) := by
  obtain ⟨at_, xs, ys⟩ := ed
  dsimp only at hx hy hat ⊢
  by_cases h0 : at_ < 0
  · have h1 := do_fail_neg at_ A B C n c m d p q w h0
    rw [doM_neg (show (Ed.mk at_ xs ys).at_ < 0 from h0)]
    exact h1
  · by_cases hf : at_ + n ≤ p
    · obtain ⟨a, rfl⟩ : ∃ a : Nat, at_ = a := ⟨at_.toNat, by omega⟩
      exact do_fit a A B C n c m d p q xs ys l w hx hy hl hn hm hp (by omega)
    · have h2 : doM ⟨at_, xs, ys⟩ l = none := doM_far (by show (l.length : Int) < at_ + xs.length; rw [hx.len, hl.len]; omega)
      rw [h2]
      by_cases ho : at_ + n ≤ 9223372036854775807
      · exact do_fail_end at_ (at_ + n) A B C n c m d p q w h0 (IntWalk.wrap64_in _ (by omega)) (.inr (by omega))
      · exact do_fail_end at_ (at_ + n - 18446744073709551616) A B C n c m d p q w h0 (by rw [← IntWalk.i64_left, IntKind.wrap_i64]; omega) (.inl (by omega))
end Go.Proofs.Ytakbfppmgngdiaa
