/-
  typebarref19.Undo, All: a line ahead of a group, ahead of all groups, as the document has it. Conditions: what is read can be read, and is not too long.
-/
import Derived.Test.YtakbfppmgngdiaaUndoB
import Derived.Test.YtakbfppmgngdiaaUndoL
namespace Go.Proofs.Ytakbfppmgngdiaa
open Go.RowKit

theorem take_next' {α : Type} {l : List α} {x : α} {k : Nat} (h : l[k]? = some x) : l.take (k + 1) = l.take k ++ [x] := by
  rw [List.take_add_one, h]; rfl
theorem undoL_step {es : List Ed} {e : Ed} {k : Nat} (h : es[k]? = some e) (l : List Int) : undoL (es.take (k + 1)).reverse l = match doM e.back l with | some l' => undoL (es.take k).reverse l' | none => none := by
  rw [take_next' h, List.reverse_append]
  rfl
def RetLn (o : Option (List Int)) (w : World) (e : Ending) (w' : World) : Prop :=
  match o with
  | some l => ∃ A n c, e = .returned (.tuple #[.slice A n c, .bool true]) ∧ Ru w' Any A n c l ∧ Kp w w'
  | none => e = .returned (.tuple #[.slice none 0 0, .bool false]) ∧ Kp w w'
theorem retLn_some {o : Option (List Int)} {w w' : World} {e : Ending} {A : Option Addr} {n c : Nat} {l : List Int} (ho : o = some l) (he : e = .returned (.tuple #[.slice A n c, .bool true])) (h : Ru w' Any A n c l) (k : Kp w w') : RetLn o w e w' := by subst ho; exact ⟨A, n, c, he, h, k⟩
theorem retLn_none {o : Option (List Int)} {w w' : World} {e : Ending} (ho : o = none) (he : e = .returned (.tuple #[.slice none 0 0, .bool false])) (k : Kp w w') : RetLn o w e w' := by subst ho; exact ⟨he, k⟩

set_option maxRecDepth 100000 in
set_option maxHeartbeats 1600000 in
theorem refUndo_any (A B : Option Addr) (n c m d : Nat) (g : Grp) (line : List Int) (w : World) (hE : Eds w A n c g.es) (hL : Ru w Any B m d line) (hn : n ≤ 2000) (hm : m ≤ 100000000) (hb : okG g) :
    Calls Try.prog 58 #[.agg #[.slice A n c, .int .i64 g.cur], .slice B m d] w (RetLn (undoM g line) w) := by
  have hle := hE.le
  have hcap := hE.cap
  unfold maxLen at hcap
  have HLEN := Lib.hid hE.len
  have HLL := Lib.hid hL.len
  have HB := Lib.hid hb
  clear hb
  go_enter Try.func58, Try.ntmps58
  go_upto_region 1 with fail
  have ka := (Kp.refl w).alloc (.cells #[.slice A n c, .int .i64 g.cur] 69)
  have b1 := Bx.new w #[.slice A n c, .int .i64 g.cur] 69
  have hE1 := hE.kp ka
  have hL1 := hL.kp ka
  generalize (w.alloc (.cells #[.slice A n c, .int .i64 g.cur] 69)) = w1 at *
  obtain ⟨p0, p1, _, _⟩ := b1.two
  go_wp2_with fail
  clear p0 p1
  go_loopg [1, 6, 7, 8] n (fun gk v1 v6 v7 v8 wr => ∃ (A1 : Option Addr) (n1 c1 : Nat) (l1 : List Int) (iv : Int), v6 = .int .i64 iv ∧ v1 = .slice A1 n1 c1 ∧ Ru wr Any A1 n1 c1 l1 ∧ Kp w1 wr ∧ gk ≤ n ∧ Hid (iv = (gk : Int) - 1 ∧ undoM g line = undoL (g.es.take gk).reverse l1 ∧ l1.length + 1000 * gk ≤ line.length + 1000 * n))
  case atStart => exact ⟨B, m, d, line, _, rfl, rfl, hL1, Kp.refl _, Nat.le_refl _, rfl, by rw [List.take_of_length_le (by rw [HLEN.out]; omega)]; rfl, Nat.le_refl _⟩
  case round =>
    obtain ⟨A1, n1, c1, l1, iv, rfl, rfl, hru, k1, hgk, hacc⟩ := hrel
    have kw := ka.trans k1
    have hbx := b1.kp k1
    obtain ⟨p0, p1, _, _⟩ := hbx.two
    rcases Nat.eq_zero_or_pos gk with hk0 | hk0
    · obtain rfl : iv = -1 := by have := hacc.out.1; omega
      go_wp2_with fail
      refine bodyPost_ret (v := .tuple #[.slice A1 n1 c1, .bool true]) (by simp [results, Try.results58, go_sem]) rfl ?_
      exact retLn_some (by rw [hacc.out.2.1, hk0]; rfl) rfl hru kw
    · obtain ⟨k, rfl⟩ : ∃ k, gk = k + 1 := ⟨gk - 1, by omega⟩
      obtain rfl : iv = (k : Int) := by have := hacc.out.1; omega
      obtain ⟨e, he⟩ : ∃ e, g.es[k]? = some e := ⟨g.es[k]'(by rw [HLEN.out]; omega), List.getElem?_eq_getElem _⟩
      have heb := HB.out e (List.mem_of_getElem? he)
      obtain ⟨ad, B1, m1, d1, C1, p2, q2, rfl, c0, c1', c2, r1, r2⟩ := (hE1.kp k1).get he
      have hun : ∀ l, undoL (g.es.take (k + 1)).reverse l = match doM e.back l with | some l' => undoL (g.es.take k).reverse l' | none => none := undoL_step he
      have HUN := Lib.hid hun
      have hlr := r1.len
      have hlr2 := r2.len
      have hlu := Lib.hid hru.len
      have hm1 : m1 ≤ 1000 := by have := heb.1; omega
      have hp2 : p2 ≤ 1000 := by have := heb.2.1; omega
      have hn1 : n1 ≤ 200000000 := by have := hlu.out; have := hacc.out.2.2; have := HLL.out; omega
      have hkn : (k : Int) < (n : Int) := by omega
      clear he hun hlr hlr2
      go_wp2_with fail
      refine (refBack_any e A1 B1 C1 n1 c1 m1 d1 p2 q2 l1 wr r1 r2 hru (by omega) (by omega) (by omega)).mono ?_
      intro e1 w3 hret
      cases hu : doM e.back l1 with
      | none =>
        rw [hu] at hret
        obtain ⟨rfl, k3⟩ := hret
        have HU := Lib.hid hu
        clear hu p0 p1 c0 c1' c2
        go_wp2_with fail
        refine bodyPost_ret (v := .tuple #[.slice none 0 0, .bool false]) (by simp [results, Try.results58, go_sem]) rfl ?_
        exact retLn_none (by rw [hacc.out.2.1, HUN.out, HU.out]) rfl (kw.trans k3)
      | some l2 =>
        rw [hu] at hret
        obtain ⟨A2, n2, c2', rfl, hr2, k3⟩ := hret
        have HU := Lib.hid hu
        clear hu p0 p1 c0 c1' c2
        go_wp2_with fail
        go_roundg k
        case measure => omega
        case rel => exact ⟨A2, n2, c2', l2, _, rfl, rfl, hr2.any, k1.trans k3, by omega, rfl, by rw [hacc.out.2.1, HUN.out, HU.out], by have h1 := doM_len HU.out; have h2 := hacc.out.2.2; have h3 : e.back.new.length ≤ 1000 := heb.1; omega⟩

theorem allM_step {gs : List Grp} {g : Grp} {k : Nat} (h : gs[k]? = some g) (l : List Int) (c : Int) : allM (gs.take (k + 1)) l c = match undoM g l with | some l' => allM (gs.take k) l' g.cur | none => none := by
  rw [take_next' h, allM_snoc]
  cases undoM g l <;> rfl
theorem tot_step {gs : List Grp} {g : Grp} {k : Nat} (h : gs[k]? = some g) : tot (gs.take (k + 1)) = tot (gs.take k) + g.es.length := by
  rw [take_next' h, tot_append]; rfl

set_option maxRecDepth 100000 in
set_option maxHeartbeats 1600000 in
theorem refAll_any (A B : Option Addr) (n c m d : Nat) (gs : List Grp) (line : List Int) (cur : Int) (w : World) (hG : Grps w A n c gs) (hL : Ru w Any B m d line) (hm : m ≤ 1000000) (ht : tot gs ≤ 2000) (hok : ∀ g ∈ gs, okG g) :
    Calls Try.prog 36 #[.slice A n c, .slice B m d, .int .i64 cur] w (RetAll (allM gs line cur) w) := by
  have hle := hG.le
  have hcap := hG.cap
  unfold maxLen at hcap
  have HLEN := Lib.hid hG.len
  have HLL := Lib.hid hL.len
  have HOK := Lib.hid hok
  clear hok
  go_enter Try.func36, Try.ntmps36
  go_wp2_with fail
  go_loopg [1, 2, 9, 10, 11] n (fun gk v1 v2 v9 v10 v11 wr => ∃ (A1 : Option Addr) (n1 c1 : Nat) (l1 : List Int) (cur1 iv : Int), v9 = .int .i64 iv ∧ v1 = .slice A1 n1 c1 ∧ v2 = .int .i64 cur1 ∧ Ru wr Any A1 n1 c1 l1 ∧ Kp w wr ∧ gk ≤ n ∧ Hid (iv = (gk : Int) - 1 ∧ allM gs line cur = allM (gs.take gk) l1 cur1 ∧ l1.length + 1000 * tot (gs.take gk) ≤ line.length + 1000 * tot gs))
  case atStart => exact ⟨B, m, d, line, cur, _, rfl, rfl, rfl, hL, Kp.refl _, Nat.le_refl _, rfl, by rw [List.take_of_length_le (by rw [HLEN.out]; omega)], by rw [List.take_of_length_le (by rw [HLEN.out]; omega)]; omega⟩
  case round =>
    obtain ⟨A1, n1, c1, l1, cur1, iv, rfl, rfl, rfl, hru, kw, hgk, hacc⟩ := hrel
    rcases Nat.eq_zero_or_pos gk with hk0 | hk0
    · obtain rfl : iv = -1 := by have := hacc.out.1; omega
      go_wp2_with fail
      refine bodyPost_ret (v := .tuple #[.slice A1 n1 c1, .int .i64 cur1, .bool true]) (by simp [results, Try.results36, go_sem]) rfl ?_
      exact retAll_some (by rw [hacc.out.2.1, hk0, List.take_zero, allM_nil]) rfl hru kw
    · obtain ⟨k, rfl⟩ : ∃ k, gk = k + 1 := ⟨gk - 1, by omega⟩
      obtain rfl : iv = (k : Int) := by have := hacc.out.1; omega
      obtain ⟨g, hg⟩ : ∃ g, gs[k]? = some g := ⟨gs[k]'(by rw [HLEN.out]; omega), List.getElem?_eq_getElem _⟩
      have hgm : g ∈ gs := List.mem_of_getElem? hg
      have hgok := HOK.out g hgm
      obtain ⟨ad, B1, m1, d1, rfl, c0, c1', hE⟩ := (hG.kp kw).get hg
      have hun : ∀ l c, allM (gs.take (k + 1)) l c = match undoM g l with | some l' => allM (gs.take k) l' g.cur | none => none := allM_step hg
      have HUN := Lib.hid hun
      have HTS := Lib.hid (tot_step hg)
      have hm1 : m1 ≤ 2000 := by have h1 := Lst.len hE; have h2 := tot_mem hgm; omega
      have hlu := Lib.hid hru.len
      have hn1 : n1 ≤ 100000000 := by have := hlu.out; have := hacc.out.2.2; have := HLL.out; omega
      have hkn : (k : Int) < (n : Int) := by omega
      have HGOK := Lib.hid hgok
      clear hg hun hgm hgok
      go_wp2_with fail
      refine (refUndo_any B1 A1 m1 d1 n1 c1 g l1 wr hE hru hm1 hn1 HGOK.out).mono ?_
      intro e1 w3 hret
      cases hu : undoM g l1 with
      | none =>
        rw [hu] at hret
        obtain ⟨rfl, k3⟩ := hret
        have HU := Lib.hid hu
        clear hu c0 c1'
        go_wp2_with fail
        refine bodyPost_ret (v := .tuple #[.slice none 0 0, .int .i64 0, .bool false]) (by simp [results, Try.results36, go_sem]) rfl ?_
        exact retAll_none (by rw [hacc.out.2.1, HUN.out, HU.out]) rfl (kw.trans k3)
      | some l2 =>
        rw [hu] at hret
        obtain ⟨A2, n2, c2', rfl, hr2, k3⟩ := hret
        have HU := Lib.hid hu
        have c13 := cell_kp k3 c1'
        clear hu c0 c1'
        go_wp2_with fail
        go_roundg k
        case measure => omega
        case rel => exact ⟨A2, n2, c2', l2, _, _, rfl, rfl, rfl, hr2, kw.trans k3, by omega, rfl, by rw [hacc.out.2.1, HUN.out, HU.out], by have h1 := undoM_len HGOK.out HU.out; have h2 := hacc.out.2.2; have h3 := HTS.out; omega⟩
end Go.Proofs.Ytakbfppmgngdiaa
