/-
  Trie.runs: the iterator: all numbers, as many at once as have one value. Conditions: the trie came from Build, or is nil.
-/
import Derived.RangeFuncNested
import Derived.RangeFuncBound
import Derived.RangeFuncBox
import Derived.RangeFuncCalls
import Derived.RangeFuncLeaves
import Derived.Shelf.Abstract
import Derived.WalkKit
import Derived.OwnWalkIn
import Derived.TacticsInMore
import Derived.LoopNIn
import Derived.LoopIn
import Derived.RangeFuncWrites
import Derived.Shelf.RegionOpen
import Derived.Sort.QuietIn
import Derived.Sort.LoopGhostIn
import Derived.Sort.CutIn
import Derived.Test.YtakbfppmgngdiaaTrieA
namespace Go.Proofs.Ytakbfppmgngdiaa
open Go.RowKit Go.Shelf
attribute [local go_sem] Oper.semAt_some

theorem wide_fn (f : FuncId) : Fence.wide.fn f ↔ True := ⟨fun _ => trivial, fun _ => trivial⟩
attribute [local go_sem] wide_fn

/-- Pieces that cover the numbers from a on up to b, as few as can be. -/
def Cov (f : Int → Int) (size : Int) : Int → List (Pc Int) → Int → Prop
  | a, [], b => a = b
  | a, p :: l, b => p.fr = a ∧ a ≤ p.to ∧ p.to < size ∧ (∀ j, a ≤ j → j ≤ p.to → f j = p.v) ∧ (p.to + 1 < size → f (p.to + 1) ≠ p.v) ∧ Cov f size (p.to + 1) l b
theorem Cov.snoc {f : Int → Int} {size : Int} : ∀ {a b : Int} {l : List (Pc Int)} {p : Pc Int}, Cov f size a l b → p.fr = b → b ≤ p.to → p.to < size → (∀ j, b ≤ j → j ≤ p.to → f j = p.v) → (p.to + 1 < size → f (p.to + 1) ≠ p.v) → Cov f size a (l ++ [p]) (p.to + 1)
  | a, b, [], p, h, h1, h2, h3, h4, h5 => by
    have h : a = b := h
    subst h
    exact ⟨h1, h2, h3, h4, h5, rfl⟩
  | a, b, q :: l, p, h, h1, h2, h3, h4, h5 => ⟨h.1, h.2.1, h.2.2.1, h.2.2.2.1, h.2.2.2.2.1, Cov.snoc h.2.2.2.2.2 h1 h2 h3 h4 h5⟩
theorem Cov.len {f : Int → Int} {size : Int} : ∀ {a b : Int} {l : List (Pc Int)}, Cov f size a l b → (l.length : Int) ≤ b - a
  | a, b, [], h => by have h : a = b := h; simp; omega
  | a, b, q :: l, h => by have := Cov.len h.2.2.2.2.2; have := h.2.1; simp; omega

/-- The row that block lb names. -/
def rowW (W : World) (lb : Nat) : Option Nat := match W.heap[lb]? with
  | some (.cells cs _ _) => (match (cs[0]? : Option Value) with | some (Value.slice A _ _) => rowOf A | _ => none)
  | _ => none
theorem rowW_same {W W' : World} {lb : Nat} (h : W'.heap[lb]? = W.heap[lb]?) : rowW W' lb = rowW W lb := by unfold rowW; rw [h]
theorem rowW_bx {W : World} {lb n c : Nat} {A : Option Addr} {t : TypeId} (h : Bx W lb #[.slice A n c] t) : rowW W lb = rowOf A := by unfold rowW; rw [show W.heap[lb]? = _ from h]; rfl

/-- What a round must keep: what lay below n₀, block Bs, and whatever is cells beyond block lb, but the row that lb names. -/
structure PKp (n₀ Bs lb : Nat) (W W' : World) : Prop where
  below : Below n₀ W W'
  box : W'.heap[Bs]? = W.heap[Bs]?
  size : W.heap.size ≤ W'.heap.size
  keep : ∀ k cs t h, W.heap[k]? = some (.cells cs t h) → lb < k → rowW W lb ≠ some k → W'.heap[k]? = some (.cells cs t h)
  row : rowW W' lb = rowW W lb ∨ ∀ r, rowW W' lb = some r → W.heap.size ≤ r
  ok : (∀ r, rowW W lb = some r → r < W.heap.size) → ∀ r, rowW W' lb = some r → r < W'.heap.size

section
variable {n₀ Bs lb : Nat} {A B C W W' : World}
theorem PKp.refl (W : World) : PKp n₀ Bs lb W W := ⟨Below.refl _ _, rfl, Nat.le_refl _, fun _ _ _ _ h _ _ => h, .inl rfl, fun h => h⟩
theorem PKp.trans (h : PKp n₀ Bs lb A B) (k : PKp n₀ Bs lb B C) : PKp n₀ Bs lb A C :=
  ⟨h.below.trans k.below, k.box.trans h.box, Nat.le_trans h.size k.size, fun i cs t hh hi hl hr => k.keep i cs t hh (h.keep i cs t hh hi hl hr) hl (by
    have hiA := (Array.getElem?_eq_some_iff.1 hi).1
    rcases h.row with e | e
    · rw [e]; exact hr
    · intro e'; have := e _ e'; omega), by
    rcases k.row with e | e
    · rw [e]; exact h.row
    · exact .inr fun r hr => Nat.le_trans h.size (e r hr), fun hok => k.ok (h.ok hok)⟩
theorem PKp.of_kp (h : Kp W W') (hn : n₀ ≤ W.heap.size) (hB : Bs < W.heap.size) (hl : lb < W.heap.size) : PKp n₀ Bs lb W W' :=
  ⟨h.below.mono hn, h.block _ hB, h.size, fun k cs t hh hk _ _ => (h.block k (Array.getElem?_eq_some_iff.1 hk).1).trans hk, .inl (rowW_same (h.block _ hl)), fun hok r hr => by rw [rowW_same (h.block _ hl)] at hr; have := hok r hr; have := h.size; omega⟩
theorem PKp.b {w : World} (hn : n₀ ≤ w.heap.size) (hB : Bs < w.heap.size) (hlb : lb < w.heap.size) (W : World) (l : Nat) (o o' : Obj) (hl : w.heap.size ≤ l) (h : W.heap[l]? = some o) (h1 : o.isCells = false) (h2 : o.isWalk = false) : PKp n₀ Bs lb W (W.putObj l o') := by
  have hs : (W.putObj l o').heap.size = W.heap.size := by simp [World.putObj]
  refine ⟨belowK_b hn W l o o' hl h h1 h2, World.putObj_heap_other (by omega), by omega, fun k cs t hh hk _ _ => ?_, .inl (rowW_same (World.putObj_heap_other (by omega))), fun hok r hr => ?_⟩
  · refine (World.putObj_heap_other ?_).trans hk
    rintro rfl
    rw [h] at hk
    cases hk
    cases h1
  · rw [rowW_same (World.putObj_heap_other (by omega))] at hr
    rw [hs]
    exact hok r hr
end

/-- A trie, or nil. -/
def TrO (w : World) (p : Option Addr) (size : Int) (f : Int → Int) : Prop := (p = none ∧ size = 0) ∨ ∃ tB, p = some ⟨tB, 0, none⟩ ∧ TrRI w tB size f
theorem TrO.kp {w w' : World} {p : Option Addr} {size : Int} {f : Int → Int} (h : TrO w p size f) (k : Kp w w') : TrO w' p size f := by
  rcases h with h | ⟨tB, h1, h2⟩
  · exact .inl h
  · exact .inr ⟨tB, h1, h2.kp k⟩
theorem len_o {w : World} {p : Option Addr} {size : Int} {f : Int → Int} (h : TrO w p size f) : Calls Try.prog 41 #[.pointer p] w fun e w' => e = .returned (.int .i64 size) ∧ w' = w := by
  rcases h with ⟨rfl, rfl⟩ | ⟨tB, rfl, h⟩
  · exact len_nilE w
  · exact len_tE tB size f w h

set_option maxRecDepth 100000 in
set_option maxHeartbeats 2000000 in
theorem runs1_in (n : Nat) (hn : 1 ≤ n) (l Bs n₀ lb N : Nat) (p : Option Addr) (f : Int → Int) (J Jx : List (Pc Int) → World → Prop) (W : World) (hJA : AbidesFrom W.heap.size J) (hN : N ≤ 1024) (hn₀ : n₀ ≤ W.heap.size) (hlb : lb < W.heap.size)
    (hY : ∀ pre x W, J pre W → pre.length < N → YieldAt Fence.wide (n - 1) Try.prog l #[.agg #[.int .i64 x.fr, .int .i64 x.to, .int .i64 x.v]] W fun e W' =>
      (e = .returned (.bool true) ∧ J (pre ++ [x]) W' ∧ PKp n₀ Bs lb W W') ∨ (e = .returned (.bool false) ∧ Jx (pre ++ [x]) W'))
    (hBs : Bx W Bs #[.pointer p] 83) (hT : ∀ W', Below n₀ W W' → TrO W' p N f) (hok : ∀ r, rowW W lb = some r → r < W.heap.size) (h0 : J [] W) :
    CallsIn Fence.wide n Try.prog 73 #[.func (.yield l) #[] #[], .pointer (some ⟨Bs, 0, none⟩)] W fun e W' => (∃ v, e = .returned v) ∧
      ((∃ ys : List (Pc Int), Cov f N 0 ys N ∧ J ys W') ∨ (∃ pre : List (Pc Int), True ∧ Jx pre W')) := by
  refine callsIn_of_wp Try.func73 rfl trivial ?_ rfl
  simp only [Try.ntmps73, List.size_toArray, List.length_cons, List.length_nil, Nat.reduceAdd, Nat.reduceSub, Array.replicate_succ, Array.replicate_zero, List.push_toArray, List.append_toArray, List.nil_append, List.cons_append]
  have HT := Lib.hid hT
  clear hT
  gi_wp2
  gi_loopg [3] (N + 1) (fun g iv wr => ∃ (a : Nat) (pre : List (Pc Int)), a + g = N + 1 ∧ a ≤ N ∧ iv = .int .i64 a ∧ Hid (Cov f N 0 pre a) ∧ J pre wr ∧ PKp n₀ Bs lb W wr)
  case atStart => exact ⟨0, [], by omega, by omega, rfl, (rfl : (0 : Int) = 0), h0, PKp.refl _⟩
  case round =>
    obtain ⟨a, pre, hg, ha, rfl, hcov, hJ, hk⟩ := hrel
    have hto := HT.out wr hk.below
    have hBx : Bx wr Bs #[.pointer p] 83 := hk.box.trans hBs
    have hb1 := hBx.cell 0
    have HL := Lib.hid (len_o hto)
    by_cases hlt : a < N
    · obtain ⟨tB, rfl, hT⟩ : ∃ tB, p = some ⟨tB, 0, none⟩ ∧ TrRI wr tB N f := by
        rcases hto with ⟨_, h⟩ | h
        · omega
        · exact h
      clear hto
      have hlti : (a : Int) < (N : Int) := by omega
      gi_upto_region 2 with (gi_at_call 41; refine (callsIn_wide.2 HL.out).mono ?_; rintro e w' ⟨rfl, hw'⟩; replace hw' := hw'.symm; subst hw')
      have GT : ∀ (wx : World) (i : Int), TrRI wx tB N f → 0 ≤ i → i < (N : Int) → Calls Try.prog 43 #[.pointer (some ⟨tB, 0, none⟩), .int .i64 i] wx fun e w' => e = .returned (.int .i64 (f i)) ∧ Dr wx w' := fun wx i h hi0 hi => by
        have := getID tB N f i wx h
        rw [if_pos ⟨hi0, hi⟩] at this
        exact this
      have HGT := Lib.hid GT
      clear GT
      gi_upto_region 3 with (gi_at_call 43; refine (callsIn_wide.2 (HGT.out _ (a : Int) hT (by omega) hlti)).mono ?_; rintro e w2 ⟨rfl, d2⟩)
      have hz2 := d2.size
      have k2 := d2.kp
      clear d2
      have hpl : pre.length < N := by have := Cov.len hcov.out; omega
      have hlb2 := Nat.lt_of_lt_of_le hlb hk.size
      obtain ⟨w1, hw1⟩ : ∃ x : World, x = wr := ⟨_, rfl⟩
      subst hw1
      obtain ⟨b, hb⟩ : ∃ b, b = w2.heap.size := ⟨_, rfl⟩
      rw [← hb] at hz2
      have bx0 := Bx.new w2 #[.int .i64 (a : Int), .int .i64 (a : Int), .int .i64 (f (a : Int))] 101
      have kx0 := k2.alloc (.cells #[.int .i64 (a : Int), .int .i64 (a : Int), .int .i64 (f (a : Int))] 101)
      rw [← hb] at bx0
      generalize (w2.alloc (.cells #[.int .i64 (a : Int), .int .i64 (a : Int), .int .i64 (f (a : Int))] 101)) = w3 at *
      rw [← hb]
      have HZ2 := Lib.hid hz2
      clear hb k2 hb1 hz2
      obtain ⟨fa, hfa⟩ : ∃ fa, fa = f (a : Int) := ⟨_, rfl⟩
      rw [← hfa] at bx0 ⊢
      have HFA := Lib.hid hfa
      clear hfa
      gi_loopg [] (N - a) (fun g wr2 => ∃ t : Nat, t + g = N ∧ a ≤ t ∧ t < N ∧ Bx wr2 b #[.int .i64 (a : Int), .int .i64 (t : Int), .int .i64 fa] 101 ∧ Hid (∀ j : Int, a ≤ j → j ≤ t → f j = fa) ∧ Kp w1 wr2)
      case atStart => exact ⟨a, by omega, by omega, hlt, bx0, fun j h1 h2 => by rw [HFA.out, show j = (a : Int) by omega], kx0⟩
      case round =>
        clear bx0 kx0
        obtain ⟨t, htg, hat, htN, bx, hall, kp⟩ := hrel
        obtain ⟨c0, c1, c2, _, f1, _⟩ := bx.three
        have hTr := hT.kp kp
        have hb1 := (hBx.kp kp).cell 0
        have y0 : wr.cell? ⟨tB, 0, none⟩ = some (.int .i64 (N : Int)) := by
          obtain ⟨_, _, _, _, _, hbx, _⟩ := hTr
          exact hbx.three.1
        obtain ⟨kb, hkb⟩ : ∃ kb : Bool, kb = decide (t + 1 < N ∧ f ((t : Int) + 1) = fa) := ⟨_, rfl⟩
        have HKB := Lib.hid hkb
        clear hkb
        have hwt : IntKind.i64.wrap ((t : Int) + 1) = (t : Int) + 1 := wrapS (by omega) (by omega)
        gi_upto_region 3 with fail
        gi_cut [32] from 44 (fun v wx => v = .bool kb ∧ Dr wr wx)
        case first =>
          by_cases ht1 : (t : Int) + 1 < (N : Int)
          · have HG1 := Lib.hid fun k => HGT.out (wr.drewN k) ((t : Int) + 1) (hTr.kp ((Kp.refl _).drewN k)) (by omega) ht1
            obtain ⟨ft, hft⟩ : ∃ ft, ft = f ((t : Int) + 1) := ⟨_, rfl⟩
            rw [← hft] at HG1
            have HFT := Lib.hid hft
            clear hft
            by_cases he : ft = fa
            · have hkt := Lib.hid (show kb = true by rw [HKB.out, decide_eq_true]; exact ⟨by omega, by rw [← HFT.out]; exact he⟩)
              subst he
              gi_quiet ((gi_at_call 43; refine CallsIn.quiet_of (callsIn_wide.2 (HG1.out _))))
              gi_wp2
              gi_meet
              exact ⟨by rw [hkt.out], ⟨_, rfl⟩⟩
            · have hkt := Lib.hid (show kb = false by rw [HKB.out, decide_eq_false]; rintro ⟨_, h⟩; exact he (by rw [HFT.out]; exact h))
              have he' : (ft == fa) = false := by simpa using he
              clear he
              gi_quiet ((gi_at_call 43; refine CallsIn.quiet_of (callsIn_wide.2 (HG1.out _))))
              gi_wp2
              gi_meet
              exact ⟨by rw [hkt.out], ⟨_, rfl⟩⟩
          · have hkt := Lib.hid (show kb = false by rw [HKB.out, decide_eq_false]; rintro ⟨h, _⟩; omega)
            gi_quiet (fail)
            gi_wp2
            gi_meet
            exact ⟨by rw [hkt.out], ⟨_, rfl⟩⟩
        case rest =>
          obtain ⟨rfl, hd⟩ := hcut
          have kp5 := kp.trans hd.kp
          have bx5 := bx.kp hd.kp
          clear kp bx c0 c1 c2 f1 hb1 y0 hTr
          obtain ⟨w5, hw5⟩ : ∃ x : World, x = wc := ⟨_, rfl⟩
          subst hw5
          clear hd
          obtain ⟨c0, c1, c2, _, f1, _⟩ := bx5.three
          cases kb with
          | true =>
            have hkb := of_decide_eq_true HKB.out.symm
            have H2 := Lib.hid hkb.2
            have htN1 := hkb.1
            clear hkb
            gi_wp2
            gi_roundg (N - (t + 1))
            case measure => omega
            case rel =>
              refine ⟨t + 1, by omega, by omega, htN1, ?_, ?_, ?_⟩
              · have := bx5.set 1 (.int .i64 ((t : Int) + 1))
                rw [show ((t + 1 : Nat) : Int) = (t : Int) + 1 by omega]
                exact this
              · intro j h1 h2
                by_cases h : j = (t : Int) + 1
                · rw [h, H2.out]
                · exact hall.out j h1 (by omega)
              · exact kp5.setCell (p := ⟨b, 1, none⟩) (by have := HZ2.out; dsimp only; omega) _
          | false =>
            have hkb := of_decide_eq_false HKB.out.symm
            have H2 := Lib.hid hkb
            clear hkb
            have hJ5 : J pre w5 := hJA pre w1 w5 none hJ ⟨kp5.os, kp5.tape, kp5.output, kp5.size, fun k hk _ => kp5.block k hk⟩ (fun r e => by cases e)
            obtain ⟨fn, tmps, assign, body, hy, hR⟩ := hY pre ⟨a, t, fa⟩ w5 hJ5 hpl
            dsimp only at hy
            have hcov' : Hid (Cov f N 0 (pre ++ [⟨a, t, fa⟩]) ((t + 1 : Nat) : Int)) := by
              have h1 := Cov.snoc (p := ⟨a, t, fa⟩) hcov.out rfl (by dsimp only; omega) (by dsimp only; omega) (fun j h1 h2 => hall.out j h1 h2) (fun h1 h2 => H2.out ⟨by dsimp only at h1; omega, h2⟩)
              have e : ((t + 1 : Nat) : Int) = (t : Int) + 1 := by omega
              show Cov _ _ _ _ _
              rw [e]
              exact h1
            have hbr : rowW w5 lb ≠ some b := by
              rw [rowW_same (kp5.block lb hlb2)]
              intro e
              have := hk.ok hok b e
              have := HZ2.out
              omega
            have HBR := Lib.hid hbr
            have hlb3 : lb < b := by have := HZ2.out; omega
            have hk5 : PKp n₀ Bs lb W w5 := hk.trans (PKp.of_kp kp5 (by have := hk.below.size; have := hk.size; omega) hBx.lt hlb2)
            clear hbr
            gi_wp2
            refine hR.mono ?_
            rintro e W3 (⟨rfl, hJ3, hk3⟩ | ⟨rfl, hJx3⟩)
            · have bx3 : Bx W3 b #[.int .i64 (a : Int), .int .i64 (t : Int), .int .i64 fa] 101 := hk3.keep b _ _ _ bx5 hlb3 HBR.out
              have hk35 := hk5.trans hk3
              clear c0 c1 c2 f1 hJ5 hk5 kp5 hk3 bx5
              obtain ⟨c0, c1, c2, _, f1, _⟩ := bx3.three
              gi_wp2
              gi_roundg (N + 1 - (t + 1))
              case measure => omega
              case rel => exact ⟨t + 1, _, by omega, by omega, by go_num, hcov', hJ3, hk35⟩
            · gi_wp2
              refine bodyPost_ret (results_none rfl _ _ _) rfl ?_
              exact ⟨⟨_, rfl⟩, .inr ⟨_, trivial, hJx3⟩⟩
    · have hlti : ¬ ((a : Int) < (N : Int)) := by omega
      gi_wp2_with (gi_at_call 41; refine (callsIn_wide.2 HL.out).mono ?_; rintro e w' ⟨rfl, hw'⟩; replace hw' := hw'.symm; subst hw')
      go_end0
      have haN : a = N := by omega
      subst haN
      exact ⟨⟨_, rfl⟩, .inl ⟨pre, hcov.out, hJ⟩⟩
end Go.Proofs.Ytakbfppmgngdiaa
