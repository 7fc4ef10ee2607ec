/-
  Package trie at int: Build: the trie that TrieM tells of pieces. Conditions: the pieces can be read; the size is at most 1024.
-/
import Derived.Test.YtakbfppmgngdiaaTriePlainI
import Derived.Test.YtakbfppmgngdiaaTrieFindI
import Derived.Maps.OwnOps
import Derived.Carry
import Derived.Test.YtakbfppmgngdiaaAnyT
namespace Go.Proofs.Ytakbfppmgngdiaa
open Go.RowKit Go.Maps
attribute [local go_sem] run_makeMap

theorem infoIntI : (Try.prog.info? 3).map (fun i => (i.zero, i.size, i.bytes)) = some (some (.int .i64 0), 1, 8) := by kernel_rfl

/-- The maker at work. -/
def BdSI (w wr : World) (size : Int) (s nn q : Nat) (ix : List Value) (bs : List (List Int)) (IA : Option Addr) (Ic : Nat) (BA : Option Addr) (Bc : Nat) : Prop :=
  TrAtI wr nn (s + 4) s (s + 3) (s + 1) (s + 2) size (.slice IA q Ic) BA Bc bs ∧ Own wr (s + 4) 3 1 IA q Ic ix ∧ (∀ k, rowOf IA = some k → rowOf BA ≠ some k) ∧ Kp w wr

theorem BdSI.kp {w wr wx : World} {size : Int} {s nn q : Nat} {ix : List Value} {bs : List (List Int)} {IA : Option Addr} {Ic : Nat} {BA : Option Addr} {Bc : Nat} (h : BdSI w wr size s nn q ix bs IA Ic BA Bc) (k : Kp wr wx) : BdSI w wx size s nn q ix bs IA Ic BA Bc :=
  ⟨h.1.kp k, h.2.1.kp k, h.2.2.1, h.2.2.2.trans k⟩

/-- A box of 128 cells, of which the first i are as g tells. -/
def RowFI (w : World) (b i : Nat) (g : Nat → Int) : Prop := ∃ cs : List Value, Bx w b cs.toArray 119 ∧ cs.length = 128 ∧ cs.take i = (List.range i).map fun r => (Value.int .i64) (g r)

theorem appI {w wr wq w4 : World} {size : Int} {s nn q : Nat} {ix : List Value} {x : Value} {bs : List (List Int)} {IA IA4 : Option Addr} {Ic Ic4 : Nat} {BA : Option Addr} {Bc : Nat} (st : BdSI w wr size s nn q ix bs IA Ic BA Bc) (hs : w.heap.size ≤ s) (hk : Kp wr wq)
    (hown : Own w4 (s + 4) 3 1 IA4 (q + 1) Ic4 (ix ++ [x])) (hg : wq.grownBy w4 (rowOf IA)) (hat : rowOf IA4 = rowOf IA ∨ rowOf IA4 = some wq.heap.size) :
    BdSI w (w4.setCell ⟨s, 1, none⟩ (.slice IA4 (q + 1) Ic4)) size s nn (q + 1) (ix ++ [x]) bs IA4 Ic4 BA Bc := by
  obtain ⟨hT, hO, hd, hkp⟩ := st
  have hrow : ∀ k, rowOf IA = some k → s + 4 ≤ k ∧ k < wr.heap.size := hO.lt
  have f : FrX (fun k => rowOf IA = some k ∨ k = s) wr (w4.setCell ⟨s, 1, none⟩ (.slice IA4 (q + 1) Ic4)) :=
    ((FrX.of_kp hk).trans (.of_grown hg fun k hk _ => .inl hk) fun _ _ h => h).trans (.of_setCell w4 (.inr rfl) _) fun _ _ h => h
  have hlt := hT.lt
  have no : ∀ k, k < s + 4 → k ≠ s → ¬ (rowOf IA = some k ∨ k = s) := by
    rintro k h1 h2 (h | h)
    · have := hrow k h; omega
    · exact h2 h
  refine ⟨⟨?_, f.bx hT.mb (no _ (by omega) (by omega)), f.own hT.row ?_, hT.known.frame f (no _ (by omega) (by omega)), hT.even.frame f (no _ (by omega) (by omega)), ⟨hlt.1, hlt.2.1, hlt.2.2.1, hlt.2.2.2.1, Nat.le_trans hlt.2.2.2.2 f.size⟩, hT.ne⟩, ?_, ?_, ?_⟩
  · exact ((hT.tb.kp hk).grown hg fun e => by have := hrow _ e; omega).set 1 _
  · rintro k hk' (h | h)
    · exact hd k h hk'
    · have := hT.row.lt k hk'; omega
  · exact hown.setCell (fun e => by have := (hown.lt _ e).1; dsimp only at this; omega) _
  · intro k h1 h2
    rcases hat with h | h
    · exact hd k (h ▸ h1) h2
    · rw [h] at h1
      cases h1
      have := hT.row.lt _ h2
      have := hk.size
      omega
  · exact f.kp hkp fun k h => by
      rcases h with h | h
      · have := hrow k h; omega
      · omega

theorem turnI {w wr w3 : World} {size : Int} {s nn n' q : Nat} {ix : List Value} {bs bs' : List (List Int)} {IA : Option Addr} {Ic : Nat} {BA BA3 : Option Addr} {Bc Bc3 : Nat} (st : BdSI w wr size s nn q ix bs IA Ic BA Bc) (hs : w.heap.size ≤ s)
    (hT : TrAtI w3 n' (s + 4) s (s + 3) (s + 1) (s + 2) size (.slice IA q Ic) BA3 Bc3 bs') (hf : FrX (TrOwn s (s + 1) (s + 2) BA) wr w3) (hr : ∀ k, rowOf BA3 = some k → rowOf BA = some k ∨ wr.heap.size ≤ k) :
    BdSI w w3 size s n' q ix bs' IA Ic BA3 Bc3 := by
  obtain ⟨hT0, hO, hd, hkp⟩ := st
  refine ⟨hT, hf.own hO ?_, ?_, hf.kp hkp ?_⟩
  · rintro k hk (h | h | h | h)
    · have := hO.lt k hk; omega
    · have := hO.lt k hk; omega
    · have := hO.lt k hk; omega
    · exact hd k hk h
  · intro k h1 h2
    rcases hr k h2 with h | h
    · exact hd k h1 h
    · have := hO.lt k h1; omega
  · rintro k (h | h | h | h)
    · omega
    · omega
    · omega
    · have := hT0.row.lt k h; omega

theorem startI (w : World) (size : Int) : BdSI w ((((w.alloc (.cells #[.int .i64 size, .slice none 0 0, .slice none 0 0] 118)).alloc (.map #[] 0)).alloc (.map #[] 0)).alloc (.cells #[.pointer (some ⟨w.heap.size, 0, none⟩), .map (some (w.heap.size + 1)), .map (some (w.heap.size + 2))] 156))
    size w.heap.size 0 0 [] [] none 0 none 0 := by
  obtain ⟨w1, h1⟩ : ∃ w1, w1 = w.alloc (.cells #[.int .i64 size, .slice none 0 0, .slice none 0 0] 118) := ⟨_, rfl⟩
  obtain ⟨w2, h2⟩ : ∃ w2, w2 = w1.alloc (.map #[] 0) := ⟨_, rfl⟩
  obtain ⟨w3, h3⟩ : ∃ w3, w3 = w2.alloc (.map #[] 0) := ⟨_, rfl⟩
  have z1 : w1.heap.size = w.heap.size + 1 := by rw [h1]; simp
  have z2 : w2.heap.size = w.heap.size + 2 := by rw [h2]; simp [z1]
  have z3 : w3.heap.size = w.heap.size + 3 := by rw [h3]; simp [z2]
  have b1 := Bx.new w #[.int .i64 size, .slice none 0 0, .slice none 0 0] 118
  rw [← h1] at b1
  have k2 := Kno.made w1 Try.prog 119 3 (Value.int .i64) wfI
  have k3 := Eve.made w2 Try.prog 3 3 (Value.int .i64) wfI
  have b4 := Bx.new w3 #[.pointer (some ⟨w.heap.size, 0, none⟩), .map (some (w.heap.size + 1)), .map (some (w.heap.size + 2))] 156
  rw [← h2, z1] at k2
  rw [← h3, z2] at k3
  rw [z3] at b4
  rw [← h1, ← h2, ← h3]
  have p12 : Kp w1 w2 := by rw [h2]; exact (Kp.refl _).alloc _
  have p23 : Kp w2 w3 := by rw [h3]; exact (Kp.refl _).alloc _
  have p34 : Kp w3 (w3.alloc (.cells #[.pointer (some ⟨w.heap.size, 0, none⟩), .map (some (w.heap.size + 1)), .map (some (w.heap.size + 2))] 156)) := (Kp.refl _).alloc _
  have p01 : Kp w w1 := by rw [h1]; exact (Kp.refl _).alloc _
  refine ⟨⟨b1.kp ((p12.trans p23).trans p34), b4, Own.nil _ _ _ _, (k2.frame (X := fun _ => False) (.of_kp (p23.trans p34)) id), (k3.frame (X := fun _ => False) (.of_kp p34) id), ⟨by omega, by omega, by omega, by omega, by simp [z3]⟩, ⟨by omega, by omega, by omega, by omega, by omega, by omega⟩⟩, Own.nil _ _ _ _, ?_, ((p01.trans p12).trans p23).trans p34⟩
  intro k hk
  cases hk

/-- What comes of Build. -/
def TrRI (w : World) (tB : Nat) (size : Int) (f : Int → Int) : Prop :=
  ∃ (a : Nat) (IA : Option Addr) (Ic : Nat) (BA : Option Addr) (Bc : Nat), Bx w tB #[.int .i64 size, .slice IA a Ic, .slice BA (blocksM f size a).length Bc] 118 ∧ Sl w Any 1 IA a Ic (ixs (idxM f size) a) ∧ Sl w Any 128 BA (blocksM f size a).length Bc (cellsB (Value.int .i64) (blocksM f size a)) ∧
    1 ≤ size ∧ size ≤ 1024 ∧ size ≤ 128 * a ∧ 128 * (a : Int) < size + 128
def RetBuildI (w : World) (size : Int) (f : Int → Int) (e : Ending) (w' : World) : Prop :=
  (size < 1 ∧ e = .returned (.pointer none) ∧ Kp w w') ∨ (1 ≤ size ∧ ∃ tB, e = .returned (.pointer (some ⟨tB, 0, none⟩)) ∧ TrRI w' tB size f ∧ Kp w w')

set_option maxRecDepth 100000 in
set_option maxHeartbeats 6400000 in
theorem buildI (size : Int) (z : Int) (A : Option Addr) (n c : Nat) (l : List (Pc Int)) (w : World) (hP : Pcs (Value.int .i64) w A n c l) (hok : pcOkI l) (hwf : ∀ p ∈ l, wfI p.v) (hz : wfI z) (hn : n ≤ 1099511627776) (hs0 : -9223372036854775808 ≤ size) (hs : size ≤ 1024) :
    Calls Try.prog 52 #[.int .i64 size, (Value.int .i64) z, .slice A n c] w (RetBuildI w size (getM l z)) := by
  by_cases hs1 : size < 1
  · go_enter Try.func52, Try.ntmps52
    go_wp2_with fail
    go_ret
    exact .inl ⟨hs1, rfl, .refl _⟩
  · have hs1b : decide (size < 1) = false := by simpa using hs1
    have hwr : IntKind.i64.wrap (size - 1) = size - 1 := wrapS (by omega) (by omega)
    have hwfM : ∀ i, wfI (getM l z i) := fun i => by
      rcases getM_mem z i l with h | ⟨p, hp, h⟩
      · rw [h]; exact hz
      · rw [h]; exact hwf p hp
    have HWF := Lib.hid hwfM
    have HFS := Lib.hid (fun i last (h : i ≤ last) => find_spec z i l last h)
    obtain ⟨f, hf⟩ : ∃ f, f = getM l z := ⟨_, rfl⟩
    rw [← hf] at HWF HFS ⊢
    clear hf hwfM hwf
    have HFIND : Hid (∀ (wx : World) (i : Int), Kp w wx → 0 ≤ i → i ≤ size - 1 → Calls Try.prog 67 #[.slice A n c, (Value.int .i64) z, .int .i64 i, .int .i64 (size - 1)] wx fun e w' =>
        ∃ v u, e = .returned (.tuple #[(Value.int .i64) v, .int .i64 u]) ∧ Hid (wfI v ∧ u ≤ size - 1 ∧ i ≤ u ∧ ∀ j, i ≤ j → j ≤ u → f j = v) ∧ Kp wx w') := fun wx i k h1 h2 => by
      refine (findI A n c l z i (size - 1) wx (hP.kp k) hok (by omega) h2 hn).mono ?_
      rintro e w' ⟨rfl, k'⟩
      obtain ⟨e1, e2, e3, e4⟩ := HFS.out i (size - 1) h2
      exact ⟨_, _, rfl, ⟨by rw [e1]; exact HWF.out i, e3, e2, e4⟩, k'⟩
    clear HFS hok hz
    have st0 := startI w size
    go_enter Try.func52, Try.ntmps52
    go_upto_region 5 with fail
    generalize ((((w.alloc (.cells #[.int .i64 size, .slice none 0 0, .slice none 0 0] 118)).alloc (.map #[] 0)).alloc (.map #[] 0)).alloc (.cells #[.pointer (some ⟨w.heap.size, 0, none⟩), .map (some (w.heap.size + 1)), .map (some (w.heap.size + 2))] 156)) = w0 at *
    go_upto_region 6 with (go_at_call 67; refine (HFIND.out w0 0 st0.2.2.2 (by omega) (by omega)).mono ?_; rintro e w1 ⟨v1, u1, rfl, hv1, k1⟩)
    have st1 := st0.kp k1
    clear st0 k1
    go_wp2_with fail
    go_loopg [11, 9, 10] 9 (fun g tv vv uv wr => ∃ (a : Nat) (v : Int) (u : Int) (IA : Option Addr) (Ic : Nat) (BA : Option Addr) (Bc : Nat), a + g = 9 ∧ tv = .int .i64 (128 * (a : Int)) ∧ vv = (Value.int .i64) v ∧ uv = .int .i64 u ∧
      Hid (wfI v ∧ u ≤ size - 1 ∧ 128 * (a : Int) < size + 128 ∧ ∀ j, 128 * (a : Int) ≤ j → j ≤ u → f j = v) ∧ BdSI w wr size w.heap.size (2 * a) a (ixs (idxM f size) a) (blocksM f size a) IA Ic BA Bc)
    case atStart => exact ⟨0, v1, u1, none, 0, none, 0, rfl, rfl, rfl, rfl, ⟨hv1.out.1, hv1.out.2.1, by omega, fun j h1 h2 => hv1.out.2.2.2 j (by omega) h2⟩, st1⟩
    case round =>
      clear st1 hv1
      obtain ⟨a, v, u, IA, Ic, BA, Bc, hg, rfl, rfl, rfl, hv, st⟩ := hrel
      obtain ⟨t, ht⟩ : ∃ t : Int, t = 128 * (a : Int) := ⟨_, rfl⟩
      rw [← ht] at hv ⊢
      by_cases hc : t < size
      · have ha7 : a ≤ 7 := by omega
        have hw128 : IntKind.i64.wrap (t + 128) = t + 128 := wrapS (by omega) (by omega)
        have ht0 : 0 ≤ t := by omega
        have HT := Lib.hid ht
        clear ht
        go_upto_if 41 with fail
        go_cut [9, 10] (fun v' u' wx => ∃ v2 u2, v' = (Value.int .i64) v2 ∧ u' = .int .i64 u2 ∧ Hid (wfI v2 ∧ u2 ≤ size - 1 ∧ t ≤ u2 ∧ ∀ j, t ≤ j → j ≤ u2 → f j = v2) ∧ Kp wr wx)
        case first =>
          by_cases hgt : u < t
          · go_wp2_with fail
            refine (HFIND.out wr t st.2.2.2 ht0 (by omega)).mono ?_
            rintro e w1 ⟨v1, u1, rfl, hv1, k1⟩
            go_wp2_with fail
            go_meet
            exact ⟨v1, u1, rfl, rfl, hv1, k1⟩
          · go_wp2_with fail
            go_meet
            exact ⟨v, u, rfl, rfl, ⟨hv.out.1, hv.out.2.1, by omega, hv.out.2.2.2⟩, .refl _⟩
        case rest =>
          obtain ⟨v2, u2, rfl, rfl, hv2, k2⟩ := hcut
          have st2 := st.kp k2
          clear st k2 hv
          have hbl := blocksM_length f size a
          by_cases hun : min (t + 128) size - 1 ≤ u2
          · obtain ⟨rep, hrep⟩ : ∃ rep, rep = List.replicate 128 v2 := ⟨_, rfl⟩
            have hbm : blockM f size a = rep := by
              rw [hrep]
              exact blockM_even (u := u2) (fun j h1 h2 => hv2.out.2.2.2 j (by have := HT.out; omega) h2) (by have := HT.out; omega) (by have := HT.out; omega)
            have PL := plainI (2 * a) (w.heap.size + 4) w.heap.size (w.heap.size + 3) (w.heap.size + 1) (w.heap.size + 2) size (.slice IA a Ic) BA Bc (blocksM f size a) v2 wc hv2.out.1 st2.1 (by omega) (by omega)
            rw [← hrep] at PL
            have hbs : addB (blocksM f size a) rep = blocksM f size (a + 1) := by rw [← hbm]; rfl
            rw [hbs] at PL
            obtain ⟨k0, hk0⟩ : ∃ k0, k0 = atB (blocksM f size (a + 1)) rep := ⟨_, rfl⟩
            have hidx : idxM f size a = k0 := by rw [hk0, ← hbm]; rfl
            have hmem : rep ∈ blocksM f size (a + 1) := by rw [← hbm]; exact addB_mem _ _
            rw [← hk0] at PL
            have HPL := Lib.hid PL
            have HREP := Lib.hid hrep
            have HBM := Lib.hid hbm
            have HK0 := Lib.hid hk0
            have HIDX := Lib.hid hidx
            have HMEM := Lib.hid hmem
            clear PL hrep hbm hk0 hidx hmem hbs
            go_upto_region 13 with fail
            generalize (if size < t + 128 then size else t + 128) = en at *
            go_wp2_with (go_at_call 68; refine HPL.out.mono ?_; rintro e w3 ⟨BA3, Bc3, rfl, hT3, hf3, hr3⟩)
            have st3 := turnI st2 (Nat.le_refl _) hT3 hf3 hr3
            clear HPL st2 hT3 hf3 hr3
            go_loopg [11] (9 - a) (fun g tv wr => ∃ (q : Nat) (IA : Option Addr) (Ic : Nat), q + g = 9 ∧ a ≤ q ∧ tv = .int .i64 (128 * (q : Int)) ∧ Hid (128 * (q : Int) < size + 128 ∧ (q = a ∨ blocksM f size q = blocksM f size (a + 1))) ∧
              BdSI w wr size w.heap.size (2 * a + 2) q (ixs (idxM f size) q) (blocksM f size (a + 1)) IA Ic BA3 Bc3)
            case atStart => exact ⟨a, IA, Ic, by omega, Nat.le_refl _, by rw [HT.out], ⟨by have := HT.out; omega, .inl rfl⟩, st3⟩
            case round =>
              clear st3
              obtain ⟨q, IB, Ib, hg2, haq, rfl, hv3, st4⟩ := hrel
              obtain ⟨tq, htq⟩ : ∃ tq : Int, tq = 128 * (q : Int) := ⟨_, rfl⟩
              rw [← htq] at hv3 ⊢
              have htb : t ≤ tq ∧ tq < size + 128 ∧ 0 ≤ tq := ⟨by have := HT.out; omega, hv3.out.1, by omega⟩
              have hwq : IntKind.i64.wrap (tq + 128) = tq + 128 := wrapS (by omega) (by omega)
              have hwm : IntKind.i64.wrap (tq - 128) = tq - 128 := wrapS (by omega) (by omega)
              have hwmm : IntKind.i64.wrap (tq - 128 + 128) = tq := by rw [wrapS (by omega) (by omega)]; omega
              have HTQ := Lib.hid htq
              clear htq
              obtain ⟨kb, hkb⟩ : ∃ kb : Bool, kb = decide (tq < size ∧ min (tq + 128) size - 1 ≤ u2) := ⟨_, rfl⟩
              have HKB := Lib.hid hkb
              clear hkb
              go_upto_region 14 with fail
              go_cut [73] (fun v wx => v = .bool kb ∧ wx = wr)
              case first =>
                by_cases h1 : tq < size
                · go_wp2_with fail
                  all_goals
                    go_meet
                    refine ⟨?_, rfl⟩
                    rw [HKB.out]
                    congr 1
                    rw [decide_eq_decide]
                    omega
                · have hkf : kb = false := by rw [HKB.out]; simp [h1]
                  go_wp2_with fail
                  go_meet
                  exact ⟨by rw [hkf], rfl⟩
              case rest =>
                obtain ⟨rfl, rfl⟩ := hcut
                cases kb with
                | true =>
                  have h12 : tq < size ∧ min (tq + 128) size - 1 ≤ u2 := of_decide_eq_true HKB.out.symm
                  have hbq : blockM f size q = rep := by
                    rw [HREP.out]
                    exact blockM_even (u := u2) (fun j h3 h4 => hv2.out.2.2.2 j (by have := HTQ.out; omega) h4) (by have := HTQ.out; omega) (by have := HTQ.out; omega)
                  have hnext : blocksM f size (q + 1) = blocksM f size (a + 1) := by
                    rcases hv3.out.2 with h | h
                    · rw [h]
                    · rw [← h]
                      exact blocksM_again (by rw [hbq, h]; exact HMEM.out)
                  have hidq : idxM f size q = k0 := by
                    unfold idxM
                    rw [hnext, hbq, HK0.out]
                  have HN := Lib.hid hnext
                  have HQ := Lib.hid hidq
                  have HST := Lib.hid st4
                  have hq8 : q ≤ 7 := by have := HTQ.out; omega
                  obtain ⟨t0, t1, t2, _, t4, _⟩ := st4.1.tb.three
                  clear hbq hnext hidq st4
                  go_wp2_with (at_builtin; refine wpList_append_sl _ rfl (.tmp 80) (.tmp 82) _ rfl (w.heap.size + 4) 3 _ 1 8 Try.underlying115 infoIntI rfl (by omega) IB q Ib (ixs (idxM f size) q) rfl (HST.out.2.1.alloc _) Any _ 1 1 [.int .i64 (k0 : Int)] rfl (Sl.new _ _ _ _ _ trivial rfl (by omega)) (by simp [Value.oneCell']) (by simp only [maxLen]; omega) (by omega) (by have := HST.out.1.lt; simp; omega) ?_; intro A4 c4 w4 hown4 hg4 hat4; have tb4 := (HST.out.1.tb.alloc (.cells #[.int .i64 (k0 : Int)] 3)).grown hg4 (fun e => by have := (HST.out.2.1.lt _ e).1; omega); obtain ⟨x0, x1, x2, _, x4, _⟩ := tb4.three)
                  go_roundg (9 - (q + 1))
                  case measure => omega
                  case rel =>
                    have ap := appI HST.out (Nat.le_refl _) ((Kp.refl _).alloc _) hown4 hg4 hat4
                    refine ⟨q + 1, A4, c4, by omega, by omega, by have := HTQ.out; go_num, ⟨by have := HTQ.out; omega, .inr HN.out⟩, ?_⟩
                    rw [ixs_succ, HQ.out]
                    exact ap
                | false =>
                  have h12 : ¬ (tq < size ∧ min (tq + 128) size - 1 ≤ u2) := of_decide_eq_false HKB.out.symm
                  have hqa : a < q := by
                    rcases Nat.lt_or_ge a q with h | h
                    · exact h
                    · exfalso
                      have : q = a := by omega
                      have h5 : tq = t := by have := HTQ.out; have := HT.out; omega
                      exact h12 (by rw [h5]; exact ⟨hc, hun⟩)
                  have H12 := Lib.hid h12
                  have HST := Lib.hid st4
                  clear h12 st4
                  go_wp2_with fail
                  go_roundg (9 - q)
                  case measure => omega
                  case rel =>
                    have hbq : blocksM f size q = blocksM f size (a + 1) := by
                      rcases hv3.out.2 with h | h
                      · omega
                      · exact h
                    refine ⟨q, v2, u2, IB, Ib, BA3, Bc3, by omega, by have := HTQ.out; go_num, rfl, rfl, ⟨hv2.out.1, hv2.out.2.1, by have := HTQ.out; omega, fun j h3 h4 => hv2.out.2.2.2 j (by have := HTQ.out; omega) h4⟩, ?_⟩
                    rw [hbq]
                    exact ⟨HST.out.1.mono (by omega), HST.out.2⟩
          · go_upto_region 18 with fail
            generalize (if size < t + 128 then size else t + 128) = en at *
            obtain ⟨wd, hwd⟩ : ∃ wd : World, wd = wc := ⟨_, rfl⟩
            subst hwd
            have hsz0 := st2.1.lt.2.2.2.2
            have HST := Lib.hid st2
            have HUN := Lib.hid hun
            clear st2 hun
            go_wp2_with fail
            go_loopg [88, 9, 10] 128 (fun g iv vv uv wr => ∃ (i : Nat) (v : Int) (u : Int), i + g = 128 ∧ iv = .int .i64 (i : Int) ∧ vv = (Value.int .i64) v ∧ uv = .int .i64 u ∧
              Hid (wfI v ∧ u ≤ size - 1 ∧ (∀ j, t + (i : Int) ≤ j → j ≤ u → f j = v) ∧ (size ≤ t + (i : Int) → v = f (size - 1))) ∧ RowFI wr wd.heap.size i (fun r => f (min (t + (r : Int)) (size - 1))) ∧ Kp wd wr)
            case atStart =>
              refine ⟨0, v2, u2, rfl, rfl, rfl, rfl, ⟨hv2.out.1, hv2.out.2.1, fun j h1 h2 => hv2.out.2.2.2 j (by omega) h2, fun h => by omega⟩, ⟨(Try.zeroCells119).toList, ?_, ?_, rfl⟩, (Kp.refl _).alloc _⟩
              · exact Bx.new wd _ _
              · kernel_rfl
            case round =>
              clear hv2
              obtain ⟨i, v, u, hi, rfl, rfl, rfl, hv4, ⟨cs, hb, hcl, hct⟩, kp⟩ := hrel
              have HCT := Lib.hid hct
              clear hct
              by_cases hlt : i < 128
              · have hwi : IntKind.i64.wrap (t + (i : Int)) = t + (i : Int) := wrapS (by omega) (by omega)
                obtain ⟨kb, hkb⟩ : ∃ kb : Bool, kb = decide (u < t + (i : Int) ∧ t + (i : Int) < size) := ⟨_, rfl⟩
                have HKB := Lib.hid hkb
                clear hkb
                go_upto_region 22 with fail
                go_cut [102] (fun v wx => v = .bool kb ∧ wx = wr)
                case first =>
                  by_cases h1 : u < t + (i : Int)
                  · have hkk : kb = decide (t + (i : Int) < size) := by rw [HKB.out]; simp [h1]
                    have HKK := Lib.hid hkk
                    clear hkk
                    go_wp2_with fail
                    go_meet
                    exact ⟨by rw [HKK.out], rfl⟩
                  · have hkf : kb = false := by rw [HKB.out]; simp [h1]
                    go_wp2_with fail
                    go_meet
                    exact ⟨by rw [hkf], rfl⟩
                case rest =>
                  obtain ⟨rfl, rfl⟩ := hcut
                  obtain ⟨wq, hwq⟩ : ∃ wq : World, wq = wc := ⟨_, rfl⟩
                  subst hwq
                  go_upto_if 102 with fail
                  go_cut [9, 10] (fun v' u' wx => ∃ v5 u5, v' = (Value.int .i64) v5 ∧ u' = .int .i64 u5 ∧ Hid (wfI v5 ∧ u5 ≤ size - 1 ∧ v5 = f (min (t + (i : Int)) (size - 1)) ∧ ∀ j, t + (i : Int) ≤ j → j ≤ u5 → f j = v5) ∧ Kp wq wx)
                  case first =>
                    cases kb with
                    | true =>
                      have h12 : u < t + (i : Int) ∧ t + (i : Int) < size := of_decide_eq_true HKB.out.symm
                      have kw := HST.out.2.2.2.trans kp
                      have H12 := Lib.hid h12
                      clear h12
                      go_wp2_with fail
                      refine (HFIND.out wq (t + (i : Int)) kw (by omega) (by have := H12.out; omega)).mono ?_
                      rintro e w1 ⟨v1, u1, rfl, hv1, k1⟩
                      go_wp2_with fail
                      go_meet
                      refine ⟨v1, u1, rfl, rfl, ⟨hv1.out.1, hv1.out.2.1, ?_, hv1.out.2.2.2⟩, k1⟩
                      have h3 := hv1.out.2.2.2 (t + (i : Int)) (Int.le_refl _) hv1.out.2.2.1
                      have h4 : min (t + (i : Int)) (size - 1) = t + (i : Int) := by have := H12.out; omega
                      rw [h4, h3]
                    | false =>
                      have h12 : ¬ (u < t + (i : Int) ∧ t + (i : Int) < size) := of_decide_eq_false HKB.out.symm
                      have H12 := Lib.hid h12
                      clear h12
                      go_wp2_with fail
                      go_meet
                      refine ⟨v, u, rfl, rfl, ⟨hv4.out.1, hv4.out.2.1, ?_, hv4.out.2.2.1⟩, .refl _⟩
                      rcases Int.lt_or_le u (t + (i : Int)) with h3 | h3
                      · have h4 : size ≤ t + (i : Int) := by have := H12.out; omega
                        have h5 : min (t + (i : Int)) (size - 1) = size - 1 := by omega
                        rw [h5]
                        exact hv4.out.2.2.2 h4
                      · have h5 : min (t + (i : Int)) (size - 1) = t + (i : Int) := by have := hv4.out.2.1; omega
                        rw [h5]
                        exact (hv4.out.2.2.1 _ (Int.le_refl _) h3).symm
                  case rest =>
                    clear hv4
                    obtain ⟨v5, u5, rfl, rfl, hv5, k5⟩ := hcut
                    have hb5 := hb.kp k5
                    have kp5 := kp.trans k5
                    clear hb kp k5
                    have hcu : wc.cell? ⟨wd.heap.size, i, none⟩ = some (cs[i]'(by omega)) := by rw [hb5.cell i]; simp
                    have hfz := hb5.frozen i
                    go_wp2_with fail
                    go_roundg (128 - (i + 1))
                    case measure => omega
                    case rel =>
                      refine ⟨i + 1, v5, u5, by omega, by go_num, rfl, rfl, ⟨hv5.out.1, hv5.out.2.1, fun j h1 h2 => hv5.out.2.2.2 j (by omega) h2, fun h => ?_⟩, ⟨cs.set i ((Value.int .i64) v5), ?_, by simpa using hcl, ?_⟩, ?_⟩
                      · rw [hv5.out.2.2.1, show min (t + (i : Int)) (size - 1) = size - 1 by omega]
                      · have := hb5.set i ((Value.int .i64) v5)
                        rwa [List.setIfInBounds_toArray] at this
                      · have hl2 : i + 1 ≤ (cs.set i ((Value.int .i64) v5)).length := by simp; omega
                        rw [List.range_succ, List.map_append, ← HCT.out, List.take_add_one, List.take_set_of_le (Nat.le_refl i)]
                        simp [hcl, hlt, hv5.out.2.2.1]
                      · exact kp5.setCell (p := ⟨wd.heap.size, i, none⟩) (Nat.le_refl _) _
              · have hii : i = 128 := by omega
                subst hii
                have hcs : cs = (blockM f size a).map (Value.int .i64) := by
                  have h1 := HCT.out
                  rw [List.take_of_length_le (by omega)] at h1
                  rw [h1]
                  unfold blockM
                  rw [List.map_map]
                  apply List.map_congr_left
                  intro r _
                  have h2 : ((128 * a + r : Nat) : Int) = t + (r : Int) := by have := HT.out; omega
                  simp only [Function.comp_apply, h2]
                subst hcs
                clear HCT hlt
                have st5 := HST.out.kp (kp.drew)
                have bx5 := hb.drew
                have rg5 := bx5.range
                have hU := Try.underlying119
                have hI : (Try.prog.info? 119).map (·.size) = some ((blockM f size a).map (Value.int .i64)).length := by rw [hcl]; kernel_rfl
                have PL := placeI (2 * a) (w.heap.size + 4) w.heap.size (w.heap.size + 3) (w.heap.size + 1) (w.heap.size + 2) size (.slice IA a Ic) BA Bc (blocksM f size a) (blockM f size a) wr.drew (blockM_length f size a) (fun x hx => by
                  unfold blockM at hx
                  obtain ⟨r, _, rfl⟩ := List.mem_map.1 hx
                  exact HWF.out _) st5.1 (by omega) (by omega)
                obtain ⟨k0, hk0⟩ : ∃ k0, k0 = atB (addB (blocksM f size a) (blockM f size a)) (blockM f size a) := ⟨_, rfl⟩
                rw [← hk0] at PL
                obtain ⟨bs', hbs'⟩ : ∃ bs', bs' = addB (blocksM f size a) (blockM f size a) := ⟨_, rfl⟩
                rw [← hbs'] at PL
                have HPL := Lib.hid PL
                have HK0 := Lib.hid hk0
                have HBS := Lib.hid hbs'
                have hbd : w.heap.size + 4 ≤ wd.heap.size := hsz0
                have hrowB : ∀ k, rowOf BA = some k → k < wd.heap.size := fun k hk => (HST.out.1.row.lt k hk).2
                have HRB := Lib.hid hrowB
                clear PL hk0 hbs' hrowB hb
                go_upto_region 26 with fail
                have hS : wr.drew.cell? ⟨w.heap.size, 1, none⟩ = some (.slice IA a Ic) ∧ wr.drew.rangeAt wd.heap.size 0 ((blockM f size a).map (Value.int .i64)) := ⟨st5.1.tb.three.2.1, rg5⟩
                refine wp_region_noPanic ?_
                refine wp_region_T (fun w' => w'.cell? ⟨w.heap.size, 1, none⟩ = some (.slice IA a Ic) ∧ w'.rangeAt wd.heap.size 0 ((blockM f size a).map (Value.int .i64))) 12 (by kernel_rfl) (by kernel_rfl) fun inv => ?_
                refine wpAnyT_take (i := 0) (v := ?v43) inv (by simp only [List.getElem?_toArray, List.getElem?_cons_zero]; rfl) (by decide) (by kernel_rfl) (by kernel_rfl) ?hQ43 hS ?hy43 (fun inv => ?rest43)
                case hy43 =>
                  refine yields_mk (by rfl) fun wy hy => ?_
                  obtain ⟨y0, y1⟩ := hy
                  go_simp
                  try with_reducible rfl
                case hQ43 => exact fun _ _ _ h => h
                simp only [Act.put, List.setIfInBounds_toArray, List.set_cons_zero, List.set_cons_succ]
                refine wpAnyT_take (i := 1) (v := ?v44) inv (by simp only [List.getElem?_toArray, List.getElem?_cons_succ, List.getElem?_cons_zero]; rfl) (by decide) (by kernel_rfl) (by kernel_rfl) ?hQ44 hS ?hy44 (fun inv => ?rest44)
                case hy44 =>
                  refine yields_mk (by rfl) fun wy hy => ?_
                  obtain ⟨y0, y1⟩ := hy
                  go_simp
                  try with_reducible rfl
                case hQ44 => exact fun _ _ _ h => h
                simp only [Act.put, List.setIfInBounds_toArray, List.set_cons_zero, List.set_cons_succ]
                refine wpAnyT_take (i := 2) (v := ?v45) inv (by simp only [List.getElem?_toArray, List.getElem?_cons_succ, List.getElem?_cons_zero]; rfl) (by decide) (by kernel_rfl) (by kernel_rfl) ?hQ45 hS ?hy45 (fun inv => ?rest45)
                case hy45 =>
                  refine yields_mk (by rfl) fun wy hy => ?_
                  obtain ⟨y0, y1⟩ := hy
                  go_simp
                  try with_reducible rfl
                case hQ45 => exact fun _ _ _ h => h
                simp only [Act.put, List.setIfInBounds_toArray, List.set_cons_zero, List.set_cons_succ]
                refine wpAnyT_take (i := 3) (v := ?v46) inv (by simp only [List.getElem?_toArray, List.getElem?_cons_succ, List.getElem?_cons_zero]; rfl) (by decide) (by kernel_rfl) (by kernel_rfl) ?hQ46 hS ?hy46 (fun inv => ?rest46)
                case hy46 =>
                  refine yields_mk (by rfl) fun wy hy => ?_
                  obtain ⟨y0, y1⟩ := hy
                  go_simp
                  try with_reducible rfl
                case hQ46 => exact fun _ _ _ h => h
                simp only [Act.put, List.setIfInBounds_toArray, List.set_cons_zero, List.set_cons_succ]
                refine wpAnyT_take (i := 4) (v := ?v47) inv (by simp only [List.getElem?_toArray, List.getElem?_cons_succ, List.getElem?_cons_zero]; rfl) (by decide) (by kernel_rfl) (by kernel_rfl) ?hQ47 hS ?hy47 (fun inv => ?rest47)
                case hy47 =>
                  refine yields_mk (by rfl) fun wy hy => ?_
                  obtain ⟨y0, y1⟩ := hy
                  go_simp
                  try with_reducible rfl
                case hQ47 => exact fun _ _ _ h => h
                simp only [Act.put, List.setIfInBounds_toArray, List.set_cons_zero, List.set_cons_succ]
                refine wpAnyT_take (i := 5) (v := ?v48) inv (by simp only [List.getElem?_toArray, List.getElem?_cons_succ, List.getElem?_cons_zero]; rfl) (by decide) (by kernel_rfl) (by kernel_rfl) ?hQ48 hS ?hy48 (fun inv => ?rest48)
                case hy48 =>
                  refine yields_mk (by rfl) fun wy hy => ?_
                  obtain ⟨y0, y1⟩ := hy
                  go_simp
                  try with_reducible rfl
                case hQ48 => exact fun _ _ _ h => h
                simp only [Act.put, List.setIfInBounds_toArray, List.set_cons_zero, List.set_cons_succ]
                refine wpAnyT_take (i := 6) (v := ?v49) inv (by simp only [List.getElem?_toArray, List.getElem?_cons_succ, List.getElem?_cons_zero]; rfl) (by decide) (by kernel_rfl) (by kernel_rfl) ?hQ49 hS ?hy49 (fun inv => ?rest49)
                case hy49 =>
                  refine yields_of ?_ (yieldsIf_load_mid (by rfl) _ (.tmp 14) (by rfl) wd.heap.size 0 (by rfl) _ _ (by intro wy hy; exact hy.2) hU rfl hI)
                  with_reducible rfl
                case hQ49 => exact fun _ _ _ h => h
                simp only [Act.put, List.setIfInBounds_toArray, List.set_cons_zero, List.set_cons_succ]
                refine wpAnyT_one (i := 7) inv (by kernel_rfl) (by decide) (by simp only [List.getElem?_toArray, List.getElem?_cons_succ, List.getElem?_cons_zero]; rfl) fun K hK => ?_
                go_simp
                go_at_call 69
                refine HPL.out.mono ?_
                rintro e w3 ⟨BA3, Bc3, rfl, hT3, hf3, hr3⟩
                have st6 := turnI st5 (Nat.le_refl _) hT3 hf3 hr3
                have bx6 := hf3.bx bx5 (by
                  rintro (h | h | h | h)
                  · omega
                  · omega
                  · omega
                  · have := HRB.out _ h; omega)
                have ix6 := st6.2.1
                have tb6 := st6.1.tb.alloc (.cells #[.int .i64 (k0 : Int)] 3)
                have bx7 := bx6.alloc (.cells #[.int .i64 (k0 : Int)] 3)
                have hb6 := st6.1.lt.2.2.2.2
                refine hK _ _ ?_ (fun inv => ?_)
                · exact ⟨st6.1.tb.three.2.1, bx6.range⟩
                clear hK K hS HPL st5 hT3 hf3 hr3 bx5 rg5
                try simp only [Act.put, List.setIfInBounds_toArray, List.set_cons_zero, List.set_cons_succ]
                refine wpAnyT_one (i := 8) inv (by kernel_rfl) (by decide) (by simp only [List.getElem?_toArray, List.getElem?_cons_succ, List.getElem?_cons_zero]; rfl) fun K hK => ?_
                go_simp
                refine hK _ _ ?_ (fun inv => ?_)
                · exact ⟨tb6.three.2.1, bx7.range⟩
                clear hK K
                try simp only [Act.put, List.setIfInBounds_toArray, List.set_cons_zero, List.set_cons_succ]
                refine wpAnyT_one (i := 9) inv (by kernel_rfl) (by decide) (by simp only [List.getElem?_toArray, List.getElem?_cons_succ, List.getElem?_cons_zero]; rfl) fun K hK => ?_
                refine step_append_sl _ (by rfl) _ _ _ (by rfl) (w.heap.size + 4) 3 _ 1 8 Try.underlying115 infoIntI rfl (by omega) IA a Ic (ixs (idxM f size) a) (by rfl) (ix6.alloc _) Any _ 1 1 [.int .i64 (k0 : Int)] (by rfl) (Sl.new _ _ _ _ _ trivial rfl (by omega)) (by simp [Value.oneCell']) (by simp only [maxLen]; omega) (by omega) (by simp; omega) ?_
                intro A4 c4 w4 hown4 hg4 hat4
                have tb8 := tb6.grown hg4 (fun e => by have := (ix6.lt _ e).1; omega)
                have bx8 := bx7.grown hg4 (fun e => by have := (HST.out.2.1.lt _ e).2; omega)
                obtain ⟨x0, x1, x2, _, x4, _⟩ := tb8.three
                refine hK _ _ ?_ (fun inv => ?_)
                · exact ⟨x1, bx8.range⟩
                clear hK K
                try simp only [Act.put, List.setIfInBounds_toArray, List.set_cons_zero, List.set_cons_succ]
                have hS : w4.cell? ⟨w.heap.size, 1, none⟩ = some (.slice IA a Ic) ∧ w4.rangeAt wd.heap.size 0 ((blockM f size a).map (Value.int .i64)) := ⟨x1, bx8.range⟩
                refine wpAnyT_take (i := 10) (v := ?v50) inv (by simp only [List.getElem?_toArray, List.getElem?_cons_succ, List.getElem?_cons_zero]; rfl) (by decide) (by kernel_rfl) (by kernel_rfl) ?hQ50 hS ?hy50 (fun inv => ?rest50)
                case hy50 =>
                  refine yields_mk (by rfl) fun wy hy => ?_
                  obtain ⟨y0, y1⟩ := hy
                  go_simp
                  try with_reducible rfl
                case hQ50 => exact fun _ _ _ h => h
                simp only [Act.put, List.setIfInBounds_toArray, List.set_cons_zero, List.set_cons_succ]
                refine wpAnyT_take (i := 11) (v := ?v51) inv (by simp only [List.getElem?_toArray, List.getElem?_cons_succ, List.getElem?_cons_zero]; rfl) (by decide) (by kernel_rfl) (by kernel_rfl) ?hQ51 hS ?hy51 (fun inv => ?rest51)
                case hy51 =>
                  refine yields_mk (by rfl) fun wy hy => ?_
                  obtain ⟨y0, y1⟩ := hy
                  go_simp
                  try with_reducible rfl
                case hQ51 => exact fun _ _ _ h => h
                simp only [Act.put, List.setIfInBounds_toArray, List.set_cons_zero, List.set_cons_succ]
                refine wpAnyT_last (by kernel_rfl) (by simp only [List.getElem?_toArray, List.getElem?_cons_succ, List.getElem?_cons_zero]; rfl) (by kernel_rfl) fun K hK => ?_
                go_simp
                refine hK _ _ ?_
                clear hK K hS
                refine NoPanic.normal ?_
                go_wp2_with fail
                go_roundg (9 - (a + 1))
                case measure => omega
                case rel =>
                  have ap := appI st6 (Nat.le_refl _) ((Kp.refl _).alloc _) hown4 hg4 hat4
                  have hbs1 : bs' = blocksM f size (a + 1) := HBS.out
                  have hk1 : k0 = idxM f size a := HK0.out
                  rw [hbs1, hk1, ← ixs_succ] at ap
                  refine ⟨a + 1, v, u, A4, c4, BA3, Bc3, by omega, by have := HT.out; go_num, rfl, rfl, ⟨hv4.out.1, hv4.out.2.1, by have := HT.out; omega, fun j h1 h2 => hv4.out.2.2.1 j (by have := HT.out; omega) h2⟩, ?_⟩
                  exact ⟨ap.1.mono (by omega), ap.2⟩
      · go_wp2_with fail
        go_ret
        exact .inr ⟨by omega, _, rfl, ⟨a, IA, Ic, BA, Bc, st.1.tb, st.2.1.sl.any, st.1.row.sl.any, by omega, hs, by omega, by have := hv.out.2.2.1; omega⟩, st.2.2.2⟩
end Go.Proofs.Ytakbfppmgngdiaa
