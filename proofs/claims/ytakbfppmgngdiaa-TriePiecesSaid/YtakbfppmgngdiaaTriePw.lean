/-
  TriePieces, the walk. Conditions: the arguments can be read.
-/
import Derived.Test.YtakbfppmgngdiaaTrieNo
import Derived.Test.YtakbfppmgngdiaaTrieGt
namespace Go.Proofs.Ytakbfppmgngdiaa
open Go.RowKit

theorem Cov.get {f g : Int → Int} {size : Int} (z : Int) : ∀ {a : Int} {l : List (Pc Int)}, Cov f size a l size → ∀ i, a ≤ i → i < size → getM l z i = f i
  | a, [], h, i, h1, h2 => by have h : a = size := h; omega
  | a, p :: l, h, i, h1, h2 => by
    obtain ⟨e1, e2, e3, e4, e5, e6⟩ := h
    unfold getM
    by_cases hi : i ≤ p.to
    · rw [if_pos (by omega)]
      exact (e4 i h1 hi).symm
    · rw [if_neg (by omega)]
      exact Cov.get (g := g) z e6 i (by omega) h2
theorem Cov.pcOks {f : Int → Int} {size : Int} (hs : size ≤ 1024) (hf : ∀ i, wfI (f i)) : ∀ {a : Int} {l : List (Pc Int)} {b : Int}, 0 ≤ a → Cov f size a l b → PcOks l
  | a, [], b, _, h => by intro p hp; cases hp
  | a, p :: l, b, h0, h => by
    obtain ⟨e1, e2, e3, e4, e5, e6⟩ := h
    have ih := Cov.pcOks hs hf (by omega) e6
    intro q hq
    rcases List.mem_cons.1 hq with rfl | hq
    · exact ⟨by omega, by rw [← e4 _ (Int.le_refl _) e2]; exact hf _⟩
    · exact ih q hq
theorem blocksM_congr0 {f g : Int → Int} {size : Int} (h0 : 1 ≤ size) (h : ∀ i, 0 ≤ i → i < size → f i = g i) : ∀ a, blocksM f size a = blocksM g size a
  | 0 => rfl
  | a + 1 => by
    unfold blocksM
    rw [blocksM_congr0 h0 h a]
    congr 1
    unfold blockM
    apply List.map_congr_left
    intro r _
    apply h
    · omega
    · omega
theorem blocksM_same {f g : Int → Int} {size : Int} (h0 : 0 ≤ size) (h : ∀ i, 0 ≤ i → i < size → f i = g i) : (blocksM f size (wideM size)).length = (blocksM g size (wideM size)).length := by
  by_cases h1 : 1 ≤ size
  · rw [blocksM_congr0 h1 h]
  · have : wideM size = 0 := by unfold wideM; omega
    rw [this]
    rfl

set_option maxRecDepth 100000 in
set_option maxHeartbeats 3200000 in
theorem triePieces_walk' (x0 : Int) (x1 : Int) (wf1 : (Lit.int .i64 x1).wf = true) (A : Option Addr) (n c : Nat) (l : List (Pc Int)) (x3 : Int) (w : World) (hP : Pcs (Value.int .i64) w A n c l) (hl : PcOks l) :
    Calls Try.prog 13 #[.int .i64 x0, .int .i64 x1, .slice A n c, .int .i64 x3] w fun e w' => e = .returned (.bool true) ∧ Kp w w' := by
  obtain ⟨r, hr, hb⟩ := and_below x0 10 (by omega)
  have hb' : bits .and .i64 x0 1023 = (r : Int) := hb
  clear hb
  have hr' : r < 1024 := hr
  clear hr
  have hfew := few03 A n c l w hP
  have hl30 := hl.take 30
  obtain ⟨l', hl'⟩ : ∃ l', l' = l.take 30 := ⟨_, rfl⟩
  rw [← hl'] at hfew hl30
  have HF := Lib.hid hfew
  have HL := Lib.hid hl30
  have HW1 := Lib.hid wf1
  clear hP hl wf1 hfew hl30 hl'
  go_enter Try.func13, Try.ntmps13
  go_upto_region 2 with fail
  go_upto_region 3 with (go_at_call 39; refine HF.out.mono ?_; rintro e w1 ⟨m, rfl, hm, hP1, k1⟩)
  clear HF
  have HM := Lib.hid (made03 (r : Int) x1 A m c l' w1 hP1 HL.out.ok HL.out.wf HW1.out (by omega) (by omega) (by omega))
  have hfw : ∀ i, wfI (getM l' x1 i) := fun i => by
    rcases getM_mem x1 i l' with h | ⟨p, hp, h⟩
    · rw [h]; exact HW1.out
    · rw [h]; exact HL.out.wf p hp
  have HG : ∀ (wx : World) (i : Int), Kp w1 wx → Calls Try.prog 42 #[.slice A m c, .int .i64 x1, .int .i64 i] wx fun e w' => e = .returned (.int .i64 (getM l' x1 i)) ∧ Dr wx w' := fun wx i k => refGetD A m c l' x1 i wx (hP1.kp k) (by omega)
  obtain ⟨f, hf⟩ : ∃ f, f = getM l' x1 := ⟨_, rfl⟩
  rw [← hf] at HM HG hfw
  have HG' := Lib.hid HG
  have HFW := Lib.hid hfw
  clear HG hf hP1 HL hfw
  go_upto_region 4 with (go_at_call 40; refine HM.out.mono ?_; intro e w2 hret; obtain ⟨p, rfl, hT, k2⟩ := ret_o (by omega) hret; clear hret)
  clear HM
  go_upto_region 5 with (go_at_call 51; refine (pieces_o p r f _ hT (by omega)).mono ?_; rintro e w3 ⟨A3, n3, c3, q, rfl, hQ, hC, k3⟩)
  have HT := Lib.hid fun (wx : World) (k : Kp w3 wx) => hT.kp (k3.trans k)
  have hql := hQ.len
  have hqle := hQ.le
  have hqc := hQ.cap
  unfold maxLen at hqc
  have hqr := hC.len
  have HC := Lib.hid hC
  have kw3 := (k1.trans k2).trans k3
  have k13 := k2.trans k3
  have HQ := Lib.hid fun (wx : World) (k : Kp w3 wx) => hQ.kp k
  clear hC hT k1 k2 k3 hQ
  go_wp2_with fail
  go_loopg [11, 12] n3 (fun g av kv wr => ∃ (k : Nat) (at_ : Int), k + g = n3 ∧ kv = .int .i64 k ∧ av = .int .i64 at_ ∧ Hid (Cov f r at_ (q.drop k) r) ∧ 0 ≤ at_ ∧ at_ ≤ r ∧ Hid (k = 0 ∨ ∃ p', q[k - 1]? = some p' ∧ (at_ < r → f at_ ≠ p'.v)) ∧ Kp w3 wr)
  case atStart => exact ⟨0, 0, by omega, rfl, rfl, HC.out, by omega, by omega, .inl rfl, .refl _⟩
  case round =>
    obtain ⟨k, at_, hk, rfl, rfl, hcov, ha0, har, hprev, kp⟩ := hrel
    by_cases hkn : k < n3
    · obtain ⟨pk, hpk⟩ : ∃ pk, q[k]? = some pk := ⟨q[k]'(by omega), List.getElem?_eq_getElem _⟩
      obtain ⟨ad, rfl, c0, c1, c2⟩ := (HQ.out wr kp).get hpk
      have hd : q.drop k = pk :: q.drop (k + 1) := by
        have hk' := (List.getElem?_eq_some_iff.1 hpk)
        rw [List.drop_eq_getElem_cons hk'.1, hk'.2]
      have hc' := hcov.out
      rw [hd] at hc'
      obtain ⟨e1, e2, e3, e4, e5, e6⟩ := hc'
      have hfa := e4 at_ (Int.le_refl _) e2
      have HPK := Lib.hid hpk
      have H5 := Lib.hid e5
      have H6 := Lib.hid e6
      have HGA := Lib.hid fun j => HG'.out (wr.drewN j) at_ (k13.trans (kp.drewN j))
      rw [hfa] at HGA
      clear hd hcov e4 e5 e6 hpk
      rw [e1] at c0
      have hwt : IntKind.i64.wrap (pk.to + 1) = pk.to + 1 := wrapS (by omega) (by omega)
      have hk0 : (0 : Int) ≤ (k : Int) := by omega
      have hk1 : (k : Int) < (n3 : Int) := by omega
      have hd1 : decide (pk.to < at_) = false := by simp; omega
      have hq1 : k + 1 ≤ n3 := by omega
      by_cases hkz : k = 0
      · subst hkz
        simp only [Nat.zero_mul, add_zero] at c0 c1 c2
        go_upto_region 9 with fail
        go_quiet ((go_at_call 42; refine Calls.quiet_of (HGA.out _)))
        go_wp2_with fail
        go_roundg (n3 - 1)
        case measure => omega
        case rel => exact ⟨1, pk.to + 1, by omega, rfl, rfl, H6.out, by omega, by omega, .inr ⟨pk, HPK.out, H5.out⟩, kp.drewN _⟩
      · obtain ⟨p', hp', hne⟩ := hprev.out.resolve_left hkz
        obtain ⟨ad', had, b0, b1, b2⟩ := (HQ.out wr kp).get hp'
        cases had
        have hkm : IntKind.i64.wrap ((k : Int) - 1) = ((k - 1 : Nat) : Int) := by rw [wrapS (by omega) (by omega)]; omega
        have hkm0 : (0 : Int) ≤ ((k - 1 : Nat) : Int) := by omega
        have hkm1 : ((k - 1 : Nat) : Int) < (n3 : Int) := by omega
        have hkp : (0 : Int) < (k : Int) := by omega
        have hkp' : 0 < k := by omega
        have hvv : (p'.v == pk.v) = false := by
          have := hne (by omega)
          rw [hfa] at this
          simpa using fun h => this h.symm
        obtain ⟨km, hkme⟩ : ∃ km, km = k - 1 := ⟨_, rfl⟩
        rw [← hkme] at hkm hkm0 hkm1 b0 b1 b2
        clear hp' hne hprev hkme
        go_upto_region 9 with fail
        go_quiet ((go_at_call 42; refine Calls.quiet_of (HGA.out _)))
        go_wp2_with fail
        go_roundg (n3 - (k + 1))
        case measure => omega
        case rel => exact ⟨k + 1, pk.to + 1, by omega, by go_num, rfl, H6.out, by omega, by omega, .inr ⟨pk, HPK.out, H5.out⟩, kp.drewN _⟩
    · have hc' := hcov.out
      rw [List.drop_eq_nil_of_le (by omega)] at hc'
      have hce : at_ = r := hc'
      subst hce
      clear hc' hcov hprev
      have hg := Cov.get (g := f) x1 HC.out
      have HBU := Lib.hid (buildI (r : Int) x1 A3 n3 c3 q wr (HQ.out wr kp) (Cov.pcOks (by omega) HFW.out (Int.le_refl _) HC.out).ok (Cov.pcOks (by omega) HFW.out (Int.le_refl _) HC.out).wf HW1.out (by omega) (by omega) (by omega))
      have hbl := blocksM_same (f := getM q x1) (g := f) (size := (r : Int)) (by omega) (fun i h1 h2 => hg i h1 h2)
      have hgi : (if 0 ≤ x3 ∧ x3 < (r : Int) then getM q x1 x3 else 0) = (if 0 ≤ x3 ∧ x3 < (r : Int) then f x3 else 0) := by
        by_cases h : 0 ≤ x3 ∧ x3 < (r : Int)
        · rw [if_pos h, if_pos h, hg x3 h.1 h.2]
        · rw [if_neg h, if_neg h]
      have HBL := Lib.hid fun (p : Option Addr) (w : World) (h : TrO w p r (getM q x1)) => (by have := blocks_o h; rw [hbl] at this; exact this : Calls Try.prog 45 #[.pointer p] w fun e w' => e = .returned (.int .i64 ((blocksM f r (wideM r)).length : Int)) ∧ Kp w w')
      have HGI := Lib.hid fun (p : Option Addr) (w : World) (h : TrO w p r (getM q x1)) => (by have := get_o x3 h; rw [hgi] at this; exact this : Calls Try.prog 43 #[.pointer p, .int .i64 x3] w fun e w' => e = .returned (.int .i64 (if 0 ≤ x3 ∧ x3 < (r : Int) then f x3 else 0)) ∧ Kp w w')
      have HBL2 := Lib.hid fun (p : Option Addr) (w : World) (h : TrO w p r f) => blocks_o h
      have HGI2 := Lib.hid fun (p : Option Addr) (w : World) (h : TrO w p r f) => get_o x3 h
      obtain ⟨yb, hyb⟩ : ∃ yb : Int, yb = ((blocksM f r (wideM r)).length : Int) := ⟨_, rfl⟩
      obtain ⟨yg, hyg⟩ : ∃ yg : Int, yg = (if 0 ≤ x3 ∧ x3 < (r : Int) then f x3 else 0) := ⟨_, rfl⟩
      rw [← hyb] at HBL HBL2
      rw [← hyg] at HGI HGI2
      clear hg hbl hgi hyb hyg
      have HLE := Lib.hid fun (p : Option Addr) (g : Int → Int) (w : World) (h : TrO w p r g) => len_o h
      go_upto_region 15 with (go_at_call 52; refine HBU.out.mono ?_; intro e w4 hret; obtain ⟨p4, rfl, hU, k4⟩ := ret_o (by omega) hret; clear hret)
      clear HBU
      have HTu := Lib.hid fun (wx : World) (k : Kp w4 wx) => hU.kp k
      have HTt := Lib.hid fun (wx : World) (k : Kp w4 wx) => HT.out wx ((kp.trans k4).trans k)
      clear hU
      go_wp2_with (first
        | (go_at_call 41; refine (HLE.out p4 _ w4 (HTu.out w4 (.refl _))).mono ?_; rintro e w5 ⟨rfl, hw5⟩; replace hw5 := hw5.symm; subst hw5)
        | (go_at_call 41; refine (HLE.out p _ w4 (HTt.out w4 (.refl _))).mono ?_; rintro e w5 ⟨rfl, hw5⟩; replace hw5 := hw5.symm; subst hw5)
        | (go_at_call 45; refine (HBL.out p4 _ (HTu.out w4 (.refl _))).mono ?_; rintro e w6 ⟨rfl, k6⟩; clear HBL)
        | (go_at_call 45; refine (HBL2.out p _ (HTt.out w6 k6)).mono ?_; rintro e w7 ⟨rfl, k7⟩)
        | (go_at_call 43; refine (HGI.out p4 _ (HTu.out w7 (k6.trans k7))).mono ?_; rintro e w8 ⟨rfl, k8⟩; clear HGI)
        | (go_at_call 43; refine (HGI2.out p _ (HTt.out w8 ((k6.trans k7).trans k8))).mono ?_; rintro e w9 ⟨rfl, k9⟩)
        | (go_at_call 44; refine (awake03 _).mono ?_; rintro e w10 ⟨rfl, k10⟩))
      go_ret
      exact ⟨rfl, (((((((kw3.trans kp).trans k4).trans k6).trans k7).trans k8).trans k9).trans k10)⟩

theorem triePieces_walk {w0 : World} (x0 : Int) (_ : (Lit.int .i64 x0).wf = true) (x1 : Int) (wf1 : (Lit.int .i64 x1).wf = true) (A : Option Addr) (n c : Nat) (l : List (Pc Int)) (hP : Pcs (Value.int .i64) w0 A n c l) (hl : PcOks l) (x3 : Int) (_ : (Lit.int .i64 x3).wf = true) (w : World) (hw : w = w0 := by rfl) :
    Calls Try.prog 13 #[.int .i64 x0, .int .i64 x1, .slice A n c, .int .i64 x3] w fun e w' => e = .returned (.bool true) ∧ Kp w w' := by
  subst hw
  exact triePieces_walk' x0 x1 wf1 A n c l x3 w hP hl
end Go.Proofs.Ytakbfppmgngdiaa
