/-
  package store: plain, read: the line that a text stands for. Conditions: not more than 1000000 bytes.
-/
import Derived.Deep.DeepCutAuto
import Derived.Deep.CutBlock
import Derived.Test.YtcbachblhfkcoaaSDo
namespace Go.Proofs.Ytcbachblhfkcoaa
open Go.RowKit

theorem BldF.kp {w w' : World} {B b : Nat} {l : List Int} (h : BldF w B b l) (k : Kp w w') : BldF w' B b l := by
  have hg : w.grownBy w' none := ⟨k.os, k.tape, k.output, k.size, fun i hi _ => k.block i hi⟩
  have hat : ∀ p, Lib.BuilderAtF 100 5 B b p (Lib.byteCells (l.map u8of)) w → Lib.BuilderAtF 100 5 B b p (Lib.byteCells (l.map u8of)) w' := by
    rintro p ⟨h1, v, h2, h3, h4⟩
    have hlt : b < w.heap.size := (Array.getElem?_eq_some_iff.1 h2).1
    refine ⟨h1, v, (k.block b hlt).trans h2, h3.kept hg ?_, h4⟩
    by_cases e : v.ownBlock = none
    · exact .inl e
    · exact .inr e
  exact ⟨h.1.elim (fun h => .inl (hat _ h)) (fun h => .inr (hat _ h)), Nat.le_trans h.2 k.size⟩

/-- The builder's bytes, as a string: no other memory than the builder's turns. -/
theorem bld_string_k (B b : Nat) (l : List Int) (w : World) (h : BldF w B b l) :
    Calls Try.prog 73 #[.pointer (some ⟨b, 0, none⟩)] w fun e w' => e = .returned (.string (bs l)) ∧ BldF w' B b l ∧ Below B w w' ∧ Lib.OthersKept 5 (some b) w w' :=
  (Try.Builder_String_any_k B b (l.map u8of) w h.1 h.2).mono fun _ _ ⟨he, h1, h2, h3⟩ => ⟨he, ⟨h1, Nat.le_trans h.2 h2.size⟩, h2, h3⟩
theorem Own.others {w w' : World} {base b : Nat} {e : TypeId} {A : Option Addr} {n c : Nat} {xs : List Value} (h : Own w base e 1 A n c xs) (he : e ≠ 5) (hb : b < base) (k : Lib.OthersKept 5 (some b) w w') : Own w' base e 1 A n c xs := by
  refine ⟨h.1, ?_⟩
  rcases h.2 with hn | ⟨g, cap, cur, hv, hg, hgg, rest⟩
  · exact .inl hn
  · refine .inr ⟨g, cap, cur, hv, hg, k g _ hgg (fun e => by cases e; omega) (fun c' fz e' => ?_), rest⟩
    cases e'
    exact he rfl

/-- A line and a truth come back. -/
def RetO (o : Option (List Int)) (w : World) (e : Ending) (w' : World) : Prop :=
  ∃ A n c, e = .returned (.tuple #[.slice A n c, .bool o.isSome]) ∧ (∀ l, o = some l → Ru w' (From w.heap.size) A n c l) ∧ Kp w w'
def plM (s : List Int) : Option (List Int) := match unM s with
  | some t => if encM (decodeM t) = t then some (decodeM t) else none
  | none => none
theorem bs_inj {s t : List Int} (hs : isB s) (ht : isB t) : (bs s = bs t) ↔ s = t :=
  ⟨fun h => by have := congrArg by8 h; rwa [by8_bs hs, by8_bs ht] at this, fun h => by rw [h]⟩

/-- Go's == on strings. -/
theorem str_eq (s t : ByteArray) : (s.toList == t.toList) = decide (s = t) := by
  rw [ByteArray.toList_eq, ByteArray.toList_eq]
  by_cases h : s = t
  · rw [h]; simp
  · rw [decide_eq_false h]
    simp only [beq_eq_false_iff_ne, ne_eq]
    intro e
    exact h (by cases s; cases t; simp at e; rw [e])
theorem bs_beq {s t : List Int} (hs : isB s) (ht : isB t) : ((bs s).toList == (bs t).toList) = decide (s = t) := by
  rw [str_eq, decide_eq_decide]
  exact bs_inj hs ht

set_option maxRecDepth 100000 in
set_option maxHeartbeats 3200000 in
theorem plain_any (s : ByteArray) (hs : s.size ≤ 1000000) (w : World) : Calls Try.prog 76 #[.string s] w (RetO (plM (by8 s)) w) := by
  have hlen := by8_length s
  have HL := Lib.hid hlen
  clear hlen
  go_enter Try.func76, Try.ntmps76
  go_wp2_with fail
  go_loopg [5] s.size (fun g i wr => ∃ (k : Nat) (o : List Int), k + g = s.size ∧ k ≤ s.size ∧ i = .int .i64 k ∧ Bld wr w.heap.size w.heap.size o ∧ Hid (unM (by8 s) = (unM ((by8 s).drop k)).map (o ++ ·)) ∧ o.length ≤ k ∧ Kp w wr)
  case atStart => exact ⟨0, [], by omega, by omega, rfl, Bld.new w, (by show _ = _; simp : unM (by8 s) = (unM ((by8 s).drop 0)).map ([] ++ ·)), by simp, (Kp.refl w).alloc _⟩
  case round =>
    obtain ⟨k, o, hg, hk, rfl, hb, hf, hol, kw⟩ := hrel
    by_cases hlt : k < s.size
    · have hdr : (by8 s).drop k = (by8 s)[k]?.getD 0 :: (by8 s).drop (k + 1) := by
        have hl : k < (by8 s).length := by rw [HL.out]; exact hlt
        rw [List.drop_eq_getElem_cons hl, List.getElem?_eq_getElem hl]; rfl
      obtain ⟨x0, x1⟩ := by8_bound s k
      obtain ⟨x, hx⟩ : ∃ x, x = (by8 s)[k]?.getD 0 := ⟨_, rfl⟩
      have hrix := run_index_str (P := Try.prog) wr 9 s .i64 k k Try.underlying9 rfl hlt x hx.symm
      rw [← hx] at x0 x1 hdr
      clear hx
      have hmb : o.length ≤ 1099511627776 := by omega
      by_cases h92 : x = 92
      · subst h92
        by_cases hk1 : k + 1 < s.size
        · have hdr2 : (by8 s).drop (k + 1) = (by8 s)[k + 1]?.getD 0 :: (by8 s).drop (k + 1 + 1) := by
            have hl : k + 1 < (by8 s).length := by rw [HL.out]; exact hk1
            rw [List.drop_eq_getElem_cons hl, List.getElem?_eq_getElem hl]; rfl
          obtain ⟨y, hy⟩ : ∃ y, y = (by8 s)[k + 1]?.getD 0 := ⟨_, rfl⟩
          have hriy := run_index_str (P := Try.prog) wr 9 s .i64 ((k : Int) + 1) (k + 1) Try.underlying9 (by omega) hk1 y hy.symm
          rw [← hy] at hdr2
          clear hy
          have hne : ((k : Int) + 1 == (s.size : Int)) = false := by simp; omega
          by_cases h110 : y = 110
          · subst h110
            have HT : Hid (unM (by8 s) = (unM ((by8 s).drop (k + 1 + 1))).map ((o ++ [10]) ++ ·)) := by
              show _ = _
              refine advU hf.out ?_
              rw [hdr, hdr2, unM_n]
            have HW := Lib.hid (bld_byte w.heap.size w.heap.size o 10 wr hb (by omega) hmb)
            clear hf hdr hdr2 hb
            go_wp2_with (go_at_call 84; refine HW.out.mono ?_; rintro e w2 ⟨rfl, hb2, k2⟩)
            go_roundg (s.size - (k + 1 + 1))
            case measure => omega
            case rel => exact ⟨k + 1 + 1, o ++ [10], by omega, by omega, by go_num, hb2, HT, by simp; omega, Kp.below_trans kw (Nat.le_refl _) k2⟩
          · by_cases h92 : y = 92
            · subst h92
              have HT : Hid (unM (by8 s) = (unM ((by8 s).drop (k + 1 + 1))).map ((o ++ [92]) ++ ·)) := by
                show _ = _
                refine advU hf.out ?_
                rw [hdr, hdr2, unM_b]
              have HW := Lib.hid (bld_byte w.heap.size w.heap.size o 92 wr hb (by omega) hmb)
              clear hf hdr hdr2 hb
              go_wp2_with (go_at_call 84; refine HW.out.mono ?_; rintro e w2 ⟨rfl, hb2, k2⟩)
              go_roundg (s.size - (k + 1 + 1))
              case measure => omega
              case rel => exact ⟨k + 1 + 1, o ++ [92], by omega, by omega, by go_num, hb2, HT, by simp; omega, Kp.below_trans kw (Nat.le_refl _) k2⟩
            · have b110 : (y == 110) = false := by simpa using h110
              have b92 : (y == 92) = false := by simpa using h92
              have HE : Hid (plM (by8 s) = none) := by
                show _ = _
                unfold plM
                rw [hf.out, hdr, hdr2, unM_bad (by simpa using h110) (by simpa using h92)]
                rfl
              clear hf hdr hdr2 hb h110 h92
              go_wp2_with fail
              go_ret2
              rw [HE.out]
              exact ⟨none, 0, 0, rfl, (fun l h => by cases h), kw⟩
        · have HE : Hid (plM (by8 s) = none) := by
            show _ = _
            unfold plM
            rw [hf.out, hdr, List.drop_eq_nil_of_le (by rw [HL.out]; omega), unM_bad (by simp) (by simp)]
            rfl
          have hne : ((k : Int) + 1 == (s.size : Int)) = true := by simp; omega
          clear hf hdr hb
          go_wp2_with fail
          go_ret2
          rw [HE.out]
          exact ⟨none, 0, 0, rfl, (fun l h => by cases h), kw⟩
      · have b92 : (x != 92) = true := by simpa using h92
        have HT : Hid (unM (by8 s) = (unM ((by8 s).drop (k + 1))).map ((o ++ [x]) ++ ·)) := by
          show _ = _
          refine advU hf.out ?_
          rw [hdr, unM_c _ h92]
        have HW := Lib.hid (bld_byte w.heap.size w.heap.size o x wr hb ⟨x0, x1⟩ hmb)
        clear hf hdr hb h92
        go_wp2_with (go_at_call 84; refine HW.out.mono ?_; rintro e w2 ⟨rfl, hb2, k2⟩)
        go_roundg (s.size - (k + 1))
        case measure => omega
        case rel => exact ⟨k + 1, o ++ [x], by omega, by omega, by go_num, hb2, HT, by simp; omega, Kp.below_trans kw (Nat.le_refl _) k2⟩
    · obtain rfl : k = s.size := by omega
      have hun : unM (by8 s) = some o := by
        rw [hf.out, List.drop_eq_nil_of_le (by rw [HL.out]; omega), unM_nil]
        simp
      have hib := hb.2.1
      have Hz : Hid (w.heap.size + 1 ≤ wr.heap.size) := by obtain ⟨_, _, _, _, _, _, _, h, _⟩ := hb; have := h.lt; show _ ≤ _; omega
      have hbz := bs_size o
      have HP : Hid (plM (by8 s) = if encM (decodeM o) = o then some (decodeM o) else none) := by show _ = _; unfold plM; rw [hun]
      have HS := Lib.hid fun (wx : World) (kk : Kp wr wx) => bld_string w.heap.size w.heap.size o wx (hb.f.kp kk)
      have HDE := Lib.hid fun (wx : World) => decode_own (bs o) (by omega) wx
      rw [by8_bs hib] at HDE
      have hdl : (decodeM o).length ≤ 1000000 := by rw [decode_law]; have := decR_length o; omega
      have HEN := Lib.hid fun (wx : World) (B : Option Addr) (n d : Nat) (hl : Ru wx Any B n d (decodeM o)) => encode_any B n d (decodeM o) wx hl (by have := hl.len; omega)
      obtain ⟨bb, hbb⟩ : ∃ bb : Bool, bb = decide (encM (decodeM o) = o) := ⟨_, rfl⟩
      have HBB := Lib.hid hbb
      have HEQ : Hid (((bs (encM (decodeM o))).toList == (bs o).toList) = bb) := by show _ = _; rw [hbb]; exact bs_beq (encM_bd _) hib
      clear hf hun hb hbz hbb hdl hol
      generalize bs (encM (decodeM o)) = s1 at *
      go_wp2_with (first
        | (go_at_call 73; refine (HS.out _ (Kp.refl _)).mono ?_; rintro e w2 ⟨rfl, hb2, k2⟩; have kw2 := Kp.below_trans kw (Nat.le_refl _) k2; have Hz2 : Hid (w.heap.size + 1 ≤ w2.heap.size) := (by have h1 := Hz.out; have h2 := k2.size; show _ ≤ _; omega))
        | (go_at_call 85; refine (HDE.out _).mono ?_; rintro e w3 ⟨A3, n3, c3, rfl, ho3, k3⟩; have kw3 := kw2.trans k3))
      have HEN2 := Lib.hid (HEN.out w3 A3 n3 c3 (Sl.any ho3.sl))
      have hb3 := hb2.kp k3
      go_wp2_with (first
        | (go_at_call 86; refine HEN2.out.mono ?_; rintro e w4 ⟨rfl, k4⟩; have kw4 := kw3.trans k4; have hb4 := hb3.kp k4; have ho4 := ho3.kp k4)
        | (go_at_call 73; refine (bld_string_k w.heap.size w.heap.size o _ hb4).mono ?_; rintro e w5 ⟨rfl, hb5, k5, hok⟩))
      go_ret2
      have hval : (Value.bool (s1.toList == (bs o).toList)) = .bool (plM (by8 s)).isSome := by
        rw [HEQ.out, HP.out, HBB.out]
        by_cases h : encM (decodeM o) = o
        · rw [if_pos h, decide_eq_true h]; rfl
        · rw [if_neg h, decide_eq_false h]; rfl
      refine ⟨A3, n3, c3, congrArg (fun v => Ending.returned (.tuple #[.slice A3 n3 c3, v])) hval, fun l hl => ?_, Kp.below_trans kw4 (Nat.le_refl _) k5⟩
      have hl2 : l = decodeM o := by
        rw [HP.out] at hl
        split at hl
        · cases hl; rfl
        · cases hl
      subst hl2
      have hz : w.heap.size + 1 ≤ w2.heap.size := Hz2.out
      have ho5 := ho4.others (by decide) (by omega) hok
      exact Sl.weak ho5.sl fun g _ hg => by unfold From at *; omega
end Go.Proofs.Ytcbachblhfkcoaa
