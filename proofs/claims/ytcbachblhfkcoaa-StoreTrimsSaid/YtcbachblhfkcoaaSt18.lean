/-
  store.Merge. Conditions: not more than 1000 bytes each.
-/
import Derived.Test.YtcbachblhfkcoaaSt17
import Derived.Maps.Own
import Derived.Maps.OwnOps
import Derived.Maps.Views
namespace Go.Proofs.Ytcbachblhfkcoaa
open Go.RowKit Go.Maps

/-- The key of a line. -/
def keyL (x : List Int) : Lit := .string (bs (textM x)).data.toList
theorem keyL_inj {x y : List Int} (hx : decodeM (encM x) = x) (hy : decodeM (encM y) = y) (h : keyL x = keyL y) : x = y := by
  have h1 : (bs (textM x)).data.toList = (bs (textM y)).data.toList := by unfold keyL at h; injection h
  have h2 : bs (textM x) = bs (textM y) := ByteArray.ext (Array.ext' h1)
  have h3 := (bs_inj (textM_bd x) (textM_bd y)).1 h2
  rw [textM_escB, textM_escB] at h3
  have h4 : encM x = encM y := by
    have := congrArg unM h3
    rw [unM_escB, unM_escB] at this
    exact Option.some.inj this
  rw [← hx, ← hy, h4]
/-- The table behind k lines: each key's last number. -/
def tabM (L : List (List Int)) : Nat → DataW Unit
  | 0 => .map []
  | k + 1 => (tabM L k).put (keyL (L[k]?.getD [])) (.lit (.int .i64 k))
theorem keyL_key (x : List Int) : WideAt.IsKeyLit (keyL x) := by unfold keyL; simp [WideAt.IsKeyLit]
theorem tabM_map (L : List (List Int)) : ∀ k, IsMap (tabM L k)
  | 0 => isMap_empty
  | k + 1 => (tabM_map L k).put _ _
theorem tabM_at {L : List (List Int)} (hL : ∀ x ∈ L, decodeM (encM x) = x) (z : DataW Unit) : ∀ k, k ≤ L.length → ∀ i, i < k → ∃ j : Nat, (tabM L k).atKey (keyL (L[i]?.getD [])) z = .lit (.int .i64 j) ∧ (j = i ↔ againM L i k = false)
  | 0, _, i, hi => by omega
  | k + 1, hk, i, hi => by
    by_cases hik : i = k
    · subst hik
      exact ⟨i, atKey_put_same (tabM_map L i) (keyL_key _) _ _, by simp [againM_start]⟩
    · have hs := againM_step (L := L) (i := i) (k := k) (by omega) (by omega)
      have hmi : L[i]?.getD [] ∈ L := by rw [List.getElem?_eq_getElem (by omega)]; exact List.getElem_mem _
      have hmk : L[k]?.getD [] ∈ L := by rw [List.getElem?_eq_getElem (by omega)]; exact List.getElem_mem _
      by_cases he : L[i]?.getD [] = L[k]?.getD []
      · refine ⟨k, ?_, ?_⟩
        · rw [he]; exact atKey_put_same (tabM_map L k) (keyL_key _) _ _
        · rw [hs, (sameB_iff _ _).2 he]; simp; omega
      · obtain ⟨j, h1, h2⟩ := tabM_at hL z k (by omega) i (by omega)
        refine ⟨j, ?_, ?_⟩
        · show ((tabM L k).put _ _).atKey _ z = _
          rw [atKey_put_other (fun e => he (keyL_inj (hL _ hmi) (hL _ hmk) e)), h1]
        · rw [hs, sameB_no he, Bool.or_false]; exact h2

theorem ownsMap_kp {H : Type} {P : Program} {k : TypeId} {R : Value → Option (DataW H × List MemPlace)} {w w' : World} {b n : Nat} {D : DataW H} (h : w.ownsMap P k R b n D) (hk : Kp w w') : w'.ownsMap P k R b n D := by
  have hlt := h.lt
  obtain ⟨es, clock, hb, F, hs, hD⟩ := h
  exact ⟨es, clock, (hk.block b hlt).trans hb, F, hs, hD⟩
theorem lawStr : Keyed Try.prog 9 := string_keyed Try.underlying9
theorem zeroInt (w : World) : (zeroValue 3).run Try.prog w = .ok (.int .i64 0) w := by kernel_rfl

set_option maxRecDepth 100000 in
set_option maxHeartbeats 3200000 in
theorem merge_any (a b : ByteArray) (ha : a.size ≤ 1000) (hb : b.size ≤ 1000) (w : World) :
    Calls Try.prog 37 #[.string a, .string b] w fun e w' => e = .returned (.tuple #[.string (bs (allM (keepM ((readF (by8 a)).1 ++ (readF (by8 b)).1) ((readF (by8 a)).1 ++ (readF (by8 b)).1).length))), .int .i64 0]) ∧ Kp w w' := by
  have HRA := Lib.hid fun wx => storeRead_any a (by omega) wx
  have HRB := Lib.hid fun wx => storeRead_any b (by omega) wx
  have hla := (readF_len _ (by8 a) (Nat.le_refl _)).2
  have hlb := (readF_len _ (by8 b) (Nat.le_refl _)).2
  have hka := (readF_len _ (by8 a) (Nat.le_refl _)).1
  have hkb := (readF_len _ (by8 b) (Nat.le_refl _)).1
  have hma := readF_mem _ (by8 a) (Nat.le_refl _)
  have hmb := readF_mem _ (by8 b) (Nat.le_refl _)
  obtain ⟨_, h2a, h3a⟩ := read_take _ (by8 a) (Nat.le_refl _)
  obtain ⟨_, h2b, h3b⟩ := read_take _ (by8 b) (Nat.le_refl _)
  rw [by8_length] at hla hlb hma hmb hka hkb
  obtain ⟨la, ela⟩ : ∃ la, la = (readF (by8 a)).1 := ⟨_, rfl⟩
  obtain ⟨lb, elb⟩ : ∃ lb, lb = (readF (by8 b)).1 := ⟨_, rfl⟩
  rw [← ela] at HRA hla hma h2a h3a ⊢
  rw [← elb] at HRB hlb hmb h2b h3b ⊢
  obtain ⟨ls, els⟩ : ∃ ls, ls = la ++ lb := ⟨_, rfl⟩
  have HLM : Hid (∀ x ∈ ls, x.length ≤ 1000) := fun x hx => by
    rw [els] at hx
    rcases List.mem_append.1 hx with hx | hx
    · exact Nat.le_trans (hma x hx) ha
    · exact Nat.le_trans (hmb x hx) hb
  have HDE : Hid (∀ x ∈ ls, decodeM (encM x) = x) := fun x hx => by
    rw [els] at hx
    rcases List.mem_append.1 hx with hx | hx
    · exact h3a x hx
    · exact h3b x hx
  have HTOT : Hid ((allM ls).length ≤ 2000) := by
    show _ ≤ _
    rw [els]
    have h : allM (la ++ lb) = allM la ++ allM lb := by unfold allM; rw [List.flatMap_append]
    rw [h, List.length_append]
    omega
  have hm2 : ls.length ≤ 2000 := by rw [els, List.length_append]; omega
  have HAB : Hid (la ++ lb = ls) := els.symm
  rw [← els]
  have HLA : Hid (la.length ≤ 1000) := by show _ ≤ _; omega
  have HLB : Hid (lb.length ≤ 1000) := by show _ ≤ _; omega
  clear ela elb hma hmb h2a h2b h3a h3b hka hkb els hla hlb
  generalize (readF (by8 a)).2 = pa at *
  generalize (readF (by8 b)).2 = pb at *
  obtain ⟨m, hm⟩ : ∃ m, m = ls.length := ⟨_, rfl⟩
  rw [← hm] at hm2 ⊢
  have HM := Lib.hid hm.symm
  clear hm
  have hmm := @run_makeMap Try.prog
  go_enter Try.func37, Try.ntmps37
  go_wp2_with fail
  refine (HRA.out w).mono ?_
  rintro e w2 ⟨A2, n2, c2, vs2, rfl, ho2, k2⟩
  go_wp2_with fail
  refine (HRB.out w2).mono ?_
  rintro e w3 ⟨A3, n3, c3, vs3, rfl, ho3, k3⟩
  have hn2 : n2 ≤ 1000 := by have := HLA.out; have := ho2.2.1; omega
  have hn3 : n3 ≤ 1000 := by have := HLB.out; have := ho3.2.1; omega
  have hz2 := k2.size
  have hz3 := k3.size
  have hol := ho2.1.lt
  have ho2' := ho2.kp k3
  have HL3 := Lib.hid ho3.2.1
  have h1b := ho3.one
  have hsl3 := ho3.1.sl
  have hsrc := Lib.hid (ho3.src (base := w.heap.size) (A' := A2) (Kp.refl _) (by omega) (fun g e => Or.inl (hol g e).2))
  have hown2 := ho2'.1
  have k23 := k2.trans k3
  clear ho2 ho3 k2 k3
  go_upto_region 4 with ((at_builtin; refine wpList_append_sl _ rfl (.tmp 26) (.tmp 27) _ rfl w.heap.size 23 _ 1 24 Try.underlying22 infoTx rfl (by omega) A2 n2 c2 vs2 rfl hown2 _ A3 n3 c3 vs3 rfl hsl3 h1b (by simp only [maxLen]; omega) (by omega) (by first | omega | (simp; omega)) ?_; intro A5 c5 w5 hown5 hg5 hat5))
  have ho5 := ho2'.apps HL3.out hsrc.out hown5 hg5 hat5
  rw [HAB.out] at ho5
  have kw5 : Kp w w5 := k23.grown hg5 fun g e => (hol g e).1
  obtain ⟨n5, hn5⟩ : ∃ n5, n5 = n2 + n3 := ⟨_, rfl⟩
  have hT5 := ho5.txs
  rw [← hn5] at hT5 ⊢
  obtain rfl : m = n5 := by have := hT5.len; have := HM.out; omega
  have hc5 := hT5.cap
  have hle5 := hT5.le
  unfold maxLen at hc5
  clear ho5 hown5 hg5 hat5 hown2 hsrc hsl3 h1b ho2' HL3 hol hn5 k23 hz3 hz2 HAB HLA HLB HRA HRB
  have HAE := Lib.hid fun k => againM_end ls k
  rw [HM.out] at HAE
  have HTAB := Lib.hid fun i hi => tabM_at HDE.out (.lit (.int .i64 0)) m (by rw [HM.out]; exact Nat.le_refl _) i hi
  clear HDE
  go_wp2_with fail
  go_loopg [32] m (fun g iv wr => ∃ (k : Nat), k + g = m ∧ iv = .int .i64 k ∧ wr.ownsMap Try.prog 9 (plainElem (H := Unit) Try.prog 3) w5.heap.size k (tabM ls k) ∧ Kp w5 wr)
  case atStart => exact ⟨0, by omega, rfl, World.ownsMap_made _ _ _ _, (Kp.refl _).alloc _⟩
  case round =>
    obtain ⟨k, hk, rfl, hom, kw⟩ := hrel
    by_cases hlt : k < m
    · obtain ⟨ad, B, q, d, rfl, hc, hr⟩ := (hT5.kp kw).get hlt
      have hlL : k < ls.length := by rw [HM.out]; exact hlt
      have hx1 : (ls[k]?.getD []).length ≤ 1000 := by rw [List.getElem?_eq_getElem hlL, Option.getD_some]; exact HLM.out _ (List.getElem_mem hlL)
      have HES := Lib.hid fun wx hk => escaped_any _ B q d (ls[k]?.getD []) wx (Sl.kp hr hk) (by rw [← hr.len]; omega)
      have hez : (bs (textM (ls[k]?.getD []))).size ≤ 10000 := by rw [bs_size]; have := textM_len (ls[k]?.getD []); omega
      have hkey := WideMaps.keyOf_string_mk (P := Try.prog) Try.underlying9 (s := bs (textM (ls[k]?.getD []))) (by unfold maxLen; omega)
      have HTS : Hid (tabM ls (k + 1) = (tabM ls k).put (.string (bs (textM (ls[k]?.getD []))).data.toList) (.lit (.int .i64 k))) := rfl
      have hwf : (Lit.int .i64 (k : Int)).wf = true := by simp [Lit.wf, IntKind.min, IntKind.max, IntKind.signed, IntKind.bits]; omega
      clear hr hx1
      generalize tabM ls k = D at *
      generalize bs (textM (ls[k]?.getD [])) = s2 at *
      go_wp2_with (first
        | (go_at_call 50; refine (HES.out _ (Kp.refl _)).mono ?_; rintro e w6 ⟨rfl, k6⟩; have hom6 := ownsMap_kp hom k6)
        | (at_mapUpdate; refine wpList_mapUpdate_own _ rfl _ _ _ 86 rfl 9 3 lawStr Try.underlying86 _ w5.heap.size k _ rfl hom6 (by unfold maxLen; omega) _ _ _ rfl rfl hkey _ [] (plainElem_int Try.underlying3 hwf) ?_; intro w7 hom7 hg7)
        | go_in)
      go_roundg (m - (k + 1))
      case measure => omega
      case rel => exact ⟨k + 1, by omega, by go_num, by rw [HTS.out]; exact hom7, (kw.trans k6).grown hg7 fun g e => by cases e; exact Nat.le_refl _⟩
    · obtain rfl : k = m := by omega
      rename World => w7
      have hT7 : Txs w7 (From w.heap.size) (To w7.heap.size) A5 k c5 ls := by
        obtain ⟨vs, h1, h2, h3⟩ := hT5.kp kw
        exact ⟨vs, h1, h2, fun k x hx => by
          obtain ⟨B, m, d, hv, hr⟩ := h3 k x hx
          exact ⟨B, m, d, hv, Sl.weak hr fun g hg _ => hg⟩⟩
      have kw7 := kw5.trans kw
      have HB7 := Lib.hid hom
      clear hT5 hom kw kw5
      go_wp2_with fail
      go_loopg [13, 44] k (fun g ov iv wr => ∃ (i : Nat) (A8 : Option Addr) (n8 c8 : Nat) (vs8 : List Value), i + g = k ∧ iv = .int .i64 i ∧ ov = .slice A8 n8 c8 ∧ OTx wr w7.heap.size (To w7.heap.size) A8 n8 c8 (keepM ls i) vs8 ∧ n8 ≤ i ∧ Kp w7 wr)
      case atStart => exact ⟨0, none, 0, 0, [], by omega, rfl, rfl, OTx.nil _ _ _, by omega, Kp.refl _⟩
      case round =>
        obtain ⟨i, A8, n8, c8, vs8, hi, rfl, rfl, ho8, hn8, kq⟩ := hrel
        by_cases hit : i < k
        · obtain ⟨ad, B, q, d, rfl, hc, hr⟩ := (hT7.kp kq).get hit
          have hlL : i < ls.length := by rw [HM.out]; exact hit
          have hx1 : (ls[i]?.getD []).length ≤ 1000 := by rw [List.getElem?_eq_getElem hlL, Option.getD_some]; exact HLM.out _ (List.getElem_mem hlL)
          have hES := escaped_any _ B q d (ls[i]?.getD []) wr hr (by rw [← hr.len]; omega)
          have HES := Lib.hid hES
          have hez : (bs (textM (ls[i]?.getD []))).size ≤ 10000 := by rw [bs_size]; have := textM_len (ls[i]?.getD []); omega
          have hkey := WideMaps.keyOf_string_mk (P := Try.prog) Try.underlying9 (s := bs (textM (ls[i]?.getD []))) (by unfold maxLen; omega)
          obtain ⟨j, hj1, hj2⟩ := HTAB.out i hit
          change (tabM ls k).atKey (.string (bs (textM (ls[i]?.getD []))).data.toList) _ = _ at hj1
          have HJ := Lib.hid hj1
          have hrw : Ru wr (fun g => To w7.heap.size g ∧ rowOf A8 ≠ some g) B q d (ls[i]?.getD []) := Sl.weak hr fun g _ hG => ⟨hG, fun e => by have := (ho8.1.lt g e).1; unfold To at hG; omega⟩
          have HEND := Lib.hid (HAE.out i)
          have HKH := Lib.hid fun h => keepM_hit (L := ls) (k := i) h
          have HKN := Lib.hid fun h => keepM_miss (L := ls) (k := i) h
          have hom8 := ownsMap_kp HB7.out kq
          have hol := ho8.1.lt
          have hzq := kq.size
          clear hr hx1 hj1 hES
          generalize bs (textM (ls[i]?.getD [])) = s2 at *
          generalize tabM ls k = D at *
          cases hag : againM ls i k with
          | true =>
            have HTS : Hid (keepM ls (i + 1) = keepM ls i) := HKH.out (HEND.out.1 hag)
            have hji : ¬ ((j : Int) = (i : Int)) := fun e => by
              have : j = i := by omega
              rw [hj2.1 this] at hag; cases hag
            clear hj2 hag
            go_wp2_with (first
              | (go_at_call 50; refine HES.out.mono ?_; rintro e w9 ⟨rfl, k9⟩; have hom9 := ownsMap_kp hom8 k9; have ho9 := ho8.kp k9)
              | (at_lookup; refine wpList_lookup_own_int _ rfl _ _ 86 rfl 9 3 .i64 lawStr Try.underlying86 Try.underlying3 (zeroInt _) w5.heap.size k _ rfl hom9 _ _ rfl hkey ?_; intro c hat hwc; obtain rfl : c = (j : Int) := (by have h := hat.symm.trans HJ.out; injection h with h; injection h))
              | go_in)
            go_roundg (k - (i + 1))
            case measure => omega
            case rel => exact ⟨i + 1, A8, n8, c8, vs8, by omega, by go_num, rfl, by rw [HTS.out]; exact ho9, by omega, kq.trans k9⟩
          | false =>
            have HTS : Hid (keepM ls (i + 1) = keepM ls i ++ [ls[i]?.getD []]) := HKN.out fun h => by rw [HEND.out.2 h] at hag; cases hag
            obtain rfl : j = i := hj2.2 hag
            clear hj2 hag
            go_wp2_with (first
              | (go_at_call 50; refine HES.out.mono ?_; rintro e w9 ⟨rfl, k9⟩; have hom9 := ownsMap_kp hom8 k9; have ho9 := ho8.kp k9; have hz9 : w7.heap.size ≤ w9.heap.size := Nat.le_trans hzq k9.size)
              | (at_lookup; refine wpList_lookup_own_int _ rfl _ _ 86 rfl 9 3 .i64 lawStr Try.underlying86 Try.underlying3 (zeroInt _) w5.heap.size k _ rfl hom9 _ _ rfl hkey ?_; intro c hat hwc; obtain rfl : c = (j : Int) := (by have h := hat.symm.trans HJ.out; injection h with h; injection h))
              | (at_builtin; refine wpList_append_sl _ rfl (.tmp 55) (.tmp 57) _ rfl w7.heap.size 23 _ 1 24 Try.underlying22 infoTx rfl (by omega) A8 n8 c8 vs8 rfl (ho9.1.alloc _) Any _ 1 1 [.slice B q d] rfl (Sl.new _ _ _ _ _ trivial rfl (by omega)) (by simp [Value.oneCell']) (by simp only [maxLen]; omega) (by omega) (by first | omega | (simp; omega)) ?_; intro A9 c9 w10 hown10 hg10 hat10)
              | go_in)
            have ka := (Kp.refl w9).alloc (.cells #[.slice B q d] 23)
            have ho10 := (ho9.kp ka).app (Sl.kp (Sl.kp hrw k9) ka) hown10 hg10 hat10
            go_roundg (k - (j + 1))
            case measure => omega
            case rel => exact ⟨j + 1, A9, n8 + 1, c9, _, by omega, by go_num, rfl, by rw [HTS.out]; exact ho10, by omega, ((kq.trans k9).trans ka).grown hg10 fun g e => (hol g e).1⟩
        · obtain rfl : i = k := by omega
          have hkl := keepM_len ls i (by rw [HM.out]; exact Nat.le_refl _)
          have HALL := Lib.hid (all_any _ _ A8 n8 c8 (keepM ls i) wr ho8.txs (fun x hx => by have := HLM.out x (hkl.2.2 x hx); omega) (by
            have h1 := hkl.1
            have h2 := allM_take_len ls i
            have h3 := HTOT.out
            omega))
          clear hkl ho8
          go_wp2_with (go_at_call 35; refine HALL.out.mono ?_; rintro e w9 ⟨rfl, k9⟩)
          go_ret2
          exact ⟨rfl, (kw7.trans kq).trans k9⟩
end Go.Proofs.Ytcbachblhfkcoaa
