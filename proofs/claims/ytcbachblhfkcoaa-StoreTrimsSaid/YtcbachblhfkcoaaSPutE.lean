/-
  package utf: Encode; typebarref01.Encode: the bytes of scalars. Conditions: the slice can be read, and is not longer than 10^6.
-/
import Derived.Test.YtcbachblhfkcoaaSPutP
namespace Go.Proofs.Ytcbachblhfkcoaa
open Go.RowKit

theorem encM_take {l : List Int} {k : Nat} {x : Int} (h : l[k]? = some x) : encM (l.take (k + 1)) = encM (l.take k) ++ putM x := by
  rw [List.take_add_one, h, Option.toList_some, encM_snoc]
theorem encM_take_len (l : List Int) (k : Nat) : (encM (l.take k)).length ≤ 4 * k := by
  have h1 := encM_len (l.take k)
  have h2 : (l.take k).length ≤ k := by rw [List.length_take]; omega
  omega

set_option maxRecDepth 100000 in
set_option maxHeartbeats 1600000 in
theorem encode_any (B : Option Addr) (n d : Nat) (l : List Int) (w : World) (hl : Ru w Any B n d l) (hn : n ≤ 1000000) : Calls Try.prog 86 #[.slice B n d] w fun e w' => e = .returned (.string (bs (encM l))) ∧ Kp w w' := by
  have hle := hl.le
  have hcap := hl.cap
  unfold maxLen at hcap
  have HLEN := Lib.hid hl.len
  go_enter Try.func86, Try.ntmps86
  go_wp2_with fail
  go_loopg [3, 5, 8] n (fun g v3 v5 i wr => ∃ (k : Nat) (A : Option Addr) (m c : Nat), k + g = n ∧ i = .int .i64 k ∧ v3 = .slice A m c ∧ Own wr w.heap.size 5 1 A m c (u8s (encM (l.take k))) ∧ Kp w wr)
  case atStart => exact ⟨0, none, 0, 0, by omega, rfl, rfl, Own.nil _ _ _ _, Kp.refl _⟩
  case round =>
    obtain ⟨k, A, m, c, hk, rfl, rfl, ho, kw⟩ := hrel
    have hm : m = (encM (l.take k)).length := by have := ho.len; simp [u8s] at this; omega
    have hml : m ≤ 4 * k := by rw [hm]; exact encM_take_len l k
    clear hm
    by_cases hlt : k < n
    · obtain ⟨x, hx⟩ : ∃ x, l[k]? = some x := ⟨l[k]'(by rw [HLEN.out]; exact hlt), List.getElem?_eq_getElem _⟩
      obtain ⟨ad, rfl, hc⟩ := Ru.get (hl.kp kw) hlt
      have HT := Lib.hid (encM_take hx)
      rw [hx] at hc
      dsimp only [Option.getD_some] at hc
      clear hx
      have hpl := putM_len x
      have HST := Lib.hid (strCells_bs (l := putM x) (putM_bd x))
      have hps := bs_size (putM x)
      obtain ⟨pl, hpd⟩ : ∃ pl, pl = (putM x).length := ⟨_, rfl⟩
      rw [← hpd] at hpl hps
      have HPD := Lib.hid hpd
      clear hpd
      have hbd : m + (bs (putM x)).size ≤ 140737488355328 := by rw [hps]; omega
      go_wp2_with fail
      refine (put_any x wr).mono ?_
      rintro e w2 ⟨rfl, k2⟩
      have ho2 := ho.kp k2
      have kw2 := kw.trans k2
      have hz2 := kw2.size
      clear hc ho kw k2
      have HPS := Lib.hid hps
      clear hps
      go_wp2_with (at_builtin; refine wpList_append_str _ rfl _ _ _ _ rfl w.heap.size 5 Try.underlying61 Try.underlying9 infoU8 A m c (u8s (encM (l.take k))) rfl ho2 (bs (putM x)) rfl hbd hz2 ?_; intro A3 c3 w3 hown3 hg3)
      rw [HST.out] at hown3
      have e1 : u8s (encM (l.take k)) ++ u8s (putM x) = u8s (encM (l.take (k + 1))) := by rw [HT.out]; simp [u8s]
      rw [e1] at hown3
      have kw3 := kw2.grown hg3 (fun g h => (ho2.lt g h).1)
      go_roundg (n - (k + 1))
      case measure => omega
      case rel => exact ⟨k + 1, A3, _, c3, by omega, by go_num, rfl, hown3, kw3⟩
    · obtain rfl : k = n := by omega
      have hta : l.take k = l := List.take_of_length_le (by rw [HLEN.out]; omega)
      rw [hta] at ho
      have hcv := conv_sl (P := Try.prog) wr 61 9 5 Try.underlying61 Try.underlying5 Try.underlying9 ho.sl (encM_bd l)
      clear ho hta
      go_wp2_with fail
      go_ret
      exact ⟨rfl, kw⟩
end Go.Proofs.Ytcbachblhfkcoaa
