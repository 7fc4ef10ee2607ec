/-
  Strings as lists of bytes: string(b) of a slice of bytes, append of a string's bytes. No conditions: plain lemmas.
-/
import Derived.Test.YtmeefngkbcfpeaaWords2
import Derived.Laws.IdiomStrings
import Derived.Laws.Concat
import Derived.Lib.AppendStr
import Derived.Lib.BufferRead
namespace Go.Proofs.Ytmeefngkbcfpeaa
open Go.RowKit

def u8of (b : Int) : UInt8 := UInt8.ofNat b.toNat
/-- The string of bytes. -/
def bs (l : List Int) : ByteArray := ⟨(l.map u8of).toArray⟩
def u8s (xs : List Int) : List Value := xs.map (Value.int .u8)
/-- All are bytes. -/
def isB (l : List Int) : Prop := ∀ b ∈ l, 0 ≤ b ∧ b ≤ 255
theorem isB_nil : isB [] := by intro b hb; cases hb
theorem isB_app {l m : List Int} (h : isB l) (k : isB m) : isB (l ++ m) := by
  intro b hb
  rcases List.mem_append.1 hb with h1 | h1
  · exact h b h1
  · exact k b h1
theorem u8of_toNat {b : Int} (h : 0 ≤ b ∧ b ≤ 255) : ((u8of b).toNat : Int) = b := by
  unfold u8of
  rw [UInt8.toNat_ofNat']
  omega
theorem bs_size (l : List Int) : (bs l).size = l.length := by
  show (l.map u8of).toArray.size = _
  simp
theorem bs_app (l m : List Int) : bs (l ++ m) = bs l ++ bs m := by
  unfold bs
  rw [List.map_append, ByteArray.mk_append_mk]
theorem bs_nil : bs [] = ⟨#[]⟩ := rfl
theorem strCells_bs {l : List Int} (h : isB l) : Lib.strCells (bs l) = u8s l := by
  unfold Lib.strCells bs u8s
  simp only [List.map_map]
  refine List.map_congr_left fun b hb => ?_
  simp only [Function.comp]
  rw [u8of_toNat (h b hb)]

theorem conv_sl {P : Program} (w : World) (src dst e : TypeId) (hs : P.underlying src = some (.slice e)) (he : P.underlying e = some (.int .u8)) (hd : P.underlying dst = some .string) {F : Nat → Prop} {A : Option Addr} {n c : Nat} {l : List Int}
    (h : Sl w F 1 A n c (u8s l)) (hb : isB l) : (convert src dst (.slice A n c)).run P w = .ok (.string (bs l)) w := by
  have hn : l.length = n := by have := h.len; simp [u8s] at this; exact this
  rcases Nat.eq_zero_or_pos n with h0 | h0
  · subst h0
    have hl : l = [] := List.eq_nil_of_length_eq_zero hn
    subst hl
    cases A with
    | none => exact Lib.run_convert_nil_bytes w src dst e c hs he hd
    | some a => exact run_convert_bytes_back w src dst e a c [] hs he hd (fun j hj => absurd hj (by simp))
  · obtain ⟨ad, rfl, _, _, hc⟩ := h.at_ h0
    have h1 := run_convert_bytes_back (P := P) w src dst e ad c (l.map u8of) hs he hd (fun j hj => by
      have hj' : j < l.length := by simpa using hj
      rw [hc j (.int .u8 l[j]) (by simp [u8s, List.getElem?_eq_getElem hj'])]
      simp only [List.getElem_map]
      rw [u8of_toNat (hb _ (List.getElem_mem hj'))])
    rw [List.length_map, hn] at h1
    exact h1

section
variable {P : Program} (w : World)
theorem run_append_str (base : Nat) (t u ty e : TypeId) (ht : P.underlying t = some (.slice e)) (hu : P.underlying u = some .string) (hI : (P.info? e).map (fun i => (i.zero, i.size, i.bytes)) = some (some (.int .u8 0), 1, 1))
    (A : Option Addr) (n c : Nat) (xs : List Value) (hown : Own w base e 1 A n c xs) (s : ByteArray)
    (h63 : n + s.size ≤ 140737488355328) (hbase : base ≤ w.heap.size) :
    ∃ A' c' w', (Builtin.append_ #[t, u] ty #[.slice A n c, .string s]).run P w = .ok (.slice A' (n + s.size) c') w' ∧ Own w' base e 1 A' (n + s.size) c' (xs ++ Lib.strCells s) ∧ w.grownBy w' (rowOf A) := by
  obtain ⟨i, hi, hz, hsize, hby⟩ := info_parts hI
  obtain ⟨v', w', h1, h2, h3, _⟩ := Lib.run_append_own_string (P := P) w base t u ty e i ht hu hi hz hsize hby (.slice A n c) n xs hown s (by unfold maxLen; omega) h63 hbase
  have hform : ∃ A' c', v' = .slice A' (n + s.size) c' := by
    rcases h2.2 with ⟨rfl, h0⟩ | ⟨g, cap, cur, rfl, _⟩
    · exact ⟨none, 0, by rw [h0]⟩
    · exact ⟨_, _, rfl⟩
  obtain ⟨A', c', rfl⟩ := hform
  exact ⟨A', c', w', h1, h2, by rw [← rowOf_own hown]; exact h3⟩
theorem wpList_append_str {ops : Array Oper} {rest : List Oper} {o : Oper} {a : Act} {Q : Exit → Act → World → Prop} (hgd : o.guard = none) (s x : Operand) (t u : TypeId)
    (ho : o.op = .call { callee := .builtin .append, args := #[s, x], argTypes := #[t, u] })
    (base : Nat) (e : TypeId) (ht : P.underlying t = some (.slice e)) (hu : P.underlying u = some .string) (hI : (P.info? e).map (fun i => (i.zero, i.size, i.bytes)) = some (some (.int .u8 0), 1, 1))
    (A : Option Addr) (n c : Nat) (xs : List Value) (hs : a.eval s = .slice A n c) (hown : Own w base e 1 A n c xs) (y : ByteArray) (hx : a.eval x = .string y)
    (h63 : n + y.size ≤ 140737488355328) (hbase : base ≤ w.heap.size)
    (h : ∀ A' c' w', Own w' base e 1 A' (n + y.size) c' (xs ++ Lib.strCells y) → w.grownBy w' (rowOf A) → wpList P ops Q rest (a.put o.dst (.slice A' (n + y.size) c')) w') :
    wpList P ops Q (o :: rest) a w :=
  wpList_plain hgd fun _ hK => by
    obtain ⟨A', c', w', hrun, h2, h3⟩ := run_append_str (P := P) w base t u o.type e ht hu hI A n c xs hown y h63 hbase
    unfold Oper.wp execOp
    simp only [ho, resolve, invoke, builtin, Sem.run_bind, Sem.run_pure, Result.andThen_ok, List.map_toArray, List.map_cons, List.map_nil, hs, hx, hrun]
    exact hK _ _ (h A' c' w' h2 h3)
end
end Go.Proofs.Ytmeefngkbcfpeaa
