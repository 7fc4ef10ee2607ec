/-
  Package trie at int: plain: the place of a block of one value, as TrieM has it. Conditions: the maker is whole; not more than 10000 blocks.
-/
import Derived.Test.YtakbfppmgngdiaaTriePlaceI
import Derived.Maps.OwnOps
namespace Go.Proofs.Ytakbfppmgngdiaa
open Go.RowKit Go.Maps

theorem valKeyI (v : Int) (_hv : wfI v) : ∃ kl, keyOf Try.prog 3 ((Value.int .i64) v) = some kl := by
  unfold wfI at _hv
  exact ⟨Lit.int .i64 v, by simp [keyOf, mapKey, Try.underlying3, _hv]⟩

/-- A box of 128 cells, of which the first i are v. -/
def RowI (w : World) (b i : Nat) (v : Int) : Prop := ∃ cs : List Value, Bx w b cs.toArray 119 ∧ cs.length = 128 ∧ cs.take i = List.replicate i ((Value.int .i64) v)

set_option maxRecDepth 100000 in
set_option maxHeartbeats 1600000 in
theorem plainI (n base tB mB kB eB : Nat) (size : Int) (I : Value) (A : Option Addr) (c : Nat) (bs : List (List Int)) (v : Int) (w : World) (hv : wfI v)
    (h : TrAtI w n base tB mB kB eB size I A c bs) (hn : n ≤ 9999) (hl : bs.length ≤ 9999) :
    Calls Try.prog 68 #[.pointer (some ⟨mB, 0, none⟩), (Value.int .i64) v] w (RetPlI w (n + 2) base tB mB kB eB size I A (addB bs (List.replicate 128 v)) (atB (addB bs (List.replicate 128 v)) (List.replicate 128 v))) := by
  obtain ⟨rep, hrep⟩ : ∃ rep, rep = List.replicate 128 v := ⟨_, rfl⟩
  rw [← hrep]
  obtain ⟨kl, hkl⟩ := valKeyI v hv
  obtain ⟨D, hown, hD⟩ := h.even
  have hbase := h.lt
  have hne := h.ne
  obtain ⟨m0, m1, m2, _, _, _⟩ := h.mb.three
  rcases hD v hv kl hkl with ⟨hh, hc⟩ | ⟨hh, hin, hc⟩
  · have hrl : rep.length = 128 := by rw [hrep]; simp
    have HRL := Lib.hid hrl
    have HREP := Lib.hid hrep
    clear hrl hrep
    have HD := Lib.hid hD
    have H := Lib.hid h
    have HO := Lib.hid hown
    have hlk := look_run valKI Try.underlying154 Try.underlying3 rfl hown hkl hc hh
    clear hD h hown
    go_enter Try.func68, Try.ntmps68
    go_wp2_with fail
    go_loopg [20] 128 (fun g iv wr => ∃ k : Nat, k + g = 128 ∧ iv = .int .i64 k ∧ RowI wr w.heap.size k v ∧ Kp w wr)
    case atStart =>
      refine ⟨0, rfl, rfl, ⟨(Try.zeroCells119).toList, ?_, ?_, rfl⟩, (Kp.refl _).alloc _⟩
      · exact Bx.new w _ _
      · kernel_rfl
    case round =>
      obtain ⟨k, hk, rfl, ⟨cs, hb, hcl, hct⟩, kp⟩ := hrel
      by_cases hlt : k < 128
      · have hcu : wr.cell? ⟨w.heap.size, k, none⟩ = some (cs[k]'(by omega)) := by rw [hb.cell k]; simp
        have hfz := hb.frozen k
        have hk0 : (0 : Int) ≤ (k : Int) := by omega
        have hk1 : (k : Int) < 128 := by omega
        go_wp2_with fail
        go_roundg (128 - (k + 1))
        case measure => omega
        case rel =>
          refine ⟨k + 1, by omega, by go_num, ⟨cs.set k ((Value.int .i64) v), ?_, by simpa using hcl, ?_⟩, ?_⟩
          · have := hb.set k ((Value.int .i64) v)
            rwa [List.setIfInBounds_toArray] at this
          · have hl2 : k + 1 ≤ (cs.set k ((Value.int .i64) v)).length := by simp; omega
            rw [List.replicate_succ', ← hct, List.take_add_one, List.take_set_of_le (Nat.le_refl k)]
            simp [hcl, hlt]
          · exact kp.setCell (p := ⟨w.heap.size, k, none⟩) (Nat.le_refl _) _
      · have hkk : k = 128 := by omega
        subst hkk
        have hcs : cs = rep.map (Value.int .i64) := by rw [List.take_of_length_le (by omega)] at hct; rw [hct, HREP.out]; simp
        subst hcs
        clear hlt hct
        have hrg := hb.range
        have hU := Try.underlying119
        have hI : (Try.prog.info? 119).map (·.size) = some (rep.map (Value.int .i64)).length := by rw [hcl]; kernel_rfl
        have hT := H.out.kp kp
        have HI := Lib.hid hI
        have HU := Lib.hid hU
        clear hI hU m0 m1 m2 hlk hcl hb
        go_upto_region 10 with (first
          | (refine wpList_load_mid (by rfl) 119 (.tmp 7) (by rfl) w.heap.size 0 (by rfl) (rep.map (Value.int .i64)) _ hrg HU.out rfl HI.out ?_)
          | (go_at_call 69
             refine (placeI n base tB mB kB eB size I A c bs rep wr HRL.out (fun x hx => by rw [HREP.out] at hx; rw [List.eq_of_mem_replicate hx]; exact hv) hT (by omega) (by omega)).mono ?_
             rintro e w2 ⟨A2, c2, rfl, hT2, hf2, hr2⟩))
        obtain ⟨m0, m1, m2, _, _, _⟩ := hT2.mb.three
        obtain ⟨D2, ho2, hD2⟩ := hT2.even
        have hal := addB_length_le bs rep
        have hat := atB_lt (addB_mem bs rep)
        obtain ⟨w3, hput, hown3, hg3⟩ := World.ownsMap.update ho2 valKI Try.underlying154 (by unfold maxLen; omega) hkl (plainElem_int Try.underlying3 (a := (atB (addB bs rep) rep : Int)) (wfI64 (by omega) (by omega)))
        have he3 : Eve Try.prog 3 3 (Value.int .i64) wfI w3 eB (n + 1 + 1) (addB bs rep) := by
          have := HREP.out
          subst this
          exact eve_put valKI injI ho2 hD2 (addB_mem _ _) hkl hown3
        have HE3 := Lib.hid he3
        have HG3 := Lib.hid hg3
        have HT2 := Lib.hid hT2
        clear ho2 hD2 hown3 he3 hg3 hT2 hT hrg
        go_wp2_with fail
        go_ret
        have f3 : FrX (fun k => k = eB) w2 w3 := .of_grown HG3.out fun k hk _ => by cases hk; rfl
        refine ⟨A2, c2, rfl, HT2.out.even_put f3 HE3.out (by omega), ?_, fun k hk => (hr2 k hk).imp id fun h => by have := kp.size; omega⟩
        exact ((FrX.of_kp kp).trans hf2 fun _ _ h => h).trans f3 fun k _ h => .inr (.inr (.inl h))
  · rw [← hrep] at hin hc
    have hadd : addB bs rep = bs := if_pos hin
    clear hrep
    rw [hadd]
    have H := Lib.hid h
    have hlk := look_run valKI Try.underlying154 Try.underlying3 rfl hown hkl hc hh
    clear hD h hown
    go_enter Try.func68, Try.ntmps68
    go_wp2_with fail
    go_ret
    exact ⟨A, c, rfl, H.out.mono (by omega), .refl _, fun k hk => .inl hk⟩
end Go.Proofs.Ytakbfppmgngdiaa
