/-
  Package trie at int: place: the place of a block, as TrieM has it. Conditions: the maker is whole; not more than 10000 blocks.
-/
import Derived.Test.YtakbfppmgngdiaaTrieX
import Derived.Test.YtakbfppmgngdiaaAnyT
namespace Go.Proofs.Ytakbfppmgngdiaa
open Go.RowKit Go.Maps

/-- A value. -/
def wfI : Int → Prop := fun _x => (Lit.int .i64 _x).wf = true
theorem laidI : laidOutB Try.prog = true := by kernel_rfl
theorem arrKI : Keyed Try.prog 119 := Keyed.of_law (deep_law_laid laidI (m := 2) (by omega) (of_decide_eq_true (by kernel_rfl)) (by kernel_rfl) (by kernel_rfl))
theorem valKI : Keyed Try.prog 3 := int_keyed Try.underlying3
theorem injI : ∀ x y : Int, (Value.int .i64) x = (Value.int .i64) y → x = y := fun x y h => by injection h
theorem arrKeyI (b : List Int) (hb : b.length = 128) (hw : ∀ x ∈ b, wfI x) : ∃ kl, keyOf Try.prog 119 (.agg (b.map (Value.int .i64)).toArray) = some kl :=
  ⟨_, keyOf_arr (lit := Lit.int .i64) Try.underlying119 (by kernel_rfl) (by kernel_rfl) (by kernel_rfl) ⟨_, rfl⟩ b hb fun d x hx => by
    have := hw x hx
    unfold wfI at this
    simp [Program.keyLits, Try.underlying3, this]⟩
theorem infoArrI : (Try.prog.info? 119).map (fun i => (i.zero, i.size, i.bytes)) = some (some (.agg (Array.replicate 128 (.int .i64 0))), 128, 1024) := by kernel_rfl
def TyI : TrTy := ⟨118, 156, 119, 3, 3⟩
theorem encOneI (b : List Int) : ∀ u ∈ b.map (Value.int .i64), u.oneCell' = true := by
  intro u hu
  obtain ⟨x, _, rfl⟩ := List.mem_map.1 hu
  rfl

abbrev TrAtI := TrB Try.prog TyI (Value.int .i64) wfI

/-- What place and plain leave. -/
def RetPlI (w : World) (n base tB mB kB eB : Nat) (size : Int) (I : Value) (A : Option Addr) (bs : List (List Int)) (k : Nat) (e : Ending) (w' : World) : Prop :=
  ∃ A' c', e = .returned (.int .i64 (k : Int)) ∧ TrAtI w' n base tB mB kB eB size I A' c' bs ∧ FrX (TrOwn tB kB eB A) w w' ∧ ∀ k, rowOf A' = some k → rowOf A = some k ∨ w.heap.size ≤ k

set_option maxRecDepth 100000 in
set_option maxHeartbeats 1600000 in
theorem placeI (n base tB mB kB eB : Nat) (size : Int) (I : Value) (A : Option Addr) (c : Nat) (bs : List (List Int)) (b : List Int) (w : World) (hb : b.length = 128) (hw : ∀ x ∈ b, wfI x)
    (h : TrAtI w n base tB mB kB eB size I A c bs) (hn : n ≤ 10000) (hl : bs.length ≤ 10000) :
    Calls Try.prog 69 #[.pointer (some ⟨mB, 0, none⟩), .agg (b.map (Value.int .i64)).toArray] w (RetPlI w (n + 1) base tB mB kB eB size I A (addB bs b) (atB (addB bs b) b)) := by
  obtain ⟨kl, hkl⟩ := arrKeyI b hb hw
  obtain ⟨D, hown, hD⟩ := h.known
  obtain ⟨hh, hc⟩ := hD b hb hw kl hkl
  have HD := Lib.hid hD
  have HW := Lib.hid hw
  clear hD hw
  have kp1 : Kp w (w.alloc (.cells (b.map (Value.int .i64)).toArray 119)) := (Kp.refl w).alloc _
  have h1 := h.kp kp1
  have bx1 := Bx.new w (b.map (Value.int .i64)).toArray 119
  have hown1 := hown.alloc (.cells (b.map (Value.int .i64)).toArray 119)
  have hbase := h.lt
  have hne := h.ne
  have hU := Try.underlying119
  have hI : (Try.prog.info? 119).map (·.size) = some (b.map (Value.int .i64)).length := by rw [List.length_map, hb]; kernel_rfl
  by_cases hin : b ∈ bs
  · rw [if_pos hin] at hc
    rw [decide_eq_true hin] at hh
    have hadd : addB bs b = bs := if_pos hin
    rw [hadd]
    obtain ⟨m0, m1, m2, _, _, _⟩ := h1.mb.three
    have rg1 := bx1.range
    have H1 := Lib.hid h1
    clear h h1 bx1
    have hlk := look_run arrKI Try.underlying153 Try.underlying3 rfl hown1.drew hkl hc hh
    go_enter Try.func69, Try.ntmps69
    go_upto_region 1 with fail
    go_region_held3 (fun w' => w'.cell? ⟨mB, 1, none⟩ = some (.map (some kB)) ∧ w'.rangeAt w.heap.size 0 (b.map (Value.int .i64))) (first | (with_reducible exact ⟨m1, rg1⟩) | go_keep) (fail)
    clear hU hI
    go_wp2_with fail
    go_ret
    exact ⟨A, c, rfl, (H1.out.kp (Kp.refl _).drew).mono (Nat.le_succ _), .of_kp kp1.drew, fun k hk => .inl hk⟩
  · rw [if_neg hin] at hc
    rw [decide_eq_false hin] at hh
    have hadd : addB bs b = bs ++ [b] := if_neg hin
    rw [atB_new hin]
    have hn1 := hown1.drew
    obtain ⟨w2, hput, hown2, hg2⟩ := World.ownsMap.update hown1.drew.drew arrKI Try.underlying153 (by unfold maxLen; omega) hkl (plainElem_int Try.underlying3 (a := (bs.length : Int)) (by simp [Lit.wf, IntKind.min, IntKind.max, IntKind.signed, IntKind.bits]; omega))
    have fr2 : FrX (fun k => k = kB) w w2 := (FrX.of_kp kp1.drew.drew).trans (.of_grown hg2 fun k hk _ => by cases hk; rfl) fun _ _ h => h
    have kno2 : Kno Try.prog 119 3 (Value.int .i64) wfI w2 kB (n + 1) (addB bs b) := kno_put arrKI injI hown HD.out hin hkl hown2
    have tb2 := fr2.bx h.tb hne.2.1.symm
    have mb2 := fr2.bx h.mb hne.2.2.1.symm
    have bx2 := (FrX.of_grown (X := fun k => k = kB) hg2 fun k hk _ => by cases hk; rfl).bx bx1.drew.drew (by show ¬ w.heap.size = kB; omega)
    have ev2 := (h.even.frame fr2 hne.2.2.2.2.2.symm).add b
    have row2 := fr2.own h.row fun k hk e => by have := h.row.lt k hk; omega
    have hz2 := fr2.size
    have hz2' : w.heap.size < w2.heap.size := bx2.lt
    have kp2 : ∀ w0, Kp w0 w → w0.heap.size ≤ kB → Kp w0 w2 := fun w0 k hk => fr2.kp k fun b hb => by rw [hb]; exact hk
    obtain ⟨m0, m1, m2, _, _, _⟩ := h1.mb.three
    obtain ⟨t0, t1, t2, _, _, _⟩ := h1.tb.three
    have rg1 := bx1.range
    obtain ⟨m0', m1', m2', _, _, _⟩ := mb2.three
    obtain ⟨t0', t1', t2', _, _, t5'⟩ := tb2.three
    have rg1' := bx2.range
    have mb3 := mb2.drew.alloc (.cells (b.map (Value.int .i64)).toArray 119)
    have tb3 := tb2.drew.alloc (.cells (b.map (Value.int .i64)).toArray 119)
    have bx3 := bx2.drew.alloc (.cells (b.map (Value.int .i64)).toArray 119)
    have row3 := row2.drew.alloc (.cells (b.map (Value.int .i64)).toArray 119)
    have m0'' := mb3.three.1
    have t2'' := tb3.three.2.2.1
    have t5'' := tb3.three.2.2.2.2.2
    have rg1'' := bx3.range
    have hlk := look_run arrKI Try.underlying153 Try.underlying3 rfl hown1.drew hkl hc hh
    have HB := Lib.hid mb3
    have HT := Lib.hid tb3
    have HX := Lib.hid bx3
    have HROW := Lib.hid row3
    have HK2 := Lib.hid kno2
    have HE2 := Lib.hid ev2
    have HKP := Lib.hid kp2
    have HF := Lib.hid fr2
    have HLT : Hid (∀ k, rowOf A = some k → base ≤ k ∧ k < w.heap.size) := h.row.lt
    clear h h1 bx1 mb2 tb2 bx2 mb3 tb3 bx3 row2 row3 hown hown1 hown2 kno2 ev2 kp2 fr2 hg2 hn1
    go_enter Try.func69, Try.ntmps69
    go_upto_region 1 with fail
    go_region_held3 (fun w' => w'.cell? ⟨mB, 1, none⟩ = some (.map (some kB)) ∧ w'.rangeAt w.heap.size 0 (b.map (Value.int .i64))) (first | (with_reducible exact ⟨m1, rg1⟩) | go_keep) (fail)
    go_upto_region 4 with fail
    go_region_held3 (fun w' => w'.cell? ⟨mB, 1, none⟩ = some (.map (some kB)) ∧ w'.rangeAt w.heap.size 0 (b.map (Value.int .i64))) (first | (with_reducible exact ⟨m1, rg1⟩) | (with_reducible exact ⟨m1', rg1'⟩) | go_keep) (fail)
    go_upto_region 5 with fail
    clear rg1 hlk hput hh hc
    have hS : w2.drew.cell? ⟨mB, 0, none⟩ = some (.pointer (some ⟨tB, 0, none⟩)) ∧ w2.drew.cell? ⟨tB, 2, none⟩ = some (.slice A bs.length c) ∧ w2.drew.rangeAt w.heap.size 0 (b.map (Value.int .i64)) := ⟨m0', t2', rg1'⟩
    refine wp_region_noPanic ?_
    refine wp_region_T (fun w' => w'.cell? ⟨mB, 0, none⟩ = some (.pointer (some ⟨tB, 0, none⟩)) ∧ w'.cell? ⟨tB, 2, none⟩ = some (.slice A bs.length c) ∧ w'.rangeAt w.heap.size 0 (b.map (Value.int .i64))) 16 (by kernel_rfl) (by kernel_rfl) fun inv => ?_
    refine wpAnyT_take (i := 0) (v := ?v1) inv (by simp only [List.getElem?_toArray, List.getElem?_cons_zero]; rfl) (by decide) (by kernel_rfl) (by kernel_rfl) ?hQ1 hS ?hy1 (fun inv => ?rest1)
    case hy1 =>
      refine yields_mk (by rfl) fun wy hy => ?_
      obtain ⟨y0, y1, y2⟩ := hy
      go_simp
      try with_reducible rfl
    case hQ1 => exact fun _ _ _ h => h
    simp only [Act.put, List.setIfInBounds_toArray, List.set_cons_zero, List.set_cons_succ]
    refine wpAnyT_take (i := 1) (v := ?v2) inv (by simp only [List.getElem?_toArray, List.getElem?_cons_succ, List.getElem?_cons_zero]; rfl) (by decide) (by kernel_rfl) (by kernel_rfl) ?hQ2 hS ?hy2 (fun inv => ?rest2)
    case hy2 =>
      refine yields_mk (by rfl) fun wy hy => ?_
      obtain ⟨y0, y1, y2⟩ := hy
      go_simp
      try with_reducible rfl
    case hQ2 => exact fun _ _ _ h => h
    simp only [Act.put, List.setIfInBounds_toArray, List.set_cons_zero, List.set_cons_succ]
    refine wpAnyT_take (i := 2) (v := ?v3) inv (by simp only [List.getElem?_toArray, List.getElem?_cons_succ, List.getElem?_cons_zero]; rfl) (by decide) (by kernel_rfl) (by kernel_rfl) ?hQ3 hS ?hy3 (fun inv => ?rest3)
    case hy3 =>
      refine yields_mk (by rfl) fun wy hy => ?_
      obtain ⟨y0, y1, y2⟩ := hy
      go_simp
      try with_reducible rfl
    case hQ3 => exact fun _ _ _ h => h
    simp only [Act.put, List.setIfInBounds_toArray, List.set_cons_zero, List.set_cons_succ]
    refine wpAnyT_take (i := 3) (v := ?v4) inv (by simp only [List.getElem?_toArray, List.getElem?_cons_succ, List.getElem?_cons_zero]; rfl) (by decide) (by kernel_rfl) (by kernel_rfl) ?hQ4 hS ?hy4 (fun inv => ?rest4)
    case hy4 =>
      refine yields_mk (by rfl) fun wy hy => ?_
      obtain ⟨y0, y1, y2⟩ := hy
      go_simp
      try with_reducible rfl
    case hQ4 => exact fun _ _ _ h => h
    simp only [Act.put, List.setIfInBounds_toArray, List.set_cons_zero, List.set_cons_succ]
    refine wpAnyT_take (i := 4) (v := ?v5) inv (by simp only [List.getElem?_toArray, List.getElem?_cons_succ, List.getElem?_cons_zero]; rfl) (by decide) (by kernel_rfl) (by kernel_rfl) ?hQ5 hS ?hy5 (fun inv => ?rest5)
    case hy5 =>
      refine yields_mk (by rfl) fun wy hy => ?_
      obtain ⟨y0, y1, y2⟩ := hy
      go_simp
      try with_reducible rfl
    case hQ5 => exact fun _ _ _ h => h
    simp only [Act.put, List.setIfInBounds_toArray, List.set_cons_zero, List.set_cons_succ]
    refine wpAnyT_take (i := 5) (v := ?v6) inv (by simp only [List.getElem?_toArray, List.getElem?_cons_succ, List.getElem?_cons_zero]; rfl) (by decide) (by kernel_rfl) (by kernel_rfl) ?hQ6 hS ?hy6 (fun inv => ?rest6)
    case hy6 =>
      refine yields_mk (by rfl) fun wy hy => ?_
      obtain ⟨y0, y1, y2⟩ := hy
      go_simp
      try with_reducible rfl
    case hQ6 => exact fun _ _ _ h => h
    simp only [Act.put, List.setIfInBounds_toArray, List.set_cons_zero, List.set_cons_succ]
    refine wpAnyT_take (i := 6) (v := ?v7) inv (by simp only [List.getElem?_toArray, List.getElem?_cons_succ, List.getElem?_cons_zero]; rfl) (by decide) (by kernel_rfl) (by kernel_rfl) ?hQ7 hS ?hy7 (fun inv => ?rest7)
    case hy7 =>
      refine yields_mk (by rfl) fun wy hy => ?_
      obtain ⟨y0, y1, y2⟩ := hy
      go_simp
      try with_reducible rfl
    case hQ7 => exact fun _ _ _ h => h
    simp only [Act.put, List.setIfInBounds_toArray, List.set_cons_zero, List.set_cons_succ]
    refine wpAnyT_take (i := 7) (v := ?v8) inv (by simp only [List.getElem?_toArray, List.getElem?_cons_succ, List.getElem?_cons_zero]; rfl) (by decide) (by kernel_rfl) (by kernel_rfl) ?hQ8 hS ?hy8 (fun inv => ?rest8)
    case hy8 =>
      refine yields_mk (by rfl) fun wy hy => ?_
      obtain ⟨y0, y1, y2⟩ := hy
      go_simp
      try with_reducible rfl
    case hQ8 => exact fun _ _ _ h => h
    simp only [Act.put, List.setIfInBounds_toArray, List.set_cons_zero, List.set_cons_succ]
    refine wpAnyT_take (i := 8) (v := ?v9) inv (by simp only [List.getElem?_toArray, List.getElem?_cons_succ, List.getElem?_cons_zero]; rfl) (by decide) (by kernel_rfl) (by kernel_rfl) ?hQ9 hS ?hy9 (fun inv => ?rest9)
    case hy9 =>
      refine yields_mk (by rfl) fun wy hy => ?_
      obtain ⟨y0, y1, y2⟩ := hy
      go_simp
      try with_reducible rfl
    case hQ9 => exact fun _ _ _ h => h
    simp only [Act.put, List.setIfInBounds_toArray, List.set_cons_zero, List.set_cons_succ]
    refine wpAnyT_take (i := 9) (v := ?v10) inv (by simp only [List.getElem?_toArray, List.getElem?_cons_succ, List.getElem?_cons_zero]; rfl) (by decide) (by kernel_rfl) (by kernel_rfl) ?hQ10 hS ?hy10 (fun inv => ?rest10)
    case hy10 =>
      refine yields_mk (by rfl) fun wy hy => ?_
      obtain ⟨y0, y1, y2⟩ := hy
      go_simp
      try with_reducible rfl
    case hQ10 => exact fun _ _ _ h => h
    simp only [Act.put, List.setIfInBounds_toArray, List.set_cons_zero, List.set_cons_succ]
    refine wpAnyT_take (i := 10) (v := ?v11) inv (by simp only [List.getElem?_toArray, List.getElem?_cons_succ, List.getElem?_cons_zero]; rfl) (by decide) (by kernel_rfl) (by kernel_rfl) ?hQ11 hS ?hy11 (fun inv => ?rest11)
    case hy11 =>
      refine yields_mk (by rfl) fun wy hy => ?_
      obtain ⟨y0, y1, y2⟩ := hy
      go_simp
      try with_reducible rfl
    case hQ11 => exact fun _ _ _ h => h
    simp only [Act.put, List.setIfInBounds_toArray, List.set_cons_zero, List.set_cons_succ]
    refine wpAnyT_take (i := 11) (v := ?v12) inv (by simp only [List.getElem?_toArray, List.getElem?_cons_succ, List.getElem?_cons_zero]; rfl) (by decide) (by kernel_rfl) (by kernel_rfl) ?hQ12 hS ?hy12 (fun inv => ?rest12)
    case hy12 =>
      refine yields_of ?_ (yieldsIf_load_mid (by rfl) _ (.tmp 3) (by rfl) w.heap.size 0 (by rfl) _ _ (by intro wy hy; exact hy.2.2) hU rfl hI)
      with_reducible rfl
    case hQ12 => exact fun _ _ _ h => h
    simp only [Act.put, List.setIfInBounds_toArray, List.set_cons_zero, List.set_cons_succ]
    refine wpAnyT_one (i := 12) inv (by kernel_rfl) (by decide) (by simp only [List.getElem?_toArray, List.getElem?_cons_succ, List.getElem?_cons_zero]; rfl) fun K hK => ?_
    refine step_build (by rfl) _ 119 _ (by rfl) _ 128 1024 Try.underlying116 infoArrI (by omega) (by omega) (b.map (Value.int .i64)) (by rw [List.length_map, hb]) (by rfl) ?_
    refine hK _ _ ?_ (fun inv => ?_)
    · exact ⟨m0'', t2'', rg1''⟩
    clear hK K hS
    try simp only [Act.put, List.setIfInBounds_toArray, List.set_cons_zero, List.set_cons_succ]
    refine wpAnyT_one (i := 13) inv (by kernel_rfl) (by decide) (by simp only [List.getElem?_toArray, List.getElem?_cons_succ, List.getElem?_cons_zero]; rfl) fun K hK => ?_
    refine step_append_sl _ (by rfl) _ _ _ (by rfl) base 119 _ 128 1024 Try.underlying116 infoArrI (by simp [Value.cells]) (by omega) A bs.length c (cellsB (Value.int .i64) bs) (by rfl) HROW.out Any _ 1 1 (b.map (Value.int .i64)) (by rfl) (Sl.new _ _ _ _ _ trivial (by simp [hb]) (by omega)) (encOneI b) (by simp only [maxLen]; omega) (by omega) (by simp; omega) ?_
    intro A4 c4 w4 hown4 hg4 hat4
    have hrow : ∀ k, rowOf A = some k → base ≤ k ∧ k < w.heap.size := HLT.out
    have mb4 := HB.out.grown hg4 (fun e => by have := hrow _ e; omega)
    have tb4 := HT.out.grown hg4 (fun e => by have := hrow _ e; omega)
    have bx4 := HX.out.grown hg4 (fun e => by have := hrow _ e; omega)
    obtain ⟨x0, x1, x2, x3, x4, x5⟩ := tb4.three
    refine hK _ _ ?_ (fun inv => ?_)
    · exact ⟨mb4.three.1, x2, bx4.range⟩
    clear hK K
    try simp only [Act.put, List.setIfInBounds_toArray, List.set_cons_zero, List.set_cons_succ]
    have hS : w4.cell? ⟨mB, 0, none⟩ = some (.pointer (some ⟨tB, 0, none⟩)) ∧ w4.cell? ⟨tB, 2, none⟩ = some (.slice A bs.length c) ∧ w4.rangeAt w.heap.size 0 (b.map (Value.int .i64)) := ⟨mb4.three.1, x2, bx4.range⟩
    refine wpAnyT_take (i := 14) (v := ?v13) inv (by simp only [List.getElem?_toArray, List.getElem?_cons_succ, List.getElem?_cons_zero]; rfl) (by decide) (by kernel_rfl) (by kernel_rfl) ?hQ13 hS ?hy13 (fun inv => ?rest13)
    case hy13 =>
      refine yields_mk (by rfl) fun wy hy => ?_
      obtain ⟨y0, y1, y2⟩ := hy
      go_simp
      try with_reducible rfl
    case hQ13 => exact fun _ _ _ h => h
    simp only [Act.put, List.setIfInBounds_toArray, List.set_cons_zero, List.set_cons_succ]
    refine wpAnyT_take (i := 15) (v := ?v14) inv (by simp only [List.getElem?_toArray, List.getElem?_cons_succ, List.getElem?_cons_zero]; rfl) (by decide) (by kernel_rfl) (by kernel_rfl) ?hQ14 hS ?hy14 (fun inv => ?rest14)
    case hy14 =>
      refine yields_mk (by rfl) fun wy hy => ?_
      obtain ⟨y0, y1, y2⟩ := hy
      go_simp
      try with_reducible rfl
    case hQ14 => exact fun _ _ _ h => h
    simp only [Act.put, List.setIfInBounds_toArray, List.set_cons_zero, List.set_cons_succ]
    refine wpAnyT_last (by kernel_rfl) (by simp only [List.getElem?_toArray, List.getElem?_cons_succ, List.getElem?_cons_zero]; rfl) (by kernel_rfl) fun K hK => ?_
    go_simp
    refine hK _ _ ?_
    clear hK K
    refine NoPanic.normal ?_
    go_wp2_with fail
    go_ret
    have f5 : FrX (fun k => k = tB ∨ rowOf A = some k) w2 (w4.setCell ⟨tB, 2, none⟩ (.slice A4 (bs.length + 1) c4)) :=
      ((FrX.of_kp ((Kp.refl w2).drew.alloc _)).trans (.of_grown hg4 fun k hk _ => .inr hk) fun _ _ h => h).trans (.of_setCell w4 (.inl rfl) _) fun _ _ h => h
    have hk5 : ¬ (kB = tB ∨ rowOf A = some kB) := by rintro (h | h); exact hne.2.1 h; have := hrow _ h; omega
    have he5 : ¬ (eB = tB ∨ rowOf A = some eB) := by rintro (h | h); exact hne.2.2.2.1 h; have := hrow _ h; omega
    have hlen : (addB bs b).length = bs.length + 1 := by rw [hadd]; simp
    refine ⟨A4, c4, rfl, ⟨?_, mb4.far (p := ⟨tB, 2, none⟩) hne.1.symm _, ?_, HK2.out.frame f5 hk5, HE2.out.mono (Nat.le_succ _) |>.frame f5 he5, ⟨hbase.1, hbase.2.1, hbase.2.2.1, hbase.2.2.2.1, ?_⟩, hne⟩, ?_, ?_⟩
    · rw [hlen]; exact tb4.set 2 _
    · rw [hlen, hadd, cellsB_add]
      exact hown4.setCell (fun e => by have := (hown4.lt _ e).1; dsimp only at this; omega) _
    · have := f5.size; omega
    · exact (HF.out.weak fun k _ hk => .inr (.inl hk)).trans f5 fun k _ hk => by rcases hk with h | h; exact .inl h; exact .inr (.inr (.inr h))
    · intro k hk
      rcases hat4 with h | h
      · exact .inl (h ▸ hk)
      · rw [h] at hk
        cases hk
        right
        simp
        omega
end Go.Proofs.Ytakbfppmgngdiaa
