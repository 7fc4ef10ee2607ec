/-
  Package undo as plain lists: edits, groups, what is added, dropped and undone. Plain definitions and lemmas, no program.
-/
namespace Go.Proofs.Ytmeefngkbcfpeaa

structure Ed where
  at_ : Int
  old : List Int
  new : List Int
structure Grp where
  es : List Ed
  cur : Int

def Ed.back (e : Ed) : Ed := ⟨e.at_, e.new, e.old⟩
/-- A line behind an edit. -/
def doM (e : Ed) (l : List Int) : Option (List Int) :=
  if 0 ≤ e.at_ ∧ e.at_ + e.old.length ≤ l.length ∧ (l.drop e.at_.toNat).take e.old.length = e.old then some (l.take e.at_.toNat ++ e.new ++ l.drop (e.at_.toNat + e.old.length)) else none
/-- Edits, the newest one first, are undone. -/
def undoL : List Ed → List Int → Option (List Int)
  | [], l => some l
  | e :: r, l => match doM e.back l with
    | some l' => undoL r l'
    | none => none
def undoM (g : Grp) (l : List Int) : Option (List Int) := undoL g.es.reverse l
/-- Groups, the newest one first, are undone. -/
def allL : List Grp → List Int → Int → Option (List Int × Int)
  | [], l, c => some (l, c)
  | g :: r, l, _ => match undoM g l with
    | some l' => allL r l' g.cur
    | none => none
def allM (gs : List Grp) (l : List Int) (c : Int) : Option (List Int × Int) := allL gs.reverse l c
def addM (gs : List Grp) (e : Ed) (cur : Int) (join : Bool) : List Grp :=
  match join, gs.getLast? with
  | true, some g => gs.dropLast ++ [Grp.mk (g.es ++ [e]) g.cur]
  | _, _ => (gs ++ [Grp.mk [e] cur]).drop (gs.length + 1 - 1000)
theorem addM_join {gs : List Grp} {g : Grp} (e : Ed) (cur : Int) (h : gs.getLast? = some g) : addM gs e cur true = gs.dropLast ++ [Grp.mk (g.es ++ [e]) g.cur] := by unfold addM; rw [h]
theorem addM_own {gs : List Grp} (e : Ed) (cur : Int) (join : Bool) (h : join = false ∨ gs = []) : addM gs e cur join = (gs ++ [Grp.mk [e] cur]).drop (gs.length + 1 - 1000) := by
  unfold addM
  rcases h with rfl | rfl
  · cases gs.getLast? <;> rfl
  · cases join <;> rfl
theorem addM_len (gs : List Grp) (e : Ed) (cur : Int) (join : Bool) : (addM gs e cur join).length ≤ gs.length + 1 := by
  unfold addM
  split
  · rename_i g hg
    cases gs with
    | nil => simp at hg
    | cons a r => simp
  · simp
theorem last_split {gs : List Grp} {n : Nat} (hl : gs.length = n + 1) : ∃ g, gs[n]? = some g ∧ gs.getLast? = some g ∧ gs = gs.dropLast ++ [g] ∧ gs.dropLast.length = n := by
  have hne : gs ≠ [] := by rintro rfl; simp at hl
  have h1 : gs.dropLast ++ [gs.getLast hne] = gs := List.dropLast_concat_getLast hne
  obtain ⟨l, g, rfl⟩ : ∃ l g, gs = l ++ [g] := ⟨_, _, h1.symm⟩
  have h2 : l.length = n := by simpa using hl
  refine ⟨g, ?_, by simp, by simp, by simpa using h2⟩
  rw [List.getElem?_append_right (by omega), h2]; simp

/-- What belongs to what, one by one. -/
def RelL {α β : Type} (R : α → β → Prop) : List α → List β → Prop
  | [], [] => True
  | x :: xs, c :: cs => R x c ∧ RelL R xs cs
  | _, _ => False
section
variable {α β : Type} {R S : α → β → Prop}
theorem RelL.len : ∀ {xs : List α} {cs : List β}, RelL R xs cs → cs.length = xs.length
  | [], [], _ => rfl
  | _ :: _, _ :: _, h => by simp [RelL.len h.2]
  | [], _ :: _, h => h.elim
  | _ :: _, [], h => h.elim
theorem RelL.mono (hRS : ∀ x c, R x c → S x c) : ∀ {xs : List α} {cs : List β}, RelL R xs cs → RelL S xs cs
  | [], [], _ => trivial
  | _ :: _, _ :: _, h => ⟨hRS _ _ h.1, RelL.mono hRS h.2⟩
  | [], _ :: _, h => h.elim
  | _ :: _, [], h => h.elim
theorem RelL.app : ∀ {xs ys : List α} {cs ds : List β}, RelL R xs cs → RelL R ys ds → RelL R (xs ++ ys) (cs ++ ds)
  | [], _, [], _, _, k => k
  | _ :: _, _, _ :: _, _, h, k => ⟨h.1, RelL.app h.2 k⟩
  | [], _, _ :: _, _, h, _ => h.elim
  | _ :: _, _, [], _, h, _ => h.elim
theorem RelL.get : ∀ {xs : List α} {cs : List β} {i : Nat} {x : α}, RelL R xs cs → xs[i]? = some x → ∃ c, cs[i]? = some c ∧ R x c
  | [], _, _, _, _, h => by simp at h
  | x :: _, c :: _, 0, _, h, k => by simp at k; subst k; exact ⟨c, rfl, h.1⟩
  | _ :: _, _ :: _, i + 1, _, h, k => by simpa using RelL.get (i := i) h.2 (by simpa using k)
  | _ :: _, [], _, _, h, _ => h.elim
theorem RelL.drop : ∀ (k : Nat) {xs : List α} {cs : List β}, RelL R xs cs → RelL R (xs.drop k) (cs.drop k)
  | 0, _, _, h => h
  | _ + 1, [], [], _ => trivial
  | k + 1, _ :: _, _ :: _, h => by simpa using RelL.drop k h.2
  | _ + 1, [], _ :: _, h => h.elim
  | _ + 1, _ :: _, [], h => h.elim
theorem RelL.take : ∀ (k : Nat) {xs : List α} {cs : List β}, RelL R xs cs → RelL R (xs.take k) (cs.take k)
  | 0, _, _, _ => by simp [RelL]
  | _ + 1, [], [], _ => trivial
  | k + 1, _ :: _, _ :: _, h => by simpa using ⟨h.1, RelL.take k h.2⟩
  | _ + 1, [], _ :: _, h => h.elim
  | _ + 1, _ :: _, [], h => h.elim
theorem RelL.snoc : ∀ {xs : List α} {x : α} {cs : List β}, RelL R (xs ++ [x]) cs → ∃ cs0 c, cs = cs0 ++ [c] ∧ RelL R xs cs0 ∧ R x c
  | [], _, [c], h => ⟨[], c, rfl, trivial, h.1⟩
  | [], _, [], h => h.elim
  | [], _, _ :: _ :: _, h => h.2.elim
  | y :: xs, x, c :: cs, h => by
    obtain ⟨c0, c1, rfl, h1, h2⟩ := RelL.snoc (xs := xs) (x := x) h.2
    exact ⟨c :: c0, c1, rfl, ⟨h.1, h1⟩, h2⟩
  | _ :: _, _, [], h => h.elim
theorem RelL.one {x : α} {c : β} (h : R x c) : RelL R [x] [c] := ⟨h, trivial⟩
theorem RelL.all {p : β → Prop} (hp : ∀ x c, R x c → p c) : ∀ {xs : List α} {cs : List β}, RelL R xs cs → ∀ c ∈ cs, p c
  | [], [], _ => by simp
  | _ :: _, _ :: _, h => by simpa using ⟨hp _ _ h.1, RelL.all hp h.2⟩
  | [], _ :: _, h => h.elim
  | _ :: _, [], h => h.elim
end

theorem flat_len {β : Type} {k : Nat} : ∀ {css : List (List β)}, (∀ c ∈ css, c.length = k) → css.flatten.length = css.length * k
  | [], _ => by simp
  | c :: r, h => by
    have h1 := h c (by simp)
    have h2 := flat_len (css := r) fun x hx => h x (by simp [hx])
    simp only [List.flatten_cons, List.length_append, List.length_cons, h1, h2, Nat.succ_mul]
    omega
theorem flat_get {β : Type} {k : Nat} : ∀ {css : List (List β)} {i r : Nat} {c : List β}, (∀ c ∈ css, c.length = k) → css[i]? = some c → r < k → css.flatten[i * k + r]? = c[r]?
  | [], _, _, _, _, h, _ => by simp at h
  | d :: t, 0, r, c, hl, h, hr => by
    simp at h
    subst h
    have h1 := hl d (by simp)
    rw [List.flatten_cons, Nat.zero_mul, Nat.zero_add, List.getElem?_append_left (by omega)]
  | d :: t, i + 1, r, c, hl, h, hr => by
    have h1 := hl d (by simp)
    rw [List.flatten_cons, List.getElem?_append_right (by rw [h1, Nat.succ_mul]; omega), h1]
    have e : (i + 1) * k + r - k = i * k + r := by rw [Nat.succ_mul]; omega
    rw [e]
    exact flat_get (fun x hx => hl x (by simp [hx])) (by simpa using h) hr
theorem flat_take {β : Type} {k : Nat} : ∀ (m : Nat) {css : List (List β)}, (∀ c ∈ css, c.length = k) → css.flatten.take (m * k) = (css.take m).flatten
  | 0, _, _ => by simp
  | _ + 1, [], _ => by simp
  | m + 1, c :: t, h => by
    have h1 := h c (by simp)
    have h2 := flat_take m (css := t) fun x hx => h x (by simp [hx])
    rw [List.take_succ_cons, List.flatten_cons, List.flatten_cons, ← h2, List.take_append, h1]
    have e : (m + 1) * k - k = m * k := by rw [Nat.succ_mul]; omega
    rw [e, List.take_of_length_le (by rw [h1, Nat.succ_mul]; omega)]
theorem flat_drop {β : Type} {k : Nat} : ∀ (m : Nat) {css : List (List β)}, (∀ c ∈ css, c.length = k) → css.flatten.drop (m * k) = (css.drop m).flatten
  | 0, _, _ => by simp
  | _ + 1, [], _ => by simp
  | m + 1, c :: t, h => by
    have h1 := h c (by simp)
    have h2 := flat_drop m (css := t) fun x hx => h x (by simp [hx])
    rw [List.drop_succ_cons, List.flatten_cons, ← h2, List.drop_append, h1]
    have e : (m + 1) * k - k = m * k := by rw [Nat.succ_mul]; omega
    rw [e, List.drop_of_length_le (by rw [h1, Nat.succ_mul]; omega), List.nil_append]
end Go.Proofs.Ytmeefngkbcfpeaa
