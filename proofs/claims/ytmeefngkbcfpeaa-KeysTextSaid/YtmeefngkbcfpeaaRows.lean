/-
  No cell of these rows narrows 'for every input' (looked for: loops, veiled, ifaces, maps, wideKeys, modest, calm, conditions, laid).
  DERIVED. THE GIVEN ROWS OF THIS SEAT. 10 by the template 'for every input the law returns true; each argument reads behind the call as it read before'; 0 by the template 'total and deterministic' (their statements: YtmeefngkbcfpeaaTotals.lean).
  GIVEN WITH THE SEED: the statements are not yours to turn. If you find one false, say at which input.
  Laid BY PROGRAM, IN A SANDBOX (cutbox-rows.mjs): the forced cells as the released guide's own fill.sh prints them over the translation 55772818905c53d1… (all of the seat's roots in one cut). By AI agents, Wed Nov 11 2026. No macro, syntax, notation, axiom, sorry.
-/
import Derived.Test.YtmeefngkbcfpeaaChecked
import GoSem.Claim
import GoSem.ClaimJoined
import GoSem.ClaimMapViews
import Derived.JoinedTies
import Derived.KernelRfl
namespace Go.Proofs.Ytmeefngkbcfpeaa
/- THE CELL 'sum', in the pinned program and in every row, IS THE sha256 OF THE DUMP (.gsa) THAT YtmeefngkbcfpeaaProg.lean LOADS. Nothing in Lean hashes anything: it is a label: what it is worth is what the hold of that sum in a sandbox is worth. -/
noncomputable def Try.pinned : Pinned := { name := "ytmeefngkbcfpeaa", sum := "55772818905c53d1893e53bed8073418da6b2b03acbe3edc18628513fba61070", checked := Try.checked }
namespace Rows
def none {H : Type} : Left H := { results := [], args := [] }

/-- 'typebarlaw01.UtfDecodes': WHATEVER THE INPUT: true; the input reads as it did. -/
def utfDecodesSpec : ChangeSpec := { name := "utfDecodes", fn := fun _ => fun
  | [d] => { results := [.lit (.bool true)], args := [d] }
  | _ => none }
def utfDecodesRow : OpenClaim := { program := "ytmeefngkbcfpeaa", sum := "55772818905c53d1893e53bed8073418da6b2b03acbe3edc18628513fba61070", func := "typebar/typebarlaw01.UtfDecodes", spec := "utfDecodes", apart := false }
def UtfDecodesSaid : Prop := utfDecodesRow.holds Try.pinned (OpenSpec.ofChange utfDecodesSpec)

/-- ITS FALSE NEIGHBOUR: 'it returns false'. Refute it at one input. -/
def utfDecodesWrong : ChangeSpec := { name := "utfDecodes", fn := fun _ => fun
  | [d] => { results := [.lit (.bool false)], args := [d] }
  | _ => none }
def UtfDecodesWrongFalsely : Prop := utfDecodesRow.holds Try.pinned (OpenSpec.ofChange utfDecodesWrong)

/-- 'typebarlaw01.UtfFeeds': WHATEVER THE INPUT: true; the input reads as it did. -/
def utfFeedsSpec : ChangeSpec := { name := "utfFeeds", fn := fun _ => fun
  | [d] => { results := [.lit (.bool true)], args := [d] }
  | _ => none }
def utfFeedsRow : OpenClaim := { program := "ytmeefngkbcfpeaa", sum := "55772818905c53d1893e53bed8073418da6b2b03acbe3edc18628513fba61070", func := "typebar/typebarlaw01.UtfFeeds", spec := "utfFeeds", apart := false }
def UtfFeedsSaid : Prop := utfFeedsRow.holds Try.pinned (OpenSpec.ofChange utfFeedsSpec)

/-- ITS FALSE NEIGHBOUR: 'it returns false'. Refute it at one input. -/
def utfFeedsWrong : ChangeSpec := { name := "utfFeeds", fn := fun _ => fun
  | [d] => { results := [.lit (.bool false)], args := [d] }
  | _ => none }
def UtfFeedsWrongFalsely : Prop := utfFeedsRow.holds Try.pinned (OpenSpec.ofChange utfFeedsWrong)

/-- 'typebarlaw01.UtfSame': WHATEVER THE INPUT: true; the input reads as it did. -/
def utfSameSpec : ChangeSpec := { name := "utfSame", fn := fun _ => fun
  | [d1, d2] => { results := [.lit (.bool true)], args := [d1, d2] }
  | _ => none }
def utfSameRow : OpenClaim := { program := "ytmeefngkbcfpeaa", sum := "55772818905c53d1893e53bed8073418da6b2b03acbe3edc18628513fba61070", func := "typebar/typebarlaw01.UtfSame", spec := "utfSame", apart := false }
def UtfSameSaid : Prop := utfSameRow.holds Try.pinned (OpenSpec.ofChange utfSameSpec)

/-- ITS FALSE NEIGHBOUR: 'it returns false'. Refute it at one input. -/
def utfSameWrong : ChangeSpec := { name := "utfSame", fn := fun _ => fun
  | [d1, d2] => { results := [.lit (.bool false)], args := [d1, d2] }
  | _ => none }
def UtfSameWrongFalsely : Prop := utfSameRow.holds Try.pinned (OpenSpec.ofChange utfSameWrong)

/-- 'typebarlaw01.UtfPuts': WHATEVER THE INPUT: true; the input reads as it did. -/
def utfPutsSpec : ChangeSpec := { name := "utfPuts", fn := fun _ => fun
  | [d] => { results := [.lit (.bool true)], args := [d] }
  | _ => none }
def utfPutsRow : OpenClaim := { program := "ytmeefngkbcfpeaa", sum := "55772818905c53d1893e53bed8073418da6b2b03acbe3edc18628513fba61070", func := "typebar/typebarlaw01.UtfPuts", spec := "utfPuts", apart := false }
def UtfPutsSaid : Prop := utfPutsRow.holds Try.pinned (OpenSpec.ofChange utfPutsSpec)

/-- ITS FALSE NEIGHBOUR: 'it returns false'. Refute it at one input. -/
def utfPutsWrong : ChangeSpec := { name := "utfPuts", fn := fun _ => fun
  | [d] => { results := [.lit (.bool false)], args := [d] }
  | _ => none }
def UtfPutsWrongFalsely : Prop := utfPutsRow.holds Try.pinned (OpenSpec.ofChange utfPutsWrong)

/-- 'typebarlaw01.UtfBack': WHATEVER THE INPUT: true; the input reads as it did. -/
def utfBackSpec : ChangeSpec := { name := "utfBack", fn := fun _ => fun
  | [d] => { results := [.lit (.bool true)], args := [d] }
  | _ => none }
def utfBackRow : OpenClaim := { program := "ytmeefngkbcfpeaa", sum := "55772818905c53d1893e53bed8073418da6b2b03acbe3edc18628513fba61070", func := "typebar/typebarlaw01.UtfBack", spec := "utfBack", apart := false }
def UtfBackSaid : Prop := utfBackRow.holds Try.pinned (OpenSpec.ofChange utfBackSpec)

/-- ITS FALSE NEIGHBOUR: 'it returns false'. Refute it at one input. -/
def utfBackWrong : ChangeSpec := { name := "utfBack", fn := fun _ => fun
  | [d] => { results := [.lit (.bool false)], args := [d] }
  | _ => none }
def UtfBackWrongFalsely : Prop := utfBackRow.holds Try.pinned (OpenSpec.ofChange utfBackWrong)

/-- 'typebarlaw01.UtfOnly': WHATEVER THE INPUT: true; the input reads as it did. -/
def utfOnlySpec : ChangeSpec := { name := "utfOnly", fn := fun _ => fun
  | [d] => { results := [.lit (.bool true)], args := [d] }
  | _ => none }
def utfOnlyRow : OpenClaim := { program := "ytmeefngkbcfpeaa", sum := "55772818905c53d1893e53bed8073418da6b2b03acbe3edc18628513fba61070", func := "typebar/typebarlaw01.UtfOnly", spec := "utfOnly", apart := false }
def UtfOnlySaid : Prop := utfOnlyRow.holds Try.pinned (OpenSpec.ofChange utfOnlySpec)

/-- ITS FALSE NEIGHBOUR: 'it returns false'. Refute it at one input. -/
def utfOnlyWrong : ChangeSpec := { name := "utfOnly", fn := fun _ => fun
  | [d] => { results := [.lit (.bool false)], args := [d] }
  | _ => none }
def UtfOnlyWrongFalsely : Prop := utfOnlyRow.holds Try.pinned (OpenSpec.ofChange utfOnlyWrong)

/-- 'typebarlaw22.KeysPlays': WHATEVER THE INPUT: true; the input reads as it did. -/
def keysPlaysSpec : ChangeSpec := { name := "keysPlays", fn := fun _ => fun
  | [d] => { results := [.lit (.bool true)], args := [d] }
  | _ => none }
def keysPlaysRow : OpenClaim := { program := "ytmeefngkbcfpeaa", sum := "55772818905c53d1893e53bed8073418da6b2b03acbe3edc18628513fba61070", func := "typebar/typebarlaw22.KeysPlays", spec := "keysPlays", apart := false }
def KeysPlaysSaid : Prop := keysPlaysRow.holds Try.pinned (OpenSpec.ofChange keysPlaysSpec)

/-- ITS FALSE NEIGHBOUR: 'it returns false'. Refute it at one input. -/
def keysPlaysWrong : ChangeSpec := { name := "keysPlays", fn := fun _ => fun
  | [d] => { results := [.lit (.bool false)], args := [d] }
  | _ => none }
def KeysPlaysWrongFalsely : Prop := keysPlaysRow.holds Try.pinned (OpenSpec.ofChange keysPlaysWrong)

/-- 'typebarlaw22.KeysText': WHATEVER THE INPUT: true; the input reads as it did. -/
def keysTextSpec : ChangeSpec := { name := "keysText", fn := fun _ => fun
  | [d] => { results := [.lit (.bool true)], args := [d] }
  | _ => none }
def keysTextRow : OpenClaim := { program := "ytmeefngkbcfpeaa", sum := "55772818905c53d1893e53bed8073418da6b2b03acbe3edc18628513fba61070", func := "typebar/typebarlaw22.KeysText", spec := "keysText", apart := false }
def KeysTextSaid : Prop := keysTextRow.holds Try.pinned (OpenSpec.ofChange keysTextSpec)

/-- ITS FALSE NEIGHBOUR: 'it returns false'. Refute it at one input. -/
def keysTextWrong : ChangeSpec := { name := "keysText", fn := fun _ => fun
  | [d] => { results := [.lit (.bool false)], args := [d] }
  | _ => none }
def KeysTextWrongFalsely : Prop := keysTextRow.holds Try.pinned (OpenSpec.ofChange keysTextWrong)

/-- 'typebarlaw22.KeysPastes': WHATEVER THE INPUT: true; the input reads as it did. -/
def keysPastesSpec : ChangeSpec := { name := "keysPastes", fn := fun _ => fun
  | [d1, d2] => { results := [.lit (.bool true)], args := [d1, d2] }
  | _ => none }
def keysPastesRow : OpenClaim := { program := "ytmeefngkbcfpeaa", sum := "55772818905c53d1893e53bed8073418da6b2b03acbe3edc18628513fba61070", func := "typebar/typebarlaw22.KeysPastes", spec := "keysPastes", apart := false }
def KeysPastesSaid : Prop := keysPastesRow.holds Try.pinned (OpenSpec.ofChange keysPastesSpec)

/-- ITS FALSE NEIGHBOUR: 'it returns false'. Refute it at one input. -/
def keysPastesWrong : ChangeSpec := { name := "keysPastes", fn := fun _ => fun
  | [d1, d2] => { results := [.lit (.bool false)], args := [d1, d2] }
  | _ => none }
def KeysPastesWrongFalsely : Prop := keysPastesRow.holds Try.pinned (OpenSpec.ofChange keysPastesWrong)

/-- 'typebarlaw22.KeysRests': WHATEVER THE INPUT: true; the input reads as it did. -/
def keysRestsSpec : ChangeSpec := { name := "keysRests", fn := fun _ => fun
  | [d1, d2] => { results := [.lit (.bool true)], args := [d1, d2] }
  | _ => none }
def keysRestsRow : OpenClaim := { program := "ytmeefngkbcfpeaa", sum := "55772818905c53d1893e53bed8073418da6b2b03acbe3edc18628513fba61070", func := "typebar/typebarlaw22.KeysRests", spec := "keysRests", apart := false }
def KeysRestsSaid : Prop := keysRestsRow.holds Try.pinned (OpenSpec.ofChange keysRestsSpec)

/-- ITS FALSE NEIGHBOUR: 'it returns false'. Refute it at one input. -/
def keysRestsWrong : ChangeSpec := { name := "keysRests", fn := fun _ => fun
  | [d1, d2] => { results := [.lit (.bool false)], args := [d1, d2] }
  | _ => none }
def KeysRestsWrongFalsely : Prop := keysRestsRow.holds Try.pinned (OpenSpec.ofChange keysRestsWrong)

/- THE SECOND FORM. 'bulk': how many values and letters a reading holds, each counted each time it is reached (what is shared counts as often as it is met; a slice's spare places count too). A statement '..UptoSaid' is the law's where the arguments, and the package variables that the reading takes, are together of bulk at most 1048576: NARROWER than '..Said'. Prove '..Said' where nothing that the law and all that it calls make is longer than what came in: it says more and counts as full. Else prove '..UptoSaid'. A law counts once. -/
mutual
def uptoBulk {H : Type} : DataW H → Nat
  | .lit (.string bytes) => bytes.length + 1
  | .lit _ => 1
  | .nil => 1
  | .ptr d => uptoBulk d + 1
  | .slice elems spare => uptoBulkAll elems + uptoBulkAll spare + 1
  | .agg parts => uptoBulkAll parts + 1
  | .iface _ d => uptoBulk d + 1
  | .map entries => uptoBulkEntries entries + 1
  | .held _ => 1
def uptoBulkAll {H : Type} : List (DataW H) → Nat
  | [] => 0
  | d :: r => uptoBulk d + uptoBulkAll r
def uptoBulkEntries {H : Type} : List (Lit × DataW H) → Nat
  | [] => 0
  | x :: r => uptoBulkEntry x + uptoBulkEntries r
def uptoBulkEntry {H : Type} : Lit × DataW H → Nat
  | (.string bytes, d) => bytes.length + uptoBulk d + 1
  | (_, d) => uptoBulk d + 1
 end
def uptoSmall : (H : Type) → List (DataW H) → Bool := fun _ ds => decide (uptoBulkAll ds ≤ 1048576)
def OpenSpec.upto (s : _root_.Go.ChangeSpec) : _root_.Go.OpenSpec := { _root_.Go.OpenSpec.ofChange s with cond := some uptoSmall }

/-- 'typebarlaw01.UtfDecodes', WHERE WHAT IT READS IS OF BULK AT MOST 1048576: true; the input reads as it did. -/
def utfDecodesUptoRow : OpenClaim := { program := "ytmeefngkbcfpeaa", sum := "55772818905c53d1893e53bed8073418da6b2b03acbe3edc18628513fba61070", func := "typebar/typebarlaw01.UtfDecodes", spec := "utfDecodes", apart := false, narrowed := true }
def UtfDecodesUptoSaid : Prop := utfDecodesUptoRow.holds Try.pinned (OpenSpec.upto utfDecodesSpec)

/-- 'typebarlaw01.UtfFeeds', WHERE WHAT IT READS IS OF BULK AT MOST 1048576: true; the input reads as it did. -/
def utfFeedsUptoRow : OpenClaim := { program := "ytmeefngkbcfpeaa", sum := "55772818905c53d1893e53bed8073418da6b2b03acbe3edc18628513fba61070", func := "typebar/typebarlaw01.UtfFeeds", spec := "utfFeeds", apart := false, narrowed := true }
def UtfFeedsUptoSaid : Prop := utfFeedsUptoRow.holds Try.pinned (OpenSpec.upto utfFeedsSpec)

/-- 'typebarlaw01.UtfSame', WHERE WHAT IT READS IS OF BULK AT MOST 1048576: true; the input reads as it did. -/
def utfSameUptoRow : OpenClaim := { program := "ytmeefngkbcfpeaa", sum := "55772818905c53d1893e53bed8073418da6b2b03acbe3edc18628513fba61070", func := "typebar/typebarlaw01.UtfSame", spec := "utfSame", apart := false, narrowed := true }
def UtfSameUptoSaid : Prop := utfSameUptoRow.holds Try.pinned (OpenSpec.upto utfSameSpec)

/-- 'typebarlaw01.UtfPuts', WHERE WHAT IT READS IS OF BULK AT MOST 1048576: true; the input reads as it did. -/
def utfPutsUptoRow : OpenClaim := { program := "ytmeefngkbcfpeaa", sum := "55772818905c53d1893e53bed8073418da6b2b03acbe3edc18628513fba61070", func := "typebar/typebarlaw01.UtfPuts", spec := "utfPuts", apart := false, narrowed := true }
def UtfPutsUptoSaid : Prop := utfPutsUptoRow.holds Try.pinned (OpenSpec.upto utfPutsSpec)

/-- 'typebarlaw01.UtfBack', WHERE WHAT IT READS IS OF BULK AT MOST 1048576: true; the input reads as it did. -/
def utfBackUptoRow : OpenClaim := { program := "ytmeefngkbcfpeaa", sum := "55772818905c53d1893e53bed8073418da6b2b03acbe3edc18628513fba61070", func := "typebar/typebarlaw01.UtfBack", spec := "utfBack", apart := false, narrowed := true }
def UtfBackUptoSaid : Prop := utfBackUptoRow.holds Try.pinned (OpenSpec.upto utfBackSpec)

/-- 'typebarlaw01.UtfOnly', WHERE WHAT IT READS IS OF BULK AT MOST 1048576: true; the input reads as it did. -/
def utfOnlyUptoRow : OpenClaim := { program := "ytmeefngkbcfpeaa", sum := "55772818905c53d1893e53bed8073418da6b2b03acbe3edc18628513fba61070", func := "typebar/typebarlaw01.UtfOnly", spec := "utfOnly", apart := false, narrowed := true }
def UtfOnlyUptoSaid : Prop := utfOnlyUptoRow.holds Try.pinned (OpenSpec.upto utfOnlySpec)

/-- 'typebarlaw22.KeysPlays', WHERE WHAT IT READS IS OF BULK AT MOST 1048576: true; the input reads as it did. -/
def keysPlaysUptoRow : OpenClaim := { program := "ytmeefngkbcfpeaa", sum := "55772818905c53d1893e53bed8073418da6b2b03acbe3edc18628513fba61070", func := "typebar/typebarlaw22.KeysPlays", spec := "keysPlays", apart := false, narrowed := true }
def KeysPlaysUptoSaid : Prop := keysPlaysUptoRow.holds Try.pinned (OpenSpec.upto keysPlaysSpec)

/-- 'typebarlaw22.KeysText', WHERE WHAT IT READS IS OF BULK AT MOST 1048576: true; the input reads as it did. -/
def keysTextUptoRow : OpenClaim := { program := "ytmeefngkbcfpeaa", sum := "55772818905c53d1893e53bed8073418da6b2b03acbe3edc18628513fba61070", func := "typebar/typebarlaw22.KeysText", spec := "keysText", apart := false, narrowed := true }
def KeysTextUptoSaid : Prop := keysTextUptoRow.holds Try.pinned (OpenSpec.upto keysTextSpec)

/-- 'typebarlaw22.KeysPastes', WHERE WHAT IT READS IS OF BULK AT MOST 1048576: true; the input reads as it did. -/
def keysPastesUptoRow : OpenClaim := { program := "ytmeefngkbcfpeaa", sum := "55772818905c53d1893e53bed8073418da6b2b03acbe3edc18628513fba61070", func := "typebar/typebarlaw22.KeysPastes", spec := "keysPastes", apart := false, narrowed := true }
def KeysPastesUptoSaid : Prop := keysPastesUptoRow.holds Try.pinned (OpenSpec.upto keysPastesSpec)

/-- 'typebarlaw22.KeysRests', WHERE WHAT IT READS IS OF BULK AT MOST 1048576: true; the input reads as it did. -/
def keysRestsUptoRow : OpenClaim := { program := "ytmeefngkbcfpeaa", sum := "55772818905c53d1893e53bed8073418da6b2b03acbe3edc18628513fba61070", func := "typebar/typebarlaw22.KeysRests", spec := "keysRests", apart := false, narrowed := true }
def KeysRestsUptoSaid : Prop := keysRestsUptoRow.holds Try.pinned (OpenSpec.upto keysRestsSpec)

end Rows
end Go.Proofs.Ytmeefngkbcfpeaa
