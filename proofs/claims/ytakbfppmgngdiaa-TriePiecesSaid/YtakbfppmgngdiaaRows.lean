/-
  No cell of these rows narrows 'for every input' (looked for: loops, veiled, ifaces, maps, wideKeys, modest, calm, conditions, laid).
  DERIVED. THE GIVEN ROWS OF THIS SEAT. 12 by the template 'for every input the law returns true; each argument reads behind the call as it read before'; 0 by the template 'total and deterministic' (their statements: YtakbfppmgngdiaaTotals.lean).
  GIVEN WITH THE SEED: the statements are not yours to turn. If you find one false, say at which input.
  Laid BY PROGRAM, IN A SANDBOX (cutbox-rows.mjs): the forced cells as the released guide's own fill.sh prints them over the translation 10ef9bc599fc4da3… (all of the seat's roots in one cut). By AI agents, Wed Nov 11 2026. No macro, syntax, notation, axiom, sorry.
-/
import Derived.Test.YtakbfppmgngdiaaChecked
import GoSem.Claim
import GoSem.ClaimJoined
import GoSem.ClaimMapViews
import Derived.JoinedTies
import Derived.KernelRfl
namespace Go.Proofs.Ytakbfppmgngdiaa
/- THE CELL 'sum', in the pinned program and in every row, IS THE sha256 OF THE DUMP (.gsa) THAT YtakbfppmgngdiaaProg.lean LOADS. Nothing in Lean hashes anything: it is a label: what it is worth is what the hold of that sum in a sandbox is worth. -/
noncomputable def Try.pinned : Pinned := { name := "ytakbfppmgngdiaa", sum := "10ef9bc599fc4da334a2a9fcb8792ef9e99f2fcb03590dffe941becb9126c2da", checked := Try.checked }
namespace Rows
def none {H : Type} : Left H := { results := [], args := [] }

/-- 'typebarlaw38.LoopPlays': WHATEVER THE INPUT: true; the input reads as it did. -/
def loopPlaysSpec : ChangeSpec := { name := "loopPlays", fn := fun _ => fun
  | [d1, d2] => { results := [.lit (.bool true)], args := [d1, d2] }
  | _ => none }
def loopPlaysRow : OpenClaim := { program := "ytakbfppmgngdiaa", sum := "10ef9bc599fc4da334a2a9fcb8792ef9e99f2fcb03590dffe941becb9126c2da", func := "typebar/typebarlaw38.LoopPlays", spec := "loopPlays", plainKeys := false, apart := false }
def LoopPlaysSaid : Prop := loopPlaysRow.holds Try.pinned (OpenSpec.ofChange loopPlaysSpec)

/-- ITS FALSE NEIGHBOUR: 'it returns false'. Refute it at one input. -/
def loopPlaysWrong : ChangeSpec := { name := "loopPlays", fn := fun _ => fun
  | [d1, d2] => { results := [.lit (.bool false)], args := [d1, d2] }
  | _ => none }
def LoopPlaysWrongFalsely : Prop := loopPlaysRow.holds Try.pinned (OpenSpec.ofChange loopPlaysWrong)

/-- 'typebarlaw38.LoopAll': WHATEVER THE INPUT: true; the input reads as it did. -/
def loopAllSpec : ChangeSpec := { name := "loopAll", fn := fun _ => fun
  | [d1, d2] => { results := [.lit (.bool true)], args := [d1, d2] }
  | _ => none }
def loopAllRow : OpenClaim := { program := "ytakbfppmgngdiaa", sum := "10ef9bc599fc4da334a2a9fcb8792ef9e99f2fcb03590dffe941becb9126c2da", func := "typebar/typebarlaw38.LoopAll", spec := "loopAll", plainKeys := false, apart := false }
def LoopAllSaid : Prop := loopAllRow.holds Try.pinned (OpenSpec.ofChange loopAllSpec)

/-- ITS FALSE NEIGHBOUR: 'it returns false'. Refute it at one input. -/
def loopAllWrong : ChangeSpec := { name := "loopAll", fn := fun _ => fun
  | [d1, d2] => { results := [.lit (.bool false)], args := [d1, d2] }
  | _ => none }
def LoopAllWrongFalsely : Prop := loopAllRow.holds Try.pinned (OpenSpec.ofChange loopAllWrong)

/-- 'typebarlaw38.LoopNone': WHATEVER THE INPUT: true; the input reads as it did. -/
def loopNoneSpec : ChangeSpec := { name := "loopNone", fn := fun _ => fun
  | [d1, d2] => { results := [.lit (.bool true)], args := [d1, d2] }
  | _ => none }
def loopNoneRow : OpenClaim := { program := "ytakbfppmgngdiaa", sum := "10ef9bc599fc4da334a2a9fcb8792ef9e99f2fcb03590dffe941becb9126c2da", func := "typebar/typebarlaw38.LoopNone", spec := "loopNone", plainKeys := false, apart := false }
def LoopNoneSaid : Prop := loopNoneRow.holds Try.pinned (OpenSpec.ofChange loopNoneSpec)

/-- ITS FALSE NEIGHBOUR: 'it returns false'. Refute it at one input. -/
def loopNoneWrong : ChangeSpec := { name := "loopNone", fn := fun _ => fun
  | [d1, d2] => { results := [.lit (.bool false)], args := [d1, d2] }
  | _ => none }
def LoopNoneWrongFalsely : Prop := loopNoneRow.holds Try.pinned (OpenSpec.ofChange loopNoneWrong)

/-- 'typebarlaw19.UndoPlays': WHATEVER THE INPUT: true; the input reads as it did. -/
def undoPlaysSpec : ChangeSpec := { name := "undoPlays", fn := fun _ => fun
  | [d] => { results := [.lit (.bool true)], args := [d] }
  | _ => none }
def undoPlaysRow : OpenClaim := { program := "ytakbfppmgngdiaa", sum := "10ef9bc599fc4da334a2a9fcb8792ef9e99f2fcb03590dffe941becb9126c2da", func := "typebar/typebarlaw19.UndoPlays", spec := "undoPlays", unfollowed := true, recurses := true, plainKeys := false, apart := false }
def UndoPlaysSaid : Prop := undoPlaysRow.holds Try.pinned (OpenSpec.ofChange undoPlaysSpec)

/-- ITS FALSE NEIGHBOUR: 'it returns false'. Refute it at one input. -/
def undoPlaysWrong : ChangeSpec := { name := "undoPlays", fn := fun _ => fun
  | [d] => { results := [.lit (.bool false)], args := [d] }
  | _ => none }
def UndoPlaysWrongFalsely : Prop := undoPlaysRow.holds Try.pinned (OpenSpec.ofChange undoPlaysWrong)

/-- 'typebarlaw19.UndoAll': WHATEVER THE INPUT: true; the input reads as it did. -/
def undoAllSpec : ChangeSpec := { name := "undoAll", fn := fun _ => fun
  | [d1, d2, d3] => { results := [.lit (.bool true)], args := [d1, d2, d3] }
  | _ => none }
def undoAllRow : OpenClaim := { program := "ytakbfppmgngdiaa", sum := "10ef9bc599fc4da334a2a9fcb8792ef9e99f2fcb03590dffe941becb9126c2da", func := "typebar/typebarlaw19.UndoAll", spec := "undoAll", unfollowed := true, recurses := true, plainKeys := false, apart := false }
def UndoAllSaid : Prop := undoAllRow.holds Try.pinned (OpenSpec.ofChange undoAllSpec)

/-- ITS FALSE NEIGHBOUR: 'it returns false'. Refute it at one input. -/
def undoAllWrong : ChangeSpec := { name := "undoAll", fn := fun _ => fun
  | [d1, d2, d3] => { results := [.lit (.bool false)], args := [d1, d2, d3] }
  | _ => none }
def UndoAllWrongFalsely : Prop := undoAllRow.holds Try.pinned (OpenSpec.ofChange undoAllWrong)

/-- 'typebarlaw19.UndoBack': WHATEVER THE INPUT: true; the input reads as it did. -/
def undoBackSpec : ChangeSpec := { name := "undoBack", fn := fun _ => fun
  | [d1, d2] => { results := [.lit (.bool true)], args := [d1, d2] }
  | _ => none }
def undoBackRow : OpenClaim := { program := "ytakbfppmgngdiaa", sum := "10ef9bc599fc4da334a2a9fcb8792ef9e99f2fcb03590dffe941becb9126c2da", func := "typebar/typebarlaw19.UndoBack", spec := "undoBack", unfollowed := true, recurses := true, plainKeys := false, apart := false }
def UndoBackSaid : Prop := undoBackRow.holds Try.pinned (OpenSpec.ofChange undoBackSpec)

/-- ITS FALSE NEIGHBOUR: 'it returns false'. Refute it at one input. -/
def undoBackWrong : ChangeSpec := { name := "undoBack", fn := fun _ => fun
  | [d1, d2] => { results := [.lit (.bool false)], args := [d1, d2] }
  | _ => none }
def UndoBackWrongFalsely : Prop := undoBackRow.holds Try.pinned (OpenSpec.ofChange undoBackWrong)

/-- 'typebarlaw19.UndoMost': WHATEVER THE INPUT: true; the input reads as it did. -/
def undoMostSpec : ChangeSpec := { name := "undoMost", fn := fun _ => fun
  | [d] => { results := [.lit (.bool true)], args := [d] }
  | _ => none }
def undoMostRow : OpenClaim := { program := "ytakbfppmgngdiaa", sum := "10ef9bc599fc4da334a2a9fcb8792ef9e99f2fcb03590dffe941becb9126c2da", func := "typebar/typebarlaw19.UndoMost", spec := "undoMost", unfollowed := true, recurses := true, plainKeys := false, apart := false }
def UndoMostSaid : Prop := undoMostRow.holds Try.pinned (OpenSpec.ofChange undoMostSpec)

/-- ITS FALSE NEIGHBOUR: 'it returns false'. Refute it at one input. -/
def undoMostWrong : ChangeSpec := { name := "undoMost", fn := fun _ => fun
  | [d] => { results := [.lit (.bool false)], args := [d] }
  | _ => none }
def UndoMostWrongFalsely : Prop := undoMostRow.holds Try.pinned (OpenSpec.ofChange undoMostWrong)

/-- 'typebarlaw03.TrieGets': WHATEVER THE INPUT: true; the input reads as it did. -/
def trieGetsSpec : ChangeSpec := { name := "trieGets", fn := fun _ => fun
  | [d1, d2, d3] => { results := [.lit (.bool true)], args := [d1, d2, d3] }
  | _ => none }
def trieGetsRow : OpenClaim := { program := "ytakbfppmgngdiaa", sum := "10ef9bc599fc4da334a2a9fcb8792ef9e99f2fcb03590dffe941becb9126c2da", func := "typebar/typebarlaw03.TrieGets", spec := "trieGets", plainKeys := false, apart := false }
def TrieGetsSaid : Prop := trieGetsRow.holds Try.pinned (OpenSpec.ofChange trieGetsSpec)

/-- ITS FALSE NEIGHBOUR: 'it returns false'. Refute it at one input. -/
def trieGetsWrong : ChangeSpec := { name := "trieGets", fn := fun _ => fun
  | [d1, d2, d3] => { results := [.lit (.bool false)], args := [d1, d2, d3] }
  | _ => none }
def TrieGetsWrongFalsely : Prop := trieGetsRow.holds Try.pinned (OpenSpec.ofChange trieGetsWrong)

/-- 'typebarlaw03.TrieBlocks': WHATEVER THE INPUT: true; the input reads as it did. -/
def trieBlocksSpec : ChangeSpec := { name := "trieBlocks", fn := fun _ => fun
  | [d1, d2, d3] => { results := [.lit (.bool true)], args := [d1, d2, d3] }
  | _ => none }
def trieBlocksRow : OpenClaim := { program := "ytakbfppmgngdiaa", sum := "10ef9bc599fc4da334a2a9fcb8792ef9e99f2fcb03590dffe941becb9126c2da", func := "typebar/typebarlaw03.TrieBlocks", spec := "trieBlocks", plainKeys := false, apart := false }
def TrieBlocksSaid : Prop := trieBlocksRow.holds Try.pinned (OpenSpec.ofChange trieBlocksSpec)

/-- ITS FALSE NEIGHBOUR: 'it returns false'. Refute it at one input. -/
def trieBlocksWrong : ChangeSpec := { name := "trieBlocks", fn := fun _ => fun
  | [d1, d2, d3] => { results := [.lit (.bool false)], args := [d1, d2, d3] }
  | _ => none }
def TrieBlocksWrongFalsely : Prop := trieBlocksRow.holds Try.pinned (OpenSpec.ofChange trieBlocksWrong)

/-- 'typebarlaw03.TrieTypes': WHATEVER THE INPUT: true; the input reads as it did. -/
def trieTypesSpec : ChangeSpec := { name := "trieTypes", fn := fun _ => fun
  | [d1, d2, d3, d4] => { results := [.lit (.bool true)], args := [d1, d2, d3, d4] }
  | _ => none }
def trieTypesRow : OpenClaim := { program := "ytakbfppmgngdiaa", sum := "10ef9bc599fc4da334a2a9fcb8792ef9e99f2fcb03590dffe941becb9126c2da", func := "typebar/typebarlaw03.TrieTypes", spec := "trieTypes", plainKeys := false, apart := false }
def TrieTypesSaid : Prop := trieTypesRow.holds Try.pinned (OpenSpec.ofChange trieTypesSpec)

/-- ITS FALSE NEIGHBOUR: 'it returns false'. Refute it at one input. -/
def trieTypesWrong : ChangeSpec := { name := "trieTypes", fn := fun _ => fun
  | [d1, d2, d3, d4] => { results := [.lit (.bool false)], args := [d1, d2, d3, d4] }
  | _ => none }
def TrieTypesWrongFalsely : Prop := trieTypesRow.holds Try.pinned (OpenSpec.ofChange trieTypesWrong)

/-- 'typebarlaw03.TriePieces': WHATEVER THE INPUT: true; the input reads as it did. -/
def triePiecesSpec : ChangeSpec := { name := "triePieces", fn := fun _ => fun
  | [d1, d2, d3, d4] => { results := [.lit (.bool true)], args := [d1, d2, d3, d4] }
  | _ => none }
def triePiecesRow : OpenClaim := { program := "ytakbfppmgngdiaa", sum := "10ef9bc599fc4da334a2a9fcb8792ef9e99f2fcb03590dffe941becb9126c2da", func := "typebar/typebarlaw03.TriePieces", spec := "triePieces", unfollowed := true, recurses := true, plainKeys := false, apart := false }
def TriePiecesSaid : Prop := triePiecesRow.holds Try.pinned (OpenSpec.ofChange triePiecesSpec)

/-- ITS FALSE NEIGHBOUR: 'it returns false'. Refute it at one input. -/
def triePiecesWrong : ChangeSpec := { name := "triePieces", fn := fun _ => fun
  | [d1, d2, d3, d4] => { results := [.lit (.bool false)], args := [d1, d2, d3, d4] }
  | _ => none }
def TriePiecesWrongFalsely : Prop := triePiecesRow.holds Try.pinned (OpenSpec.ofChange triePiecesWrong)

/-- 'typebarlaw03.TrieNone': WHATEVER THE INPUT: true; the input reads as it did. -/
def trieNoneSpec : ChangeSpec := { name := "trieNone", fn := fun _ => fun
  | [d1, d2] => { results := [.lit (.bool true)], args := [d1, d2] }
  | _ => none }
def trieNoneRow : OpenClaim := { program := "ytakbfppmgngdiaa", sum := "10ef9bc599fc4da334a2a9fcb8792ef9e99f2fcb03590dffe941becb9126c2da", func := "typebar/typebarlaw03.TrieNone", spec := "trieNone", unfollowed := true, recurses := true, plainKeys := false, apart := false }
def TrieNoneSaid : Prop := trieNoneRow.holds Try.pinned (OpenSpec.ofChange trieNoneSpec)

/-- ITS FALSE NEIGHBOUR: 'it returns false'. Refute it at one input. -/
def trieNoneWrong : ChangeSpec := { name := "trieNone", fn := fun _ => fun
  | [d1, d2] => { results := [.lit (.bool false)], args := [d1, d2] }
  | _ => none }
def TrieNoneWrongFalsely : Prop := trieNoneRow.holds Try.pinned (OpenSpec.ofChange trieNoneWrong)

/- THE SECOND FORM. 'bulk': how many values and letters a reading holds, each counted each time it is reached (what is shared counts as often as it is met; a slice's spare places count too). A statement '..UptoSaid' is the law's where the arguments, and the package variables that the reading takes, are together of bulk at most 1048576: NARROWER than '..Said'. Prove '..Said' where nothing that the law and all that it calls make is longer than what came in: it says more and counts as full. Else prove '..UptoSaid'. A law counts once. -/
mutual
def uptoBulk {H : Type} : DataW H → Nat
  | .lit (.string bytes) => bytes.length + 1
  | .lit _ => 1
  | .nil => 1
  | .ptr d => uptoBulk d + 1
  | .slice elems spare => uptoBulkAll elems + uptoBulkAll spare + 1
  | .agg parts => uptoBulkAll parts + 1
  | .iface _ d => uptoBulk d + 1
  | .map entries => uptoBulkEntries entries + 1
  | .held _ => 1
def uptoBulkAll {H : Type} : List (DataW H) → Nat
  | [] => 0
  | d :: r => uptoBulk d + uptoBulkAll r
def uptoBulkEntries {H : Type} : List (Lit × DataW H) → Nat
  | [] => 0
  | x :: r => uptoBulkEntry x + uptoBulkEntries r
def uptoBulkEntry {H : Type} : Lit × DataW H → Nat
  | (.string bytes, d) => bytes.length + uptoBulk d + 1
  | (_, d) => uptoBulk d + 1
 end
def uptoSmall : (H : Type) → List (DataW H) → Bool := fun _ ds => decide (uptoBulkAll ds ≤ 1048576)
def OpenSpec.upto (s : _root_.Go.ChangeSpec) : _root_.Go.OpenSpec := { _root_.Go.OpenSpec.ofChange s with cond := some uptoSmall }

/-- 'typebarlaw38.LoopPlays', WHERE WHAT IT READS IS OF BULK AT MOST 1048576: true; the input reads as it did. -/
def loopPlaysUptoRow : OpenClaim := { program := "ytakbfppmgngdiaa", sum := "10ef9bc599fc4da334a2a9fcb8792ef9e99f2fcb03590dffe941becb9126c2da", func := "typebar/typebarlaw38.LoopPlays", spec := "loopPlays", plainKeys := false, apart := false, narrowed := true }
def LoopPlaysUptoSaid : Prop := loopPlaysUptoRow.holds Try.pinned (OpenSpec.upto loopPlaysSpec)

/-- 'typebarlaw38.LoopAll', WHERE WHAT IT READS IS OF BULK AT MOST 1048576: true; the input reads as it did. -/
def loopAllUptoRow : OpenClaim := { program := "ytakbfppmgngdiaa", sum := "10ef9bc599fc4da334a2a9fcb8792ef9e99f2fcb03590dffe941becb9126c2da", func := "typebar/typebarlaw38.LoopAll", spec := "loopAll", plainKeys := false, apart := false, narrowed := true }
def LoopAllUptoSaid : Prop := loopAllUptoRow.holds Try.pinned (OpenSpec.upto loopAllSpec)

/-- 'typebarlaw38.LoopNone', WHERE WHAT IT READS IS OF BULK AT MOST 1048576: true; the input reads as it did. -/
def loopNoneUptoRow : OpenClaim := { program := "ytakbfppmgngdiaa", sum := "10ef9bc599fc4da334a2a9fcb8792ef9e99f2fcb03590dffe941becb9126c2da", func := "typebar/typebarlaw38.LoopNone", spec := "loopNone", plainKeys := false, apart := false, narrowed := true }
def LoopNoneUptoSaid : Prop := loopNoneUptoRow.holds Try.pinned (OpenSpec.upto loopNoneSpec)

/-- 'typebarlaw19.UndoPlays', WHERE WHAT IT READS IS OF BULK AT MOST 1048576: true; the input reads as it did. -/
def undoPlaysUptoRow : OpenClaim := { program := "ytakbfppmgngdiaa", sum := "10ef9bc599fc4da334a2a9fcb8792ef9e99f2fcb03590dffe941becb9126c2da", func := "typebar/typebarlaw19.UndoPlays", spec := "undoPlays", unfollowed := true, recurses := true, plainKeys := false, apart := false, narrowed := true }
def UndoPlaysUptoSaid : Prop := undoPlaysUptoRow.holds Try.pinned (OpenSpec.upto undoPlaysSpec)

/-- 'typebarlaw19.UndoAll', WHERE WHAT IT READS IS OF BULK AT MOST 1048576: true; the input reads as it did. -/
def undoAllUptoRow : OpenClaim := { program := "ytakbfppmgngdiaa", sum := "10ef9bc599fc4da334a2a9fcb8792ef9e99f2fcb03590dffe941becb9126c2da", func := "typebar/typebarlaw19.UndoAll", spec := "undoAll", unfollowed := true, recurses := true, plainKeys := false, apart := false, narrowed := true }
def UndoAllUptoSaid : Prop := undoAllUptoRow.holds Try.pinned (OpenSpec.upto undoAllSpec)

/-- 'typebarlaw19.UndoBack', WHERE WHAT IT READS IS OF BULK AT MOST 1048576: true; the input reads as it did. -/
def undoBackUptoRow : OpenClaim := { program := "ytakbfppmgngdiaa", sum := "10ef9bc599fc4da334a2a9fcb8792ef9e99f2fcb03590dffe941becb9126c2da", func := "typebar/typebarlaw19.UndoBack", spec := "undoBack", unfollowed := true, recurses := true, plainKeys := false, apart := false, narrowed := true }
def UndoBackUptoSaid : Prop := undoBackUptoRow.holds Try.pinned (OpenSpec.upto undoBackSpec)

/-- 'typebarlaw19.UndoMost', WHERE WHAT IT READS IS OF BULK AT MOST 1048576: true; the input reads as it did. -/
def undoMostUptoRow : OpenClaim := { program := "ytakbfppmgngdiaa", sum := "10ef9bc599fc4da334a2a9fcb8792ef9e99f2fcb03590dffe941becb9126c2da", func := "typebar/typebarlaw19.UndoMost", spec := "undoMost", unfollowed := true, recurses := true, plainKeys := false, apart := false, narrowed := true }
def UndoMostUptoSaid : Prop := undoMostUptoRow.holds Try.pinned (OpenSpec.upto undoMostSpec)

/-- 'typebarlaw03.TrieGets', WHERE WHAT IT READS IS OF BULK AT MOST 1048576: true; the input reads as it did. -/
def trieGetsUptoRow : OpenClaim := { program := "ytakbfppmgngdiaa", sum := "10ef9bc599fc4da334a2a9fcb8792ef9e99f2fcb03590dffe941becb9126c2da", func := "typebar/typebarlaw03.TrieGets", spec := "trieGets", plainKeys := false, apart := false, narrowed := true }
def TrieGetsUptoSaid : Prop := trieGetsUptoRow.holds Try.pinned (OpenSpec.upto trieGetsSpec)

/-- 'typebarlaw03.TrieBlocks', WHERE WHAT IT READS IS OF BULK AT MOST 1048576: true; the input reads as it did. -/
def trieBlocksUptoRow : OpenClaim := { program := "ytakbfppmgngdiaa", sum := "10ef9bc599fc4da334a2a9fcb8792ef9e99f2fcb03590dffe941becb9126c2da", func := "typebar/typebarlaw03.TrieBlocks", spec := "trieBlocks", plainKeys := false, apart := false, narrowed := true }
def TrieBlocksUptoSaid : Prop := trieBlocksUptoRow.holds Try.pinned (OpenSpec.upto trieBlocksSpec)

/-- 'typebarlaw03.TrieTypes', WHERE WHAT IT READS IS OF BULK AT MOST 1048576: true; the input reads as it did. -/
def trieTypesUptoRow : OpenClaim := { program := "ytakbfppmgngdiaa", sum := "10ef9bc599fc4da334a2a9fcb8792ef9e99f2fcb03590dffe941becb9126c2da", func := "typebar/typebarlaw03.TrieTypes", spec := "trieTypes", plainKeys := false, apart := false, narrowed := true }
def TrieTypesUptoSaid : Prop := trieTypesUptoRow.holds Try.pinned (OpenSpec.upto trieTypesSpec)

/-- 'typebarlaw03.TriePieces', WHERE WHAT IT READS IS OF BULK AT MOST 1048576: true; the input reads as it did. -/
def triePiecesUptoRow : OpenClaim := { program := "ytakbfppmgngdiaa", sum := "10ef9bc599fc4da334a2a9fcb8792ef9e99f2fcb03590dffe941becb9126c2da", func := "typebar/typebarlaw03.TriePieces", spec := "triePieces", unfollowed := true, recurses := true, plainKeys := false, apart := false, narrowed := true }
def TriePiecesUptoSaid : Prop := triePiecesUptoRow.holds Try.pinned (OpenSpec.upto triePiecesSpec)

/-- 'typebarlaw03.TrieNone', WHERE WHAT IT READS IS OF BULK AT MOST 1048576: true; the input reads as it did. -/
def trieNoneUptoRow : OpenClaim := { program := "ytakbfppmgngdiaa", sum := "10ef9bc599fc4da334a2a9fcb8792ef9e99f2fcb03590dffe941becb9126c2da", func := "typebar/typebarlaw03.TrieNone", spec := "trieNone", unfollowed := true, recurses := true, plainKeys := false, apart := false, narrowed := true }
def TrieNoneUptoSaid : Prop := trieNoneUptoRow.holds Try.pinned (OpenSpec.upto trieNoneSpec)

end Rows
end Go.Proofs.Ytakbfppmgngdiaa
