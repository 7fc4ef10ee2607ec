/-
  No cell of these rows narrows 'for every input' (looked for: loops, veiled, ifaces, maps, wideKeys, modest, calm, conditions, laid).
  DERIVED. THE GIVEN ROWS OF THIS SEAT. 11 by the template 'for every input the law returns true; each argument reads behind the call as it read before'; 0 by the template 'total and deterministic' (their statements: YtcbachblhfkcoaaTotals.lean).
  GIVEN WITH THE SEED: the statements are not yours to turn. If you find one false, say at which input.
  Laid BY PROGRAM, IN A SANDBOX (cutbox-rows.mjs): the forced cells as the released guide's own fill.sh prints them over the translation f830b62f817b9f2b… (all of the seat's roots in one cut). By AI agents, Wed Nov 11 2026. No macro, syntax, notation, axiom, sorry.
-/
import Derived.Test.YtcbachblhfkcoaaChecked
import GoSem.Claim
import GoSem.ClaimJoined
import GoSem.ClaimMapViews
import Derived.JoinedTies
import Derived.KernelRfl
namespace Go.Proofs.Ytcbachblhfkcoaa
/- THE CELL 'sum', in the pinned program and in every row, IS THE sha256 OF THE DUMP (.gsa) THAT YtcbachblhfkcoaaProg.lean LOADS. Nothing in Lean hashes anything: it is a label: what it is worth is what the hold of that sum in a sandbox is worth. -/
noncomputable def Try.pinned : Pinned := { name := "ytcbachblhfkcoaa", sum := "f830b62f817b9f2b589c0a79b56199d5a8b54fe306045ce6326048955bffd5ab", checked := Try.checked }
namespace Rows
def none {H : Type} : Left H := { results := [], args := [] }

/-- 'typebarlaw20.PastBack': WHATEVER THE INPUT: true; the input reads as it did. -/
def pastBackSpec : ChangeSpec := { name := "pastBack", fn := fun _ => fun
  | [d1, d2, d3] => { results := [.lit (.bool true)], args := [d1, d2, d3] }
  | _ => none }
def pastBackRow : OpenClaim := { program := "ytcbachblhfkcoaa", sum := "f830b62f817b9f2b589c0a79b56199d5a8b54fe306045ce6326048955bffd5ab", func := "typebar/typebarlaw20.PastBack", spec := "pastBack", apart := false }
def PastBackSaid : Prop := pastBackRow.holds Try.pinned (OpenSpec.ofChange pastBackSpec)

/-- ITS FALSE NEIGHBOUR: 'it returns false'. Refute it at one input. -/
def pastBackWrong : ChangeSpec := { name := "pastBack", fn := fun _ => fun
  | [d1, d2, d3] => { results := [.lit (.bool false)], args := [d1, d2, d3] }
  | _ => none }
def PastBackWrongFalsely : Prop := pastBackRow.holds Try.pinned (OpenSpec.ofChange pastBackWrong)

/-- 'typebarlaw20.PastPlays': WHATEVER THE INPUT: true; the input reads as it did. -/
def pastPlaysSpec : ChangeSpec := { name := "pastPlays", fn := fun _ => fun
  | [d] => { results := [.lit (.bool true)], args := [d] }
  | _ => none }
def pastPlaysRow : OpenClaim := { program := "ytcbachblhfkcoaa", sum := "f830b62f817b9f2b589c0a79b56199d5a8b54fe306045ce6326048955bffd5ab", func := "typebar/typebarlaw20.PastPlays", spec := "pastPlays", unfollowed := true, recurses := true, apart := false }
def PastPlaysSaid : Prop := pastPlaysRow.holds Try.pinned (OpenSpec.ofChange pastPlaysSpec)

/-- ITS FALSE NEIGHBOUR: 'it returns false'. Refute it at one input. -/
def pastPlaysWrong : ChangeSpec := { name := "pastPlays", fn := fun _ => fun
  | [d] => { results := [.lit (.bool false)], args := [d] }
  | _ => none }
def PastPlaysWrongFalsely : Prop := pastPlaysRow.holds Try.pinned (OpenSpec.ofChange pastPlaysWrong)

/-- 'typebarlaw20.PastMost': WHATEVER THE INPUT: true; the input reads as it did. -/
def pastMostSpec : ChangeSpec := { name := "pastMost", fn := fun _ => fun
  | [d1, d2] => { results := [.lit (.bool true)], args := [d1, d2] }
  | _ => none }
def pastMostRow : OpenClaim := { program := "ytcbachblhfkcoaa", sum := "f830b62f817b9f2b589c0a79b56199d5a8b54fe306045ce6326048955bffd5ab", func := "typebar/typebarlaw20.PastMost", spec := "pastMost", unfollowed := true, recurses := true, apart := false }
def PastMostSaid : Prop := pastMostRow.holds Try.pinned (OpenSpec.ofChange pastMostSpec)

/-- ITS FALSE NEIGHBOUR: 'it returns false'. Refute it at one input. -/
def pastMostWrong : ChangeSpec := { name := "pastMost", fn := fun _ => fun
  | [d1, d2] => { results := [.lit (.bool false)], args := [d1, d2] }
  | _ => none }
def PastMostWrongFalsely : Prop := pastMostRow.holds Try.pinned (OpenSpec.ofChange pastMostWrong)

/-- 'typebarlaw20.PastExpands': WHATEVER THE INPUT: true; the input reads as it did. -/
def pastExpandsSpec : ChangeSpec := { name := "pastExpands", fn := fun _ => fun
  | [d1, d2] => { results := [.lit (.bool true)], args := [d1, d2] }
  | _ => none }
def pastExpandsRow : OpenClaim := { program := "ytcbachblhfkcoaa", sum := "f830b62f817b9f2b589c0a79b56199d5a8b54fe306045ce6326048955bffd5ab", func := "typebar/typebarlaw20.PastExpands", spec := "pastExpands", unfollowed := true, recurses := true, apart := false }
def PastExpandsSaid : Prop := pastExpandsRow.holds Try.pinned (OpenSpec.ofChange pastExpandsSpec)

/-- ITS FALSE NEIGHBOUR: 'it returns false'. Refute it at one input. -/
def pastExpandsWrong : ChangeSpec := { name := "pastExpands", fn := fun _ => fun
  | [d1, d2] => { results := [.lit (.bool false)], args := [d1, d2] }
  | _ => none }
def PastExpandsWrongFalsely : Prop := pastExpandsRow.holds Try.pinned (OpenSpec.ofChange pastExpandsWrong)

/-- 'typebarlaw20.PastPlain': WHATEVER THE INPUT: true; the input reads as it did. -/
def pastPlainSpec : ChangeSpec := { name := "pastPlain", fn := fun _ => fun
  | [d1, d2] => { results := [.lit (.bool true)], args := [d1, d2] }
  | _ => none }
def pastPlainRow : OpenClaim := { program := "ytcbachblhfkcoaa", sum := "f830b62f817b9f2b589c0a79b56199d5a8b54fe306045ce6326048955bffd5ab", func := "typebar/typebarlaw20.PastPlain", spec := "pastPlain", unfollowed := true, recurses := true, apart := false }
def PastPlainSaid : Prop := pastPlainRow.holds Try.pinned (OpenSpec.ofChange pastPlainSpec)

/-- ITS FALSE NEIGHBOUR: 'it returns false'. Refute it at one input. -/
def pastPlainWrong : ChangeSpec := { name := "pastPlain", fn := fun _ => fun
  | [d1, d2] => { results := [.lit (.bool false)], args := [d1, d2] }
  | _ => none }
def PastPlainWrongFalsely : Prop := pastPlainRow.holds Try.pinned (OpenSpec.ofChange pastPlainWrong)

/-- 'typebarlaw47.StoreEntries': WHATEVER THE INPUT: true; the input reads as it did. -/
def storeEntriesSpec : ChangeSpec := { name := "storeEntries", fn := fun _ => fun
  | [d1, d2] => { results := [.lit (.bool true)], args := [d1, d2] }
  | _ => none }
def storeEntriesRow : OpenClaim := { program := "ytcbachblhfkcoaa", sum := "f830b62f817b9f2b589c0a79b56199d5a8b54fe306045ce6326048955bffd5ab", func := "typebar/typebarlaw47.StoreEntries", spec := "storeEntries", inPlace := ["internal/abi.NoEscape", "internal/bytealg.IndexByteString"], apart := false }
def StoreEntriesSaid : Prop := storeEntriesRow.holds Try.pinned (OpenSpec.ofChange storeEntriesSpec)

/-- ITS FALSE NEIGHBOUR: 'it returns false'. Refute it at one input. -/
def storeEntriesWrong : ChangeSpec := { name := "storeEntries", fn := fun _ => fun
  | [d1, d2] => { results := [.lit (.bool false)], args := [d1, d2] }
  | _ => none }
def StoreEntriesWrongFalsely : Prop := storeEntriesRow.holds Try.pinned (OpenSpec.ofChange storeEntriesWrong)

/-- 'typebarlaw47.StoreReads': WHATEVER THE INPUT: true; the input reads as it did. -/
def storeReadsSpec : ChangeSpec := { name := "storeReads", fn := fun _ => fun
  | [d] => { results := [.lit (.bool true)], args := [d] }
  | _ => none }
def storeReadsRow : OpenClaim := { program := "ytcbachblhfkcoaa", sum := "f830b62f817b9f2b589c0a79b56199d5a8b54fe306045ce6326048955bffd5ab", func := "typebar/typebarlaw47.StoreReads", spec := "storeReads", inPlace := ["internal/bytealg.IndexByteString", "internal/abi.NoEscape"], apart := false }
def StoreReadsSaid : Prop := storeReadsRow.holds Try.pinned (OpenSpec.ofChange storeReadsSpec)

/-- ITS FALSE NEIGHBOUR: 'it returns false'. Refute it at one input. -/
def storeReadsWrong : ChangeSpec := { name := "storeReads", fn := fun _ => fun
  | [d] => { results := [.lit (.bool false)], args := [d] }
  | _ => none }
def StoreReadsWrongFalsely : Prop := storeReadsRow.holds Try.pinned (OpenSpec.ofChange storeReadsWrong)

/-- 'typebarlaw47.StoreFull': WHATEVER THE INPUT: true; the input reads as it did. -/
def storeFullSpec : ChangeSpec := { name := "storeFull", fn := fun _ => fun
  | [d] => { results := [.lit (.bool true)], args := [d] }
  | _ => none }
def storeFullRow : OpenClaim := { program := "ytcbachblhfkcoaa", sum := "f830b62f817b9f2b589c0a79b56199d5a8b54fe306045ce6326048955bffd5ab", func := "typebar/typebarlaw47.StoreFull", spec := "storeFull", inPlace := ["internal/abi.NoEscape", "internal/bytealg.IndexByteString"], apart := false }
def StoreFullSaid : Prop := storeFullRow.holds Try.pinned (OpenSpec.ofChange storeFullSpec)

/-- ITS FALSE NEIGHBOUR: 'it returns false'. Refute it at one input. -/
def storeFullWrong : ChangeSpec := { name := "storeFull", fn := fun _ => fun
  | [d] => { results := [.lit (.bool false)], args := [d] }
  | _ => none }
def StoreFullWrongFalsely : Prop := storeFullRow.holds Try.pinned (OpenSpec.ofChange storeFullWrong)

/-- 'typebarlaw47.StoreTears': WHATEVER THE INPUT: true; the input reads as it did. -/
def storeTearsSpec : ChangeSpec := { name := "storeTears", fn := fun _ => fun
  | [d1, d2] => { results := [.lit (.bool true)], args := [d1, d2] }
  | _ => none }
def storeTearsRow : OpenClaim := { program := "ytcbachblhfkcoaa", sum := "f830b62f817b9f2b589c0a79b56199d5a8b54fe306045ce6326048955bffd5ab", func := "typebar/typebarlaw47.StoreTears", spec := "storeTears", inPlace := ["internal/abi.NoEscape", "internal/bytealg.IndexByteString"], apart := false }
def StoreTearsSaid : Prop := storeTearsRow.holds Try.pinned (OpenSpec.ofChange storeTearsSpec)

/-- ITS FALSE NEIGHBOUR: 'it returns false'. Refute it at one input. -/
def storeTearsWrong : ChangeSpec := { name := "storeTears", fn := fun _ => fun
  | [d1, d2] => { results := [.lit (.bool false)], args := [d1, d2] }
  | _ => none }
def StoreTearsWrongFalsely : Prop := storeTearsRow.holds Try.pinned (OpenSpec.ofChange storeTearsWrong)

/-- 'typebarlaw47.StoreTrims': WHATEVER THE INPUT: true; the input reads as it did. -/
def storeTrimsSpec : ChangeSpec := { name := "storeTrims", fn := fun _ => fun
  | [d1, d2, d3] => { results := [.lit (.bool true)], args := [d1, d2, d3] }
  | _ => none }
def storeTrimsRow : OpenClaim := { program := "ytcbachblhfkcoaa", sum := "f830b62f817b9f2b589c0a79b56199d5a8b54fe306045ce6326048955bffd5ab", func := "typebar/typebarlaw47.StoreTrims", spec := "storeTrims", inPlace := ["internal/bytealg.IndexByteString", "internal/abi.NoEscape"], apart := false }
def StoreTrimsSaid : Prop := storeTrimsRow.holds Try.pinned (OpenSpec.ofChange storeTrimsSpec)

/-- ITS FALSE NEIGHBOUR: 'it returns false'. Refute it at one input. -/
def storeTrimsWrong : ChangeSpec := { name := "storeTrims", fn := fun _ => fun
  | [d1, d2, d3] => { results := [.lit (.bool false)], args := [d1, d2, d3] }
  | _ => none }
def StoreTrimsWrongFalsely : Prop := storeTrimsRow.holds Try.pinned (OpenSpec.ofChange storeTrimsWrong)

/-- 'typebarlaw47.StorePast': WHATEVER THE INPUT: true; the input reads as it did. -/
def storePastSpec : ChangeSpec := { name := "storePast", fn := fun _ => fun
  | [d] => { results := [.lit (.bool true)], args := [d] }
  | _ => none }
def storePastRow : OpenClaim := { program := "ytcbachblhfkcoaa", sum := "f830b62f817b9f2b589c0a79b56199d5a8b54fe306045ce6326048955bffd5ab", func := "typebar/typebarlaw47.StorePast", spec := "storePast", inPlace := ["internal/bytealg.IndexByteString", "internal/abi.NoEscape"], unfollowed := true, recurses := true, apart := false }
def StorePastSaid : Prop := storePastRow.holds Try.pinned (OpenSpec.ofChange storePastSpec)

/-- ITS FALSE NEIGHBOUR: 'it returns false'. Refute it at one input. -/
def storePastWrong : ChangeSpec := { name := "storePast", fn := fun _ => fun
  | [d] => { results := [.lit (.bool false)], args := [d] }
  | _ => none }
def StorePastWrongFalsely : Prop := storePastRow.holds Try.pinned (OpenSpec.ofChange storePastWrong)

/- THE SECOND FORM. 'bulk': how many values and letters a reading holds, each counted each time it is reached (what is shared counts as often as it is met; a slice's spare places count too). A statement '..UptoSaid' is the law's where the arguments, and the package variables that the reading takes, are together of bulk at most 1048576: NARROWER than '..Said'. Prove '..Said' where nothing that the law and all that it calls make is longer than what came in: it says more and counts as full. Else prove '..UptoSaid'. A law counts once. -/
mutual
def uptoBulk {H : Type} : DataW H → Nat
  | .lit (.string bytes) => bytes.length + 1
  | .lit _ => 1
  | .nil => 1
  | .ptr d => uptoBulk d + 1
  | .slice elems spare => uptoBulkAll elems + uptoBulkAll spare + 1
  | .agg parts => uptoBulkAll parts + 1
  | .iface _ d => uptoBulk d + 1
  | .map entries => uptoBulkEntries entries + 1
  | .held _ => 1
def uptoBulkAll {H : Type} : List (DataW H) → Nat
  | [] => 0
  | d :: r => uptoBulk d + uptoBulkAll r
def uptoBulkEntries {H : Type} : List (Lit × DataW H) → Nat
  | [] => 0
  | x :: r => uptoBulkEntry x + uptoBulkEntries r
def uptoBulkEntry {H : Type} : Lit × DataW H → Nat
  | (.string bytes, d) => bytes.length + uptoBulk d + 1
  | (_, d) => uptoBulk d + 1
 end
def uptoSmall : (H : Type) → List (DataW H) → Bool := fun _ ds => decide (uptoBulkAll ds ≤ 1048576)
def OpenSpec.upto (s : _root_.Go.ChangeSpec) : _root_.Go.OpenSpec := { _root_.Go.OpenSpec.ofChange s with cond := some uptoSmall }

/-- 'typebarlaw20.PastBack', WHERE WHAT IT READS IS OF BULK AT MOST 1048576: true; the input reads as it did. -/
def pastBackUptoRow : OpenClaim := { program := "ytcbachblhfkcoaa", sum := "f830b62f817b9f2b589c0a79b56199d5a8b54fe306045ce6326048955bffd5ab", func := "typebar/typebarlaw20.PastBack", spec := "pastBack", apart := false, narrowed := true }
def PastBackUptoSaid : Prop := pastBackUptoRow.holds Try.pinned (OpenSpec.upto pastBackSpec)

/-- 'typebarlaw20.PastPlays', WHERE WHAT IT READS IS OF BULK AT MOST 1048576: true; the input reads as it did. -/
def pastPlaysUptoRow : OpenClaim := { program := "ytcbachblhfkcoaa", sum := "f830b62f817b9f2b589c0a79b56199d5a8b54fe306045ce6326048955bffd5ab", func := "typebar/typebarlaw20.PastPlays", spec := "pastPlays", unfollowed := true, recurses := true, apart := false, narrowed := true }
def PastPlaysUptoSaid : Prop := pastPlaysUptoRow.holds Try.pinned (OpenSpec.upto pastPlaysSpec)

/-- 'typebarlaw20.PastMost', WHERE WHAT IT READS IS OF BULK AT MOST 1048576: true; the input reads as it did. -/
def pastMostUptoRow : OpenClaim := { program := "ytcbachblhfkcoaa", sum := "f830b62f817b9f2b589c0a79b56199d5a8b54fe306045ce6326048955bffd5ab", func := "typebar/typebarlaw20.PastMost", spec := "pastMost", unfollowed := true, recurses := true, apart := false, narrowed := true }
def PastMostUptoSaid : Prop := pastMostUptoRow.holds Try.pinned (OpenSpec.upto pastMostSpec)

/-- 'typebarlaw20.PastExpands', WHERE WHAT IT READS IS OF BULK AT MOST 1048576: true; the input reads as it did. -/
def pastExpandsUptoRow : OpenClaim := { program := "ytcbachblhfkcoaa", sum := "f830b62f817b9f2b589c0a79b56199d5a8b54fe306045ce6326048955bffd5ab", func := "typebar/typebarlaw20.PastExpands", spec := "pastExpands", unfollowed := true, recurses := true, apart := false, narrowed := true }
def PastExpandsUptoSaid : Prop := pastExpandsUptoRow.holds Try.pinned (OpenSpec.upto pastExpandsSpec)

/-- 'typebarlaw20.PastPlain', WHERE WHAT IT READS IS OF BULK AT MOST 1048576: true; the input reads as it did. -/
def pastPlainUptoRow : OpenClaim := { program := "ytcbachblhfkcoaa", sum := "f830b62f817b9f2b589c0a79b56199d5a8b54fe306045ce6326048955bffd5ab", func := "typebar/typebarlaw20.PastPlain", spec := "pastPlain", unfollowed := true, recurses := true, apart := false, narrowed := true }
def PastPlainUptoSaid : Prop := pastPlainUptoRow.holds Try.pinned (OpenSpec.upto pastPlainSpec)

/-- 'typebarlaw47.StoreEntries', WHERE WHAT IT READS IS OF BULK AT MOST 1048576: true; the input reads as it did. -/
def storeEntriesUptoRow : OpenClaim := { program := "ytcbachblhfkcoaa", sum := "f830b62f817b9f2b589c0a79b56199d5a8b54fe306045ce6326048955bffd5ab", func := "typebar/typebarlaw47.StoreEntries", spec := "storeEntries", inPlace := ["internal/abi.NoEscape", "internal/bytealg.IndexByteString"], apart := false, narrowed := true }
def StoreEntriesUptoSaid : Prop := storeEntriesUptoRow.holds Try.pinned (OpenSpec.upto storeEntriesSpec)

/-- 'typebarlaw47.StoreReads', WHERE WHAT IT READS IS OF BULK AT MOST 1048576: true; the input reads as it did. -/
def storeReadsUptoRow : OpenClaim := { program := "ytcbachblhfkcoaa", sum := "f830b62f817b9f2b589c0a79b56199d5a8b54fe306045ce6326048955bffd5ab", func := "typebar/typebarlaw47.StoreReads", spec := "storeReads", inPlace := ["internal/bytealg.IndexByteString", "internal/abi.NoEscape"], apart := false, narrowed := true }
def StoreReadsUptoSaid : Prop := storeReadsUptoRow.holds Try.pinned (OpenSpec.upto storeReadsSpec)

/-- 'typebarlaw47.StoreFull', WHERE WHAT IT READS IS OF BULK AT MOST 1048576: true; the input reads as it did. -/
def storeFullUptoRow : OpenClaim := { program := "ytcbachblhfkcoaa", sum := "f830b62f817b9f2b589c0a79b56199d5a8b54fe306045ce6326048955bffd5ab", func := "typebar/typebarlaw47.StoreFull", spec := "storeFull", inPlace := ["internal/abi.NoEscape", "internal/bytealg.IndexByteString"], apart := false, narrowed := true }
def StoreFullUptoSaid : Prop := storeFullUptoRow.holds Try.pinned (OpenSpec.upto storeFullSpec)

/-- 'typebarlaw47.StoreTears', WHERE WHAT IT READS IS OF BULK AT MOST 1048576: true; the input reads as it did. -/
def storeTearsUptoRow : OpenClaim := { program := "ytcbachblhfkcoaa", sum := "f830b62f817b9f2b589c0a79b56199d5a8b54fe306045ce6326048955bffd5ab", func := "typebar/typebarlaw47.StoreTears", spec := "storeTears", inPlace := ["internal/abi.NoEscape", "internal/bytealg.IndexByteString"], apart := false, narrowed := true }
def StoreTearsUptoSaid : Prop := storeTearsUptoRow.holds Try.pinned (OpenSpec.upto storeTearsSpec)

/-- 'typebarlaw47.StoreTrims', WHERE WHAT IT READS IS OF BULK AT MOST 1048576: true; the input reads as it did. -/
def storeTrimsUptoRow : OpenClaim := { program := "ytcbachblhfkcoaa", sum := "f830b62f817b9f2b589c0a79b56199d5a8b54fe306045ce6326048955bffd5ab", func := "typebar/typebarlaw47.StoreTrims", spec := "storeTrims", inPlace := ["internal/bytealg.IndexByteString", "internal/abi.NoEscape"], apart := false, narrowed := true }
def StoreTrimsUptoSaid : Prop := storeTrimsUptoRow.holds Try.pinned (OpenSpec.upto storeTrimsSpec)

/-- 'typebarlaw47.StorePast', WHERE WHAT IT READS IS OF BULK AT MOST 1048576: true; the input reads as it did. -/
def storePastUptoRow : OpenClaim := { program := "ytcbachblhfkcoaa", sum := "f830b62f817b9f2b589c0a79b56199d5a8b54fe306045ce6326048955bffd5ab", func := "typebar/typebarlaw47.StorePast", spec := "storePast", inPlace := ["internal/bytealg.IndexByteString", "internal/abi.NoEscape"], unfollowed := true, recurses := true, apart := false, narrowed := true }
def StorePastUptoSaid : Prop := storePastUptoRow.holds Try.pinned (OpenSpec.upto storePastSpec)

end Rows
end Go.Proofs.Ytcbachblhfkcoaa
