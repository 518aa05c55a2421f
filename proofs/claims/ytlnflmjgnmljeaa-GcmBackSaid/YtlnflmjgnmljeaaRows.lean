/-
  No cell of these rows narrows 'for every input' (looked for: loops, veiled, ifaces, maps, wideKeys, modest, calm, conditions, laid).
  DERIVED. THE GIVEN ROWS OF THIS SEAT. 12 by the template 'for every input the law returns true; each argument reads behind the call as it read before'; 0 by the template 'total and deterministic' (their statements: YtlnflmjgnmljeaaTotals.lean).
  GIVEN WITH THE SEED: the statements are not yours to turn. If you find one false, say at which input.
  Laid BY PROGRAM, IN A SANDBOX (cutbox-rows.mjs): the forced cells as the released guide's own fill.sh prints them over the translation abf50e852761de48… (all of the seat's roots in one cut). By AI agents, Wed Nov 11 2026. No macro, syntax, notation, axiom, sorry.
-/
import Derived.Test.YtlnflmjgnmljeaaChecked
import GoSem.Claim
import GoSem.ClaimJoined
import GoSem.ClaimMapViews
import Derived.JoinedTies
import Derived.KernelRfl
namespace Go.Proofs.Ytlnflmjgnmljeaa
/- THE CELL 'sum', in the pinned program and in every row, IS THE sha256 OF THE DUMP (.gsa) THAT YtlnflmjgnmljeaaProg.lean LOADS. Nothing in Lean hashes anything: it is a label: what it is worth is what the hold of that sum in a sandbox is worth. -/
noncomputable def Try.pinned : Pinned := { name := "ytlnflmjgnmljeaa", sum := "abf50e852761de48819f29e13019358e343d2f63a106ddca3a721e3a943715a4", checked := Try.checked }
namespace Rows
def none {H : Type} : Left H := { results := [], args := [] }

/-- 'synodlaw08.AesBoxes': WHATEVER THE INPUT: true; the input reads as it did. -/
def aesBoxesSpec : ChangeSpec := { name := "aesBoxes", fn := fun _ => fun
  | [d1, d2] => { results := [.lit (.bool true)], args := [d1, d2] }
  | _ => none }
def aesBoxesRow : OpenClaim := { program := "ytlnflmjgnmljeaa", sum := "abf50e852761de48819f29e13019358e343d2f63a106ddca3a721e3a943715a4", func := "synod/synodlaw08.AesBoxes", spec := "aesBoxes", apart := false }
def AesBoxesSaid : Prop := aesBoxesRow.holds Try.pinned (OpenSpec.ofChange aesBoxesSpec)

/-- ITS FALSE NEIGHBOUR: 'it returns false'. Refute it at one input. -/
def aesBoxesWrong : ChangeSpec := { name := "aesBoxes", fn := fun _ => fun
  | [d1, d2] => { results := [.lit (.bool false)], args := [d1, d2] }
  | _ => none }
def AesBoxesWrongFalsely : Prop := aesBoxesRow.holds Try.pinned (OpenSpec.ofChange aesBoxesWrong)

/-- 'synodlaw08.AesKeys': WHATEVER THE INPUT: true; the input reads as it did. -/
def aesKeysSpec : ChangeSpec := { name := "aesKeys", fn := fun _ => fun
  | [d] => { results := [.lit (.bool true)], args := [d] }
  | _ => none }
def aesKeysRow : OpenClaim := { program := "ytlnflmjgnmljeaa", sum := "abf50e852761de48819f29e13019358e343d2f63a106ddca3a721e3a943715a4", func := "synod/synodlaw08.AesKeys", spec := "aesKeys", apart := false }
def AesKeysSaid : Prop := aesKeysRow.holds Try.pinned (OpenSpec.ofChange aesKeysSpec)

/-- ITS FALSE NEIGHBOUR: 'it returns false'. Refute it at one input. -/
def aesKeysWrong : ChangeSpec := { name := "aesKeys", fn := fun _ => fun
  | [d] => { results := [.lit (.bool false)], args := [d] }
  | _ => none }
def AesKeysWrongFalsely : Prop := aesKeysRow.holds Try.pinned (OpenSpec.ofChange aesKeysWrong)

/-- 'synodlaw08.AesBlocks': WHATEVER THE INPUT: true; the input reads as it did. -/
def aesBlocksSpec : ChangeSpec := { name := "aesBlocks", fn := fun _ => fun
  | [d1, d2] => { results := [.lit (.bool true)], args := [d1, d2] }
  | _ => none }
def aesBlocksRow : OpenClaim := { program := "ytlnflmjgnmljeaa", sum := "abf50e852761de48819f29e13019358e343d2f63a106ddca3a721e3a943715a4", func := "synod/synodlaw08.AesBlocks", spec := "aesBlocks", unfollowed := true, recurses := true, apart := false }
def AesBlocksSaid : Prop := aesBlocksRow.holds Try.pinned (OpenSpec.ofChange aesBlocksSpec)

/-- ITS FALSE NEIGHBOUR: 'it returns false'. Refute it at one input. -/
def aesBlocksWrong : ChangeSpec := { name := "aesBlocks", fn := fun _ => fun
  | [d1, d2] => { results := [.lit (.bool false)], args := [d1, d2] }
  | _ => none }
def AesBlocksWrongFalsely : Prop := aesBlocksRow.holds Try.pinned (OpenSpec.ofChange aesBlocksWrong)

/-- 'synodlaw08.AesUndoes': WHATEVER THE INPUT: true; the input reads as it did. -/
def aesUndoesSpec : ChangeSpec := { name := "aesUndoes", fn := fun _ => fun
  | [d1, d2] => { results := [.lit (.bool true)], args := [d1, d2] }
  | _ => none }
def aesUndoesRow : OpenClaim := { program := "ytlnflmjgnmljeaa", sum := "abf50e852761de48819f29e13019358e343d2f63a106ddca3a721e3a943715a4", func := "synod/synodlaw08.AesUndoes", spec := "aesUndoes", unfollowed := true, recurses := true, apart := false }
def AesUndoesSaid : Prop := aesUndoesRow.holds Try.pinned (OpenSpec.ofChange aesUndoesSpec)

/-- ITS FALSE NEIGHBOUR: 'it returns false'. Refute it at one input. -/
def aesUndoesWrong : ChangeSpec := { name := "aesUndoes", fn := fun _ => fun
  | [d1, d2] => { results := [.lit (.bool false)], args := [d1, d2] }
  | _ => none }
def AesUndoesWrongFalsely : Prop := aesUndoesRow.holds Try.pinned (OpenSpec.ofChange aesUndoesWrong)

/-- 'synodlaw08.AesApart': WHATEVER THE INPUT: true; the input reads as it did. -/
def aesApartSpec : ChangeSpec := { name := "aesApart", fn := fun _ => fun
  | [d1, d2, d3] => { results := [.lit (.bool true)], args := [d1, d2, d3] }
  | _ => none }
def aesApartRow : OpenClaim := { program := "ytlnflmjgnmljeaa", sum := "abf50e852761de48819f29e13019358e343d2f63a106ddca3a721e3a943715a4", func := "synod/synodlaw08.AesApart", spec := "aesApart", unfollowed := true, recurses := true, apart := false }
def AesApartSaid : Prop := aesApartRow.holds Try.pinned (OpenSpec.ofChange aesApartSpec)

/-- ITS FALSE NEIGHBOUR: 'it returns false'. Refute it at one input. -/
def aesApartWrong : ChangeSpec := { name := "aesApart", fn := fun _ => fun
  | [d1, d2, d3] => { results := [.lit (.bool false)], args := [d1, d2, d3] }
  | _ => none }
def AesApartWrongFalsely : Prop := aesApartRow.holds Try.pinned (OpenSpec.ofChange aesApartWrong)

/-- 'synodlaw09.GcmSeals': WHATEVER THE INPUT: true; the input reads as it did. -/
def gcmSealsSpec : ChangeSpec := { name := "gcmSeals", fn := fun _ => fun
  | [d] => { results := [.lit (.bool true)], args := [d] }
  | _ => none }
def gcmSealsRow : OpenClaim := { program := "ytlnflmjgnmljeaa", sum := "abf50e852761de48819f29e13019358e343d2f63a106ddca3a721e3a943715a4", func := "synod/synodlaw09.GcmSeals", spec := "gcmSeals", unfollowed := true, recurses := true, apart := false }
def GcmSealsSaid : Prop := gcmSealsRow.holds Try.pinned (OpenSpec.ofChange gcmSealsSpec)

/-- ITS FALSE NEIGHBOUR: 'it returns false'. Refute it at one input. -/
def gcmSealsWrong : ChangeSpec := { name := "gcmSeals", fn := fun _ => fun
  | [d] => { results := [.lit (.bool false)], args := [d] }
  | _ => none }
def GcmSealsWrongFalsely : Prop := gcmSealsRow.holds Try.pinned (OpenSpec.ofChange gcmSealsWrong)

/-- 'synodlaw09.GcmOpens': WHATEVER THE INPUT: true; the input reads as it did. -/
def gcmOpensSpec : ChangeSpec := { name := "gcmOpens", fn := fun _ => fun
  | [d] => { results := [.lit (.bool true)], args := [d] }
  | _ => none }
def gcmOpensRow : OpenClaim := { program := "ytlnflmjgnmljeaa", sum := "abf50e852761de48819f29e13019358e343d2f63a106ddca3a721e3a943715a4", func := "synod/synodlaw09.GcmOpens", spec := "gcmOpens", unfollowed := true, recurses := true, apart := false }
def GcmOpensSaid : Prop := gcmOpensRow.holds Try.pinned (OpenSpec.ofChange gcmOpensSpec)

/-- ITS FALSE NEIGHBOUR: 'it returns false'. Refute it at one input. -/
def gcmOpensWrong : ChangeSpec := { name := "gcmOpens", fn := fun _ => fun
  | [d] => { results := [.lit (.bool false)], args := [d] }
  | _ => none }
def GcmOpensWrongFalsely : Prop := gcmOpensRow.holds Try.pinned (OpenSpec.ofChange gcmOpensWrong)

/-- 'synodlaw09.GcmBack': WHATEVER THE INPUT: true; the input reads as it did. -/
def gcmBackSpec : ChangeSpec := { name := "gcmBack", fn := fun _ => fun
  | [d1, d2, d3, d4] => { results := [.lit (.bool true)], args := [d1, d2, d3, d4] }
  | _ => none }
def gcmBackRow : OpenClaim := { program := "ytlnflmjgnmljeaa", sum := "abf50e852761de48819f29e13019358e343d2f63a106ddca3a721e3a943715a4", func := "synod/synodlaw09.GcmBack", spec := "gcmBack", unfollowed := true, recurses := true, apart := false }
def GcmBackSaid : Prop := gcmBackRow.holds Try.pinned (OpenSpec.ofChange gcmBackSpec)

/-- ITS FALSE NEIGHBOUR: 'it returns false'. Refute it at one input. -/
def gcmBackWrong : ChangeSpec := { name := "gcmBack", fn := fun _ => fun
  | [d1, d2, d3, d4] => { results := [.lit (.bool false)], args := [d1, d2, d3, d4] }
  | _ => none }
def GcmBackWrongFalsely : Prop := gcmBackRow.holds Try.pinned (OpenSpec.ofChange gcmBackWrong)

/-- 'synodlaw09.GcmStreams': WHATEVER THE INPUT: true; the input reads as it did. -/
def gcmStreamsSpec : ChangeSpec := { name := "gcmStreams", fn := fun _ => fun
  | [d1, d2] => { results := [.lit (.bool true)], args := [d1, d2] }
  | _ => none }
def gcmStreamsRow : OpenClaim := { program := "ytlnflmjgnmljeaa", sum := "abf50e852761de48819f29e13019358e343d2f63a106ddca3a721e3a943715a4", func := "synod/synodlaw09.GcmStreams", spec := "gcmStreams", unfollowed := true, recurses := true, apart := false }
def GcmStreamsSaid : Prop := gcmStreamsRow.holds Try.pinned (OpenSpec.ofChange gcmStreamsSpec)

/-- ITS FALSE NEIGHBOUR: 'it returns false'. Refute it at one input. -/
def gcmStreamsWrong : ChangeSpec := { name := "gcmStreams", fn := fun _ => fun
  | [d1, d2] => { results := [.lit (.bool false)], args := [d1, d2] }
  | _ => none }
def GcmStreamsWrongFalsely : Prop := gcmStreamsRow.holds Try.pinned (OpenSpec.ofChange gcmStreamsWrong)

/-- 'synodlaw09.GcmProducts': WHATEVER THE INPUT: true; the input reads as it did. -/
def gcmProductsSpec : ChangeSpec := { name := "gcmProducts", fn := fun _ => fun
  | [d1, d2] => { results := [.lit (.bool true)], args := [d1, d2] }
  | _ => none }
def gcmProductsRow : OpenClaim := { program := "ytlnflmjgnmljeaa", sum := "abf50e852761de48819f29e13019358e343d2f63a106ddca3a721e3a943715a4", func := "synod/synodlaw09.GcmProducts", spec := "gcmProducts", unfollowed := true, recurses := true, apart := false }
def GcmProductsSaid : Prop := gcmProductsRow.holds Try.pinned (OpenSpec.ofChange gcmProductsSpec)

/-- ITS FALSE NEIGHBOUR: 'it returns false'. Refute it at one input. -/
def gcmProductsWrong : ChangeSpec := { name := "gcmProducts", fn := fun _ => fun
  | [d1, d2] => { results := [.lit (.bool false)], args := [d1, d2] }
  | _ => none }
def GcmProductsWrongFalsely : Prop := gcmProductsRow.holds Try.pinned (OpenSpec.ofChange gcmProductsWrong)

/-- 'synodlaw09.GcmHashes': WHATEVER THE INPUT: true; the input reads as it did. -/
def gcmHashesSpec : ChangeSpec := { name := "gcmHashes", fn := fun _ => fun
  | [d1, d2] => { results := [.lit (.bool true)], args := [d1, d2] }
  | _ => none }
def gcmHashesRow : OpenClaim := { program := "ytlnflmjgnmljeaa", sum := "abf50e852761de48819f29e13019358e343d2f63a106ddca3a721e3a943715a4", func := "synod/synodlaw09.GcmHashes", spec := "gcmHashes", unfollowed := true, recurses := true, apart := false }
def GcmHashesSaid : Prop := gcmHashesRow.holds Try.pinned (OpenSpec.ofChange gcmHashesSpec)

/-- ITS FALSE NEIGHBOUR: 'it returns false'. Refute it at one input. -/
def gcmHashesWrong : ChangeSpec := { name := "gcmHashes", fn := fun _ => fun
  | [d1, d2] => { results := [.lit (.bool false)], args := [d1, d2] }
  | _ => none }
def GcmHashesWrongFalsely : Prop := gcmHashesRow.holds Try.pinned (OpenSpec.ofChange gcmHashesWrong)

/-- 'synodlaw09.GcmLaws': WHATEVER THE INPUT: true; the input reads as it did. -/
def gcmLawsSpec : ChangeSpec := { name := "gcmLaws", fn := fun _ => fun
  | [d1, d2, d3] => { results := [.lit (.bool true)], args := [d1, d2, d3] }
  | _ => none }
def gcmLawsRow : OpenClaim := { program := "ytlnflmjgnmljeaa", sum := "abf50e852761de48819f29e13019358e343d2f63a106ddca3a721e3a943715a4", func := "synod/synodlaw09.GcmLaws", spec := "gcmLaws", unfollowed := true, recurses := true, apart := false }
def GcmLawsSaid : Prop := gcmLawsRow.holds Try.pinned (OpenSpec.ofChange gcmLawsSpec)

/-- ITS FALSE NEIGHBOUR: 'it returns false'. Refute it at one input. -/
def gcmLawsWrong : ChangeSpec := { name := "gcmLaws", fn := fun _ => fun
  | [d1, d2, d3] => { results := [.lit (.bool false)], args := [d1, d2, d3] }
  | _ => none }
def GcmLawsWrongFalsely : Prop := gcmLawsRow.holds Try.pinned (OpenSpec.ofChange gcmLawsWrong)

/- THE SECOND FORM. 'bulk': how many values and letters a reading holds, each counted each time it is reached (what is shared counts as often as it is met; a slice's spare places count too). A statement '..UptoSaid' is the law's where the arguments, and the package variables that the reading takes, are together of bulk at most 1048576: NARROWER than '..Said'. Prove '..Said' where nothing that the law and all that it calls make is longer than what came in: it says more and counts as full. Else prove '..UptoSaid'. A law counts once. -/
mutual
def uptoBulk {H : Type} : DataW H → Nat
  | .lit (.string bytes) => bytes.length + 1
  | .lit _ => 1
  | .nil => 1
  | .ptr d => uptoBulk d + 1
  | .slice elems spare => uptoBulkAll elems + uptoBulkAll spare + 1
  | .agg parts => uptoBulkAll parts + 1
  | .iface _ d => uptoBulk d + 1
  | .map entries => uptoBulkEntries entries + 1
  | .held _ => 1
def uptoBulkAll {H : Type} : List (DataW H) → Nat
  | [] => 0
  | d :: r => uptoBulk d + uptoBulkAll r
def uptoBulkEntries {H : Type} : List (Lit × DataW H) → Nat
  | [] => 0
  | x :: r => uptoBulkEntry x + uptoBulkEntries r
def uptoBulkEntry {H : Type} : Lit × DataW H → Nat
  | (.string bytes, d) => bytes.length + uptoBulk d + 1
  | (_, d) => uptoBulk d + 1
 end
def uptoSmall : (H : Type) → List (DataW H) → Bool := fun _ ds => decide (uptoBulkAll ds ≤ 1048576)
def OpenSpec.upto (s : _root_.Go.ChangeSpec) : _root_.Go.OpenSpec := { _root_.Go.OpenSpec.ofChange s with cond := some uptoSmall }

/-- 'synodlaw08.AesBoxes', WHERE WHAT IT READS IS OF BULK AT MOST 1048576: true; the input reads as it did. -/
def aesBoxesUptoRow : OpenClaim := { program := "ytlnflmjgnmljeaa", sum := "abf50e852761de48819f29e13019358e343d2f63a106ddca3a721e3a943715a4", func := "synod/synodlaw08.AesBoxes", spec := "aesBoxes", apart := false, narrowed := true }
def AesBoxesUptoSaid : Prop := aesBoxesUptoRow.holds Try.pinned (OpenSpec.upto aesBoxesSpec)

/-- 'synodlaw08.AesKeys', WHERE WHAT IT READS IS OF BULK AT MOST 1048576: true; the input reads as it did. -/
def aesKeysUptoRow : OpenClaim := { program := "ytlnflmjgnmljeaa", sum := "abf50e852761de48819f29e13019358e343d2f63a106ddca3a721e3a943715a4", func := "synod/synodlaw08.AesKeys", spec := "aesKeys", apart := false, narrowed := true }
def AesKeysUptoSaid : Prop := aesKeysUptoRow.holds Try.pinned (OpenSpec.upto aesKeysSpec)

/-- 'synodlaw08.AesBlocks', WHERE WHAT IT READS IS OF BULK AT MOST 1048576: true; the input reads as it did. -/
def aesBlocksUptoRow : OpenClaim := { program := "ytlnflmjgnmljeaa", sum := "abf50e852761de48819f29e13019358e343d2f63a106ddca3a721e3a943715a4", func := "synod/synodlaw08.AesBlocks", spec := "aesBlocks", unfollowed := true, recurses := true, apart := false, narrowed := true }
def AesBlocksUptoSaid : Prop := aesBlocksUptoRow.holds Try.pinned (OpenSpec.upto aesBlocksSpec)

/-- 'synodlaw08.AesUndoes', WHERE WHAT IT READS IS OF BULK AT MOST 1048576: true; the input reads as it did. -/
def aesUndoesUptoRow : OpenClaim := { program := "ytlnflmjgnmljeaa", sum := "abf50e852761de48819f29e13019358e343d2f63a106ddca3a721e3a943715a4", func := "synod/synodlaw08.AesUndoes", spec := "aesUndoes", unfollowed := true, recurses := true, apart := false, narrowed := true }
def AesUndoesUptoSaid : Prop := aesUndoesUptoRow.holds Try.pinned (OpenSpec.upto aesUndoesSpec)

/-- 'synodlaw08.AesApart', WHERE WHAT IT READS IS OF BULK AT MOST 1048576: true; the input reads as it did. -/
def aesApartUptoRow : OpenClaim := { program := "ytlnflmjgnmljeaa", sum := "abf50e852761de48819f29e13019358e343d2f63a106ddca3a721e3a943715a4", func := "synod/synodlaw08.AesApart", spec := "aesApart", unfollowed := true, recurses := true, apart := false, narrowed := true }
def AesApartUptoSaid : Prop := aesApartUptoRow.holds Try.pinned (OpenSpec.upto aesApartSpec)

/-- 'synodlaw09.GcmSeals', WHERE WHAT IT READS IS OF BULK AT MOST 1048576: true; the input reads as it did. -/
def gcmSealsUptoRow : OpenClaim := { program := "ytlnflmjgnmljeaa", sum := "abf50e852761de48819f29e13019358e343d2f63a106ddca3a721e3a943715a4", func := "synod/synodlaw09.GcmSeals", spec := "gcmSeals", unfollowed := true, recurses := true, apart := false, narrowed := true }
def GcmSealsUptoSaid : Prop := gcmSealsUptoRow.holds Try.pinned (OpenSpec.upto gcmSealsSpec)

/-- 'synodlaw09.GcmOpens', WHERE WHAT IT READS IS OF BULK AT MOST 1048576: true; the input reads as it did. -/
def gcmOpensUptoRow : OpenClaim := { program := "ytlnflmjgnmljeaa", sum := "abf50e852761de48819f29e13019358e343d2f63a106ddca3a721e3a943715a4", func := "synod/synodlaw09.GcmOpens", spec := "gcmOpens", unfollowed := true, recurses := true, apart := false, narrowed := true }
def GcmOpensUptoSaid : Prop := gcmOpensUptoRow.holds Try.pinned (OpenSpec.upto gcmOpensSpec)

/-- 'synodlaw09.GcmBack', WHERE WHAT IT READS IS OF BULK AT MOST 1048576: true; the input reads as it did. -/
def gcmBackUptoRow : OpenClaim := { program := "ytlnflmjgnmljeaa", sum := "abf50e852761de48819f29e13019358e343d2f63a106ddca3a721e3a943715a4", func := "synod/synodlaw09.GcmBack", spec := "gcmBack", unfollowed := true, recurses := true, apart := false, narrowed := true }
def GcmBackUptoSaid : Prop := gcmBackUptoRow.holds Try.pinned (OpenSpec.upto gcmBackSpec)

/-- 'synodlaw09.GcmStreams', WHERE WHAT IT READS IS OF BULK AT MOST 1048576: true; the input reads as it did. -/
def gcmStreamsUptoRow : OpenClaim := { program := "ytlnflmjgnmljeaa", sum := "abf50e852761de48819f29e13019358e343d2f63a106ddca3a721e3a943715a4", func := "synod/synodlaw09.GcmStreams", spec := "gcmStreams", unfollowed := true, recurses := true, apart := false, narrowed := true }
def GcmStreamsUptoSaid : Prop := gcmStreamsUptoRow.holds Try.pinned (OpenSpec.upto gcmStreamsSpec)

/-- 'synodlaw09.GcmProducts', WHERE WHAT IT READS IS OF BULK AT MOST 1048576: true; the input reads as it did. -/
def gcmProductsUptoRow : OpenClaim := { program := "ytlnflmjgnmljeaa", sum := "abf50e852761de48819f29e13019358e343d2f63a106ddca3a721e3a943715a4", func := "synod/synodlaw09.GcmProducts", spec := "gcmProducts", unfollowed := true, recurses := true, apart := false, narrowed := true }
def GcmProductsUptoSaid : Prop := gcmProductsUptoRow.holds Try.pinned (OpenSpec.upto gcmProductsSpec)

/-- 'synodlaw09.GcmHashes', WHERE WHAT IT READS IS OF BULK AT MOST 1048576: true; the input reads as it did. -/
def gcmHashesUptoRow : OpenClaim := { program := "ytlnflmjgnmljeaa", sum := "abf50e852761de48819f29e13019358e343d2f63a106ddca3a721e3a943715a4", func := "synod/synodlaw09.GcmHashes", spec := "gcmHashes", unfollowed := true, recurses := true, apart := false, narrowed := true }
def GcmHashesUptoSaid : Prop := gcmHashesUptoRow.holds Try.pinned (OpenSpec.upto gcmHashesSpec)

/-- 'synodlaw09.GcmLaws', WHERE WHAT IT READS IS OF BULK AT MOST 1048576: true; the input reads as it did. -/
def gcmLawsUptoRow : OpenClaim := { program := "ytlnflmjgnmljeaa", sum := "abf50e852761de48819f29e13019358e343d2f63a106ddca3a721e3a943715a4", func := "synod/synodlaw09.GcmLaws", spec := "gcmLaws", unfollowed := true, recurses := true, apart := false, narrowed := true }
def GcmLawsUptoSaid : Prop := gcmLawsUptoRow.holds Try.pinned (OpenSpec.upto gcmLawsSpec)

end Rows
end Go.Proofs.Ytlnflmjgnmljeaa
