/-
  No cell of these rows narrows 'for every input' (looked for: loops, veiled, ifaces, maps, wideKeys, modest, calm, conditions, laid).
  DERIVED. THE GIVEN ROWS OF THIS SEAT. 6 by the template 'for every input the law returns true; each argument reads behind the call as it read before'; 0 by the template 'total and deterministic' (their statements: YtmfacmccilipfaaTotals.lean).
  GIVEN WITH THE SEED: the statements are not yours to turn. If you find one false, say at which input.
  Laid BY PROGRAM, IN A SANDBOX (cutbox-rows.mjs): the forced cells as the released guide's own fill.sh prints them over the translation 7aa3e70ba98373ba… (all of the seat's roots in one cut). By AI agents, Wed Nov 11 2026. No macro, syntax, notation, axiom, sorry.
-/
import Derived.Test.YtmfacmccilipfaaChecked
import GoSem.Claim
import GoSem.ClaimJoined
import GoSem.ClaimMapViews
import Derived.JoinedTies
import Derived.KernelRfl
namespace Go.Proofs.Ytmfacmccilipfaa
/- THE CELL 'sum', in the pinned program and in every row, IS THE sha256 OF THE DUMP (.gsa) THAT YtmfacmccilipfaaProg.lean LOADS. Nothing in Lean hashes anything: it is a label: what it is worth is what the hold of that sum in a sandbox is worth. -/
noncomputable def Try.pinned : Pinned := { name := "ytmfacmccilipfaa", sum := "7aa3e70ba98373bae4747e73db5ad7d379fcc844ecf2c39955a94f81c686f920", checked := Try.checked }
namespace Rows
def none {H : Type} : Left H := { results := [], args := [] }

/-- 'synodlaw13.NodesLeaves': WHATEVER THE INPUT: true; the input reads as it did. -/
def nodesLeavesSpec : ChangeSpec := { name := "nodesLeaves", fn := fun _ => fun
  | [d1, d2] => { results := [.lit (.bool true)], args := [d1, d2] }
  | _ => none }
def nodesLeavesRow : OpenClaim := { program := "ytmfacmccilipfaa", sum := "7aa3e70ba98373bae4747e73db5ad7d379fcc844ecf2c39955a94f81c686f920", func := "synod/synodlaw13.NodesLeaves", spec := "nodesLeaves", unfollowed := true, recurses := true, apart := false }
def NodesLeavesSaid : Prop := nodesLeavesRow.holds Try.pinned (OpenSpec.ofChange nodesLeavesSpec)

/-- ITS FALSE NEIGHBOUR: 'it returns false'. Refute it at one input. -/
def nodesLeavesWrong : ChangeSpec := { name := "nodesLeaves", fn := fun _ => fun
  | [d1, d2] => { results := [.lit (.bool false)], args := [d1, d2] }
  | _ => none }
def NodesLeavesWrongFalsely : Prop := nodesLeavesRow.holds Try.pinned (OpenSpec.ofChange nodesLeavesWrong)

/-- 'synodlaw13.NodesApart': WHATEVER THE INPUT: true; the input reads as it did. -/
def nodesApartSpec : ChangeSpec := { name := "nodesApart", fn := fun _ => fun
  | [d1, d2, d3, d4, d5, d6] => { results := [.lit (.bool true)], args := [d1, d2, d3, d4, d5, d6] }
  | _ => none }
def nodesApartRow : OpenClaim := { program := "ytmfacmccilipfaa", sum := "7aa3e70ba98373bae4747e73db5ad7d379fcc844ecf2c39955a94f81c686f920", func := "synod/synodlaw13.NodesApart", spec := "nodesApart", unfollowed := true, recurses := true, apart := false }
def NodesApartSaid : Prop := nodesApartRow.holds Try.pinned (OpenSpec.ofChange nodesApartSpec)

/-- ITS FALSE NEIGHBOUR: 'it returns false'. Refute it at one input. -/
def nodesApartWrong : ChangeSpec := { name := "nodesApart", fn := fun _ => fun
  | [d1, d2, d3, d4, d5, d6] => { results := [.lit (.bool false)], args := [d1, d2, d3, d4, d5, d6] }
  | _ => none }
def NodesApartWrongFalsely : Prop := nodesApartRow.holds Try.pinned (OpenSpec.ofChange nodesApartWrong)

/-- 'synodlaw13.NodesParents': WHATEVER THE INPUT: true; the input reads as it did. -/
def nodesParentsSpec : ChangeSpec := { name := "nodesParents", fn := fun _ => fun
  | [d1, d2] => { results := [.lit (.bool true)], args := [d1, d2] }
  | _ => none }
def nodesParentsRow : OpenClaim := { program := "ytmfacmccilipfaa", sum := "7aa3e70ba98373bae4747e73db5ad7d379fcc844ecf2c39955a94f81c686f920", func := "synod/synodlaw13.NodesParents", spec := "nodesParents", unfollowed := true, recurses := true, apart := false }
def NodesParentsSaid : Prop := nodesParentsRow.holds Try.pinned (OpenSpec.ofChange nodesParentsSpec)

/-- ITS FALSE NEIGHBOUR: 'it returns false'. Refute it at one input. -/
def nodesParentsWrong : ChangeSpec := { name := "nodesParents", fn := fun _ => fun
  | [d1, d2] => { results := [.lit (.bool false)], args := [d1, d2] }
  | _ => none }
def NodesParentsWrongFalsely : Prop := nodesParentsRow.holds Try.pinned (OpenSpec.ofChange nodesParentsWrong)

/-- 'synodlaw13.NodesPackages': WHATEVER THE INPUT: true; the input reads as it did. -/
def nodesPackagesSpec : ChangeSpec := { name := "nodesPackages", fn := fun _ => fun
  | [d1, d2] => { results := [.lit (.bool true)], args := [d1, d2] }
  | _ => none }
def nodesPackagesRow : OpenClaim := { program := "ytmfacmccilipfaa", sum := "7aa3e70ba98373bae4747e73db5ad7d379fcc844ecf2c39955a94f81c686f920", func := "synod/synodlaw13.NodesPackages", spec := "nodesPackages", unfollowed := true, recurses := true, apart := false }
def NodesPackagesSaid : Prop := nodesPackagesRow.holds Try.pinned (OpenSpec.ofChange nodesPackagesSpec)

/-- ITS FALSE NEIGHBOUR: 'it returns false'. Refute it at one input. -/
def nodesPackagesWrong : ChangeSpec := { name := "nodesPackages", fn := fun _ => fun
  | [d1, d2] => { results := [.lit (.bool false)], args := [d1, d2] }
  | _ => none }
def NodesPackagesWrongFalsely : Prop := nodesPackagesRow.holds Try.pinned (OpenSpec.ofChange nodesPackagesWrong)

/-- 'synodlaw13.NodesTexts': WHATEVER THE INPUT: true; the input reads as it did. -/
def nodesTextsSpec : ChangeSpec := { name := "nodesTexts", fn := fun _ => fun
  | [d1, d2, d3, d4] => { results := [.lit (.bool true)], args := [d1, d2, d3, d4] }
  | _ => none }
def nodesTextsRow : OpenClaim := { program := "ytmfacmccilipfaa", sum := "7aa3e70ba98373bae4747e73db5ad7d379fcc844ecf2c39955a94f81c686f920", func := "synod/synodlaw13.NodesTexts", spec := "nodesTexts", unfollowed := true, recurses := true, apart := false }
def NodesTextsSaid : Prop := nodesTextsRow.holds Try.pinned (OpenSpec.ofChange nodesTextsSpec)

/-- ITS FALSE NEIGHBOUR: 'it returns false'. Refute it at one input. -/
def nodesTextsWrong : ChangeSpec := { name := "nodesTexts", fn := fun _ => fun
  | [d1, d2, d3, d4] => { results := [.lit (.bool false)], args := [d1, d2, d3, d4] }
  | _ => none }
def NodesTextsWrongFalsely : Prop := nodesTextsRow.holds Try.pinned (OpenSpec.ofChange nodesTextsWrong)

/-- 'synodlaw13.NodesBack': WHATEVER THE INPUT: true; the input reads as it did. -/
def nodesBackSpec : ChangeSpec := { name := "nodesBack", fn := fun _ => fun
  | [d1, d2, d3, d4] => { results := [.lit (.bool true)], args := [d1, d2, d3, d4] }
  | _ => none }
def nodesBackRow : OpenClaim := { program := "ytmfacmccilipfaa", sum := "7aa3e70ba98373bae4747e73db5ad7d379fcc844ecf2c39955a94f81c686f920", func := "synod/synodlaw13.NodesBack", spec := "nodesBack", unfollowed := true, recurses := true, apart := false }
def NodesBackSaid : Prop := nodesBackRow.holds Try.pinned (OpenSpec.ofChange nodesBackSpec)

/-- ITS FALSE NEIGHBOUR: 'it returns false'. Refute it at one input. -/
def nodesBackWrong : ChangeSpec := { name := "nodesBack", fn := fun _ => fun
  | [d1, d2, d3, d4] => { results := [.lit (.bool false)], args := [d1, d2, d3, d4] }
  | _ => none }
def NodesBackWrongFalsely : Prop := nodesBackRow.holds Try.pinned (OpenSpec.ofChange nodesBackWrong)

/- THE SECOND FORM. 'bulk': how many values and letters a reading holds, each counted each time it is reached (what is shared counts as often as it is met; a slice's spare places count too). A statement '..UptoSaid' is the law's where the arguments, and the package variables that the reading takes, are together of bulk at most 1048576: NARROWER than '..Said'. Prove '..Said' where nothing that the law and all that it calls make is longer than what came in: it says more and counts as full. Else prove '..UptoSaid'. A law counts once. -/
mutual
def uptoBulk {H : Type} : DataW H → Nat
  | .lit (.string bytes) => bytes.length + 1
  | .lit _ => 1
  | .nil => 1
  | .ptr d => uptoBulk d + 1
  | .slice elems spare => uptoBulkAll elems + uptoBulkAll spare + 1
  | .agg parts => uptoBulkAll parts + 1
  | .iface _ d => uptoBulk d + 1
  | .map entries => uptoBulkEntries entries + 1
  | .held _ => 1
def uptoBulkAll {H : Type} : List (DataW H) → Nat
  | [] => 0
  | d :: r => uptoBulk d + uptoBulkAll r
def uptoBulkEntries {H : Type} : List (Lit × DataW H) → Nat
  | [] => 0
  | x :: r => uptoBulkEntry x + uptoBulkEntries r
def uptoBulkEntry {H : Type} : Lit × DataW H → Nat
  | (.string bytes, d) => bytes.length + uptoBulk d + 1
  | (_, d) => uptoBulk d + 1
 end
def uptoSmall : (H : Type) → List (DataW H) → Bool := fun _ ds => decide (uptoBulkAll ds ≤ 1048576)
def OpenSpec.upto (s : _root_.Go.ChangeSpec) : _root_.Go.OpenSpec := { _root_.Go.OpenSpec.ofChange s with cond := some uptoSmall }

/-- 'synodlaw13.NodesLeaves', WHERE WHAT IT READS IS OF BULK AT MOST 1048576: true; the input reads as it did. -/
def nodesLeavesUptoRow : OpenClaim := { program := "ytmfacmccilipfaa", sum := "7aa3e70ba98373bae4747e73db5ad7d379fcc844ecf2c39955a94f81c686f920", func := "synod/synodlaw13.NodesLeaves", spec := "nodesLeaves", unfollowed := true, recurses := true, apart := false, narrowed := true }
def NodesLeavesUptoSaid : Prop := nodesLeavesUptoRow.holds Try.pinned (OpenSpec.upto nodesLeavesSpec)

/-- 'synodlaw13.NodesApart', WHERE WHAT IT READS IS OF BULK AT MOST 1048576: true; the input reads as it did. -/
def nodesApartUptoRow : OpenClaim := { program := "ytmfacmccilipfaa", sum := "7aa3e70ba98373bae4747e73db5ad7d379fcc844ecf2c39955a94f81c686f920", func := "synod/synodlaw13.NodesApart", spec := "nodesApart", unfollowed := true, recurses := true, apart := false, narrowed := true }
def NodesApartUptoSaid : Prop := nodesApartUptoRow.holds Try.pinned (OpenSpec.upto nodesApartSpec)

/-- 'synodlaw13.NodesParents', WHERE WHAT IT READS IS OF BULK AT MOST 1048576: true; the input reads as it did. -/
def nodesParentsUptoRow : OpenClaim := { program := "ytmfacmccilipfaa", sum := "7aa3e70ba98373bae4747e73db5ad7d379fcc844ecf2c39955a94f81c686f920", func := "synod/synodlaw13.NodesParents", spec := "nodesParents", unfollowed := true, recurses := true, apart := false, narrowed := true }
def NodesParentsUptoSaid : Prop := nodesParentsUptoRow.holds Try.pinned (OpenSpec.upto nodesParentsSpec)

/-- 'synodlaw13.NodesPackages', WHERE WHAT IT READS IS OF BULK AT MOST 1048576: true; the input reads as it did. -/
def nodesPackagesUptoRow : OpenClaim := { program := "ytmfacmccilipfaa", sum := "7aa3e70ba98373bae4747e73db5ad7d379fcc844ecf2c39955a94f81c686f920", func := "synod/synodlaw13.NodesPackages", spec := "nodesPackages", unfollowed := true, recurses := true, apart := false, narrowed := true }
def NodesPackagesUptoSaid : Prop := nodesPackagesUptoRow.holds Try.pinned (OpenSpec.upto nodesPackagesSpec)

/-- 'synodlaw13.NodesTexts', WHERE WHAT IT READS IS OF BULK AT MOST 1048576: true; the input reads as it did. -/
def nodesTextsUptoRow : OpenClaim := { program := "ytmfacmccilipfaa", sum := "7aa3e70ba98373bae4747e73db5ad7d379fcc844ecf2c39955a94f81c686f920", func := "synod/synodlaw13.NodesTexts", spec := "nodesTexts", unfollowed := true, recurses := true, apart := false, narrowed := true }
def NodesTextsUptoSaid : Prop := nodesTextsUptoRow.holds Try.pinned (OpenSpec.upto nodesTextsSpec)

/-- 'synodlaw13.NodesBack', WHERE WHAT IT READS IS OF BULK AT MOST 1048576: true; the input reads as it did. -/
def nodesBackUptoRow : OpenClaim := { program := "ytmfacmccilipfaa", sum := "7aa3e70ba98373bae4747e73db5ad7d379fcc844ecf2c39955a94f81c686f920", func := "synod/synodlaw13.NodesBack", spec := "nodesBack", unfollowed := true, recurses := true, apart := false, narrowed := true }
def NodesBackUptoSaid : Prop := nodesBackUptoRow.holds Try.pinned (OpenSpec.upto nodesBackSpec)

end Rows
end Go.Proofs.Ytmfacmccilipfaa
