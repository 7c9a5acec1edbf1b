/-
  No cell of these rows narrows 'for every input' (looked for: loops, veiled, ifaces, maps, wideKeys, modest, calm, conditions, laid).
  DERIVED. THE GIVEN ROWS OF THIS SEAT. 10 by the template 'for every input the law returns true; each argument reads behind the call as it read before'; 0 by the template 'total and deterministic' (their statements: YtfhffalljkppkaaTotals.lean).
  GIVEN WITH THE SEED: the statements are not yours to turn. If you find one false, say at which input.
  Laid BY PROGRAM, IN A SANDBOX (cutbox-rows.mjs): the forced cells as the released guide's own fill.sh prints them over the translation 585244bfe94ed9bd… (all of the seat's roots in one cut). By AI agents, Wed Nov 11 2026. No macro, syntax, notation, axiom, sorry.
-/
import Derived.Test.YtfhffalljkppkaaChecked
import GoSem.Claim
import GoSem.ClaimJoined
import GoSem.ClaimMapViews
import Derived.JoinedTies
import Derived.KernelRfl
namespace Go.Proofs.Ytfhffalljkppkaa
/- THE CELL 'sum', in the pinned program and in every row, IS THE sha256 OF THE DUMP (.gsa) THAT YtfhffalljkppkaaProg.lean LOADS. Nothing in Lean hashes anything: it is a label: what it is worth is what the hold of that sum in a sandbox is worth. -/
noncomputable def Try.pinned : Pinned := { name := "ytfhffalljkppkaa", sum := "585244bfe94ed9bd30f512a5c89286e128ce989a979ad1b340f98024960e8dc8", checked := Try.checked }
namespace Rows
def none {H : Type} : Left H := { results := [], args := [] }

/-- 'gimmallaw0.GimmalNames': WHATEVER THE INPUT: true; the input reads as it did. -/
def gimmalNamesSpec : ChangeSpec := { name := "gimmalNames", fn := fun _ => fun
  | [] => { results := [.lit (.bool true)], args := [] }
  | _ => none }
def gimmalNamesRow : OpenClaim := { program := "ytfhffalljkppkaa", sum := "585244bfe94ed9bd30f512a5c89286e128ce989a979ad1b340f98024960e8dc8", func := "gimmal/gimmallaw0.GimmalNames", spec := "gimmalNames", apart := false }
def GimmalNamesSaid : Prop := gimmalNamesRow.holds Try.pinned (OpenSpec.ofChange gimmalNamesSpec)

/-- ITS FALSE NEIGHBOUR: 'it returns false'. Refute it at one input. -/
def gimmalNamesWrong : ChangeSpec := { name := "gimmalNames", fn := fun _ => fun
  | [] => { results := [.lit (.bool false)], args := [] }
  | _ => none }
def GimmalNamesWrongFalsely : Prop := gimmalNamesRow.holds Try.pinned (OpenSpec.ofChange gimmalNamesWrong)

/-- 'gimmallaw3.Versions': WHATEVER THE INPUT: true; the input reads as it did. -/
def versionsSpec : ChangeSpec := { name := "versions", fn := fun _ => fun
  | [d1, d2] => { results := [.lit (.bool true)], args := [d1, d2] }
  | _ => none }
def versionsRow : OpenClaim := { program := "ytfhffalljkppkaa", sum := "585244bfe94ed9bd30f512a5c89286e128ce989a979ad1b340f98024960e8dc8", func := "gimmal/gimmallaw3.Versions", spec := "versions", apart := false }
def VersionsSaid : Prop := versionsRow.holds Try.pinned (OpenSpec.ofChange versionsSpec)

/-- ITS FALSE NEIGHBOUR: 'it returns false'. Refute it at one input. -/
def versionsWrong : ChangeSpec := { name := "versions", fn := fun _ => fun
  | [d1, d2] => { results := [.lit (.bool false)], args := [d1, d2] }
  | _ => none }
def VersionsWrongFalsely : Prop := versionsRow.holds Try.pinned (OpenSpec.ofChange versionsWrong)

/-- 'gimmallaw3.VersionForms': WHATEVER THE INPUT: true; the input reads as it did. -/
def versionFormsSpec : ChangeSpec := { name := "versionForms", fn := fun _ => fun
  | [d1, d2] => { results := [.lit (.bool true)], args := [d1, d2] }
  | _ => none }
def versionFormsRow : OpenClaim := { program := "ytfhffalljkppkaa", sum := "585244bfe94ed9bd30f512a5c89286e128ce989a979ad1b340f98024960e8dc8", func := "gimmal/gimmallaw3.VersionForms", spec := "versionForms", apart := false }
def VersionFormsSaid : Prop := versionFormsRow.holds Try.pinned (OpenSpec.ofChange versionFormsSpec)

/-- ITS FALSE NEIGHBOUR: 'it returns false'. Refute it at one input. -/
def versionFormsWrong : ChangeSpec := { name := "versionForms", fn := fun _ => fun
  | [d1, d2] => { results := [.lit (.bool false)], args := [d1, d2] }
  | _ => none }
def VersionFormsWrongFalsely : Prop := versionFormsRow.holds Try.pinned (OpenSpec.ofChange versionFormsWrong)

/-- 'gimmallaw3.VersionRow': WHATEVER THE INPUT: true; the input reads as it did. -/
def versionRowSpec : ChangeSpec := { name := "versionRow", fn := fun _ => fun
  | [d1, d2, d3] => { results := [.lit (.bool true)], args := [d1, d2, d3] }
  | _ => none }
def versionRowRow : OpenClaim := { program := "ytfhffalljkppkaa", sum := "585244bfe94ed9bd30f512a5c89286e128ce989a979ad1b340f98024960e8dc8", func := "gimmal/gimmallaw3.VersionRow", spec := "versionRow", apart := false }
def VersionRowSaid : Prop := versionRowRow.holds Try.pinned (OpenSpec.ofChange versionRowSpec)

/-- ITS FALSE NEIGHBOUR: 'it returns false'. Refute it at one input. -/
def versionRowWrong : ChangeSpec := { name := "versionRow", fn := fun _ => fun
  | [d1, d2, d3] => { results := [.lit (.bool false)], args := [d1, d2, d3] }
  | _ => none }
def VersionRowWrongFalsely : Prop := versionRowRow.holds Try.pinned (OpenSpec.ofChange versionRowWrong)

/-- 'gimmallaw3.VersionCount': WHATEVER THE INPUT: true; the input reads as it did. -/
def versionCountSpec : ChangeSpec := { name := "versionCount", fn := fun _ => fun
  | [d1, d2, d3, d4] => { results := [.lit (.bool true)], args := [d1, d2, d3, d4] }
  | _ => none }
def versionCountRow : OpenClaim := { program := "ytfhffalljkppkaa", sum := "585244bfe94ed9bd30f512a5c89286e128ce989a979ad1b340f98024960e8dc8", func := "gimmal/gimmallaw3.VersionCount", spec := "versionCount", apart := false }
def VersionCountSaid : Prop := versionCountRow.holds Try.pinned (OpenSpec.ofChange versionCountSpec)

/-- ITS FALSE NEIGHBOUR: 'it returns false'. Refute it at one input. -/
def versionCountWrong : ChangeSpec := { name := "versionCount", fn := fun _ => fun
  | [d1, d2, d3, d4] => { results := [.lit (.bool false)], args := [d1, d2, d3, d4] }
  | _ => none }
def VersionCountWrongFalsely : Prop := versionCountRow.holds Try.pinned (OpenSpec.ofChange versionCountWrong)

/-- 'gimmallaw1.Rings': WHATEVER THE INPUT: true; the input reads as it did. -/
def ringsSpec : ChangeSpec := { name := "rings", fn := fun _ => fun
  | [d1, d2, d3] => { results := [.lit (.bool true)], args := [d1, d2, d3] }
  | _ => none }
def ringsRow : OpenClaim := { program := "ytfhffalljkppkaa", sum := "585244bfe94ed9bd30f512a5c89286e128ce989a979ad1b340f98024960e8dc8", func := "gimmal/gimmallaw1.Rings", spec := "rings", apart := false }
def RingsSaid : Prop := ringsRow.holds Try.pinned (OpenSpec.ofChange ringsSpec)

/-- ITS FALSE NEIGHBOUR: 'it returns false'. Refute it at one input. -/
def ringsWrong : ChangeSpec := { name := "rings", fn := fun _ => fun
  | [d1, d2, d3] => { results := [.lit (.bool false)], args := [d1, d2, d3] }
  | _ => none }
def RingsWrongFalsely : Prop := ringsRow.holds Try.pinned (OpenSpec.ofChange ringsWrong)

/-- 'gimmallaw1.RingAround': WHATEVER THE INPUT: true; the input reads as it did. -/
def ringAroundSpec : ChangeSpec := { name := "ringAround", fn := fun _ => fun
  | [d1, d2, d3] => { results := [.lit (.bool true)], args := [d1, d2, d3] }
  | _ => none }
def ringAroundRow : OpenClaim := { program := "ytfhffalljkppkaa", sum := "585244bfe94ed9bd30f512a5c89286e128ce989a979ad1b340f98024960e8dc8", func := "gimmal/gimmallaw1.RingAround", spec := "ringAround", apart := false }
def RingAroundSaid : Prop := ringAroundRow.holds Try.pinned (OpenSpec.ofChange ringAroundSpec)

/-- ITS FALSE NEIGHBOUR: 'it returns false'. Refute it at one input. -/
def ringAroundWrong : ChangeSpec := { name := "ringAround", fn := fun _ => fun
  | [d1, d2, d3] => { results := [.lit (.bool false)], args := [d1, d2, d3] }
  | _ => none }
def RingAroundWrongFalsely : Prop := ringAroundRow.holds Try.pinned (OpenSpec.ofChange ringAroundWrong)

/-- 'gimmallaw1.RingForms': WHATEVER THE INPUT: true; the input reads as it did. -/
def ringFormsSpec : ChangeSpec := { name := "ringForms", fn := fun _ => fun
  | [d1, d2] => { results := [.lit (.bool true)], args := [d1, d2] }
  | _ => none }
def ringFormsRow : OpenClaim := { program := "ytfhffalljkppkaa", sum := "585244bfe94ed9bd30f512a5c89286e128ce989a979ad1b340f98024960e8dc8", func := "gimmal/gimmallaw1.RingForms", spec := "ringForms", apart := false }
def RingFormsSaid : Prop := ringFormsRow.holds Try.pinned (OpenSpec.ofChange ringFormsSpec)

/-- ITS FALSE NEIGHBOUR: 'it returns false'. Refute it at one input. -/
def ringFormsWrong : ChangeSpec := { name := "ringForms", fn := fun _ => fun
  | [d1, d2] => { results := [.lit (.bool false)], args := [d1, d2] }
  | _ => none }
def RingFormsWrongFalsely : Prop := ringFormsRow.holds Try.pinned (OpenSpec.ofChange ringFormsWrong)

/-- 'gimmallaw1.RingParts': WHATEVER THE INPUT: true; the input reads as it did. -/
def ringPartsSpec : ChangeSpec := { name := "ringParts", fn := fun _ => fun
  | [d1, d2, d3] => { results := [.lit (.bool true)], args := [d1, d2, d3] }
  | _ => none }
def ringPartsRow : OpenClaim := { program := "ytfhffalljkppkaa", sum := "585244bfe94ed9bd30f512a5c89286e128ce989a979ad1b340f98024960e8dc8", func := "gimmal/gimmallaw1.RingParts", spec := "ringParts", apart := false }
def RingPartsSaid : Prop := ringPartsRow.holds Try.pinned (OpenSpec.ofChange ringPartsSpec)

/-- ITS FALSE NEIGHBOUR: 'it returns false'. Refute it at one input. -/
def ringPartsWrong : ChangeSpec := { name := "ringParts", fn := fun _ => fun
  | [d1, d2, d3] => { results := [.lit (.bool false)], args := [d1, d2, d3] }
  | _ => none }
def RingPartsWrongFalsely : Prop := ringPartsRow.holds Try.pinned (OpenSpec.ofChange ringPartsWrong)

/-- 'gimmallaw1.RingTurned': WHATEVER THE INPUT: true; the input reads as it did. -/
def ringTurnedSpec : ChangeSpec := { name := "ringTurned", fn := fun _ => fun
  | [d1, d2, d3, d4] => { results := [.lit (.bool true)], args := [d1, d2, d3, d4] }
  | _ => none }
def ringTurnedRow : OpenClaim := { program := "ytfhffalljkppkaa", sum := "585244bfe94ed9bd30f512a5c89286e128ce989a979ad1b340f98024960e8dc8", func := "gimmal/gimmallaw1.RingTurned", spec := "ringTurned", apart := false }
def RingTurnedSaid : Prop := ringTurnedRow.holds Try.pinned (OpenSpec.ofChange ringTurnedSpec)

/-- ITS FALSE NEIGHBOUR: 'it returns false'. Refute it at one input. -/
def ringTurnedWrong : ChangeSpec := { name := "ringTurned", fn := fun _ => fun
  | [d1, d2, d3, d4] => { results := [.lit (.bool false)], args := [d1, d2, d3, d4] }
  | _ => none }
def RingTurnedWrongFalsely : Prop := ringTurnedRow.holds Try.pinned (OpenSpec.ofChange ringTurnedWrong)

/- THE SECOND FORM. 'bulk': how many values and letters a reading holds, each counted each time it is reached (what is shared counts as often as it is met; a slice's spare places count too). A statement '..UptoSaid' is the law's where the arguments, and the package variables that the reading takes, are together of bulk at most 1048576: NARROWER than '..Said'. Prove '..Said' where nothing that the law and all that it calls make is longer than what came in: it says more and counts as full. Else prove '..UptoSaid'. A law counts once. -/
mutual
def uptoBulk {H : Type} : DataW H → Nat
  | .lit (.string bytes) => bytes.length + 1
  | .lit _ => 1
  | .nil => 1
  | .ptr d => uptoBulk d + 1
  | .slice elems spare => uptoBulkAll elems + uptoBulkAll spare + 1
  | .agg parts => uptoBulkAll parts + 1
  | .iface _ d => uptoBulk d + 1
  | .map entries => uptoBulkEntries entries + 1
  | .held _ => 1
def uptoBulkAll {H : Type} : List (DataW H) → Nat
  | [] => 0
  | d :: r => uptoBulk d + uptoBulkAll r
def uptoBulkEntries {H : Type} : List (Lit × DataW H) → Nat
  | [] => 0
  | x :: r => uptoBulkEntry x + uptoBulkEntries r
def uptoBulkEntry {H : Type} : Lit × DataW H → Nat
  | (.string bytes, d) => bytes.length + uptoBulk d + 1
  | (_, d) => uptoBulk d + 1
 end
def uptoSmall : (H : Type) → List (DataW H) → Bool := fun _ ds => decide (uptoBulkAll ds ≤ 1048576)
def OpenSpec.upto (s : _root_.Go.ChangeSpec) : _root_.Go.OpenSpec := { _root_.Go.OpenSpec.ofChange s with cond := some uptoSmall }

/-- 'gimmallaw0.GimmalNames', WHERE WHAT IT READS IS OF BULK AT MOST 1048576: true; the input reads as it did. -/
def gimmalNamesUptoRow : OpenClaim := { program := "ytfhffalljkppkaa", sum := "585244bfe94ed9bd30f512a5c89286e128ce989a979ad1b340f98024960e8dc8", func := "gimmal/gimmallaw0.GimmalNames", spec := "gimmalNames", apart := false, narrowed := true }
def GimmalNamesUptoSaid : Prop := gimmalNamesUptoRow.holds Try.pinned (OpenSpec.upto gimmalNamesSpec)

/-- 'gimmallaw3.Versions', WHERE WHAT IT READS IS OF BULK AT MOST 1048576: true; the input reads as it did. -/
def versionsUptoRow : OpenClaim := { program := "ytfhffalljkppkaa", sum := "585244bfe94ed9bd30f512a5c89286e128ce989a979ad1b340f98024960e8dc8", func := "gimmal/gimmallaw3.Versions", spec := "versions", apart := false, narrowed := true }
def VersionsUptoSaid : Prop := versionsUptoRow.holds Try.pinned (OpenSpec.upto versionsSpec)

/-- 'gimmallaw3.VersionForms', WHERE WHAT IT READS IS OF BULK AT MOST 1048576: true; the input reads as it did. -/
def versionFormsUptoRow : OpenClaim := { program := "ytfhffalljkppkaa", sum := "585244bfe94ed9bd30f512a5c89286e128ce989a979ad1b340f98024960e8dc8", func := "gimmal/gimmallaw3.VersionForms", spec := "versionForms", apart := false, narrowed := true }
def VersionFormsUptoSaid : Prop := versionFormsUptoRow.holds Try.pinned (OpenSpec.upto versionFormsSpec)

/-- 'gimmallaw3.VersionRow', WHERE WHAT IT READS IS OF BULK AT MOST 1048576: true; the input reads as it did. -/
def versionRowUptoRow : OpenClaim := { program := "ytfhffalljkppkaa", sum := "585244bfe94ed9bd30f512a5c89286e128ce989a979ad1b340f98024960e8dc8", func := "gimmal/gimmallaw3.VersionRow", spec := "versionRow", apart := false, narrowed := true }
def VersionRowUptoSaid : Prop := versionRowUptoRow.holds Try.pinned (OpenSpec.upto versionRowSpec)

/-- 'gimmallaw3.VersionCount', WHERE WHAT IT READS IS OF BULK AT MOST 1048576: true; the input reads as it did. -/
def versionCountUptoRow : OpenClaim := { program := "ytfhffalljkppkaa", sum := "585244bfe94ed9bd30f512a5c89286e128ce989a979ad1b340f98024960e8dc8", func := "gimmal/gimmallaw3.VersionCount", spec := "versionCount", apart := false, narrowed := true }
def VersionCountUptoSaid : Prop := versionCountUptoRow.holds Try.pinned (OpenSpec.upto versionCountSpec)

/-- 'gimmallaw1.Rings', WHERE WHAT IT READS IS OF BULK AT MOST 1048576: true; the input reads as it did. -/
def ringsUptoRow : OpenClaim := { program := "ytfhffalljkppkaa", sum := "585244bfe94ed9bd30f512a5c89286e128ce989a979ad1b340f98024960e8dc8", func := "gimmal/gimmallaw1.Rings", spec := "rings", apart := false, narrowed := true }
def RingsUptoSaid : Prop := ringsUptoRow.holds Try.pinned (OpenSpec.upto ringsSpec)

/-- 'gimmallaw1.RingAround', WHERE WHAT IT READS IS OF BULK AT MOST 1048576: true; the input reads as it did. -/
def ringAroundUptoRow : OpenClaim := { program := "ytfhffalljkppkaa", sum := "585244bfe94ed9bd30f512a5c89286e128ce989a979ad1b340f98024960e8dc8", func := "gimmal/gimmallaw1.RingAround", spec := "ringAround", apart := false, narrowed := true }
def RingAroundUptoSaid : Prop := ringAroundUptoRow.holds Try.pinned (OpenSpec.upto ringAroundSpec)

/-- 'gimmallaw1.RingForms', WHERE WHAT IT READS IS OF BULK AT MOST 1048576: true; the input reads as it did. -/
def ringFormsUptoRow : OpenClaim := { program := "ytfhffalljkppkaa", sum := "585244bfe94ed9bd30f512a5c89286e128ce989a979ad1b340f98024960e8dc8", func := "gimmal/gimmallaw1.RingForms", spec := "ringForms", apart := false, narrowed := true }
def RingFormsUptoSaid : Prop := ringFormsUptoRow.holds Try.pinned (OpenSpec.upto ringFormsSpec)

/-- 'gimmallaw1.RingParts', WHERE WHAT IT READS IS OF BULK AT MOST 1048576: true; the input reads as it did. -/
def ringPartsUptoRow : OpenClaim := { program := "ytfhffalljkppkaa", sum := "585244bfe94ed9bd30f512a5c89286e128ce989a979ad1b340f98024960e8dc8", func := "gimmal/gimmallaw1.RingParts", spec := "ringParts", apart := false, narrowed := true }
def RingPartsUptoSaid : Prop := ringPartsUptoRow.holds Try.pinned (OpenSpec.upto ringPartsSpec)

/-- 'gimmallaw1.RingTurned', WHERE WHAT IT READS IS OF BULK AT MOST 1048576: true; the input reads as it did. -/
def ringTurnedUptoRow : OpenClaim := { program := "ytfhffalljkppkaa", sum := "585244bfe94ed9bd30f512a5c89286e128ce989a979ad1b340f98024960e8dc8", func := "gimmal/gimmallaw1.RingTurned", spec := "ringTurned", apart := false, narrowed := true }
def RingTurnedUptoSaid : Prop := ringTurnedUptoRow.holds Try.pinned (OpenSpec.upto ringTurnedSpec)

end Rows
end Go.Proofs.Ytfhffalljkppkaa
