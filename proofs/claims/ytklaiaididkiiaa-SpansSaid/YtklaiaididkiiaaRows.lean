/-
  No cell of these rows narrows 'for every input' (looked for: loops, veiled, ifaces, maps, wideKeys, modest, calm, conditions, laid).
  DERIVED. THE GIVEN ROWS OF THIS SEAT. 10 by the template 'for every input the law returns true; each argument reads behind the call as it read before'; 0 by the template 'total and deterministic' (their statements: YtklaiaididkiiaaTotals.lean).
  GIVEN WITH THE SEED: the statements are not yours to turn. If you find one false, say at which input.
  Laid BY PROGRAM, IN A SANDBOX (cutbox-rows.mjs): the forced cells as the released guide's own fill.sh prints them over the translation 4a0bc36336d4bb3a… (all of the seat's roots in one cut). By AI agents, Wed Nov 11 2026. No macro, syntax, notation, axiom, sorry.
-/
import Derived.Test.YtklaiaididkiiaaChecked
import GoSem.Claim
import GoSem.ClaimJoined
import GoSem.ClaimMapViews
import Derived.JoinedTies
import Derived.KernelRfl
namespace Go.Proofs.Ytklaiaididkiiaa
/- THE CELL 'sum', in the pinned program and in every row, IS THE sha256 OF THE DUMP (.gsa) THAT YtklaiaididkiiaaProg.lean LOADS. Nothing in Lean hashes anything: it is a label: what it is worth is what the hold of that sum in a sandbox is worth. -/
noncomputable def Try.pinned : Pinned := { name := "ytklaiaididkiiaa", sum := "4a0bc36336d4bb3a4e6ca44f8e5d6ab4889a62e8c4d93c887e677922c9e64473", checked := Try.checked }
namespace Rows
def none {H : Type} : Left H := { results := [], args := [] }

/-- 'gimmallaw4.Items': WHATEVER THE INPUT: true; the input reads as it did. -/
def itemsSpec : ChangeSpec := { name := "items", fn := fun _ => fun
  | [d1, d2] => { results := [.lit (.bool true)], args := [d1, d2] }
  | _ => none }
def itemsRow : OpenClaim := { program := "ytklaiaididkiiaa", sum := "4a0bc36336d4bb3a4e6ca44f8e5d6ab4889a62e8c4d93c887e677922c9e64473", func := "gimmal/gimmallaw4.Items", spec := "items", apart := false }
def ItemsSaid : Prop := itemsRow.holds Try.pinned (OpenSpec.ofChange itemsSpec)

/-- ITS FALSE NEIGHBOUR: 'it returns false'. Refute it at one input. -/
def itemsWrong : ChangeSpec := { name := "items", fn := fun _ => fun
  | [d1, d2] => { results := [.lit (.bool false)], args := [d1, d2] }
  | _ => none }
def ItemsWrongFalsely : Prop := itemsRow.holds Try.pinned (OpenSpec.ofChange itemsWrong)

/-- 'gimmallaw4.ItemLattice': WHATEVER THE INPUT: true; the input reads as it did. -/
def itemLatticeSpec : ChangeSpec := { name := "itemLattice", fn := fun _ => fun
  | [d1, d2, d3] => { results := [.lit (.bool true)], args := [d1, d2, d3] }
  | _ => none }
def itemLatticeRow : OpenClaim := { program := "ytklaiaididkiiaa", sum := "4a0bc36336d4bb3a4e6ca44f8e5d6ab4889a62e8c4d93c887e677922c9e64473", func := "gimmal/gimmallaw4.ItemLattice", spec := "itemLattice", apart := false }
def ItemLatticeSaid : Prop := itemLatticeRow.holds Try.pinned (OpenSpec.ofChange itemLatticeSpec)

/-- ITS FALSE NEIGHBOUR: 'it returns false'. Refute it at one input. -/
def itemLatticeWrong : ChangeSpec := { name := "itemLattice", fn := fun _ => fun
  | [d1, d2, d3] => { results := [.lit (.bool false)], args := [d1, d2, d3] }
  | _ => none }
def ItemLatticeWrongFalsely : Prop := itemLatticeRow.holds Try.pinned (OpenSpec.ofChange itemLatticeWrong)

/-- 'gimmallaw4.ItemForms': WHATEVER THE INPUT: true; the input reads as it did. -/
def itemFormsSpec : ChangeSpec := { name := "itemForms", fn := fun _ => fun
  | [d1, d2] => { results := [.lit (.bool true)], args := [d1, d2] }
  | _ => none }
def itemFormsRow : OpenClaim := { program := "ytklaiaididkiiaa", sum := "4a0bc36336d4bb3a4e6ca44f8e5d6ab4889a62e8c4d93c887e677922c9e64473", func := "gimmal/gimmallaw4.ItemForms", spec := "itemForms", apart := false }
def ItemFormsSaid : Prop := itemFormsRow.holds Try.pinned (OpenSpec.ofChange itemFormsSpec)

/-- ITS FALSE NEIGHBOUR: 'it returns false'. Refute it at one input. -/
def itemFormsWrong : ChangeSpec := { name := "itemForms", fn := fun _ => fun
  | [d1, d2] => { results := [.lit (.bool false)], args := [d1, d2] }
  | _ => none }
def ItemFormsWrongFalsely : Prop := itemFormsRow.holds Try.pinned (OpenSpec.ofChange itemFormsWrong)

/-- 'gimmallaw4.ItemTable': WHATEVER THE INPUT: true; the input reads as it did. -/
def itemTableSpec : ChangeSpec := { name := "itemTable", fn := fun _ => fun
  | [d1, d2] => { results := [.lit (.bool true)], args := [d1, d2] }
  | _ => none }
def itemTableRow : OpenClaim := { program := "ytklaiaididkiiaa", sum := "4a0bc36336d4bb3a4e6ca44f8e5d6ab4889a62e8c4d93c887e677922c9e64473", func := "gimmal/gimmallaw4.ItemTable", spec := "itemTable", apart := false }
def ItemTableSaid : Prop := itemTableRow.holds Try.pinned (OpenSpec.ofChange itemTableSpec)

/-- ITS FALSE NEIGHBOUR: 'it returns false'. Refute it at one input. -/
def itemTableWrong : ChangeSpec := { name := "itemTable", fn := fun _ => fun
  | [d1, d2] => { results := [.lit (.bool false)], args := [d1, d2] }
  | _ => none }
def ItemTableWrongFalsely : Prop := itemTableRow.holds Try.pinned (OpenSpec.ofChange itemTableWrong)

/-- 'gimmallaw4.ItemNewer': WHATEVER THE INPUT: true; the input reads as it did. -/
def itemNewerSpec : ChangeSpec := { name := "itemNewer", fn := fun _ => fun
  | [d1, d2] => { results := [.lit (.bool true)], args := [d1, d2] }
  | _ => none }
def itemNewerRow : OpenClaim := { program := "ytklaiaididkiiaa", sum := "4a0bc36336d4bb3a4e6ca44f8e5d6ab4889a62e8c4d93c887e677922c9e64473", func := "gimmal/gimmallaw4.ItemNewer", spec := "itemNewer", apart := false }
def ItemNewerSaid : Prop := itemNewerRow.holds Try.pinned (OpenSpec.ofChange itemNewerSpec)

/-- ITS FALSE NEIGHBOUR: 'it returns false'. Refute it at one input. -/
def itemNewerWrong : ChangeSpec := { name := "itemNewer", fn := fun _ => fun
  | [d1, d2] => { results := [.lit (.bool false)], args := [d1, d2] }
  | _ => none }
def ItemNewerWrongFalsely : Prop := itemNewerRow.holds Try.pinned (OpenSpec.ofChange itemNewerWrong)

/-- 'gimmallaw4.ItemGone': WHATEVER THE INPUT: true; the input reads as it did. -/
def itemGoneSpec : ChangeSpec := { name := "itemGone", fn := fun _ => fun
  | [d1, d2, d3, d4] => { results := [.lit (.bool true)], args := [d1, d2, d3, d4] }
  | _ => none }
def itemGoneRow : OpenClaim := { program := "ytklaiaididkiiaa", sum := "4a0bc36336d4bb3a4e6ca44f8e5d6ab4889a62e8c4d93c887e677922c9e64473", func := "gimmal/gimmallaw4.ItemGone", spec := "itemGone", apart := false }
def ItemGoneSaid : Prop := itemGoneRow.holds Try.pinned (OpenSpec.ofChange itemGoneSpec)

/-- ITS FALSE NEIGHBOUR: 'it returns false'. Refute it at one input. -/
def itemGoneWrong : ChangeSpec := { name := "itemGone", fn := fun _ => fun
  | [d1, d2, d3, d4] => { results := [.lit (.bool false)], args := [d1, d2, d3, d4] }
  | _ => none }
def ItemGoneWrongFalsely : Prop := itemGoneRow.holds Try.pinned (OpenSpec.ofChange itemGoneWrong)

/-- 'gimmallaw6.Spans': WHATEVER THE INPUT: true; the input reads as it did. -/
def spansSpec : ChangeSpec := { name := "spans", fn := fun _ => fun
  | [d1, d2, d3] => { results := [.lit (.bool true)], args := [d1, d2, d3] }
  | _ => none }
def spansRow : OpenClaim := { program := "ytklaiaididkiiaa", sum := "4a0bc36336d4bb3a4e6ca44f8e5d6ab4889a62e8c4d93c887e677922c9e64473", func := "gimmal/gimmallaw6.Spans", spec := "spans", apart := false }
def SpansSaid : Prop := spansRow.holds Try.pinned (OpenSpec.ofChange spansSpec)

/-- ITS FALSE NEIGHBOUR: 'it returns false'. Refute it at one input. -/
def spansWrong : ChangeSpec := { name := "spans", fn := fun _ => fun
  | [d1, d2, d3] => { results := [.lit (.bool false)], args := [d1, d2, d3] }
  | _ => none }
def SpansWrongFalsely : Prop := spansRow.holds Try.pinned (OpenSpec.ofChange spansWrong)

/-- 'gimmallaw6.SpanParts': WHATEVER THE INPUT: true; the input reads as it did. -/
def spanPartsSpec : ChangeSpec := { name := "spanParts", fn := fun _ => fun
  | [d1, d2, d3] => { results := [.lit (.bool true)], args := [d1, d2, d3] }
  | _ => none }
def spanPartsRow : OpenClaim := { program := "ytklaiaididkiiaa", sum := "4a0bc36336d4bb3a4e6ca44f8e5d6ab4889a62e8c4d93c887e677922c9e64473", func := "gimmal/gimmallaw6.SpanParts", spec := "spanParts", apart := false }
def SpanPartsSaid : Prop := spanPartsRow.holds Try.pinned (OpenSpec.ofChange spanPartsSpec)

/-- ITS FALSE NEIGHBOUR: 'it returns false'. Refute it at one input. -/
def spanPartsWrong : ChangeSpec := { name := "spanParts", fn := fun _ => fun
  | [d1, d2, d3] => { results := [.lit (.bool false)], args := [d1, d2, d3] }
  | _ => none }
def SpanPartsWrongFalsely : Prop := spanPartsRow.holds Try.pinned (OpenSpec.ofChange spanPartsWrong)

/-- 'gimmallaw6.SpanForms': WHATEVER THE INPUT: true; the input reads as it did. -/
def spanFormsSpec : ChangeSpec := { name := "spanForms", fn := fun _ => fun
  | [d1, d2] => { results := [.lit (.bool true)], args := [d1, d2] }
  | _ => none }
def spanFormsRow : OpenClaim := { program := "ytklaiaididkiiaa", sum := "4a0bc36336d4bb3a4e6ca44f8e5d6ab4889a62e8c4d93c887e677922c9e64473", func := "gimmal/gimmallaw6.SpanForms", spec := "spanForms", apart := false }
def SpanFormsSaid : Prop := spanFormsRow.holds Try.pinned (OpenSpec.ofChange spanFormsSpec)

/-- ITS FALSE NEIGHBOUR: 'it returns false'. Refute it at one input. -/
def spanFormsWrong : ChangeSpec := { name := "spanForms", fn := fun _ => fun
  | [d1, d2] => { results := [.lit (.bool false)], args := [d1, d2] }
  | _ => none }
def SpanFormsWrongFalsely : Prop := spanFormsRow.holds Try.pinned (OpenSpec.ofChange spanFormsWrong)

/-- 'gimmallaw6.SpanCut': WHATEVER THE INPUT: true; the input reads as it did. -/
def spanCutSpec : ChangeSpec := { name := "spanCut", fn := fun _ => fun
  | [d1, d2, d3, d4] => { results := [.lit (.bool true)], args := [d1, d2, d3, d4] }
  | _ => none }
def spanCutRow : OpenClaim := { program := "ytklaiaididkiiaa", sum := "4a0bc36336d4bb3a4e6ca44f8e5d6ab4889a62e8c4d93c887e677922c9e64473", func := "gimmal/gimmallaw6.SpanCut", spec := "spanCut", apart := false }
def SpanCutSaid : Prop := spanCutRow.holds Try.pinned (OpenSpec.ofChange spanCutSpec)

/-- ITS FALSE NEIGHBOUR: 'it returns false'. Refute it at one input. -/
def spanCutWrong : ChangeSpec := { name := "spanCut", fn := fun _ => fun
  | [d1, d2, d3, d4] => { results := [.lit (.bool false)], args := [d1, d2, d3, d4] }
  | _ => none }
def SpanCutWrongFalsely : Prop := spanCutRow.holds Try.pinned (OpenSpec.ofChange spanCutWrong)

/- THE SECOND FORM. 'bulk': how many values and letters a reading holds, each counted each time it is reached (what is shared counts as often as it is met; a slice's spare places count too). A statement '..UptoSaid' is the law's where the arguments, and the package variables that the reading takes, are together of bulk at most 1048576: NARROWER than '..Said'. Prove '..Said' where nothing that the law and all that it calls make is longer than what came in: it says more and counts as full. Else prove '..UptoSaid'. A law counts once. -/
mutual
def uptoBulk {H : Type} : DataW H → Nat
  | .lit (.string bytes) => bytes.length + 1
  | .lit _ => 1
  | .nil => 1
  | .ptr d => uptoBulk d + 1
  | .slice elems spare => uptoBulkAll elems + uptoBulkAll spare + 1
  | .agg parts => uptoBulkAll parts + 1
  | .iface _ d => uptoBulk d + 1
  | .map entries => uptoBulkEntries entries + 1
  | .held _ => 1
def uptoBulkAll {H : Type} : List (DataW H) → Nat
  | [] => 0
  | d :: r => uptoBulk d + uptoBulkAll r
def uptoBulkEntries {H : Type} : List (Lit × DataW H) → Nat
  | [] => 0
  | x :: r => uptoBulkEntry x + uptoBulkEntries r
def uptoBulkEntry {H : Type} : Lit × DataW H → Nat
  | (.string bytes, d) => bytes.length + uptoBulk d + 1
  | (_, d) => uptoBulk d + 1
 end
def uptoSmall : (H : Type) → List (DataW H) → Bool := fun _ ds => decide (uptoBulkAll ds ≤ 1048576)
def OpenSpec.upto (s : _root_.Go.ChangeSpec) : _root_.Go.OpenSpec := { _root_.Go.OpenSpec.ofChange s with cond := some uptoSmall }

/-- 'gimmallaw4.Items', WHERE WHAT IT READS IS OF BULK AT MOST 1048576: true; the input reads as it did. -/
def itemsUptoRow : OpenClaim := { program := "ytklaiaididkiiaa", sum := "4a0bc36336d4bb3a4e6ca44f8e5d6ab4889a62e8c4d93c887e677922c9e64473", func := "gimmal/gimmallaw4.Items", spec := "items", apart := false, narrowed := true }
def ItemsUptoSaid : Prop := itemsUptoRow.holds Try.pinned (OpenSpec.upto itemsSpec)

/-- 'gimmallaw4.ItemLattice', WHERE WHAT IT READS IS OF BULK AT MOST 1048576: true; the input reads as it did. -/
def itemLatticeUptoRow : OpenClaim := { program := "ytklaiaididkiiaa", sum := "4a0bc36336d4bb3a4e6ca44f8e5d6ab4889a62e8c4d93c887e677922c9e64473", func := "gimmal/gimmallaw4.ItemLattice", spec := "itemLattice", apart := false, narrowed := true }
def ItemLatticeUptoSaid : Prop := itemLatticeUptoRow.holds Try.pinned (OpenSpec.upto itemLatticeSpec)

/-- 'gimmallaw4.ItemForms', WHERE WHAT IT READS IS OF BULK AT MOST 1048576: true; the input reads as it did. -/
def itemFormsUptoRow : OpenClaim := { program := "ytklaiaididkiiaa", sum := "4a0bc36336d4bb3a4e6ca44f8e5d6ab4889a62e8c4d93c887e677922c9e64473", func := "gimmal/gimmallaw4.ItemForms", spec := "itemForms", apart := false, narrowed := true }
def ItemFormsUptoSaid : Prop := itemFormsUptoRow.holds Try.pinned (OpenSpec.upto itemFormsSpec)

/-- 'gimmallaw4.ItemTable', WHERE WHAT IT READS IS OF BULK AT MOST 1048576: true; the input reads as it did. -/
def itemTableUptoRow : OpenClaim := { program := "ytklaiaididkiiaa", sum := "4a0bc36336d4bb3a4e6ca44f8e5d6ab4889a62e8c4d93c887e677922c9e64473", func := "gimmal/gimmallaw4.ItemTable", spec := "itemTable", apart := false, narrowed := true }
def ItemTableUptoSaid : Prop := itemTableUptoRow.holds Try.pinned (OpenSpec.upto itemTableSpec)

/-- 'gimmallaw4.ItemNewer', WHERE WHAT IT READS IS OF BULK AT MOST 1048576: true; the input reads as it did. -/
def itemNewerUptoRow : OpenClaim := { program := "ytklaiaididkiiaa", sum := "4a0bc36336d4bb3a4e6ca44f8e5d6ab4889a62e8c4d93c887e677922c9e64473", func := "gimmal/gimmallaw4.ItemNewer", spec := "itemNewer", apart := false, narrowed := true }
def ItemNewerUptoSaid : Prop := itemNewerUptoRow.holds Try.pinned (OpenSpec.upto itemNewerSpec)

/-- 'gimmallaw4.ItemGone', WHERE WHAT IT READS IS OF BULK AT MOST 1048576: true; the input reads as it did. -/
def itemGoneUptoRow : OpenClaim := { program := "ytklaiaididkiiaa", sum := "4a0bc36336d4bb3a4e6ca44f8e5d6ab4889a62e8c4d93c887e677922c9e64473", func := "gimmal/gimmallaw4.ItemGone", spec := "itemGone", apart := false, narrowed := true }
def ItemGoneUptoSaid : Prop := itemGoneUptoRow.holds Try.pinned (OpenSpec.upto itemGoneSpec)

/-- 'gimmallaw6.Spans', WHERE WHAT IT READS IS OF BULK AT MOST 1048576: true; the input reads as it did. -/
def spansUptoRow : OpenClaim := { program := "ytklaiaididkiiaa", sum := "4a0bc36336d4bb3a4e6ca44f8e5d6ab4889a62e8c4d93c887e677922c9e64473", func := "gimmal/gimmallaw6.Spans", spec := "spans", apart := false, narrowed := true }
def SpansUptoSaid : Prop := spansUptoRow.holds Try.pinned (OpenSpec.upto spansSpec)

/-- 'gimmallaw6.SpanParts', WHERE WHAT IT READS IS OF BULK AT MOST 1048576: true; the input reads as it did. -/
def spanPartsUptoRow : OpenClaim := { program := "ytklaiaididkiiaa", sum := "4a0bc36336d4bb3a4e6ca44f8e5d6ab4889a62e8c4d93c887e677922c9e64473", func := "gimmal/gimmallaw6.SpanParts", spec := "spanParts", apart := false, narrowed := true }
def SpanPartsUptoSaid : Prop := spanPartsUptoRow.holds Try.pinned (OpenSpec.upto spanPartsSpec)

/-- 'gimmallaw6.SpanForms', WHERE WHAT IT READS IS OF BULK AT MOST 1048576: true; the input reads as it did. -/
def spanFormsUptoRow : OpenClaim := { program := "ytklaiaididkiiaa", sum := "4a0bc36336d4bb3a4e6ca44f8e5d6ab4889a62e8c4d93c887e677922c9e64473", func := "gimmal/gimmallaw6.SpanForms", spec := "spanForms", apart := false, narrowed := true }
def SpanFormsUptoSaid : Prop := spanFormsUptoRow.holds Try.pinned (OpenSpec.upto spanFormsSpec)

/-- 'gimmallaw6.SpanCut', WHERE WHAT IT READS IS OF BULK AT MOST 1048576: true; the input reads as it did. -/
def spanCutUptoRow : OpenClaim := { program := "ytklaiaididkiiaa", sum := "4a0bc36336d4bb3a4e6ca44f8e5d6ab4889a62e8c4d93c887e677922c9e64473", func := "gimmal/gimmallaw6.SpanCut", spec := "spanCut", apart := false, narrowed := true }
def SpanCutUptoSaid : Prop := spanCutUptoRow.holds Try.pinned (OpenSpec.upto spanCutSpec)

end Rows
end Go.Proofs.Ytklaiaididkiiaa
