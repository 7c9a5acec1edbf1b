/-
  No cell of these rows narrows 'for every input' (looked for: loops, veiled, ifaces, maps, wideKeys, modest, calm, conditions, laid).
  DERIVED. THE GIVEN ROWS OF THIS SEAT. 6 by the template 'for every input the law returns true; each argument reads behind the call as it read before'; 0 by the template 'total and deterministic' (their statements: YtljipbmmgcccnaaGreatTotals.lean).
  GIVEN WITH THE SEED: the statements are not yours to turn. If you find one false, say at which input.
  Laid BY PROGRAM, IN A SANDBOX (cutbox-rows.mjs): the forced cells as the released guide's own fill.sh prints them over the translation 994368ef578d21a2… (all of the seat's roots in one cut). By AI agents, Wed Nov 11 2026. No macro, syntax, notation, axiom, sorry.
-/
import Derived.Test.YtljipbmmgcccnaaGreatChecked
import GoSem.Claim
import GoSem.ClaimJoined
import GoSem.ClaimMapViews
import Derived.JoinedTies
import Derived.KernelRfl
namespace Go.Proofs.YtljipbmmgcccnaaGreat
/- THE CELL 'sum', in the pinned program and in every row, IS THE sha256 OF THE DUMP (.gsa) THAT YtljipbmmgcccnaaGreatProg.lean LOADS. Nothing in Lean hashes anything: it is a label: what it is worth is what the hold of that sum in a sandbox is worth. -/
noncomputable def Tryz.pinned : Pinned := { name := "ytljipbmmgcccnaagreat", sum := "994368ef578d21a28d70338f86b38d9f2e28b854ecf70fce8a12a6b59589d7ec", checked := Tryz.checked }
namespace Rows
def none {H : Type} : Left H := { results := [], args := [] }

/-- 'gimmaltop.TopKnows': WHATEVER THE INPUT: true; the input reads as it did. -/
def topKnowsSpec : ChangeSpec := { name := "topKnows", fn := fun _ => fun
  | [d1, d2] => { results := [.lit (.bool true)], args := [d1, d2] }
  | _ => none }
def topKnowsRow : OpenClaim := { program := "ytljipbmmgcccnaagreat", sum := "994368ef578d21a28d70338f86b38d9f2e28b854ecf70fce8a12a6b59589d7ec", func := "gimmal/gimmaltop.TopKnows", spec := "topKnows", inPlace := ["slices.overlaps[int]", "slices.overlaps[gimmal/api.Peer]", "slices.overlaps[gimmal/api.Item]", "slices.overlaps[gimmal/api.Cut]"], unfollowed := true, recurses := true, apart := false }
def TopKnowsSaid : Prop := topKnowsRow.holds Tryz.pinned (OpenSpec.ofChange topKnowsSpec)

/-- ITS FALSE NEIGHBOUR: 'it returns false'. Refute it at one input. -/
def topKnowsWrong : ChangeSpec := { name := "topKnows", fn := fun _ => fun
  | [d1, d2] => { results := [.lit (.bool false)], args := [d1, d2] }
  | _ => none }
def TopKnowsWrongFalsely : Prop := topKnowsRow.holds Tryz.pinned (OpenSpec.ofChange topKnowsWrong)

/-- 'gimmaltop.TopWrites': WHATEVER THE INPUT: true; the input reads as it did. -/
def topWritesSpec : ChangeSpec := { name := "topWrites", fn := fun _ => fun
  | [d1, d2, d3, d4] => { results := [.lit (.bool true)], args := [d1, d2, d3, d4] }
  | _ => none }
def topWritesRow : OpenClaim := { program := "ytljipbmmgcccnaagreat", sum := "994368ef578d21a28d70338f86b38d9f2e28b854ecf70fce8a12a6b59589d7ec", func := "gimmal/gimmaltop.TopWrites", spec := "topWrites", inPlace := ["slices.overlaps[int]", "slices.overlaps[gimmal/api.Peer]", "slices.overlaps[gimmal/api.Item]", "slices.overlaps[gimmal/api.Cut]"], unfollowed := true, recurses := true, apart := false }
def TopWritesSaid : Prop := topWritesRow.holds Tryz.pinned (OpenSpec.ofChange topWritesSpec)

/-- ITS FALSE NEIGHBOUR: 'it returns false'. Refute it at one input. -/
def topWritesWrong : ChangeSpec := { name := "topWrites", fn := fun _ => fun
  | [d1, d2, d3, d4] => { results := [.lit (.bool false)], args := [d1, d2, d3, d4] }
  | _ => none }
def TopWritesWrongFalsely : Prop := topWritesRow.holds Tryz.pinned (OpenSpec.ofChange topWritesWrong)

/-- 'gimmaltop.TopCrash': WHATEVER THE INPUT: true; the input reads as it did. -/
def topCrashSpec : ChangeSpec := { name := "topCrash", fn := fun _ => fun
  | [d1, d2] => { results := [.lit (.bool true)], args := [d1, d2] }
  | _ => none }
def topCrashRow : OpenClaim := { program := "ytljipbmmgcccnaagreat", sum := "994368ef578d21a28d70338f86b38d9f2e28b854ecf70fce8a12a6b59589d7ec", func := "gimmal/gimmaltop.TopCrash", spec := "topCrash", inPlace := ["slices.overlaps[int]", "slices.overlaps[gimmal/api.Peer]", "slices.overlaps[gimmal/api.Item]", "slices.overlaps[gimmal/api.Cut]"], unfollowed := true, recurses := true, apart := false }
def TopCrashSaid : Prop := topCrashRow.holds Tryz.pinned (OpenSpec.ofChange topCrashSpec)

/-- ITS FALSE NEIGHBOUR: 'it returns false'. Refute it at one input. -/
def topCrashWrong : ChangeSpec := { name := "topCrash", fn := fun _ => fun
  | [d1, d2] => { results := [.lit (.bool false)], args := [d1, d2] }
  | _ => none }
def TopCrashWrongFalsely : Prop := topCrashRow.holds Tryz.pinned (OpenSpec.ofChange topCrashWrong)

/-- 'gimmaltop.TopSpread': WHATEVER THE INPUT: true; the input reads as it did. -/
def topSpreadSpec : ChangeSpec := { name := "topSpread", fn := fun _ => fun
  | [d1, d2, d3, d4, d5] => { results := [.lit (.bool true)], args := [d1, d2, d3, d4, d5] }
  | _ => none }
def topSpreadRow : OpenClaim := { program := "ytljipbmmgcccnaagreat", sum := "994368ef578d21a28d70338f86b38d9f2e28b854ecf70fce8a12a6b59589d7ec", func := "gimmal/gimmaltop.TopSpread", spec := "topSpread", inPlace := ["slices.overlaps[int]", "slices.overlaps[gimmal/api.Peer]", "slices.overlaps[gimmal/api.Item]", "slices.overlaps[gimmal/api.Cut]"], unfollowed := true, recurses := true, apart := false }
def TopSpreadSaid : Prop := topSpreadRow.holds Tryz.pinned (OpenSpec.ofChange topSpreadSpec)

/-- ITS FALSE NEIGHBOUR: 'it returns false'. Refute it at one input. -/
def topSpreadWrong : ChangeSpec := { name := "topSpread", fn := fun _ => fun
  | [d1, d2, d3, d4, d5] => { results := [.lit (.bool false)], args := [d1, d2, d3, d4, d5] }
  | _ => none }
def TopSpreadWrongFalsely : Prop := topSpreadRow.holds Tryz.pinned (OpenSpec.ofChange topSpreadWrong)

/-- 'gimmaltop.TopLost': WHATEVER THE INPUT: true; the input reads as it did. -/
def topLostSpec : ChangeSpec := { name := "topLost", fn := fun _ => fun
  | [d1, d2] => { results := [.lit (.bool true)], args := [d1, d2] }
  | _ => none }
def topLostRow : OpenClaim := { program := "ytljipbmmgcccnaagreat", sum := "994368ef578d21a28d70338f86b38d9f2e28b854ecf70fce8a12a6b59589d7ec", func := "gimmal/gimmaltop.TopLost", spec := "topLost", inPlace := ["slices.overlaps[int]", "slices.overlaps[gimmal/api.Peer]", "slices.overlaps[gimmal/api.Item]", "slices.overlaps[gimmal/api.Cut]"], unfollowed := true, recurses := true, apart := false }
def TopLostSaid : Prop := topLostRow.holds Tryz.pinned (OpenSpec.ofChange topLostSpec)

/-- ITS FALSE NEIGHBOUR: 'it returns false'. Refute it at one input. -/
def topLostWrong : ChangeSpec := { name := "topLost", fn := fun _ => fun
  | [d1, d2] => { results := [.lit (.bool false)], args := [d1, d2] }
  | _ => none }
def TopLostWrongFalsely : Prop := topLostRow.holds Tryz.pinned (OpenSpec.ofChange topLostWrong)

/-- 'gimmaltop.TopStill': WHATEVER THE INPUT: true; the input reads as it did. -/
def topStillSpec : ChangeSpec := { name := "topStill", fn := fun _ => fun
  | [d] => { results := [.lit (.bool true)], args := [d] }
  | _ => none }
def topStillRow : OpenClaim := { program := "ytljipbmmgcccnaagreat", sum := "994368ef578d21a28d70338f86b38d9f2e28b854ecf70fce8a12a6b59589d7ec", func := "gimmal/gimmaltop.TopStill", spec := "topStill", inPlace := ["slices.overlaps[int]", "slices.overlaps[gimmal/api.Peer]", "slices.overlaps[gimmal/api.Item]", "slices.overlaps[gimmal/api.Cut]"], unfollowed := true, recurses := true, apart := false }
def TopStillSaid : Prop := topStillRow.holds Tryz.pinned (OpenSpec.ofChange topStillSpec)

/-- ITS FALSE NEIGHBOUR: 'it returns false'. Refute it at one input. -/
def topStillWrong : ChangeSpec := { name := "topStill", fn := fun _ => fun
  | [d] => { results := [.lit (.bool false)], args := [d] }
  | _ => none }
def TopStillWrongFalsely : Prop := topStillRow.holds Tryz.pinned (OpenSpec.ofChange topStillWrong)

/- THE SECOND FORM. 'bulk': how many values and letters a reading holds, each counted each time it is reached (what is shared counts as often as it is met; a slice's spare places count too). A statement '..UptoSaid' is the law's where the arguments, and the package variables that the reading takes, are together of bulk at most 1048576: NARROWER than '..Said'. Prove '..Said' where nothing that the law and all that it calls make is longer than what came in: it says more and counts as full. Else prove '..UptoSaid'. A law counts once. -/
mutual
def uptoBulk {H : Type} : DataW H → Nat
  | .lit (.string bytes) => bytes.length + 1
  | .lit _ => 1
  | .nil => 1
  | .ptr d => uptoBulk d + 1
  | .slice elems spare => uptoBulkAll elems + uptoBulkAll spare + 1
  | .agg parts => uptoBulkAll parts + 1
  | .iface _ d => uptoBulk d + 1
  | .map entries => uptoBulkEntries entries + 1
  | .held _ => 1
def uptoBulkAll {H : Type} : List (DataW H) → Nat
  | [] => 0
  | d :: r => uptoBulk d + uptoBulkAll r
def uptoBulkEntries {H : Type} : List (Lit × DataW H) → Nat
  | [] => 0
  | x :: r => uptoBulkEntry x + uptoBulkEntries r
def uptoBulkEntry {H : Type} : Lit × DataW H → Nat
  | (.string bytes, d) => bytes.length + uptoBulk d + 1
  | (_, d) => uptoBulk d + 1
 end
def uptoSmall : (H : Type) → List (DataW H) → Bool := fun _ ds => decide (uptoBulkAll ds ≤ 1048576)
def OpenSpec.upto (s : _root_.Go.ChangeSpec) : _root_.Go.OpenSpec := { _root_.Go.OpenSpec.ofChange s with cond := some uptoSmall }

/-- 'gimmaltop.TopKnows', WHERE WHAT IT READS IS OF BULK AT MOST 1048576: true; the input reads as it did. -/
def topKnowsUptoRow : OpenClaim := { program := "ytljipbmmgcccnaagreat", sum := "994368ef578d21a28d70338f86b38d9f2e28b854ecf70fce8a12a6b59589d7ec", func := "gimmal/gimmaltop.TopKnows", spec := "topKnows", inPlace := ["slices.overlaps[int]", "slices.overlaps[gimmal/api.Peer]", "slices.overlaps[gimmal/api.Item]", "slices.overlaps[gimmal/api.Cut]"], unfollowed := true, recurses := true, apart := false, narrowed := true }
def TopKnowsUptoSaid : Prop := topKnowsUptoRow.holds Tryz.pinned (OpenSpec.upto topKnowsSpec)

/-- 'gimmaltop.TopWrites', WHERE WHAT IT READS IS OF BULK AT MOST 1048576: true; the input reads as it did. -/
def topWritesUptoRow : OpenClaim := { program := "ytljipbmmgcccnaagreat", sum := "994368ef578d21a28d70338f86b38d9f2e28b854ecf70fce8a12a6b59589d7ec", func := "gimmal/gimmaltop.TopWrites", spec := "topWrites", inPlace := ["slices.overlaps[int]", "slices.overlaps[gimmal/api.Peer]", "slices.overlaps[gimmal/api.Item]", "slices.overlaps[gimmal/api.Cut]"], unfollowed := true, recurses := true, apart := false, narrowed := true }
def TopWritesUptoSaid : Prop := topWritesUptoRow.holds Tryz.pinned (OpenSpec.upto topWritesSpec)

/-- 'gimmaltop.TopCrash', WHERE WHAT IT READS IS OF BULK AT MOST 1048576: true; the input reads as it did. -/
def topCrashUptoRow : OpenClaim := { program := "ytljipbmmgcccnaagreat", sum := "994368ef578d21a28d70338f86b38d9f2e28b854ecf70fce8a12a6b59589d7ec", func := "gimmal/gimmaltop.TopCrash", spec := "topCrash", inPlace := ["slices.overlaps[int]", "slices.overlaps[gimmal/api.Peer]", "slices.overlaps[gimmal/api.Item]", "slices.overlaps[gimmal/api.Cut]"], unfollowed := true, recurses := true, apart := false, narrowed := true }
def TopCrashUptoSaid : Prop := topCrashUptoRow.holds Tryz.pinned (OpenSpec.upto topCrashSpec)

/-- 'gimmaltop.TopSpread', WHERE WHAT IT READS IS OF BULK AT MOST 1048576: true; the input reads as it did. -/
def topSpreadUptoRow : OpenClaim := { program := "ytljipbmmgcccnaagreat", sum := "994368ef578d21a28d70338f86b38d9f2e28b854ecf70fce8a12a6b59589d7ec", func := "gimmal/gimmaltop.TopSpread", spec := "topSpread", inPlace := ["slices.overlaps[int]", "slices.overlaps[gimmal/api.Peer]", "slices.overlaps[gimmal/api.Item]", "slices.overlaps[gimmal/api.Cut]"], unfollowed := true, recurses := true, apart := false, narrowed := true }
def TopSpreadUptoSaid : Prop := topSpreadUptoRow.holds Tryz.pinned (OpenSpec.upto topSpreadSpec)

/-- 'gimmaltop.TopLost', WHERE WHAT IT READS IS OF BULK AT MOST 1048576: true; the input reads as it did. -/
def topLostUptoRow : OpenClaim := { program := "ytljipbmmgcccnaagreat", sum := "994368ef578d21a28d70338f86b38d9f2e28b854ecf70fce8a12a6b59589d7ec", func := "gimmal/gimmaltop.TopLost", spec := "topLost", inPlace := ["slices.overlaps[int]", "slices.overlaps[gimmal/api.Peer]", "slices.overlaps[gimmal/api.Item]", "slices.overlaps[gimmal/api.Cut]"], unfollowed := true, recurses := true, apart := false, narrowed := true }
def TopLostUptoSaid : Prop := topLostUptoRow.holds Tryz.pinned (OpenSpec.upto topLostSpec)

/-- 'gimmaltop.TopStill', WHERE WHAT IT READS IS OF BULK AT MOST 1048576: true; the input reads as it did. -/
def topStillUptoRow : OpenClaim := { program := "ytljipbmmgcccnaagreat", sum := "994368ef578d21a28d70338f86b38d9f2e28b854ecf70fce8a12a6b59589d7ec", func := "gimmal/gimmaltop.TopStill", spec := "topStill", inPlace := ["slices.overlaps[int]", "slices.overlaps[gimmal/api.Peer]", "slices.overlaps[gimmal/api.Item]", "slices.overlaps[gimmal/api.Cut]"], unfollowed := true, recurses := true, apart := false, narrowed := true }
def TopStillUptoSaid : Prop := topStillUptoRow.holds Tryz.pinned (OpenSpec.upto topStillSpec)

end Rows
end Go.Proofs.YtljipbmmgcccnaaGreat
