/-
  No cell of these rows narrows 'for every input' (looked for: loops, veiled, ifaces, maps, wideKeys, modest, calm, conditions, laid).
  DERIVED. THE GIVEN ROWS OF THIS SEAT. 6 by the template 'for every input the law returns true; each argument reads behind the call as it read before'; 0 by the template 'total and deterministic' (their statements: YtkfkcloefgfkaaaTotals.lean).
  GIVEN WITH THE SEED: the statements are not yours to turn. If you find one false, say at which input.
  Laid BY PROGRAM, IN A SANDBOX (cutbox-rows.mjs): the forced cells as the released guide's own fill.sh prints them over the translation 104ad8468a3174fe… (all of the seat's roots in one cut). By AI agents, Wed Nov 11 2026. No macro, syntax, notation, axiom, sorry.
-/
import Derived.Test.YtkfkcloefgfkaaaChecked
import GoSem.Claim
import GoSem.ClaimJoined
import GoSem.ClaimMapViews
import Derived.JoinedTies
import Derived.KernelRfl
namespace Go.Proofs.Ytkfkcloefgfkaaa
/- THE CELL 'sum', in the pinned program and in every row, IS THE sha256 OF THE DUMP (.gsa) THAT YtkfkcloefgfkaaaProg.lean LOADS. Nothing in Lean hashes anything: it is a label: what it is worth is what the hold of that sum in a sandbox is worth. -/
noncomputable def Try.pinned : Pinned := { name := "ytkfkcloefgfkaaa", sum := "104ad8468a3174fef91648a6935ccc9e7ff84cd2d3166e22a0a3b29d238de4c8", checked := Try.checked }
namespace Rows
def none {H : Type} : Left H := { results := [], args := [] }

/-- 'vestibulelaw06.TreeSteps': WHATEVER THE INPUT: true; the input reads as it did. -/
def treeStepsSpec : ChangeSpec := { name := "treeSteps", fn := fun _ => fun
  | [d1, d2] => { results := [.lit (.bool true)], args := [d1, d2] }
  | _ => none }
def treeStepsRow : OpenClaim := { program := "ytkfkcloefgfkaaa", sum := "104ad8468a3174fef91648a6935ccc9e7ff84cd2d3166e22a0a3b29d238de4c8", func := "vestibule/vestibulelaw06.TreeSteps", spec := "treeSteps", inPlace := ["internal/bytealg.abigen_runtime_cmpstring", "slices.overlaps[vestibule/api.Item]", "slices.overlaps[int]"], unfollowed := true, recurses := true, apart := false }
def TreeStepsSaid : Prop := treeStepsRow.holds Try.pinned (OpenSpec.ofChange treeStepsSpec)

/-- ITS FALSE NEIGHBOUR: 'it returns false'. Refute it at one input. -/
def treeStepsWrong : ChangeSpec := { name := "treeSteps", fn := fun _ => fun
  | [d1, d2] => { results := [.lit (.bool false)], args := [d1, d2] }
  | _ => none }
def TreeStepsWrongFalsely : Prop := treeStepsRow.holds Try.pinned (OpenSpec.ofChange treeStepsWrong)

/-- 'vestibulelaw05.SpaceRoom': WHATEVER THE INPUT: true; the input reads as it did. -/
def spaceRoomSpec : ChangeSpec := { name := "spaceRoom", fn := fun _ => fun
  | [d] => { results := [.lit (.bool true)], args := [d] }
  | _ => none }
def spaceRoomRow : OpenClaim := { program := "ytkfkcloefgfkaaa", sum := "104ad8468a3174fef91648a6935ccc9e7ff84cd2d3166e22a0a3b29d238de4c8", func := "vestibule/vestibulelaw05.SpaceRoom", spec := "spaceRoom", unfollowed := true, recurses := true, apart := false }
def SpaceRoomSaid : Prop := spaceRoomRow.holds Try.pinned (OpenSpec.ofChange spaceRoomSpec)

/-- ITS FALSE NEIGHBOUR: 'it returns false'. Refute it at one input. -/
def spaceRoomWrong : ChangeSpec := { name := "spaceRoom", fn := fun _ => fun
  | [d] => { results := [.lit (.bool false)], args := [d] }
  | _ => none }
def SpaceRoomWrongFalsely : Prop := spaceRoomRow.holds Try.pinned (OpenSpec.ofChange spaceRoomWrong)

/-- 'vestibulelaw05.SpaceOver': WHATEVER THE INPUT: true; the input reads as it did. -/
def spaceOverSpec : ChangeSpec := { name := "spaceOver", fn := fun _ => fun
  | [d1, d2] => { results := [.lit (.bool true)], args := [d1, d2] }
  | _ => none }
def spaceOverRow : OpenClaim := { program := "ytkfkcloefgfkaaa", sum := "104ad8468a3174fef91648a6935ccc9e7ff84cd2d3166e22a0a3b29d238de4c8", func := "vestibule/vestibulelaw05.SpaceOver", spec := "spaceOver", unfollowed := true, recurses := true, apart := false }
def SpaceOverSaid : Prop := spaceOverRow.holds Try.pinned (OpenSpec.ofChange spaceOverSpec)

/-- ITS FALSE NEIGHBOUR: 'it returns false'. Refute it at one input. -/
def spaceOverWrong : ChangeSpec := { name := "spaceOver", fn := fun _ => fun
  | [d1, d2] => { results := [.lit (.bool false)], args := [d1, d2] }
  | _ => none }
def SpaceOverWrongFalsely : Prop := spaceOverRow.holds Try.pinned (OpenSpec.ofChange spaceOverWrong)

/-- 'vestibulelaw07.HeapStays': WHATEVER THE INPUT: true; the input reads as it did. -/
def heapStaysSpec : ChangeSpec := { name := "heapStays", fn := fun _ => fun
  | [d1, d2] => { results := [.lit (.bool true)], args := [d1, d2] }
  | _ => none }
def heapStaysRow : OpenClaim := { program := "ytkfkcloefgfkaaa", sum := "104ad8468a3174fef91648a6935ccc9e7ff84cd2d3166e22a0a3b29d238de4c8", func := "vestibule/vestibulelaw07.HeapStays", spec := "heapStays", unfollowed := true, recurses := true, apart := false }
def HeapStaysSaid : Prop := heapStaysRow.holds Try.pinned (OpenSpec.ofChange heapStaysSpec)

/-- ITS FALSE NEIGHBOUR: 'it returns false'. Refute it at one input. -/
def heapStaysWrong : ChangeSpec := { name := "heapStays", fn := fun _ => fun
  | [d1, d2] => { results := [.lit (.bool false)], args := [d1, d2] }
  | _ => none }
def HeapStaysWrongFalsely : Prop := heapStaysRow.holds Try.pinned (OpenSpec.ofChange heapStaysWrong)

/-- 'vestibulelaw07.HeapPlays': WHATEVER THE INPUT: true; the input reads as it did. -/
def heapPlaysSpec : ChangeSpec := { name := "heapPlays", fn := fun _ => fun
  | [d] => { results := [.lit (.bool true)], args := [d] }
  | _ => none }
def heapPlaysRow : OpenClaim := { program := "ytkfkcloefgfkaaa", sum := "104ad8468a3174fef91648a6935ccc9e7ff84cd2d3166e22a0a3b29d238de4c8", func := "vestibule/vestibulelaw07.HeapPlays", spec := "heapPlays", unfollowed := true, recurses := true, apart := false }
def HeapPlaysSaid : Prop := heapPlaysRow.holds Try.pinned (OpenSpec.ofChange heapPlaysSpec)

/-- ITS FALSE NEIGHBOUR: 'it returns false'. Refute it at one input. -/
def heapPlaysWrong : ChangeSpec := { name := "heapPlays", fn := fun _ => fun
  | [d] => { results := [.lit (.bool false)], args := [d] }
  | _ => none }
def HeapPlaysWrongFalsely : Prop := heapPlaysRow.holds Try.pinned (OpenSpec.ofChange heapPlaysWrong)

/-- 'vestibulelaw07.HeapNobody': WHATEVER THE INPUT: true; the input reads as it did. -/
def heapNobodySpec : ChangeSpec := { name := "heapNobody", fn := fun _ => fun
  | [d1, d2] => { results := [.lit (.bool true)], args := [d1, d2] }
  | _ => none }
def heapNobodyRow : OpenClaim := { program := "ytkfkcloefgfkaaa", sum := "104ad8468a3174fef91648a6935ccc9e7ff84cd2d3166e22a0a3b29d238de4c8", func := "vestibule/vestibulelaw07.HeapNobody", spec := "heapNobody", unfollowed := true, recurses := true, apart := false }
def HeapNobodySaid : Prop := heapNobodyRow.holds Try.pinned (OpenSpec.ofChange heapNobodySpec)

/-- ITS FALSE NEIGHBOUR: 'it returns false'. Refute it at one input. -/
def heapNobodyWrong : ChangeSpec := { name := "heapNobody", fn := fun _ => fun
  | [d1, d2] => { results := [.lit (.bool false)], args := [d1, d2] }
  | _ => none }
def HeapNobodyWrongFalsely : Prop := heapNobodyRow.holds Try.pinned (OpenSpec.ofChange heapNobodyWrong)

/- THE SECOND FORM. 'bulk': how many values and letters a reading holds, each counted each time it is reached (what is shared counts as often as it is met; a slice's spare places count too). A statement '..UptoSaid' is the law's where the arguments, and the package variables that the reading takes, are together of bulk at most 1048576: NARROWER than '..Said'. Prove '..Said' where nothing that the law and all that it calls make is longer than what came in: it says more and counts as full. Else prove '..UptoSaid'. A law counts once. -/
mutual
def uptoBulk {H : Type} : DataW H → Nat
  | .lit (.string bytes) => bytes.length + 1
  | .lit _ => 1
  | .nil => 1
  | .ptr d => uptoBulk d + 1
  | .slice elems spare => uptoBulkAll elems + uptoBulkAll spare + 1
  | .agg parts => uptoBulkAll parts + 1
  | .iface _ d => uptoBulk d + 1
  | .map entries => uptoBulkEntries entries + 1
  | .held _ => 1
def uptoBulkAll {H : Type} : List (DataW H) → Nat
  | [] => 0
  | d :: r => uptoBulk d + uptoBulkAll r
def uptoBulkEntries {H : Type} : List (Lit × DataW H) → Nat
  | [] => 0
  | x :: r => uptoBulkEntry x + uptoBulkEntries r
def uptoBulkEntry {H : Type} : Lit × DataW H → Nat
  | (.string bytes, d) => bytes.length + uptoBulk d + 1
  | (_, d) => uptoBulk d + 1
 end
def uptoSmall : (H : Type) → List (DataW H) → Bool := fun _ ds => decide (uptoBulkAll ds ≤ 1048576)
def OpenSpec.upto (s : _root_.Go.ChangeSpec) : _root_.Go.OpenSpec := { _root_.Go.OpenSpec.ofChange s with cond := some uptoSmall }

/-- 'vestibulelaw06.TreeSteps', WHERE WHAT IT READS IS OF BULK AT MOST 1048576: true; the input reads as it did. -/
def treeStepsUptoRow : OpenClaim := { program := "ytkfkcloefgfkaaa", sum := "104ad8468a3174fef91648a6935ccc9e7ff84cd2d3166e22a0a3b29d238de4c8", func := "vestibule/vestibulelaw06.TreeSteps", spec := "treeSteps", inPlace := ["internal/bytealg.abigen_runtime_cmpstring", "slices.overlaps[vestibule/api.Item]", "slices.overlaps[int]"], unfollowed := true, recurses := true, apart := false, narrowed := true }
def TreeStepsUptoSaid : Prop := treeStepsUptoRow.holds Try.pinned (OpenSpec.upto treeStepsSpec)

/-- 'vestibulelaw05.SpaceRoom', WHERE WHAT IT READS IS OF BULK AT MOST 1048576: true; the input reads as it did. -/
def spaceRoomUptoRow : OpenClaim := { program := "ytkfkcloefgfkaaa", sum := "104ad8468a3174fef91648a6935ccc9e7ff84cd2d3166e22a0a3b29d238de4c8", func := "vestibule/vestibulelaw05.SpaceRoom", spec := "spaceRoom", unfollowed := true, recurses := true, apart := false, narrowed := true }
def SpaceRoomUptoSaid : Prop := spaceRoomUptoRow.holds Try.pinned (OpenSpec.upto spaceRoomSpec)

/-- 'vestibulelaw05.SpaceOver', WHERE WHAT IT READS IS OF BULK AT MOST 1048576: true; the input reads as it did. -/
def spaceOverUptoRow : OpenClaim := { program := "ytkfkcloefgfkaaa", sum := "104ad8468a3174fef91648a6935ccc9e7ff84cd2d3166e22a0a3b29d238de4c8", func := "vestibule/vestibulelaw05.SpaceOver", spec := "spaceOver", unfollowed := true, recurses := true, apart := false, narrowed := true }
def SpaceOverUptoSaid : Prop := spaceOverUptoRow.holds Try.pinned (OpenSpec.upto spaceOverSpec)

/-- 'vestibulelaw07.HeapStays', WHERE WHAT IT READS IS OF BULK AT MOST 1048576: true; the input reads as it did. -/
def heapStaysUptoRow : OpenClaim := { program := "ytkfkcloefgfkaaa", sum := "104ad8468a3174fef91648a6935ccc9e7ff84cd2d3166e22a0a3b29d238de4c8", func := "vestibule/vestibulelaw07.HeapStays", spec := "heapStays", unfollowed := true, recurses := true, apart := false, narrowed := true }
def HeapStaysUptoSaid : Prop := heapStaysUptoRow.holds Try.pinned (OpenSpec.upto heapStaysSpec)

/-- 'vestibulelaw07.HeapPlays', WHERE WHAT IT READS IS OF BULK AT MOST 1048576: true; the input reads as it did. -/
def heapPlaysUptoRow : OpenClaim := { program := "ytkfkcloefgfkaaa", sum := "104ad8468a3174fef91648a6935ccc9e7ff84cd2d3166e22a0a3b29d238de4c8", func := "vestibule/vestibulelaw07.HeapPlays", spec := "heapPlays", unfollowed := true, recurses := true, apart := false, narrowed := true }
def HeapPlaysUptoSaid : Prop := heapPlaysUptoRow.holds Try.pinned (OpenSpec.upto heapPlaysSpec)

/-- 'vestibulelaw07.HeapNobody', WHERE WHAT IT READS IS OF BULK AT MOST 1048576: true; the input reads as it did. -/
def heapNobodyUptoRow : OpenClaim := { program := "ytkfkcloefgfkaaa", sum := "104ad8468a3174fef91648a6935ccc9e7ff84cd2d3166e22a0a3b29d238de4c8", func := "vestibule/vestibulelaw07.HeapNobody", spec := "heapNobody", unfollowed := true, recurses := true, apart := false, narrowed := true }
def HeapNobodyUptoSaid : Prop := heapNobodyUptoRow.holds Try.pinned (OpenSpec.upto heapNobodySpec)

end Rows
end Go.Proofs.Ytkfkcloefgfkaaa
