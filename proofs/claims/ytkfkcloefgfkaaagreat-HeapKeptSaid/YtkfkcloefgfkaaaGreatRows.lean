/-
  No cell of these rows narrows 'for every input' (looked for: loops, veiled, ifaces, maps, wideKeys, modest, calm, conditions, laid).
  DERIVED. THE GIVEN ROWS OF THIS SEAT. 6 by the template 'for every input the law returns true; each argument reads behind the call as it read before'; 0 by the template 'total and deterministic' (their statements: YtkfkcloefgfkaaaGreatTotals.lean).
  GIVEN WITH THE SEED: the statements are not yours to turn. If you find one false, say at which input.
  Laid BY PROGRAM, IN A SANDBOX (cutbox-rows.mjs): the forced cells as the released guide's own fill.sh prints them over the translation c44493d03eb8cb98… (all of the seat's roots in one cut). By AI agents, Wed Nov 11 2026. No macro, syntax, notation, axiom, sorry.
-/
import Derived.Test.YtkfkcloefgfkaaaGreatChecked
import GoSem.Claim
import GoSem.ClaimJoined
import GoSem.ClaimMapViews
import Derived.JoinedTies
import Derived.KernelRfl
namespace Go.Proofs.YtkfkcloefgfkaaaGreat
/- THE CELL 'sum', in the pinned program and in every row, IS THE sha256 OF THE DUMP (.gsa) THAT YtkfkcloefgfkaaaGreatProg.lean LOADS. Nothing in Lean hashes anything: it is a label: what it is worth is what the hold of that sum in a sandbox is worth. -/
noncomputable def Tryz.pinned : Pinned := { name := "ytkfkcloefgfkaaagreat", sum := "c44493d03eb8cb98c346483773ffbb06fe7d696cca9fe1a05e52a7b005b9efdf", checked := Tryz.checked }
namespace Rows
def none {H : Type} : Left H := { results := [], args := [] }

/-- 'vestibulelaw07.HeapKept': WHATEVER THE INPUT: true; the input reads as it did. -/
def heapKeptSpec : ChangeSpec := { name := "heapKept", fn := fun _ => fun
  | [d1, d2] => { results := [.lit (.bool true)], args := [d1, d2] }
  | _ => none }
def heapKeptRow : OpenClaim := { program := "ytkfkcloefgfkaaagreat", sum := "c44493d03eb8cb98c346483773ffbb06fe7d696cca9fe1a05e52a7b005b9efdf", func := "vestibule/vestibulelaw07.HeapKept", spec := "heapKept", unfollowed := true, recurses := true, apart := false }
def HeapKeptSaid : Prop := heapKeptRow.holds Tryz.pinned (OpenSpec.ofChange heapKeptSpec)

/-- ITS FALSE NEIGHBOUR: 'it returns false'. Refute it at one input. -/
def heapKeptWrong : ChangeSpec := { name := "heapKept", fn := fun _ => fun
  | [d1, d2] => { results := [.lit (.bool false)], args := [d1, d2] }
  | _ => none }
def HeapKeptWrongFalsely : Prop := heapKeptRow.holds Tryz.pinned (OpenSpec.ofChange heapKeptWrong)

/-- 'vestibulelaw07.HeapWhole': WHATEVER THE INPUT: true; the input reads as it did. -/
def heapWholeSpec : ChangeSpec := { name := "heapWhole", fn := fun _ => fun
  | [d] => { results := [.lit (.bool true)], args := [d] }
  | _ => none }
def heapWholeRow : OpenClaim := { program := "ytkfkcloefgfkaaagreat", sum := "c44493d03eb8cb98c346483773ffbb06fe7d696cca9fe1a05e52a7b005b9efdf", func := "vestibule/vestibulelaw07.HeapWhole", spec := "heapWhole", unfollowed := true, recurses := true, apart := false }
def HeapWholeSaid : Prop := heapWholeRow.holds Tryz.pinned (OpenSpec.ofChange heapWholeSpec)

/-- ITS FALSE NEIGHBOUR: 'it returns false'. Refute it at one input. -/
def heapWholeWrong : ChangeSpec := { name := "heapWhole", fn := fun _ => fun
  | [d] => { results := [.lit (.bool false)], args := [d] }
  | _ => none }
def HeapWholeWrongFalsely : Prop := heapWholeRow.holds Tryz.pinned (OpenSpec.ofChange heapWholeWrong)

/-- 'vestibulelaw06.TreePlays': WHATEVER THE INPUT: true; the input reads as it did. -/
def treePlaysSpec : ChangeSpec := { name := "treePlays", fn := fun _ => fun
  | [d] => { results := [.lit (.bool true)], args := [d] }
  | _ => none }
def treePlaysRow : OpenClaim := { program := "ytkfkcloefgfkaaagreat", sum := "c44493d03eb8cb98c346483773ffbb06fe7d696cca9fe1a05e52a7b005b9efdf", func := "vestibule/vestibulelaw06.TreePlays", spec := "treePlays", inPlace := ["internal/bytealg.abigen_runtime_cmpstring", "slices.overlaps[vestibule/api.Item]", "slices.overlaps[int]"], unfollowed := true, recurses := true, apart := false }
def TreePlaysSaid : Prop := treePlaysRow.holds Tryz.pinned (OpenSpec.ofChange treePlaysSpec)

/-- ITS FALSE NEIGHBOUR: 'it returns false'. Refute it at one input. -/
def treePlaysWrong : ChangeSpec := { name := "treePlays", fn := fun _ => fun
  | [d] => { results := [.lit (.bool false)], args := [d] }
  | _ => none }
def TreePlaysWrongFalsely : Prop := treePlaysRow.holds Tryz.pinned (OpenSpec.ofChange treePlaysWrong)

/-- 'vestibulelaw06.TreeApart': WHATEVER THE INPUT: true; the input reads as it did. -/
def treeApartSpec : ChangeSpec := { name := "treeApart", fn := fun _ => fun
  | [d] => { results := [.lit (.bool true)], args := [d] }
  | _ => none }
def treeApartRow : OpenClaim := { program := "ytkfkcloefgfkaaagreat", sum := "c44493d03eb8cb98c346483773ffbb06fe7d696cca9fe1a05e52a7b005b9efdf", func := "vestibule/vestibulelaw06.TreeApart", spec := "treeApart", inPlace := ["internal/bytealg.abigen_runtime_cmpstring", "slices.overlaps[vestibule/api.Item]", "slices.overlaps[int]"], unfollowed := true, recurses := true, apart := false }
def TreeApartSaid : Prop := treeApartRow.holds Tryz.pinned (OpenSpec.ofChange treeApartSpec)

/-- ITS FALSE NEIGHBOUR: 'it returns false'. Refute it at one input. -/
def treeApartWrong : ChangeSpec := { name := "treeApart", fn := fun _ => fun
  | [d] => { results := [.lit (.bool false)], args := [d] }
  | _ => none }
def TreeApartWrongFalsely : Prop := treeApartRow.holds Tryz.pinned (OpenSpec.ofChange treeApartWrong)

/-- 'vestibulelaw06.TreeNobody': WHATEVER THE INPUT: true; the input reads as it did. -/
def treeNobodySpec : ChangeSpec := { name := "treeNobody", fn := fun _ => fun
  | [d1, d2] => { results := [.lit (.bool true)], args := [d1, d2] }
  | _ => none }
def treeNobodyRow : OpenClaim := { program := "ytkfkcloefgfkaaagreat", sum := "c44493d03eb8cb98c346483773ffbb06fe7d696cca9fe1a05e52a7b005b9efdf", func := "vestibule/vestibulelaw06.TreeNobody", spec := "treeNobody", inPlace := ["internal/bytealg.abigen_runtime_cmpstring", "slices.overlaps[vestibule/api.Item]", "slices.overlaps[int]"], unfollowed := true, recurses := true, apart := false }
def TreeNobodySaid : Prop := treeNobodyRow.holds Tryz.pinned (OpenSpec.ofChange treeNobodySpec)

/-- ITS FALSE NEIGHBOUR: 'it returns false'. Refute it at one input. -/
def treeNobodyWrong : ChangeSpec := { name := "treeNobody", fn := fun _ => fun
  | [d1, d2] => { results := [.lit (.bool false)], args := [d1, d2] }
  | _ => none }
def TreeNobodyWrongFalsely : Prop := treeNobodyRow.holds Tryz.pinned (OpenSpec.ofChange treeNobodyWrong)

/-- 'vestibulelaw06.TreeKept': WHATEVER THE INPUT: true; the input reads as it did. -/
def treeKeptSpec : ChangeSpec := { name := "treeKept", fn := fun _ => fun
  | [d1, d2] => { results := [.lit (.bool true)], args := [d1, d2] }
  | _ => none }
def treeKeptRow : OpenClaim := { program := "ytkfkcloefgfkaaagreat", sum := "c44493d03eb8cb98c346483773ffbb06fe7d696cca9fe1a05e52a7b005b9efdf", func := "vestibule/vestibulelaw06.TreeKept", spec := "treeKept", inPlace := ["internal/bytealg.abigen_runtime_cmpstring", "slices.overlaps[vestibule/api.Item]", "slices.overlaps[int]"], unfollowed := true, recurses := true, apart := false }
def TreeKeptSaid : Prop := treeKeptRow.holds Tryz.pinned (OpenSpec.ofChange treeKeptSpec)

/-- ITS FALSE NEIGHBOUR: 'it returns false'. Refute it at one input. -/
def treeKeptWrong : ChangeSpec := { name := "treeKept", fn := fun _ => fun
  | [d1, d2] => { results := [.lit (.bool false)], args := [d1, d2] }
  | _ => none }
def TreeKeptWrongFalsely : Prop := treeKeptRow.holds Tryz.pinned (OpenSpec.ofChange treeKeptWrong)

/- THE SECOND FORM. 'bulk': how many values and letters a reading holds, each counted each time it is reached (what is shared counts as often as it is met; a slice's spare places count too). A statement '..UptoSaid' is the law's where the arguments, and the package variables that the reading takes, are together of bulk at most 1048576: NARROWER than '..Said'. Prove '..Said' where nothing that the law and all that it calls make is longer than what came in: it says more and counts as full. Else prove '..UptoSaid'. A law counts once. -/
mutual
def uptoBulk {H : Type} : DataW H → Nat
  | .lit (.string bytes) => bytes.length + 1
  | .lit _ => 1
  | .nil => 1
  | .ptr d => uptoBulk d + 1
  | .slice elems spare => uptoBulkAll elems + uptoBulkAll spare + 1
  | .agg parts => uptoBulkAll parts + 1
  | .iface _ d => uptoBulk d + 1
  | .map entries => uptoBulkEntries entries + 1
  | .held _ => 1
def uptoBulkAll {H : Type} : List (DataW H) → Nat
  | [] => 0
  | d :: r => uptoBulk d + uptoBulkAll r
def uptoBulkEntries {H : Type} : List (Lit × DataW H) → Nat
  | [] => 0
  | x :: r => uptoBulkEntry x + uptoBulkEntries r
def uptoBulkEntry {H : Type} : Lit × DataW H → Nat
  | (.string bytes, d) => bytes.length + uptoBulk d + 1
  | (_, d) => uptoBulk d + 1
 end
def uptoSmall : (H : Type) → List (DataW H) → Bool := fun _ ds => decide (uptoBulkAll ds ≤ 1048576)
def OpenSpec.upto (s : _root_.Go.ChangeSpec) : _root_.Go.OpenSpec := { _root_.Go.OpenSpec.ofChange s with cond := some uptoSmall }

/-- 'vestibulelaw07.HeapKept', WHERE WHAT IT READS IS OF BULK AT MOST 1048576: true; the input reads as it did. -/
def heapKeptUptoRow : OpenClaim := { program := "ytkfkcloefgfkaaagreat", sum := "c44493d03eb8cb98c346483773ffbb06fe7d696cca9fe1a05e52a7b005b9efdf", func := "vestibule/vestibulelaw07.HeapKept", spec := "heapKept", unfollowed := true, recurses := true, apart := false, narrowed := true }
def HeapKeptUptoSaid : Prop := heapKeptUptoRow.holds Tryz.pinned (OpenSpec.upto heapKeptSpec)

/-- 'vestibulelaw07.HeapWhole', WHERE WHAT IT READS IS OF BULK AT MOST 1048576: true; the input reads as it did. -/
def heapWholeUptoRow : OpenClaim := { program := "ytkfkcloefgfkaaagreat", sum := "c44493d03eb8cb98c346483773ffbb06fe7d696cca9fe1a05e52a7b005b9efdf", func := "vestibule/vestibulelaw07.HeapWhole", spec := "heapWhole", unfollowed := true, recurses := true, apart := false, narrowed := true }
def HeapWholeUptoSaid : Prop := heapWholeUptoRow.holds Tryz.pinned (OpenSpec.upto heapWholeSpec)

/-- 'vestibulelaw06.TreePlays', WHERE WHAT IT READS IS OF BULK AT MOST 1048576: true; the input reads as it did. -/
def treePlaysUptoRow : OpenClaim := { program := "ytkfkcloefgfkaaagreat", sum := "c44493d03eb8cb98c346483773ffbb06fe7d696cca9fe1a05e52a7b005b9efdf", func := "vestibule/vestibulelaw06.TreePlays", spec := "treePlays", inPlace := ["internal/bytealg.abigen_runtime_cmpstring", "slices.overlaps[vestibule/api.Item]", "slices.overlaps[int]"], unfollowed := true, recurses := true, apart := false, narrowed := true }
def TreePlaysUptoSaid : Prop := treePlaysUptoRow.holds Tryz.pinned (OpenSpec.upto treePlaysSpec)

/-- 'vestibulelaw06.TreeApart', WHERE WHAT IT READS IS OF BULK AT MOST 1048576: true; the input reads as it did. -/
def treeApartUptoRow : OpenClaim := { program := "ytkfkcloefgfkaaagreat", sum := "c44493d03eb8cb98c346483773ffbb06fe7d696cca9fe1a05e52a7b005b9efdf", func := "vestibule/vestibulelaw06.TreeApart", spec := "treeApart", inPlace := ["internal/bytealg.abigen_runtime_cmpstring", "slices.overlaps[vestibule/api.Item]", "slices.overlaps[int]"], unfollowed := true, recurses := true, apart := false, narrowed := true }
def TreeApartUptoSaid : Prop := treeApartUptoRow.holds Tryz.pinned (OpenSpec.upto treeApartSpec)

/-- 'vestibulelaw06.TreeNobody', WHERE WHAT IT READS IS OF BULK AT MOST 1048576: true; the input reads as it did. -/
def treeNobodyUptoRow : OpenClaim := { program := "ytkfkcloefgfkaaagreat", sum := "c44493d03eb8cb98c346483773ffbb06fe7d696cca9fe1a05e52a7b005b9efdf", func := "vestibule/vestibulelaw06.TreeNobody", spec := "treeNobody", inPlace := ["internal/bytealg.abigen_runtime_cmpstring", "slices.overlaps[vestibule/api.Item]", "slices.overlaps[int]"], unfollowed := true, recurses := true, apart := false, narrowed := true }
def TreeNobodyUptoSaid : Prop := treeNobodyUptoRow.holds Tryz.pinned (OpenSpec.upto treeNobodySpec)

/-- 'vestibulelaw06.TreeKept', WHERE WHAT IT READS IS OF BULK AT MOST 1048576: true; the input reads as it did. -/
def treeKeptUptoRow : OpenClaim := { program := "ytkfkcloefgfkaaagreat", sum := "c44493d03eb8cb98c346483773ffbb06fe7d696cca9fe1a05e52a7b005b9efdf", func := "vestibule/vestibulelaw06.TreeKept", spec := "treeKept", inPlace := ["internal/bytealg.abigen_runtime_cmpstring", "slices.overlaps[vestibule/api.Item]", "slices.overlaps[int]"], unfollowed := true, recurses := true, apart := false, narrowed := true }
def TreeKeptUptoSaid : Prop := treeKeptUptoRow.holds Tryz.pinned (OpenSpec.upto treeKeptSpec)

end Rows
end Go.Proofs.YtkfkcloefgfkaaaGreat
