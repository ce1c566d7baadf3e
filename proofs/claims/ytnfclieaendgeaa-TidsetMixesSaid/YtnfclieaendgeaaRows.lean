/-
  No cell of these rows narrows 'for every input' (looked for: loops, veiled, ifaces, maps, wideKeys, modest, calm, conditions, laid).
  DERIVED. THE GIVEN ROWS OF THIS SEAT. 12 by the template 'for every input the law returns true; each argument reads behind the call as it read before'; 0 by the template 'total and deterministic' (their statements: YtnfclieaendgeaaTotals.lean).
  GIVEN WITH THE SEED: the statements are not yours to turn. If you find one false, say at which input.
  Laid BY PROGRAM, IN A SANDBOX (cutbox-rows.mjs): the forced cells as the released guide's own fill.sh prints them over the translation c7d90081e8d54dec… (all of the seat's roots in one cut). By AI agents, Wed Nov 11 2026. No macro, syntax, notation, axiom, sorry.
-/
import Derived.Test.YtnfclieaendgeaaChecked
import GoSem.Claim
import GoSem.ClaimJoined
import GoSem.ClaimMapViews
import Derived.JoinedTies
import Derived.KernelRfl
namespace Go.Proofs.Ytnfclieaendgeaa
/- THE CELL 'sum', in the pinned program and in every row, IS THE sha256 OF THE DUMP (.gsa) THAT YtnfclieaendgeaaProg.lean LOADS. Nothing in Lean hashes anything: it is a label: what it is worth is what the hold of that sum in a sandbox is worth. -/
noncomputable def Try.pinned : Pinned := { name := "ytnfclieaendgeaa", sum := "c7d90081e8d54decbcabaa3f8033f35fe60ffcbd8406768d3dab82237c0c9458", checked := Try.checked }
namespace Rows
def none {H : Type} : Left H := { results := [], args := [] }

/-- 'vestibulelaw08.SorterMerges': WHATEVER THE INPUT: true; the input reads as it did. -/
def sorterMergesSpec : ChangeSpec := { name := "sorterMerges", fn := fun _ => fun
  | [d] => { results := [.lit (.bool true)], args := [d] }
  | _ => none }
def sorterMergesRow : OpenClaim := { program := "ytnfclieaendgeaa", sum := "c7d90081e8d54decbcabaa3f8033f35fe60ffcbd8406768d3dab82237c0c9458", func := "vestibule/vestibulelaw08.SorterMerges", spec := "sorterMerges", unfollowed := true, recurses := true, apart := false }
def SorterMergesSaid : Prop := sorterMergesRow.holds Try.pinned (OpenSpec.ofChange sorterMergesSpec)

/-- ITS FALSE NEIGHBOUR: 'it returns false'. Refute it at one input. -/
def sorterMergesWrong : ChangeSpec := { name := "sorterMerges", fn := fun _ => fun
  | [d] => { results := [.lit (.bool false)], args := [d] }
  | _ => none }
def SorterMergesWrongFalsely : Prop := sorterMergesRow.holds Try.pinned (OpenSpec.ofChange sorterMergesWrong)

/-- 'vestibulelaw08.SorterParts': WHATEVER THE INPUT: true; the input reads as it did. -/
def sorterPartsSpec : ChangeSpec := { name := "sorterParts", fn := fun _ => fun
  | [d1, d2, d3] => { results := [.lit (.bool true)], args := [d1, d2, d3] }
  | _ => none }
def sorterPartsRow : OpenClaim := { program := "ytnfclieaendgeaa", sum := "c7d90081e8d54decbcabaa3f8033f35fe60ffcbd8406768d3dab82237c0c9458", func := "vestibule/vestibulelaw08.SorterParts", spec := "sorterParts", unfollowed := true, recurses := true, apart := false }
def SorterPartsSaid : Prop := sorterPartsRow.holds Try.pinned (OpenSpec.ofChange sorterPartsSpec)

/-- ITS FALSE NEIGHBOUR: 'it returns false'. Refute it at one input. -/
def sorterPartsWrong : ChangeSpec := { name := "sorterParts", fn := fun _ => fun
  | [d1, d2, d3] => { results := [.lit (.bool false)], args := [d1, d2, d3] }
  | _ => none }
def SorterPartsWrongFalsely : Prop := sorterPartsRow.holds Try.pinned (OpenSpec.ofChange sorterPartsWrong)

/-- 'vestibulelaw14.TidsetWhole': WHATEVER THE INPUT: true; the input reads as it did. -/
def tidsetWholeSpec : ChangeSpec := { name := "tidsetWhole", fn := fun _ => fun
  | [d1, d2] => { results := [.lit (.bool true)], args := [d1, d2] }
  | _ => none }
def tidsetWholeRow : OpenClaim := { program := "ytnfclieaendgeaa", sum := "c7d90081e8d54decbcabaa3f8033f35fe60ffcbd8406768d3dab82237c0c9458", func := "vestibule/vestibulelaw14.TidsetWhole", spec := "tidsetWhole", inPlace := ["slices.overlaps[int]"], recurses := true, apart := false }
def TidsetWholeSaid : Prop := tidsetWholeRow.holds Try.pinned (OpenSpec.ofChange tidsetWholeSpec)

/-- ITS FALSE NEIGHBOUR: 'it returns false'. Refute it at one input. -/
def tidsetWholeWrong : ChangeSpec := { name := "tidsetWhole", fn := fun _ => fun
  | [d1, d2] => { results := [.lit (.bool false)], args := [d1, d2] }
  | _ => none }
def TidsetWholeWrongFalsely : Prop := tidsetWholeRow.holds Try.pinned (OpenSpec.ofChange tidsetWholeWrong)

/-- 'vestibulelaw14.TidsetMixes': WHATEVER THE INPUT: true; the input reads as it did. -/
def tidsetMixesSpec : ChangeSpec := { name := "tidsetMixes", fn := fun _ => fun
  | [d1, d2] => { results := [.lit (.bool true)], args := [d1, d2] }
  | _ => none }
def tidsetMixesRow : OpenClaim := { program := "ytnfclieaendgeaa", sum := "c7d90081e8d54decbcabaa3f8033f35fe60ffcbd8406768d3dab82237c0c9458", func := "vestibule/vestibulelaw14.TidsetMixes", spec := "tidsetMixes", inPlace := ["slices.overlaps[int]"], recurses := true, apart := false }
def TidsetMixesSaid : Prop := tidsetMixesRow.holds Try.pinned (OpenSpec.ofChange tidsetMixesSpec)

/-- ITS FALSE NEIGHBOUR: 'it returns false'. Refute it at one input. -/
def tidsetMixesWrong : ChangeSpec := { name := "tidsetMixes", fn := fun _ => fun
  | [d1, d2] => { results := [.lit (.bool false)], args := [d1, d2] }
  | _ => none }
def TidsetMixesWrongFalsely : Prop := tidsetMixesRow.holds Try.pinned (OpenSpec.ofChange tidsetMixesWrong)

/-- 'vestibulelaw14.TidsetHolds': WHATEVER THE INPUT: true; the input reads as it did. -/
def tidsetHoldsSpec : ChangeSpec := { name := "tidsetHolds", fn := fun _ => fun
  | [d1, d2] => { results := [.lit (.bool true)], args := [d1, d2] }
  | _ => none }
def tidsetHoldsRow : OpenClaim := { program := "ytnfclieaendgeaa", sum := "c7d90081e8d54decbcabaa3f8033f35fe60ffcbd8406768d3dab82237c0c9458", func := "vestibule/vestibulelaw14.TidsetHolds", spec := "tidsetHolds", inPlace := ["slices.overlaps[int]"], recurses := true, apart := false }
def TidsetHoldsSaid : Prop := tidsetHoldsRow.holds Try.pinned (OpenSpec.ofChange tidsetHoldsSpec)

/-- ITS FALSE NEIGHBOUR: 'it returns false'. Refute it at one input. -/
def tidsetHoldsWrong : ChangeSpec := { name := "tidsetHolds", fn := fun _ => fun
  | [d1, d2] => { results := [.lit (.bool false)], args := [d1, d2] }
  | _ => none }
def TidsetHoldsWrongFalsely : Prop := tidsetHoldsRow.holds Try.pinned (OpenSpec.ofChange tidsetHoldsWrong)

/-- 'vestibulelaw14.TidsetSame': WHATEVER THE INPUT: true; the input reads as it did. -/
def tidsetSameSpec : ChangeSpec := { name := "tidsetSame", fn := fun _ => fun
  | [d] => { results := [.lit (.bool true)], args := [d] }
  | _ => none }
def tidsetSameRow : OpenClaim := { program := "ytnfclieaendgeaa", sum := "c7d90081e8d54decbcabaa3f8033f35fe60ffcbd8406768d3dab82237c0c9458", func := "vestibule/vestibulelaw14.TidsetSame", spec := "tidsetSame", inPlace := ["slices.overlaps[int]"], recurses := true, apart := false }
def TidsetSameSaid : Prop := tidsetSameRow.holds Try.pinned (OpenSpec.ofChange tidsetSameSpec)

/-- ITS FALSE NEIGHBOUR: 'it returns false'. Refute it at one input. -/
def tidsetSameWrong : ChangeSpec := { name := "tidsetSame", fn := fun _ => fun
  | [d] => { results := [.lit (.bool false)], args := [d] }
  | _ => none }
def TidsetSameWrongFalsely : Prop := tidsetSameRow.holds Try.pinned (OpenSpec.ofChange tidsetSameWrong)

/-- 'vestibulelaw14.TidsetNobody': WHATEVER THE INPUT: true; the input reads as it did. -/
def tidsetNobodySpec : ChangeSpec := { name := "tidsetNobody", fn := fun _ => fun
  | [d] => { results := [.lit (.bool true)], args := [d] }
  | _ => none }
def tidsetNobodyRow : OpenClaim := { program := "ytnfclieaendgeaa", sum := "c7d90081e8d54decbcabaa3f8033f35fe60ffcbd8406768d3dab82237c0c9458", func := "vestibule/vestibulelaw14.TidsetNobody", spec := "tidsetNobody", inPlace := ["slices.overlaps[int]"], recurses := true, apart := false }
def TidsetNobodySaid : Prop := tidsetNobodyRow.holds Try.pinned (OpenSpec.ofChange tidsetNobodySpec)

/-- ITS FALSE NEIGHBOUR: 'it returns false'. Refute it at one input. -/
def tidsetNobodyWrong : ChangeSpec := { name := "tidsetNobody", fn := fun _ => fun
  | [d] => { results := [.lit (.bool false)], args := [d] }
  | _ => none }
def TidsetNobodyWrongFalsely : Prop := tidsetNobodyRow.holds Try.pinned (OpenSpec.ofChange tidsetNobodyWrong)

/-- 'vestibulelaw14.TidsetTurns': WHATEVER THE INPUT: true; the input reads as it did. -/
def tidsetTurnsSpec : ChangeSpec := { name := "tidsetTurns", fn := fun _ => fun
  | [d] => { results := [.lit (.bool true)], args := [d] }
  | _ => none }
def tidsetTurnsRow : OpenClaim := { program := "ytnfclieaendgeaa", sum := "c7d90081e8d54decbcabaa3f8033f35fe60ffcbd8406768d3dab82237c0c9458", func := "vestibule/vestibulelaw14.TidsetTurns", spec := "tidsetTurns", inPlace := ["slices.overlaps[int]"], recurses := true, apart := false }
def TidsetTurnsSaid : Prop := tidsetTurnsRow.holds Try.pinned (OpenSpec.ofChange tidsetTurnsSpec)

/-- ITS FALSE NEIGHBOUR: 'it returns false'. Refute it at one input. -/
def tidsetTurnsWrong : ChangeSpec := { name := "tidsetTurns", fn := fun _ => fun
  | [d] => { results := [.lit (.bool false)], args := [d] }
  | _ => none }
def TidsetTurnsWrongFalsely : Prop := tidsetTurnsRow.holds Try.pinned (OpenSpec.ofChange tidsetTurnsWrong)

/-- 'vestibulelaw08.SorterRooms': WHATEVER THE INPUT: true; the input reads as it did. -/
def sorterRoomsSpec : ChangeSpec := { name := "sorterRooms", fn := fun _ => fun
  | [d1, d2, d3] => { results := [.lit (.bool true)], args := [d1, d2, d3] }
  | _ => none }
def sorterRoomsRow : OpenClaim := { program := "ytnfclieaendgeaa", sum := "c7d90081e8d54decbcabaa3f8033f35fe60ffcbd8406768d3dab82237c0c9458", func := "vestibule/vestibulelaw08.SorterRooms", spec := "sorterRooms", unfollowed := true, recurses := true, apart := false }
def SorterRoomsSaid : Prop := sorterRoomsRow.holds Try.pinned (OpenSpec.ofChange sorterRoomsSpec)

/-- ITS FALSE NEIGHBOUR: 'it returns false'. Refute it at one input. -/
def sorterRoomsWrong : ChangeSpec := { name := "sorterRooms", fn := fun _ => fun
  | [d1, d2, d3] => { results := [.lit (.bool false)], args := [d1, d2, d3] }
  | _ => none }
def SorterRoomsWrongFalsely : Prop := sorterRoomsRow.holds Try.pinned (OpenSpec.ofChange sorterRoomsWrong)

/-- 'vestibulelaw08.SorterKeeps': WHATEVER THE INPUT: true; the input reads as it did. -/
def sorterKeepsSpec : ChangeSpec := { name := "sorterKeeps", fn := fun _ => fun
  | [d1, d2, d3] => { results := [.lit (.bool true)], args := [d1, d2, d3] }
  | _ => none }
def sorterKeepsRow : OpenClaim := { program := "ytnfclieaendgeaa", sum := "c7d90081e8d54decbcabaa3f8033f35fe60ffcbd8406768d3dab82237c0c9458", func := "vestibule/vestibulelaw08.SorterKeeps", spec := "sorterKeeps", unfollowed := true, recurses := true, apart := false }
def SorterKeepsSaid : Prop := sorterKeepsRow.holds Try.pinned (OpenSpec.ofChange sorterKeepsSpec)

/-- ITS FALSE NEIGHBOUR: 'it returns false'. Refute it at one input. -/
def sorterKeepsWrong : ChangeSpec := { name := "sorterKeeps", fn := fun _ => fun
  | [d1, d2, d3] => { results := [.lit (.bool false)], args := [d1, d2, d3] }
  | _ => none }
def SorterKeepsWrongFalsely : Prop := sorterKeepsRow.holds Try.pinned (OpenSpec.ofChange sorterKeepsWrong)

/-- 'vestibulelaw08.SorterNobody': WHATEVER THE INPUT: true; the input reads as it did. -/
def sorterNobodySpec : ChangeSpec := { name := "sorterNobody", fn := fun _ => fun
  | [d] => { results := [.lit (.bool true)], args := [d] }
  | _ => none }
def sorterNobodyRow : OpenClaim := { program := "ytnfclieaendgeaa", sum := "c7d90081e8d54decbcabaa3f8033f35fe60ffcbd8406768d3dab82237c0c9458", func := "vestibule/vestibulelaw08.SorterNobody", spec := "sorterNobody", unfollowed := true, recurses := true, apart := false }
def SorterNobodySaid : Prop := sorterNobodyRow.holds Try.pinned (OpenSpec.ofChange sorterNobodySpec)

/-- ITS FALSE NEIGHBOUR: 'it returns false'. Refute it at one input. -/
def sorterNobodyWrong : ChangeSpec := { name := "sorterNobody", fn := fun _ => fun
  | [d] => { results := [.lit (.bool false)], args := [d] }
  | _ => none }
def SorterNobodyWrongFalsely : Prop := sorterNobodyRow.holds Try.pinned (OpenSpec.ofChange sorterNobodyWrong)

/-- 'vestibulelaw08.SorterSorts': WHATEVER THE INPUT: true; the input reads as it did. -/
def sorterSortsSpec : ChangeSpec := { name := "sorterSorts", fn := fun _ => fun
  | [d1, d2] => { results := [.lit (.bool true)], args := [d1, d2] }
  | _ => none }
def sorterSortsRow : OpenClaim := { program := "ytnfclieaendgeaa", sum := "c7d90081e8d54decbcabaa3f8033f35fe60ffcbd8406768d3dab82237c0c9458", func := "vestibule/vestibulelaw08.SorterSorts", spec := "sorterSorts", unfollowed := true, recurses := true, apart := false }
def SorterSortsSaid : Prop := sorterSortsRow.holds Try.pinned (OpenSpec.ofChange sorterSortsSpec)

/-- ITS FALSE NEIGHBOUR: 'it returns false'. Refute it at one input. -/
def sorterSortsWrong : ChangeSpec := { name := "sorterSorts", fn := fun _ => fun
  | [d1, d2] => { results := [.lit (.bool false)], args := [d1, d2] }
  | _ => none }
def SorterSortsWrongFalsely : Prop := sorterSortsRow.holds Try.pinned (OpenSpec.ofChange sorterSortsWrong)

/- THE SECOND FORM. 'bulk': how many values and letters a reading holds, each counted each time it is reached (what is shared counts as often as it is met; a slice's spare places count too). A statement '..UptoSaid' is the law's where the arguments, and the package variables that the reading takes, are together of bulk at most 1048576: NARROWER than '..Said'. Prove '..Said' where nothing that the law and all that it calls make is longer than what came in: it says more and counts as full. Else prove '..UptoSaid'. A law counts once. -/
mutual
def uptoBulk {H : Type} : DataW H → Nat
  | .lit (.string bytes) => bytes.length + 1
  | .lit _ => 1
  | .nil => 1
  | .ptr d => uptoBulk d + 1
  | .slice elems spare => uptoBulkAll elems + uptoBulkAll spare + 1
  | .agg parts => uptoBulkAll parts + 1
  | .iface _ d => uptoBulk d + 1
  | .map entries => uptoBulkEntries entries + 1
  | .held _ => 1
def uptoBulkAll {H : Type} : List (DataW H) → Nat
  | [] => 0
  | d :: r => uptoBulk d + uptoBulkAll r
def uptoBulkEntries {H : Type} : List (Lit × DataW H) → Nat
  | [] => 0
  | x :: r => uptoBulkEntry x + uptoBulkEntries r
def uptoBulkEntry {H : Type} : Lit × DataW H → Nat
  | (.string bytes, d) => bytes.length + uptoBulk d + 1
  | (_, d) => uptoBulk d + 1
 end
def uptoSmall : (H : Type) → List (DataW H) → Bool := fun _ ds => decide (uptoBulkAll ds ≤ 1048576)
def OpenSpec.upto (s : _root_.Go.ChangeSpec) : _root_.Go.OpenSpec := { _root_.Go.OpenSpec.ofChange s with cond := some uptoSmall }

/-- 'vestibulelaw08.SorterMerges', WHERE WHAT IT READS IS OF BULK AT MOST 1048576: true; the input reads as it did. -/
def sorterMergesUptoRow : OpenClaim := { program := "ytnfclieaendgeaa", sum := "c7d90081e8d54decbcabaa3f8033f35fe60ffcbd8406768d3dab82237c0c9458", func := "vestibule/vestibulelaw08.SorterMerges", spec := "sorterMerges", unfollowed := true, recurses := true, apart := false, narrowed := true }
def SorterMergesUptoSaid : Prop := sorterMergesUptoRow.holds Try.pinned (OpenSpec.upto sorterMergesSpec)

/-- 'vestibulelaw08.SorterParts', WHERE WHAT IT READS IS OF BULK AT MOST 1048576: true; the input reads as it did. -/
def sorterPartsUptoRow : OpenClaim := { program := "ytnfclieaendgeaa", sum := "c7d90081e8d54decbcabaa3f8033f35fe60ffcbd8406768d3dab82237c0c9458", func := "vestibule/vestibulelaw08.SorterParts", spec := "sorterParts", unfollowed := true, recurses := true, apart := false, narrowed := true }
def SorterPartsUptoSaid : Prop := sorterPartsUptoRow.holds Try.pinned (OpenSpec.upto sorterPartsSpec)

/-- 'vestibulelaw14.TidsetWhole', WHERE WHAT IT READS IS OF BULK AT MOST 1048576: true; the input reads as it did. -/
def tidsetWholeUptoRow : OpenClaim := { program := "ytnfclieaendgeaa", sum := "c7d90081e8d54decbcabaa3f8033f35fe60ffcbd8406768d3dab82237c0c9458", func := "vestibule/vestibulelaw14.TidsetWhole", spec := "tidsetWhole", inPlace := ["slices.overlaps[int]"], recurses := true, apart := false, narrowed := true }
def TidsetWholeUptoSaid : Prop := tidsetWholeUptoRow.holds Try.pinned (OpenSpec.upto tidsetWholeSpec)

/-- 'vestibulelaw14.TidsetMixes', WHERE WHAT IT READS IS OF BULK AT MOST 1048576: true; the input reads as it did. -/
def tidsetMixesUptoRow : OpenClaim := { program := "ytnfclieaendgeaa", sum := "c7d90081e8d54decbcabaa3f8033f35fe60ffcbd8406768d3dab82237c0c9458", func := "vestibule/vestibulelaw14.TidsetMixes", spec := "tidsetMixes", inPlace := ["slices.overlaps[int]"], recurses := true, apart := false, narrowed := true }
def TidsetMixesUptoSaid : Prop := tidsetMixesUptoRow.holds Try.pinned (OpenSpec.upto tidsetMixesSpec)

/-- 'vestibulelaw14.TidsetHolds', WHERE WHAT IT READS IS OF BULK AT MOST 1048576: true; the input reads as it did. -/
def tidsetHoldsUptoRow : OpenClaim := { program := "ytnfclieaendgeaa", sum := "c7d90081e8d54decbcabaa3f8033f35fe60ffcbd8406768d3dab82237c0c9458", func := "vestibule/vestibulelaw14.TidsetHolds", spec := "tidsetHolds", inPlace := ["slices.overlaps[int]"], recurses := true, apart := false, narrowed := true }
def TidsetHoldsUptoSaid : Prop := tidsetHoldsUptoRow.holds Try.pinned (OpenSpec.upto tidsetHoldsSpec)

/-- 'vestibulelaw14.TidsetSame', WHERE WHAT IT READS IS OF BULK AT MOST 1048576: true; the input reads as it did. -/
def tidsetSameUptoRow : OpenClaim := { program := "ytnfclieaendgeaa", sum := "c7d90081e8d54decbcabaa3f8033f35fe60ffcbd8406768d3dab82237c0c9458", func := "vestibule/vestibulelaw14.TidsetSame", spec := "tidsetSame", inPlace := ["slices.overlaps[int]"], recurses := true, apart := false, narrowed := true }
def TidsetSameUptoSaid : Prop := tidsetSameUptoRow.holds Try.pinned (OpenSpec.upto tidsetSameSpec)

/-- 'vestibulelaw14.TidsetNobody', WHERE WHAT IT READS IS OF BULK AT MOST 1048576: true; the input reads as it did. -/
def tidsetNobodyUptoRow : OpenClaim := { program := "ytnfclieaendgeaa", sum := "c7d90081e8d54decbcabaa3f8033f35fe60ffcbd8406768d3dab82237c0c9458", func := "vestibule/vestibulelaw14.TidsetNobody", spec := "tidsetNobody", inPlace := ["slices.overlaps[int]"], recurses := true, apart := false, narrowed := true }
def TidsetNobodyUptoSaid : Prop := tidsetNobodyUptoRow.holds Try.pinned (OpenSpec.upto tidsetNobodySpec)

/-- 'vestibulelaw14.TidsetTurns', WHERE WHAT IT READS IS OF BULK AT MOST 1048576: true; the input reads as it did. -/
def tidsetTurnsUptoRow : OpenClaim := { program := "ytnfclieaendgeaa", sum := "c7d90081e8d54decbcabaa3f8033f35fe60ffcbd8406768d3dab82237c0c9458", func := "vestibule/vestibulelaw14.TidsetTurns", spec := "tidsetTurns", inPlace := ["slices.overlaps[int]"], recurses := true, apart := false, narrowed := true }
def TidsetTurnsUptoSaid : Prop := tidsetTurnsUptoRow.holds Try.pinned (OpenSpec.upto tidsetTurnsSpec)

/-- 'vestibulelaw08.SorterRooms', WHERE WHAT IT READS IS OF BULK AT MOST 1048576: true; the input reads as it did. -/
def sorterRoomsUptoRow : OpenClaim := { program := "ytnfclieaendgeaa", sum := "c7d90081e8d54decbcabaa3f8033f35fe60ffcbd8406768d3dab82237c0c9458", func := "vestibule/vestibulelaw08.SorterRooms", spec := "sorterRooms", unfollowed := true, recurses := true, apart := false, narrowed := true }
def SorterRoomsUptoSaid : Prop := sorterRoomsUptoRow.holds Try.pinned (OpenSpec.upto sorterRoomsSpec)

/-- 'vestibulelaw08.SorterKeeps', WHERE WHAT IT READS IS OF BULK AT MOST 1048576: true; the input reads as it did. -/
def sorterKeepsUptoRow : OpenClaim := { program := "ytnfclieaendgeaa", sum := "c7d90081e8d54decbcabaa3f8033f35fe60ffcbd8406768d3dab82237c0c9458", func := "vestibule/vestibulelaw08.SorterKeeps", spec := "sorterKeeps", unfollowed := true, recurses := true, apart := false, narrowed := true }
def SorterKeepsUptoSaid : Prop := sorterKeepsUptoRow.holds Try.pinned (OpenSpec.upto sorterKeepsSpec)

/-- 'vestibulelaw08.SorterNobody', WHERE WHAT IT READS IS OF BULK AT MOST 1048576: true; the input reads as it did. -/
def sorterNobodyUptoRow : OpenClaim := { program := "ytnfclieaendgeaa", sum := "c7d90081e8d54decbcabaa3f8033f35fe60ffcbd8406768d3dab82237c0c9458", func := "vestibule/vestibulelaw08.SorterNobody", spec := "sorterNobody", unfollowed := true, recurses := true, apart := false, narrowed := true }
def SorterNobodyUptoSaid : Prop := sorterNobodyUptoRow.holds Try.pinned (OpenSpec.upto sorterNobodySpec)

/-- 'vestibulelaw08.SorterSorts', WHERE WHAT IT READS IS OF BULK AT MOST 1048576: true; the input reads as it did. -/
def sorterSortsUptoRow : OpenClaim := { program := "ytnfclieaendgeaa", sum := "c7d90081e8d54decbcabaa3f8033f35fe60ffcbd8406768d3dab82237c0c9458", func := "vestibule/vestibulelaw08.SorterSorts", spec := "sorterSorts", unfollowed := true, recurses := true, apart := false, narrowed := true }
def SorterSortsUptoSaid : Prop := sorterSortsUptoRow.holds Try.pinned (OpenSpec.upto sorterSortsSpec)

end Rows
end Go.Proofs.Ytnfclieaendgeaa
