/-
  No cell of these rows narrows 'for every input' (looked for: loops, veiled, ifaces, maps, wideKeys, modest, calm, conditions, laid).
  DERIVED. THE GIVEN ROWS OF THIS SEAT. 12 by the template 'for every input the law returns true; each argument reads behind the call as it read before'; 0 by the template 'total and deterministic' (their statements: YtkkeplobomncgaaTotals.lean).
  GIVEN WITH THE SEED: the statements are not yours to turn. If you find one false, say at which input.
  Laid BY PROGRAM, IN A SANDBOX (cutbox-rows.mjs): the forced cells as the released guide's own fill.sh prints them over the translation b400a3041ae5ef00… (all of the seat's roots in one cut). By AI agents, Wed Nov 11 2026. No macro, syntax, notation, axiom, sorry.
-/
import Derived.Test.YtkkeplobomncgaaChecked
import GoSem.Claim
import GoSem.ClaimJoined
import GoSem.ClaimMapViews
import Derived.JoinedTies
import Derived.KernelRfl
namespace Go.Proofs.Ytkkeplobomncgaa
/- THE CELL 'sum', in the pinned program and in every row, IS THE sha256 OF THE DUMP (.gsa) THAT YtkkeplobomncgaaProg.lean LOADS. Nothing in Lean hashes anything: it is a label: what it is worth is what the hold of that sum in a sandbox is worth. -/
noncomputable def Try.pinned : Pinned := { name := "ytkkeplobomncgaa", sum := "b400a3041ae5ef00b37fe9e622923ac4557cc4ca3cf519fe78976f73c79fa34f", checked := Try.checked }
namespace Rows
def none {H : Type} : Left H := { results := [], args := [] }

/-- 'vestibulelaw02.DiskPlays': WHATEVER THE INPUT: true; the input reads as it did. -/
def diskPlaysSpec : ChangeSpec := { name := "diskPlays", fn := fun _ => fun
  | [d1, d2, d3] => { results := [.lit (.bool true)], args := [d1, d2, d3] }
  | _ => none }
def diskPlaysRow : OpenClaim := { program := "ytkkeplobomncgaa", sum := "b400a3041ae5ef00b37fe9e622923ac4557cc4ca3cf519fe78976f73c79fa34f", func := "vestibule/vestibulelaw02.DiskPlays", spec := "diskPlays", unfollowed := true, recurses := true, apart := false }
def DiskPlaysSaid : Prop := diskPlaysRow.holds Try.pinned (OpenSpec.ofChange diskPlaysSpec)

/-- ITS FALSE NEIGHBOUR: 'it returns false'. Refute it at one input. -/
def diskPlaysWrong : ChangeSpec := { name := "diskPlays", fn := fun _ => fun
  | [d1, d2, d3] => { results := [.lit (.bool false)], args := [d1, d2, d3] }
  | _ => none }
def DiskPlaysWrongFalsely : Prop := diskPlaysRow.holds Try.pinned (OpenSpec.ofChange diskPlaysWrong)

/-- 'vestibulelaw02.DiskCuts': WHATEVER THE INPUT: true; the input reads as it did. -/
def diskCutsSpec : ChangeSpec := { name := "diskCuts", fn := fun _ => fun
  | [d1, d2] => { results := [.lit (.bool true)], args := [d1, d2] }
  | _ => none }
def diskCutsRow : OpenClaim := { program := "ytkkeplobomncgaa", sum := "b400a3041ae5ef00b37fe9e622923ac4557cc4ca3cf519fe78976f73c79fa34f", func := "vestibule/vestibulelaw02.DiskCuts", spec := "diskCuts", unfollowed := true, recurses := true, apart := false }
def DiskCutsSaid : Prop := diskCutsRow.holds Try.pinned (OpenSpec.ofChange diskCutsSpec)

/-- ITS FALSE NEIGHBOUR: 'it returns false'. Refute it at one input. -/
def diskCutsWrong : ChangeSpec := { name := "diskCuts", fn := fun _ => fun
  | [d1, d2] => { results := [.lit (.bool false)], args := [d1, d2] }
  | _ => none }
def DiskCutsWrongFalsely : Prop := diskCutsRow.holds Try.pinned (OpenSpec.ofChange diskCutsWrong)

/-- 'vestibulelaw02.DiskAgain': WHATEVER THE INPUT: true; the input reads as it did. -/
def diskAgainSpec : ChangeSpec := { name := "diskAgain", fn := fun _ => fun
  | [d1, d2, d3] => { results := [.lit (.bool true)], args := [d1, d2, d3] }
  | _ => none }
def diskAgainRow : OpenClaim := { program := "ytkkeplobomncgaa", sum := "b400a3041ae5ef00b37fe9e622923ac4557cc4ca3cf519fe78976f73c79fa34f", func := "vestibule/vestibulelaw02.DiskAgain", spec := "diskAgain", unfollowed := true, recurses := true, apart := false }
def DiskAgainSaid : Prop := diskAgainRow.holds Try.pinned (OpenSpec.ofChange diskAgainSpec)

/-- ITS FALSE NEIGHBOUR: 'it returns false'. Refute it at one input. -/
def diskAgainWrong : ChangeSpec := { name := "diskAgain", fn := fun _ => fun
  | [d1, d2, d3] => { results := [.lit (.bool false)], args := [d1, d2, d3] }
  | _ => none }
def DiskAgainWrongFalsely : Prop := diskAgainRow.holds Try.pinned (OpenSpec.ofChange diskAgainWrong)

/-- 'vestibulelaw02.DiskNobody': WHATEVER THE INPUT: true; the input reads as it did. -/
def diskNobodySpec : ChangeSpec := { name := "diskNobody", fn := fun _ => fun
  | [d1, d2] => { results := [.lit (.bool true)], args := [d1, d2] }
  | _ => none }
def diskNobodyRow : OpenClaim := { program := "ytkkeplobomncgaa", sum := "b400a3041ae5ef00b37fe9e622923ac4557cc4ca3cf519fe78976f73c79fa34f", func := "vestibule/vestibulelaw02.DiskNobody", spec := "diskNobody", unfollowed := true, recurses := true, apart := false }
def DiskNobodySaid : Prop := diskNobodyRow.holds Try.pinned (OpenSpec.ofChange diskNobodySpec)

/-- ITS FALSE NEIGHBOUR: 'it returns false'. Refute it at one input. -/
def diskNobodyWrong : ChangeSpec := { name := "diskNobody", fn := fun _ => fun
  | [d1, d2] => { results := [.lit (.bool false)], args := [d1, d2] }
  | _ => none }
def DiskNobodyWrongFalsely : Prop := diskNobodyRow.holds Try.pinned (OpenSpec.ofChange diskNobodyWrong)

/-- 'vestibulelaw02.DiskGaps': WHATEVER THE INPUT: true; the input reads as it did. -/
def diskGapsSpec : ChangeSpec := { name := "diskGaps", fn := fun _ => fun
  | [d1, d2, d3] => { results := [.lit (.bool true)], args := [d1, d2, d3] }
  | _ => none }
def diskGapsRow : OpenClaim := { program := "ytkkeplobomncgaa", sum := "b400a3041ae5ef00b37fe9e622923ac4557cc4ca3cf519fe78976f73c79fa34f", func := "vestibule/vestibulelaw02.DiskGaps", spec := "diskGaps", unfollowed := true, recurses := true, apart := false }
def DiskGapsSaid : Prop := diskGapsRow.holds Try.pinned (OpenSpec.ofChange diskGapsSpec)

/-- ITS FALSE NEIGHBOUR: 'it returns false'. Refute it at one input. -/
def diskGapsWrong : ChangeSpec := { name := "diskGaps", fn := fun _ => fun
  | [d1, d2, d3] => { results := [.lit (.bool false)], args := [d1, d2, d3] }
  | _ => none }
def DiskGapsWrongFalsely : Prop := diskGapsRow.holds Try.pinned (OpenSpec.ofChange diskGapsWrong)

/-- 'vestibulelaw03.LogRefuses': WHATEVER THE INPUT: true; the input reads as it did. -/
def logRefusesSpec : ChangeSpec := { name := "logRefuses", fn := fun _ => fun
  | [d] => { results := [.lit (.bool true)], args := [d] }
  | _ => none }
def logRefusesRow : OpenClaim := { program := "ytkkeplobomncgaa", sum := "b400a3041ae5ef00b37fe9e622923ac4557cc4ca3cf519fe78976f73c79fa34f", func := "vestibule/vestibulelaw03.LogRefuses", spec := "logRefuses", unfollowed := true, recurses := true, apart := false }
def LogRefusesSaid : Prop := logRefusesRow.holds Try.pinned (OpenSpec.ofChange logRefusesSpec)

/-- ITS FALSE NEIGHBOUR: 'it returns false'. Refute it at one input. -/
def logRefusesWrong : ChangeSpec := { name := "logRefuses", fn := fun _ => fun
  | [d] => { results := [.lit (.bool false)], args := [d] }
  | _ => none }
def LogRefusesWrongFalsely : Prop := logRefusesRow.holds Try.pinned (OpenSpec.ofChange logRefusesWrong)

/-- 'vestibulelaw03.LogGoesOn': WHATEVER THE INPUT: true; the input reads as it did. -/
def logGoesOnSpec : ChangeSpec := { name := "logGoesOn", fn := fun _ => fun
  | [d1, d2, d3] => { results := [.lit (.bool true)], args := [d1, d2, d3] }
  | _ => none }
def logGoesOnRow : OpenClaim := { program := "ytkkeplobomncgaa", sum := "b400a3041ae5ef00b37fe9e622923ac4557cc4ca3cf519fe78976f73c79fa34f", func := "vestibule/vestibulelaw03.LogGoesOn", spec := "logGoesOn", unfollowed := true, recurses := true, apart := false }
def LogGoesOnSaid : Prop := logGoesOnRow.holds Try.pinned (OpenSpec.ofChange logGoesOnSpec)

/-- ITS FALSE NEIGHBOUR: 'it returns false'. Refute it at one input. -/
def logGoesOnWrong : ChangeSpec := { name := "logGoesOn", fn := fun _ => fun
  | [d1, d2, d3] => { results := [.lit (.bool false)], args := [d1, d2, d3] }
  | _ => none }
def LogGoesOnWrongFalsely : Prop := logGoesOnRow.holds Try.pinned (OpenSpec.ofChange logGoesOnWrong)

/-- 'vestibulelaw03.LogTwice': WHATEVER THE INPUT: true; the input reads as it did. -/
def logTwiceSpec : ChangeSpec := { name := "logTwice", fn := fun _ => fun
  | [d1, d2] => { results := [.lit (.bool true)], args := [d1, d2] }
  | _ => none }
def logTwiceRow : OpenClaim := { program := "ytkkeplobomncgaa", sum := "b400a3041ae5ef00b37fe9e622923ac4557cc4ca3cf519fe78976f73c79fa34f", func := "vestibule/vestibulelaw03.LogTwice", spec := "logTwice", unfollowed := true, recurses := true, apart := false }
def LogTwiceSaid : Prop := logTwiceRow.holds Try.pinned (OpenSpec.ofChange logTwiceSpec)

/-- ITS FALSE NEIGHBOUR: 'it returns false'. Refute it at one input. -/
def logTwiceWrong : ChangeSpec := { name := "logTwice", fn := fun _ => fun
  | [d1, d2] => { results := [.lit (.bool false)], args := [d1, d2] }
  | _ => none }
def LogTwiceWrongFalsely : Prop := logTwiceRow.holds Try.pinned (OpenSpec.ofChange logTwiceWrong)

/-- 'vestibulelaw04.PoolStays': WHATEVER THE INPUT: true; the input reads as it did. -/
def poolStaysSpec : ChangeSpec := { name := "poolStays", fn := fun _ => fun
  | [d1, d2, d3] => { results := [.lit (.bool true)], args := [d1, d2, d3] }
  | _ => none }
def poolStaysRow : OpenClaim := { program := "ytkkeplobomncgaa", sum := "b400a3041ae5ef00b37fe9e622923ac4557cc4ca3cf519fe78976f73c79fa34f", func := "vestibule/vestibulelaw04.PoolStays", spec := "poolStays", unfollowed := true, recurses := true, apart := false }
def PoolStaysSaid : Prop := poolStaysRow.holds Try.pinned (OpenSpec.ofChange poolStaysSpec)

/-- ITS FALSE NEIGHBOUR: 'it returns false'. Refute it at one input. -/
def poolStaysWrong : ChangeSpec := { name := "poolStays", fn := fun _ => fun
  | [d1, d2, d3] => { results := [.lit (.bool false)], args := [d1, d2, d3] }
  | _ => none }
def PoolStaysWrongFalsely : Prop := poolStaysRow.holds Try.pinned (OpenSpec.ofChange poolStaysWrong)

/-- 'vestibulelaw04.PoolFlushes': WHATEVER THE INPUT: true; the input reads as it did. -/
def poolFlushesSpec : ChangeSpec := { name := "poolFlushes", fn := fun _ => fun
  | [d1, d2] => { results := [.lit (.bool true)], args := [d1, d2] }
  | _ => none }
def poolFlushesRow : OpenClaim := { program := "ytkkeplobomncgaa", sum := "b400a3041ae5ef00b37fe9e622923ac4557cc4ca3cf519fe78976f73c79fa34f", func := "vestibule/vestibulelaw04.PoolFlushes", spec := "poolFlushes", unfollowed := true, recurses := true, apart := false }
def PoolFlushesSaid : Prop := poolFlushesRow.holds Try.pinned (OpenSpec.ofChange poolFlushesSpec)

/-- ITS FALSE NEIGHBOUR: 'it returns false'. Refute it at one input. -/
def poolFlushesWrong : ChangeSpec := { name := "poolFlushes", fn := fun _ => fun
  | [d1, d2] => { results := [.lit (.bool false)], args := [d1, d2] }
  | _ => none }
def PoolFlushesWrongFalsely : Prop := poolFlushesRow.holds Try.pinned (OpenSpec.ofChange poolFlushesWrong)

/-- 'vestibulelaw04.PoolPlays': WHATEVER THE INPUT: true; the input reads as it did. -/
def poolPlaysSpec : ChangeSpec := { name := "poolPlays", fn := fun _ => fun
  | [d1, d2] => { results := [.lit (.bool true)], args := [d1, d2] }
  | _ => none }
def poolPlaysRow : OpenClaim := { program := "ytkkeplobomncgaa", sum := "b400a3041ae5ef00b37fe9e622923ac4557cc4ca3cf519fe78976f73c79fa34f", func := "vestibule/vestibulelaw04.PoolPlays", spec := "poolPlays", unfollowed := true, recurses := true, apart := false }
def PoolPlaysSaid : Prop := poolPlaysRow.holds Try.pinned (OpenSpec.ofChange poolPlaysSpec)

/-- ITS FALSE NEIGHBOUR: 'it returns false'. Refute it at one input. -/
def poolPlaysWrong : ChangeSpec := { name := "poolPlays", fn := fun _ => fun
  | [d1, d2] => { results := [.lit (.bool false)], args := [d1, d2] }
  | _ => none }
def PoolPlaysWrongFalsely : Prop := poolPlaysRow.holds Try.pinned (OpenSpec.ofChange poolPlaysWrong)

/-- 'vestibulelaw04.PoolNobody': WHATEVER THE INPUT: true; the input reads as it did. -/
def poolNobodySpec : ChangeSpec := { name := "poolNobody", fn := fun _ => fun
  | [d1, d2] => { results := [.lit (.bool true)], args := [d1, d2] }
  | _ => none }
def poolNobodyRow : OpenClaim := { program := "ytkkeplobomncgaa", sum := "b400a3041ae5ef00b37fe9e622923ac4557cc4ca3cf519fe78976f73c79fa34f", func := "vestibule/vestibulelaw04.PoolNobody", spec := "poolNobody", unfollowed := true, recurses := true, apart := false }
def PoolNobodySaid : Prop := poolNobodyRow.holds Try.pinned (OpenSpec.ofChange poolNobodySpec)

/-- ITS FALSE NEIGHBOUR: 'it returns false'. Refute it at one input. -/
def poolNobodyWrong : ChangeSpec := { name := "poolNobody", fn := fun _ => fun
  | [d1, d2] => { results := [.lit (.bool false)], args := [d1, d2] }
  | _ => none }
def PoolNobodyWrongFalsely : Prop := poolNobodyRow.holds Try.pinned (OpenSpec.ofChange poolNobodyWrong)

/- THE SECOND FORM. 'bulk': how many values and letters a reading holds, each counted each time it is reached (what is shared counts as often as it is met; a slice's spare places count too). A statement '..UptoSaid' is the law's where the arguments, and the package variables that the reading takes, are together of bulk at most 1048576: NARROWER than '..Said'. Prove '..Said' where nothing that the law and all that it calls make is longer than what came in: it says more and counts as full. Else prove '..UptoSaid'. A law counts once. -/
mutual
def uptoBulk {H : Type} : DataW H → Nat
  | .lit (.string bytes) => bytes.length + 1
  | .lit _ => 1
  | .nil => 1
  | .ptr d => uptoBulk d + 1
  | .slice elems spare => uptoBulkAll elems + uptoBulkAll spare + 1
  | .agg parts => uptoBulkAll parts + 1
  | .iface _ d => uptoBulk d + 1
  | .map entries => uptoBulkEntries entries + 1
  | .held _ => 1
def uptoBulkAll {H : Type} : List (DataW H) → Nat
  | [] => 0
  | d :: r => uptoBulk d + uptoBulkAll r
def uptoBulkEntries {H : Type} : List (Lit × DataW H) → Nat
  | [] => 0
  | x :: r => uptoBulkEntry x + uptoBulkEntries r
def uptoBulkEntry {H : Type} : Lit × DataW H → Nat
  | (.string bytes, d) => bytes.length + uptoBulk d + 1
  | (_, d) => uptoBulk d + 1
 end
def uptoSmall : (H : Type) → List (DataW H) → Bool := fun _ ds => decide (uptoBulkAll ds ≤ 1048576)
def OpenSpec.upto (s : _root_.Go.ChangeSpec) : _root_.Go.OpenSpec := { _root_.Go.OpenSpec.ofChange s with cond := some uptoSmall }

/-- 'vestibulelaw02.DiskPlays', WHERE WHAT IT READS IS OF BULK AT MOST 1048576: true; the input reads as it did. -/
def diskPlaysUptoRow : OpenClaim := { program := "ytkkeplobomncgaa", sum := "b400a3041ae5ef00b37fe9e622923ac4557cc4ca3cf519fe78976f73c79fa34f", func := "vestibule/vestibulelaw02.DiskPlays", spec := "diskPlays", unfollowed := true, recurses := true, apart := false, narrowed := true }
def DiskPlaysUptoSaid : Prop := diskPlaysUptoRow.holds Try.pinned (OpenSpec.upto diskPlaysSpec)

/-- 'vestibulelaw02.DiskCuts', WHERE WHAT IT READS IS OF BULK AT MOST 1048576: true; the input reads as it did. -/
def diskCutsUptoRow : OpenClaim := { program := "ytkkeplobomncgaa", sum := "b400a3041ae5ef00b37fe9e622923ac4557cc4ca3cf519fe78976f73c79fa34f", func := "vestibule/vestibulelaw02.DiskCuts", spec := "diskCuts", unfollowed := true, recurses := true, apart := false, narrowed := true }
def DiskCutsUptoSaid : Prop := diskCutsUptoRow.holds Try.pinned (OpenSpec.upto diskCutsSpec)

/-- 'vestibulelaw02.DiskAgain', WHERE WHAT IT READS IS OF BULK AT MOST 1048576: true; the input reads as it did. -/
def diskAgainUptoRow : OpenClaim := { program := "ytkkeplobomncgaa", sum := "b400a3041ae5ef00b37fe9e622923ac4557cc4ca3cf519fe78976f73c79fa34f", func := "vestibule/vestibulelaw02.DiskAgain", spec := "diskAgain", unfollowed := true, recurses := true, apart := false, narrowed := true }
def DiskAgainUptoSaid : Prop := diskAgainUptoRow.holds Try.pinned (OpenSpec.upto diskAgainSpec)

/-- 'vestibulelaw02.DiskNobody', WHERE WHAT IT READS IS OF BULK AT MOST 1048576: true; the input reads as it did. -/
def diskNobodyUptoRow : OpenClaim := { program := "ytkkeplobomncgaa", sum := "b400a3041ae5ef00b37fe9e622923ac4557cc4ca3cf519fe78976f73c79fa34f", func := "vestibule/vestibulelaw02.DiskNobody", spec := "diskNobody", unfollowed := true, recurses := true, apart := false, narrowed := true }
def DiskNobodyUptoSaid : Prop := diskNobodyUptoRow.holds Try.pinned (OpenSpec.upto diskNobodySpec)

/-- 'vestibulelaw02.DiskGaps', WHERE WHAT IT READS IS OF BULK AT MOST 1048576: true; the input reads as it did. -/
def diskGapsUptoRow : OpenClaim := { program := "ytkkeplobomncgaa", sum := "b400a3041ae5ef00b37fe9e622923ac4557cc4ca3cf519fe78976f73c79fa34f", func := "vestibule/vestibulelaw02.DiskGaps", spec := "diskGaps", unfollowed := true, recurses := true, apart := false, narrowed := true }
def DiskGapsUptoSaid : Prop := diskGapsUptoRow.holds Try.pinned (OpenSpec.upto diskGapsSpec)

/-- 'vestibulelaw03.LogRefuses', WHERE WHAT IT READS IS OF BULK AT MOST 1048576: true; the input reads as it did. -/
def logRefusesUptoRow : OpenClaim := { program := "ytkkeplobomncgaa", sum := "b400a3041ae5ef00b37fe9e622923ac4557cc4ca3cf519fe78976f73c79fa34f", func := "vestibule/vestibulelaw03.LogRefuses", spec := "logRefuses", unfollowed := true, recurses := true, apart := false, narrowed := true }
def LogRefusesUptoSaid : Prop := logRefusesUptoRow.holds Try.pinned (OpenSpec.upto logRefusesSpec)

/-- 'vestibulelaw03.LogGoesOn', WHERE WHAT IT READS IS OF BULK AT MOST 1048576: true; the input reads as it did. -/
def logGoesOnUptoRow : OpenClaim := { program := "ytkkeplobomncgaa", sum := "b400a3041ae5ef00b37fe9e622923ac4557cc4ca3cf519fe78976f73c79fa34f", func := "vestibule/vestibulelaw03.LogGoesOn", spec := "logGoesOn", unfollowed := true, recurses := true, apart := false, narrowed := true }
def LogGoesOnUptoSaid : Prop := logGoesOnUptoRow.holds Try.pinned (OpenSpec.upto logGoesOnSpec)

/-- 'vestibulelaw03.LogTwice', WHERE WHAT IT READS IS OF BULK AT MOST 1048576: true; the input reads as it did. -/
def logTwiceUptoRow : OpenClaim := { program := "ytkkeplobomncgaa", sum := "b400a3041ae5ef00b37fe9e622923ac4557cc4ca3cf519fe78976f73c79fa34f", func := "vestibule/vestibulelaw03.LogTwice", spec := "logTwice", unfollowed := true, recurses := true, apart := false, narrowed := true }
def LogTwiceUptoSaid : Prop := logTwiceUptoRow.holds Try.pinned (OpenSpec.upto logTwiceSpec)

/-- 'vestibulelaw04.PoolStays', WHERE WHAT IT READS IS OF BULK AT MOST 1048576: true; the input reads as it did. -/
def poolStaysUptoRow : OpenClaim := { program := "ytkkeplobomncgaa", sum := "b400a3041ae5ef00b37fe9e622923ac4557cc4ca3cf519fe78976f73c79fa34f", func := "vestibule/vestibulelaw04.PoolStays", spec := "poolStays", unfollowed := true, recurses := true, apart := false, narrowed := true }
def PoolStaysUptoSaid : Prop := poolStaysUptoRow.holds Try.pinned (OpenSpec.upto poolStaysSpec)

/-- 'vestibulelaw04.PoolFlushes', WHERE WHAT IT READS IS OF BULK AT MOST 1048576: true; the input reads as it did. -/
def poolFlushesUptoRow : OpenClaim := { program := "ytkkeplobomncgaa", sum := "b400a3041ae5ef00b37fe9e622923ac4557cc4ca3cf519fe78976f73c79fa34f", func := "vestibule/vestibulelaw04.PoolFlushes", spec := "poolFlushes", unfollowed := true, recurses := true, apart := false, narrowed := true }
def PoolFlushesUptoSaid : Prop := poolFlushesUptoRow.holds Try.pinned (OpenSpec.upto poolFlushesSpec)

/-- 'vestibulelaw04.PoolPlays', WHERE WHAT IT READS IS OF BULK AT MOST 1048576: true; the input reads as it did. -/
def poolPlaysUptoRow : OpenClaim := { program := "ytkkeplobomncgaa", sum := "b400a3041ae5ef00b37fe9e622923ac4557cc4ca3cf519fe78976f73c79fa34f", func := "vestibule/vestibulelaw04.PoolPlays", spec := "poolPlays", unfollowed := true, recurses := true, apart := false, narrowed := true }
def PoolPlaysUptoSaid : Prop := poolPlaysUptoRow.holds Try.pinned (OpenSpec.upto poolPlaysSpec)

/-- 'vestibulelaw04.PoolNobody', WHERE WHAT IT READS IS OF BULK AT MOST 1048576: true; the input reads as it did. -/
def poolNobodyUptoRow : OpenClaim := { program := "ytkkeplobomncgaa", sum := "b400a3041ae5ef00b37fe9e622923ac4557cc4ca3cf519fe78976f73c79fa34f", func := "vestibule/vestibulelaw04.PoolNobody", spec := "poolNobody", unfollowed := true, recurses := true, apart := false, narrowed := true }
def PoolNobodyUptoSaid : Prop := poolNobodyUptoRow.holds Try.pinned (OpenSpec.upto poolNobodySpec)

end Rows
end Go.Proofs.Ytkkeplobomncgaa
