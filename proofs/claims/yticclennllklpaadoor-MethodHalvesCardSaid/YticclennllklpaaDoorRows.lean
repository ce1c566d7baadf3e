/-
  NARROWER THAN 'FOR EVERY INPUT', by the rows' own cells (each row's printed sentence says how): MethodTurns: loops, laid · MethodAbilities: laid · MethodPlays: loops, laid · MethodRanges: loops, laid · MethodHalves: loops, laid · MethodNobody: loops, laid.
  DERIVED. THE GIVEN ROWS OF THIS SEAT. 6 by the template 'for every input the law returns true; each argument reads behind the call as it read before'; 0 by the template 'total and deterministic' (their statements: YticclennllklpaaDoorTotals.lean).
  GIVEN WITH THE SEED: the statements are not yours to turn. If you find one false, say at which input.
  Laid BY PROGRAM, IN A SANDBOX (cutbox-rows.mjs): the forced cells as the released guide's own fill.sh prints them over the translation f33080d3289a0ce6… (all of the seat's roots in one cut). By AI agents, Wed Nov 11 2026. No macro, syntax, notation, axiom, sorry.
-/
import Derived.Test.YticclennllklpaaDoorChecked
import GoSem.PinnedTables
import GoSem.Claim
import GoSem.ClaimJoined
import GoSem.ClaimMapViews
import Derived.JoinedTies
import Derived.KernelRfl
namespace Go.Proofs.YticclennllklpaaDoor
/- THE CELL 'sum', in the pinned program and in every row, IS THE sha256 OF THE DUMP (.gsa) THAT YticclennllklpaaDoorProg.lean LOADS. Nothing in Lean hashes anything: it is a label: what it is worth is what the hold of that sum in a sandbox is worth. -/
noncomputable def Tryd.pinned : Pinned := { name := "yticclennllklpaadoor", sum := "f33080d3289a0ce63cebecde5fab6d228a14b497ce134ac5c03896933647b0cc", checked := Tryd.checked }
namespace Rows
def none {H : Type} : Left H := { results := [], args := [] }

/- WHAT THE LISTED PACKAGE-LEVEL VARIABLES READ AS WHEN THE CALL BEGINS. Each datum BY PROGRAM (the guide's laid-datum.mjs) off the statement by which the dump's own 'gosem.cut.vars' lays the variable. In a bare row this is a premise. The card (YticclennllklpaaDoorCards.lean) ties it to the program's text. -/
def laid_unicode_utf8_acceptRanges {H : Type} : DataW H := .agg [.agg [.lit (.int .u8 128), .lit (.int .u8 191)], .agg [.lit (.int .u8 160), .lit (.int .u8 191)], .agg [.lit (.int .u8 128), .lit (.int .u8 159)], .agg [.lit (.int .u8 144), .lit (.int .u8 191)], .agg [.lit (.int .u8 128), .lit (.int .u8 143)], .agg [.lit (.int .u8 0), .lit (.int .u8 0)], .agg [.lit (.int .u8 0), .lit (.int .u8 0)], .agg [.lit (.int .u8 0), .lit (.int .u8 0)], .agg [.lit (.int .u8 0), .lit (.int .u8 0)], .agg [.lit (.int .u8 0), .lit (.int .u8 0)], .agg [.lit (.int .u8 0), .lit (.int .u8 0)], .agg [.lit (.int .u8 0), .lit (.int .u8 0)], .agg [.lit (.int .u8 0), .lit (.int .u8 0)], .agg [.lit (.int .u8 0), .lit (.int .u8 0)], .agg [.lit (.int .u8 0), .lit (.int .u8 0)], .agg [.lit (.int .u8 0), .lit (.int .u8 0)]]
/-- One of Go's own tables, pinned by name: the form's constant. -/
def laid_unicode_utf8_first : DataW Unit := Go.Pinned.utf8First

/-- 'vestibulelaw09.MethodTurns': WHATEVER THE INPUT: true; the input reads as it did. -/
def methodTurnsSpec : ChangeSpec := { name := "methodTurns", fn := fun _ => fun
  | [d1, d2] => { results := [.lit (.bool true)], args := [d1, d2] }
  | _ => none }
def methodTurnsRow : OpenClaim := { program := "yticclennllklpaadoor", sum := "f33080d3289a0ce63cebecde5fab6d228a14b497ce134ac5c03896933647b0cc", func := "vestibule/vestibulelaw09.MethodTurns", spec := "methodTurns", inPlace := ["internal/bytealg.CountString", "internal/bytealg.IndexByteString", "internal/bytealg.IndexString", "internal/abi.NoEscape", "internal/bytealg.MakeNoZero", "internal/bytealg.abigen_runtime_cmpstring", "slices.overlaps[vestibule/method.held]"], unfollowed := true, recurses := true, named := ["internal/bytealg.MaxLen", "unicode/utf8.first", "unicode/utf8.acceptRanges"], loops := true, apart := false, laid := [("unicode/utf8.acceptRanges", laid_unicode_utf8_acceptRanges), ("unicode/utf8.first", laid_unicode_utf8_first)] }
def MethodTurnsSaid : Prop := methodTurnsRow.holds Tryd.pinned (OpenSpec.ofChange methodTurnsSpec)

/-- ITS FALSE NEIGHBOUR: 'it returns false'. Refute it at one input. -/
def methodTurnsWrong : ChangeSpec := { name := "methodTurns", fn := fun _ => fun
  | [d1, d2] => { results := [.lit (.bool false)], args := [d1, d2] }
  | _ => none }
def MethodTurnsWrongFalsely : Prop := methodTurnsRow.holds Tryd.pinned (OpenSpec.ofChange methodTurnsWrong)

/-- 'vestibulelaw09.MethodAbilities': WHATEVER THE INPUT: true; the input reads as it did. -/
def methodAbilitiesSpec : ChangeSpec := { name := "methodAbilities", fn := fun _ => fun
  | [d] => { results := [.lit (.bool true)], args := [d] }
  | _ => none }
def methodAbilitiesRow : OpenClaim := { program := "yticclennllklpaadoor", sum := "f33080d3289a0ce63cebecde5fab6d228a14b497ce134ac5c03896933647b0cc", func := "vestibule/vestibulelaw09.MethodAbilities", spec := "methodAbilities", inPlace := ["internal/bytealg.CountString", "internal/bytealg.IndexByteString", "internal/bytealg.IndexString", "internal/abi.NoEscape", "internal/bytealg.MakeNoZero", "internal/bytealg.abigen_runtime_cmpstring", "slices.overlaps[vestibule/method.held]"], unfollowed := true, recurses := true, named := ["internal/bytealg.MaxLen", "unicode/utf8.first", "unicode/utf8.acceptRanges"], apart := false, laid := [("unicode/utf8.acceptRanges", laid_unicode_utf8_acceptRanges), ("unicode/utf8.first", laid_unicode_utf8_first)] }
def MethodAbilitiesSaid : Prop := methodAbilitiesRow.holds Tryd.pinned (OpenSpec.ofChange methodAbilitiesSpec)

/-- ITS FALSE NEIGHBOUR: 'it returns false'. Refute it at one input. -/
def methodAbilitiesWrong : ChangeSpec := { name := "methodAbilities", fn := fun _ => fun
  | [d] => { results := [.lit (.bool false)], args := [d] }
  | _ => none }
def MethodAbilitiesWrongFalsely : Prop := methodAbilitiesRow.holds Tryd.pinned (OpenSpec.ofChange methodAbilitiesWrong)

/-- 'vestibulelaw09.MethodPlays': WHATEVER THE INPUT: true; the input reads as it did. -/
def methodPlaysSpec : ChangeSpec := { name := "methodPlays", fn := fun _ => fun
  | [d] => { results := [.lit (.bool true)], args := [d] }
  | _ => none }
def methodPlaysRow : OpenClaim := { program := "yticclennllklpaadoor", sum := "f33080d3289a0ce63cebecde5fab6d228a14b497ce134ac5c03896933647b0cc", func := "vestibule/vestibulelaw09.MethodPlays", spec := "methodPlays", inPlace := ["internal/bytealg.CountString", "internal/bytealg.IndexByteString", "internal/bytealg.IndexString", "internal/abi.NoEscape", "internal/bytealg.MakeNoZero", "internal/bytealg.abigen_runtime_cmpstring", "slices.overlaps[vestibule/method.held]"], unfollowed := true, recurses := true, named := ["internal/bytealg.MaxLen", "unicode/utf8.first", "unicode/utf8.acceptRanges"], loops := true, apart := false, laid := [("unicode/utf8.acceptRanges", laid_unicode_utf8_acceptRanges), ("unicode/utf8.first", laid_unicode_utf8_first)] }
def MethodPlaysSaid : Prop := methodPlaysRow.holds Tryd.pinned (OpenSpec.ofChange methodPlaysSpec)

/-- ITS FALSE NEIGHBOUR: 'it returns false'. Refute it at one input. -/
def methodPlaysWrong : ChangeSpec := { name := "methodPlays", fn := fun _ => fun
  | [d] => { results := [.lit (.bool false)], args := [d] }
  | _ => none }
def MethodPlaysWrongFalsely : Prop := methodPlaysRow.holds Tryd.pinned (OpenSpec.ofChange methodPlaysWrong)

/-- 'vestibulelaw09.MethodRanges': WHATEVER THE INPUT: true; the input reads as it did. -/
def methodRangesSpec : ChangeSpec := { name := "methodRanges", fn := fun _ => fun
  | [d1, d2, d3] => { results := [.lit (.bool true)], args := [d1, d2, d3] }
  | _ => none }
def methodRangesRow : OpenClaim := { program := "yticclennllklpaadoor", sum := "f33080d3289a0ce63cebecde5fab6d228a14b497ce134ac5c03896933647b0cc", func := "vestibule/vestibulelaw09.MethodRanges", spec := "methodRanges", inPlace := ["internal/bytealg.CountString", "internal/bytealg.IndexByteString", "internal/bytealg.IndexString", "internal/abi.NoEscape", "internal/bytealg.MakeNoZero", "internal/bytealg.abigen_runtime_cmpstring", "slices.overlaps[vestibule/method.held]"], unfollowed := true, recurses := true, named := ["internal/bytealg.MaxLen", "unicode/utf8.first", "unicode/utf8.acceptRanges"], loops := true, apart := false, laid := [("unicode/utf8.acceptRanges", laid_unicode_utf8_acceptRanges), ("unicode/utf8.first", laid_unicode_utf8_first)] }
def MethodRangesSaid : Prop := methodRangesRow.holds Tryd.pinned (OpenSpec.ofChange methodRangesSpec)

/-- ITS FALSE NEIGHBOUR: 'it returns false'. Refute it at one input. -/
def methodRangesWrong : ChangeSpec := { name := "methodRanges", fn := fun _ => fun
  | [d1, d2, d3] => { results := [.lit (.bool false)], args := [d1, d2, d3] }
  | _ => none }
def MethodRangesWrongFalsely : Prop := methodRangesRow.holds Tryd.pinned (OpenSpec.ofChange methodRangesWrong)

/-- 'vestibulelaw09.MethodHalves': WHATEVER THE INPUT: true; the input reads as it did. -/
def methodHalvesSpec : ChangeSpec := { name := "methodHalves", fn := fun _ => fun
  | [d1, d2] => { results := [.lit (.bool true)], args := [d1, d2] }
  | _ => none }
def methodHalvesRow : OpenClaim := { program := "yticclennllklpaadoor", sum := "f33080d3289a0ce63cebecde5fab6d228a14b497ce134ac5c03896933647b0cc", func := "vestibule/vestibulelaw09.MethodHalves", spec := "methodHalves", inPlace := ["internal/bytealg.CountString", "internal/bytealg.IndexByteString", "internal/bytealg.IndexString", "internal/abi.NoEscape", "internal/bytealg.MakeNoZero", "internal/bytealg.abigen_runtime_cmpstring", "slices.overlaps[vestibule/method.held]"], unfollowed := true, recurses := true, named := ["internal/bytealg.MaxLen", "unicode/utf8.first", "unicode/utf8.acceptRanges"], loops := true, apart := false, laid := [("unicode/utf8.acceptRanges", laid_unicode_utf8_acceptRanges), ("unicode/utf8.first", laid_unicode_utf8_first)] }
def MethodHalvesSaid : Prop := methodHalvesRow.holds Tryd.pinned (OpenSpec.ofChange methodHalvesSpec)

/-- ITS FALSE NEIGHBOUR: 'it returns false'. Refute it at one input. -/
def methodHalvesWrong : ChangeSpec := { name := "methodHalves", fn := fun _ => fun
  | [d1, d2] => { results := [.lit (.bool false)], args := [d1, d2] }
  | _ => none }
def MethodHalvesWrongFalsely : Prop := methodHalvesRow.holds Tryd.pinned (OpenSpec.ofChange methodHalvesWrong)

/-- 'vestibulelaw09.MethodNobody': WHATEVER THE INPUT: true; the input reads as it did. -/
def methodNobodySpec : ChangeSpec := { name := "methodNobody", fn := fun _ => fun
  | [d] => { results := [.lit (.bool true)], args := [d] }
  | _ => none }
def methodNobodyRow : OpenClaim := { program := "yticclennllklpaadoor", sum := "f33080d3289a0ce63cebecde5fab6d228a14b497ce134ac5c03896933647b0cc", func := "vestibule/vestibulelaw09.MethodNobody", spec := "methodNobody", inPlace := ["internal/bytealg.CountString", "internal/bytealg.IndexByteString", "internal/bytealg.IndexString", "internal/abi.NoEscape", "internal/bytealg.MakeNoZero", "internal/bytealg.abigen_runtime_cmpstring", "slices.overlaps[vestibule/method.held]"], unfollowed := true, recurses := true, named := ["internal/bytealg.MaxLen", "unicode/utf8.first", "unicode/utf8.acceptRanges"], loops := true, apart := false, laid := [("unicode/utf8.acceptRanges", laid_unicode_utf8_acceptRanges), ("unicode/utf8.first", laid_unicode_utf8_first)] }
def MethodNobodySaid : Prop := methodNobodyRow.holds Tryd.pinned (OpenSpec.ofChange methodNobodySpec)

/-- ITS FALSE NEIGHBOUR: 'it returns false'. Refute it at one input. -/
def methodNobodyWrong : ChangeSpec := { name := "methodNobody", fn := fun _ => fun
  | [d] => { results := [.lit (.bool false)], args := [d] }
  | _ => none }
def MethodNobodyWrongFalsely : Prop := methodNobodyRow.holds Tryd.pinned (OpenSpec.ofChange methodNobodyWrong)

/- THE SECOND FORM. 'bulk': how many values and letters a reading holds, each counted each time it is reached (what is shared counts as often as it is met; a slice's spare places count too). A statement '..UptoSaid' is the law's where the arguments, and the package variables that the reading takes, are together of bulk at most 1048576: NARROWER than '..Said'. Prove '..Said' where nothing that the law and all that it calls make is longer than what came in: it says more and counts as full. Else prove '..UptoSaid'. A law counts once. -/
mutual
def uptoBulk {H : Type} : DataW H → Nat
  | .lit (.string bytes) => bytes.length + 1
  | .lit _ => 1
  | .nil => 1
  | .ptr d => uptoBulk d + 1
  | .slice elems spare => uptoBulkAll elems + uptoBulkAll spare + 1
  | .agg parts => uptoBulkAll parts + 1
  | .iface _ d => uptoBulk d + 1
  | .map entries => uptoBulkEntries entries + 1
  | .held _ => 1
def uptoBulkAll {H : Type} : List (DataW H) → Nat
  | [] => 0
  | d :: r => uptoBulk d + uptoBulkAll r
def uptoBulkEntries {H : Type} : List (Lit × DataW H) → Nat
  | [] => 0
  | x :: r => uptoBulkEntry x + uptoBulkEntries r
def uptoBulkEntry {H : Type} : Lit × DataW H → Nat
  | (.string bytes, d) => bytes.length + uptoBulk d + 1
  | (_, d) => uptoBulk d + 1
 end
def uptoSmall : (H : Type) → List (DataW H) → Bool := fun _ ds => decide (uptoBulkAll ds ≤ 1048576)
def OpenSpec.upto (s : _root_.Go.ChangeSpec) : _root_.Go.OpenSpec := { _root_.Go.OpenSpec.ofChange s with cond := some uptoSmall }

/-- 'vestibulelaw09.MethodTurns', WHERE WHAT IT READS IS OF BULK AT MOST 1048576: true; the input reads as it did. -/
def methodTurnsUptoRow : OpenClaim := { program := "yticclennllklpaadoor", sum := "f33080d3289a0ce63cebecde5fab6d228a14b497ce134ac5c03896933647b0cc", func := "vestibule/vestibulelaw09.MethodTurns", spec := "methodTurns", inPlace := ["internal/bytealg.CountString", "internal/bytealg.IndexByteString", "internal/bytealg.IndexString", "internal/abi.NoEscape", "internal/bytealg.MakeNoZero", "internal/bytealg.abigen_runtime_cmpstring", "slices.overlaps[vestibule/method.held]"], unfollowed := true, recurses := true, named := ["internal/bytealg.MaxLen", "unicode/utf8.first", "unicode/utf8.acceptRanges"], loops := true, apart := false, laid := [("unicode/utf8.acceptRanges", laid_unicode_utf8_acceptRanges), ("unicode/utf8.first", laid_unicode_utf8_first)], narrowed := true }
def MethodTurnsUptoSaid : Prop := methodTurnsUptoRow.holds Tryd.pinned (OpenSpec.upto methodTurnsSpec)

/-- 'vestibulelaw09.MethodAbilities', WHERE WHAT IT READS IS OF BULK AT MOST 1048576: true; the input reads as it did. -/
def methodAbilitiesUptoRow : OpenClaim := { program := "yticclennllklpaadoor", sum := "f33080d3289a0ce63cebecde5fab6d228a14b497ce134ac5c03896933647b0cc", func := "vestibule/vestibulelaw09.MethodAbilities", spec := "methodAbilities", inPlace := ["internal/bytealg.CountString", "internal/bytealg.IndexByteString", "internal/bytealg.IndexString", "internal/abi.NoEscape", "internal/bytealg.MakeNoZero", "internal/bytealg.abigen_runtime_cmpstring", "slices.overlaps[vestibule/method.held]"], unfollowed := true, recurses := true, named := ["internal/bytealg.MaxLen", "unicode/utf8.first", "unicode/utf8.acceptRanges"], apart := false, laid := [("unicode/utf8.acceptRanges", laid_unicode_utf8_acceptRanges), ("unicode/utf8.first", laid_unicode_utf8_first)], narrowed := true }
def MethodAbilitiesUptoSaid : Prop := methodAbilitiesUptoRow.holds Tryd.pinned (OpenSpec.upto methodAbilitiesSpec)

/-- 'vestibulelaw09.MethodPlays', WHERE WHAT IT READS IS OF BULK AT MOST 1048576: true; the input reads as it did. -/
def methodPlaysUptoRow : OpenClaim := { program := "yticclennllklpaadoor", sum := "f33080d3289a0ce63cebecde5fab6d228a14b497ce134ac5c03896933647b0cc", func := "vestibule/vestibulelaw09.MethodPlays", spec := "methodPlays", inPlace := ["internal/bytealg.CountString", "internal/bytealg.IndexByteString", "internal/bytealg.IndexString", "internal/abi.NoEscape", "internal/bytealg.MakeNoZero", "internal/bytealg.abigen_runtime_cmpstring", "slices.overlaps[vestibule/method.held]"], unfollowed := true, recurses := true, named := ["internal/bytealg.MaxLen", "unicode/utf8.first", "unicode/utf8.acceptRanges"], loops := true, apart := false, laid := [("unicode/utf8.acceptRanges", laid_unicode_utf8_acceptRanges), ("unicode/utf8.first", laid_unicode_utf8_first)], narrowed := true }
def MethodPlaysUptoSaid : Prop := methodPlaysUptoRow.holds Tryd.pinned (OpenSpec.upto methodPlaysSpec)

/-- 'vestibulelaw09.MethodRanges', WHERE WHAT IT READS IS OF BULK AT MOST 1048576: true; the input reads as it did. -/
def methodRangesUptoRow : OpenClaim := { program := "yticclennllklpaadoor", sum := "f33080d3289a0ce63cebecde5fab6d228a14b497ce134ac5c03896933647b0cc", func := "vestibule/vestibulelaw09.MethodRanges", spec := "methodRanges", inPlace := ["internal/bytealg.CountString", "internal/bytealg.IndexByteString", "internal/bytealg.IndexString", "internal/abi.NoEscape", "internal/bytealg.MakeNoZero", "internal/bytealg.abigen_runtime_cmpstring", "slices.overlaps[vestibule/method.held]"], unfollowed := true, recurses := true, named := ["internal/bytealg.MaxLen", "unicode/utf8.first", "unicode/utf8.acceptRanges"], loops := true, apart := false, laid := [("unicode/utf8.acceptRanges", laid_unicode_utf8_acceptRanges), ("unicode/utf8.first", laid_unicode_utf8_first)], narrowed := true }
def MethodRangesUptoSaid : Prop := methodRangesUptoRow.holds Tryd.pinned (OpenSpec.upto methodRangesSpec)

/-- 'vestibulelaw09.MethodHalves', WHERE WHAT IT READS IS OF BULK AT MOST 1048576: true; the input reads as it did. -/
def methodHalvesUptoRow : OpenClaim := { program := "yticclennllklpaadoor", sum := "f33080d3289a0ce63cebecde5fab6d228a14b497ce134ac5c03896933647b0cc", func := "vestibule/vestibulelaw09.MethodHalves", spec := "methodHalves", inPlace := ["internal/bytealg.CountString", "internal/bytealg.IndexByteString", "internal/bytealg.IndexString", "internal/abi.NoEscape", "internal/bytealg.MakeNoZero", "internal/bytealg.abigen_runtime_cmpstring", "slices.overlaps[vestibule/method.held]"], unfollowed := true, recurses := true, named := ["internal/bytealg.MaxLen", "unicode/utf8.first", "unicode/utf8.acceptRanges"], loops := true, apart := false, laid := [("unicode/utf8.acceptRanges", laid_unicode_utf8_acceptRanges), ("unicode/utf8.first", laid_unicode_utf8_first)], narrowed := true }
def MethodHalvesUptoSaid : Prop := methodHalvesUptoRow.holds Tryd.pinned (OpenSpec.upto methodHalvesSpec)

/-- 'vestibulelaw09.MethodNobody', WHERE WHAT IT READS IS OF BULK AT MOST 1048576: true; the input reads as it did. -/
def methodNobodyUptoRow : OpenClaim := { program := "yticclennllklpaadoor", sum := "f33080d3289a0ce63cebecde5fab6d228a14b497ce134ac5c03896933647b0cc", func := "vestibule/vestibulelaw09.MethodNobody", spec := "methodNobody", inPlace := ["internal/bytealg.CountString", "internal/bytealg.IndexByteString", "internal/bytealg.IndexString", "internal/abi.NoEscape", "internal/bytealg.MakeNoZero", "internal/bytealg.abigen_runtime_cmpstring", "slices.overlaps[vestibule/method.held]"], unfollowed := true, recurses := true, named := ["internal/bytealg.MaxLen", "unicode/utf8.first", "unicode/utf8.acceptRanges"], loops := true, apart := false, laid := [("unicode/utf8.acceptRanges", laid_unicode_utf8_acceptRanges), ("unicode/utf8.first", laid_unicode_utf8_first)], narrowed := true }
def MethodNobodyUptoSaid : Prop := methodNobodyUptoRow.holds Tryd.pinned (OpenSpec.upto methodNobodySpec)

end Rows
end Go.Proofs.YticclennllklpaaDoor
