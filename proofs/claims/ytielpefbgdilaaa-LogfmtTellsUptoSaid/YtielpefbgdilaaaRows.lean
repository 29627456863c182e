/-
  No cell of these rows narrows 'for every input' (looked for: loops, veiled, ifaces, maps, wideKeys, modest, calm, conditions, laid).
  DERIVED. THE GIVEN ROWS OF THIS SEAT. 5 by the template 'for every input the law returns true; each argument reads behind the call as it read before'; 0 by the template 'total and deterministic' (their statements: YtielpefbgdilaaaTotals.lean).
  GIVEN WITH THE SEED: the statements are not yours to turn. If you find one false, say at which input.
  Laid BY PROGRAM, IN A SANDBOX (cutbox-rows.mjs): the forced cells as the released guide's own fill.sh prints them over the translation 032a289b4062fbb0… (all of the seat's roots in one cut). By AI agents, Wed Nov 11 2026. No macro, syntax, notation, axiom, sorry.
-/
import Derived.Test.YtielpefbgdilaaaChecked
import GoSem.Claim
import GoSem.ClaimJoined
import GoSem.ClaimMapViews
import Derived.JoinedTies
import Derived.KernelRfl
namespace Go.Proofs.Ytielpefbgdilaaa
/- THE CELL 'sum', in the pinned program and in every row, IS THE sha256 OF THE DUMP (.gsa) THAT YtielpefbgdilaaaProg.lean LOADS. Nothing in Lean hashes anything: it is a label: what it is worth is what the hold of that sum in a sandbox is worth. -/
noncomputable def Try.pinned : Pinned := { name := "ytielpefbgdilaaa", sum := "032a289b4062fbb06046eb1829c7ef80bf22e6a259814074bdbb6be5ba5ac8ff", checked := Try.checked }
namespace Rows
def none {H : Type} : Left H := { results := [], args := [] }

/-- 'archivistlaw10.LogfmtTells': WHATEVER THE INPUT: true; the input reads as it did. -/
def logfmtTellsSpec : ChangeSpec := { name := "logfmtTells", fn := fun _ => fun
  | [d1, d2, d3, d4] => { results := [.lit (.bool true)], args := [d1, d2, d3, d4] }
  | _ => none }
def logfmtTellsRow : OpenClaim := { program := "ytielpefbgdilaaa", sum := "032a289b4062fbb06046eb1829c7ef80bf22e6a259814074bdbb6be5ba5ac8ff", func := "archivist/archivistlaw10.LogfmtTells", spec := "logfmtTells", inPlace := ["internal/bytealg.IndexByteString", "internal/bytealg.IndexString", "internal/bytealg.abigen_runtime_cmpstring", "slices.overlaps[archivist/label.Pair]", "internal/abi.NoEscape", "internal/bytealg.MakeNoZero"], unfollowed := true, recurses := true, named := ["internal/bytealg.MaxLen"], apart := false }
def LogfmtTellsSaid : Prop := logfmtTellsRow.holds Try.pinned (OpenSpec.ofChange logfmtTellsSpec)

/-- ITS FALSE NEIGHBOUR: 'it returns false'. Refute it at one input. -/
def logfmtTellsWrong : ChangeSpec := { name := "logfmtTells", fn := fun _ => fun
  | [d1, d2, d3, d4] => { results := [.lit (.bool false)], args := [d1, d2, d3, d4] }
  | _ => none }
def LogfmtTellsWrongFalsely : Prop := logfmtTellsRow.holds Try.pinned (OpenSpec.ofChange logfmtTellsWrong)

/-- 'archivistlaw10.LogfmtFirst': WHATEVER THE INPUT: true; the input reads as it did. -/
def logfmtFirstSpec : ChangeSpec := { name := "logfmtFirst", fn := fun _ => fun
  | [d1, d2] => { results := [.lit (.bool true)], args := [d1, d2] }
  | _ => none }
def logfmtFirstRow : OpenClaim := { program := "ytielpefbgdilaaa", sum := "032a289b4062fbb06046eb1829c7ef80bf22e6a259814074bdbb6be5ba5ac8ff", func := "archivist/archivistlaw10.LogfmtFirst", spec := "logfmtFirst", inPlace := ["internal/bytealg.IndexByteString", "internal/bytealg.IndexString", "internal/bytealg.abigen_runtime_cmpstring", "slices.overlaps[archivist/label.Pair]", "internal/abi.NoEscape", "internal/bytealg.MakeNoZero"], unfollowed := true, recurses := true, named := ["internal/bytealg.MaxLen"], apart := false }
def LogfmtFirstSaid : Prop := logfmtFirstRow.holds Try.pinned (OpenSpec.ofChange logfmtFirstSpec)

/-- ITS FALSE NEIGHBOUR: 'it returns false'. Refute it at one input. -/
def logfmtFirstWrong : ChangeSpec := { name := "logfmtFirst", fn := fun _ => fun
  | [d1, d2] => { results := [.lit (.bool false)], args := [d1, d2] }
  | _ => none }
def LogfmtFirstWrongFalsely : Prop := logfmtFirstRow.holds Try.pinned (OpenSpec.ofChange logfmtFirstWrong)

/-- 'archivistlaw10.LogfmtBack': WHATEVER THE INPUT: true; the input reads as it did. -/
def logfmtBackSpec : ChangeSpec := { name := "logfmtBack", fn := fun _ => fun
  | [d] => { results := [.lit (.bool true)], args := [d] }
  | _ => none }
def logfmtBackRow : OpenClaim := { program := "ytielpefbgdilaaa", sum := "032a289b4062fbb06046eb1829c7ef80bf22e6a259814074bdbb6be5ba5ac8ff", func := "archivist/archivistlaw10.LogfmtBack", spec := "logfmtBack", inPlace := ["internal/bytealg.IndexByteString", "internal/bytealg.IndexString", "internal/bytealg.abigen_runtime_cmpstring", "slices.overlaps[archivist/label.Pair]", "internal/abi.NoEscape", "internal/bytealg.MakeNoZero"], unfollowed := true, recurses := true, named := ["internal/bytealg.MaxLen"], apart := false }
def LogfmtBackSaid : Prop := logfmtBackRow.holds Try.pinned (OpenSpec.ofChange logfmtBackSpec)

/-- ITS FALSE NEIGHBOUR: 'it returns false'. Refute it at one input. -/
def logfmtBackWrong : ChangeSpec := { name := "logfmtBack", fn := fun _ => fun
  | [d] => { results := [.lit (.bool false)], args := [d] }
  | _ => none }
def LogfmtBackWrongFalsely : Prop := logfmtBackRow.holds Try.pinned (OpenSpec.ofChange logfmtBackWrong)

/-- 'archivistlaw10.LogfmtMany': WHATEVER THE INPUT: true; the input reads as it did. -/
def logfmtManySpec : ChangeSpec := { name := "logfmtMany", fn := fun _ => fun
  | [d1, d2] => { results := [.lit (.bool true)], args := [d1, d2] }
  | _ => none }
def logfmtManyRow : OpenClaim := { program := "ytielpefbgdilaaa", sum := "032a289b4062fbb06046eb1829c7ef80bf22e6a259814074bdbb6be5ba5ac8ff", func := "archivist/archivistlaw10.LogfmtMany", spec := "logfmtMany", inPlace := ["internal/bytealg.IndexByteString", "internal/bytealg.IndexString", "internal/bytealg.abigen_runtime_cmpstring", "slices.overlaps[archivist/label.Pair]", "internal/abi.NoEscape", "internal/bytealg.MakeNoZero"], unfollowed := true, recurses := true, named := ["internal/bytealg.MaxLen"], apart := false }
def LogfmtManySaid : Prop := logfmtManyRow.holds Try.pinned (OpenSpec.ofChange logfmtManySpec)

/-- ITS FALSE NEIGHBOUR: 'it returns false'. Refute it at one input. -/
def logfmtManyWrong : ChangeSpec := { name := "logfmtMany", fn := fun _ => fun
  | [d1, d2] => { results := [.lit (.bool false)], args := [d1, d2] }
  | _ => none }
def LogfmtManyWrongFalsely : Prop := logfmtManyRow.holds Try.pinned (OpenSpec.ofChange logfmtManyWrong)

/-- 'archivistlaw10.LogfmtSpaces': WHATEVER THE INPUT: true; the input reads as it did. -/
def logfmtSpacesSpec : ChangeSpec := { name := "logfmtSpaces", fn := fun _ => fun
  | [d1, d2] => { results := [.lit (.bool true)], args := [d1, d2] }
  | _ => none }
def logfmtSpacesRow : OpenClaim := { program := "ytielpefbgdilaaa", sum := "032a289b4062fbb06046eb1829c7ef80bf22e6a259814074bdbb6be5ba5ac8ff", func := "archivist/archivistlaw10.LogfmtSpaces", spec := "logfmtSpaces", inPlace := ["internal/bytealg.IndexByteString", "internal/bytealg.IndexString", "internal/bytealg.abigen_runtime_cmpstring", "slices.overlaps[archivist/label.Pair]", "internal/abi.NoEscape", "internal/bytealg.MakeNoZero"], unfollowed := true, recurses := true, named := ["internal/bytealg.MaxLen"], apart := false }
def LogfmtSpacesSaid : Prop := logfmtSpacesRow.holds Try.pinned (OpenSpec.ofChange logfmtSpacesSpec)

/-- ITS FALSE NEIGHBOUR: 'it returns false'. Refute it at one input. -/
def logfmtSpacesWrong : ChangeSpec := { name := "logfmtSpaces", fn := fun _ => fun
  | [d1, d2] => { results := [.lit (.bool false)], args := [d1, d2] }
  | _ => none }
def LogfmtSpacesWrongFalsely : Prop := logfmtSpacesRow.holds Try.pinned (OpenSpec.ofChange logfmtSpacesWrong)

/- THE SECOND FORM. 'bulk': how many values and letters a reading holds, each counted each time it is reached (what is shared counts as often as it is met; a slice's spare places count too). A statement '..UptoSaid' is the law's where the arguments, and the package variables that the reading takes, are together of bulk at most 1048576: NARROWER than '..Said'. Prove '..Said' where nothing that the law and all that it calls make is longer than what came in: it says more and counts as full. Else prove '..UptoSaid'. A law counts once. -/
mutual
def uptoBulk {H : Type} : DataW H → Nat
  | .lit (.string bytes) => bytes.length + 1
  | .lit _ => 1
  | .nil => 1
  | .ptr d => uptoBulk d + 1
  | .slice elems spare => uptoBulkAll elems + uptoBulkAll spare + 1
  | .agg parts => uptoBulkAll parts + 1
  | .iface _ d => uptoBulk d + 1
  | .map entries => uptoBulkEntries entries + 1
  | .held _ => 1
def uptoBulkAll {H : Type} : List (DataW H) → Nat
  | [] => 0
  | d :: r => uptoBulk d + uptoBulkAll r
def uptoBulkEntries {H : Type} : List (Lit × DataW H) → Nat
  | [] => 0
  | x :: r => uptoBulkEntry x + uptoBulkEntries r
def uptoBulkEntry {H : Type} : Lit × DataW H → Nat
  | (.string bytes, d) => bytes.length + uptoBulk d + 1
  | (_, d) => uptoBulk d + 1
 end
def uptoSmall : (H : Type) → List (DataW H) → Bool := fun _ ds => decide (uptoBulkAll ds ≤ 1048576)
def OpenSpec.upto (s : _root_.Go.ChangeSpec) : _root_.Go.OpenSpec := { _root_.Go.OpenSpec.ofChange s with cond := some uptoSmall }

/-- 'archivistlaw10.LogfmtTells', WHERE WHAT IT READS IS OF BULK AT MOST 1048576: true; the input reads as it did. -/
def logfmtTellsUptoRow : OpenClaim := { program := "ytielpefbgdilaaa", sum := "032a289b4062fbb06046eb1829c7ef80bf22e6a259814074bdbb6be5ba5ac8ff", func := "archivist/archivistlaw10.LogfmtTells", spec := "logfmtTells", inPlace := ["internal/bytealg.IndexByteString", "internal/bytealg.IndexString", "internal/bytealg.abigen_runtime_cmpstring", "slices.overlaps[archivist/label.Pair]", "internal/abi.NoEscape", "internal/bytealg.MakeNoZero"], unfollowed := true, recurses := true, named := ["internal/bytealg.MaxLen"], apart := false, narrowed := true }
def LogfmtTellsUptoSaid : Prop := logfmtTellsUptoRow.holds Try.pinned (OpenSpec.upto logfmtTellsSpec)

/-- 'archivistlaw10.LogfmtFirst', WHERE WHAT IT READS IS OF BULK AT MOST 1048576: true; the input reads as it did. -/
def logfmtFirstUptoRow : OpenClaim := { program := "ytielpefbgdilaaa", sum := "032a289b4062fbb06046eb1829c7ef80bf22e6a259814074bdbb6be5ba5ac8ff", func := "archivist/archivistlaw10.LogfmtFirst", spec := "logfmtFirst", inPlace := ["internal/bytealg.IndexByteString", "internal/bytealg.IndexString", "internal/bytealg.abigen_runtime_cmpstring", "slices.overlaps[archivist/label.Pair]", "internal/abi.NoEscape", "internal/bytealg.MakeNoZero"], unfollowed := true, recurses := true, named := ["internal/bytealg.MaxLen"], apart := false, narrowed := true }
def LogfmtFirstUptoSaid : Prop := logfmtFirstUptoRow.holds Try.pinned (OpenSpec.upto logfmtFirstSpec)

/-- 'archivistlaw10.LogfmtBack', WHERE WHAT IT READS IS OF BULK AT MOST 1048576: true; the input reads as it did. -/
def logfmtBackUptoRow : OpenClaim := { program := "ytielpefbgdilaaa", sum := "032a289b4062fbb06046eb1829c7ef80bf22e6a259814074bdbb6be5ba5ac8ff", func := "archivist/archivistlaw10.LogfmtBack", spec := "logfmtBack", inPlace := ["internal/bytealg.IndexByteString", "internal/bytealg.IndexString", "internal/bytealg.abigen_runtime_cmpstring", "slices.overlaps[archivist/label.Pair]", "internal/abi.NoEscape", "internal/bytealg.MakeNoZero"], unfollowed := true, recurses := true, named := ["internal/bytealg.MaxLen"], apart := false, narrowed := true }
def LogfmtBackUptoSaid : Prop := logfmtBackUptoRow.holds Try.pinned (OpenSpec.upto logfmtBackSpec)

/-- 'archivistlaw10.LogfmtMany', WHERE WHAT IT READS IS OF BULK AT MOST 1048576: true; the input reads as it did. -/
def logfmtManyUptoRow : OpenClaim := { program := "ytielpefbgdilaaa", sum := "032a289b4062fbb06046eb1829c7ef80bf22e6a259814074bdbb6be5ba5ac8ff", func := "archivist/archivistlaw10.LogfmtMany", spec := "logfmtMany", inPlace := ["internal/bytealg.IndexByteString", "internal/bytealg.IndexString", "internal/bytealg.abigen_runtime_cmpstring", "slices.overlaps[archivist/label.Pair]", "internal/abi.NoEscape", "internal/bytealg.MakeNoZero"], unfollowed := true, recurses := true, named := ["internal/bytealg.MaxLen"], apart := false, narrowed := true }
def LogfmtManyUptoSaid : Prop := logfmtManyUptoRow.holds Try.pinned (OpenSpec.upto logfmtManySpec)

/-- 'archivistlaw10.LogfmtSpaces', WHERE WHAT IT READS IS OF BULK AT MOST 1048576: true; the input reads as it did. -/
def logfmtSpacesUptoRow : OpenClaim := { program := "ytielpefbgdilaaa", sum := "032a289b4062fbb06046eb1829c7ef80bf22e6a259814074bdbb6be5ba5ac8ff", func := "archivist/archivistlaw10.LogfmtSpaces", spec := "logfmtSpaces", inPlace := ["internal/bytealg.IndexByteString", "internal/bytealg.IndexString", "internal/bytealg.abigen_runtime_cmpstring", "slices.overlaps[archivist/label.Pair]", "internal/abi.NoEscape", "internal/bytealg.MakeNoZero"], unfollowed := true, recurses := true, named := ["internal/bytealg.MaxLen"], apart := false, narrowed := true }
def LogfmtSpacesUptoSaid : Prop := logfmtSpacesUptoRow.holds Try.pinned (OpenSpec.upto logfmtSpacesSpec)

end Rows
end Go.Proofs.Ytielpefbgdilaaa
