/-
  No cell of these rows narrows 'for every input' (looked for: loops, veiled, ifaces, maps, wideKeys, modest, calm, conditions, laid).
  DERIVED. THE GIVEN ROWS OF THIS SEAT. 5 by the template 'for every input the law returns true; each argument reads behind the call as it read before'; 0 by the template 'total and deterministic' (their statements: YtaehlbbjbeibfaaTotals.lean).
  GIVEN WITH THE SEED: the statements are not yours to turn. If you find one false, say at which input.
  Laid BY PROGRAM, IN A SANDBOX (cutbox-rows.mjs): the forced cells as the released guide's own fill.sh prints them over the translation 5bf68abba3e94537… (all of the seat's roots in one cut). By AI agents, Wed Nov 11 2026. No macro, syntax, notation, axiom, sorry.
-/
import Derived.Test.YtaehlbbjbeibfaaChecked
import GoSem.Claim
import GoSem.ClaimJoined
import GoSem.ClaimMapViews
import Derived.JoinedTies
import Derived.KernelRfl
namespace Go.Proofs.Ytaehlbbjbeibfaa
/- THE CELL 'sum', in the pinned program and in every row, IS THE sha256 OF THE DUMP (.gsa) THAT YtaehlbbjbeibfaaProg.lean LOADS. Nothing in Lean hashes anything: it is a label: what it is worth is what the hold of that sum in a sandbox is worth. -/
noncomputable def Try.pinned : Pinned := { name := "ytaehlbbjbeibfaa", sum := "5bf68abba3e945377fb525aa1511b2b2b2afb81785d2ab79559f625ba1bb3091", checked := Try.checked }
namespace Rows
def none {H : Type} : Left H := { results := [], args := [] }

/-- 'archivistlaw16.MergeTells': WHATEVER THE INPUT: true; the input reads as it did. -/
def mergeTellsSpec : ChangeSpec := { name := "mergeTells", fn := fun _ => fun
  | [d1, d2, d3, d4, d5, d6] => { results := [.lit (.bool true)], args := [d1, d2, d3, d4, d5, d6] }
  | _ => none }
def mergeTellsRow : OpenClaim := { program := "ytaehlbbjbeibfaa", sum := "5bf68abba3e945377fb525aa1511b2b2b2afb81785d2ab79559f625ba1bb3091", func := "archivist/archivistlaw16.MergeTells", spec := "mergeTells", inPlace := ["internal/bytealg.abigen_runtime_cmpstring", "slices.overlaps[archivist/label.Pair]"], unfollowed := true, recurses := true, apart := false }
def MergeTellsSaid : Prop := mergeTellsRow.holds Try.pinned (OpenSpec.ofChange mergeTellsSpec)

/-- ITS FALSE NEIGHBOUR: 'it returns false'. Refute it at one input. -/
def mergeTellsWrong : ChangeSpec := { name := "mergeTells", fn := fun _ => fun
  | [d1, d2, d3, d4, d5, d6] => { results := [.lit (.bool false)], args := [d1, d2, d3, d4, d5, d6] }
  | _ => none }
def MergeTellsWrongFalsely : Prop := mergeTellsRow.holds Try.pinned (OpenSpec.ofChange mergeTellsWrong)

/-- 'archivistlaw16.MergeSpread': WHATEVER THE INPUT: true; the input reads as it did. -/
def mergeSpreadSpec : ChangeSpec := { name := "mergeSpread", fn := fun _ => fun
  | [d1, d2, d3] => { results := [.lit (.bool true)], args := [d1, d2, d3] }
  | _ => none }
def mergeSpreadRow : OpenClaim := { program := "ytaehlbbjbeibfaa", sum := "5bf68abba3e945377fb525aa1511b2b2b2afb81785d2ab79559f625ba1bb3091", func := "archivist/archivistlaw16.MergeSpread", spec := "mergeSpread", inPlace := ["internal/bytealg.abigen_runtime_cmpstring", "slices.overlaps[archivist/label.Pair]"], unfollowed := true, recurses := true, apart := false }
def MergeSpreadSaid : Prop := mergeSpreadRow.holds Try.pinned (OpenSpec.ofChange mergeSpreadSpec)

/-- ITS FALSE NEIGHBOUR: 'it returns false'. Refute it at one input. -/
def mergeSpreadWrong : ChangeSpec := { name := "mergeSpread", fn := fun _ => fun
  | [d1, d2, d3] => { results := [.lit (.bool false)], args := [d1, d2, d3] }
  | _ => none }
def MergeSpreadWrongFalsely : Prop := mergeSpreadRow.holds Try.pinned (OpenSpec.ofChange mergeSpreadWrong)

/-- 'archivistlaw16.MergeMost': WHATEVER THE INPUT: true; the input reads as it did. -/
def mergeMostSpec : ChangeSpec := { name := "mergeMost", fn := fun _ => fun
  | [d1, d2, d3, d4] => { results := [.lit (.bool true)], args := [d1, d2, d3, d4] }
  | _ => none }
def mergeMostRow : OpenClaim := { program := "ytaehlbbjbeibfaa", sum := "5bf68abba3e945377fb525aa1511b2b2b2afb81785d2ab79559f625ba1bb3091", func := "archivist/archivistlaw16.MergeMost", spec := "mergeMost", inPlace := ["internal/bytealg.abigen_runtime_cmpstring", "slices.overlaps[archivist/label.Pair]"], unfollowed := true, recurses := true, apart := false }
def MergeMostSaid : Prop := mergeMostRow.holds Try.pinned (OpenSpec.ofChange mergeMostSpec)

/-- ITS FALSE NEIGHBOUR: 'it returns false'. Refute it at one input. -/
def mergeMostWrong : ChangeSpec := { name := "mergeMost", fn := fun _ => fun
  | [d1, d2, d3, d4] => { results := [.lit (.bool false)], args := [d1, d2, d3, d4] }
  | _ => none }
def MergeMostWrongFalsely : Prop := mergeMostRow.holds Try.pinned (OpenSpec.ofChange mergeMostWrong)

/-- 'archivistlaw16.MergeEnds': WHATEVER THE INPUT: true; the input reads as it did. -/
def mergeEndsSpec : ChangeSpec := { name := "mergeEnds", fn := fun _ => fun
  | [d1, d2, d3] => { results := [.lit (.bool true)], args := [d1, d2, d3] }
  | _ => none }
def mergeEndsRow : OpenClaim := { program := "ytaehlbbjbeibfaa", sum := "5bf68abba3e945377fb525aa1511b2b2b2afb81785d2ab79559f625ba1bb3091", func := "archivist/archivistlaw16.MergeEnds", spec := "mergeEnds", inPlace := ["internal/bytealg.abigen_runtime_cmpstring", "slices.overlaps[archivist/label.Pair]"], unfollowed := true, recurses := true, apart := false }
def MergeEndsSaid : Prop := mergeEndsRow.holds Try.pinned (OpenSpec.ofChange mergeEndsSpec)

/-- ITS FALSE NEIGHBOUR: 'it returns false'. Refute it at one input. -/
def mergeEndsWrong : ChangeSpec := { name := "mergeEnds", fn := fun _ => fun
  | [d1, d2, d3] => { results := [.lit (.bool false)], args := [d1, d2, d3] }
  | _ => none }
def MergeEndsWrongFalsely : Prop := mergeEndsRow.holds Try.pinned (OpenSpec.ofChange mergeEndsWrong)

/-- 'archivistlaw16.MergeAgain': WHATEVER THE INPUT: true; the input reads as it did. -/
def mergeAgainSpec : ChangeSpec := { name := "mergeAgain", fn := fun _ => fun
  | [d1, d2, d3] => { results := [.lit (.bool true)], args := [d1, d2, d3] }
  | _ => none }
def mergeAgainRow : OpenClaim := { program := "ytaehlbbjbeibfaa", sum := "5bf68abba3e945377fb525aa1511b2b2b2afb81785d2ab79559f625ba1bb3091", func := "archivist/archivistlaw16.MergeAgain", spec := "mergeAgain", inPlace := ["internal/bytealg.abigen_runtime_cmpstring", "slices.overlaps[archivist/label.Pair]"], unfollowed := true, recurses := true, apart := false }
def MergeAgainSaid : Prop := mergeAgainRow.holds Try.pinned (OpenSpec.ofChange mergeAgainSpec)

/-- ITS FALSE NEIGHBOUR: 'it returns false'. Refute it at one input. -/
def mergeAgainWrong : ChangeSpec := { name := "mergeAgain", fn := fun _ => fun
  | [d1, d2, d3] => { results := [.lit (.bool false)], args := [d1, d2, d3] }
  | _ => none }
def MergeAgainWrongFalsely : Prop := mergeAgainRow.holds Try.pinned (OpenSpec.ofChange mergeAgainWrong)

/- THE SECOND FORM. 'bulk': how many values and letters a reading holds, each counted each time it is reached (what is shared counts as often as it is met; a slice's spare places count too). A statement '..UptoSaid' is the law's where the arguments, and the package variables that the reading takes, are together of bulk at most 1048576: NARROWER than '..Said'. Prove '..Said' where nothing that the law and all that it calls make is longer than what came in: it says more and counts as full. Else prove '..UptoSaid'. A law counts once. -/
mutual
def uptoBulk {H : Type} : DataW H → Nat
  | .lit (.string bytes) => bytes.length + 1
  | .lit _ => 1
  | .nil => 1
  | .ptr d => uptoBulk d + 1
  | .slice elems spare => uptoBulkAll elems + uptoBulkAll spare + 1
  | .agg parts => uptoBulkAll parts + 1
  | .iface _ d => uptoBulk d + 1
  | .map entries => uptoBulkEntries entries + 1
  | .held _ => 1
def uptoBulkAll {H : Type} : List (DataW H) → Nat
  | [] => 0
  | d :: r => uptoBulk d + uptoBulkAll r
def uptoBulkEntries {H : Type} : List (Lit × DataW H) → Nat
  | [] => 0
  | x :: r => uptoBulkEntry x + uptoBulkEntries r
def uptoBulkEntry {H : Type} : Lit × DataW H → Nat
  | (.string bytes, d) => bytes.length + uptoBulk d + 1
  | (_, d) => uptoBulk d + 1
 end
def uptoSmall : (H : Type) → List (DataW H) → Bool := fun _ ds => decide (uptoBulkAll ds ≤ 1048576)
def OpenSpec.upto (s : _root_.Go.ChangeSpec) : _root_.Go.OpenSpec := { _root_.Go.OpenSpec.ofChange s with cond := some uptoSmall }

/-- 'archivistlaw16.MergeTells', WHERE WHAT IT READS IS OF BULK AT MOST 1048576: true; the input reads as it did. -/
def mergeTellsUptoRow : OpenClaim := { program := "ytaehlbbjbeibfaa", sum := "5bf68abba3e945377fb525aa1511b2b2b2afb81785d2ab79559f625ba1bb3091", func := "archivist/archivistlaw16.MergeTells", spec := "mergeTells", inPlace := ["internal/bytealg.abigen_runtime_cmpstring", "slices.overlaps[archivist/label.Pair]"], unfollowed := true, recurses := true, apart := false, narrowed := true }
def MergeTellsUptoSaid : Prop := mergeTellsUptoRow.holds Try.pinned (OpenSpec.upto mergeTellsSpec)

/-- 'archivistlaw16.MergeSpread', WHERE WHAT IT READS IS OF BULK AT MOST 1048576: true; the input reads as it did. -/
def mergeSpreadUptoRow : OpenClaim := { program := "ytaehlbbjbeibfaa", sum := "5bf68abba3e945377fb525aa1511b2b2b2afb81785d2ab79559f625ba1bb3091", func := "archivist/archivistlaw16.MergeSpread", spec := "mergeSpread", inPlace := ["internal/bytealg.abigen_runtime_cmpstring", "slices.overlaps[archivist/label.Pair]"], unfollowed := true, recurses := true, apart := false, narrowed := true }
def MergeSpreadUptoSaid : Prop := mergeSpreadUptoRow.holds Try.pinned (OpenSpec.upto mergeSpreadSpec)

/-- 'archivistlaw16.MergeMost', WHERE WHAT IT READS IS OF BULK AT MOST 1048576: true; the input reads as it did. -/
def mergeMostUptoRow : OpenClaim := { program := "ytaehlbbjbeibfaa", sum := "5bf68abba3e945377fb525aa1511b2b2b2afb81785d2ab79559f625ba1bb3091", func := "archivist/archivistlaw16.MergeMost", spec := "mergeMost", inPlace := ["internal/bytealg.abigen_runtime_cmpstring", "slices.overlaps[archivist/label.Pair]"], unfollowed := true, recurses := true, apart := false, narrowed := true }
def MergeMostUptoSaid : Prop := mergeMostUptoRow.holds Try.pinned (OpenSpec.upto mergeMostSpec)

/-- 'archivistlaw16.MergeEnds', WHERE WHAT IT READS IS OF BULK AT MOST 1048576: true; the input reads as it did. -/
def mergeEndsUptoRow : OpenClaim := { program := "ytaehlbbjbeibfaa", sum := "5bf68abba3e945377fb525aa1511b2b2b2afb81785d2ab79559f625ba1bb3091", func := "archivist/archivistlaw16.MergeEnds", spec := "mergeEnds", inPlace := ["internal/bytealg.abigen_runtime_cmpstring", "slices.overlaps[archivist/label.Pair]"], unfollowed := true, recurses := true, apart := false, narrowed := true }
def MergeEndsUptoSaid : Prop := mergeEndsUptoRow.holds Try.pinned (OpenSpec.upto mergeEndsSpec)

/-- 'archivistlaw16.MergeAgain', WHERE WHAT IT READS IS OF BULK AT MOST 1048576: true; the input reads as it did. -/
def mergeAgainUptoRow : OpenClaim := { program := "ytaehlbbjbeibfaa", sum := "5bf68abba3e945377fb525aa1511b2b2b2afb81785d2ab79559f625ba1bb3091", func := "archivist/archivistlaw16.MergeAgain", spec := "mergeAgain", inPlace := ["internal/bytealg.abigen_runtime_cmpstring", "slices.overlaps[archivist/label.Pair]"], unfollowed := true, recurses := true, apart := false, narrowed := true }
def MergeAgainUptoSaid : Prop := mergeAgainUptoRow.holds Try.pinned (OpenSpec.upto mergeAgainSpec)

end Rows
end Go.Proofs.Ytaehlbbjbeibfaa
