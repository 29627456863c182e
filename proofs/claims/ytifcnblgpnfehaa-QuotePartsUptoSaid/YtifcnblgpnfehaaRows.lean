/-
  No cell of these rows narrows 'for every input' (looked for: loops, veiled, ifaces, maps, wideKeys, modest, calm, conditions, laid).
  DERIVED. THE GIVEN ROWS OF THIS SEAT. 12 by the template 'for every input the law returns true; each argument reads behind the call as it read before'; 0 by the template 'total and deterministic' (their statements: YtifcnblgpnfehaaTotals.lean).
  GIVEN WITH THE SEED: the statements are not yours to turn. If you find one false, say at which input.
  Laid BY PROGRAM, IN A SANDBOX (cutbox-rows.mjs): the forced cells as the released guide's own fill.sh prints them over the translation 6f15ff1642920310… (all of the seat's roots in one cut). By AI agents, Wed Nov 11 2026. No macro, syntax, notation, axiom, sorry.
-/
import Derived.Test.YtifcnblgpnfehaaChecked
import GoSem.Claim
import GoSem.ClaimJoined
import GoSem.ClaimMapViews
import Derived.JoinedTies
import Derived.KernelRfl
namespace Go.Proofs.Ytifcnblgpnfehaa
/- THE CELL 'sum', in the pinned program and in every row, IS THE sha256 OF THE DUMP (.gsa) THAT YtifcnblgpnfehaaProg.lean LOADS. Nothing in Lean hashes anything: it is a label: what it is worth is what the hold of that sum in a sandbox is worth. -/
noncomputable def Try.pinned : Pinned := { name := "ytifcnblgpnfehaa", sum := "6f15ff16429203107da77e50c70f111b49b7f0a755336753c42694794adba486", checked := Try.checked }
namespace Rows
def none {H : Type} : Left H := { results := [], args := [] }

/-- 'archivistlaw07.LexWords': WHATEVER THE INPUT: true; the input reads as it did. -/
def lexWordsSpec : ChangeSpec := { name := "lexWords", fn := fun _ => fun
  | [d1, d2, d3] => { results := [.lit (.bool true)], args := [d1, d2, d3] }
  | _ => none }
def lexWordsRow : OpenClaim := { program := "ytifcnblgpnfehaa", sum := "6f15ff16429203107da77e50c70f111b49b7f0a755336753c42694794adba486", func := "archivist/archivistlaw07.LexWords", spec := "lexWords", inPlace := ["internal/bytealg.IndexByteString"], apart := false }
def LexWordsSaid : Prop := lexWordsRow.holds Try.pinned (OpenSpec.ofChange lexWordsSpec)

/-- ITS FALSE NEIGHBOUR: 'it returns false'. Refute it at one input. -/
def lexWordsWrong : ChangeSpec := { name := "lexWords", fn := fun _ => fun
  | [d1, d2, d3] => { results := [.lit (.bool false)], args := [d1, d2, d3] }
  | _ => none }
def LexWordsWrongFalsely : Prop := lexWordsRow.holds Try.pinned (OpenSpec.ofChange lexWordsWrong)

/-- 'archivistlaw07.LexSpaces': WHATEVER THE INPUT: true; the input reads as it did. -/
def lexSpacesSpec : ChangeSpec := { name := "lexSpaces", fn := fun _ => fun
  | [d1, d2] => { results := [.lit (.bool true)], args := [d1, d2] }
  | _ => none }
def lexSpacesRow : OpenClaim := { program := "ytifcnblgpnfehaa", sum := "6f15ff16429203107da77e50c70f111b49b7f0a755336753c42694794adba486", func := "archivist/archivistlaw07.LexSpaces", spec := "lexSpaces", inPlace := ["internal/bytealg.IndexByteString"], apart := false }
def LexSpacesSaid : Prop := lexSpacesRow.holds Try.pinned (OpenSpec.ofChange lexSpacesSpec)

/-- ITS FALSE NEIGHBOUR: 'it returns false'. Refute it at one input. -/
def lexSpacesWrong : ChangeSpec := { name := "lexSpaces", fn := fun _ => fun
  | [d1, d2] => { results := [.lit (.bool false)], args := [d1, d2] }
  | _ => none }
def LexSpacesWrongFalsely : Prop := lexSpacesRow.holds Try.pinned (OpenSpec.ofChange lexSpacesWrong)

/-- 'archivistlaw07.LexPlaces': WHATEVER THE INPUT: true; the input reads as it did. -/
def lexPlacesSpec : ChangeSpec := { name := "lexPlaces", fn := fun _ => fun
  | [d1, d2, d3] => { results := [.lit (.bool true)], args := [d1, d2, d3] }
  | _ => none }
def lexPlacesRow : OpenClaim := { program := "ytifcnblgpnfehaa", sum := "6f15ff16429203107da77e50c70f111b49b7f0a755336753c42694794adba486", func := "archivist/archivistlaw07.LexPlaces", spec := "lexPlaces", inPlace := ["internal/bytealg.IndexByteString"], apart := false }
def LexPlacesSaid : Prop := lexPlacesRow.holds Try.pinned (OpenSpec.ofChange lexPlacesSpec)

/-- ITS FALSE NEIGHBOUR: 'it returns false'. Refute it at one input. -/
def lexPlacesWrong : ChangeSpec := { name := "lexPlaces", fn := fun _ => fun
  | [d1, d2, d3] => { results := [.lit (.bool false)], args := [d1, d2, d3] }
  | _ => none }
def LexPlacesWrongFalsely : Prop := lexPlacesRow.holds Try.pinned (OpenSpec.ofChange lexPlacesWrong)

/-- 'archivistlaw07.LexLongest': WHATEVER THE INPUT: true; the input reads as it did. -/
def lexLongestSpec : ChangeSpec := { name := "lexLongest", fn := fun _ => fun
  | [d1, d2, d3] => { results := [.lit (.bool true)], args := [d1, d2, d3] }
  | _ => none }
def lexLongestRow : OpenClaim := { program := "ytifcnblgpnfehaa", sum := "6f15ff16429203107da77e50c70f111b49b7f0a755336753c42694794adba486", func := "archivist/archivistlaw07.LexLongest", spec := "lexLongest", inPlace := ["internal/bytealg.IndexByteString"], apart := false }
def LexLongestSaid : Prop := lexLongestRow.holds Try.pinned (OpenSpec.ofChange lexLongestSpec)

/-- ITS FALSE NEIGHBOUR: 'it returns false'. Refute it at one input. -/
def lexLongestWrong : ChangeSpec := { name := "lexLongest", fn := fun _ => fun
  | [d1, d2, d3] => { results := [.lit (.bool false)], args := [d1, d2, d3] }
  | _ => none }
def LexLongestWrongFalsely : Prop := lexLongestRow.holds Try.pinned (OpenSpec.ofChange lexLongestWrong)

/-- 'archivistlaw07.LexApart': WHATEVER THE INPUT: true; the input reads as it did. -/
def lexApartSpec : ChangeSpec := { name := "lexApart", fn := fun _ => fun
  | [d] => { results := [.lit (.bool true)], args := [d] }
  | _ => none }
def lexApartRow : OpenClaim := { program := "ytifcnblgpnfehaa", sum := "6f15ff16429203107da77e50c70f111b49b7f0a755336753c42694794adba486", func := "archivist/archivistlaw07.LexApart", spec := "lexApart", inPlace := ["internal/bytealg.IndexByteString"], apart := false }
def LexApartSaid : Prop := lexApartRow.holds Try.pinned (OpenSpec.ofChange lexApartSpec)

/-- ITS FALSE NEIGHBOUR: 'it returns false'. Refute it at one input. -/
def lexApartWrong : ChangeSpec := { name := "lexApart", fn := fun _ => fun
  | [d] => { results := [.lit (.bool false)], args := [d] }
  | _ => none }
def LexApartWrongFalsely : Prop := lexApartRow.holds Try.pinned (OpenSpec.ofChange lexApartWrong)

/-- 'archivistlaw01.QuotePuts': WHATEVER THE INPUT: true; the input reads as it did. -/
def quotePutsSpec : ChangeSpec := { name := "quotePuts", fn := fun _ => fun
  | [d1, d2, d3, d4, d5] => { results := [.lit (.bool true)], args := [d1, d2, d3, d4, d5] }
  | _ => none }
def quotePutsRow : OpenClaim := { program := "ytifcnblgpnfehaa", sum := "6f15ff16429203107da77e50c70f111b49b7f0a755336753c42694794adba486", func := "archivist/archivistlaw01.QuotePuts", spec := "quotePuts", inPlace := ["internal/bytealg.IndexByteString", "internal/abi.NoEscape", "internal/bytealg.MakeNoZero"], apart := false }
def QuotePutsSaid : Prop := quotePutsRow.holds Try.pinned (OpenSpec.ofChange quotePutsSpec)

/-- ITS FALSE NEIGHBOUR: 'it returns false'. Refute it at one input. -/
def quotePutsWrong : ChangeSpec := { name := "quotePuts", fn := fun _ => fun
  | [d1, d2, d3, d4, d5] => { results := [.lit (.bool false)], args := [d1, d2, d3, d4, d5] }
  | _ => none }
def QuotePutsWrongFalsely : Prop := quotePutsRow.holds Try.pinned (OpenSpec.ofChange quotePutsWrong)

/-- 'archivistlaw01.QuoteParts': WHATEVER THE INPUT: true; the input reads as it did. -/
def quotePartsSpec : ChangeSpec := { name := "quoteParts", fn := fun _ => fun
  | [d1, d2, d3, d4] => { results := [.lit (.bool true)], args := [d1, d2, d3, d4] }
  | _ => none }
def quotePartsRow : OpenClaim := { program := "ytifcnblgpnfehaa", sum := "6f15ff16429203107da77e50c70f111b49b7f0a755336753c42694794adba486", func := "archivist/archivistlaw01.QuoteParts", spec := "quoteParts", inPlace := ["internal/bytealg.IndexByteString", "internal/abi.NoEscape", "internal/bytealg.MakeNoZero"], apart := false }
def QuotePartsSaid : Prop := quotePartsRow.holds Try.pinned (OpenSpec.ofChange quotePartsSpec)

/-- ITS FALSE NEIGHBOUR: 'it returns false'. Refute it at one input. -/
def quotePartsWrong : ChangeSpec := { name := "quoteParts", fn := fun _ => fun
  | [d1, d2, d3, d4] => { results := [.lit (.bool false)], args := [d1, d2, d3, d4] }
  | _ => none }
def QuotePartsWrongFalsely : Prop := quotePartsRow.holds Try.pinned (OpenSpec.ofChange quotePartsWrong)

/-- 'archivistlaw01.QuoteBack': WHATEVER THE INPUT: true; the input reads as it did. -/
def quoteBackSpec : ChangeSpec := { name := "quoteBack", fn := fun _ => fun
  | [d1, d2, d3, d4, d5] => { results := [.lit (.bool true)], args := [d1, d2, d3, d4, d5] }
  | _ => none }
def quoteBackRow : OpenClaim := { program := "ytifcnblgpnfehaa", sum := "6f15ff16429203107da77e50c70f111b49b7f0a755336753c42694794adba486", func := "archivist/archivistlaw01.QuoteBack", spec := "quoteBack", inPlace := ["internal/bytealg.IndexByteString", "internal/abi.NoEscape", "internal/bytealg.MakeNoZero"], apart := false }
def QuoteBackSaid : Prop := quoteBackRow.holds Try.pinned (OpenSpec.ofChange quoteBackSpec)

/-- ITS FALSE NEIGHBOUR: 'it returns false'. Refute it at one input. -/
def quoteBackWrong : ChangeSpec := { name := "quoteBack", fn := fun _ => fun
  | [d1, d2, d3, d4, d5] => { results := [.lit (.bool false)], args := [d1, d2, d3, d4, d5] }
  | _ => none }
def QuoteBackWrongFalsely : Prop := quoteBackRow.holds Try.pinned (OpenSpec.ofChange quoteBackWrong)

/-- 'archivistlaw01.QuotePlain': WHATEVER THE INPUT: true; the input reads as it did. -/
def quotePlainSpec : ChangeSpec := { name := "quotePlain", fn := fun _ => fun
  | [d] => { results := [.lit (.bool true)], args := [d] }
  | _ => none }
def quotePlainRow : OpenClaim := { program := "ytifcnblgpnfehaa", sum := "6f15ff16429203107da77e50c70f111b49b7f0a755336753c42694794adba486", func := "archivist/archivistlaw01.QuotePlain", spec := "quotePlain", inPlace := ["internal/bytealg.IndexByteString", "internal/abi.NoEscape", "internal/bytealg.MakeNoZero"], apart := false }
def QuotePlainSaid : Prop := quotePlainRow.holds Try.pinned (OpenSpec.ofChange quotePlainSpec)

/-- ITS FALSE NEIGHBOUR: 'it returns false'. Refute it at one input. -/
def quotePlainWrong : ChangeSpec := { name := "quotePlain", fn := fun _ => fun
  | [d] => { results := [.lit (.bool false)], args := [d] }
  | _ => none }
def QuotePlainWrongFalsely : Prop := quotePlainRow.holds Try.pinned (OpenSpec.ofChange quotePlainWrong)

/-- 'archivistlaw01.QuoteCuts': WHATEVER THE INPUT: true; the input reads as it did. -/
def quoteCutsSpec : ChangeSpec := { name := "quoteCuts", fn := fun _ => fun
  | [d1, d2] => { results := [.lit (.bool true)], args := [d1, d2] }
  | _ => none }
def quoteCutsRow : OpenClaim := { program := "ytifcnblgpnfehaa", sum := "6f15ff16429203107da77e50c70f111b49b7f0a755336753c42694794adba486", func := "archivist/archivistlaw01.QuoteCuts", spec := "quoteCuts", inPlace := ["internal/bytealg.IndexByteString", "internal/abi.NoEscape", "internal/bytealg.MakeNoZero"], apart := false }
def QuoteCutsSaid : Prop := quoteCutsRow.holds Try.pinned (OpenSpec.ofChange quoteCutsSpec)

/-- ITS FALSE NEIGHBOUR: 'it returns false'. Refute it at one input. -/
def quoteCutsWrong : ChangeSpec := { name := "quoteCuts", fn := fun _ => fun
  | [d1, d2] => { results := [.lit (.bool false)], args := [d1, d2] }
  | _ => none }
def QuoteCutsWrongFalsely : Prop := quoteCutsRow.holds Try.pinned (OpenSpec.ofChange quoteCutsWrong)

/-- 'archivistlaw01.QuoteJoins': WHATEVER THE INPUT: true; the input reads as it did. -/
def quoteJoinsSpec : ChangeSpec := { name := "quoteJoins", fn := fun _ => fun
  | [d] => { results := [.lit (.bool true)], args := [d] }
  | _ => none }
def quoteJoinsRow : OpenClaim := { program := "ytifcnblgpnfehaa", sum := "6f15ff16429203107da77e50c70f111b49b7f0a755336753c42694794adba486", func := "archivist/archivistlaw01.QuoteJoins", spec := "quoteJoins", inPlace := ["internal/bytealg.IndexByteString", "internal/abi.NoEscape", "internal/bytealg.MakeNoZero"], apart := false }
def QuoteJoinsSaid : Prop := quoteJoinsRow.holds Try.pinned (OpenSpec.ofChange quoteJoinsSpec)

/-- ITS FALSE NEIGHBOUR: 'it returns false'. Refute it at one input. -/
def quoteJoinsWrong : ChangeSpec := { name := "quoteJoins", fn := fun _ => fun
  | [d] => { results := [.lit (.bool false)], args := [d] }
  | _ => none }
def QuoteJoinsWrongFalsely : Prop := quoteJoinsRow.holds Try.pinned (OpenSpec.ofChange quoteJoinsWrong)

/-- 'archivistlaw01.QuoteAmong': WHATEVER THE INPUT: true; the input reads as it did. -/
def quoteAmongSpec : ChangeSpec := { name := "quoteAmong", fn := fun _ => fun
  | [d1, d2, d3] => { results := [.lit (.bool true)], args := [d1, d2, d3] }
  | _ => none }
def quoteAmongRow : OpenClaim := { program := "ytifcnblgpnfehaa", sum := "6f15ff16429203107da77e50c70f111b49b7f0a755336753c42694794adba486", func := "archivist/archivistlaw01.QuoteAmong", spec := "quoteAmong", inPlace := ["internal/bytealg.IndexByteString", "internal/abi.NoEscape", "internal/bytealg.MakeNoZero"], apart := false }
def QuoteAmongSaid : Prop := quoteAmongRow.holds Try.pinned (OpenSpec.ofChange quoteAmongSpec)

/-- ITS FALSE NEIGHBOUR: 'it returns false'. Refute it at one input. -/
def quoteAmongWrong : ChangeSpec := { name := "quoteAmong", fn := fun _ => fun
  | [d1, d2, d3] => { results := [.lit (.bool false)], args := [d1, d2, d3] }
  | _ => none }
def QuoteAmongWrongFalsely : Prop := quoteAmongRow.holds Try.pinned (OpenSpec.ofChange quoteAmongWrong)

/- THE SECOND FORM. 'bulk': how many values and letters a reading holds, each counted each time it is reached (what is shared counts as often as it is met; a slice's spare places count too). A statement '..UptoSaid' is the law's where the arguments, and the package variables that the reading takes, are together of bulk at most 1048576: NARROWER than '..Said'. Prove '..Said' where nothing that the law and all that it calls make is longer than what came in: it says more and counts as full. Else prove '..UptoSaid'. A law counts once. -/
mutual
def uptoBulk {H : Type} : DataW H → Nat
  | .lit (.string bytes) => bytes.length + 1
  | .lit _ => 1
  | .nil => 1
  | .ptr d => uptoBulk d + 1
  | .slice elems spare => uptoBulkAll elems + uptoBulkAll spare + 1
  | .agg parts => uptoBulkAll parts + 1
  | .iface _ d => uptoBulk d + 1
  | .map entries => uptoBulkEntries entries + 1
  | .held _ => 1
def uptoBulkAll {H : Type} : List (DataW H) → Nat
  | [] => 0
  | d :: r => uptoBulk d + uptoBulkAll r
def uptoBulkEntries {H : Type} : List (Lit × DataW H) → Nat
  | [] => 0
  | x :: r => uptoBulkEntry x + uptoBulkEntries r
def uptoBulkEntry {H : Type} : Lit × DataW H → Nat
  | (.string bytes, d) => bytes.length + uptoBulk d + 1
  | (_, d) => uptoBulk d + 1
 end
def uptoSmall : (H : Type) → List (DataW H) → Bool := fun _ ds => decide (uptoBulkAll ds ≤ 1048576)
def OpenSpec.upto (s : _root_.Go.ChangeSpec) : _root_.Go.OpenSpec := { _root_.Go.OpenSpec.ofChange s with cond := some uptoSmall }

/-- 'archivistlaw07.LexWords', WHERE WHAT IT READS IS OF BULK AT MOST 1048576: true; the input reads as it did. -/
def lexWordsUptoRow : OpenClaim := { program := "ytifcnblgpnfehaa", sum := "6f15ff16429203107da77e50c70f111b49b7f0a755336753c42694794adba486", func := "archivist/archivistlaw07.LexWords", spec := "lexWords", inPlace := ["internal/bytealg.IndexByteString"], apart := false, narrowed := true }
def LexWordsUptoSaid : Prop := lexWordsUptoRow.holds Try.pinned (OpenSpec.upto lexWordsSpec)

/-- 'archivistlaw07.LexSpaces', WHERE WHAT IT READS IS OF BULK AT MOST 1048576: true; the input reads as it did. -/
def lexSpacesUptoRow : OpenClaim := { program := "ytifcnblgpnfehaa", sum := "6f15ff16429203107da77e50c70f111b49b7f0a755336753c42694794adba486", func := "archivist/archivistlaw07.LexSpaces", spec := "lexSpaces", inPlace := ["internal/bytealg.IndexByteString"], apart := false, narrowed := true }
def LexSpacesUptoSaid : Prop := lexSpacesUptoRow.holds Try.pinned (OpenSpec.upto lexSpacesSpec)

/-- 'archivistlaw07.LexPlaces', WHERE WHAT IT READS IS OF BULK AT MOST 1048576: true; the input reads as it did. -/
def lexPlacesUptoRow : OpenClaim := { program := "ytifcnblgpnfehaa", sum := "6f15ff16429203107da77e50c70f111b49b7f0a755336753c42694794adba486", func := "archivist/archivistlaw07.LexPlaces", spec := "lexPlaces", inPlace := ["internal/bytealg.IndexByteString"], apart := false, narrowed := true }
def LexPlacesUptoSaid : Prop := lexPlacesUptoRow.holds Try.pinned (OpenSpec.upto lexPlacesSpec)

/-- 'archivistlaw07.LexLongest', WHERE WHAT IT READS IS OF BULK AT MOST 1048576: true; the input reads as it did. -/
def lexLongestUptoRow : OpenClaim := { program := "ytifcnblgpnfehaa", sum := "6f15ff16429203107da77e50c70f111b49b7f0a755336753c42694794adba486", func := "archivist/archivistlaw07.LexLongest", spec := "lexLongest", inPlace := ["internal/bytealg.IndexByteString"], apart := false, narrowed := true }
def LexLongestUptoSaid : Prop := lexLongestUptoRow.holds Try.pinned (OpenSpec.upto lexLongestSpec)

/-- 'archivistlaw07.LexApart', WHERE WHAT IT READS IS OF BULK AT MOST 1048576: true; the input reads as it did. -/
def lexApartUptoRow : OpenClaim := { program := "ytifcnblgpnfehaa", sum := "6f15ff16429203107da77e50c70f111b49b7f0a755336753c42694794adba486", func := "archivist/archivistlaw07.LexApart", spec := "lexApart", inPlace := ["internal/bytealg.IndexByteString"], apart := false, narrowed := true }
def LexApartUptoSaid : Prop := lexApartUptoRow.holds Try.pinned (OpenSpec.upto lexApartSpec)

/-- 'archivistlaw01.QuotePuts', WHERE WHAT IT READS IS OF BULK AT MOST 1048576: true; the input reads as it did. -/
def quotePutsUptoRow : OpenClaim := { program := "ytifcnblgpnfehaa", sum := "6f15ff16429203107da77e50c70f111b49b7f0a755336753c42694794adba486", func := "archivist/archivistlaw01.QuotePuts", spec := "quotePuts", inPlace := ["internal/bytealg.IndexByteString", "internal/abi.NoEscape", "internal/bytealg.MakeNoZero"], apart := false, narrowed := true }
def QuotePutsUptoSaid : Prop := quotePutsUptoRow.holds Try.pinned (OpenSpec.upto quotePutsSpec)

/-- 'archivistlaw01.QuoteParts', WHERE WHAT IT READS IS OF BULK AT MOST 1048576: true; the input reads as it did. -/
def quotePartsUptoRow : OpenClaim := { program := "ytifcnblgpnfehaa", sum := "6f15ff16429203107da77e50c70f111b49b7f0a755336753c42694794adba486", func := "archivist/archivistlaw01.QuoteParts", spec := "quoteParts", inPlace := ["internal/bytealg.IndexByteString", "internal/abi.NoEscape", "internal/bytealg.MakeNoZero"], apart := false, narrowed := true }
def QuotePartsUptoSaid : Prop := quotePartsUptoRow.holds Try.pinned (OpenSpec.upto quotePartsSpec)

/-- 'archivistlaw01.QuoteBack', WHERE WHAT IT READS IS OF BULK AT MOST 1048576: true; the input reads as it did. -/
def quoteBackUptoRow : OpenClaim := { program := "ytifcnblgpnfehaa", sum := "6f15ff16429203107da77e50c70f111b49b7f0a755336753c42694794adba486", func := "archivist/archivistlaw01.QuoteBack", spec := "quoteBack", inPlace := ["internal/bytealg.IndexByteString", "internal/abi.NoEscape", "internal/bytealg.MakeNoZero"], apart := false, narrowed := true }
def QuoteBackUptoSaid : Prop := quoteBackUptoRow.holds Try.pinned (OpenSpec.upto quoteBackSpec)

/-- 'archivistlaw01.QuotePlain', WHERE WHAT IT READS IS OF BULK AT MOST 1048576: true; the input reads as it did. -/
def quotePlainUptoRow : OpenClaim := { program := "ytifcnblgpnfehaa", sum := "6f15ff16429203107da77e50c70f111b49b7f0a755336753c42694794adba486", func := "archivist/archivistlaw01.QuotePlain", spec := "quotePlain", inPlace := ["internal/bytealg.IndexByteString", "internal/abi.NoEscape", "internal/bytealg.MakeNoZero"], apart := false, narrowed := true }
def QuotePlainUptoSaid : Prop := quotePlainUptoRow.holds Try.pinned (OpenSpec.upto quotePlainSpec)

/-- 'archivistlaw01.QuoteCuts', WHERE WHAT IT READS IS OF BULK AT MOST 1048576: true; the input reads as it did. -/
def quoteCutsUptoRow : OpenClaim := { program := "ytifcnblgpnfehaa", sum := "6f15ff16429203107da77e50c70f111b49b7f0a755336753c42694794adba486", func := "archivist/archivistlaw01.QuoteCuts", spec := "quoteCuts", inPlace := ["internal/bytealg.IndexByteString", "internal/abi.NoEscape", "internal/bytealg.MakeNoZero"], apart := false, narrowed := true }
def QuoteCutsUptoSaid : Prop := quoteCutsUptoRow.holds Try.pinned (OpenSpec.upto quoteCutsSpec)

/-- 'archivistlaw01.QuoteJoins', WHERE WHAT IT READS IS OF BULK AT MOST 1048576: true; the input reads as it did. -/
def quoteJoinsUptoRow : OpenClaim := { program := "ytifcnblgpnfehaa", sum := "6f15ff16429203107da77e50c70f111b49b7f0a755336753c42694794adba486", func := "archivist/archivistlaw01.QuoteJoins", spec := "quoteJoins", inPlace := ["internal/bytealg.IndexByteString", "internal/abi.NoEscape", "internal/bytealg.MakeNoZero"], apart := false, narrowed := true }
def QuoteJoinsUptoSaid : Prop := quoteJoinsUptoRow.holds Try.pinned (OpenSpec.upto quoteJoinsSpec)

/-- 'archivistlaw01.QuoteAmong', WHERE WHAT IT READS IS OF BULK AT MOST 1048576: true; the input reads as it did. -/
def quoteAmongUptoRow : OpenClaim := { program := "ytifcnblgpnfehaa", sum := "6f15ff16429203107da77e50c70f111b49b7f0a755336753c42694794adba486", func := "archivist/archivistlaw01.QuoteAmong", spec := "quoteAmong", inPlace := ["internal/bytealg.IndexByteString", "internal/abi.NoEscape", "internal/bytealg.MakeNoZero"], apart := false, narrowed := true }
def QuoteAmongUptoSaid : Prop := quoteAmongUptoRow.holds Try.pinned (OpenSpec.upto quoteAmongSpec)

end Rows
end Go.Proofs.Ytifcnblgpnfehaa
