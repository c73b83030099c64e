/-
  No cell of these rows narrows 'for every input' (looked for: loops, veiled, ifaces, maps, wideKeys, modest, calm, conditions, laid).
  DERIVED. THE GIVEN ROWS OF THIS SEAT. 4 by the template 'for every input the law returns true; each argument reads behind the call as it read before'; 0 by the template 'total and deterministic' (their statements: YtblafdmmebiagaaTotals.lean).
  GIVEN WITH THE SEED: the statements are not yours to turn. If you find one false, say at which input.
  Laid BY PROGRAM, IN A SANDBOX (cutbox-rows.mjs): the forced cells as the released guide's own fill.sh prints them over the translation 73714ff4a1dd67dd… (all of the seat's roots in one cut). By AI agents, Wed Nov 11 2026. No macro, syntax, notation, axiom, sorry.
-/
import Derived.Test.YtblafdmmebiagaaChecked
import GoSem.Claim
import GoSem.ClaimJoined
import GoSem.ClaimMapViews
import Derived.JoinedTies
import Derived.KernelRfl
namespace Go.Proofs.Ytblafdmmebiagaa
/- THE CELL 'sum', in the pinned program and in every row, IS THE sha256 OF THE DUMP (.gsa) THAT YtblafdmmebiagaaProg.lean LOADS. Nothing in Lean hashes anything: it is a label: what it is worth is what the hold of that sum in a sandbox is worth. -/
noncomputable def Try.pinned : Pinned := { name := "ytblafdmmebiagaa", sum := "73714ff4a1dd67dd23c29957a9a75b730954466deb63cc20bea79fb39da89478", checked := Try.checked }
namespace Rows
def none {H : Type} : Left H := { results := [], args := [] }

/-- 'rubriclaw13.ParseLossless': WHATEVER THE INPUT: true; the input reads as it did. -/
def parseLosslessSpec : ChangeSpec := { name := "parseLossless", fn := fun _ => fun
  | [d] => { results := [.lit (.bool true)], args := [d] }
  | _ => none }
def parseLosslessRow : OpenClaim := { program := "ytblafdmmebiagaa", sum := "73714ff4a1dd67dd23c29957a9a75b730954466deb63cc20bea79fb39da89478", func := "rubric/rubriclaw13.ParseLossless", spec := "parseLossless", unfollowed := true, recurses := true, apart := false }
def ParseLosslessSaid : Prop := parseLosslessRow.holds Try.pinned (OpenSpec.ofChange parseLosslessSpec)

/-- ITS FALSE NEIGHBOUR: 'it returns false'. Refute it at one input. -/
def parseLosslessWrong : ChangeSpec := { name := "parseLossless", fn := fun _ => fun
  | [d] => { results := [.lit (.bool false)], args := [d] }
  | _ => none }
def ParseLosslessWrongFalsely : Prop := parseLosslessRow.holds Try.pinned (OpenSpec.ofChange parseLosslessWrong)

/-- 'rubriclaw13.ParseSpans': WHATEVER THE INPUT: true; the input reads as it did. -/
def parseSpansSpec : ChangeSpec := { name := "parseSpans", fn := fun _ => fun
  | [d] => { results := [.lit (.bool true)], args := [d] }
  | _ => none }
def parseSpansRow : OpenClaim := { program := "ytblafdmmebiagaa", sum := "73714ff4a1dd67dd23c29957a9a75b730954466deb63cc20bea79fb39da89478", func := "rubric/rubriclaw13.ParseSpans", spec := "parseSpans", unfollowed := true, recurses := true, apart := false }
def ParseSpansSaid : Prop := parseSpansRow.holds Try.pinned (OpenSpec.ofChange parseSpansSpec)

/-- ITS FALSE NEIGHBOUR: 'it returns false'. Refute it at one input. -/
def parseSpansWrong : ChangeSpec := { name := "parseSpans", fn := fun _ => fun
  | [d] => { results := [.lit (.bool false)], args := [d] }
  | _ => none }
def ParseSpansWrongFalsely : Prop := parseSpansRow.holds Try.pinned (OpenSpec.ofChange parseSpansWrong)

/-- 'rubriclaw13.ParseOf': WHATEVER THE INPUT: true; the input reads as it did. -/
def parseOfSpec : ChangeSpec := { name := "parseOf", fn := fun _ => fun
  | [d] => { results := [.lit (.bool true)], args := [d] }
  | _ => none }
def parseOfRow : OpenClaim := { program := "ytblafdmmebiagaa", sum := "73714ff4a1dd67dd23c29957a9a75b730954466deb63cc20bea79fb39da89478", func := "rubric/rubriclaw13.ParseOf", spec := "parseOf", unfollowed := true, recurses := true, apart := false }
def ParseOfSaid : Prop := parseOfRow.holds Try.pinned (OpenSpec.ofChange parseOfSpec)

/-- ITS FALSE NEIGHBOUR: 'it returns false'. Refute it at one input. -/
def parseOfWrong : ChangeSpec := { name := "parseOf", fn := fun _ => fun
  | [d] => { results := [.lit (.bool false)], args := [d] }
  | _ => none }
def ParseOfWrongFalsely : Prop := parseOfRow.holds Try.pinned (OpenSpec.ofChange parseOfWrong)

/-- 'rubriclaw13.ParseClosed': WHATEVER THE INPUT: true; the input reads as it did. -/
def parseClosedSpec : ChangeSpec := { name := "parseClosed", fn := fun _ => fun
  | [d] => { results := [.lit (.bool true)], args := [d] }
  | _ => none }
def parseClosedRow : OpenClaim := { program := "ytblafdmmebiagaa", sum := "73714ff4a1dd67dd23c29957a9a75b730954466deb63cc20bea79fb39da89478", func := "rubric/rubriclaw13.ParseClosed", spec := "parseClosed", inPlace := ["internal/abi.NoEscape"], unfollowed := true, recurses := true, apart := false }
def ParseClosedSaid : Prop := parseClosedRow.holds Try.pinned (OpenSpec.ofChange parseClosedSpec)

/-- ITS FALSE NEIGHBOUR: 'it returns false'. Refute it at one input. -/
def parseClosedWrong : ChangeSpec := { name := "parseClosed", fn := fun _ => fun
  | [d] => { results := [.lit (.bool false)], args := [d] }
  | _ => none }
def ParseClosedWrongFalsely : Prop := parseClosedRow.holds Try.pinned (OpenSpec.ofChange parseClosedWrong)

/- THE SECOND FORM. 'bulk': how many values and letters a reading holds, each counted each time it is reached (what is shared counts as often as it is met; a slice's spare places count too). A statement '..UptoSaid' is the law's where the arguments, and the package variables that the reading takes, are together of bulk at most 1048576: NARROWER than '..Said'. Prove '..Said' where nothing that the law and all that it calls make is longer than what came in: it says more and counts as full. Else prove '..UptoSaid'. A law counts once. -/
mutual
def uptoBulk {H : Type} : DataW H → Nat
  | .lit (.string bytes) => bytes.length + 1
  | .lit _ => 1
  | .nil => 1
  | .ptr d => uptoBulk d + 1
  | .slice elems spare => uptoBulkAll elems + uptoBulkAll spare + 1
  | .agg parts => uptoBulkAll parts + 1
  | .iface _ d => uptoBulk d + 1
  | .map entries => uptoBulkEntries entries + 1
  | .held _ => 1
def uptoBulkAll {H : Type} : List (DataW H) → Nat
  | [] => 0
  | d :: r => uptoBulk d + uptoBulkAll r
def uptoBulkEntries {H : Type} : List (Lit × DataW H) → Nat
  | [] => 0
  | x :: r => uptoBulkEntry x + uptoBulkEntries r
def uptoBulkEntry {H : Type} : Lit × DataW H → Nat
  | (.string bytes, d) => bytes.length + uptoBulk d + 1
  | (_, d) => uptoBulk d + 1
 end
def uptoSmall : (H : Type) → List (DataW H) → Bool := fun _ ds => decide (uptoBulkAll ds ≤ 1048576)
def OpenSpec.upto (s : _root_.Go.ChangeSpec) : _root_.Go.OpenSpec := { _root_.Go.OpenSpec.ofChange s with cond := some uptoSmall }

/-- 'rubriclaw13.ParseLossless', WHERE WHAT IT READS IS OF BULK AT MOST 1048576: true; the input reads as it did. -/
def parseLosslessUptoRow : OpenClaim := { program := "ytblafdmmebiagaa", sum := "73714ff4a1dd67dd23c29957a9a75b730954466deb63cc20bea79fb39da89478", func := "rubric/rubriclaw13.ParseLossless", spec := "parseLossless", unfollowed := true, recurses := true, apart := false, narrowed := true }
def ParseLosslessUptoSaid : Prop := parseLosslessUptoRow.holds Try.pinned (OpenSpec.upto parseLosslessSpec)

/-- 'rubriclaw13.ParseSpans', WHERE WHAT IT READS IS OF BULK AT MOST 1048576: true; the input reads as it did. -/
def parseSpansUptoRow : OpenClaim := { program := "ytblafdmmebiagaa", sum := "73714ff4a1dd67dd23c29957a9a75b730954466deb63cc20bea79fb39da89478", func := "rubric/rubriclaw13.ParseSpans", spec := "parseSpans", unfollowed := true, recurses := true, apart := false, narrowed := true }
def ParseSpansUptoSaid : Prop := parseSpansUptoRow.holds Try.pinned (OpenSpec.upto parseSpansSpec)

/-- 'rubriclaw13.ParseOf', WHERE WHAT IT READS IS OF BULK AT MOST 1048576: true; the input reads as it did. -/
def parseOfUptoRow : OpenClaim := { program := "ytblafdmmebiagaa", sum := "73714ff4a1dd67dd23c29957a9a75b730954466deb63cc20bea79fb39da89478", func := "rubric/rubriclaw13.ParseOf", spec := "parseOf", unfollowed := true, recurses := true, apart := false, narrowed := true }
def ParseOfUptoSaid : Prop := parseOfUptoRow.holds Try.pinned (OpenSpec.upto parseOfSpec)

/-- 'rubriclaw13.ParseClosed', WHERE WHAT IT READS IS OF BULK AT MOST 1048576: true; the input reads as it did. -/
def parseClosedUptoRow : OpenClaim := { program := "ytblafdmmebiagaa", sum := "73714ff4a1dd67dd23c29957a9a75b730954466deb63cc20bea79fb39da89478", func := "rubric/rubriclaw13.ParseClosed", spec := "parseClosed", inPlace := ["internal/abi.NoEscape"], unfollowed := true, recurses := true, apart := false, narrowed := true }
def ParseClosedUptoSaid : Prop := parseClosedUptoRow.holds Try.pinned (OpenSpec.upto parseClosedSpec)

end Rows
end Go.Proofs.Ytblafdmmebiagaa
