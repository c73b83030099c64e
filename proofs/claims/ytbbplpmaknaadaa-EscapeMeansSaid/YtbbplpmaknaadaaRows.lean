/-
  No cell of these rows narrows 'for every input' (looked for: loops, veiled, ifaces, maps, wideKeys, modest, calm, conditions, laid).
  DERIVED. THE GIVEN ROWS OF THIS SEAT. 8 by the template 'for every input the law returns true; each argument reads behind the call as it read before'; 0 by the template 'total and deterministic' (their statements: YtbbplpmaknaadaaTotals.lean).
  GIVEN WITH THE SEED: the statements are not yours to turn. If you find one false, say at which input.
  Laid BY PROGRAM, IN A SANDBOX (cutbox-rows.mjs): the forced cells as the released guide's own fill.sh prints them over the translation 89a22db963bb1890… (all of the seat's roots in one cut). By AI agents, Wed Nov 11 2026. No macro, syntax, notation, axiom, sorry.
-/
import Derived.Test.YtbbplpmaknaadaaChecked
import GoSem.Claim
import GoSem.ClaimJoined
import GoSem.ClaimMapViews
import Derived.JoinedTies
import Derived.KernelRfl
namespace Go.Proofs.Ytbbplpmaknaadaa
/- THE CELL 'sum', in the pinned program and in every row, IS THE sha256 OF THE DUMP (.gsa) THAT YtbbplpmaknaadaaProg.lean LOADS. Nothing in Lean hashes anything: it is a label: what it is worth is what the hold of that sum in a sandbox is worth. -/
noncomputable def Try.pinned : Pinned := { name := "ytbbplpmaknaadaa", sum := "89a22db963bb1890468515bc57e81cb6ca84b411fcf8cb024c23007427a3b6ae", checked := Try.checked }
namespace Rows
def none {H : Type} : Left H := { results := [], args := [] }

/-- 'rubriclaw18.NormTokens': WHATEVER THE INPUT: true; the input reads as it did. -/
def normTokensSpec : ChangeSpec := { name := "normTokens", fn := fun _ => fun
  | [d] => { results := [.lit (.bool true)], args := [d] }
  | _ => none }
def normTokensRow : OpenClaim := { program := "ytbbplpmaknaadaa", sum := "89a22db963bb1890468515bc57e81cb6ca84b411fcf8cb024c23007427a3b6ae", func := "rubric/rubriclaw18.NormTokens", spec := "normTokens", unfollowed := true, recurses := true, apart := false }
def NormTokensSaid : Prop := normTokensRow.holds Try.pinned (OpenSpec.ofChange normTokensSpec)

/-- ITS FALSE NEIGHBOUR: 'it returns false'. Refute it at one input. -/
def normTokensWrong : ChangeSpec := { name := "normTokens", fn := fun _ => fun
  | [d] => { results := [.lit (.bool false)], args := [d] }
  | _ => none }
def NormTokensWrongFalsely : Prop := normTokensRow.holds Try.pinned (OpenSpec.ofChange normTokensWrong)

/-- 'rubriclaw18.NormTypes': WHATEVER THE INPUT: true; the input reads as it did. -/
def normTypesSpec : ChangeSpec := { name := "normTypes", fn := fun _ => fun
  | [d1, d2] => { results := [.lit (.bool true)], args := [d1, d2] }
  | _ => none }
def normTypesRow : OpenClaim := { program := "ytbbplpmaknaadaa", sum := "89a22db963bb1890468515bc57e81cb6ca84b411fcf8cb024c23007427a3b6ae", func := "rubric/rubriclaw18.NormTypes", spec := "normTypes", unfollowed := true, recurses := true, apart := false }
def NormTypesSaid : Prop := normTypesRow.holds Try.pinned (OpenSpec.ofChange normTypesSpec)

/-- ITS FALSE NEIGHBOUR: 'it returns false'. Refute it at one input. -/
def normTypesWrong : ChangeSpec := { name := "normTypes", fn := fun _ => fun
  | [d1, d2] => { results := [.lit (.bool false)], args := [d1, d2] }
  | _ => none }
def NormTypesWrongFalsely : Prop := normTypesRow.holds Try.pinned (OpenSpec.ofChange normTypesWrong)

/-- 'rubriclaw18.NormFinds': WHATEVER THE INPUT: true; the input reads as it did. -/
def normFindsSpec : ChangeSpec := { name := "normFinds", fn := fun _ => fun
  | [d1, d2] => { results := [.lit (.bool true)], args := [d1, d2] }
  | _ => none }
def normFindsRow : OpenClaim := { program := "ytbbplpmaknaadaa", sum := "89a22db963bb1890468515bc57e81cb6ca84b411fcf8cb024c23007427a3b6ae", func := "rubric/rubriclaw18.NormFinds", spec := "normFinds", unfollowed := true, recurses := true, apart := false }
def NormFindsSaid : Prop := normFindsRow.holds Try.pinned (OpenSpec.ofChange normFindsSpec)

/-- ITS FALSE NEIGHBOUR: 'it returns false'. Refute it at one input. -/
def normFindsWrong : ChangeSpec := { name := "normFinds", fn := fun _ => fun
  | [d1, d2] => { results := [.lit (.bool false)], args := [d1, d2] }
  | _ => none }
def NormFindsWrongFalsely : Prop := normFindsRow.holds Try.pinned (OpenSpec.ofChange normFindsWrong)

/-- 'rubriclaw18.NormBlank': WHATEVER THE INPUT: true; the input reads as it did. -/
def normBlankSpec : ChangeSpec := { name := "normBlank", fn := fun _ => fun
  | [d1, d2] => { results := [.lit (.bool true)], args := [d1, d2] }
  | _ => none }
def normBlankRow : OpenClaim := { program := "ytbbplpmaknaadaa", sum := "89a22db963bb1890468515bc57e81cb6ca84b411fcf8cb024c23007427a3b6ae", func := "rubric/rubriclaw18.NormBlank", spec := "normBlank", unfollowed := true, recurses := true, apart := false }
def NormBlankSaid : Prop := normBlankRow.holds Try.pinned (OpenSpec.ofChange normBlankSpec)

/-- ITS FALSE NEIGHBOUR: 'it returns false'. Refute it at one input. -/
def normBlankWrong : ChangeSpec := { name := "normBlank", fn := fun _ => fun
  | [d1, d2] => { results := [.lit (.bool false)], args := [d1, d2] }
  | _ => none }
def NormBlankWrongFalsely : Prop := normBlankRow.holds Try.pinned (OpenSpec.ofChange normBlankWrong)

/-- 'rubriclaw23.EscapeValues': WHATEVER THE INPUT: true; the input reads as it did. -/
def escapeValuesSpec : ChangeSpec := { name := "escapeValues", fn := fun _ => fun
  | [d1, d2, d3] => { results := [.lit (.bool true)], args := [d1, d2, d3] }
  | _ => none }
def escapeValuesRow : OpenClaim := { program := "ytbbplpmaknaadaa", sum := "89a22db963bb1890468515bc57e81cb6ca84b411fcf8cb024c23007427a3b6ae", func := "rubric/rubriclaw23.EscapeValues", spec := "escapeValues", unfollowed := true, recurses := true, apart := false }
def EscapeValuesSaid : Prop := escapeValuesRow.holds Try.pinned (OpenSpec.ofChange escapeValuesSpec)

/-- ITS FALSE NEIGHBOUR: 'it returns false'. Refute it at one input. -/
def escapeValuesWrong : ChangeSpec := { name := "escapeValues", fn := fun _ => fun
  | [d1, d2, d3] => { results := [.lit (.bool false)], args := [d1, d2, d3] }
  | _ => none }
def EscapeValuesWrongFalsely : Prop := escapeValuesRow.holds Try.pinned (OpenSpec.ofChange escapeValuesWrong)

/-- 'rubriclaw23.EscapeTags': WHATEVER THE INPUT: true; the input reads as it did. -/
def escapeTagsSpec : ChangeSpec := { name := "escapeTags", fn := fun _ => fun
  | [d1, d2, d3] => { results := [.lit (.bool true)], args := [d1, d2, d3] }
  | _ => none }
def escapeTagsRow : OpenClaim := { program := "ytbbplpmaknaadaa", sum := "89a22db963bb1890468515bc57e81cb6ca84b411fcf8cb024c23007427a3b6ae", func := "rubric/rubriclaw23.EscapeTags", spec := "escapeTags", unfollowed := true, recurses := true, apart := false }
def EscapeTagsSaid : Prop := escapeTagsRow.holds Try.pinned (OpenSpec.ofChange escapeTagsSpec)

/-- ITS FALSE NEIGHBOUR: 'it returns false'. Refute it at one input. -/
def escapeTagsWrong : ChangeSpec := { name := "escapeTags", fn := fun _ => fun
  | [d1, d2, d3] => { results := [.lit (.bool false)], args := [d1, d2, d3] }
  | _ => none }
def EscapeTagsWrongFalsely : Prop := escapeTagsRow.holds Try.pinned (OpenSpec.ofChange escapeTagsWrong)

/-- 'rubriclaw23.EscapeMarks': WHATEVER THE INPUT: true; the input reads as it did. -/
def escapeMarksSpec : ChangeSpec := { name := "escapeMarks", fn := fun _ => fun
  | [d1, d2] => { results := [.lit (.bool true)], args := [d1, d2] }
  | _ => none }
def escapeMarksRow : OpenClaim := { program := "ytbbplpmaknaadaa", sum := "89a22db963bb1890468515bc57e81cb6ca84b411fcf8cb024c23007427a3b6ae", func := "rubric/rubriclaw23.EscapeMarks", spec := "escapeMarks", inPlace := ["internal/bytealg.IndexByteString", "internal/bytealg.IndexString"], unfollowed := true, recurses := true, named := ["internal/bytealg.MaxLen"], apart := false }
def EscapeMarksSaid : Prop := escapeMarksRow.holds Try.pinned (OpenSpec.ofChange escapeMarksSpec)

/-- ITS FALSE NEIGHBOUR: 'it returns false'. Refute it at one input. -/
def escapeMarksWrong : ChangeSpec := { name := "escapeMarks", fn := fun _ => fun
  | [d1, d2] => { results := [.lit (.bool false)], args := [d1, d2] }
  | _ => none }
def EscapeMarksWrongFalsely : Prop := escapeMarksRow.holds Try.pinned (OpenSpec.ofChange escapeMarksWrong)

/-- 'rubriclaw23.EscapeMeans': WHATEVER THE INPUT: true; the input reads as it did. -/
def escapeMeansSpec : ChangeSpec := { name := "escapeMeans", fn := fun _ => fun
  | [d1, d2] => { results := [.lit (.bool true)], args := [d1, d2] }
  | _ => none }
def escapeMeansRow : OpenClaim := { program := "ytbbplpmaknaadaa", sum := "89a22db963bb1890468515bc57e81cb6ca84b411fcf8cb024c23007427a3b6ae", func := "rubric/rubriclaw23.EscapeMeans", spec := "escapeMeans", unfollowed := true, recurses := true, apart := false }
def EscapeMeansSaid : Prop := escapeMeansRow.holds Try.pinned (OpenSpec.ofChange escapeMeansSpec)

/-- ITS FALSE NEIGHBOUR: 'it returns false'. Refute it at one input. -/
def escapeMeansWrong : ChangeSpec := { name := "escapeMeans", fn := fun _ => fun
  | [d1, d2] => { results := [.lit (.bool false)], args := [d1, d2] }
  | _ => none }
def EscapeMeansWrongFalsely : Prop := escapeMeansRow.holds Try.pinned (OpenSpec.ofChange escapeMeansWrong)

/- THE SECOND FORM. 'bulk': how many values and letters a reading holds, each counted each time it is reached (what is shared counts as often as it is met; a slice's spare places count too). A statement '..UptoSaid' is the law's where the arguments, and the package variables that the reading takes, are together of bulk at most 1048576: NARROWER than '..Said'. Prove '..Said' where nothing that the law and all that it calls make is longer than what came in: it says more and counts as full. Else prove '..UptoSaid'. A law counts once. -/
mutual
def uptoBulk {H : Type} : DataW H → Nat
  | .lit (.string bytes) => bytes.length + 1
  | .lit _ => 1
  | .nil => 1
  | .ptr d => uptoBulk d + 1
  | .slice elems spare => uptoBulkAll elems + uptoBulkAll spare + 1
  | .agg parts => uptoBulkAll parts + 1
  | .iface _ d => uptoBulk d + 1
  | .map entries => uptoBulkEntries entries + 1
  | .held _ => 1
def uptoBulkAll {H : Type} : List (DataW H) → Nat
  | [] => 0
  | d :: r => uptoBulk d + uptoBulkAll r
def uptoBulkEntries {H : Type} : List (Lit × DataW H) → Nat
  | [] => 0
  | x :: r => uptoBulkEntry x + uptoBulkEntries r
def uptoBulkEntry {H : Type} : Lit × DataW H → Nat
  | (.string bytes, d) => bytes.length + uptoBulk d + 1
  | (_, d) => uptoBulk d + 1
 end
def uptoSmall : (H : Type) → List (DataW H) → Bool := fun _ ds => decide (uptoBulkAll ds ≤ 1048576)
def OpenSpec.upto (s : _root_.Go.ChangeSpec) : _root_.Go.OpenSpec := { _root_.Go.OpenSpec.ofChange s with cond := some uptoSmall }

/-- 'rubriclaw18.NormTokens', WHERE WHAT IT READS IS OF BULK AT MOST 1048576: true; the input reads as it did. -/
def normTokensUptoRow : OpenClaim := { program := "ytbbplpmaknaadaa", sum := "89a22db963bb1890468515bc57e81cb6ca84b411fcf8cb024c23007427a3b6ae", func := "rubric/rubriclaw18.NormTokens", spec := "normTokens", unfollowed := true, recurses := true, apart := false, narrowed := true }
def NormTokensUptoSaid : Prop := normTokensUptoRow.holds Try.pinned (OpenSpec.upto normTokensSpec)

/-- 'rubriclaw18.NormTypes', WHERE WHAT IT READS IS OF BULK AT MOST 1048576: true; the input reads as it did. -/
def normTypesUptoRow : OpenClaim := { program := "ytbbplpmaknaadaa", sum := "89a22db963bb1890468515bc57e81cb6ca84b411fcf8cb024c23007427a3b6ae", func := "rubric/rubriclaw18.NormTypes", spec := "normTypes", unfollowed := true, recurses := true, apart := false, narrowed := true }
def NormTypesUptoSaid : Prop := normTypesUptoRow.holds Try.pinned (OpenSpec.upto normTypesSpec)

/-- 'rubriclaw18.NormFinds', WHERE WHAT IT READS IS OF BULK AT MOST 1048576: true; the input reads as it did. -/
def normFindsUptoRow : OpenClaim := { program := "ytbbplpmaknaadaa", sum := "89a22db963bb1890468515bc57e81cb6ca84b411fcf8cb024c23007427a3b6ae", func := "rubric/rubriclaw18.NormFinds", spec := "normFinds", unfollowed := true, recurses := true, apart := false, narrowed := true }
def NormFindsUptoSaid : Prop := normFindsUptoRow.holds Try.pinned (OpenSpec.upto normFindsSpec)

/-- 'rubriclaw18.NormBlank', WHERE WHAT IT READS IS OF BULK AT MOST 1048576: true; the input reads as it did. -/
def normBlankUptoRow : OpenClaim := { program := "ytbbplpmaknaadaa", sum := "89a22db963bb1890468515bc57e81cb6ca84b411fcf8cb024c23007427a3b6ae", func := "rubric/rubriclaw18.NormBlank", spec := "normBlank", unfollowed := true, recurses := true, apart := false, narrowed := true }
def NormBlankUptoSaid : Prop := normBlankUptoRow.holds Try.pinned (OpenSpec.upto normBlankSpec)

/-- 'rubriclaw23.EscapeValues', WHERE WHAT IT READS IS OF BULK AT MOST 1048576: true; the input reads as it did. -/
def escapeValuesUptoRow : OpenClaim := { program := "ytbbplpmaknaadaa", sum := "89a22db963bb1890468515bc57e81cb6ca84b411fcf8cb024c23007427a3b6ae", func := "rubric/rubriclaw23.EscapeValues", spec := "escapeValues", unfollowed := true, recurses := true, apart := false, narrowed := true }
def EscapeValuesUptoSaid : Prop := escapeValuesUptoRow.holds Try.pinned (OpenSpec.upto escapeValuesSpec)

/-- 'rubriclaw23.EscapeTags', WHERE WHAT IT READS IS OF BULK AT MOST 1048576: true; the input reads as it did. -/
def escapeTagsUptoRow : OpenClaim := { program := "ytbbplpmaknaadaa", sum := "89a22db963bb1890468515bc57e81cb6ca84b411fcf8cb024c23007427a3b6ae", func := "rubric/rubriclaw23.EscapeTags", spec := "escapeTags", unfollowed := true, recurses := true, apart := false, narrowed := true }
def EscapeTagsUptoSaid : Prop := escapeTagsUptoRow.holds Try.pinned (OpenSpec.upto escapeTagsSpec)

/-- 'rubriclaw23.EscapeMarks', WHERE WHAT IT READS IS OF BULK AT MOST 1048576: true; the input reads as it did. -/
def escapeMarksUptoRow : OpenClaim := { program := "ytbbplpmaknaadaa", sum := "89a22db963bb1890468515bc57e81cb6ca84b411fcf8cb024c23007427a3b6ae", func := "rubric/rubriclaw23.EscapeMarks", spec := "escapeMarks", inPlace := ["internal/bytealg.IndexByteString", "internal/bytealg.IndexString"], unfollowed := true, recurses := true, named := ["internal/bytealg.MaxLen"], apart := false, narrowed := true }
def EscapeMarksUptoSaid : Prop := escapeMarksUptoRow.holds Try.pinned (OpenSpec.upto escapeMarksSpec)

/-- 'rubriclaw23.EscapeMeans', WHERE WHAT IT READS IS OF BULK AT MOST 1048576: true; the input reads as it did. -/
def escapeMeansUptoRow : OpenClaim := { program := "ytbbplpmaknaadaa", sum := "89a22db963bb1890468515bc57e81cb6ca84b411fcf8cb024c23007427a3b6ae", func := "rubric/rubriclaw23.EscapeMeans", spec := "escapeMeans", unfollowed := true, recurses := true, apart := false, narrowed := true }
def EscapeMeansUptoSaid : Prop := escapeMeansUptoRow.holds Try.pinned (OpenSpec.upto escapeMeansSpec)

end Rows
end Go.Proofs.Ytbbplpmaknaadaa
