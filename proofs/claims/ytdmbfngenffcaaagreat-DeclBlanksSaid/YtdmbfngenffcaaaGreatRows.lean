/-
  No cell of these rows narrows 'for every input' (looked for: loops, veiled, ifaces, maps, wideKeys, modest, calm, conditions, laid).
  DERIVED. THE GIVEN ROWS OF THIS SEAT. 2 by the template 'for every input the law returns true; each argument reads behind the call as it read before'; 0 by the template 'total and deterministic' (their statements: YtdmbfngenffcaaaGreatTotals.lean).
  GIVEN WITH THE SEED: the statements are not yours to turn. If you find one false, say at which input.
  Laid BY PROGRAM, IN A SANDBOX (cutbox-rows.mjs): the forced cells as the released guide's own fill.sh prints them over the translation 4ac2cc15de04fd02… (all of the seat's roots in one cut). By AI agents, Wed Nov 11 2026. No macro, syntax, notation, axiom, sorry.
-/
import Derived.Test.YtdmbfngenffcaaaGreatChecked
import GoSem.Claim
import GoSem.ClaimJoined
import GoSem.ClaimMapViews
import Derived.JoinedTies
import Derived.KernelRfl
namespace Go.Proofs.YtdmbfngenffcaaaGreat
/- THE CELL 'sum', in the pinned program and in every row, IS THE sha256 OF THE DUMP (.gsa) THAT YtdmbfngenffcaaaGreatProg.lean LOADS. Nothing in Lean hashes anything: it is a label: what it is worth is what the hold of that sum in a sandbox is worth. -/
noncomputable def Tryz.pinned : Pinned := { name := "ytdmbfngenffcaaagreat", sum := "4ac2cc15de04fd0232c2c16b293a89f63041ad38bbb44fabc90f76e873ebda2d", checked := Tryz.checked }
namespace Rows
def none {H : Type} : Left H := { results := [], args := [] }

/-- 'rubriclaw15.DeclBlanks': WHATEVER THE INPUT: true; the input reads as it did. -/
def declBlanksSpec : ChangeSpec := { name := "declBlanks", fn := fun _ => fun
  | [d1, d2] => { results := [.lit (.bool true)], args := [d1, d2] }
  | _ => none }
def declBlanksRow : OpenClaim := { program := "ytdmbfngenffcaaagreat", sum := "4ac2cc15de04fd0232c2c16b293a89f63041ad38bbb44fabc90f76e873ebda2d", func := "rubric/rubriclaw15.DeclBlanks", spec := "declBlanks", inPlace := ["internal/bytealg.IndexByteString", "internal/bytealg.IndexString"], unfollowed := true, recurses := true, named := ["internal/bytealg.MaxLen"], apart := false }
def DeclBlanksSaid : Prop := declBlanksRow.holds Tryz.pinned (OpenSpec.ofChange declBlanksSpec)

/-- ITS FALSE NEIGHBOUR: 'it returns false'. Refute it at one input. -/
def declBlanksWrong : ChangeSpec := { name := "declBlanks", fn := fun _ => fun
  | [d1, d2] => { results := [.lit (.bool false)], args := [d1, d2] }
  | _ => none }
def DeclBlanksWrongFalsely : Prop := declBlanksRow.holds Tryz.pinned (OpenSpec.ofChange declBlanksWrong)

/-- 'rubriclaw15.DeclContent': WHATEVER THE INPUT: true; the input reads as it did. -/
def declContentSpec : ChangeSpec := { name := "declContent", fn := fun _ => fun
  | [d] => { results := [.lit (.bool true)], args := [d] }
  | _ => none }
def declContentRow : OpenClaim := { program := "ytdmbfngenffcaaagreat", sum := "4ac2cc15de04fd0232c2c16b293a89f63041ad38bbb44fabc90f76e873ebda2d", func := "rubric/rubriclaw15.DeclContent", spec := "declContent", inPlace := ["internal/bytealg.IndexByteString", "internal/bytealg.IndexString"], unfollowed := true, recurses := true, named := ["internal/bytealg.MaxLen"], apart := false }
def DeclContentSaid : Prop := declContentRow.holds Tryz.pinned (OpenSpec.ofChange declContentSpec)

/-- ITS FALSE NEIGHBOUR: 'it returns false'. Refute it at one input. -/
def declContentWrong : ChangeSpec := { name := "declContent", fn := fun _ => fun
  | [d] => { results := [.lit (.bool false)], args := [d] }
  | _ => none }
def DeclContentWrongFalsely : Prop := declContentRow.holds Tryz.pinned (OpenSpec.ofChange declContentWrong)

/- THE SECOND FORM. 'bulk': how many values and letters a reading holds, each counted each time it is reached (what is shared counts as often as it is met; a slice's spare places count too). A statement '..UptoSaid' is the law's where the arguments, and the package variables that the reading takes, are together of bulk at most 1048576: NARROWER than '..Said'. Prove '..Said' where nothing that the law and all that it calls make is longer than what came in: it says more and counts as full. Else prove '..UptoSaid'. A law counts once. -/
mutual
def uptoBulk {H : Type} : DataW H → Nat
  | .lit (.string bytes) => bytes.length + 1
  | .lit _ => 1
  | .nil => 1
  | .ptr d => uptoBulk d + 1
  | .slice elems spare => uptoBulkAll elems + uptoBulkAll spare + 1
  | .agg parts => uptoBulkAll parts + 1
  | .iface _ d => uptoBulk d + 1
  | .map entries => uptoBulkEntries entries + 1
  | .held _ => 1
def uptoBulkAll {H : Type} : List (DataW H) → Nat
  | [] => 0
  | d :: r => uptoBulk d + uptoBulkAll r
def uptoBulkEntries {H : Type} : List (Lit × DataW H) → Nat
  | [] => 0
  | x :: r => uptoBulkEntry x + uptoBulkEntries r
def uptoBulkEntry {H : Type} : Lit × DataW H → Nat
  | (.string bytes, d) => bytes.length + uptoBulk d + 1
  | (_, d) => uptoBulk d + 1
 end
def uptoSmall : (H : Type) → List (DataW H) → Bool := fun _ ds => decide (uptoBulkAll ds ≤ 1048576)
def OpenSpec.upto (s : _root_.Go.ChangeSpec) : _root_.Go.OpenSpec := { _root_.Go.OpenSpec.ofChange s with cond := some uptoSmall }

/-- 'rubriclaw15.DeclBlanks', WHERE WHAT IT READS IS OF BULK AT MOST 1048576: true; the input reads as it did. -/
def declBlanksUptoRow : OpenClaim := { program := "ytdmbfngenffcaaagreat", sum := "4ac2cc15de04fd0232c2c16b293a89f63041ad38bbb44fabc90f76e873ebda2d", func := "rubric/rubriclaw15.DeclBlanks", spec := "declBlanks", inPlace := ["internal/bytealg.IndexByteString", "internal/bytealg.IndexString"], unfollowed := true, recurses := true, named := ["internal/bytealg.MaxLen"], apart := false, narrowed := true }
def DeclBlanksUptoSaid : Prop := declBlanksUptoRow.holds Tryz.pinned (OpenSpec.upto declBlanksSpec)

/-- 'rubriclaw15.DeclContent', WHERE WHAT IT READS IS OF BULK AT MOST 1048576: true; the input reads as it did. -/
def declContentUptoRow : OpenClaim := { program := "ytdmbfngenffcaaagreat", sum := "4ac2cc15de04fd0232c2c16b293a89f63041ad38bbb44fabc90f76e873ebda2d", func := "rubric/rubriclaw15.DeclContent", spec := "declContent", inPlace := ["internal/bytealg.IndexByteString", "internal/bytealg.IndexString"], unfollowed := true, recurses := true, named := ["internal/bytealg.MaxLen"], apart := false, narrowed := true }
def DeclContentUptoSaid : Prop := declContentUptoRow.holds Tryz.pinned (OpenSpec.upto declContentSpec)

end Rows
end Go.Proofs.YtdmbfngenffcaaaGreat
