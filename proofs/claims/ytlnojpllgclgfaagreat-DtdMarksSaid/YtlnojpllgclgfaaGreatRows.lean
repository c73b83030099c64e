/-
  No cell of these rows narrows 'for every input' (looked for: loops, veiled, ifaces, maps, wideKeys, modest, calm, conditions, laid).
  DERIVED. THE GIVEN ROWS OF THIS SEAT. 3 by the template 'for every input the law returns true; each argument reads behind the call as it read before'; 0 by the template 'total and deterministic' (their statements: YtlnojpllgclgfaaGreatTotals.lean).
  GIVEN WITH THE SEED: the statements are not yours to turn. If you find one false, say at which input.
  Laid BY PROGRAM, IN A SANDBOX (cutbox-rows.mjs): the forced cells as the released guide's own fill.sh prints them over the translation 5c74587f72b65483… (all of the seat's roots in one cut). By AI agents, Wed Nov 11 2026. No macro, syntax, notation, axiom, sorry.
-/
import Derived.Test.YtlnojpllgclgfaaGreatChecked
import GoSem.Claim
import GoSem.ClaimJoined
import GoSem.ClaimMapViews
import Derived.JoinedTies
import Derived.KernelRfl
namespace Go.Proofs.YtlnojpllgclgfaaGreat
/- THE CELL 'sum', in the pinned program and in every row, IS THE sha256 OF THE DUMP (.gsa) THAT YtlnojpllgclgfaaGreatProg.lean LOADS. Nothing in Lean hashes anything: it is a label: what it is worth is what the hold of that sum in a sandbox is worth. -/
noncomputable def Tryz.pinned : Pinned := { name := "ytlnojpllgclgfaagreat", sum := "5c74587f72b65483082e8f45726a5f5b15f8615a50a6313af59364e0fcc302eb", checked := Tryz.checked }
namespace Rows
def none {H : Type} : Left H := { results := [], args := [] }

/-- 'rubriclaw16.DtdMarks': WHATEVER THE INPUT: true; the input reads as it did. -/
def dtdMarksSpec : ChangeSpec := { name := "dtdMarks", fn := fun _ => fun
  | [d1, d2, d3] => { results := [.lit (.bool true)], args := [d1, d2, d3] }
  | _ => none }
def dtdMarksRow : OpenClaim := { program := "ytlnojpllgclgfaagreat", sum := "5c74587f72b65483082e8f45726a5f5b15f8615a50a6313af59364e0fcc302eb", func := "rubric/rubriclaw16.DtdMarks", spec := "dtdMarks", inPlace := ["internal/bytealg.IndexByteString", "internal/bytealg.IndexString"], unfollowed := true, recurses := true, named := ["internal/bytealg.MaxLen"], plainKeys := false, apart := false }
def DtdMarksSaid : Prop := dtdMarksRow.holds Tryz.pinned (OpenSpec.ofChange dtdMarksSpec)

/-- ITS FALSE NEIGHBOUR: 'it returns false'. Refute it at one input. -/
def dtdMarksWrong : ChangeSpec := { name := "dtdMarks", fn := fun _ => fun
  | [d1, d2, d3] => { results := [.lit (.bool false)], args := [d1, d2, d3] }
  | _ => none }
def DtdMarksWrongFalsely : Prop := dtdMarksRow.holds Tryz.pinned (OpenSpec.ofChange dtdMarksWrong)

/-- 'rubriclaw17.ExpandNil': WHATEVER THE INPUT: true; the input reads as it did. -/
def expandNilSpec : ChangeSpec := { name := "expandNil", fn := fun _ => fun
  | [d] => { results := [.lit (.bool true)], args := [d] }
  | _ => none }
def expandNilRow : OpenClaim := { program := "ytlnojpllgclgfaagreat", sum := "5c74587f72b65483082e8f45726a5f5b15f8615a50a6313af59364e0fcc302eb", func := "rubric/rubriclaw17.ExpandNil", spec := "expandNil", inPlace := ["internal/bytealg.IndexByteString", "internal/bytealg.IndexString"], unfollowed := true, recurses := true, named := ["internal/bytealg.MaxLen"], plainKeys := false, apart := false }
def ExpandNilSaid : Prop := expandNilRow.holds Tryz.pinned (OpenSpec.ofChange expandNilSpec)

/-- ITS FALSE NEIGHBOUR: 'it returns false'. Refute it at one input. -/
def expandNilWrong : ChangeSpec := { name := "expandNil", fn := fun _ => fun
  | [d] => { results := [.lit (.bool false)], args := [d] }
  | _ => none }
def ExpandNilWrongFalsely : Prop := expandNilRow.holds Tryz.pinned (OpenSpec.ofChange expandNilWrong)

/-- 'rubriclaw16.DtdNil': WHATEVER THE INPUT: true; the input reads as it did. -/
def dtdNilSpec : ChangeSpec := { name := "dtdNil", fn := fun _ => fun
  | [d] => { results := [.lit (.bool true)], args := [d] }
  | _ => none }
def dtdNilRow : OpenClaim := { program := "ytlnojpllgclgfaagreat", sum := "5c74587f72b65483082e8f45726a5f5b15f8615a50a6313af59364e0fcc302eb", func := "rubric/rubriclaw16.DtdNil", spec := "dtdNil", inPlace := ["internal/bytealg.IndexByteString", "internal/bytealg.IndexString"], unfollowed := true, recurses := true, named := ["internal/bytealg.MaxLen"], plainKeys := false, apart := false }
def DtdNilSaid : Prop := dtdNilRow.holds Tryz.pinned (OpenSpec.ofChange dtdNilSpec)

/-- ITS FALSE NEIGHBOUR: 'it returns false'. Refute it at one input. -/
def dtdNilWrong : ChangeSpec := { name := "dtdNil", fn := fun _ => fun
  | [d] => { results := [.lit (.bool false)], args := [d] }
  | _ => none }
def DtdNilWrongFalsely : Prop := dtdNilRow.holds Tryz.pinned (OpenSpec.ofChange dtdNilWrong)

/- THE SECOND FORM. 'bulk': how many values and letters a reading holds, each counted each time it is reached (what is shared counts as often as it is met; a slice's spare places count too). A statement '..UptoSaid' is the law's where the arguments, and the package variables that the reading takes, are together of bulk at most 1048576: NARROWER than '..Said'. Prove '..Said' where nothing that the law and all that it calls make is longer than what came in: it says more and counts as full. Else prove '..UptoSaid'. A law counts once. -/
mutual
def uptoBulk {H : Type} : DataW H → Nat
  | .lit (.string bytes) => bytes.length + 1
  | .lit _ => 1
  | .nil => 1
  | .ptr d => uptoBulk d + 1
  | .slice elems spare => uptoBulkAll elems + uptoBulkAll spare + 1
  | .agg parts => uptoBulkAll parts + 1
  | .iface _ d => uptoBulk d + 1
  | .map entries => uptoBulkEntries entries + 1
  | .held _ => 1
def uptoBulkAll {H : Type} : List (DataW H) → Nat
  | [] => 0
  | d :: r => uptoBulk d + uptoBulkAll r
def uptoBulkEntries {H : Type} : List (Lit × DataW H) → Nat
  | [] => 0
  | x :: r => uptoBulkEntry x + uptoBulkEntries r
def uptoBulkEntry {H : Type} : Lit × DataW H → Nat
  | (.string bytes, d) => bytes.length + uptoBulk d + 1
  | (_, d) => uptoBulk d + 1
 end
def uptoSmall : (H : Type) → List (DataW H) → Bool := fun _ ds => decide (uptoBulkAll ds ≤ 1048576)
def OpenSpec.upto (s : _root_.Go.ChangeSpec) : _root_.Go.OpenSpec := { _root_.Go.OpenSpec.ofChange s with cond := some uptoSmall }

/-- 'rubriclaw16.DtdMarks', WHERE WHAT IT READS IS OF BULK AT MOST 1048576: true; the input reads as it did. -/
def dtdMarksUptoRow : OpenClaim := { program := "ytlnojpllgclgfaagreat", sum := "5c74587f72b65483082e8f45726a5f5b15f8615a50a6313af59364e0fcc302eb", func := "rubric/rubriclaw16.DtdMarks", spec := "dtdMarks", inPlace := ["internal/bytealg.IndexByteString", "internal/bytealg.IndexString"], unfollowed := true, recurses := true, named := ["internal/bytealg.MaxLen"], plainKeys := false, apart := false, narrowed := true }
def DtdMarksUptoSaid : Prop := dtdMarksUptoRow.holds Tryz.pinned (OpenSpec.upto dtdMarksSpec)

/-- 'rubriclaw17.ExpandNil', WHERE WHAT IT READS IS OF BULK AT MOST 1048576: true; the input reads as it did. -/
def expandNilUptoRow : OpenClaim := { program := "ytlnojpllgclgfaagreat", sum := "5c74587f72b65483082e8f45726a5f5b15f8615a50a6313af59364e0fcc302eb", func := "rubric/rubriclaw17.ExpandNil", spec := "expandNil", inPlace := ["internal/bytealg.IndexByteString", "internal/bytealg.IndexString"], unfollowed := true, recurses := true, named := ["internal/bytealg.MaxLen"], plainKeys := false, apart := false, narrowed := true }
def ExpandNilUptoSaid : Prop := expandNilUptoRow.holds Tryz.pinned (OpenSpec.upto expandNilSpec)

/-- 'rubriclaw16.DtdNil', WHERE WHAT IT READS IS OF BULK AT MOST 1048576: true; the input reads as it did. -/
def dtdNilUptoRow : OpenClaim := { program := "ytlnojpllgclgfaagreat", sum := "5c74587f72b65483082e8f45726a5f5b15f8615a50a6313af59364e0fcc302eb", func := "rubric/rubriclaw16.DtdNil", spec := "dtdNil", inPlace := ["internal/bytealg.IndexByteString", "internal/bytealg.IndexString"], unfollowed := true, recurses := true, named := ["internal/bytealg.MaxLen"], plainKeys := false, apart := false, narrowed := true }
def DtdNilUptoSaid : Prop := dtdNilUptoRow.holds Tryz.pinned (OpenSpec.upto dtdNilSpec)

end Rows
end Go.Proofs.YtlnojpllgclgfaaGreat
