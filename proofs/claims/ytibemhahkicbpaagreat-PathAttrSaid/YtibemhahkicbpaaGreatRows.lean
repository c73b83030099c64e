/-
  No cell of these rows narrows 'for every input' (looked for: loops, veiled, ifaces, maps, wideKeys, modest, calm, conditions, laid).
  DERIVED. THE GIVEN ROWS OF THIS SEAT. 8 by the template 'for every input the law returns true; each argument reads behind the call as it read before'; 0 by the template 'total and deterministic' (their statements: YtibemhahkicbpaaGreatTotals.lean).
  GIVEN WITH THE SEED: the statements are not yours to turn. If you find one false, say at which input.
  Laid BY PROGRAM, IN A SANDBOX (cutbox-rows.mjs): the forced cells as the released guide's own fill.sh prints them over the translation 1172b94fe86a5cc4… (all of the seat's roots in one cut). By AI agents, Wed Nov 11 2026. No macro, syntax, notation, axiom, sorry.
-/
import Derived.Test.YtibemhahkicbpaaGreatChecked
import GoSem.Claim
import GoSem.ClaimJoined
import GoSem.ClaimMapViews
import Derived.JoinedTies
import Derived.KernelRfl
namespace Go.Proofs.YtibemhahkicbpaaGreat
/- THE CELL 'sum', in the pinned program and in every row, IS THE sha256 OF THE DUMP (.gsa) THAT YtibemhahkicbpaaGreatProg.lean LOADS. Nothing in Lean hashes anything: it is a label: what it is worth is what the hold of that sum in a sandbox is worth. -/
noncomputable def Tryz.pinned : Pinned := { name := "ytibemhahkicbpaagreat", sum := "1172b94fe86a5cc4906b58cc5c8abac3e3304a9f52d84a2ddda4d4b774a58595", checked := Tryz.checked }
namespace Rows
def none {H : Type} : Left H := { results := [], args := [] }

/-- 'rubriclaw22.PathAttr': WHATEVER THE INPUT: true; the input reads as it did. -/
def pathAttrSpec : ChangeSpec := { name := "pathAttr", fn := fun _ => fun
  | [d1, d2, d3] => { results := [.lit (.bool true)], args := [d1, d2, d3] }
  | _ => none }
def pathAttrRow : OpenClaim := { program := "ytibemhahkicbpaagreat", sum := "1172b94fe86a5cc4906b58cc5c8abac3e3304a9f52d84a2ddda4d4b774a58595", func := "rubric/rubriclaw22.PathAttr", spec := "pathAttr", inPlace := ["internal/abi.NoEscape", "internal/bytealg.MakeNoZero"], unfollowed := true, recurses := true, apart := false }
def PathAttrSaid : Prop := pathAttrRow.holds Tryz.pinned (OpenSpec.ofChange pathAttrSpec)

/-- ITS FALSE NEIGHBOUR: 'it returns false'. Refute it at one input. -/
def pathAttrWrong : ChangeSpec := { name := "pathAttr", fn := fun _ => fun
  | [d1, d2, d3] => { results := [.lit (.bool false)], args := [d1, d2, d3] }
  | _ => none }
def PathAttrWrongFalsely : Prop := pathAttrRow.holds Tryz.pinned (OpenSpec.ofChange pathAttrWrong)

/-- 'rubriclaw22.PathElem': WHATEVER THE INPUT: true; the input reads as it did. -/
def pathElemSpec : ChangeSpec := { name := "pathElem", fn := fun _ => fun
  | [d1, d2] => { results := [.lit (.bool true)], args := [d1, d2] }
  | _ => none }
def pathElemRow : OpenClaim := { program := "ytibemhahkicbpaagreat", sum := "1172b94fe86a5cc4906b58cc5c8abac3e3304a9f52d84a2ddda4d4b774a58595", func := "rubric/rubriclaw22.PathElem", spec := "pathElem", inPlace := ["internal/abi.NoEscape", "internal/bytealg.MakeNoZero"], unfollowed := true, recurses := true, apart := false }
def PathElemSaid : Prop := pathElemRow.holds Tryz.pinned (OpenSpec.ofChange pathElemSpec)

/-- ITS FALSE NEIGHBOUR: 'it returns false'. Refute it at one input. -/
def pathElemWrong : ChangeSpec := { name := "pathElem", fn := fun _ => fun
  | [d1, d2] => { results := [.lit (.bool false)], args := [d1, d2] }
  | _ => none }
def PathElemWrongFalsely : Prop := pathElemRow.holds Tryz.pinned (OpenSpec.ofChange pathElemWrong)

/-- 'rubriclaw22.PathAll': WHATEVER THE INPUT: true; the input reads as it did. -/
def pathAllSpec : ChangeSpec := { name := "pathAll", fn := fun _ => fun
  | [d] => { results := [.lit (.bool true)], args := [d] }
  | _ => none }
def pathAllRow : OpenClaim := { program := "ytibemhahkicbpaagreat", sum := "1172b94fe86a5cc4906b58cc5c8abac3e3304a9f52d84a2ddda4d4b774a58595", func := "rubric/rubriclaw22.PathAll", spec := "pathAll", inPlace := ["internal/abi.NoEscape", "internal/bytealg.MakeNoZero"], unfollowed := true, recurses := true, apart := false }
def PathAllSaid : Prop := pathAllRow.holds Tryz.pinned (OpenSpec.ofChange pathAllSpec)

/-- ITS FALSE NEIGHBOUR: 'it returns false'. Refute it at one input. -/
def pathAllWrong : ChangeSpec := { name := "pathAll", fn := fun _ => fun
  | [d] => { results := [.lit (.bool false)], args := [d] }
  | _ => none }
def PathAllWrongFalsely : Prop := pathAllRow.holds Tryz.pinned (OpenSpec.ofChange pathAllWrong)

/-- 'rubriclaw33.AuditCounts': WHATEVER THE INPUT: true; the input reads as it did. -/
def auditCountsSpec : ChangeSpec := { name := "auditCounts", fn := fun _ => fun
  | [d] => { results := [.lit (.bool true)], args := [d] }
  | _ => none }
def auditCountsRow : OpenClaim := { program := "ytibemhahkicbpaagreat", sum := "1172b94fe86a5cc4906b58cc5c8abac3e3304a9f52d84a2ddda4d4b774a58595", func := "rubric/rubriclaw33.AuditCounts", spec := "auditCounts", inPlace := ["internal/abi.NoEscape", "internal/bytealg.IndexByteString", "internal/bytealg.IndexString"], unfollowed := true, recurses := true, named := ["internal/bytealg.MaxLen"], apart := false }
def AuditCountsSaid : Prop := auditCountsRow.holds Tryz.pinned (OpenSpec.ofChange auditCountsSpec)

/-- ITS FALSE NEIGHBOUR: 'it returns false'. Refute it at one input. -/
def auditCountsWrong : ChangeSpec := { name := "auditCounts", fn := fun _ => fun
  | [d] => { results := [.lit (.bool false)], args := [d] }
  | _ => none }
def AuditCountsWrongFalsely : Prop := auditCountsRow.holds Tryz.pinned (OpenSpec.ofChange auditCountsWrong)

/-- 'rubriclaw33.AuditSums': WHATEVER THE INPUT: true; the input reads as it did. -/
def auditSumsSpec : ChangeSpec := { name := "auditSums", fn := fun _ => fun
  | [d] => { results := [.lit (.bool true)], args := [d] }
  | _ => none }
def auditSumsRow : OpenClaim := { program := "ytibemhahkicbpaagreat", sum := "1172b94fe86a5cc4906b58cc5c8abac3e3304a9f52d84a2ddda4d4b774a58595", func := "rubric/rubriclaw33.AuditSums", spec := "auditSums", inPlace := ["internal/abi.NoEscape", "internal/bytealg.IndexByteString", "internal/bytealg.IndexString"], unfollowed := true, recurses := true, named := ["internal/bytealg.MaxLen"], apart := false }
def AuditSumsSaid : Prop := auditSumsRow.holds Tryz.pinned (OpenSpec.ofChange auditSumsSpec)

/-- ITS FALSE NEIGHBOUR: 'it returns false'. Refute it at one input. -/
def auditSumsWrong : ChangeSpec := { name := "auditSums", fn := fun _ => fun
  | [d] => { results := [.lit (.bool false)], args := [d] }
  | _ => none }
def AuditSumsWrongFalsely : Prop := auditSumsRow.holds Tryz.pinned (OpenSpec.ofChange auditSumsWrong)

/-- 'rubriclaw33.AuditHolds': WHATEVER THE INPUT: true; the input reads as it did. -/
def auditHoldsSpec : ChangeSpec := { name := "auditHolds", fn := fun _ => fun
  | [d] => { results := [.lit (.bool true)], args := [d] }
  | _ => none }
def auditHoldsRow : OpenClaim := { program := "ytibemhahkicbpaagreat", sum := "1172b94fe86a5cc4906b58cc5c8abac3e3304a9f52d84a2ddda4d4b774a58595", func := "rubric/rubriclaw33.AuditHolds", spec := "auditHolds", inPlace := ["internal/abi.NoEscape", "internal/bytealg.IndexByteString", "internal/bytealg.IndexString"], unfollowed := true, recurses := true, named := ["internal/bytealg.MaxLen"], apart := false }
def AuditHoldsSaid : Prop := auditHoldsRow.holds Tryz.pinned (OpenSpec.ofChange auditHoldsSpec)

/-- ITS FALSE NEIGHBOUR: 'it returns false'. Refute it at one input. -/
def auditHoldsWrong : ChangeSpec := { name := "auditHolds", fn := fun _ => fun
  | [d] => { results := [.lit (.bool false)], args := [d] }
  | _ => none }
def AuditHoldsWrongFalsely : Prop := auditHoldsRow.holds Tryz.pinned (OpenSpec.ofChange auditHoldsWrong)

/-- 'rubriclaw33.AuditText': WHATEVER THE INPUT: true; the input reads as it did. -/
def auditTextSpec : ChangeSpec := { name := "auditText", fn := fun _ => fun
  | [d] => { results := [.lit (.bool true)], args := [d] }
  | _ => none }
def auditTextRow : OpenClaim := { program := "ytibemhahkicbpaagreat", sum := "1172b94fe86a5cc4906b58cc5c8abac3e3304a9f52d84a2ddda4d4b774a58595", func := "rubric/rubriclaw33.AuditText", spec := "auditText", inPlace := ["internal/abi.NoEscape", "internal/bytealg.IndexByteString", "internal/bytealg.IndexString"], unfollowed := true, recurses := true, named := ["internal/bytealg.MaxLen"], apart := false }
def AuditTextSaid : Prop := auditTextRow.holds Tryz.pinned (OpenSpec.ofChange auditTextSpec)

/-- ITS FALSE NEIGHBOUR: 'it returns false'. Refute it at one input. -/
def auditTextWrong : ChangeSpec := { name := "auditText", fn := fun _ => fun
  | [d] => { results := [.lit (.bool false)], args := [d] }
  | _ => none }
def AuditTextWrongFalsely : Prop := auditTextRow.holds Tryz.pinned (OpenSpec.ofChange auditTextWrong)

/-- 'rubriclaw33.AuditNames': WHATEVER THE INPUT: true; the input reads as it did. -/
def auditNamesSpec : ChangeSpec := { name := "auditNames", fn := fun _ => fun
  | [d] => { results := [.lit (.bool true)], args := [d] }
  | _ => none }
def auditNamesRow : OpenClaim := { program := "ytibemhahkicbpaagreat", sum := "1172b94fe86a5cc4906b58cc5c8abac3e3304a9f52d84a2ddda4d4b774a58595", func := "rubric/rubriclaw33.AuditNames", spec := "auditNames", inPlace := ["internal/abi.NoEscape", "internal/bytealg.IndexByteString", "internal/bytealg.IndexString"], unfollowed := true, recurses := true, named := ["internal/bytealg.MaxLen"], apart := false }
def AuditNamesSaid : Prop := auditNamesRow.holds Tryz.pinned (OpenSpec.ofChange auditNamesSpec)

/-- ITS FALSE NEIGHBOUR: 'it returns false'. Refute it at one input. -/
def auditNamesWrong : ChangeSpec := { name := "auditNames", fn := fun _ => fun
  | [d] => { results := [.lit (.bool false)], args := [d] }
  | _ => none }
def AuditNamesWrongFalsely : Prop := auditNamesRow.holds Tryz.pinned (OpenSpec.ofChange auditNamesWrong)

/- THE SECOND FORM. 'bulk': how many values and letters a reading holds, each counted each time it is reached (what is shared counts as often as it is met; a slice's spare places count too). A statement '..UptoSaid' is the law's where the arguments, and the package variables that the reading takes, are together of bulk at most 1048576: NARROWER than '..Said'. Prove '..Said' where nothing that the law and all that it calls make is longer than what came in: it says more and counts as full. Else prove '..UptoSaid'. A law counts once. -/
mutual
def uptoBulk {H : Type} : DataW H → Nat
  | .lit (.string bytes) => bytes.length + 1
  | .lit _ => 1
  | .nil => 1
  | .ptr d => uptoBulk d + 1
  | .slice elems spare => uptoBulkAll elems + uptoBulkAll spare + 1
  | .agg parts => uptoBulkAll parts + 1
  | .iface _ d => uptoBulk d + 1
  | .map entries => uptoBulkEntries entries + 1
  | .held _ => 1
def uptoBulkAll {H : Type} : List (DataW H) → Nat
  | [] => 0
  | d :: r => uptoBulk d + uptoBulkAll r
def uptoBulkEntries {H : Type} : List (Lit × DataW H) → Nat
  | [] => 0
  | x :: r => uptoBulkEntry x + uptoBulkEntries r
def uptoBulkEntry {H : Type} : Lit × DataW H → Nat
  | (.string bytes, d) => bytes.length + uptoBulk d + 1
  | (_, d) => uptoBulk d + 1
 end
def uptoSmall : (H : Type) → List (DataW H) → Bool := fun _ ds => decide (uptoBulkAll ds ≤ 1048576)
def OpenSpec.upto (s : _root_.Go.ChangeSpec) : _root_.Go.OpenSpec := { _root_.Go.OpenSpec.ofChange s with cond := some uptoSmall }

/-- 'rubriclaw22.PathAttr', WHERE WHAT IT READS IS OF BULK AT MOST 1048576: true; the input reads as it did. -/
def pathAttrUptoRow : OpenClaim := { program := "ytibemhahkicbpaagreat", sum := "1172b94fe86a5cc4906b58cc5c8abac3e3304a9f52d84a2ddda4d4b774a58595", func := "rubric/rubriclaw22.PathAttr", spec := "pathAttr", inPlace := ["internal/abi.NoEscape", "internal/bytealg.MakeNoZero"], unfollowed := true, recurses := true, apart := false, narrowed := true }
def PathAttrUptoSaid : Prop := pathAttrUptoRow.holds Tryz.pinned (OpenSpec.upto pathAttrSpec)

/-- 'rubriclaw22.PathElem', WHERE WHAT IT READS IS OF BULK AT MOST 1048576: true; the input reads as it did. -/
def pathElemUptoRow : OpenClaim := { program := "ytibemhahkicbpaagreat", sum := "1172b94fe86a5cc4906b58cc5c8abac3e3304a9f52d84a2ddda4d4b774a58595", func := "rubric/rubriclaw22.PathElem", spec := "pathElem", inPlace := ["internal/abi.NoEscape", "internal/bytealg.MakeNoZero"], unfollowed := true, recurses := true, apart := false, narrowed := true }
def PathElemUptoSaid : Prop := pathElemUptoRow.holds Tryz.pinned (OpenSpec.upto pathElemSpec)

/-- 'rubriclaw22.PathAll', WHERE WHAT IT READS IS OF BULK AT MOST 1048576: true; the input reads as it did. -/
def pathAllUptoRow : OpenClaim := { program := "ytibemhahkicbpaagreat", sum := "1172b94fe86a5cc4906b58cc5c8abac3e3304a9f52d84a2ddda4d4b774a58595", func := "rubric/rubriclaw22.PathAll", spec := "pathAll", inPlace := ["internal/abi.NoEscape", "internal/bytealg.MakeNoZero"], unfollowed := true, recurses := true, apart := false, narrowed := true }
def PathAllUptoSaid : Prop := pathAllUptoRow.holds Tryz.pinned (OpenSpec.upto pathAllSpec)

/-- 'rubriclaw33.AuditCounts', WHERE WHAT IT READS IS OF BULK AT MOST 1048576: true; the input reads as it did. -/
def auditCountsUptoRow : OpenClaim := { program := "ytibemhahkicbpaagreat", sum := "1172b94fe86a5cc4906b58cc5c8abac3e3304a9f52d84a2ddda4d4b774a58595", func := "rubric/rubriclaw33.AuditCounts", spec := "auditCounts", inPlace := ["internal/abi.NoEscape", "internal/bytealg.IndexByteString", "internal/bytealg.IndexString"], unfollowed := true, recurses := true, named := ["internal/bytealg.MaxLen"], apart := false, narrowed := true }
def AuditCountsUptoSaid : Prop := auditCountsUptoRow.holds Tryz.pinned (OpenSpec.upto auditCountsSpec)

/-- 'rubriclaw33.AuditSums', WHERE WHAT IT READS IS OF BULK AT MOST 1048576: true; the input reads as it did. -/
def auditSumsUptoRow : OpenClaim := { program := "ytibemhahkicbpaagreat", sum := "1172b94fe86a5cc4906b58cc5c8abac3e3304a9f52d84a2ddda4d4b774a58595", func := "rubric/rubriclaw33.AuditSums", spec := "auditSums", inPlace := ["internal/abi.NoEscape", "internal/bytealg.IndexByteString", "internal/bytealg.IndexString"], unfollowed := true, recurses := true, named := ["internal/bytealg.MaxLen"], apart := false, narrowed := true }
def AuditSumsUptoSaid : Prop := auditSumsUptoRow.holds Tryz.pinned (OpenSpec.upto auditSumsSpec)

/-- 'rubriclaw33.AuditHolds', WHERE WHAT IT READS IS OF BULK AT MOST 1048576: true; the input reads as it did. -/
def auditHoldsUptoRow : OpenClaim := { program := "ytibemhahkicbpaagreat", sum := "1172b94fe86a5cc4906b58cc5c8abac3e3304a9f52d84a2ddda4d4b774a58595", func := "rubric/rubriclaw33.AuditHolds", spec := "auditHolds", inPlace := ["internal/abi.NoEscape", "internal/bytealg.IndexByteString", "internal/bytealg.IndexString"], unfollowed := true, recurses := true, named := ["internal/bytealg.MaxLen"], apart := false, narrowed := true }
def AuditHoldsUptoSaid : Prop := auditHoldsUptoRow.holds Tryz.pinned (OpenSpec.upto auditHoldsSpec)

/-- 'rubriclaw33.AuditText', WHERE WHAT IT READS IS OF BULK AT MOST 1048576: true; the input reads as it did. -/
def auditTextUptoRow : OpenClaim := { program := "ytibemhahkicbpaagreat", sum := "1172b94fe86a5cc4906b58cc5c8abac3e3304a9f52d84a2ddda4d4b774a58595", func := "rubric/rubriclaw33.AuditText", spec := "auditText", inPlace := ["internal/abi.NoEscape", "internal/bytealg.IndexByteString", "internal/bytealg.IndexString"], unfollowed := true, recurses := true, named := ["internal/bytealg.MaxLen"], apart := false, narrowed := true }
def AuditTextUptoSaid : Prop := auditTextUptoRow.holds Tryz.pinned (OpenSpec.upto auditTextSpec)

/-- 'rubriclaw33.AuditNames', WHERE WHAT IT READS IS OF BULK AT MOST 1048576: true; the input reads as it did. -/
def auditNamesUptoRow : OpenClaim := { program := "ytibemhahkicbpaagreat", sum := "1172b94fe86a5cc4906b58cc5c8abac3e3304a9f52d84a2ddda4d4b774a58595", func := "rubric/rubriclaw33.AuditNames", spec := "auditNames", inPlace := ["internal/abi.NoEscape", "internal/bytealg.IndexByteString", "internal/bytealg.IndexString"], unfollowed := true, recurses := true, named := ["internal/bytealg.MaxLen"], apart := false, narrowed := true }
def AuditNamesUptoSaid : Prop := auditNamesUptoRow.holds Tryz.pinned (OpenSpec.upto auditNamesSpec)

end Rows
end Go.Proofs.YtibemhahkicbpaaGreat
