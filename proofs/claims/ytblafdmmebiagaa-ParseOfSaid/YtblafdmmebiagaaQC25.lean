/-
  Parts of the proof, joined: Lt. Conditions: as each theorem says.
-/
import Derived.Test.YtblafdmmebiagaaQC24
namespace Go.Proofs.Ytblafdmmebiagaa
open Go.RowKit Go.Lib
theorem CurB.pr {l : List Node} {b : List UInt8} {C : Nat} {c : Cur} (ha : Ar l) (hl : l.length ≤ 1000000000) (hb : b.length ≤ 1000000) (hC : C ≤ 1000000) (h : CurB l b C c) : PrOk l c.n := by
  refine ⟨hl, ha.wf, ha.wide, h.1.h0, h.1.h1, ?_, by have := h.1.co; omega⟩
  obtain ⟨pre, post, e1, _⟩ := h.2
  have := congrArg List.length e1
  simp only [List.length_append] at this
  omega
end Go.Proofs.Ytblafdmmebiagaa
