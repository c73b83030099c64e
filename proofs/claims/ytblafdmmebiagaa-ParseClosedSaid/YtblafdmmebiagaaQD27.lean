/-
  Parts of the proof, joined: Lt. Conditions: as each theorem says.
-/
import Derived.Test.YtblafdmmebiagaaQD26
namespace Go.Proofs.Ytblafdmmebiagaa
open Go.RowKit Go.Lib
theorem CurB.pr {l : List Node} {b : List UInt8} {C : Nat} {c : Cur} (ha : Ar l) (hl : l.length ≤ 1000000000) (hb : b.length ≤ 1000000) (hC : C ≤ 1000000) (h : CurB l b C c) : PrOk l c.n := by
  refine ⟨hl, ha.wf, ha.wide, h.1.h0, h.1.h1, ?_, by have := h.1.co; omega⟩
  obtain ⟨pre, post, e1, _⟩ := h.2
  have := congrArg List.length e1
  simp only [List.length_append] at this
  omega
theorem walkGo_len (l : List Node) : ∀ (n : Nat) (st : List Cur), (walkGo l n st).length ≤ n
  | 0, _ => Nat.le_refl _
  | n + 1, st => by
    unfold walkGo
    cases st.getLast? with
    | none => exact Nat.zero_le _
    | some x => simp only [List.length_cons]; have := walkGo_len l n (st.dropLast ++ downs l x (kidsAt l x).length); omega
end Go.Proofs.Ytblafdmmebiagaa
