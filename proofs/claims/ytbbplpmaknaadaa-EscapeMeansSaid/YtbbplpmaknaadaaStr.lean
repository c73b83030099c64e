/-
  Runes as a text; a row of numbers that came in. Plain lemmas.
-/
import Derived.Test.YtbbplpmaknaadaaOwn
import Derived.Laws.Cover4
import Derived.OpenShut
namespace Go.Proofs.Ytbbplpmaknaadaa
open Go.RowKit

theorem run_runes_string {P : Program} {w : World} {S : Nat → Prop} {A : Option Addr} {n c : Nat} {l : List Int} (h : Rd w S 1 A n c (rc l)) (src dst e : TypeId)
    (hs : P.underlying src = some (.slice e)) (he : P.underlying e = some (.int .i32)) (hd : P.underlying dst = some .string) :
    (convert src dst (.slice A n c)).run P w = .ok (.string (runesBytes l)) w := by
  have hn : n = l.length := by have := h.len; simpa using this.symm
  subst hn
  rcases A with _ | ad
  · rw [run_convert_runes_nil w src dst e _ _ hs he hd]
    have := h.nil rfl
    have := h.le
    have : l = [] := List.eq_nil_of_length_eq_zero (by omega)
    subst this
    rfl
  · cases hl : l with
    | nil =>
      rw [run_convert_runes_string w src dst e _ _ _ hs he hd, run_runesToString w ad [].length c []]
      rfl
    | cons a t =>
      obtain ⟨b, o, ha, _, hc⟩ := h.at_ (by rw [hl]; simp)
      injection ha with ha
      subst ha
      have := run_convert_runes (P := P) w src dst e ⟨b, o, none⟩ l.length c l (Nat.le_refl _) hs he hd (fun j hj => by
        rw [Addr.add_lit]
        exact hc j _ (by simp [rc, List.getD, hj]))
      rw [List.take_length] at this
      rw [← hl]
      exact this

theorem rd_of_row {k : IntKind} {w : World} {a : Option Addr} {len cap : Nat} {zs : List Int}
    (h : (a = none ∧ len = 0 ∧ cap = 0 ∧ zs = []) ∨ ∃ x, a = some x ∧ len ≤ cap ∧ cap ≤ maxLen ∧ zs.length = cap ∧ (∀ i, i < zs.length → w.cell? (x.add i) = some (.int k (zs.getD i 0))) ∧ ∀ n ∈ zs, (Lit.int k n).wf = true) :
    Rd w (fun b => b < w.heap.size) 1 a len cap ((zs.take len).map (Value.int k)) ∧ ∀ n ∈ zs.take len, (Lit.int k n).wf = true := by
  rcases h with ⟨rfl, rfl, rfl, rfl⟩ | ⟨x, rfl, h1, h2, h3, h4, h5⟩
  · exact ⟨Rd.none_, by simp⟩
  · refine ⟨⟨by simp; omega, h1, h2, (fun h => by cases h), fun h0 => ?_⟩, fun n hn => h5 n (List.mem_of_mem_take hn)⟩
    obtain ⟨b, off, rfl, hc⟩ := ints_at h4 (by omega)
    have hlt : b < w.heap.size := World.block_lt_of_cell? w _ (hc 0 (by omega))
    refine ⟨b, off, rfl, hlt, fun j u hu => ?_⟩
    rw [List.getElem?_map, Option.map_eq_some_iff] at hu
    obtain ⟨z, hz, rfl⟩ := hu
    rw [List.getElem?_take] at hz
    split at hz
    · obtain ⟨hj, rfl⟩ := List.getElem?_eq_some_iff.1 hz
      rw [hc j hj]
      simp [List.getD, hj]
    · cases hz

end Go.Proofs.Ytbbplpmaknaadaa
