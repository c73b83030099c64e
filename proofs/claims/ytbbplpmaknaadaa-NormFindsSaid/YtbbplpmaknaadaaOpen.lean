/-
  What comes in: slices of texts, of rows of runes, of pairs: opened to the words of memory.
-/
import Derived.Test.YtbbplpmaknaadaaEscD
import Derived.Deep.Slices
import Derived.OpenShut
import Derived.DataReads
namespace Go.Proofs.Ytbbplpmaknaadaa
open Go.RowKit Go.Lib Go.ChangeShapes Go.WideShapes Go.Deep

theorem list_of {α : Type} (n : Nat) (p : Nat → α → Prop) (h : ∀ i, i < n → ∃ a, p i a) : ∃ l : List α, l.length = n ∧ ∀ i (hi : i < l.length), p i l[i] := by
  induction n with
  | zero => exact ⟨[], rfl, fun i hi => absurd hi (by simp)⟩
  | succ n ih =>
    obtain ⟨l, hl, hp⟩ := ih fun i hi => h i (by omega)
    obtain ⟨a, ha⟩ := h n (by omega)
    refine ⟨l ++ [a], by simp [hl], fun i hi => ?_⟩
    by_cases e : i < l.length
    · rw [List.getElem_append_left e]; exact hp i e
    · have e2 : i = n := by simp at hi; omega
      subst e2
      rw [List.getElem_append_right (by omega)]
      simpa [hl] using ha

section
variable {H : Type} {enc : TypeId × Value → H} {P : Program} {w : World} {base : Nat} {spare : Nat → Bool} {held : Bool}

theorem open_elems {t e : TypeId} {C fuel : Nat} {a0 : Option Addr} {len cap : Nat} {x : DataW H × List MemPlace} (ht : P.underlying t = some (.slice e)) (hC : P.cellsOf e = C) (hpos : 0 < C)
    (h : DataW.trod enc P w base spare held fuel t [.slice a0 len cap] = some x) :
    len ≤ cap ∧ cap ≤ maxLen ∧ (a0 = none → cap = 0) ∧ (0 < len → ∃ b off, a0 = some ⟨b, off, none⟩ ∧ b < w.heap.size ∧
      ∀ i, i < len → ∃ (cs' : List Value) (y : DataW H × List MemPlace) (n : Nat), DataW.trod enc P w base spare held n e cs' = some y ∧ cs'.length = C ∧ ∀ j, j < C → w.cell? ⟨b, off + (i * C + j), none⟩ = cs'[j]?) := by
  rcases open_slice ht h with ⟨h0, _⟩ | ⟨a, l, c, m, n, D, Pl, hcs, hb, hl, hm, hmm, _, hi⟩
  · injection h0 with h0
    injection h0 with e1 e2 e3
    subst e1 e2 e3
    exact ⟨Nat.le_refl _, Nat.zero_le _, fun _ => rfl, fun h => absurd h (by omega)⟩
  · injection hcs with hcs
    injection hcs with e1 e2 e3
    subst e1 e2 e3
    refine ⟨hl, hm, (fun h => by cases h), fun h0 => ?_⟩
    have hlm : len ≤ m := by rw [hmm]; split <;> omega
    obtain ⟨cs0, hc0, _⟩ := hi 0 (by omega)
    obtain ⟨_, hcl0, hat0⟩ := World.cells?_some hc0
    have h00 := hat0 0 (by omega)
    rw [List.getElem?_eq_getElem (by omega)] at h00
    obtain ⟨b, off, spot⟩ := a
    have hspot : spot = none := by simpa [Addr.add] using World.cell?_spot h00
    subst hspot
    rw [Addr.add_lit, Addr.add_lit] at h00
    refine ⟨b, off, rfl, World.block_lt_of_cell? w _ h00, fun i hil => ?_⟩
    obtain ⟨cs', hc, ht'⟩ := hi i (by omega)
    obtain ⟨_, hcl, hat⟩ := World.cells?_some hc
    rw [hC] at hcl hat
    refine ⟨cs', _, n, ht', hcl, fun j hj => ?_⟩
    have := hat j hj
    rw [Addr.add_lit, Addr.add_lit, Nat.add_assoc] at this
    exact this

theorem open_runes {t e : TypeId} {fuel : Nat} {v : Value} {x : DataW H × List MemPlace} (ht : P.underlying t = some (.slice e)) (he : P.underlying e = some (.int .i32)) (hc : P.cellsOf e = 1)
    (h : DataW.trod enc P w base spare held fuel t [v] = some x) : ∃ l, RunesV w v l := by
  rcases open_ints ht he hc h with ⟨h0, _⟩ | ⟨a, len, cap, zs, hcs, _, hl, hm, hz, _, hcell, hwz⟩
  · injection h0 with h0
    subst h0
    exact ⟨[], RunesV.nil_ w⟩
  · injection hcs with hcs
    subst hcs
    refine ⟨zs.take len, ?_⟩
    have hlz : len ≤ zs.length := by rw [hz]; split <;> omega
    refine .of_rd (S := fun _ => True) ⟨by simp [rc]; omega, hl, hm, (fun h => by cases h), fun h0 => ?_⟩
    obtain ⟨b, off, rfl, hat⟩ := ints_at hcell (by omega)
    refine ⟨b, off, rfl, trivial, fun j u hu => ?_⟩
    obtain ⟨hj, rfl⟩ := rc_get hu
    have hj2 : j < zs.length := by simp at hj; omega
    rw [hat j hj2]
    simp [List.getD, hj2]

theorem open_strings {t e : TypeId} {fuel : Nat} {a0 : Option Addr} {len cap : Nat} {x : DataW H × List MemPlace} (ht : P.underlying t = some (.slice e)) (he : P.underlying e = some .string) (hC : P.cellsOf e = 1)
    (h : DataW.trod enc P w base spare held fuel t [.slice a0 len cap] = some x) : ∃ ns : List ByteArray, Rd w (fun b => b < w.heap.size) 1 a0 len cap (ns.map Value.string) := by
  obtain ⟨h1, h2, h3, h4⟩ := open_elems ht hC (by omega) h
  by_cases h0 : 0 < len
  · obtain ⟨b, off, rfl, hb, hi⟩ := h4 h0
    obtain ⟨ns, hl, hp⟩ := list_of len (fun i s => w.cell? ⟨b, off + i, none⟩ = some (.string s)) fun i hil => by
      obtain ⟨cs', y, n, ht', hcl, hat⟩ := hi i hil
      obtain ⟨s, rfl, _⟩ := DataW.trod_string he ht'
      exact ⟨s, by simpa using hat 0 (by omega)⟩
    refine ⟨ns, by simp [hl], h1, h2, h3, fun _ => ⟨b, off, rfl, hb, fun j u hu => ?_⟩⟩
    rw [List.getElem?_map, Option.map_eq_some_iff] at hu
    obtain ⟨z, hz, rfl⟩ := hu
    obtain ⟨hj, rfl⟩ := List.getElem?_eq_some_iff.1 hz
    exact hp j hj
  · exact ⟨[], by simp; omega, h1, h2, h3, fun h => absurd h h0⟩

theorem pairCells_at : ∀ (ps : PairL) (vs : List Value) (j : Nat) (u : Value), (pairCells ps vs)[j]? = some u →
    ∃ i, ∃ (h : i < ps.length) (h2 : i < vs.length), (j = i * 2 ∧ u = .string ps[i].1) ∨ (j = i * 2 + 1 ∧ u = vs[i])
  | [], _, j, u, h => by simp [pairCells] at h
  | _ :: _, [], j, u, h => by simp [pairCells] at h
  | p :: ps, v :: vs, 0, u, h => by
    simp [pairCells] at h
    exact ⟨0, by simp, by simp, .inl ⟨rfl, h.symm⟩⟩
  | p :: ps, v :: vs, 1, u, h => by
    simp [pairCells] at h
    exact ⟨0, by simp, by simp, .inr ⟨rfl, h.symm⟩⟩
  | p :: ps, v :: vs, j + 2, u, h => by
    obtain ⟨i, h1, h2, h3⟩ := pairCells_at ps vs j u (by simpa [pairCells] using h)
    refine ⟨i + 1, by simpa using h1, by simpa using h2, ?_⟩
    rcases h3 with ⟨rfl, rfl⟩ | ⟨rfl, rfl⟩
    · exact .inl ⟨by omega, rfl⟩
    · exact .inr ⟨by omega, rfl⟩

theorem open_pairs {t e r : TypeId} {fs : Array Field} {f0 f1 : Field} {fuel : Nat} {a0 : Option Addr} {len cap : Nat} {x : DataW H × List MemPlace} (ht : P.underlying t = some (.slice e)) (he : P.underlying e = some (.struct fs)) (hC : P.cellsOf e = 2)
    (h0 : fs[0]? = some f0) (h1 : fs[1]? = some f1) (hsz : fs.size = 2) (o0 : f0.offset = 0) (o1 : f1.offset = 1) (c0 : P.cellsOf f0.type = 1) (c1 : P.cellsOf f1.type = 1) (u0 : P.underlying f0.type = some .string)
    (u1 : P.underlying f1.type = some (.slice r)) (ur : P.underlying r = some (.int .i32)) (cr : P.cellsOf r = 1)
    (h : DataW.trod enc P w base spare held fuel t [.slice a0 len cap] = some x) : ∃ (ps : PairL) (vs : List Value), PairsV w (fun b => b < w.heap.size) a0 len cap ps vs := by
  obtain ⟨k1, k2, k3, k4⟩ := open_elems ht hC (by omega) h
  by_cases hl0 : 0 < len
  · obtain ⟨b, off, rfl, hb, hi⟩ := k4 hl0
    obtain ⟨zs, hl, hp⟩ := list_of len (fun i (z : (ByteArray × List Int) × Value) => w.cell? ⟨b, off + i * 2, none⟩ = some (.string z.1.1) ∧ w.cell? ⟨b, off + (i * 2 + 1), none⟩ = some z.2 ∧ RunesV w z.2 z.1.2) fun i hil => by
      obtain ⟨cs', y, n, ht', hcl, hat⟩ := hi i hil
      obtain ⟨ys, n', _, _, _, hyl, hf⟩ := DataW.trod_struct he ht'
      obtain ⟨d0, d1, rfl⟩ : ∃ d0 d1, cs' = [d0, d1] := by
        match cs', hcl with
        | [d0, d1], _ => exact ⟨d0, d1, rfl⟩
      have g0 := hf 0 f0 h0
      have g1 := hf 1 f1 h1
      rw [o0, c0, List.getElem?_eq_getElem (by omega)] at g0
      rw [o1, c1, List.getElem?_eq_getElem (by omega)] at g1
      obtain ⟨s, hs, _⟩ := DataW.trod_string u0 g0
      obtain ⟨l, hv⟩ := open_runes u1 ur cr (v := d1) g1
      have hd0 : d0 = .string s := by simpa using hs
      subst hd0
      exact ⟨((s, l), d1), by simpa using hat 0 (by omega), by simpa using hat 1 (by omega), hv⟩
    refine ⟨zs.map (·.1), zs.map (·.2), ⟨by rw [pairCells_len _ _ (by simp)]; simp [hl], k1, k2, k3, fun _ => ⟨b, off, rfl, hb, fun j u hu => ?_⟩⟩, by simp, fun k hk hk2 => ?_⟩
    · obtain ⟨i, q1, q2, q3⟩ := pairCells_at _ _ j u hu
      have qi : i < zs.length := by simpa using q1
      obtain ⟨e1, e2, _⟩ := hp i qi
      rcases q3 with ⟨rfl, rfl⟩ | ⟨rfl, rfl⟩
      · simpa using e1
      · simpa using e2
    · have qi : k < zs.length := by simpa using hk
      obtain ⟨_, _, e3⟩ := hp k qi
      simpa using e3
  · refine ⟨[], [], ⟨by simp [pairCells]; omega, k1, k2, k3, fun h => absurd h hl0⟩, rfl, fun k hk _ => absurd hk (by simp)⟩
end

end Go.Proofs.Ytbbplpmaknaadaa
