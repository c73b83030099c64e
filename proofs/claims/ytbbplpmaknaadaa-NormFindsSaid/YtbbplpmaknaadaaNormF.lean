/-
  Layer 18 (norm): Find, and the statement NormFinds.
-/
import Derived.Test.YtbbplpmaknaadaaEscE
import Derived.Test.YtbbplpmaknaadaaNormB
import Derived.Deep.MidRow
import Derived.Deep.Upon
namespace Go.Proofs.Ytbbplpmaknaadaa
open Go.RowKit Go.Lib

theorem Try.info32 : (Try.prog.info? 32).map (fun i => (i.zero, i.size, i.bytes)) = some (some (.agg #[.string ByteArray.empty, .string ByteArray.empty, .slice none 0 0, .int .i64 0, .slice none 0 0]), 5, 88) := by kernel_rfl
/-- append onto a row of rubric/decl.Att -/
theorem append_atts (w : World) {ops : Array Oper} {rest : List Oper} {o : Oper} {a : Act} {Q : Exit → Act → World → Prop} (hgd : o.guard = none) (s x : Operand)
    (ho : o.op = .call { callee := .builtin .append, args := #[s, x], argTypes := #[30, 30] })
    (base : Nat) (v : Value) (n : Nat) (xs : List Value) (hs : a.eval s = v) (hown : w.ownsRow base 32 5 v n xs)
    (S : Nat → Prop) (A : Option Addr) (m c : Nat) (ys : List Value) (hx : a.eval x = .slice A m c) (hr : Rd w S 5 A m c ys) (h1 : ∀ u ∈ ys, u.oneCell' = true)
    (hlen : n + m ≤ 1000000000) (hbase : base ≤ w.heap.size)
    (h : ∀ A' c' w', w'.ownsRow base 32 5 (.slice A' (n + m) c') (n + m) (xs ++ ys) → w.grownBy w' v.ownBlock → ((Value.slice A' (n + m) c').ownBlock = v.ownBlock ∨ (Value.slice A' (n + m) c').ownBlock = some w.heap.size) →
      c' ≤ 9223372036854775807 → wpList Try.prog ops Q rest (a.put o.dst (.slice A' (n + m) c')) w') :
    wpList Try.prog ops Q (o :: rest) a w := by
  obtain ⟨i0, hi, hz0, hz1, hz2⟩ := info_parts Try.info32
  refine wpList_append_rd w hgd s x 30 ho base 32 i0 _ 5 88 Try.underlying30 hi hz0 hz1 hz2 rfl (by omega) v n xs hs hown S A m c ys hx hr h1 (by simp only [maxLen]; omega) (by omega) hbase ?_
  intro v' w' h1 h2 h3
  obtain ⟨A', c', rfl, hr'⟩ := own_form h1
  exact h A' c' w' h1 h2 h3 hr'.max


abbrev AttL := List (ByteArray × Nat)
def attRow (x : ByteArray × Nat) : List Value := [.string x.1, .string ⟨#[]⟩, .slice none 0 0, .int .i64 x.2, .slice none 0 0]
def attCells (l : AttL) : List Value := l.flatMap attRow
def attV (x : ByteArray × Nat) : Value := .agg #[.string x.1, .string ⟨#[]⟩, .slice none 0 0, .int .i64 x.2, .slice none 0 0]
theorem attCells_len (l : AttL) : (attCells l).length = l.length * 5 := by
  induction l with
  | nil => rfl
  | cons a t ih =>
    show (attRow a ++ attCells t).length = _
    rw [List.length_append, ih, List.length_cons, attRow]
    simp only [List.length_cons, List.length_nil]
    omega
theorem attCells_get (l : AttL) (k i : Nat) (h : k < l.length) (hi : i < 5) : (attCells l)[k * 5 + i]? = (attRow l[k])[i]? := by
  induction l generalizing k with
  | nil => simp at h
  | cons a t ih =>
    cases k with
    | zero =>
      show (attRow a ++ attCells t)[0 * 5 + i]? = _
      rw [List.getElem?_append_left (by simp [attRow]; omega)]
      simp
    | succ k =>
      show (attRow a ++ attCells t)[(k + 1) * 5 + i]? = _
      rw [List.getElem?_append_right (by simp [attRow]; omega), show (k + 1) * 5 + i - (attRow a).length = k * 5 + i by simp [attRow]; omega]
      exact ih k (by simpa using h)
theorem attCells_one (l : AttL) : ∀ u ∈ attCells l, u.oneCell' = true := by
  intro u hu
  simp only [attCells, List.mem_flatMap, attRow, List.mem_cons, List.not_mem_nil, or_false] at hu
  obtain ⟨x, _, rfl | rfl | rfl | rfl | rfl⟩ := hu <;> rfl
theorem attCells_append (a b : AttL) : attCells (a ++ b) = attCells a ++ attCells b := by simp [attCells]
theorem Rd.att {w : World} {S : Nat → Prop} {n c : Nat} {A : Option Addr} {l : AttL} (h : Rd w S 5 A n c (attCells l)) {k : Nat} (hk : k < l.length) :
    ∃ b u, A = some ⟨b, u, none⟩ ∧ w.cell? ⟨b, u + k * 5, none⟩ = some (.string l[k].1) ∧ w.cell? ⟨b, u + k * 5 + 1, none⟩ = some (.string ⟨#[]⟩) ∧ w.cell? ⟨b, u + k * 5 + 2, none⟩ = some (.slice none 0 0) ∧
      w.cell? ⟨b, u + k * 5 + 3, none⟩ = some (.int .i64 l[k].2) ∧ w.cell? ⟨b, u + k * 5 + 4, none⟩ = some (.slice none 0 0) := by
  have hl := h.len
  rw [attCells_len] at hl
  obtain ⟨b, u, e, _, hc⟩ := h.at_ (by omega)
  refine ⟨b, u, e, hc _ _ (attCells_get l k 0 hk (by omega)), hc _ _ (attCells_get l k 1 hk (by omega)), hc _ _ (attCells_get l k 2 hk (by omega)), hc _ _ (attCells_get l k 3 hk (by omega)), hc _ _ (attCells_get l k 4 hk (by omega))⟩

theorem results_cell {P : Program} {fn : Func} {t u : Tmp} {T : TypeId} {a : Addr} {v : Value} {w : World} (h : fn.results = #[.cell t T, .tmp u]) (tmps : Array Value)
    (ha : tmps.getD t undef = .pointer (some a)) (hl : (loadVar T a).run P w = .ok v w) : (results fn tmps).run P w = .ok (.tuple #[v, tmps.getD u undef]) w := by
  have ha' : tmps[t]?.getD undef = .pointer (some a) := by simpa using ha
  simp [results, h, ha', asAddr, hl]
theorem below_setCells {B : Nat} {w0 w : World} (h : Below B w0 w) (b : Nat) (hb : B ≤ b) (hB : B ≤ w.heap.size) (vs : List Value) (o : Nat) : Below B w0 (w.setCells b o vs) := by
  induction vs generalizing o w with
  | nil => exact h
  | cons v r ih => exact ih (h.setCell hb _) (by simpa [World.setCell] using hB) (o + 1)
theorem att_range (wr : World) (B : Nat) (x : ByteArray × Nat) (hth : wr.there B 0 5) : (wr.setCells B 0 (attRow x)).rangeAt B 0 (attRow x) := World.rangeAt_setCells_same wr B 0 (attRow x) hth
theorem att_range_alloc (wr : World) (B : Nat) (x : ByteArray × Nat) (o : Obj) (hB : B < wr.heap.size) (hth : wr.there B 0 5) : ((wr.setCells B 0 (attRow x)).alloc o).rangeAt B 0 (attRow x) := fun j v hv => by
  have hs : B < (wr.setCells B 0 (attRow x)).heap.size := by simpa [World.setCells, World.setCell, attRow] using hB
  rw [World.cell?_of_block (Below.heap_alloc _ o _ hs)]
  exact att_range wr B x hth j v hv
theorem att_load {P : Program} {T : TypeId} {d : TypeDesc} (w : World) (B : Nat) (x : ByteArray × Nat) (hu : P.underlying T = some d) (hd : d.isRow = true) (hi : (P.info? T).map (·.size) = some 5) (h : w.rangeAt B 0 (attRow x)) :
    (loadVar T ⟨B, 0, none⟩).run P w = .ok (attV x) w := run_loadVar_mid w B 0 T (attRow x) d h hu hd hi

set_option maxHeartbeats 6000000 in
set_option maxRecDepth 100000 in
theorem Find_any (S : Nat → Prop) (A : Option Addr) (n c : Nat) (l : AttL) (nm : ByteArray) (w : World) (hr : Rd w S 5 A n c (attCells l)) (_hn9 : l.length ≤ 1000000) :
    Calls Try.prog 18 #[.slice A n c, .string nm] w fun e w' =>
      e = .returned (.tuple #[attV ((l.find? (fun x => x.1.toList == nm.toList)).getD ((⟨#[]⟩ : ByteArray), 0)), .bool (l.find? (fun x => x.1.toList == nm.toList)).isSome]) ∧ Below w.heap.size w w' := by
  have hle := hr.le
  have hmx : c ≤ 9223372036854775807 := hr.max
  obtain rfl : n = l.length := by have := hr.len; rw [attCells_len] at this; omega
  have HR := Lib.hid hr
  clear hr
  go_enter Try.func18, Try.ntmps18
  go_wp2
  have HC0 : Hid (∀ i, i < 5 → (w.alloc (.cells #[.string ⟨#[]⟩, .string ⟨#[]⟩, .slice none 0 0, .int .i64 0, .slice none 0 0] 32)).cell? ⟨w.heap.size, i, none⟩ = (attRow ((⟨#[]⟩ : ByteArray), 0))[i]?) := by
    intro i hi
    rw [World.cell?_alloc_at _ _ _ _ rfl]
    match i, hi with
    | 0, _ => rfl
    | 1, _ => rfl
    | 2, _ => rfl
    | 3, _ => rfl
    | 4, _ => rfl
  have HF0 : Hid (∀ i, (w.alloc (.cells #[.string ⟨#[]⟩, .string ⟨#[]⟩, .slice none 0 0, .int .i64 0, .slice none 0 0] 32)).frozen? ⟨w.heap.size, i, none⟩ = false) := fun i => by simp
  have HR0 := Lib.hid (HR.out.alloc (.cells #[.string ⟨#[]⟩, .string ⟨#[]⟩, .slice none 0 0, .int .i64 0, .slice none 0 0] 32))
  have HB0 := Lib.hid (ba w (.cells #[.string ⟨#[]⟩, .string ⟨#[]⟩, .slice none 0 0, .int .i64 0, .slice none 0 0] 32))
  have hsz : (w.alloc (.cells #[.string ⟨#[]⟩, .string ⟨#[]⟩, .slice none 0 0, .int .i64 0, .slice none 0 0] 32)).heap.size = w.heap.size + 1 := by simp
  generalize w.alloc (.cells #[.string ⟨#[]⟩, .string ⟨#[]⟩, .slice none 0 0, .int .i64 0, .slice none 0 0] 32) = W0 at HC0 HF0 HR0 HB0 hsz
  have HSZ := Lib.hid hsz
  clear hsz
  go_loopw [10] (fun i wr => ∃ j : Nat, j ≤ l.length ∧ i = .int .i64 j ∧ Hid (Below W0.heap.size W0 wr) ∧ Hid ((l.take j).find? (fun x => x.1.toList == nm.toList) = none)) (fun i _ => l.length - (intOf i).toNat)
  case atStart => exact ⟨0, Nat.zero_le _, rfl, Below.refl _ _, rfl⟩
  case round =>
    obtain ⟨j, hj, rfl, HB, HJ⟩ := hrel
    have hcz : ∀ i, i < 5 → wr.cell? ⟨w.heap.size, i, none⟩ = (attRow ((⟨#[]⟩ : ByteArray), 0))[i]? := fun i hi => by
      rw [← HC0.out i hi]
      exact World.cell?_of_block (HB.out.block _ (by have := HSZ.out; show w.heap.size < _; omega))
    have hz0 : wr.cell? ⟨w.heap.size, 0, none⟩ = some (.string ⟨#[]⟩) := hcz 0 (by omega)
    have hz1 : wr.cell? ⟨w.heap.size, 1, none⟩ = some (.string ⟨#[]⟩) := hcz 1 (by omega)
    have hz2 : wr.cell? ⟨w.heap.size, 2, none⟩ = some (.slice none 0 0) := hcz 2 (by omega)
    have hz3 : wr.cell? ⟨w.heap.size, 3, none⟩ = some (.int .i64 0) := hcz 3 (by omega)
    have hz4 : wr.cell? ⟨w.heap.size, 4, none⟩ = some (.slice none 0 0) := hcz 4 (by omega)
    clear hcz
    by_cases hlt : j < l.length
    · obtain ⟨b, u, rfl, hc0, hc1, hc2, hc3, hc4⟩ := (HR0.out.below HB.out).att hlt
      cases hq : l[j].1.toList == nm.toList with
      | false =>
        have HJ2 : Hid ((l.take (j + 1)).find? (fun x => x.1.toList == nm.toList) = none) := by rw [Hid, List.take_succ_eq_append_getElem hlt, List.find?_append, HJ.out]; simp [hq]
        generalize l[j].1 = xn at hc0 hq
        generalize l[j].2 = xi at hc3
        go_wp2
        go_roundw
        case rel => exact ⟨j + 1, by omega, by go_num, bt HB.out (ba _ _), HJ2.out⟩
        case measure => simp [intOf]; omega
      | true =>
        have HE : Hid (l.find? (fun x => x.1.toList == nm.toList) = some l[j]) := by
          have e : l = l.take j ++ l[j] :: l.drop (j + 1) := by rw [← List.drop_eq_getElem_cons hlt, List.take_append_drop]
          have e2 : (l.take j ++ l[j] :: l.drop (j + 1)).find? (fun x => x.1.toList == nm.toList) = some l[j] := by
            rw [List.find?_append, HJ.out, List.find?_cons, hq]; rfl
          rw [← e] at e2
          exact e2
        generalize l[j] = x at hc0 hc3 hq HE
        obtain ⟨xn, xi⟩ := x
        have hlt2 : w.heap.size < wr.heap.size := by have := HSZ.out; have := HB.out.size; omega
        have hfr : ∀ i, wr.frozen? ⟨w.heap.size, i, none⟩ = false := fun i => by
            rw [← HF0.out i]
            exact World.frozen?_of_block (HB.out.block _ (by have := HSZ.out; show w.heap.size < _; omega))
        have hfa : ∀ (W : World) (i : Nat), w.heap.size < W.heap.size → (W.alloc (.cells #[.string xn, .string ⟨#[]⟩, .slice none 0 0, .int .i64 xi, .slice none 0 0] 32)).frozen? ⟨w.heap.size, i, none⟩ = W.frozen? ⟨w.heap.size, i, none⟩ := fun W i h =>
          World.frozen?_of_block (Below.heap_alloc W _ _ h)
        have hca : ∀ (W : World) (i : Nat), w.heap.size < W.heap.size → (W.alloc (.cells #[.string xn, .string ⟨#[]⟩, .slice none 0 0, .int .i64 xi, .slice none 0 0] 32)).cell? ⟨w.heap.size, i, none⟩ = W.cell? ⟨w.heap.size, i, none⟩ := fun W i h =>
          World.cell?_of_block (Below.heap_alloc W _ _ h)
        have HBA := Lib.hid (bb HB0.out (bt HB.out (ba wr (.cells #[.string xn, .string ⟨#[]⟩, .slice none 0 0, .int .i64 xi, .slice none 0 0] 32))) HB0.out.size)
        clear HR0 HC0 HF0 HJ HR
        have HTH : Hid (wr.there w.heap.size 0 5) := by
          intro i hi
          rw [Nat.zero_add]
          refine ⟨?_, hfr i⟩
          match i, hi with
          | 0, _ => rw [hz0]; rfl
          | 1, _ => rw [hz1]; rfl
          | 2, _ => rw [hz2]; rfl
          | 3, _ => rw [hz3]; rfl
          | 4, _ => rw [hz4]; rfl
        have HBW := Lib.hid (bb HB0.out HB.out HB0.out.size)
        have HL9 := Lib.hid (att_load (P := Try.prog) _ w.heap.size (xn, xi) Try.underlying32 rfl (by kernel_rfl) (att_range_alloc wr w.heap.size (xn, xi) (.cells #[.string xn, .string ⟨#[]⟩, .slice none 0 0, .int .i64 xi, .slice none 0 0] 32) hlt2 HTH.out))
        have HB9 : Hid (Below w.heap.size w ((wr.setCells w.heap.size 0 (attRow (xn, xi))).alloc (.cells #[.string xn, .string ⟨#[]⟩, .slice none 0 0, .int .i64 xi, .slice none 0 0] 32))) := (below_setCells HBW.out w.heap.size (Nat.le_refl _) HBW.out.size _ _).alloc (below_setCells HBW.out w.heap.size (Nat.le_refl _) HBW.out.size _ _).size _
        go_wp2
        refine bodyPost_ret (results_cell rfl _ rfl HL9.out) rfl ?_
        rw [HE.out]
        exact ⟨rfl, HB9.out⟩
    · have e : l.take j = l := List.take_of_length_le (by omega)
      rw [e] at HJ
      have hlt2 : w.heap.size < wr.heap.size := by have := HSZ.out; have := HB.out.size; omega
      have hfr : ∀ i, wr.frozen? ⟨w.heap.size, i, none⟩ = false := fun i => by
          rw [← HF0.out i]
          exact World.frozen?_of_block (HB.out.block _ (by have := HSZ.out; show w.heap.size < _; omega))
      have HTH : Hid (wr.there w.heap.size 0 5) := by
        intro i hi
        rw [Nat.zero_add]
        refine ⟨?_, hfr i⟩
        match i, hi with
        | 0, _ => rw [hz0]; rfl
        | 1, _ => rw [hz1]; rfl
        | 2, _ => rw [hz2]; rfl
        | 3, _ => rw [hz3]; rfl
        | 4, _ => rw [hz4]; rfl
      have HBW := Lib.hid (bb HB0.out HB.out HB0.out.size)
      have HL9 := Lib.hid (att_load (P := Try.prog) _ w.heap.size (⟨#[]⟩, 0) Try.underlying32 rfl (by kernel_rfl) (att_range wr w.heap.size (⟨#[]⟩, 0) HTH.out))
      have HB9 : Hid (Below w.heap.size w (wr.setCells w.heap.size 0 (attRow (⟨#[]⟩, 0)))) := below_setCells HBW.out w.heap.size (Nat.le_refl _) HBW.out.size _ _
      clear e HR0 HC0 HF0 HR
      go_wp2
      refine bodyPost_ret (results_cell rfl _ rfl HL9.out) rfl ?_
      rw [HJ.out]
      exact ⟨rfl, HB9.out⟩

end Go.Proofs.Ytbbplpmaknaadaa
