/-
  Layer 14 (refs): Pieces. Rows of at most 100000000.
-/
import Derived.Test.YtbbplpmaknaadaaRfE
namespace Go.Proofs.Ytbbplpmaknaadaa
open Go.RowKit Go.Lib

theorem runF_nat2 (p : Int → Bool) (m : List Int) (k : Nat) (hk : k ≤ m.length) : runF p m k = ((m.drop k).takeWhile p).length := by
  unfold runF
  rw [if_neg (by omega), Int.toNat_natCast]
theorem nextP_pos (l : List Int) (k : Nat) (hk : k < l.length) : k < (nextP l k).to := by
  have hne : l.drop k ≠ [] := by intro e; have := congrArg List.length e; simp at this; omega
  have := sufN_pos _ hne
  rw [(nextP_shift l k).1]; omega
theorem nextP_le (l : List Int) (k : Nat) (hk : k < l.length) : (nextP l k).to ≤ l.length := by
  unfold nextP
  split
  · have := refF_le l k hk
    unfold pieceF
    repeat' split
    all_goals (simp only; omega)
  · have := (List.takeWhile_sublist notAmp (l := l.drop k)).length_le
    rw [List.length_drop] at this
    simp only; omega

def pcsCells (ps : List Pc) : List Value := ps.flatMap pcCells
theorem pcsCells_len (ps : List Pc) : (pcsCells ps).length = ps.length * 5 := by
  induction ps with
  | nil => rfl
  | cons a t ih =>
    show (pcCells a ++ pcsCells t).length = _
    rw [List.length_append, ih, List.length_cons, pcCells]
    simp only [List.length_cons, List.length_nil]
    omega
theorem pcsCells_append (a b : List Pc) : pcsCells (a ++ b) = pcsCells a ++ pcsCells b := by simp [pcsCells]
theorem Try.info76 : (Try.prog.info? 76).map (fun i => (i.zero, i.size, i.bytes)) = some (some (.agg #[.int .i64 0, .int .i64 0, .int .i64 0, .int .i32 0, .string ByteArray.empty]), 5, 48) := by kernel_rfl
theorem append_pcs (w : World) {ops : Array Oper} {rest : List Oper} {o : Oper} {a : Act} {Q : Exit → Act → World → Prop} (hgd : o.guard = none) (s x : Operand)
    (ho : o.op = .call { callee := .builtin .append, args := #[s, x], argTypes := #[73, 73] })
    (base : Nat) (v : Value) (n : Nat) (xs : List Value) (hs : a.eval s = v) (hown : w.ownsRow base 76 5 v n xs)
    (S : Nat → Prop) (A : Option Addr) (m c : Nat) (ys : List Value) (hx : a.eval x = .slice A m c) (hr : Rd w S 5 A m c ys) (h1 : ∀ u ∈ ys, u.oneCell' = true)
    (hlen : n + m ≤ 1000000000) (hbase : base ≤ w.heap.size)
    (h : ∀ A' c' w', w'.ownsRow base 76 5 (.slice A' (n + m) c') (n + m) (xs ++ ys) → w.grownBy w' v.ownBlock → ((Value.slice A' (n + m) c').ownBlock = v.ownBlock ∨ (Value.slice A' (n + m) c').ownBlock = some w.heap.size) →
      c' ≤ 9223372036854775807 → wpList Try.prog ops Q rest (a.put o.dst (.slice A' (n + m) c')) w') :
    wpList Try.prog ops Q (o :: rest) a w := by
  obtain ⟨i0, hi, hz0, hz1, hz2⟩ := info_parts Try.info76
  refine wpList_append_rd w hgd s x 73 ho base 76 i0 _ 5 48 Try.underlying73 hi hz0 hz1 hz2 rfl (by omega) v n xs hs hown S A m c ys hx hr h1 (by simp only [maxLen]; omega) (by omega) hbase ?_
  intro v' w' h1 h2 h3
  obtain ⟨A', c', rfl, hr'⟩ := own_form h1
  exact h A' c' w' h1 h2 h3 hr'.max
theorem pcCells_one (p : Pc) : ∀ u ∈ pcCells p, u.oneCell' = true := by
  intro u hu
  simp only [pcCells, List.mem_cons, List.not_mem_nil, or_false] at hu
  obtain rfl | rfl | rfl | rfl | rfl := hu <;> rfl
theorem pcs_own_len {w : World} {base : Nat} {e : TypeId} {v : Value} {n : Nat} {ps : List Pc} (h : w.ownsRow base e 5 v n (pcsCells ps)) : n = ps.length := by
  have := h.1; rw [pcsCells_len] at this; omega

set_option maxRecDepth 100000 in
theorem NotAmp_any (r : Int) (w : World) : Calls Try.prog 98 #[.int .i32 r] w fun e w' => e = .returned (.bool (notAmp r)) ∧ w = w' := by
  go_enter Try.func98, Try.ntmps98
  go_wp2
  go_ret
  exact ⟨rfl, rfl⟩
theorem NotAmp_ok (w : World) : PredOk Try.prog 98 #[] notAmp w := fun W r _ => (NotAmp_any r W).mono fun _ _ ⟨h1, h2⟩ => ⟨h1, h2 ▸ Below.refl _ _⟩
theorem eg_NotAmp : ∀ args w, (callFunc 98 args).run Try.prog w = .ok (.enter 98 args) w := enters_of Try.func98 (by kernel_rfl) rfl

set_option maxHeartbeats 4000000 in
set_option maxRecDepth 100000 in
theorem Pieces_any (S : Nat → Prop) (A : Option Addr) (n c : Nat) (l : List Int) (w : World) (hr : Rd w S 1 A n c (rc l)) (hl9 : l.length ≤ 100000000) :
    Calls Try.prog 70 #[.slice A n c] w fun e w' => ∃ v, e = .returned v ∧ (∃ n', w'.ownsRow w.heap.size 76 5 v n' (pcsCells (piecesF l))) ∧ Below w.heap.size w w' := by
  obtain rfl := hr.rlen
  have hle := hr.le
  have hmx : c ≤ 9223372036854775807 := hr.max
  have HR := Lib.hid hr
  clear hr
  go_enter Try.func70, Try.ntmps70
  go_wp2
  go_loopw [3, 4] (fun v i wr => ∃ (k : Nat) (acc : List Pc), k ≤ l.length ∧ i = .int .i64 k ∧ acc.length ≤ k ∧ Hid (∃ f, l.length - k ≤ f ∧ piecesF l = acc ++ piecesGo l f k) ∧ Hid (∃ n', wr.ownsRow w.heap.size 76 5 v n' (pcsCells acc)) ∧ Hid (Below w.heap.size w wr))
    (fun _ i _ => l.length - (intOf i).toNat)
  case atStart => exact ⟨0, [], Nat.zero_le _, rfl, Nat.le_refl _, ⟨l.length, by omega, rfl⟩, ⟨0, World.ownsRow_nil w w.heap.size 76 5⟩, Below.refl _ _⟩
  case round =>
    obtain ⟨k, acc, hk, rfl, hal, HS, HO, HB⟩ := hrel
    obtain ⟨no, HO⟩ := HO.out
    obtain rfl := pcs_own_len HO
    obtain ⟨Ao, co, rfl, hro⟩ := own_form HO
    have hco2 : co ≤ 9223372036854775807 := hro.max
    have HO := Lib.hid HO
    clear hro
    by_cases hlt : k < l.length
    · have hlti : (k : Int) < (l.length : Int) := by omega
      have HS2 : Hid (∃ f, l.length - (nextP l k).to ≤ f ∧ piecesF l = (acc ++ [nextP l k]) ++ piecesGo l f (nextP l k).to) := by
        obtain ⟨f, hf, he⟩ := HS.out
        have := nextP_pos l k hlt
        cases f with
        | zero => omega
        | succ f =>
          rw [piecesGo, if_pos hlt] at he
          exact ⟨f, by omega, by rw [he]; simp⟩
      have htk := nextP_pos l k hlt
      have htl := nextP_le l k hlt
      obtain ⟨b, u, rfl, hc0⟩ := (HR.out.below HB.out).rune hlt
      have HC0 := Lib.hid (fun W (h : Below wr.heap.size wr W) => cell_keep h hc0)
      have HRN := Lib.hid (Run_any S _ l.length c l k _ #[] notAmp wr eg_NotAmp (HR.out.below HB.out) (NotAmp_ok wr))
      rw [runF_nat2 _ _ _ (by omega)] at HRN
      have hrl := (List.takeWhile_sublist notAmp (l := l.drop k)).length_le
      rw [List.length_drop] at hrl
      by_cases h38 : l[k] = 38
      · have HPC := fun W (h : Below w.heap.size w W) => Lib.hid (Piece_any S _ l.length c l k W (HR.out.below h) (by rw [List.getElem?_eq_getElem hlt, h38]) hl9)
        have hnp : nextP l k = pieceF l k := by unfold nextP; rw [List.getElem?_eq_getElem hlt, h38, if_pos rfl]
        rw [hnp] at HS2 htk htl
        rw [h38] at HC0
        generalize ((l.drop k).takeWhile notAmp).length = rn at HRN hrl
        generalize pieceF l k = pc at HS2 htk htl HPC
        obtain ⟨kd, fr, to, r, nm⟩ := pc
        have htk : k < to := htk
        have htl : to ≤ l.length := htl
        have HPC : ∀ W, Below w.heap.size w W → Hid (Calls Try.prog 99 #[.slice (some ⟨b, u, none⟩) l.length c, .int .i64 k] W fun e w' => e = .returned (.agg #[.int .i64 kd, .int .i64 fr, .int .i64 to, .int .i32 r, .string ⟨nm.toArray⟩]) ∧ Below W.heap.size W w') := HPC
        generalize l[k] = lk at hc0 h38
        clear hnp h38 hc0
        go_wp2_with fail
        refine HRN.out.mono ?_
        rintro e w1 ⟨rfl, hb1⟩
        have HB1 := Lib.hid (HB.out.trans (hb1.mono HB.out.size))
        have HO1 := Lib.hid (own_below HO.out hb1)
        have hBA := ba w1 (.cells #[.int .i64 1, .int .i64 k, .int .i64 ((k : Int) + (rn : Int)), .int .i32 0, .string ⟨#[]⟩] 76)
        have hth1 := there_lit w1 #[.int .i64 1, .int .i64 k, .int .i64 ((k : Int) + (rn : Int)), .int .i32 0, .string ⟨#[]⟩] 76
        have hsz1 : w1.heap.size < (w1.alloc (.cells #[.int .i64 1, .int .i64 k, .int .i64 ((k : Int) + (rn : Int)), .int .i32 0, .string ⟨#[]⟩] 76)).heap.size := by simp
        have hc1 := HC0.out _ (bt hb1 hBA)
        have HNB : Hid ((Value.slice Ao acc.length co).ownBlock ≠ some w1.heap.size) := fun e => by have := (HO1.out.lt _ e).2; omega
        have HBX : Hid (w.heap.size ≤ w1.heap.size) := HB1.out.size
        have HB2 := Lib.hid (HB1.out.trans (hBA.mono HB1.out.size))
        have HO2 := Lib.hid (own_below HO1.out hBA)
        clear hb1 hBA HB1 HO1 HRN
        go_wp2_with fail
        generalize w1.alloc (.cells #[.int .i64 1, .int .i64 k, .int .i64 ((k : Int) + (rn : Int)), .int .i32 0, .string ⟨#[]⟩] 76) = W2 at hth1 hsz1 hc1 HB2 HO2
        generalize w1.heap.size = bx at hth1 hsz1 HNB HBX
        refine (HPC _ HB2.out).out.mono ?_
        rintro e w3 ⟨rfl, hb3⟩
        have hth3 : w3.there bx 0 5 := there_below hth1 hb3 hsz1
        have HB3 := Lib.hid (HB2.out.trans (hb3.mono HB2.out.size))
        have HO3 := Lib.hid (own_below HO2.out hb3)
        have HSZ := Lib.hid (Nat.lt_of_lt_of_le hsz1 hb3.size)
        obtain ⟨⟨z0, hz0⟩, hf0⟩ := there_cell hth3 0 (by decide)
        obtain ⟨⟨z1, hz1⟩, hf1⟩ := there_cell hth3 1 (by decide)
        obtain ⟨⟨z2, hz2⟩, hf2⟩ := there_cell hth3 2 (by decide)
        obtain ⟨⟨z3, hz3⟩, hf3⟩ := there_cell hth3 3 (by decide)
        obtain ⟨⟨z4, hz4⟩, hf4⟩ := there_cell hth3 4 (by decide)
        have hra := World.rangeAt_setCells_same w3 bx 0 [.int .i64 kd, .int .i64 fr, .int .i64 to, .int .i32 r, .string ⟨nm.toArray⟩] hth3
        have HC2 : Hid ((w3.setCells bx 0 [.int .i64 kd, .int .i64 fr, .int .i64 to, .int .i32 r, .string ⟨nm.toArray⟩]).cell? ⟨bx, 2, none⟩ = some (.int .i64 to)) := by have := hra 2 _ rfl; simpa [Hid] using this
        have HO4 := Lib.hid (HO3.out.kept (leG_setCells w3 bx [.int .i64 kd, .int .i64 fr, .int .i64 to, .int .i32 r, .string ⟨nm.toArray⟩] 0) (.inr HNB.out))
        have HB4 := Lib.hid (below_setCells2 HB3.out bx HBX.out [.int .i64 kd, .int .i64 fr, .int .i64 to, .int .i32 r, .string ⟨nm.toArray⟩] 0)
        have HSW : Hid (w.heap.size ≤ w3.heap.size) := HB3.out.size
        clear hth1 hth3 hsz1 hc1 hb3 hra HB2 HO2 HB3 HO3 HPC
        have HSW2 : Hid (w.heap.size ≤ (w3.setCells bx 0 [.int .i64 kd, .int .i64 fr, .int .i64 to, .int .i32 r, .string ⟨nm.toArray⟩]).heap.size) := HB4.out.size
        have HSE : Hid ((w3.setCells bx 0 [.int .i64 kd, .int .i64 fr, .int .i64 to, .int .i32 r, .string ⟨nm.toArray⟩]).heap.size = w3.heap.size) := by simp [Hid, World.setCells, World.setCell]
        go_wp2_with (first
          | (at_builtin
             refine append_pcs _ rfl (.tmp 25) (.tmp 27) rfl w.heap.size _ acc.length (pcsCells acc) rfl (HO4.out.alloc _) _ (some ⟨w3.heap.size, 0, none⟩) 1 1 (pcCells ⟨kd, fr, to, r, nm⟩) rfl (Rd.litN (w3.setCells bx 0 [.int .i64 kd, .int .i64 fr, .int .i64 to, .int .i32 r, .string ⟨nm.toArray⟩]) w3.heap.size HSE.out 76 #[.int .i64 kd, .int .i64 fr, .int .i64 to, .int .i32 r, .string ⟨nm.toArray⟩] 5 1 rfl (by decide)) (pcCells_one _) (by omega) (by have := HSW.out; have := HSW2.out; simp; omega) ?_
             intro A5 c5 w5 hown5 hg5 _ _
             have hc5 : w5.cell? ⟨bx, 2, none⟩ = some (.int .i64 to) := LeG.cell hg5 (cell_keep (ba _ _) HC2.out) HNB.out
             have HB5 := Lib.hid (below_own (HB4.out.alloc HB4.out.size _) (by have := HSW.out; have := HSW2.out; simp; omega) (HO4.out.alloc _) hg5)
             have HO5 := Lib.hid hown5
             clear hown5 hg5))
        go_roundw
        case rel =>
          refine ⟨to, acc ++ [(⟨kd, fr, to, r, nm⟩ : Pc)], by omega, rfl, by simp; omega, HS2, ⟨acc.length + 1, ?_⟩, HB5.out⟩
          have := HO5.out
          rw [pcsCells_append]
          simpa [pcsCells] using this
        case measure => simp [intOf]; omega
      · have hnp : nextP l k = ⟨1, k, k + ((l.drop k).takeWhile notAmp).length, 0, []⟩ := by unfold nextP; rw [List.getElem?_eq_getElem hlt, if_neg (by simpa using h38)]
        rw [hnp] at HS2 htk htl
        have h38b : (l[k] == 38) = false := by simpa using h38
        generalize ((l.drop k).takeWhile notAmp).length = rn at HRN hrl HS2 htk htl
        have htk : k < k + rn := htk
        have htl : k + rn ≤ l.length := htl
        generalize l[k] = lk at HC0 hc0 h38b
        clear hnp h38 hc0
        go_wp2_with fail
        refine HRN.out.mono ?_
        rintro e w1 ⟨rfl, hb1⟩
        have HB1 := Lib.hid (HB.out.trans (hb1.mono HB.out.size))
        have HO1 := Lib.hid (own_below HO.out hb1)
        have hc1 := HC0.out _ (bt hb1 (ba w1 (.cells #[.int .i64 1, .int .i64 k, .int .i64 ((k : Int) + (rn : Int)), .int .i32 0, .string ⟨#[]⟩] 76)))
        have HC2 := Lib.hid (box_cell w1 #[.int .i64 1, .int .i64 k, .int .i64 ((k : Int) + (rn : Int)), .int .i32 0, .string ⟨#[]⟩] 76 2 (u := .int .i64 ((k : Int) + (rn : Int))) rfl)
        have HNB : Hid ((Value.slice Ao acc.length co).ownBlock ≠ some w1.heap.size) := fun e => by have := (HO1.out.lt _ e).2; omega
        clear hb1 HRN HC0
        go_wp2_with (first
          | (at_builtin
             refine append_pcs _ rfl (.tmp 25) (.tmp 27) rfl w.heap.size _ acc.length (pcsCells acc) rfl ((HO1.out.alloc _).alloc _) _ (some ⟨w1.heap.size + 1, 0, none⟩) 1 1 [.int .i64 1, .int .i64 k, .int .i64 ((k : Int) + (rn : Int)), .int .i32 0, .string ⟨#[]⟩] rfl (Rd.litN (w1.alloc (.cells #[.int .i64 1, .int .i64 k, .int .i64 ((k : Int) + (rn : Int)), .int .i32 0, .string ⟨#[]⟩] 76)) (w1.heap.size + 1) (by simp) 76 #[.int .i64 1, .int .i64 k, .int .i64 ((k : Int) + (rn : Int)), .int .i32 0, .string ⟨#[]⟩] 5 1 rfl (by decide)) (by intro x hx; simp at hx; rcases hx with rfl | rfl | rfl | rfl | rfl <;> rfl) (by omega) (by have := HB1.out.size; simp; omega) ?_
             intro A5 c5 w5 hown5 hg5 _ _
             have hc5 : w5.cell? ⟨w1.heap.size, 2, none⟩ = some (.int .i64 ((k : Int) + (rn : Int))) := LeG.cell hg5 (cell_keep (ba _ _) HC2.out) HNB.out
             have HB5 := Lib.hid (below_own ((HB1.out.alloc HB1.out.size _).alloc (by have := HB1.out.size; simp; omega) _) (by have := HB1.out.size; simp; omega) ((HO1.out.alloc _).alloc _) hg5)
             have HO5 := Lib.hid hown5
             clear hown5 hg5))
        go_roundw
        case rel =>
          refine ⟨k + rn, acc ++ [(⟨1, k, k + rn, 0, []⟩ : Pc)], by omega, by go_num, by simp; omega, HS2, ⟨acc.length + 1, ?_⟩, HB5.out⟩
          have := HO5.out
          rw [pcsCells_append]
          simpa [pcsCells, pcCells] using this
        case measure => simp [intOf]; omega
    · have HE : Hid (piecesF l = acc) := by
        obtain ⟨f, _, he⟩ := HS.out
        rw [Hid, he]
        cases f with
        | zero => simp [piecesGo]
        | succ f => rw [piecesGo, if_neg hlt, List.append_nil]
      have hlti : ¬ (k : Int) < (l.length : Int) := by omega
      go_wp2
      go_ret
      exact ⟨_, rfl, ⟨_, by rw [HE.out]; exact HO.out⟩, HB.out⟩

end Go.Proofs.Ytbbplpmaknaadaa
