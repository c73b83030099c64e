/-
  Layer 1 (scan): the walks of Items, the program's. Rows of at most 300000000 bytes.
-/
import Derived.Test.YtbbplpmaknaadaaScan
namespace Go.Proofs.Ytbbplpmaknaadaa
open Go.RowKit Go.Lib

/-- In the world behind a range over a text: the iterator's block, and what lies behind it. -/
structure IterAt (w wr : World) (s : ByteArray) (pos : Nat) : Prop where
  blk : wr.heap[w.heap.size]? = some (.stringIter s pos)
  below : Below w.heap.size w wr

theorem IterAt.lt {w wr : World} {s : ByteArray} {pos : Nat} (h : IterAt w wr s pos) : w.heap.size < wr.heap.size := (Array.getElem?_eq_some_iff.1 h.blk).1

def World.iterSet (w : World) (b : Nat) (s : ByteArray) (pos : Nat) : World := { w with heap := w.heap.setIfInBounds b (.stringIter s pos) }

theorem run_next_at {P : Program} {w wr : World} {s : ByteArray} {pos : Nat} (h : IterAt w wr s pos) (ty : TypeId) (hp : pos < s.size) :
    (Instr.next (.pointer (some ⟨w.heap.size, 0, none⟩)) true ty).run P wr = .ok (.tuple #[.bool true, .int .i64 pos, .int .i32 (Utf8.decode s pos).1]) (World.iterSet wr w.heap.size s (pos + (Utf8.decode s pos).2)) := by
  simp only [Instr.next, getObj, setObj, Sem.run_bind, Sem.run, h.blk, Result.andThen, hp, if_true]
  simp [goInt, World.iterSet]
theorem run_next_done {P : Program} {w wr : World} {s : ByteArray} {pos : Nat} (h : IterAt w wr s pos) (ty : TypeId) (hp : ¬ pos < s.size) :
    (Instr.next (.pointer (some ⟨w.heap.size, 0, none⟩)) true ty).run P wr = .ok (.tuple #[.bool false]) wr := by
  simp [Instr.next, getObj, Sem.run, h.blk, hp]

theorem IterAt.set {w wr : World} {s : ByteArray} {pos pos' : Nat} (h : IterAt w wr s pos) : IterAt w (World.iterSet wr w.heap.size s pos') s pos' := by
  have hlt := h.lt
  refine ⟨?_, h.below.trans ⟨rfl, rfl, rfl, ?_, fun k hk => ?_⟩⟩
  · show (wr.heap.setIfInBounds w.heap.size _)[w.heap.size]? = _
    rw [Array.getElem?_setIfInBounds_self_of_lt hlt]
  · show wr.heap.size ≤ (wr.heap.setIfInBounds w.heap.size _).size
    simp
  · show (wr.heap.setIfInBounds w.heap.size _)[k]? = _
    rw [Array.getElem?_setIfInBounds_ne (by omega)]
theorem iterSet_grown (w : World) (b : Nat) (s : ByteArray) (pos : Nat) : w.grownBy (World.iterSet w b s pos) (some b) :=
  ⟨rfl, rfl, rfl, by simp [World.iterSet], fun k _ hne => by
    show (w.heap.setIfInBounds b _)[k]? = _
    rw [Array.getElem?_setIfInBounds_ne (fun e => hne (by rw [e]))]⟩
theorem IterAt.grown {w wr w2 : World} {s : ByteArray} {pos : Nat} {row : Option Nat} (h : IterAt w wr s pos) (hg : wr.grownBy w2 row) (hr : ∀ g, row = some g → w.heap.size < g) : IterAt w w2 s pos :=
  ⟨(hg.block w.heap.size h.lt (fun e => by have := hr _ e.symm; omega)).trans h.blk, h.below.grown hg h.below.size (fun k hk => by have := hr k hk; omega)⟩
theorem IterAt.alloc {w wr : World} {s : ByteArray} {pos : Nat} (h : IterAt w wr s pos) (o : Obj) : IterAt w (wr.alloc o) s pos :=
  ⟨(Below.heap_alloc wr o _ h.lt).trans h.blk, h.below.alloc h.below.size o⟩
theorem IterAt.start (w : World) (s : ByteArray) : IterAt w (w.iter s 0) s 0 := ⟨World.iter_heap w s 0, (Below.refl _ w).alloc (Nat.le_refl _) _⟩

theorem dec_width (s : ByteArray) (pos : Nat) : 1 ≤ (Utf8.decode s pos).2 := by rw [← decodeL_drop]; exact decodeL_width _
theorem first_dec (s : ByteArray) (pos : Nat) : (firstF (s.data.toList.drop pos)).2 = (Utf8.decode s pos).2 := by
  rw [firstF, decodeL_drop]
  split
  · rename_i h; exact h.2.symm
  · rfl

set_option maxHeartbeats 1000000 in
set_option maxRecDepth 100000 in
theorem Items_any (S : Nat → Prop) (A : Option Addr) (n c : Nat) (l : List UInt8) (w : World) (hr : Rd w S 1 A n c (bc l)) (hlen : l.length ≤ 300000000) :
    Calls Try.prog 79 #[.slice A n c] w fun e w' => ∃ v, e = .returned v ∧ (∃ n', w'.ownsRow w.heap.size 90 3 v n' (itemCells (itemsF l))) ∧ Below w.heap.size w w' := by
  have hcv := run_bytes_string hr 88 9 5 Try.underlying88 Try.underlying5 Try.underlying9
  obtain rfl := bc_len hr
  obtain ⟨s, hs⟩ : ∃ s : ByteArray, s = ⟨l.toArray⟩ := ⟨_, rfl⟩
  rw [← hs] at hcv
  have hsz : s.size = l.length := by rw [hs]; simp [ByteArray.size]
  have hsl : s.data.toList = l := by rw [hs]
  have HS := Lib.hid hs
  have hsb : s.size ≤ 300000000 := by omega
  have HSL := Lib.hid hsl
  have HSZ := Lib.hid hsz
  clear hs hsl hsz hr
  go_enter Try.func79, Try.ntmps79
  go_wp2
  go_loopw [3] (fun v wr => ∃ (pos : Nat) (o : List (Int × Nat × Nat)), Hid (IterAt w wr s pos) ∧ Hid (itemsF l = o ++ itemsGo (l.drop pos).length pos (l.drop pos)) ∧ o.length ≤ pos ∧
      Hid (∃ n', wr.ownsRow (w.heap.size + 1) 90 3 v n' (itemCells o)) ∧ pos ≤ s.size)
    (fun _ wr => s.size - wr.iterPos w.heap.size)
  case atStart => exact ⟨0, [], IterAt.start w s, by simp [Hid, itemsF], Nat.le_refl _, ⟨0, World.ownsRow_nil _ _ _ _⟩, Nat.zero_le _⟩
  case round =>
    obtain ⟨pos, o, HI, HS2, hol, HO, hpos⟩ := hrel
    obtain ⟨no, HO⟩ := HO.out
    have hno : no = o.length := by have := HO.1; rw [itemCells_len] at this; omega
    obtain ⟨Ao, co, rfl, hro⟩ := own_form HO
    have hco : co ≤ 9223372036854775807 := hro.max
    have HO := Lib.hid HO
    have hnob : no ≤ 300000000 := by omega
    have HNO := Lib.hid hno
    clear hro hno
    by_cases hlt : pos < s.size
    · have hnx : ∀ ty, (Instr.next (.pointer (some ⟨w.heap.size, 0, none⟩)) true ty).run Try.prog wr = _ := fun ty => run_next_at HI.out ty hlt
      have HI2 := Lib.hid (HI.out.set (pos' := pos + (Utf8.decode s pos).2))
      have HO2 := Lib.hid (HO.out.kept (iterSet_grown wr w.heap.size s (pos + (Utf8.decode s pos).2)) (by
        cases hb : Value.ownBlock (.slice Ao no co) with
        | none => exact .inl rfl
        | some g => right; have := (HO.out.lt g hb).1; intro h; injection h; omega))
      generalize hW2 : World.iterSet wr w.heap.size s (pos + (Utf8.decode s pos).2) = w2 at hnx HI2 HO2
      have HFD := Lib.hid (first_dec s pos)
      have HP := Lib.hid (piece_any s pos hlt (by omega) w2)
      have hdw := dec_width s pos
      have hfr := firstF_range (s.data.toList.drop pos)
      have HMS : Hid (pos + (Utf8.decode s pos).2 ≤ s.size) := by
        rw [Hid, ← HFD.out]
        have hne : s.data.toList.drop pos ≠ [] := by
          intro h0
          have := congrArg List.length h0
          simp at this
          have : s.data.size = s.size := rfl
          omega
        have := firstF_le _ hne
        rw [List.length_drop] at this
        have : s.data.toList.length = s.size := by simp
        omega
      have HST : Hid (itemsF l = (o ++ [((firstF (s.data.toList.drop pos)).1, pos, (firstF (s.data.toList.drop pos)).2)]) ++ itemsGo (l.drop (pos + (Utf8.decode s pos).2)).length (pos + (Utf8.decode s pos).2) (l.drop (pos + (Utf8.decode s pos).2))) := by
        have hne : l.drop pos ≠ [] := by
          intro h0
          have := congrArg List.length h0
          simp at this
          have := HSZ.out
          omega
        rw [Hid, HS2.out, itemsGo_step pos _ hne, List.drop_drop, HSL.out, ← HSL.out, HFD.out]
        simp
      generalize hd2 : (Utf8.decode s pos).2 = dw at hnx HI2 HFD hdw HMS HST hW2
      generalize firstF (s.data.toList.drop pos) = p at HP HFD HST hfr
      generalize (Utf8.decode s pos).1 = dr at hnx HP
      clear hW2 hd2
      go_wp2_with fail
      refine HP.out.mono ?_
      rintro e w3 ⟨rfl, rfl⟩
      go_wp2_with (first
        | (at_builtin
           refine append_items _ rfl (.tmp 24) (.tmp 29) rfl (w.heap.size + 1) _ _ (itemCells o) rfl (HO2.out.alloc _) _ _ 1 1 (itemCells [(p.1, pos, p.2)]) rfl (Rd.lit w2 _ #[.int .i32 p.1, .int .i64 pos, .int .i64 p.2] 3 1 rfl (by decide)) (itemCells_one _) (by omega) (by have := HI2.out.lt; simp; omega) ?_
           intro A4 c4 w4 hown4 hg4 _ _
           have HI4 := Lib.hid ((HI2.out.alloc (.cells #[.int .i32 p.1, .int .i64 pos, .int .i64 p.2] 90)).grown hg4 (fun g hg => (HO2.out.lt g hg).1))
           have HO4 := Lib.hid hown4
           clear hown4 hg4))
      go_roundw
      case rel =>
        refine ⟨pos + dw, _, HI4.out, HST.out, ?_, ⟨_, by rw [itemCells_append]; exact HO4.out⟩, HMS.out⟩
        simp; omega
      case measure =>
        simp [World.iterPos, HI4.out.blk, HI.out.blk]
        omega
    · have hnx : ∀ ty, (Instr.next (.pointer (some ⟨w.heap.size, 0, none⟩)) true ty).run Try.prog wr = _ := fun ty => run_next_done HI.out ty hlt
      have HE : Hid (itemsF l = o) := by
        have : l.drop pos = [] := List.drop_eq_nil_of_le (by have := HSZ.out; omega)
        rw [Hid, HS2.out, this, itemsGo_nil, List.append_nil]
      go_wp2
      go_ret
      exact ⟨_, rfl, ⟨_, by rw [HE.out]; exact own_base HO.out (by omega)⟩, HI.out.below⟩

end Go.Proofs.Ytbbplpmaknaadaa
