/-
  Layer 14 (refs): Put, the program's. Rows of at most 100000000 runes.
-/
import Derived.Test.YtbbplpmaknaadaaPut
namespace Go.Proofs.Ytbbplpmaknaadaa
open Go.RowKit Go.Lib

abbrev IterIn (wr : World) (ib : Nat) (s : ByteArray) (pos : Nat) : Prop := wr.heap[ib]? = some (.stringIter s pos)
theorem IterIn.lt {wr : World} {ib : Nat} {s : ByteArray} {pos : Nat} (h : IterIn wr ib s pos) : ib < wr.heap.size := (Array.getElem?_eq_some_iff.1 h).1
theorem run_next_in {P : Program} {wr : World} {ib : Nat} {s : ByteArray} {pos : Nat} (h : IterIn wr ib s pos) (ty : TypeId) (hp : pos < s.size) :
    (Instr.next (.pointer (some ⟨ib, 0, none⟩)) true ty).run P wr = .ok (.tuple #[.bool true, .int .i64 pos, .int .i32 (Utf8.decode s pos).1]) (World.iterSet wr ib s (pos + (Utf8.decode s pos).2)) := by
  simp only [Instr.next, getObj, setObj, Sem.run_bind, Sem.run, h, Result.andThen, hp, if_true]
  simp [goInt, World.iterSet]
theorem run_next_out {P : Program} {wr : World} {ib : Nat} {s : ByteArray} {pos : Nat} (h : IterIn wr ib s pos) (ty : TypeId) (hp : ¬ pos < s.size) :
    (Instr.next (.pointer (some ⟨ib, 0, none⟩)) true ty).run P wr = .ok (.tuple #[.bool false]) wr := by
  simp [Instr.next, getObj, Sem.run, h, hp]
theorem IterIn.set {wr : World} {ib : Nat} {s : ByteArray} {pos pos' : Nat} (h : IterIn wr ib s pos) : IterIn (World.iterSet wr ib s pos') ib s pos' := by
  have hlt := IterIn.lt h
  show (wr.heap.setIfInBounds ib _)[ib]? = _
  rw [Array.getElem?_setIfInBounds_self_of_lt hlt]
theorem IterIn.grown {wr w2 : World} {ib : Nat} {s : ByteArray} {pos : Nat} {row : Option Nat} (h : IterIn wr ib s pos) (hg : wr.grownBy w2 row) (hr : row ≠ some ib) : IterIn w2 ib s pos :=
  (hg.block ib (IterIn.lt h) (fun e => hr e.symm)).trans h
theorem IterIn.alloc {wr : World} {ib : Nat} {s : ByteArray} {pos : Nat} (h : IterIn wr ib s pos) (o : Obj) : IterIn (wr.alloc o) ib s pos := (Below.heap_alloc wr o _ (IterIn.lt h)).trans h
theorem below_iterSet {B : Nat} {w wr : World} {ib : Nat} {s : ByteArray} {pos : Nat} (h : Below B w wr) (hib : B ≤ ib) : Below B w (World.iterSet wr ib s pos) :=
  h.trans ⟨rfl, rfl, rfl, by simp [World.iterSet], fun k hk => by
    show (wr.heap.setIfInBounds ib _)[k]? = _
    rw [Array.getElem?_setIfInBounds_ne (by omega)]⟩

theorem dec_ascii (s : ByteArray) (pos : Nat) (h : pos < s.size) (hb : ∀ x ∈ s.data.toList, x.toNat < 128) : ∃ b : UInt8, s.data.toList[pos]? = some b ∧ Utf8.decode s pos = (b.toNat, 1) := by
  have hl : pos < s.data.toList.length := by have : s.data.toList.length = s.size := by simp
                                             omega
  refine ⟨s.data.toList[pos], List.getElem?_eq_getElem hl, ?_⟩
  have hb := hb _ (List.getElem_mem hl)
  rw [← decodeL_drop, List.drop_eq_getElem_cons hl]
  generalize s.data.toList[pos] = b at hb ⊢
  have hw : widthF (b.toNat : Int) = 1 := by unfold widthF; rw [if_neg (by omega), if_pos (by omega)]
  have he : encodeRune (b.toNat : Int) = [b] := by
    rw [encodeRune, encodeRuneZ_one (by omega) (by omega)]
    simp
  have := decode_encode (b.toNat : Int) (by omega) (s.data.toList.drop (pos + 1))
  rw [he, hw] at this
  simpa using this

set_option maxHeartbeats 2000000 in
set_option maxRecDepth 100000 in
theorem Put_any (S : Nat → Prop) (A : Option Addr) (n c : Nat) (l : List Int) (q : Int) (w : World) (hr : Rd w S 1 A n c (rc l)) (hn9 : l.length ≤ 100000000) :
    Calls Try.prog 54 #[.slice A n c, .int .i32 q] w fun e w' => ∃ v, e = .returned v ∧ (∃ n', w'.ownsRow w.heap.size 21 1 v n' (rc (putF l q))) ∧ Below w.heap.size w w' := by
  obtain rfl := hr.rlen
  have hle := hr.le
  have hmx : c ≤ 9223372036854775807 := hr.max
  have HR := Lib.hid hr
  clear hr
  go_enter Try.func54, Try.ntmps54
  go_wp2
  go_loopw [5, 13] (fun v i wr => ∃ (k : Nat), k ≤ l.length ∧ i = .int .i64 k ∧ Hid (∃ n', wr.ownsRow w.heap.size 21 1 v n' (rc (putTo l q k))) ∧ Hid (Below w.heap.size w wr))
    (fun _ i _ => l.length - (intOf i).toNat)
  case atStart => exact ⟨0, Nat.zero_le _, rfl, ⟨0, World.ownsRow_nil w w.heap.size 21 1⟩, Below.refl _ _⟩
  case round =>
    obtain ⟨k, hk, rfl, HO, HB⟩ := hrel
    obtain ⟨no, HO⟩ := HO.out
    have hno := rc_own_len HO
    have hpl := putTo_len l q k
    have hnob : no ≤ 600000000 := by omega
    clear hpl
    obtain ⟨Ao, co, rfl, hro⟩ := own_form HO
    have hco2 : co ≤ 9223372036854775807 := hro.max
    have HO := Lib.hid HO
    clear hro hno
    by_cases hlt : k < l.length
    · obtain ⟨b, u, rfl, hc0⟩ := (HR.out.below HB.out).rune hlt
      have HS := Lib.hid (Sign_any S (some ⟨b, u, none⟩) l.length c l k q wr (HR.out.below HB.out) hlt (by omega))
      have HSU := Lib.hid (putTo_succ l q k)
      have HSR : Hid (signR l q k = (if signF (l.getD k 0) q (two93 l k) = [] then [l[k]] else []) ++ bi (signF (l.getD k 0) q (two93 l k))) := by rw [Hid, signR, getD_at hlt]
      have hsl := signF_len (l.getD k 0) q (two93 l k)
      have HSA := Lib.hid (signF_ascii (l.getD k 0) q (two93 l k))
      generalize signF (l.getD k 0) q (two93 l k) = sg at HS HSR hsl HSA
      have hpl2 : (putTo l q k).length = no := (rc_own_len HO.out).symm
      generalize signR l q k = sr at HSU HSR
      generalize l[k] = r at hc0 HSR
      generalize putTo l q k = o at HO HSU hpl2
      obtain ⟨s, hs⟩ : ∃ s : ByteArray, s = ⟨sg.toArray⟩ := ⟨_, rfl⟩
      rw [← hs] at HS
      have hsd : s.data.toList = sg := by rw [hs]
      have hst : s.toList = sg := (ByteArray.toList_eq s).trans hsd
      have hsz : s.size = sg.length := by rw [← hsd]; simp
      have HSD := Lib.hid hsd
      clear hs hsd
      cases sg with
      | nil =>
        have hs1 : (s.toList == []) = true := by rw [hst]; rfl
        have hs2 : s.toList.isEmpty = true := by rw [hst]; rfl
        clear hst
        go_wp2_with fail
        refine HS.out.mono ?_
        rintro e w1 ⟨rfl, rfl⟩
        go_wp2_with (first
          | (at_builtin
             refine append_runes _ rfl (.tmp 24) (.tmp 26) rfl w.heap.size _ _ _ rfl (HO.out.alloc _) _ _ 1 1 [r] rfl (Rd.litN _ wr.heap.size rfl _ #[.int .i32 r] 1 1 rfl (by decide)) (by omega) (by have := HB.out.size; simp; omega) ?_
             intro A4 c4 w4 hown4 hg4 _ _
             have hb4 := below_own (HB.out.alloc HB.out.size _) (by have := HB.out.size; simp; omega) (HO.out.alloc _) hg4
             have HB4 := Lib.hid hb4
             have HO4 := Lib.hid hown4
             clear hown4 hg4 hb4))
        have HI5 : Hid (IterIn (w4.iter s 0) w4.heap.size s 0) := World.iter_heap w4 s 0
        have HB5 : Hid (Below w.heap.size w (w4.iter s 0)) := HB4.out.alloc HB4.out.size _
        have HO5 : Hid ((w4.iter s 0).ownsRow w.heap.size 21 1 (Value.slice A4 (no + 1) c4) (no + 1) (rc (o ++ [r]))) := HO4.out.alloc _
        generalize w4.iter s 0 = w5 at HI5 HB5 HO5
        have HS2 : Hid (putTo l q (k + 1) = o ++ [r]) := by rw [Hid, HSU.out, HSR.out]; simp [bi]
        go_loopw [5] (fun v wr => v = .slice A4 (no + 1) c4 ∧ wr = w5) (fun _ _ => 0)
        case atStart => exact ⟨rfl, rfl⟩
        case round =>
          obtain ⟨rfl, rfl⟩ := hrel
          have hnx : ∀ ty, (Instr.next (.pointer (some ⟨w4.heap.size, 0, none⟩)) true ty).run Try.prog wr = _ := fun ty => run_next_out HI5.out ty (by rw [hsz]; simp)
          go_wp2
          go_roundw
          case rel => exact ⟨k + 1, by omega, by go_num, ⟨_, by rw [HS2.out]; exact HO5.out⟩, HB5.out⟩
          case measure => simp [intOf]; omega
      | cons c0 cs =>
        have hs1 : (s.toList == []) = false := by rw [hst]; rfl
        have hs2 : s.toList.isEmpty = false := by rw [hst]; rfl
        clear hst
        go_wp2_with fail
        refine HS.out.mono ?_
        rintro e w1 ⟨rfl, rfl⟩
        go_wp2
        have HS2 : Hid (putTo l q (k + 1) = o ++ bi (c0 :: cs)) := by rw [Hid, HSU.out, HSR.out]; simp
        generalize c0 :: cs = sg at HSD HSA hsl HS2 hsz
        have HI5 : Hid (IterIn (wr.iter s 0) wr.heap.size s 0) := World.iter_heap wr s 0
        have HB5 : Hid (Below w.heap.size w (wr.iter s 0)) := HB.out.alloc HB.out.size _
        have HO5 : Hid ((wr.iter s 0).ownsRow w.heap.size 21 1 (Value.slice Ao no co) no (rc o)) := HO.out.alloc _
        have HBL : Hid (∀ g, (Value.slice Ao no co).ownBlock = some g → g ≠ wr.heap.size) := fun g hg => by have := (HO.out.lt g hg).2; omega
        have HBW : Hid (w.heap.size ≤ wr.heap.size) := HB.out.size
        generalize wr.iter s 0 = w5 at HI5 HB5 HO5
        generalize wr.heap.size = ib at HI5 HBL HBW
        have HN : Hid (no = o.length) := hpl2.symm
        go_loopw [5] (fun v wr => ∃ (pos : Nat), pos ≤ s.size ∧ Hid (IterIn wr ib s pos) ∧ Hid (Below w.heap.size w wr) ∧ Hid (∃ n', wr.ownsRow w.heap.size 21 1 v n' (rc (o ++ (bi sg).take pos))) ∧ Hid (∀ g, v.ownBlock = some g → g ≠ ib))
          (fun _ wr => s.size - wr.iterPos ib)
        case atStart => exact ⟨0, Nat.zero_le _, HI5.out, HB5.out, ⟨no, by simpa using HO5.out⟩, HBL.out⟩
        case round =>
          obtain ⟨pos, hpos, HI, HB6, HO6, HBL6⟩ := hrel
          obtain ⟨n6, HO6⟩ := HO6.out
          have hn6 : n6 ≤ 600000100 := by
            have := rc_own_len HO6
            rw [List.length_append, List.length_take] at this
            have h2 : o.length = no := HN.out.symm
            omega
          obtain ⟨A6, c6, rfl, hro6⟩ := own_form HO6
          have hco6 : c6 ≤ 9223372036854775807 := hro6.max
          have HO6 := Lib.hid HO6
          clear hro6
          by_cases hlp : pos < s.size
          · obtain ⟨bb, hbb, hdec⟩ := dec_ascii s pos hlp (by rw [HSD.out]; exact HSA.out)
            have hnx : ∀ ty, (Instr.next (.pointer (some ⟨ib, 0, none⟩)) true ty).run Try.prog wr = _ := fun ty => run_next_in HI.out ty hlp
            rw [hdec] at hnx
            have HI7 := Lib.hid (IterIn.set (pos' := pos + 1) HI.out)
            have HB7 := Lib.hid (below_iterSet (ib := ib) (s := s) (pos := pos + 1) HB6.out HBW.out)
            have HO7 := Lib.hid (HO6.out.kept (iterSet_grown wr ib s (pos + 1)) (by
              cases hb : Value.ownBlock (.slice A6 n6 c6) with
              | none => exact .inl rfl
              | some g => right; have := HBL6.out g hb; intro h; injection h; omega))
            have HBL7 := Lib.hid HBL6.out
            have HTK : Hid ((bi sg).take (pos + 1) = (bi sg).take pos ++ [(bb.toNat : Int)]) := by
              rw [HSD.out] at hbb
              obtain ⟨hb1, hb2⟩ := List.getElem?_eq_some_iff.1 hbb
              rw [Hid, List.take_succ_eq_append_getElem (by simpa [bi] using hb1)]
              simp [bi, hb2]
            have hb0 := bb.toNat_lt
            generalize bb.toNat = x at hnx HTK hb0
            generalize hW7 : World.iterSet wr ib s (pos + 1) = w7 at hnx HI7 HB7 HO7
            clear hbb hdec
            go_wp2_with (first
              | (at_builtin
                 refine append_runes _ rfl (.tmp 33) (.tmp 35) rfl w.heap.size _ _ _ rfl (HO7.out.alloc _) _ _ 1 1 [(x : Int)] rfl (Rd.litN _ w7.heap.size rfl _ #[.int .i32 x] 1 1 rfl (by decide)) (by omega) (by have := HB7.out.size; simp; omega) ?_
                 intro A8 c8 w8 hown8 hg8 hd8 _
                 have hb8 := below_own (HB7.out.alloc HB7.out.size _) (by have := HB7.out.size; simp; omega) (HO7.out.alloc _) hg8
                 have HI8 := Lib.hid (IterIn.grown (IterIn.alloc HI7.out (.cells #[.int .i32 x] 21)) hg8 (fun e => HBL7.out _ e rfl))
                 have HBL8 : Hid (∀ g, (Value.slice A8 (n6 + 1) c8).ownBlock = some g → g ≠ ib) := by
                   intro g hg
                   rcases hd8 with h | h
                   · rw [h] at hg; exact HBL7.out g hg
                   · rw [h] at hg
                     injection hg with hg
                     have h1 := IterIn.lt HI7.out
                     have h2 : (w7.alloc (.cells #[.int .i32 x] 21)).heap.size = w7.heap.size + 1 := by simp
                     omega
                 have HB8 := Lib.hid hb8
                 have HO8 := Lib.hid hown8
                 clear hown8 hg8 hb8 hd8))
            go_roundw
            case rel => exact ⟨pos + 1, by omega, HI8.out, HB8.out, ⟨_, by rw [HTK.out, ← List.append_assoc]; exact HO8.out⟩, HBL8.out⟩
            case measure => simp [World.iterPos, HI8.out, HI.out]; omega
          · have hnx : ∀ ty, (Instr.next (.pointer (some ⟨ib, 0, none⟩)) true ty).run Try.prog wr = _ := fun ty => run_next_out HI.out ty hlp
            have HE : Hid (putTo l q (k + 1) = o ++ (bi sg).take pos) := by
              rw [Hid, HS2.out, List.take_of_length_le]
              simp [bi]; omega
            go_wp2
            go_roundw
            case rel => exact ⟨k + 1, by omega, by go_num, ⟨_, by rw [HE.out]; exact HO6.out⟩, HB6.out⟩
            case measure => simp [intOf]; omega
    · have e : k = l.length := by omega
      subst e
      go_wp2
      go_ret
      exact ⟨_, rfl, ⟨_, HO.out⟩, HB.out⟩

end Go.Proofs.Ytbbplpmaknaadaa
