/-
  Layer 18 (norm): the statement NormFinds.
-/
import Derived.Test.YtbbplpmaknaadaaNormF
namespace Go.Proofs.Ytbbplpmaknaadaa
open Go.RowKit Go.Lib

def attsTo (ns : List ByteArray) : Nat → AttL
  | 0 => []
  | k + 1 => attsTo ns k ++ [(ns.getD k ⟨#[]⟩, k)]
def firstTo (ns : List ByteArray) (nm : ByteArray) : Nat → Int
  | 0 => -1
  | k + 1 => if (ns.getD k ⟨#[]⟩).toList == nm.toList && decide (firstTo ns nm k < 0) then k else firstTo ns nm k
theorem attsTo_len (ns : List ByteArray) (k : Nat) : (attsTo ns k).length = k := by
  induction k with
  | zero => rfl
  | succ k ih => rw [attsTo, List.length_append, ih]; rfl
theorem first_spec (ns : List ByteArray) (nm : ByteArray) (k : Nat) :
    (firstTo ns nm k = -1 ∧ (attsTo ns k).find? (fun x => x.1.toList == nm.toList) = none) ∨
    ∃ (i : Nat) (s : ByteArray), firstTo ns nm k = i ∧ (attsTo ns k).find? (fun x => x.1.toList == nm.toList) = some (s, i) ∧ (s.toList == nm.toList) = true := by
  induction k with
  | zero => exact .inl ⟨rfl, rfl⟩
  | succ k ih =>
    rw [firstTo, attsTo, List.find?_append]
    rcases ih with ⟨h1, h2⟩ | ⟨i, s, h1, h2, h3⟩
    · rw [h1, h2]
      cases hq : (ns.getD k ⟨#[]⟩).toList == nm.toList with
      | true => exact .inr ⟨k, ns.getD k ⟨#[]⟩, by simp, by simp only [List.find?_cons, hq]; rfl, hq⟩
      | false => exact .inl ⟨by simp, by simp only [List.find?_cons, hq]; rfl⟩
    · rw [h1, h2]
      have h0 : decide ((i : Int) < 0) = false := by simp
      exact .inr ⟨i, s, by rw [h0]; simp, rfl, h3⟩

theorem strings_at {w : World} {S : Nat → Prop} {n c : Nat} {A : Option Addr} {ns : List ByteArray} (h : Rd w S 1 A n c (ns.map Value.string)) {k : Nat} (hk : k < ns.length) :
    ∃ b o, A = some ⟨b, o, none⟩ ∧ w.cell? ⟨b, o + k, none⟩ = some (.string (ns.getD k ⟨#[]⟩)) := by
  have hl := h.len
  obtain ⟨b, o, u, e, _, hu, hc⟩ := h.one (k := k) (by simp at hl; omega)
  rw [List.getElem?_map, List.getElem?_eq_getElem hk] at hu
  simp at hu
  subst hu
  exact ⟨b, o, e, by rw [hc]; simp [List.getD, hk]⟩

set_option maxHeartbeats 4000000 in
set_option maxRecDepth 100000 in
theorem NormFinds_any (S : Nat → Prop) (A : Option Addr) (n c : Nat) (ns : List ByteArray) (nm : ByteArray) (w : World) (hr : Rd w S 1 A n c (ns.map Value.string)) :
    Calls Try.prog 5 #[.slice A n c, .string nm] w fun e w' => e = .returned (.bool true) ∧ Below w.heap.size w w' := by
  obtain rfl : n = ns.length := by have := hr.len; simp at this; exact this.symm
  have hle := hr.le
  have hmx : c ≤ 9223372036854775807 := hr.max
  have HR := Lib.hid hr
  clear hr
  go_enter Try.func5, Try.ntmps5
  go_wp2
  go_loopw [5, 6, 13] (fun v f i wr => ∃ k : Nat, k ≤ ns.length ∧ k ≤ 20 ∧ i = .int .i64 k ∧ f = .int .i64 (firstTo ns nm k) ∧ Hid (Below w.heap.size w wr) ∧ Hid (∃ m, wr.ownsRow w.heap.size 32 5 v m (attCells (attsTo ns k)))) (fun _ _ i _ => ns.length - (intOf i).toNat)
  case atStart => exact ⟨0, Nat.zero_le _, by omega, rfl, rfl, Below.refl _ _, ⟨0, World.ownsRow_nil _ _ _ _⟩⟩
  case round =>
    obtain ⟨k, hk, hk20, rfl, rfl, HB, HO⟩ := hrel
    obtain ⟨no, HO⟩ := HO.out
    have hno : no = k := by have := HO.1; rw [attCells_len, attsTo_len] at this; omega
    subst hno
    obtain ⟨Ao, co, rfl, hro⟩ := own_form HO
    have hco : co ≤ 9223372036854775807 := hro.max
    have HRO := Lib.hid hro
    have HO := Lib.hid HO
    clear hro
    have HSP := Lib.hid (first_spec ns nm no)
    have HFS : Hid (firstTo ns nm (no + 1) = if (ns.getD no ⟨#[]⟩).toList == nm.toList && decide (firstTo ns nm no < 0) then (no : Int) else firstTo ns nm no) := rfl
    have HAS : Hid (attsTo ns (no + 1) = attsTo ns no ++ [(ns.getD no ⟨#[]⟩, no)]) := rfl
    have HAL := Lib.hid (attsTo_len ns no)
    by_cases hlt : no < ns.length
    · by_cases h20 : no < 20
      · obtain ⟨b, u, rfl, hc0⟩ := strings_at (HR.out.below HB.out) hlt
        have h20' : ¬ (no : Int) ≥ 20 := by omega
        generalize firstTo ns nm no = f1 at HFS
        clear HSP
        generalize ns.getD no ⟨#[]⟩ = x at hc0 HFS HAS
        cases hq : x.toList == nm.toList with
        | false =>
          have HQ : Hid ((if (x.toList == nm.toList) && decide (f1 < 0) then (no : Int) else f1) = f1) := by rw [Hid, hq]; rfl
          go_wp2_with (first
            | (at_builtin
               refine append_atts _ rfl (.tmp 28) (.tmp 32) rfl w.heap.size _ _ _ rfl (HO.out.alloc _) _ _ 1 1 (attCells [(x, no)]) rfl (Rd.litN wr _ rfl _ #[.string x, .string ⟨#[]⟩, .slice none 0 0, .int .i64 no, .slice none 0 0] 5 1 rfl (by decide)) (attCells_one _) (by omega) (by have := HB.out.size; simp; omega) ?_
               intro A4 c4 w4 hown4 hg4 _ _
               have HB4 := Lib.hid (below_own (HB.out.alloc HB.out.size _) (by have := HB.out.size; simp; omega) (HO.out.alloc _) hg4)
               have HO4 := Lib.hid hown4
               clear hown4 hg4))
          go_roundw
          case rel => exact ⟨no + 1, by omega, by omega, by go_num, by rw [HFS.out, HQ.out], HB4.out, ⟨_, by rw [HAS.out, attCells_append]; exact HO4.out⟩⟩
          case measure => simp [intOf]; omega
        | true =>
          by_cases hf : f1 < 0
          · have HQ : Hid ((if (x.toList == nm.toList) && decide (f1 < 0) then (no : Int) else f1) = no) := by rw [Hid, hq, decide_eq_true hf]; rfl
            go_wp2_with (first
              | (at_builtin
                 refine append_atts _ rfl (.tmp 28) (.tmp 32) rfl w.heap.size _ _ _ rfl (HO.out.alloc _) _ _ 1 1 (attCells [(x, no)]) rfl (Rd.litN wr _ rfl _ #[.string x, .string ⟨#[]⟩, .slice none 0 0, .int .i64 no, .slice none 0 0] 5 1 rfl (by decide)) (attCells_one _) (by omega) (by have := HB.out.size; simp; omega) ?_
                 intro A4 c4 w4 hown4 hg4 _ _
                 have HB4 := Lib.hid (below_own (HB.out.alloc HB.out.size _) (by have := HB.out.size; simp; omega) (HO.out.alloc _) hg4)
                 have HO4 := Lib.hid hown4
                 clear hown4 hg4))
            go_roundw
            case rel => exact ⟨no + 1, by omega, by omega, by go_num, by rw [HFS.out, HQ.out], HB4.out, ⟨_, by rw [HAS.out, attCells_append]; exact HO4.out⟩⟩
            case measure => simp [intOf]; omega
          · have HQ : Hid ((if (x.toList == nm.toList) && decide (f1 < 0) then (no : Int) else f1) = f1) := by rw [Hid, hq, decide_eq_false hf]; rfl
            go_wp2_with (first
              | (at_builtin
                 refine append_atts _ rfl (.tmp 28) (.tmp 32) rfl w.heap.size _ _ _ rfl (HO.out.alloc _) _ _ 1 1 (attCells [(x, no)]) rfl (Rd.litN wr _ rfl _ #[.string x, .string ⟨#[]⟩, .slice none 0 0, .int .i64 no, .slice none 0 0] 5 1 rfl (by decide)) (attCells_one _) (by omega) (by have := HB.out.size; simp; omega) ?_
                 intro A4 c4 w4 hown4 hg4 _ _
                 have HB4 := Lib.hid (below_own (HB.out.alloc HB.out.size _) (by have := HB.out.size; simp; omega) (HO.out.alloc _) hg4)
                 have HO4 := Lib.hid hown4
                 clear hown4 hg4))
            go_roundw
            case rel => exact ⟨no + 1, by omega, by omega, by go_num, by rw [HFS.out, HQ.out], HB4.out, ⟨_, by rw [HAS.out, attCells_append]; exact HO4.out⟩⟩
            case measure => simp [intOf]; omega
      · obtain ⟨b, u, rfl, hc0⟩ := strings_at (HR.out.below HB.out) hlt
        have h20' : (no : Int) ≥ 20 := by omega
        generalize ns.getD no ⟨#[]⟩ = x at hc0 HFS HAS
        rcases HSP.out with ⟨h1, h2⟩ | ⟨i, s, h1, h2, h3⟩
        · have HFI := Lib.hid (Find_any _ Ao no co (attsTo ns no) nm wr HRO.out (by have := HAL.out; omega))
          rw [h2] at HFI
          rw [h1]
          clear h1 h2 HSP HFS HAS
          go_wp2_with fail
          refine HFI.out.mono ?_
          rintro e w2 ⟨rfl, hb2⟩
          have HB2 := Lib.hid (bb HB.out hb2 HB.out.size)
          simp only [attV, Option.getD_none, Option.isSome_none]
          clear hb2 HFI
          go_wp2_with fail
          refine (awake18 _).mono ?_
          rintro e w3 ⟨rfl, hb3⟩
          go_wp2
          go_ret
          exact ⟨rfl, bb HB2.out (bt (ba _ _) hb3) HB2.out.size⟩
        · have HFI := Lib.hid (Find_any _ Ao no co (attsTo ns no) nm wr HRO.out (by have := HAL.out; omega))
          rw [h2] at HFI
          rw [h1]
          clear h1 h2 HSP HFS HAS
          go_wp2_with fail
          refine HFI.out.mono ?_
          rintro e w2 ⟨rfl, hb2⟩
          have HB2 := Lib.hid (bb HB.out hb2 HB.out.size)
          simp only [attV, Option.getD_some, Option.isSome_some]
          clear hb2 HFI
          go_wp2_with fail
          refine (awake18 _).mono ?_
          rintro e w3 ⟨rfl, hb3⟩
          go_wp2
          go_ret
          exact ⟨rfl, bb HB2.out (bt (ba _ _) hb3) HB2.out.size⟩
    · rcases HSP.out with ⟨h1, h2⟩ | ⟨i, s, h1, h2, h3⟩
      · have HFI := Lib.hid (Find_any _ Ao no co (attsTo ns no) nm wr HRO.out (by have := HAL.out; omega))
        rw [h2] at HFI
        rw [h1]
        clear h1 h2 HSP HFS HAS
        go_wp2_with fail
        refine HFI.out.mono ?_
        rintro e w2 ⟨rfl, hb2⟩
        have HB2 := Lib.hid (bb HB.out hb2 HB.out.size)
        simp only [attV, Option.getD_none, Option.isSome_none]
        clear hb2 HFI
        go_wp2_with fail
        refine (awake18 _).mono ?_
        rintro e w3 ⟨rfl, hb3⟩
        go_wp2
        go_ret
        exact ⟨rfl, bb HB2.out (bt (ba _ _) hb3) HB2.out.size⟩
      · have HFI := Lib.hid (Find_any _ Ao no co (attsTo ns no) nm wr HRO.out (by have := HAL.out; omega))
        rw [h2] at HFI
        rw [h1]
        clear h1 h2 HSP HFS HAS
        go_wp2_with fail
        refine HFI.out.mono ?_
        rintro e w2 ⟨rfl, hb2⟩
        have HB2 := Lib.hid (bb HB.out hb2 HB.out.size)
        simp only [attV, Option.getD_some, Option.isSome_some]
        clear hb2 HFI
        go_wp2_with fail
        refine (awake18 _).mono ?_
        rintro e w3 ⟨rfl, hb3⟩
        go_wp2
        go_ret
        exact ⟨rfl, bb HB2.out (bt (ba _ _) hb3) HB2.out.size⟩

end Go.Proofs.Ytbbplpmaknaadaa
