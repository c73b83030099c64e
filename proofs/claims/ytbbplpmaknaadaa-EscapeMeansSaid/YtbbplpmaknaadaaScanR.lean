/-
  Layer 1 (scan): the walks of the document's Rune, First, Items, Bytes. Rows of at most 300000000 bytes.
-/
import Derived.Test.YtbbplpmaknaadaaItems
import Derived.Deep.RegionWith
namespace Go.Proofs.Ytbbplpmaknaadaa
open Go.RowKit Go.Lib

/-- a value that reads as bytes, wherever it lies -/
def BytesV (w : World) (v : Value) (l : List UInt8) : Prop := ∃ A n c, v = .slice A n c ∧ Rd w (fun _ => True) 1 A n c (bc l)
theorem BytesV.of_own {w : World} {base : Nat} {e : TypeId} {v : Value} {n : Nat} {l : List UInt8} (h : w.ownsRow base e 1 v n (bc l)) : BytesV w v l := by
  obtain ⟨A, c, rfl, hr⟩ := own_form h
  exact ⟨A, n, c, rfl, hr.more fun _ _ => trivial⟩
theorem BytesV.of_rd {w : World} {S : Nat → Prop} {A : Option Addr} {n c : Nat} {l : List UInt8} (h : Rd w S 1 A n c (bc l)) : BytesV w (.slice A n c) l := ⟨A, n, c, rfl, h.more fun _ _ => trivial⟩
theorem BytesV.below {w w' : World} {v : Value} {l : List UInt8} (h : BytesV w v l) (hb : Below w.heap.size w w') : BytesV w' v l := by
  obtain ⟨A, n, c, rfl, hr⟩ := h
  exact ⟨A, n, c, rfl, hr.below hb⟩

def runeF (r : Int) : List UInt8 := if widthF r = 0 then [] else encodeRune r

theorem runeF_cells (r : Int) (h : 0 < widthF r) (zs : List Int) (hz : encodeRuneZ r = zs) : bc (runeF r) = zs.map (Value.int .u8) := by
  rw [runeF, if_neg (by omega), encodeRune, hz, bc, List.map_map]
  apply List.map_congr_left
  intro x hx
  have := encodeRuneZ_byte r x (by rw [hz]; exact hx)
  simp only [Function.comp]
  rw [getD_enc x (by omega), Int.toNat_of_nonneg this.1]

theorem bytes_lit (w : World) (t : TypeId) (cs : Array Value) (l : List UInt8) (n : Nat) (hn : cs.size = n) (hm : n ≤ maxLen) (h : bc l = cs.toList) :
    BytesV (w.alloc (.cells cs t)) (.slice (some ⟨w.heap.size, 0, none⟩) n n) l := by
  have hr := Rd.lit w t cs 1 n (by omega) hm
  rw [← h] at hr
  exact ⟨_, _, _, rfl, hr.more fun _ _ => trivial⟩

set_option maxHeartbeats 1000000 in
set_option maxRecDepth 100000 in
theorem Rune_any (r : Int) (w : World) (hlo : -2147483648 ≤ r) (hhi : r ≤ 2147483647) : Calls Try.prog 110 #[.int .i32 r] w fun e w' => ∃ v, e = .returned v ∧ BytesV w' v (runeF r) ∧ Below w.heap.size w w' := by
  have HW := Lib.hid (RWidth_any r w)
  by_cases h0 : widthF r = 0
  · have HR : Hid (runeF r = []) := by rw [Hid, runeF, if_pos h0]
    rw [h0] at HW
    clear h0
    go_enter Try.func110, Try.ntmps110
    go_wp2_with fail
    refine HW.out.mono ?_
    rintro e w' ⟨rfl, rfl⟩
    go_wp2
    go_ret
    exact ⟨_, rfl, by rw [HR.out]; exact ⟨none, 0, 0, rfl, Rd.none_⟩, Below.refl _ _⟩
  · have hpos : 0 < widthF r := by omega
    have hc := runeF_cells r hpos
    have hr : 0 ≤ r ∧ r ≤ 1114111 := by unfold widthF at h0; split at h0 <;> omega
    by_cases h1 : r < 128
    · have e1 : widthF r = 1 := by unfold widthF at h0 ⊢; repeat' split at h0
                                   all_goals (repeat' split) <;> omega
      have HC := Lib.hid (hc _ (encodeRuneZ_one hr.1 (by omega)))
      rw [e1] at HW
      clear hc h0 hpos e1
      obtain ⟨hr1, hr2⟩ := hr
      go_enter Try.func110, Try.ntmps110
      go_wp2_with fail
      refine HW.out.mono ?_
      rintro e w' ⟨rfl, rfl⟩
      go_wp2
      go_ret
      exact ⟨_, rfl, bytes_lit _ _ _ _ _ rfl (by decide) HC.out, (Below.refl _ _).alloc (Nat.le_refl _) _⟩
    · by_cases h2 : r < 2048
      · have e1 : widthF r = 2 := by unfold widthF at h0 ⊢; repeat' split at h0
                                     all_goals (repeat' split) <;> omega
        have HC := Lib.hid (hc _ (encodeRuneZ_two (by omega) (by omega)))
        rw [e1] at HW
        clear hc h0 hpos e1
        obtain ⟨hr1, hr2⟩ := hr
        go_enter Try.func110, Try.ntmps110
        go_wp2_with fail
        refine HW.out.mono ?_
        rintro e w' ⟨rfl, rfl⟩
        go_wp2
        go_ret
        exact ⟨_, rfl, bytes_lit _ _ _ _ _ rfl (by decide) HC.out, (Below.refl _ _).alloc (Nat.le_refl _) _⟩
      · by_cases h3 : r < 65536
        · have e1 : widthF r = 3 := by unfold widthF at h0 ⊢; repeat' split at h0
                                       all_goals (repeat' split) <;> omega
          have h5 : ¬ (55296 ≤ r ∧ r ≤ 57343) := by unfold widthF at h0; split at h0 <;> omega
          have HC := Lib.hid (hc _ (encodeRuneZ_three (by omega)))
          rw [e1] at HW
          clear hc h0 hpos e1 h5
          obtain ⟨hr1, hr2⟩ := hr
          go_enter Try.func110, Try.ntmps110
          go_wp2_with fail
          refine HW.out.mono ?_
          rintro e w' ⟨rfl, rfl⟩
          go_wp2
          go_ret
          exact ⟨_, rfl, bytes_lit _ _ _ _ _ rfl (by decide) HC.out, (Below.refl _ _).alloc (Nat.le_refl _) _⟩
        · have e1 : widthF r = 4 := by unfold widthF at h0 ⊢; repeat' split at h0
                                       all_goals (repeat' split) <;> omega
          have HC := Lib.hid (hc _ (encodeRuneZ_four (by omega) (by omega)))
          rw [e1] at HW
          clear hc h0 hpos e1
          obtain ⟨hr1, hr2⟩ := hr
          go_enter Try.func110, Try.ntmps110
          go_wp2_with fail
          refine HW.out.mono ?_
          rintro e w' ⟨rfl, rfl⟩
          go_wp2
          go_ret
          exact ⟨_, rfl, bytes_lit _ _ _ _ _ rfl (by decide) HC.out, (Below.refl _ _).alloc (Nat.le_refl _) _⟩

end Go.Proofs.Ytbbplpmaknaadaa
