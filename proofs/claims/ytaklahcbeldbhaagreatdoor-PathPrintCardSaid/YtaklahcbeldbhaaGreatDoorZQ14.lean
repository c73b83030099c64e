/- Lemmas, conditions told -/
import Derived.Test.YtaklahcbeldbhaaGreatDoorZQ12
import Derived.Test.YtaklahcbeldbhaaGreatDoorZQ11
import Derived.Test.YtaklahcbeldbhaaGreatDoorZQ01
import Derived.Test.YtaklahcbeldbhaaGreatDoorZQ13
import Derived.Test.YtaklahcbeldbhaaGreatDoorZQ04
import Derived.Lib.IndexBytes
import Derived.Lib.Join
set_option linter.unusedSimpArgs false
set_option linter.unusedVariables false
namespace Go.Proofs.YtaklahcbeldbhaaGreatDoor
open Go.RowKit Go.Lib
section
variable {w w' : World} {A' : Nat → Nat → Prop}
theorem vals_alike {us : List Value} (h : ∀ u ∈ us, u.oneCell' = true) : Alike w A' us (us.map .val) := by
  refine ⟨by simp, fun j y u hy hu => ?_⟩
  rw [List.getElem?_map, hy] at hu
  obtain rfl : AV.val y = u := by simpa using hu
  exact PRel.val _ (h y (List.mem_of_getElem? hy))
theorem own_slc {base e sz n : Nat} {v : Value} {ys : List Value} {xs : List AV} (h : w'.ownsRow base e sz v n ys) (hsz : 0 < sz) (hal : Alike w' A' ys (flatA xs)) (hn : n = xs.length) (hw : ∀ x ∈ xs, x.cells.length = sz)
    (hA : ∀ b o, base ≤ b → b < w'.heap.size → A' b o) : PRel w' A' v (.slc sz xs) := by
  obtain ⟨A, c, rfl, hr⟩ := own_form h
  refine rd_slc (S := fun b => base ≤ b ∧ b < w'.heap.size) ⟨hr.len, hr.le, hr.max, hr.nil, fun hp => ?_⟩ (fun b o hb => hA b o hb.1 hb.2) hn hw (fun a ha => ?_) hal
  · obtain ⟨b, o, h1, h2, h3⟩ := hr.at_ hp
    have hlen : 0 < ys.length := by rw [hr.len]; exact Nat.mul_pos hp hsz
    have := h3 0 ys[0] (List.getElem?_eq_getElem hlen)
    exact ⟨b, o, h1, ⟨h2, World.block_lt_of_cell? w' _ this⟩, h3⟩
  · rcases h.2 with ⟨h1, _⟩ | ⟨b, cap, cur, h1, _⟩
    · cases h1; cases ha
    · cases h1; cases ha; exact ⟨b, 0, rfl⟩
end
def itmOf (x : Int × Nat × Nat) : Itm := ⟨x.1, x.2.1, x.2.2⟩
def eightF (b : List UInt8) : List Itm := (itemsF b).map itmOf
theorem items_flat (l : List (Int × Nat × Nat)) : flatA (itmsA (l.map itmOf)) = (itemCells l).map .val := by
  induction l with
  | nil => rfl
  | cons x r ih => simp only [itmsA, List.map_cons, flatA, List.flatMap_cons, itemCells, List.map_append] at ih ⊢; rw [ih]; rfl
theorem Items_b (b : List UInt8) (hb : b.length ≤ 100000000) : BCall Tryz.prog 55 [.slc 1 (bytesA b)] [] (.slc 3 (itmsA (eightF b))) [] := by
  refine BCall.hand (enters_of Tryz.func55 (by kernel_rfl) rfl) fun w g vs M hL => ?_
  obtain ⟨v1, vs1, rfl, h1, hL⟩ := argsCons hL
  obtain rfl := argsNil hL
  obtain ⟨A, c, rfl, hr⟩ := bytes_rd h1 M
  refine (Items_any _ A _ c b w hr (by omega)).mono fun e w' ⟨v, h, ⟨n', ho⟩, hbel⟩ => ⟨v, h, hbel, ?_⟩
  have hn : n' = (itmsA (eightF b)).length := by
    have := ho.1
    rw [itemCells_len] at this
    rw [itms_len, eightF, List.length_map]; omega
  refine own_slc (A' := (g.imm w w').A) ho (by decide) ?_ hn (fun x hx => ?_) (fun b o h1 h2 => .inr ⟨h1, h2⟩)
  · rw [eightF, items_flat]
    refine vals_alike fun u hu => ?_
    obtain ⟨x, _, hx⟩ := List.mem_flatMap.1 hu
    simp only [List.mem_cons, List.not_mem_nil, or_false] at hx
    rcases hx with rfl | rfl | rfl <;> rfl
  · obtain ⟨y, _, rfl⟩ := List.mem_map.1 hx
    rfl
def pcsF (kind : Int) (b : List UInt8) : List Itm := if kind = 0 then eightF b else if kind = 1 then wideF true 0 b else if kind = 2 then wideF false 0 b else []
def csPi (f8 : List AV → List AV) (fw : Bool → List AV → List AV) : Nat → List AV → List Ob → Option (AV × List Ob) := fun f args _ => match f, args with
  | 55, [.slc 1 xs] => some (.slc 3 (f8 xs), [])
  | 56, [.slc 1 xs, .val (.bool b)] => some (.slc 3 (fw b xs), [])
  | _, _ => none
def f8A (xs : List AV) : List AV := itmsA (eightF (xs.map byteOf))
def fwA (big : Bool) (xs : List AV) : List AV := itmsA (wideF big 0 (xs.map byteOf))
set_option maxRecDepth 20000 in
theorem Pieces_b (kind : Int) (b : List UInt8) (hb : b.length ≤ 100000000) : BCall Tryz.prog 33 [.val (.int .i64 kind), .slc 1 (bytesA b)] [] (.slc 3 (itmsA (pcsF kind b))) [] := by
  have hf8 : f8A (bytesA b) = itmsA (eightF b) := by rw [f8A, bytes_back]
  have hfw : ∀ big, fwA big (bytesA b) = itmsA (wideF big 0 b) := fun big => by rw [fwA, bytes_back]
  have c8 : BCall Tryz.prog 55 [.slc 1 (bytesA b)] [] (.slc 3 (f8A (bytesA b))) [] := by rw [hf8]; exact Items_b b hb
  have cw : ∀ big, BCall Tryz.prog 56 [.slc 1 (bytesA b), .val (.bool big)] [] (.slc 3 (fwA big (bytesA b))) [] := fun big => by rw [hfw]; exact WItems_b big b (by omega)
  refine fnN (csPi f8A fwA) Tryz.func33 rfl fun _ _ => ?_
  with_reducible refine cv3 f8A fwA (bytesA b) ?_
  refine ⟨fun h => ⟨c8, .pure rfl (.inl ?_)⟩, fun h => ⟨fun h1 => ⟨cw _, .pure rfl (.inl ?_)⟩, fun h1 => ⟨fun h2 => ⟨cw _, .pure rfl (.inl ?_)⟩, fun h2 => .pure rfl (.inr (.inl ⟨rfl, 3, ?_⟩))⟩⟩⟩
  · have h : kind = 0 := by simpa [std] using h
    rw [pcsF, if_pos h, hf8]
  · have h : ¬ kind = 0 := by simpa [std] using h
    have h1' : kind = 1 := by simpa [std] using h1
    have h1 : std.eqI kind 1 = true := h1
    show AV.slc 3 (fwA (std.eqI kind 1) (bytesA b)) = _
    rw [pcsF, if_neg h, if_pos h1', h1, hfw]
  · have h : ¬ kind = 0 := by simpa [std] using h
    have h1' : ¬ kind = 1 := by simpa [std] using h1
    have h2 : kind = 2 := by simpa [std] using h2
    have h1 : std.eqI kind 1 = false := h1
    show AV.slc 3 (fwA (std.eqI kind 1) (bytesA b)) = _
    rw [pcsF, if_neg h, if_neg h1', if_pos h2, h1, hfw]
  · have h : ¬ kind = 0 := by simpa [std] using h
    have h1 : ¬ kind = 1 := by simpa [std] using h1
    have h2 : ¬ kind = 2 := by simpa [std] using h2
    rw [pcsF, if_neg h, if_neg h1, if_neg h2]; rfl
structure Txt where
  kind : Int
  bom : Int
  r : List Int
  off : List Int
  deriving Inhabited
def Txt.cs (t : Txt) : List AV := [.val (.int .i64 t.kind), .val (.int .i64 t.bom), .slc 1 (runesA t.r), .slc 1 (intsA t.off)]
def textI (b : List UInt8) : List Itm := pcsF (kindF b).1 (b.drop (kindF b).2.toNat)
def textF' (b : List UInt8) : Txt := ⟨(kindF b).1, (kindF b).2, (textI b).map Itm.r, (textI b).map (fun x => x.off + (kindF b).2) ++ [(b.length : Int)]⟩
theorem kind_bom (b : List UInt8) : 0 ≤ (kindF b).2 ∧ (kindF b).2 ≤ b.length := by
  have key : ∀ (x : List UInt8 × Int × Int), x ∈ signsL → x.1.isPrefixOf b = true → 0 ≤ x.2.2 ∧ x.2.2 ≤ b.length := by
    intro x hx hp
    have := (List.isPrefixOf_iff_prefix.1 hp).length_le
    simp only [signsL, List.mem_cons, List.not_mem_nil, or_false] at hx
    rcases hx with rfl | rfl | rfl | rfl | rfl <;> simp at this ⊢ <;> omega
  unfold kindF kR
  split
  · rename_i x hx
    have h1 := List.find?_some hx
    have h2 := List.mem_of_find?_eq_some hx
    exact key x (by simpa using h2) h1
  · simp only; omega
def csD (k bom : Int) (pc : Int → List AV → List AV) : Nat → List AV → List Ob → Option (AV × List Ob) := fun f args _ => match f, args with
  | 42, _ => some (.tup [.val (.int .i64 k), .val (.int .i64 bom)], [])
  | 33, [.val (.int .i64 k), .slc 1 xs] => some (.slc 3 (pc k xs), [])
  | _, _ => none
def pcA (k : Int) (xs : List AV) : List AV := itmsA (pcsF k (xs.map byteOf))
set_option maxRecDepth 20000 in
set_option maxHeartbeats 2000000 in
theorem Decode_b (b : List UInt8) (hb : b.length ≤ 1000000) (hps : (textI b).length ≤ 1000000) (hoff : ∀ x ∈ textI b, 0 ≤ x.off ∧ x.off ≤ 1000000) :
    BCall Tryz.prog 24 [.slc 1 (bytesA b)] [] (.agg (textF' b).cs) [] := by
  have hkb := kind_bom b
  have cK := Kind3_b b
  obtain ⟨k, hk⟩ : ∃ k, k = (kindF b).1 := ⟨_, rfl⟩
  obtain ⟨bom, hbom⟩ : ∃ k, k = (kindF b).2 := ⟨_, rfl⟩
  obtain ⟨ps, hpsE⟩ : ∃ ps, ps = textI b := ⟨_, rfl⟩
  have hT : textF' b = ⟨k, bom, ps.map Itm.r, ps.map (fun x => x.off + bom) ++ [(b.length : Int)]⟩ := by rw [hk, hbom, hpsE]; rfl
  have hpb : ps = pcsF k (b.drop bom.toNat) := by rw [hk, hbom, hpsE]; rfl
  rw [hT]
  rw [← hpsE] at hps hoff
  rw [← hk, ← hbom] at cK
  rw [← hbom] at hkb
  clear hT hk hbom hpsE
  have hcut : std.cut (bytesA b) bom (std.len (bytesA b)) = bytesA (b.drop bom.toNat) := by
    show ((bytesA b).drop bom.toNat).take ((bytesA b).length - bom : Int).toNat = _
    rw [bytesA, bytesA, List.map_drop, List.take_of_length_le (by simp; omega)]
  have hpc : pcA k (std.cut (bytesA b) bom (std.len (bytesA b))) = itmsA ps := by rw [hcut, pcA, bytes_back, hpb]
  have cP : BCall Tryz.prog 33 [.val (.int .i64 k), .slc 1 (std.cut (bytesA b) bom (std.len (bytesA b)))] [] (.slc 3 (pcA k (std.cut (bytesA b) bom (std.len (bytesA b))))) [] := by
    rw [hpc, hcut, hpb]; exact Pieces_b k _ (by rw [List.length_drop]; omega)
  obtain ⟨nb, hnb⟩ := exLen b
  obtain ⟨n, hn⟩ := exLen ps
  have hbn : bom ≤ nb := by rw [hnb.eq]; exact hkb.2
  have hb0 := hkb.1
  clear hkb
  refine fnO false (csD k bom pcA) (fun id => match id with | 3 => .of [0, 1, 2, 3, 4, 5, 8, 6, 7] | _ => .nil) Tryz.func24 rfl fun _ _ => ?_
  with_reducible refine cv2 pcA (bytesA b) ?_
  have enb := hnb.eq
  have en := hn.eq
  have hbl := bytes_len b
  refine ⟨cK, ?_, cP, ?_⟩
  · simp only [std, hbl]; omega
  have hnm : std.len (pcA k (std.cut (bytesA b) bom (std.len (bytesA b)))) = n := by rw [hpc]; simp only [std, itms_len]; omega
  refine loopN (csD k bom pcA) (Int) (fun i => ⟨[(0, .slc 1 (bytesA b)), (2, .box 0 0), (3, .box 1 0), (20, .slc 3 (itmsA ps)), (21, .val (.int .i64 n)), (22, .val (.int .i64 i))], [.box [.val (.int .i64 0), .val (.int .i64 0), .val (.slice none 0 0), .val (.slice none 0 0)], .box [.val (.int .i64 k), .val (.int .i64 bom), .row 2 0, .row 3 0], .row 21 1 false 0 (runesA ((ps.take i.toNat).map Itm.r)), .row 3 1 false 0 (intsA ((ps.take i.toNat).map fun x => x.off + bom))]⟩) (fun i => 0 ≤ i ∧ i ≤ n) (fun i => (n - i).toNat) 0 ?_ ?_ ?_
  · omega
  · refine ⟨[some 0, some 1, none, none], _, rfl, ?_⟩
    simp only [Int.toNat_zero, List.take_zero, List.map_nil]
    repeat first
      | exact trivial
      | refine ⟨gA hpc, ?_⟩
      | refine ⟨gI hnm, ?_⟩
      | refine ⟨rfl, ?_⟩
  · rintro i ⟨hi0, hin⟩
    have hil := itms_len ps
    rcases Int.lt_or_eq_of_le hin with hlt | heq
    · have hat : (itmsA ps)[i.toNat]?.getD .dead = (ps[i.toNat]?.getD ⟨0, 0, 0⟩).av := getA Itm.av hi0 (by omega) ⟨0, 0, 0⟩
      have hil2 : i.toNat < ps.length := by omega
      have hx := hoff (ps[i.toNat]?.getD ⟨0, 0, 0⟩) (by simp [hil2])
      have ht : ps.take (i + 1).toNat = ps.take i.toNat ++ [ps[i.toNat]?.getD ⟨0, 0, 0⟩] := by
        rw [show (i + 1).toNat = i.toNat + 1 by omega, List.take_add_one]
        simp [hil2]
      have hr1 : runesA ((ps.take (i + 1).toNat).map Itm.r) = runesA ((ps.take i.toNat).map Itm.r) ++ [.val (.int .i32 (ps[i.toNat]?.getD ⟨0, 0, 0⟩).r)] := by
        rw [ht, List.map_append, runes_app]; rfl
      have hr2 : intsA ((ps.take (i + 1).toNat).map fun x => x.off + bom) = intsA ((ps.take i.toNat).map fun x => x.off + bom) ++ [.val (.int .i64 ((ps[i.toNat]?.getD ⟨0, 0, 0⟩).off + bom))] := by
        rw [ht, List.map_append, ints_app]; rfl
      have hl1 : (runesA ((ps.take i.toNat).map Itm.r)).length ≤ 1000000 := by simp [runesA]; omega
      have hl2 : (intsA ((ps.take i.toNat).map fun x => x.off + bom)).length ≤ 1000000 := by simp [intsA]; omega
      obtain ⟨x, hxE⟩ : ∃ x, x = ps[i.toNat]?.getD ⟨0, 0, 0⟩ := ⟨_, rfl⟩
      rw [← hxE] at hat hx hr1 hr2
      obtain ⟨R, hR⟩ : ∃ R, R = runesA ((ps.take i.toNat).map Itm.r) := ⟨_, rfl⟩
      obtain ⟨O, hO⟩ : ∃ O, O = intsA ((ps.take i.toNat).map fun x => x.off + bom) := ⟨_, rfl⟩
      rw [← hR] at hr1 hl1 ⊢
      rw [← hO] at hr2 hl2 ⊢
      clear en enb ht
      with_reducible refine cv3 pcA (bytesA b) (itmsA ps) ?_
      have en := hn.eq
      have enb := hnb.eq
      repeat' first
        | (with_reducible refine And.intro (fun hx => absurd hx (by first | (try simp [std, S1, hat, Itm.av, hil, hlt, hi0]) <;> omega | omega)) (fun _ => ?_))
        | (with_reducible refine And.intro (fun _ => ?_) (fun hx => absurd hx (by first | (try simp [std, S1, hat, Itm.av, hil, hlt, hi0]) <;> omega | omega)))
        | (with_reducible refine And.intro (by first | (try simp [std, S1, hat, Itm.av, hil, hlt, hi0]) <;> omega | omega) ?_)
        | (with_reducible refine And.intro ?_ ?_)
        | (with_reducible intro hb)
      exact ⟨i + 1, ⟨by omega, by omega⟩, by omega, [some 0, some 1, some 2, some 3], _, rfl, by simp [-List.map_take, AllEq, lk, std, hat, hil, Itm.av, AV.cells, RowKit.intOf, hr1, hr2]⟩
    · have ht : ps.take i.toNat = ps := List.take_of_length_le (by omega)
      rw [ht]
      have hl2 : (intsA (ps.map fun x => x.off + bom)).length ≤ 1000000 := by simp [intsA]; omega
      have hf : intsA (ps.map (fun x => x.off + bom) ++ [(b.length : Int)]) = intsA (ps.map fun x => x.off + bom) ++ [.val (.int .i64 nb)] := by
        rw [ints_app, hnb.eq]; rfl
      have hlb : std.len (bytesA b) = nb := by rw [enb]; simp only [std, hbl]
      obtain ⟨R, hR⟩ : ∃ R, R = runesA (ps.map Itm.r) := ⟨_, rfl⟩
      obtain ⟨O, hO⟩ : ∃ O, O = intsA (ps.map fun x => x.off + bom) := ⟨_, rfl⟩
      rw [← hO] at hl2 hf
      have hcs : (Txt.mk k bom (ps.map Itm.r) (ps.map (fun x => x.off + bom) ++ [(b.length : Int)])).cs = [.val (.int .i64 k), .val (.int .i64 bom), .slc 1 R, .slc 1 (O ++ [.val (.int .i64 nb)])] := by
        rw [Txt.cs, hf, hR]
      rw [hcs, ← hR, ← hO]
      clear en enb ht hcs
      with_reducible refine cv3 pcA (bytesA b) (itmsA ps) ?_
      with_reducible repeat' first | refine aU heq ?_ | refine And.intro ?_ ?_ | intro hb
      rw [if_pos trivial]
      with_reducible refine cv3 pcA (bytesA b) (itmsA ps) ?_
      refine ⟨?_, .pure rfl ?_⟩
      · simp [std]; omega
      · refine ⟨.inl rfl, .inl rfl, .inl rfl, .inl ?_, trivial⟩
        show AV.slc 1 (std.app O [.val (.int .i64 (std.len (bytesA b)))]) = _
        rw [hlb]; rfl
end Go.Proofs.YtaklahcbeldbhaaGreatDoor
namespace Go.Proofs.YtaklahcbeldbhaaGreatDoor
open Go.RowKit Go.Lib
theorem In_b (t : Txt) (a b : Int) (h0 : 0 ≤ a) (h1 : a ≤ b) (h2 : b ≤ t.r.length) : BCall Tryz.prog 61 [.agg t.cs, .val (.int .i64 a), .val (.int .i64 b)] [] (.val (.bool true)) [] := by
  obtain ⟨n, hn⟩ := exLen t.r
  have h2n : b ≤ n := by rw [hn.eq]; exact h2
  clear h2
  unfold Txt.cs
  obtain ⟨k, hk⟩ : ∃ k, k = t.kind := ⟨_, rfl⟩
  obtain ⟨m, hm⟩ : ∃ k, k = t.bom := ⟨_, rfl⟩
  obtain ⟨R, hR⟩ : ∃ k, k = runesA t.r := ⟨_, rfl⟩
  obtain ⟨O, hO⟩ : ∃ k, k = intsA t.off := ⟨_, rfl⟩
  have hRl : R.length = t.r.length := by rw [hR, runes_len]
  rw [← hk, ← hm, ← hR, ← hO]
  refine fnN (cs0) Tryz.func61 rfl fun _ _ => ?_
  with_reducible refine cv0 ?_
  have en := hn.eq
  have hRn : ((R.length : Nat) : Int) = n := by omega
  with_reducible repeat' first | refine aU (zA hRn <| zA h0 <| zA h1 h2n) ?_ | refine And.intro ?_ ?_ | intro hb
  refine .pure rfl (.inl ?_)
  have : std.leI b (std.len R) = true := by simp only [std, hRn]; exact decide_eq_true h2n
  show AV.val (.bool (std.leI b (std.len R))) = _
  rw [this]
def csSl : Nat → List AV → List Ob → Option (AV × List Ob) := fun f args _ => match f, args with
  | 61, _ => some (.val (.bool true), [])
  | 115, [.slc 1 xs] => some (.slc 1 xs, [])
  | _, _ => none
structure TxtOk (t : Txt) (b : List UInt8) : Prop where
  len : t.off.length = t.r.length + 1
  range : ∀ x ∈ t.off, 0 ≤ x ∧ x ≤ b.length
  last : t.off[t.r.length]?.getD 0 = b.length
  mono : ∀ i j : Nat, i ≤ j → j ≤ t.r.length → t.off[i]?.getD 0 ≤ t.off[j]?.getD 0
def sliceF (t : Txt) (b : List UInt8) (i j : Int) : List UInt8 := (b.drop (t.off[i.toNat]?.getD 0).toNat).take ((t.off[j.toNat]?.getD 0) - (t.off[i.toNat]?.getD 0)).toNat
set_option maxRecDepth 20000 in
set_option maxHeartbeats 1000000 in
theorem Slice_b (t : Txt) (bs : List UInt8) (hbs : bs.length ≤ 1000000) (ok : TxtOk t bs) (hrl : t.r.length ≤ 1000000) (i j : Int) (h0 : 0 ≤ i) (h1 : i ≤ j) (h2 : j ≤ t.r.length) :
    BCall Tryz.prog 99 [.agg t.cs, .slc 1 (bytesA bs), .val (.int .i64 i), .val (.int .i64 j)] [] (.slc 1 (bytesA (sliceF t bs i j))) [] := by
  have cI := In_b t i j h0 h1 h2
  obtain ⟨lo, hlo⟩ : ∃ x, x = t.off[i.toNat]?.getD 0 := ⟨_, rfl⟩
  obtain ⟨hi, hhi⟩ : ∃ x, x = t.off[j.toNat]?.getD 0 := ⟨_, rfl⟩
  have hol := ok.len
  have olen := ints_len t.off
  have alo := ints_at (l := t.off) (i := i) h0 (by omega)
  have ahi := ints_at (l := t.off) (i := j) (by omega) (by omega)
  have ala := ints_at (l := t.off) (i := (t.r.length : Int)) (by omega) (by omega)
  rw [Int.toNat_natCast, ok.last] at ala
  rw [← hlo] at alo
  rw [← hhi] at ahi
  have hle : lo ≤ hi := by rw [hlo, hhi]; exact ok.mono _ _ (by omega) (by omega)
  have hlo0 : 0 ≤ lo := by
    have h3 : i.toNat < t.off.length := by omega
    have := ok.range (t.off[i.toNat]'h3) (List.getElem_mem h3)
    rw [hlo, List.getElem?_eq_getElem h3]
    exact this.1
  obtain ⟨nb, hnb⟩ := exLen bs
  have hhin : hi ≤ nb := by
    have h3 : j.toNat < t.off.length := by omega
    have := ok.range (t.off[j.toNat]'h3) (List.getElem_mem h3)
    rw [hhi, hnb.eq, List.getElem?_eq_getElem h3]
    exact this.2
  have hcut : std.cut (bytesA bs) lo hi = bytesA (sliceF t bs i j) := by
    show ((bytesA bs).drop lo.toNat).take (hi - lo).toNat = _
    rw [sliceF, ← hlo, ← hhi, bytesA, bytesA, List.map_take, List.map_drop]
  obtain ⟨nr, hnr⟩ := exLen t.r
  have hjn : j ≤ nr := by rw [hnr.eq]; exact h2
  have cC : BCall Tryz.prog 115 [.slc 1 (std.cut (bytesA bs) lo hi)] [] (.slc 1 (std.cut (bytesA bs) lo hi)) [] := CloneB_b _ (by rw [hcut, bytes_len, sliceF, List.length_take, List.length_drop]; omega)
  rw [← hcut]
  clear hcut ok hlo hhi h2
  unfold Txt.cs at cI ⊢
  obtain ⟨k, hk⟩ : ∃ k, k = t.kind := ⟨_, rfl⟩
  obtain ⟨m, hm⟩ : ∃ k, k = t.bom := ⟨_, rfl⟩
  obtain ⟨R, hR⟩ : ∃ k, k = runesA t.r := ⟨_, rfl⟩
  obtain ⟨O, hO⟩ : ∃ k, k = intsA t.off := ⟨_, rfl⟩
  rw [← hk, ← hm, ← hR, ← hO] at cI ⊢
  rw [← hO] at alo ahi ala olen
  refine fnN (csSl) Tryz.func99 rfl fun _ _ => ?_
  with_reducible refine cv1 (bytesA bs) ?_
  have enb := hnb.eq
  have enr := hnr.eq
  have hbl := bytes_len bs
  have hON : ((O.length : Nat) : Int) = nr + 1 := by omega
  have hON2 : ((O.length : Nat) : Int) - 1 = nr := by omega
  have ala : O[nr.toNat]?.getD .dead = .val (.int .i64 nb) := by rw [show nr.toNat = t.r.length by omega, enb]; exact ala
  have hbn : (((bytesA bs).length : Nat) : Int) = nb := by omega
  have hl' : std.int (std.nth (std.cel (std.at_ O i)) 0) = lo := by simp [std, alo, AV.cells, RowKit.intOf]
  have hh' : std.int (std.nth (std.cel (std.at_ O j)) 0) = hi := by simp [std, ahi, AV.cells, RowKit.intOf]
  with_reducible repeat' first | refine aU (zA cI <| zA alo <| zA ahi <| zA ala <| zA hON <| zA hON2 <| zA hbn <| zA hlo0 <| zA hle hhin) ?_ | refine And.intro ?_ ?_ | intro hb
  · show BCall _ _ [.slc 1 (std.cut (bytesA bs) (std.int (std.nth (std.cel (std.at_ O i)) 0)) (std.int (std.nth (std.cel (std.at_ O j)) 0)))] [] (.slc 1 (std.cut (bytesA bs) (std.int (std.nth (std.cel (std.at_ O i)) 0)) (std.int (std.nth (std.cel (std.at_ O j)) 0)))) []
    rw [hl', hh']; exact cC
  · refine .pure rfl (.inl ?_)
    show AV.slc 1 (std.cut (bytesA bs) (std.int (std.nth (std.cel (std.at_ O i)) 0)) (std.int (std.nth (std.cel (std.at_ O j)) 0))) = _
    rw [hl', hh']
set_option maxRecDepth 20000 in
set_option maxHeartbeats 1000000 in
theorem Equal_b (x y : List Int) (hx : x.length ≤ 1000000000) (hy : y.length ≤ 1000000000) : BCall Tryz.prog 98 [.slc 1 (runesA x), .slc 1 (runesA y)] [] (.val (.bool (decide (x = y)))) [] := by
  obtain ⟨n, hn⟩ := exLen x
  obtain ⟨m, hm⟩ := exLen y
  obtain ⟨e, he⟩ : ∃ e, e = decide (x = y) := ⟨_, rfl⟩
  rw [← he]
  have hxl := runes_len x
  have hyl := runes_len y
  refine fnN (cs0) Tryz.func98 rfl fun _ _ => ?_
  with_reducible refine cv2 (runesA x) (runesA y) ?_
  have en := hn.eq
  have em := hm.eq
  have hxn : (((runesA x).length : Nat) : Int) = n := by omega
  have hyn : (((runesA y).length : Nat) : Int) = m := by omega
  refine ⟨fun h => ?_, fun h => ?_⟩
  · have h : ¬ n = m := by simpa [std, hxn, hyn] using h
    refine .pure rfl (.inl ?_)
    rw [he, decide_eq_false (fun h2 => h (by rw [en, em, h2]))]
  · have h : n = m := by simpa [std, hxn, hyn] using h
    refine loopN (cs0) (Int) (fun i => ⟨[(0, .slc 1 (runesA x)), (1, .slc 1 (runesA y)), (12, .val (.int .i64 n)), (13, .val (.int .i64 i))], []⟩) (fun i => 0 ≤ i ∧ i ≤ n ∧ ∀ j : Nat, (j : Int) < i → x[j]?.getD 0 = y[j]?.getD 0) (fun i => (n - i).toNat) 0 ?_ ?_ ?_
    · exact ⟨by omega, by omega, fun j hj => by omega⟩
    · exact ⟨[], _, rfl, by simp [AllEq, lk, std, hxn]⟩
    · rintro i ⟨hi0, hin, hi⟩
      have hi' : ∀ j : Nat, j < i.toNat → x[j]?.getD 0 = y[j]?.getD 0 := fun j hj => hi j (by omega)
      clear hi
      rcases Int.lt_or_eq_of_le hin with hlt | heq
      · have ax := runes_at (l := x) hi0 (by omega)
        have ay := runes_at (l := y) hi0 (by omega)
        have hltm : i < m := by omega
        clear en em h hxn hyn
        with_reducible refine cv2 (runesA x) (runesA y) ?_
        have en := hn.eq
        have em := hm.eq
        have hxn : (((runesA x).length : Nat) : Int) = n := by omega
        have hyn : (((runesA y).length : Nat) : Int) = m := by omega
        with_reducible repeat' first | refine aU (zA ax <| zA ay <| zA hxn <| zA hyn <| zA hlt <| zA hltm hi0) ?_ | refine And.intro ?_ ?_ | intro hb
        · have hne : ¬ x[i.toNat]?.getD 0 = y[i.toNat]?.getD 0 := by simpa [std, ax, ay, AV.cells, RowKit.intOf] using hb
          with_reducible refine cv2 (runesA x) (runesA y) ?_
          refine .pure rfl (.inl ?_)
          rw [he, decide_eq_false (fun h2 => hne (by rw [h2]))]
        · have heq : x[i.toNat]?.getD 0 = y[i.toNat]?.getD 0 := by simpa [std, ax, ay, AV.cells, RowKit.intOf] using hb
          refine ⟨i + 1, ⟨by omega, by omega, fun j hj => ?_⟩, by omega, [], _, rfl, by simp [AllEq, lk, std]⟩
          have hj : (j : Int) < i + 1 := hj
          by_cases hji : j < i.toNat
          · exact hi' j hji
          · obtain rfl : j = i.toNat := by omega
            exact heq
      · have hxy : x = y := by
          refine List.ext_getElem (by omega) fun j h1 h2 => ?_
          have := hi' j (by omega)
          rw [List.getElem?_eq_getElem h1, List.getElem?_eq_getElem h2] at this
          exact this
        clear en em h hxn hyn
        with_reducible refine cv2 (runesA x) (runesA y) ?_
        with_reducible repeat' first | refine aU heq ?_ | refine And.intro ?_ ?_ | intro hb
        rw [if_pos trivial]
        with_reducible refine cv2 (runesA x) (runesA y) ?_
        refine .pure rfl (.inl ?_)
        rw [he, decide_eq_true hxy]
end Go.Proofs.YtaklahcbeldbhaaGreatDoor
namespace Go.Proofs.YtaklahcbeldbhaaGreatDoor
open Go.RowKit Go.Lib
def ChainI : Int → List Itm → Int → Prop
  | a, [], e => a = e
  | a, x :: r, e => x.off = a ∧ 1 ≤ x.n ∧ ChainI (a + x.n) r e
theorem wide_chain (big : Bool) : ∀ (n : Nat) (l : List UInt8) (a : Int), l.length ≤ n → ChainI a (wideF big a l) (a + l.length) := by
  intro n
  induction n with
  | zero =>
    intro l a h
    have : l = [] := List.eq_nil_of_length_eq_zero (by omega)
    subst this
    rw [wideF, dif_pos rfl]
    show a = _
    simp
  | succ n ih =>
    intro l a h
    by_cases hl : l = []
    · subst hl
      rw [wideF, dif_pos rfl]
      show a = _
      simp
    · have hs := stepW_n big l hl
      rw [wideF, dif_neg hl]
      refine ⟨rfl, hs.1, ?_⟩
      have := ih (l.drop (stepW big l).2.toNat) (a + (stepW big l).2) (by rw [List.length_drop]; omega)
      rw [List.length_drop] at this
      rw [show a + (stepW big l).2 + ((l.length - (stepW big l).2.toNat : Nat) : Int) = a + l.length by omega] at this
      exact this
theorem firstF_n (l : List UInt8) (h : l ≠ []) : 1 ≤ (firstF l).2 ∧ (firstF l).2 ≤ l.length := by
  have hl : 0 < l.length := List.length_pos_iff.2 h
  unfold firstF
  split
  · exact ⟨Nat.le_refl _, hl⟩
  · exact ⟨decodeL_width _, decodeL_le _ h⟩
theorem items_chain : ∀ (n off : Nat) (l : List UInt8), l.length ≤ n → ChainI off ((itemsGo n off l).map itmOf) (off + l.length : Int) := by
  intro n
  induction n with
  | zero =>
    intro off l h
    have : l = [] := List.eq_nil_of_length_eq_zero (by omega)
    subst this
    show (off : Int) = _
    simp
  | succ n ih =>
    intro off l h
    cases l with
    | nil => show (off : Int) = _; simp
    | cons b t =>
      have hs := firstF_n (b :: t) (by simp)
      refine ⟨rfl, by show (1 : Int) ≤ ((firstF (b :: t)).2 : Int); omega, ?_⟩
      have := ih (off + (firstF (b :: t)).2) ((b :: t).drop (firstF (b :: t)).2) (by rw [List.length_drop]; omega)
      rw [List.length_drop] at this
      rw [show ((off + (firstF (b :: t)).2 : Nat) : Int) + (((b :: t).length - (firstF (b :: t)).2 : Nat) : Int) = off + (b :: t).length by omega, show ((off + (firstF (b :: t)).2 : Nat) : Int) = off + (firstF (b :: t)).2 by omega] at this
      exact this
theorem chain_all : ∀ (ps : List Itm) (a e : Int), ChainI a ps e → (ps.length : Int) ≤ e - a ∧ (∀ x ∈ ps.map Itm.off ++ [e], a ≤ x ∧ x ≤ e) ∧ List.Pairwise (· ≤ ·) (ps.map Itm.off ++ [e]) ∧ (ps.map Itm.off ++ [e])[0]? = some a
  | [], a, e, h => by
    have h : a = e := h
    subst h
    simp
  | x :: r, a, e, h => by
    obtain ⟨h1, h2, h3⟩ := h
    obtain ⟨h4, h5, h6, h7⟩ := chain_all r _ e h3
    refine ⟨by simp only [List.length_cons]; omega, fun y hy => ?_, ?_, by simp [h1]⟩
    · simp only [List.map_cons, List.cons_append, List.mem_cons] at hy
      rcases hy with rfl | hy
      · have := h5 e (by simp); omega
      · have := h5 y hy; omega
    · simp only [List.map_cons, List.cons_append]
      exact List.pairwise_cons.2 ⟨fun y hy => by have := h5 y hy; omega, h6⟩
theorem kind_012 (b : List UInt8) : (kindF b).1 = 0 ∨ (kindF b).1 = 1 ∨ (kindF b).1 = 2 := by
  have key : ∀ (x : List UInt8 × Int × Int), x ∈ signsL → x.2.1 = 0 ∨ x.2.1 = 1 ∨ x.2.1 = 2 := by decide
  unfold kindF kR
  split
  · rename_i x hx
    exact key x (by simpa using List.mem_of_find?_eq_some hx)
  · exact .inl rfl
theorem text_chain (b : List UInt8) : ChainI 0 (textI b) (b.length - (kindF b).2) := by
  have hb := kind_bom b
  have hl : (((b.drop (kindF b).2.toNat).length : Nat) : Int) = b.length - (kindF b).2 := by rw [List.length_drop]; omega
  have h8 := items_chain _ 0 (b.drop (kindF b).2.toNat) (Nat.le_refl _)
  have hw := fun big => wide_chain big _ (b.drop (kindF b).2.toNat) 0 (Nat.le_refl _)
  rw [hl, Int.zero_add] at hw
  rw [hl, show ((0 : Nat) : Int) = 0 from rfl, Int.zero_add] at h8
  rw [textI]
  rcases kind_012 b with h | h | h
  · rw [pcsF, if_pos h]; exact h8
  · rw [pcsF, if_neg (by omega), if_pos h]; exact hw true
  · rw [pcsF, if_neg (by omega), if_neg (by omega), if_pos h]; exact hw false
theorem text_off (b : List UInt8) : (textF' b).off = ((textI b).map Itm.off ++ [(b.length : Int) - (kindF b).2]).map (· + (kindF b).2) := by
  show (textI b).map _ ++ [(b.length : Int)] = _
  simp
theorem text_ok (b : List UInt8) : TxtOk (textF' b) b ∧ (textF' b).off[0]?.getD 0 = (kindF b).2 ∧ (textF' b).r.length ≤ b.length ∧ (textI b).length ≤ b.length ∧ ∀ x ∈ textI b, 0 ≤ x.off ∧ x.off ≤ b.length := by
  have hb := kind_bom b
  obtain ⟨h1, h2, h3, h4⟩ := chain_all _ _ _ (text_chain b)
  have hr : (textF' b).r.length = (textI b).length := by show ((textI b).map Itm.r).length = _; simp
  have ho := text_off b
  generalize hL : (textI b).map Itm.off ++ [(b.length : Int) - (kindF b).2] = L at h2 h3 h4 ho
  have hLl : L.length = (textI b).length + 1 := by rw [← hL]; simp
  have hlast : L[(textI b).length]? = some ((b.length : Int) - (kindF b).2) := by rw [← hL, List.getElem?_append_right (by simp)]; simp
  refine ⟨⟨by rw [ho, hr, List.length_map, hLl], fun x hx => ?_, ?_, fun i j hij hj => ?_⟩, ?_, by omega, by omega, fun x hx => ?_⟩
  · rw [ho] at hx
    obtain ⟨y, hy, rfl⟩ := List.mem_map.1 hx
    have := h2 y hy; omega
  · rw [ho, hr, List.getElem?_map, hlast]
    show (b.length : Int) - (kindF b).2 + (kindF b).2 = _
    omega
  · have hi1 : i < L.length := by omega
    have hj1 : j < L.length := by omega
    rw [ho, List.getElem?_map, List.getElem?_map, List.getElem?_eq_getElem hi1, List.getElem?_eq_getElem hj1]
    show L[i] + _ ≤ L[j] + _
    rcases Nat.lt_or_eq_of_le hij with h | h
    · have := List.pairwise_iff_getElem.1 h3 i j hi1 hj1 h
      omega
    · subst h; exact Int.le_refl _
  · rw [ho, List.getElem?_map, h4]
    show (0 : Int) + _ = _
    omega
  · have := h2 x.off (by rw [← hL]; exact List.mem_append_left _ (List.mem_map.2 ⟨x, hx, rfl⟩))
    omega
end Go.Proofs.YtaklahcbeldbhaaGreatDoor
namespace Go.Proofs.YtaklahcbeldbhaaGreatDoor
open Go.RowKit Go.Lib
def strsZ (l : List (List UInt8)) : List AV := l.map fun x => .val (.string (bsZ x))
def strsV (l : List (List UInt8)) : List Value := l.map fun x => .string (bsZ x)
theorem strsZ_val (l : List (List UInt8)) : strsZ l = (strsV l).map .val := by simp [strsZ, strsV]
theorem strsZ_len (l : List (List UInt8)) : (strsZ l).length = l.length := by simp [strsZ]
theorem strsZ_app (a b : List (List UInt8)) : strsZ (a ++ b) = strsZ a ++ strsZ b := by simp [strsZ]
theorem strZ_cell {l : List (List UInt8)} {i : Int} (h0 : 0 ≤ i) (h1 : i < l.length) : std.nth (std.cel (std.at_ (strsZ l) i)) 0 = .val (.string (bsZ (l[i.toNat]?.getD []))) := by rw [strsZ, at_map (fun x => AV.val (.string (bsZ x))) h0 h1 []]; rfl
theorem has_strZ {x : AV} {b : ByteArray} (h : x = .val (.string b)) : (std.hasS x).q := by subst h; rfl
theorem str_ofZ {x : AV} {b : ByteArray} (h : x = .val (.string b)) : std.str x = b := by subst h; rfl
theorem zjoin_eq : ∀ ws : List (List UInt8), Lib.join ws [47] = zjoin ws
  | [] => rfl
  | [w] => by simp [Lib.join, zjoin, List.intercalate]
  | w :: x :: r => by
    rw [zjoin, ← zjoin_eq (x :: r)]
    simp [Lib.join, List.intercalate, List.intersperse]
theorem Join_b (ws : List (List UInt8)) (hw : ws ≠ []) (hl : ws.length ≤ 1000) (hj : (zjoin ws).length ≤ 1000000) : BCall Tryz.prog 13 [.slc 1 (strsZ ws), .val (.string ⟨#[47]⟩)] [] (.val (.string (bsZ (zjoin ws)))) [] := by
  refine BCall.hand (enters_of Tryz.func13 (by kernel_rfl) rfl) fun w g vs M hL => ?_
  obtain ⟨v1, vs1, rfl, h1, hL⟩ := argsCons hL
  obtain ⟨v2, vs2, rfl, h2, hL⟩ := argsCons hL
  obtain rfl := argsNil hL
  obtain rfl := argVal h2
  obtain ⟨A, c, ys, rfl, hr, hal⟩ := argRd h1 M
  rw [strsZ_val, flatVals] at hal
  obtain rfl := alikeVals hal
  rw [strsZ_len] at hr ⊢
  have hpos : 0 < ws.length := List.length_pos_iff.2 hw
  obtain ⟨b, o, rfl, _, hc⟩ := hr.at_ hpos
  have hcell : ∀ (j : Nat) x, (ws.map bsZ)[j]? = some x → w.cell? ⟨b, o + j, none⟩ = some (.string x) := fun j x hx => hc j _ (by
    rw [strsV, List.getElem?_map]
    rw [List.getElem?_map] at hx
    cases hj : ws[j]? with
    | none => rw [hj] at hx; cases hx
    | some y => rw [hj] at hx; cases hx; rfl)
  have hbk : b < w.heap.size := World.block_lt_of_cell? w _ (hcell 0 (bsZ ws[0]) (by rw [List.getElem?_map, List.getElem?_eq_getElem hpos]; rfl))
  have e1 : (ws.map bsZ).map (·.data.toList) = ws := by rw [List.map_map]; exact (List.map_congr_left fun x _ => bsZ_data x).trans (List.map_id _)
  have e2 : Lib.join ((ws.map bsZ).map (·.data.toList)) (⟨#[47]⟩ : ByteArray).data.toList = zjoin ws := by rw [e1]; exact zjoin_eq ws
  have := Any.strings_Join lJoin xJoin b o c (ws.map bsZ) ⟨#[47]⟩ w hcell hbk (by rw [List.length_map]; omega) (by rw [List.length_map]; exact hr.le) (by rw [e2]; omega)
  rw [e2, List.length_map] at this
  exact this.mono fun e w' ⟨h, hb⟩ => ⟨_, h, hb, PRel.val _ rfl⟩
theorem zspl_len : ∀ (s w : List UInt8), (zspl w s).length ≤ s.length + 1
  | [], w => Nat.le_refl _
  | c :: s, w => by
    rw [zspl, List.length_cons]; split
    · have := zspl_len s []
      rw [List.length_cons]; omega
    · have := zspl_len s (w ++ [c])
      omega
theorem zspl_mem : ∀ (s w : List UInt8), ∀ x ∈ zspl w s, x.length ≤ w.length + s.length
  | [], w, x, h => by
    rw [zspl, List.mem_singleton] at h; rw [h]; simp
  | c :: s, w, x, h => by
    rw [zspl] at h
    split at h
    · rcases List.mem_cons.1 h with rfl | h
      · omega
      · have := zspl_mem s [] x h
        rw [List.length_nil] at this
        rw [List.length_cons]; omega
    · have := zspl_mem s (w ++ [c]) x h
      rw [List.length_append, List.length_singleton] at this
      rw [List.length_cons]; omega
theorem genSplit_b (s : List UInt8) (hs : s.length ≤ 1000000) : BCall Tryz.prog 23 [.val (.string (bsZ s)), .val (.string ⟨#[47]⟩), .val (.int .i64 0), .val (.int .i64 (-1))] [] (.slc 1 (strsZ (zspl [] s))) [] := by
  refine BCall.hand (enters_of Tryz.func23 (by kernel_rfl) rfl) fun w g vs M hL => ?_
  obtain ⟨v1, vs1, rfl, h1, hL⟩ := argsCons hL
  obtain ⟨v2, vs2, rfl, h2, hL⟩ := argsCons hL
  obtain ⟨v3, vs3, rfl, h3, hL⟩ := argsCons hL
  obtain ⟨v4, vs4, rfl, h4, hL⟩ := argsCons hL
  obtain rfl := argsNil hL
  obtain rfl := argVal h1
  obtain rfl := argVal h2
  obtain rfl := argVal h3
  obtain rfl := argVal h4
  have hsz := bsZ_size s
  have h1s : 1 ≤ (⟨#[47]⟩ : ByteArray).size := Nat.le_refl 1
  have hle := Lib.countB_le ⟨#[47]⟩ h1s (bsZ s).size (bsZ s) (Nat.le_refl _)
  have hlen := Lib.splitB_all ⟨#[47]⟩ h1s 0 _ (bsZ s) rfl
  have hsp := splitB_zspl (bsZ s)
  rw [bsZ_data] at hsp
  have c := Any.strings_genSplit_core lSplit (by kernel_rfl) (bsZ s) ⟨#[47]⟩ 0 (-1) (Lib.countB (bsZ s) ⟨#[47]⟩ + 1) w (by omega) h1s (Nat.zero_le _)
    (fun x cs hx => (Any.strings_Index_one lIndex x 47 _).mono fun e w' ⟨h, hw⟩ => ⟨by rw [h, ← Lib.index_one], hw⟩)
    ((Any.strings_Count_one lCount (bsZ s) 47 w).mono fun e w' ⟨h, hw⟩ => ⟨by rw [h, show Lib.countByte (bsZ s).data.toList 47 = Lib.countB (bsZ s) ⟨#[47]⟩ from (Lib.count_one _ _).symm], hw⟩)
    (by decide) (by decide) (by rw [if_pos (by decide)]; omega)
  rw [Nat.add_sub_cancel, hlen] at c
  have e2 : Lib.cellsOf (Lib.splitB ⟨#[47]⟩ 0 (Lib.countB (bsZ s) ⟨#[47]⟩) (bsZ s)) (Lib.countB (bsZ s) ⟨#[47]⟩ + 1) = (strsV (zspl [] s)).toArray := by
    rw [← hlen, Lib.cellsOf_full, ← hsp, strsV, List.map_map]
    exact congrArg List.toArray (List.map_congr_left fun x _ => by show Value.string x = Value.string (bsZ x.data.toList); rw [bsZ_back])
  have hln : (zspl [] s).length = Lib.countB (bsZ s) ⟨#[47]⟩ + 1 := by rw [← hsp, List.length_map, hlen]
  rw [e2, ← hln] at c
  have hbd := zspl_len s []
  refine c.mono fun e w' ⟨h, hw⟩ => ⟨_, h, ?_, ?_⟩
  · rw [hw]; exact ba w _
  · rw [hw]
    refine own_slc (A' := (g.imm w _).A) (own_litN w _ rfl 9 (strsV (zspl [] s)).toArray 1 (zspl [] s).length (by simp [strsV]) (Nat.le_trans (show (zspl [] s).length ≤ 1000001 by omega) (by decide)) (strsV (zspl [] s)) (by simp)) (by decide) ?_ (strsZ_len _).symm (fun x hx => ?_) (fun b o h1 h2 => .inr ⟨h1, h2⟩)
    · rw [strsZ_val, flatVals]
      refine vals_alike fun u hu => ?_
      obtain ⟨y, _, rfl⟩ := List.mem_map.1 hu
      rfl
    · obtain ⟨y, _, rfl⟩ := List.mem_map.1 hx
      rfl
def zcsSp (x : List AV) : Nat → List AV → List Ob → Option (AV × List Ob) := fun f _ _ => match f with
  | 23 => some (.slc 1 x, [])
  | _ => none
theorem Split_b (s : List UInt8) (hs : s.length ≤ 1000000) : BCall Tryz.prog 15 [.val (.string (bsZ s)), .val (.string ⟨#[47]⟩)] [] (.slc 1 (strsZ (zspl [] s))) [] := by
  have c := genSplit_b s hs
  generalize bsZ s = B at c ⊢
  generalize strsZ (zspl [] s) = X at c ⊢
  refine fnN (zcsSp X) Tryz.func15 rfl fun _ _ => ?_
  with_reducible refine cv0 ?_
  exact ⟨c, .pure rfl (.inl rfl)⟩
end Go.Proofs.YtaklahcbeldbhaaGreatDoor
namespace Go.Proofs.YtaklahcbeldbhaaGreatDoor
open Go.RowKit Go.Lib
def zrdL (s : List UInt8) : List Int := (zrd s).getD []
def zrdB (s : List UInt8) : Bool := (zrd s).isSome
theorem zvals_len : ∀ (ws : List (List UInt8)) (l : List Int), zvals ws = some l → l.length = ws.length
  | [], l, h => by
    obtain rfl := Option.some.inj h; rfl
  | w :: r, l, h => by
    rw [zvals] at h
    cases hw : zvP w with
    | none => rw [hw] at h; cases h
    | some n =>
      rw [hw, Option.bind_some] at h
      cases hr : zvals r with
      | none => rw [hr] at h; cases h
      | some t =>
        rw [hr] at h
        obtain rfl := Option.some.inj h
        rw [List.length_cons, List.length_cons, zvals_len r t hr]
theorem zrdL_len (s : List UInt8) (h : s.length ≤ 1000) : (zrdL s).length ≤ 1000000 := by
  rw [zrdL]
  cases hr : zrd s with
  | none => exact Nat.zero_le _
  | some l =>
    rw [zrd] at hr
    split at hr
    · obtain rfl := Option.some.inj hr; exact Nat.zero_le _
    · have h1 := zvals_len _ _ hr
      have h2 := zspl_len s []
      show l.length ≤ _
      omega
theorem zjoin_snoc : ∀ (ws : List (List UInt8)) (w : List UInt8), ws ≠ [] → zjoin (ws ++ [w]) = zjoin ws ++ 47 :: w
  | [], _, h => absurd rfl h
  | [x], w, _ => rfl
  | x :: y :: r, w, _ => by
    show x ++ 47 :: zjoin ((y :: r) ++ [w]) = (x ++ 47 :: zjoin (y :: r)) ++ 47 :: w
    rw [zjoin_snoc (y :: r) w (by simp), List.append_assoc]; rfl
theorem zjoin_le : ∀ (ws : List (List UInt8)) (k : Nat), (∀ w ∈ ws, w.length ≤ k) → (zjoin ws).length ≤ ws.length * (k + 1)
  | [], _, _ => Nat.zero_le _
  | [w], k, h => by
    have := h w (.head _)
    rw [zjoin, List.length_singleton]; omega
  | w :: x :: r, k, h => by
    have h1 := h w (.head _)
    have h2 := zjoin_le (x :: r) k fun v hv => h v (.tail _ hv)
    rw [zjoin, List.length_append, List.length_cons, List.length_cons (a := w), Nat.add_mul]
    omega
def zws (l : List Int) : List (List UInt8) := l.map fun n => zdg n.toNat
theorem zws_join_le (l : List Int) (hl : l.length ≤ 8) (h : ∀ n ∈ l, n ≤ 9223372036854775807) : (zjoin (zws l)).length ≤ 160 := by
  have := zjoin_le (zws l) 19 fun w hw => by
    obtain ⟨n, hn, rfl⟩ := List.mem_map.1 hw
    exact zdg_19 n (h n hn)
  rw [zws, List.length_map] at this
  rw [zws]
  omega
def zcsPr (nb : Int → ByteArray) (J : ByteArray) : Nat → List AV → List Ob → Option (AV × List Ob) := fun f args _ => match f, args with
  | 12, [.val (.int .i64 n)] => some (.val (.string (nb n)), [])
  | 13, _ => some (.val (.string J), [])
  | _, _ => none
theorem zprt_neg {l : List Int} {i : Int} (h0 : 0 ≤ i) (h1 : i.toNat < l.length) (h : l[i.toNat]?.getD 0 < 0) : zprt l = [] := by
  rw [List.getElem?_eq_getElem h1] at h
  exact zrd_neg l _ (List.getElem_mem h1) h
theorem zprt_pos {l : List Int} (hl : l ≠ []) (h : ∀ n ∈ l, 0 ≤ n) : zprt l = zjoin (zws l) := by
  rw [zprt, if_neg hl, if_neg]
  · rfl
  · rw [Bool.not_eq_true, List.any_eq_false]
    intro n hn
    have := h n hn
    simpa using this
theorem ztake_all {l : List Int} {i : Nat} (hi : i < l.length) (h : ∀ n ∈ l.take i, 0 ≤ n) (h2 : 0 ≤ l[i]?.getD 0) : ∀ n ∈ l.take (i + 1), 0 ≤ n := by
  rw [List.take_add_one, List.getElem?_eq_getElem hi]
  rw [List.getElem?_eq_getElem hi] at h2
  intro n hn
  rcases List.mem_append.1 hn with hn | hn
  · exact h n hn
  · have hn : n ∈ [l[i]] := hn
    rw [List.mem_singleton] at hn
    rw [hn]; exact h2
theorem zws_step {l : List Int} {i : Nat} (hi : i < l.length) : strsZ (zws (l.take (i + 1))) = strsZ (zws (l.take i)) ++ [.val (.string (nbZ (l[i]?.getD 0)))] := by
  rw [List.take_add_one, List.getElem?_eq_getElem hi, zws, zws, List.map_append, strsZ_app]; rfl
set_option maxRecDepth 20000 in
theorem PPrint_b (l : List Int) (hl : l.length ≤ 8) (h64 : ∀ n ∈ l, n ≤ 9223372036854775807) : BCall Tryz.prog 6 [.slc 1 (intsA l)] [] (.val (.string (bsZ (zprt l)))) [] := by
  have hjl := zws_join_le l hl h64
  have hwl : (zws l).length = l.length := List.length_map ..
  obtain ⟨n, hn⟩ := exLen l
  have hn8 : 0 ≤ n ∧ n ≤ 8 := by rw [hn.eq]; omega
  have hla : std.len (intsA l) = n := by show ((intsA l).length : Int) = n; rw [ints_len, hn.eq]
  have hat : ∀ i : Int, 0 ≤ i → i < n → std.nth (std.cel (std.at_ (intsA l) i)) 0 = .val (.int .i64 (l[i.toNat]?.getD 0)) := fun i h0 h1 => int_cell h0 (by rw [← hn.eq]; exact h1)
  have h64 : ∀ i : Int, 0 ≤ i → i < n → l[i.toNat]?.getD 0 ≤ 9223372036854775807 := fun i h0 h1 => by
    have h2 := hn.eq
    rw [List.getElem?_eq_getElem (show i.toNat < l.length by omega)]
    exact h64 _ (List.getElem_mem _)
  have hne : l ≠ [] ↔ n ≠ 0 := ⟨fun h h2 => h (List.eq_nil_of_length_eq_zero (by have := hn.eq; omega)), fun h h2 => h (by rw [hn.eq, h2]; rfl)⟩
  have hneg : ∀ i : Int, 0 ≤ i → i < n → l[i.toNat]?.getD 0 < 0 → zprt l = [] := fun i h0 h1 h => zprt_neg h0 (by have := hn.eq; omega) h
  have hall : n ≠ 0 → (∀ x ∈ l.take n.toNat, 0 ≤ x) → zprt l = zjoin (zws l) ∧ strsZ (zws (l.take n.toNat)) = strsZ (zws l) := fun h0 h => by
    have h2 := hn.eq
    rw [List.take_of_length_le (by omega)] at h ⊢
    exact ⟨zprt_pos (hne.2 h0) h, rfl⟩
  have hst : ∀ i : Int, 0 ≤ i → i < n → strsZ (zws (l.take (i + 1).toNat)) = strsZ (zws (l.take i.toNat)) ++ [.val (.string (nbZ (l[i.toNat]?.getD 0)))] := fun i h0 h1 => by
    have h2 := hn.eq
    rw [show (i + 1).toNat = i.toNat + 1 by omega]
    exact zws_step (by omega)
  have hta : ∀ i : Int, 0 ≤ i → i < n → (∀ x ∈ l.take i.toNat, 0 ≤ x) → 0 ≤ l[i.toNat]?.getD 0 → ∀ x ∈ l.take (i + 1).toNat, 0 ≤ x := fun i h0 h1 h2 h3 => by
    have h4 := hn.eq
    rw [show (i + 1).toNat = i.toNat + 1 by omega]
    exact ztake_all (by omega) h2 h3
  have hlen : ∀ i : Int, i ≤ n → (strsZ (zws (l.take i.toNat))).length ≤ 8 := fun i h1 => by
    have h2 := hn.eq
    rw [strsZ_len, zws, List.length_map, List.length_take]; omega
  have cJ : n ≠ 0 → BCall Tryz.prog 13 [.slc 1 (strsZ (zws l)), .val (.string ⟨#[47]⟩)] [] (.val (.string (bsZ (zjoin (zws l))))) [] := fun h => Join_b (zws l) (by rw [zws]; simpa using hne.2 h) (by omega) (by omega)
  have hz : n = 0 → zprt l = [46] := fun h => by
    have : l = [] := Classical.byContradiction fun h2 => hne.1 h2 h
    rw [this]; rfl
  obtain ⟨P, hP⟩ : ∃ P, bsZ (zprt l) = P := ⟨_, rfl⟩
  have hPn : zprt l = [] → (⟨#[]⟩ : ByteArray) = P := fun h => by rw [← hP, h]; rfl
  have hPd : zprt l = [46] → (⟨#[46]⟩ : ByteArray) = P := fun h => by rw [← hP, h]; rfl
  have hPj : zprt l = zjoin (zws l) → bsZ (zjoin (zws l)) = P := fun h => by rw [← hP, h]
  rw [hP]
  clear hP hjl hwl hne hn hl
  refine fnN (zcsPr nbZ (bsZ (zjoin (zws l)))) Tryz.func6 rfl fun _ _ => ?_
  with_reducible refine cv3 nbZ (bsZ (zjoin (zws l))) (intsA l) ?_
  refine ⟨fun h => .pure rfl (.inl ?_), fun h => ?_⟩
  · have h : std.eqI (std.len (intsA l)) 0 = true := h
    rw [hla] at h
    have h : n = 0 := of_decide_eq_true h
    exact congrArg (fun x => AV.val (.string x)) (hPd (hz h))
  · have h : std.eqI (std.len (intsA l)) 0 = false := h
    rw [hla] at h
    have h : ¬ n = 0 := of_decide_eq_false h
    refine loopN (zcsPr nbZ (bsZ (zjoin (zws l)))) (Int) (fun i => ⟨[(3, .row 0 0), (9, .slc 1 (intsA l)), (10, .val (.int .i64 n)), (11, .val (.int .i64 i))], [.row 9 1 false 0 (strsZ (zws (l.take i.toNat)))]⟩) (fun i => 0 ≤ i ∧ i ≤ n ∧ ∀ x ∈ l.take i.toNat, 0 ≤ x) (fun i => (n - i).toNat) 0 ?_ ?_ ?_
    · exact ⟨Int.le_refl 0, hn8.1, fun x hx => by simp at hx⟩
    · refine ⟨[none], _, rfl, ?_⟩
      have e1 : strsZ (zws (l.take (0 : Int).toNat)) = [] := rfl
      rw [e1]
      exact eq1 hla
    · rintro i ⟨hi0, hi1, hi⟩
      have hi0 : 0 ≤ i := hi0
      have hi1 : i ≤ n := hi1
      have hi : ∀ x ∈ l.take i.toNat, 0 ≤ x := hi
      have hle := hlen i hi1
      with_reducible refine cv4 nbZ (bsZ (zjoin (zws l))) (intsA l) (strsZ (zws (l.take i.toNat))) ?_
      refine ⟨fun h2 => ?_, fun h2 => ?_⟩
      · have hin : i < n := of_decide_eq_true h2
        have hx := hat i hi0 hin
        have e64 := h64 i hi0 hin
        refine ⟨⟨hi0, by show i < std.len (intsA l); rw [hla]; exact hin⟩, ⟨has_int hx, trivial⟩, fun h3 => ?_, fun h3 => ?_⟩
        · have h3 : std.ltI (std.int (std.nth (std.cel (std.at_ (intsA l) i)) 0)) 0 = true := h3
          rw [int_of hx] at h3
          have hP1 := hPn (hneg i hi0 hin (of_decide_eq_true h3))
          with_reducible refine cv2 (intsA l) (strsZ (zws (l.take i.toNat))) ?_
          exact .pure rfl (.inl (congrArg (fun x => AV.val (.string x)) hP1))
        · have h3 : std.ltI (std.int (std.nth (std.cel (std.at_ (intsA l) i)) 0)) 0 = false := h3
          rw [int_of hx] at h3
          have h3 : ¬ l[i.toNat]?.getD 0 < 0 := of_decide_eq_false h3
          have cN := znumber_b (l[i.toNat]?.getD 0) (by omega) e64
          have hS := hst i hi0 hin
          have ei := int_of hx
          refine ⟨?_, ?_, ?_, i + 1, ⟨by omega, by omega, hta i hi0 hin hi (by omega)⟩, by omega, [some 0], _, rfl, ?_⟩
          · show BCall _ _ [.val (.int .i64 (std.int (std.nth (std.cel (std.at_ (intsA l) i)) 0)))] [] (.val (.string (nbZ (std.int (std.nth (std.cel (std.at_ (intsA l) i)) 0))))) []
            rw [ei]; exact cN
          · show (strsZ (zws (l.take i.toNat))).length + 1 ≤ 1000000000
            omega
          · show std.inR .i64 (i + 1)
            rw [inR64]; omega
          · rw [hS, ← ei]
            exact eq0
      · have hin : ¬ i < n := of_decide_eq_false h2
        obtain rfl : i = n := by omega
        obtain ⟨e1, e2⟩ := hall h hi
        rw [e2]
        have cj := cJ h
        have ej := hPj e1
        rw [if_pos trivial]
        with_reducible refine cv4 nbZ (bsZ (zjoin (zws l))) (intsA l) (strsZ (zws l)) ?_
        exact ⟨cj, .pure rfl (.inl (congrArg (fun x => AV.val (.string x)) ej))⟩
end Go.Proofs.YtaklahcbeldbhaaGreatDoor
namespace Go.Proofs.YtaklahcbeldbhaaGreatDoor
open Go.RowKit Go.Lib
def vnZ (b : ByteArray) : Int := zvN b.data.toList
def vbZ (b : ByteArray) : Bool := zvB b.data.toList
def csRd (X : List AV) (vn : ByteArray → Int) (vb : ByteArray → Bool) : Nat → List AV → List Ob → Option (AV × List Ob) := fun f args _ => match f, args with
  | 15, _ => some (.slc 1 X, [])
  | 16, [.val (.string b)] => some (.tup [.val (.int .i64 (vn b)), .val (.bool (vb b))], [])
  | _, _ => none
theorem zvals_at (ws : List (List UInt8)) (i : Nat) (h : i < ws.length) : zvals (ws.drop i) = (zvP (ws[i]?.getD [])).bind fun n => (zvals (ws.drop (i + 1))).map fun l => (n : Int) :: l := by
  rw [List.drop_eq_getElem_cons h, zvals, List.getElem?_eq_getElem h]; rfl
theorem zvals_step (ws : List (List UInt8)) (i : Nat) (h : i < ws.length) (out : List Int) (V : Option (List Int)) (hJ : (zvals (ws.drop i)).map (out ++ ·) = V) :
    (zvB (ws[i]?.getD []) = false → V = none) ∧ (zvB (ws[i]?.getD []) = true → (zvals (ws.drop (i + 1))).map ((out ++ [zvN (ws[i]?.getD [])]) ++ ·) = V) := by
  rw [zvals_at ws i h] at hJ
  rw [zvB, zvN]
  cases hv : zvP (ws[i]?.getD []) with
  | none =>
    rw [hv] at hJ
    exact ⟨fun _ => hJ.symm, fun h => Bool.noConfusion h⟩
  | some n =>
    rw [hv] at hJ
    refine ⟨fun h => Bool.noConfusion h, fun _ => ?_⟩
    rw [← hJ, Option.bind_some, Option.map_map]
    congr 1
    funext l
    show (out ++ [(n : Int)]) ++ l = out ++ ((n : Int) :: l)
    rw [List.append_assoc]; rfl
set_option maxRecDepth 20000 in
theorem PRead_b (s : List UInt8) (hs : s.length ≤ 1000) : BCall Tryz.prog 8 [.val (.string (bsZ s))] [] (.tup [.slc 1 (intsA (zrdL s)), .val (.bool (zrdB s))]) [] := by
  have cS := Split_b s (by omega)
  have hE : std.eqS (bsZ s) ⟨#[46]⟩ = decide (s = [46]) := bsZ_eq s [46]
  have hsl := zspl_len s []
  obtain ⟨R, hR⟩ : ∃ R, R = AV.tup [.slc 1 (intsA (zrdL s)), .val (.bool (zrdB s))] := ⟨_, rfl⟩
  obtain ⟨V, hV⟩ : ∃ V, zvals (zspl [] s) = V := ⟨_, rfl⟩
  have hdot : s = [46] → leA (.tup [.val (.slice none 0 0), .val (.bool true)]) R := fun h => by
    rw [hR, zrdL, zrdB, zrd, if_pos h]
    exact ⟨.inr (.inl ⟨rfl, _, rfl⟩), .inl rfl, trivial⟩
  have hno : ¬ s = [46] → V = none → leA (.tup [.val (.slice none 0 0), .val (.bool false)]) R := fun h h2 => by
    rw [hR, zrdL, zrdB, zrd, if_neg h, hV, h2]
    exact ⟨.inr (.inl ⟨rfl, _, rfl⟩), .inl rfl, trivial⟩
  have hyes : ¬ s = [46] → ∀ l, V = some l → leA (.tup [.slc 1 (intsA l), .val (.bool true)]) R := fun h l h2 => by
    rw [hR, zrdL, zrdB, zrd, if_neg h, hV, h2]
    exact ⟨.inl rfl, .inl rfl, trivial⟩
  rw [← hR]
  clear hR
  have hws := fun x => zspl_mem s [] x
  generalize zspl [] s = ws at cS hV hsl hws
  generalize bsZ s = B at cS hE
  obtain ⟨n, hn⟩ := exLen ws
  have hn8 : 0 ≤ n ∧ n ≤ 1001 := by rw [hn.eq]; omega
  have hla : std.len (strsZ ws) = n := by show ((strsZ ws).length : Int) = n; rw [strsZ_len, hn.eq]
  have hat : ∀ i : Int, 0 ≤ i → i < n → std.nth (std.cel (std.at_ (strsZ ws) i)) 0 = .val (.string (bsZ (ws[i.toNat]?.getD []))) := fun i h0 h1 => strZ_cell h0 (by rw [← hn.eq]; exact h1)
  have cV : ∀ i : Int, 0 ≤ i → i < n → BCall Tryz.prog 16 [.val (.string (bsZ (ws[i.toNat]?.getD [])))] [] (zvA (ws[i.toNat]?.getD [])) [] := fun i h0 h1 => zvalue_b _ (by
    have h2 := hn.eq
    have h3 : i.toNat < ws.length := by omega
    rw [List.getElem?_eq_getElem h3]
    have := hws _ (List.getElem_mem h3)
    rw [List.length_nil] at this
    show ws[i.toNat].length ≤ _
    omega)
  have hst : ∀ i : Int, 0 ≤ i → i < n → ∀ out, (zvals (ws.drop i.toNat)).map (out ++ ·) = V → (zvB (ws[i.toNat]?.getD []) = false → V = none) ∧ (zvB (ws[i.toNat]?.getD []) = true → (zvals (ws.drop (i + 1).toNat)).map ((out ++ [zvN (ws[i.toNat]?.getD [])]) ++ ·) = V) := fun i h0 h1 out hJ => by
    have h2 := hn.eq
    rw [show (i + 1).toNat = i.toNat + 1 by omega]
    exact zvals_step ws i.toNat (by omega) out V hJ
  have hend : ∀ out, (zvals (ws.drop n.toNat)).map (out ++ ·) = V → V = some out := fun out h => by
    rw [List.drop_of_length_le (by rw [hn.eq]; omega)] at h
    rw [← h]
    show some (out ++ []) = _
    rw [List.append_nil]
  have hbeg : (zvals (ws.drop (0 : Int).toNat)).map (([] : List Int) ++ ·) = V := by
    rw [← hV]
    show (zvals ws).map (fun x => x) = _
    rw [Option.map_id']
  clear hws hn hV hsl
  refine fnN (csRd (strsZ ws) vnZ vbZ) Tryz.func8 rfl fun _ _ => ?_
  with_reducible refine cv3 (strsZ ws) vnZ vbZ ?_
  refine ⟨fun h => .pure rfl ?_, fun h => ⟨cS, ?_⟩⟩
  · have h : std.eqS B ⟨#[46]⟩ = true := h
    rw [hE] at h
    exact hdot (of_decide_eq_true h)
  · have h : std.eqS B ⟨#[46]⟩ = false := h
    rw [hE] at h
    have h : ¬ s = [46] := of_decide_eq_false h
    have hno := hno h
    have hyes := hyes h
    clear hdot hE cS h
    refine loopN (csRd (strsZ ws) vnZ vbZ) (Int × List Int) (fun x => ⟨[(4, .row 0 0), (12, .slc 1 (strsZ ws)), (13, .val (.int .i64 n)), (14, .val (.int .i64 x.1))], [.row 3 1 false 0 (intsA x.2)]⟩) (fun x => 0 ≤ x.1 ∧ x.1 ≤ n ∧ (zvals (ws.drop x.1.toNat)).map (x.2 ++ ·) = V ∧ (x.2.length : Int) ≤ x.1) (fun x => (n - x.1).toNat) (0, []) ?_ ?_ ?_
    · exact ⟨Int.le_refl 0, hn8.1, hbeg, Int.le_refl 0⟩
    · refine ⟨[none], _, rfl, ?_⟩
      have e1 : intsA ((0, []) : Int × List Int).2 = [] := rfl
      rw [e1]
      exact eq1 hla
    · rintro ⟨i, out⟩ ⟨hi0, hi1, hJ, hol⟩
      have hi0 : 0 ≤ i := hi0
      have hi1 : i ≤ n := hi1
      have hJ : (zvals (ws.drop i.toNat)).map (out ++ ·) = V := hJ
      have hol : (out.length : Int) ≤ i := hol
      have hil := ints_len out
      with_reducible refine cv4 (strsZ ws) vnZ vbZ (intsA out) ?_
      refine ⟨fun h2 => ?_, fun h2 => ?_⟩
      · have hin : i < n := of_decide_eq_true h2
        have hx := hat i hi0 hin
        have ex := str_ofZ hx
        have cv := cV i hi0 hin
        obtain ⟨s1, s2⟩ := hst i hi0 hin out hJ
        have hvb : vbZ (std.str (std.nth (std.cel (std.at_ (strsZ ws) i)) 0)) = zvB (ws[i.toNat]?.getD []) := by rw [ex, vbZ, bsZ_data]
        have hvn : vnZ (std.str (std.nth (std.cel (std.at_ (strsZ ws) i)) 0)) = zvN (ws[i.toNat]?.getD []) := by rw [ex, vnZ, bsZ_data]
        refine ⟨⟨hi0, by show i < std.len (strsZ ws); rw [hla]; exact hin⟩, ⟨has_strZ hx, trivial⟩, ?_, fun h3 => ?_, fun h3 => ?_⟩
        · show BCall _ _ [.val (.string (std.str (std.nth (std.cel (std.at_ (strsZ ws) i)) 0)))] [] (.tup [.val (.int .i64 (vnZ (std.str (std.nth (std.cel (std.at_ (strsZ ws) i)) 0)))), .val (.bool (vbZ (std.str (std.nth (std.cel (std.at_ (strsZ ws) i)) 0))))]) []
          rw [hvb, hvn, ex]
          exact cv
        · have h3 : (!(vbZ (std.str (std.nth (std.cel (std.at_ (strsZ ws) i)) 0)))) = true := h3
          rw [hvb] at h3
          have hV := s1 (by simpa using h3)
          with_reducible refine cv4 (strsZ ws) vnZ vbZ (intsA out) ?_
          exact .pure rfl (hno hV)
        · have h3 : (!(vbZ (std.str (std.nth (std.cel (std.at_ (strsZ ws) i)) 0)))) = false := h3
          rw [hvb] at h3
          have h4 : zvB (ws[i.toNat]?.getD []) = true := by simpa using h3
          have hJ2 := s2 h4
          have eO : intsA (out ++ [zvN (ws[i.toNat]?.getD [])]) = intsA out ++ [.val (.int .i64 (vnZ (std.str (std.nth (std.cel (std.at_ (strsZ ws) i)) 0))))] := by rw [hvn, ints_app]; rfl
          refine ⟨?_, ?_, (i + 1, out ++ [zvN (ws[i.toNat]?.getD [])]), ⟨by show 0 ≤ i + 1; omega, by show i + 1 ≤ n; omega, hJ2, by show ((out ++ [zvN (ws[i.toNat]?.getD [])]).length : Int) ≤ i + 1; rw [List.length_append, List.length_singleton]; omega⟩, by show (n - (i + 1)).toNat < (n - i).toNat; omega, [some 0], _, rfl, ?_⟩
          · show (intsA out).length + 1 ≤ 1000000000
            omega
          · show std.inR .i64 (i + 1)
            rw [inR64]; omega
          · show AllEq _
            rw [eO]
            exact eq0
      · have hin : ¬ i < n := of_decide_eq_false h2
        obtain rfl : i = n := by omega
        have hV := hend out hJ
        rw [if_pos trivial]
        with_reducible refine cv4 (strsZ ws) vnZ vbZ (intsA out) ?_
        exact .pure rfl (hyes out hV)
end Go.Proofs.YtaklahcbeldbhaaGreatDoor
namespace Go.Proofs.YtaklahcbeldbhaaGreatDoor
open Go.RowKit Go.Lib
def csRp (nb : Int → ByteArray) : Nat → List AV → List Ob → Option (AV × List Ob) := fun f args _ => match f, args with
  | 14, [.val (.int .i64 n)] => some (.val (.string (nb n)), [])
  | _, _ => none
def zsoF (l : List Int) (i : Int) : ByteArray := bsZ (zjoin (zws (l.take i.toNat)))
theorem zso_step {l : List Int} {i : Nat} (hi : i < l.length) (h0 : 0 < i) : std.catS (std.catS (bsZ (zjoin (zws (l.take i)))) ⟨#[47]⟩) (nbZ (l[i]?.getD 0)) = bsZ (zjoin (zws (l.take (i + 1)))) := by
  rw [List.take_add_one, List.getElem?_eq_getElem hi]
  have e : zws (l.take i ++ (some l[i]).toList) = zws (l.take i) ++ [zdg l[i].toNat] := by rw [zws, zws, List.map_append]; rfl
  have hne : zws (l.take i) ≠ [] := by
    rw [zws]
    intro h
    have := congrArg List.length h
    rw [List.length_map, List.length_take, List.length_nil] at this
    omega
  rw [e, zjoin_snoc _ _ hne, show (⟨#[47]⟩ : ByteArray) = bsZ [47] from rfl, bsZ_cat, Option.getD_some, nbZ, bsZ_cat, List.append_assoc]; rfl
theorem zso_first {l : List Int} (hi : 0 < l.length) : std.catS (bsZ (zjoin (zws (l.take 0)))) (nbZ (l[0]?.getD 0)) = bsZ (zjoin (zws (l.take 1))) := by
  rw [List.take_add_one (i := 0), List.getElem?_eq_getElem hi]
  show std.catS (bsZ []) (bsZ (zdg l[0].toNat)) = _
  rw [bsZ_cat]; rfl
set_option maxRecDepth 20000 in
theorem RPrint_b (l : List Int) (hl : l.length ≤ 8) (h64 : ∀ n ∈ l, n ≤ 9223372036854775807) : BCall Tryz.prog 7 [.slc 1 (intsA l)] [] (.val (.string (bsZ (zprt l)))) [] := by
  obtain ⟨n, hn⟩ := exLen l
  have hn8 : 0 ≤ n ∧ n ≤ 8 := by rw [hn.eq]; omega
  have hla : std.len (intsA l) = n := by show ((intsA l).length : Int) = n; rw [ints_len, hn.eq]
  have hat : ∀ i : Int, 0 ≤ i → i < n → std.nth (std.cel (std.at_ (intsA l) i)) 0 = .val (.int .i64 (l[i.toNat]?.getD 0)) := fun i h0 h1 => int_cell h0 (by rw [← hn.eq]; exact h1)
  have hsz : ∀ i : Int, (zsoF l i).size ≤ 160 := fun i => by
    rw [zsoF, bsZ_size]
    exact zws_join_le _ (by rw [List.length_take]; omega) fun x hx => h64 x (List.mem_of_mem_take hx)
  have h64 : ∀ i : Int, 0 ≤ i → i < n → l[i.toNat]?.getD 0 ≤ 9223372036854775807 := fun i h0 h1 => by
    have h2 := hn.eq
    rw [List.getElem?_eq_getElem (show i.toNat < l.length by omega)]
    exact h64 _ (List.getElem_mem _)
  have hne : l ≠ [] ↔ n ≠ 0 := ⟨fun h h2 => h (List.eq_nil_of_length_eq_zero (by have := hn.eq; omega)), fun h h2 => h (by rw [hn.eq, h2]; rfl)⟩
  have hneg : ∀ i : Int, 0 ≤ i → i < n → l[i.toNat]?.getD 0 < 0 → zprt l = [] := fun i h0 h1 h => zprt_neg h0 (by have := hn.eq; omega) h
  have hta : ∀ i : Int, 0 ≤ i → i < n → (∀ x ∈ l.take i.toNat, 0 ≤ x) → 0 ≤ l[i.toNat]?.getD 0 → ∀ x ∈ l.take (i + 1).toNat, 0 ≤ x := fun i h0 h1 h2 h3 => by
    have h4 := hn.eq
    rw [show (i + 1).toNat = i.toNat + 1 by omega]
    exact ztake_all (by omega) h2 h3
  have hsp : ∀ i : Int, 0 < i → i < n → std.catS (std.catS (zsoF l i) ⟨#[47]⟩) (nbZ (l[i.toNat]?.getD 0)) = zsoF l (i + 1) := fun i h0 h1 => by
    have h2 := hn.eq
    rw [zsoF, zsoF, show (i + 1).toNat = i.toNat + 1 by omega]
    exact zso_step (by omega) (by omega)
  have hs0 : ∀ i : Int, 0 ≤ i → i < n → ¬ 0 < i → std.catS (zsoF l i) (nbZ (l[i.toNat]?.getD 0)) = zsoF l (i + 1) := fun i h0 h1 h3 => by
    obtain rfl : i = 0 := by omega
    have h2 := hn.eq
    exact zso_first (by omega)
  have hbeg : zsoF l 0 = ⟨#[]⟩ := rfl
  have hend : (∀ x ∈ l.take n.toNat, 0 ≤ x) → (std.eqS (zsoF l n) ⟨#[]⟩ = true → zprt l = [46]) ∧ (std.eqS (zsoF l n) ⟨#[]⟩ = false → bsZ (zprt l) = zsoF l n) := fun h => by
    have h2 := hn.eq
    have e : l.take n.toNat = l := List.take_of_length_le (by omega)
    rw [zsoF, e]
    rw [e] at h
    have hb : std.eqS (bsZ (zjoin (zws l))) ⟨#[]⟩ = decide (zjoin (zws l) = []) := bsZ_eq _ []
    rw [hb]
    by_cases hl : l = []
    · subst hl
      exact ⟨fun _ => rfl, fun h => Bool.noConfusion h⟩
    · refine ⟨fun h => ?_, fun _ => by rw [zprt_pos hl ‹_›]⟩
      have h := of_decide_eq_true h
      obtain ⟨x, r, rfl⟩ : ∃ x r, l = x :: r := by cases l with | nil => exact absurd rfl hl | cons x r => exact ⟨x, r, rfl⟩
      exfalso
      have h3 : zdg x.toNat = [] := by
        cases r with
        | nil => exact h
        | cons y r => exact (List.append_eq_nil_iff.1 h).1
      exact zdg_ne _ h3
  obtain ⟨P, hP⟩ : ∃ P, bsZ (zprt l) = P := ⟨_, rfl⟩
  have hPn : zprt l = [] → (⟨#[]⟩ : ByteArray) = P := fun h => by rw [← hP, h]; rfl
  have hPd : zprt l = [46] → (⟨#[46]⟩ : ByteArray) = P := fun h => by rw [← hP, h]; rfl
  rw [hP] at hend ⊢
  have hnb : ∀ i : Int, 0 ≤ i → i < n → (nbZ (l[i.toNat]?.getD 0)).size ≤ 19 := fun i h0 h1 => by
    rw [nbZ, bsZ_size]; exact zdg_19 _ (h64 i h0 h1)
  clear hP hne hn hl
  refine fnN (csRp nbZ) Tryz.func7 rfl fun _ _ => ?_
  with_reducible refine cv2 nbZ (intsA l) ?_
  refine loopN (csRp nbZ) (Int) (fun i => ⟨[(3, .val (.string (zsoF l i))), (6, .slc 1 (intsA l)), (7, .val (.int .i64 n)), (8, .val (.int .i64 i))], []⟩) (fun i => 0 ≤ i ∧ i ≤ n ∧ ∀ x ∈ l.take i.toNat, 0 ≤ x) (fun i => (n - i).toNat) 0 ?_ ?_ ?_
  · exact ⟨Int.le_refl 0, hn8.1, fun x hx => by simp at hx⟩
  · refine ⟨[], _, rfl, ?_⟩
    rw [hbeg]
    exact eq1 hla
  · rintro i ⟨hi0, hi1, hi⟩
    have hi0 : 0 ≤ i := hi0
    have hi1 : i ≤ n := hi1
    have hi : ∀ x ∈ l.take i.toNat, 0 ≤ x := hi
    have hz := hsz i
    with_reducible refine cv3 nbZ (intsA l) (zsoF l i) ?_
    refine ⟨fun h2 => ?_, fun h2 => ?_⟩
    · have hin : i < n := of_decide_eq_true h2
      have hx := hat i hi0 hin
      have e64 := h64 i hi0 hin
      have hnz := hnb i hi0 hin
      refine ⟨⟨hi0, by show i < std.len (intsA l); rw [hla]; exact hin⟩, ⟨has_int hx, trivial⟩, fun h3 => ?_, fun h3 => ?_⟩
      · have h3 : std.ltI (std.int (std.nth (std.cel (std.at_ (intsA l) i)) 0)) 0 = true := h3
        rw [int_of hx] at h3
        have hP1 := hPn (hneg i hi0 hin (of_decide_eq_true h3))
        with_reducible refine cv2 (intsA l) (zsoF l i) ?_
        exact .pure rfl (.inl (congrArg (fun x => AV.val (.string x)) hP1))
      · have h3 : std.ltI (std.int (std.nth (std.cel (std.at_ (intsA l) i)) 0)) 0 = false := h3
        rw [int_of hx] at h3
        have h3 : ¬ l[i.toNat]?.getD 0 < 0 := of_decide_eq_false h3
        have cN := znum_b (l[i.toNat]?.getD 0) (by omega) e64
        have ei := int_of hx
        refine ⟨fun h4 => ⟨?_, ?_, ?_, ?_, i + 1, ⟨by omega, by omega, hta i hi0 hin hi (by omega)⟩, by omega, [], _, rfl, ?_⟩, fun h4 => ⟨?_, ?_, ?_, i + 1, ⟨by omega, by omega, hta i hi0 hin hi (by omega)⟩, by omega, [], _, rfl, ?_⟩⟩
        · show (((zsoF l i).size + 1 : Nat) : Int) ≤ 9223372036854775807
          omega
        · show BCall _ _ [.val (.int .i64 (std.int (std.nth (std.cel (std.at_ (intsA l) i)) 0)))] [] (.val (.string (nbZ (std.int (std.nth (std.cel (std.at_ (intsA l) i)) 0))))) []
          rw [ei]; exact cN
        · show (((std.catS (zsoF l i) ⟨#[47]⟩).size + (nbZ (std.int (std.nth (std.cel (std.at_ (intsA l) i)) 0))).size : Nat) : Int) ≤ 9223372036854775807
          rw [ei]
          have : (std.catS (zsoF l i) ⟨#[47]⟩).size = (zsoF l i).size + 1 := ByteArray.size_append
          omega
        · show std.inR .i64 (i + 1)
          rw [inR64]; omega
        · have h4 : 0 < i := of_decide_eq_true h4
          have hcat : std.catS (std.catS (zsoF l i) ⟨#[47]⟩) (nbZ (std.int (std.nth (std.cel (std.at_ (intsA l) i)) 0))) = zsoF l (i + 1) := by rw [ei]; exact hsp i h4 hin
          exact eq1 hcat
        · show BCall _ _ [.val (.int .i64 (std.int (std.nth (std.cel (std.at_ (intsA l) i)) 0)))] [] (.val (.string (nbZ (std.int (std.nth (std.cel (std.at_ (intsA l) i)) 0))))) []
          rw [ei]; exact cN
        · show (((zsoF l i).size + (nbZ (std.int (std.nth (std.cel (std.at_ (intsA l) i)) 0))).size : Nat) : Int) ≤ 9223372036854775807
          rw [ei]
          omega
        · show std.inR .i64 (i + 1)
          rw [inR64]; omega
        · have h4 : ¬ 0 < i := of_decide_eq_false h4
          have hcat : std.catS (zsoF l i) (nbZ (std.int (std.nth (std.cel (std.at_ (intsA l) i)) 0))) = zsoF l (i + 1) := by rw [ei]; exact hs0 i hi0 hin h4
          exact eq1 hcat
    · have hin : ¬ i < n := of_decide_eq_false h2
      obtain rfl : i = n := by omega
      obtain ⟨e1, e2⟩ := hend hi
      rw [if_pos trivial]
      with_reducible refine cv3 nbZ (intsA l) (zsoF l i) ?_
      refine ⟨fun h => .pure rfl (.inl ?_), fun h => .pure rfl (.inl ?_)⟩
      · exact congrArg (fun x => AV.val (.string x)) (hPd (e1 h))
      · exact congrArg (fun x => AV.val (.string x)) (e2 h).symm
end Go.Proofs.YtaklahcbeldbhaaGreatDoor
