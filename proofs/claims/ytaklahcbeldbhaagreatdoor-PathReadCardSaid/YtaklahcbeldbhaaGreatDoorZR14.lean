/- Lemmas, conditions told -/
import Derived.Test.YtaklahcbeldbhaaGreatDoorZR12
import Derived.Test.YtaklahcbeldbhaaGreatDoorZR11
import Derived.Test.YtaklahcbeldbhaaGreatDoorZR01
import Derived.Test.YtaklahcbeldbhaaGreatDoorZR13
import Derived.Test.YtaklahcbeldbhaaGreatDoorZR04
import Derived.Lib.IndexBytes
import Derived.Lib.Join
set_option linter.unusedSimpArgs false
set_option linter.unusedVariables false
namespace Go.Proofs.YtaklahcbeldbhaaGreatDoor
open Go.RowKit Go.Lib
section
variable {w w' : World} {A' : Nat → Nat → Prop}
theorem vals_alike {us : List Value} (h : ∀ u ∈ us, u.oneCell' = true) : Alike w A' us (us.map .val) := by
  refine ⟨by simp, fun j y u hy hu => ?_⟩
  rw [List.getElem?_map, hy] at hu
  obtain rfl : AV.val y = u := by simpa using hu
  exact PRel.val _ (h y (List.mem_of_getElem? hy))
theorem own_slc {base e sz n : Nat} {v : Value} {ys : List Value} {xs : List AV} (h : w'.ownsRow base e sz v n ys) (hsz : 0 < sz) (hal : Alike w' A' ys (flatA xs)) (hn : n = xs.length) (hw : ∀ x ∈ xs, x.cells.length = sz)
    (hA : ∀ b o, base ≤ b → b < w'.heap.size → A' b o) : PRel w' A' v (.slc sz xs) := by
  obtain ⟨A, c, rfl, hr⟩ := own_form h
  refine rd_slc (S := fun b => base ≤ b ∧ b < w'.heap.size) ⟨hr.len, hr.le, hr.max, hr.nil, fun hp => ?_⟩ (fun b o hb => hA b o hb.1 hb.2) hn hw (fun a ha => ?_) hal
  · obtain ⟨b, o, h1, h2, h3⟩ := hr.at_ hp
    have hlen : 0 < ys.length := by rw [hr.len]; exact Nat.mul_pos hp hsz
    have := h3 0 ys[0] (List.getElem?_eq_getElem hlen)
    exact ⟨b, o, h1, ⟨h2, World.block_lt_of_cell? w' _ this⟩, h3⟩
  · rcases h.2 with ⟨h1, _⟩ | ⟨b, cap, cur, h1, _⟩
    · cases h1; cases ha
    · cases h1; cases ha; exact ⟨b, 0, rfl⟩
end
def itmOf (x : Int × Nat × Nat) : Itm := ⟨x.1, x.2.1, x.2.2⟩
def eightF (b : List UInt8) : List Itm := (itemsF b).map itmOf
theorem items_flat (l : List (Int × Nat × Nat)) : flatA (itmsA (l.map itmOf)) = (itemCells l).map .val := by
  induction l with
  | nil => rfl
  | cons x r ih => simp only [itmsA, List.map_cons, flatA, List.flatMap_cons, itemCells, List.map_append] at ih ⊢; rw [ih]; rfl
theorem Items_b (b : List UInt8) (hb : b.length ≤ 100000000) : BCall Tryz.prog 55 [.slc 1 (bytesA b)] [] (.slc 3 (itmsA (eightF b))) [] := by
  refine BCall.hand (enters_of Tryz.func55 (by kernel_rfl) rfl) fun w g vs M hL => ?_
  obtain ⟨v1, vs1, rfl, h1, hL⟩ := argsCons hL
  obtain rfl := argsNil hL
  obtain ⟨A, c, rfl, hr⟩ := bytes_rd h1 M
  refine (Items_any _ A _ c b w hr (by omega)).mono fun e w' ⟨v, h, ⟨n', ho⟩, hbel⟩ => ⟨v, h, hbel, ?_⟩
  have hn : n' = (itmsA (eightF b)).length := by
    have := ho.1
    rw [itemCells_len] at this
    rw [itms_len, eightF, List.length_map]; omega
  refine own_slc (A' := (g.imm w w').A) ho (by decide) ?_ hn (fun x hx => ?_) (fun b o h1 h2 => .inr ⟨h1, h2⟩)
  · rw [eightF, items_flat]
    refine vals_alike fun u hu => ?_
    obtain ⟨x, _, hx⟩ := List.mem_flatMap.1 hu
    simp only [List.mem_cons, List.not_mem_nil, or_false] at hx
    rcases hx with rfl | rfl | rfl <;> rfl
  · obtain ⟨y, _, rfl⟩ := List.mem_map.1 hx
    rfl
def pcsF (kind : Int) (b : List UInt8) : List Itm := if kind = 0 then eightF b else if kind = 1 then wideF true 0 b else if kind = 2 then wideF false 0 b else []
def csPi (f8 : List AV → List AV) (fw : Bool → List AV → List AV) : Nat → List AV → List Ob → Option (AV × List Ob) := fun f args _ => match f, args with
  | 55, [.slc 1 xs] => some (.slc 3 (f8 xs), [])
  | 56, [.slc 1 xs, .val (.bool b)] => some (.slc 3 (fw b xs), [])
  | _, _ => none
def f8A (xs : List AV) : List AV := itmsA (eightF (xs.map byteOf))
def fwA (big : Bool) (xs : List AV) : List AV := itmsA (wideF big 0 (xs.map byteOf))
set_option maxRecDepth 20000 in
theorem Pieces_b (kind : Int) (b : List UInt8) (hb : b.length ≤ 100000000) : BCall Tryz.prog 33 [.val (.int .i64 kind), .slc 1 (bytesA b)] [] (.slc 3 (itmsA (pcsF kind b))) [] := by
  have hf8 : f8A (bytesA b) = itmsA (eightF b) := by rw [f8A, bytes_back]
  have hfw : ∀ big, fwA big (bytesA b) = itmsA (wideF big 0 b) := fun big => by rw [fwA, bytes_back]
  have c8 : BCall Tryz.prog 55 [.slc 1 (bytesA b)] [] (.slc 3 (f8A (bytesA b))) [] := by rw [hf8]; exact Items_b b hb
  have cw : ∀ big, BCall Tryz.prog 56 [.slc 1 (bytesA b), .val (.bool big)] [] (.slc 3 (fwA big (bytesA b))) [] := fun big => by rw [hfw]; exact WItems_b big b (by omega)
  refine fnN (csPi f8A fwA) Tryz.func33 rfl fun _ _ => ?_
  with_reducible refine cv3 f8A fwA (bytesA b) ?_
  refine ⟨fun h => ⟨c8, .pure rfl (.inl ?_)⟩, fun h => ⟨fun h1 => ⟨cw _, .pure rfl (.inl ?_)⟩, fun h1 => ⟨fun h2 => ⟨cw _, .pure rfl (.inl ?_)⟩, fun h2 => .pure rfl (.inr (.inl ⟨rfl, 3, ?_⟩))⟩⟩⟩
  · have h : kind = 0 := by simpa [std] using h
    rw [pcsF, if_pos h, hf8]
  · have h : ¬ kind = 0 := by simpa [std] using h
    have h1' : kind = 1 := by simpa [std] using h1
    have h1 : std.eqI kind 1 = true := h1
    show AV.slc 3 (fwA (std.eqI kind 1) (bytesA b)) = _
    rw [pcsF, if_neg h, if_pos h1', h1, hfw]
  · have h : ¬ kind = 0 := by simpa [std] using h
    have h1' : ¬ kind = 1 := by simpa [std] using h1
    have h2 : kind = 2 := by simpa [std] using h2
    have h1 : std.eqI kind 1 = false := h1
    show AV.slc 3 (fwA (std.eqI kind 1) (bytesA b)) = _
    rw [pcsF, if_neg h, if_neg h1', if_pos h2, h1, hfw]
  · have h : ¬ kind = 0 := by simpa [std] using h
    have h1 : ¬ kind = 1 := by simpa [std] using h1
    have h2 : ¬ kind = 2 := by simpa [std] using h2
    rw [pcsF, if_neg h, if_neg h1, if_neg h2]; rfl
structure Txt where
  kind : Int
  bom : Int
  r : List Int
  off : List Int
  deriving Inhabited
def Txt.cs (t : Txt) : List AV := [.val (.int .i64 t.kind), .val (.int .i64 t.bom), .slc 1 (runesA t.r), .slc 1 (intsA t.off)]
def textI (b : List UInt8) : List Itm := pcsF (kindF b).1 (b.drop (kindF b).2.toNat)
def textF' (b : List UInt8) : Txt := ⟨(kindF b).1, (kindF b).2, (textI b).map Itm.r, (textI b).map (fun x => x.off + (kindF b).2) ++ [(b.length : Int)]⟩
theorem kind_bom (b : List UInt8) : 0 ≤ (kindF b).2 ∧ (kindF b).2 ≤ b.length := by
  have key : ∀ (x : List UInt8 × Int × Int), x ∈ signsL → x.1.isPrefixOf b = true → 0 ≤ x.2.2 ∧ x.2.2 ≤ b.length := by
    intro x hx hp
    have := (List.isPrefixOf_iff_prefix.1 hp).length_le
    simp only [signsL, List.mem_cons, List.not_mem_nil, or_false] at hx
    rcases hx with rfl | rfl | rfl | rfl | rfl <;> simp at this ⊢ <;> omega
  unfold kindF kR
  split
  · rename_i x hx
    have h1 := List.find?_some hx
    have h2 := List.mem_of_find?_eq_some hx
    exact key x (by simpa using h2) h1
  · simp only; omega
def csD (k bom : Int) (pc : Int → List AV → List AV) : Nat → List AV → List Ob → Option (AV × List Ob) := fun f args _ => match f, args with
  | 42, _ => some (.tup [.val (.int .i64 k), .val (.int .i64 bom)], [])
  | 33, [.val (.int .i64 k), .slc 1 xs] => some (.slc 3 (pc k xs), [])
  | _, _ => none
def pcA (k : Int) (xs : List AV) : List AV := itmsA (pcsF k (xs.map byteOf))
set_option maxRecDepth 20000 in
set_option maxHeartbeats 2000000 in
theorem Decode_b (b : List UInt8) (hb : b.length ≤ 1000000) (hps : (textI b).length ≤ 1000000) (hoff : ∀ x ∈ textI b, 0 ≤ x.off ∧ x.off ≤ 1000000) :
    BCall Tryz.prog 24 [.slc 1 (bytesA b)] [] (.agg (textF' b).cs) [] := by
  have hkb := kind_bom b
  have cK := Kind3_b b
  obtain ⟨k, hk⟩ : ∃ k, k = (kindF b).1 := ⟨_, rfl⟩
  obtain ⟨bom, hbom⟩ : ∃ k, k = (kindF b).2 := ⟨_, rfl⟩
  obtain ⟨ps, hpsE⟩ : ∃ ps, ps = textI b := ⟨_, rfl⟩
  have hT : textF' b = ⟨k, bom, ps.map Itm.r, ps.map (fun x => x.off + bom) ++ [(b.length : Int)]⟩ := by rw [hk, hbom, hpsE]; rfl
  have hpb : ps = pcsF k (b.drop bom.toNat) := by rw [hk, hbom, hpsE]; rfl
  rw [hT]
  rw [← hpsE] at hps hoff
  rw [← hk, ← hbom] at cK
  rw [← hbom] at hkb
  clear hT hk hbom hpsE
  have hcut : std.cut (bytesA b) bom (std.len (bytesA b)) = bytesA (b.drop bom.toNat) := by
    show ((bytesA b).drop bom.toNat).take ((bytesA b).length - bom : Int).toNat = _
    rw [bytesA, bytesA, List.map_drop, List.take_of_length_le (by simp; omega)]
  have hpc : pcA k (std.cut (bytesA b) bom (std.len (bytesA b))) = itmsA ps := by rw [hcut, pcA, bytes_back, hpb]
  have cP : BCall Tryz.prog 33 [.val (.int .i64 k), .slc 1 (std.cut (bytesA b) bom (std.len (bytesA b)))] [] (.slc 3 (pcA k (std.cut (bytesA b) bom (std.len (bytesA b))))) [] := by
    rw [hpc, hcut, hpb]; exact Pieces_b k _ (by rw [List.length_drop]; omega)
  obtain ⟨nb, hnb⟩ := exLen b
  obtain ⟨n, hn⟩ := exLen ps
  have hbn : bom ≤ nb := by rw [hnb.eq]; exact hkb.2
  have hb0 := hkb.1
  clear hkb
  refine fnO false (csD k bom pcA) (fun id => match id with | 3 => .of [0, 1, 2, 3, 4, 5, 8, 6, 7] | _ => .nil) Tryz.func24 rfl fun _ _ => ?_
  with_reducible refine cv2 pcA (bytesA b) ?_
  have enb := hnb.eq
  have en := hn.eq
  have hbl := bytes_len b
  refine ⟨cK, ?_, cP, ?_⟩
  · simp only [std, hbl]; omega
  have hnm : std.len (pcA k (std.cut (bytesA b) bom (std.len (bytesA b)))) = n := by rw [hpc]; simp only [std, itms_len]; omega
  refine loopN (csD k bom pcA) (Int) (fun i => ⟨[(0, .slc 1 (bytesA b)), (2, .box 0 0), (3, .box 1 0), (20, .slc 3 (itmsA ps)), (21, .val (.int .i64 n)), (22, .val (.int .i64 i))], [.box [.val (.int .i64 0), .val (.int .i64 0), .val (.slice none 0 0), .val (.slice none 0 0)], .box [.val (.int .i64 k), .val (.int .i64 bom), .row 2 0, .row 3 0], .row 21 1 false 0 (runesA ((ps.take i.toNat).map Itm.r)), .row 3 1 false 0 (intsA ((ps.take i.toNat).map fun x => x.off + bom))]⟩) (fun i => 0 ≤ i ∧ i ≤ n) (fun i => (n - i).toNat) 0 ?_ ?_ ?_
  · omega
  · refine ⟨[some 0, some 1, none, none], _, rfl, ?_⟩
    simp only [Int.toNat_zero, List.take_zero, List.map_nil]
    repeat first
      | exact trivial
      | refine ⟨gA hpc, ?_⟩
      | refine ⟨gI hnm, ?_⟩
      | refine ⟨rfl, ?_⟩
  · rintro i ⟨hi0, hin⟩
    have hil := itms_len ps
    rcases Int.lt_or_eq_of_le hin with hlt | heq
    · have hat : (itmsA ps)[i.toNat]?.getD .dead = (ps[i.toNat]?.getD ⟨0, 0, 0⟩).av := getA Itm.av hi0 (by omega) ⟨0, 0, 0⟩
      have hil2 : i.toNat < ps.length := by omega
      have hx := hoff (ps[i.toNat]?.getD ⟨0, 0, 0⟩) (by simp [hil2])
      have ht : ps.take (i + 1).toNat = ps.take i.toNat ++ [ps[i.toNat]?.getD ⟨0, 0, 0⟩] := by
        rw [show (i + 1).toNat = i.toNat + 1 by omega, List.take_add_one]
        simp [hil2]
      have hr1 : runesA ((ps.take (i + 1).toNat).map Itm.r) = runesA ((ps.take i.toNat).map Itm.r) ++ [.val (.int .i32 (ps[i.toNat]?.getD ⟨0, 0, 0⟩).r)] := by
        rw [ht, List.map_append, runes_app]; rfl
      have hr2 : intsA ((ps.take (i + 1).toNat).map fun x => x.off + bom) = intsA ((ps.take i.toNat).map fun x => x.off + bom) ++ [.val (.int .i64 ((ps[i.toNat]?.getD ⟨0, 0, 0⟩).off + bom))] := by
        rw [ht, List.map_append, ints_app]; rfl
      have hl1 : (runesA ((ps.take i.toNat).map Itm.r)).length ≤ 1000000 := by simp [runesA]; omega
      have hl2 : (intsA ((ps.take i.toNat).map fun x => x.off + bom)).length ≤ 1000000 := by simp [intsA]; omega
      obtain ⟨x, hxE⟩ : ∃ x, x = ps[i.toNat]?.getD ⟨0, 0, 0⟩ := ⟨_, rfl⟩
      rw [← hxE] at hat hx hr1 hr2
      obtain ⟨R, hR⟩ : ∃ R, R = runesA ((ps.take i.toNat).map Itm.r) := ⟨_, rfl⟩
      obtain ⟨O, hO⟩ : ∃ O, O = intsA ((ps.take i.toNat).map fun x => x.off + bom) := ⟨_, rfl⟩
      rw [← hR] at hr1 hl1 ⊢
      rw [← hO] at hr2 hl2 ⊢
      clear en enb ht
      with_reducible refine cv3 pcA (bytesA b) (itmsA ps) ?_
      have en := hn.eq
      have enb := hnb.eq
      repeat' first
        | (with_reducible refine And.intro (fun hx => absurd hx (by first | (try simp [std, S1, hat, Itm.av, hil, hlt, hi0]) <;> omega | omega)) (fun _ => ?_))
        | (with_reducible refine And.intro (fun _ => ?_) (fun hx => absurd hx (by first | (try simp [std, S1, hat, Itm.av, hil, hlt, hi0]) <;> omega | omega)))
        | (with_reducible refine And.intro (by first | (try simp [std, S1, hat, Itm.av, hil, hlt, hi0]) <;> omega | omega) ?_)
        | (with_reducible refine And.intro ?_ ?_)
        | (with_reducible intro hb)
      exact ⟨i + 1, ⟨by omega, by omega⟩, by omega, [some 0, some 1, some 2, some 3], _, rfl, by simp [-List.map_take, AllEq, lk, std, hat, hil, Itm.av, AV.cells, RowKit.intOf, hr1, hr2]⟩
    · have ht : ps.take i.toNat = ps := List.take_of_length_le (by omega)
      rw [ht]
      have hl2 : (intsA (ps.map fun x => x.off + bom)).length ≤ 1000000 := by simp [intsA]; omega
      have hf : intsA (ps.map (fun x => x.off + bom) ++ [(b.length : Int)]) = intsA (ps.map fun x => x.off + bom) ++ [.val (.int .i64 nb)] := by
        rw [ints_app, hnb.eq]; rfl
      have hlb : std.len (bytesA b) = nb := by rw [enb]; simp only [std, hbl]
      obtain ⟨R, hR⟩ : ∃ R, R = runesA (ps.map Itm.r) := ⟨_, rfl⟩
      obtain ⟨O, hO⟩ : ∃ O, O = intsA (ps.map fun x => x.off + bom) := ⟨_, rfl⟩
      rw [← hO] at hl2 hf
      have hcs : (Txt.mk k bom (ps.map Itm.r) (ps.map (fun x => x.off + bom) ++ [(b.length : Int)])).cs = [.val (.int .i64 k), .val (.int .i64 bom), .slc 1 R, .slc 1 (O ++ [.val (.int .i64 nb)])] := by
        rw [Txt.cs, hf, hR]
      rw [hcs, ← hR, ← hO]
      clear en enb ht hcs
      with_reducible refine cv3 pcA (bytesA b) (itmsA ps) ?_
      with_reducible repeat' first | refine aU heq ?_ | refine And.intro ?_ ?_ | intro hb
      rw [if_pos trivial]
      with_reducible refine cv3 pcA (bytesA b) (itmsA ps) ?_
      refine ⟨?_, .pure rfl ?_⟩
      · simp [std]; omega
      · refine ⟨.inl rfl, .inl rfl, .inl rfl, .inl ?_, trivial⟩
        show AV.slc 1 (std.app O [.val (.int .i64 (std.len (bytesA b)))]) = _
        rw [hlb]; rfl
end Go.Proofs.YtaklahcbeldbhaaGreatDoor
namespace Go.Proofs.YtaklahcbeldbhaaGreatDoor
open Go.RowKit Go.Lib
theorem In_b (t : Txt) (a b : Int) (h0 : 0 ≤ a) (h1 : a ≤ b) (h2 : b ≤ t.r.length) : BCall Tryz.prog 61 [.agg t.cs, .val (.int .i64 a), .val (.int .i64 b)] [] (.val (.bool true)) [] := by
  obtain ⟨n, hn⟩ := exLen t.r
  have h2n : b ≤ n := by rw [hn.eq]; exact h2
  clear h2
  unfold Txt.cs
  obtain ⟨k, hk⟩ : ∃ k, k = t.kind := ⟨_, rfl⟩
  obtain ⟨m, hm⟩ : ∃ k, k = t.bom := ⟨_, rfl⟩
  obtain ⟨R, hR⟩ : ∃ k, k = runesA t.r := ⟨_, rfl⟩
  obtain ⟨O, hO⟩ : ∃ k, k = intsA t.off := ⟨_, rfl⟩
  have hRl : R.length = t.r.length := by rw [hR, runes_len]
  rw [← hk, ← hm, ← hR, ← hO]
  refine fnN (cs0) Tryz.func61 rfl fun _ _ => ?_
  with_reducible refine cv0 ?_
  have en := hn.eq
  have hRn : ((R.length : Nat) : Int) = n := by omega
  with_reducible repeat' first | refine aU (zA hRn <| zA h0 <| zA h1 h2n) ?_ | refine And.intro ?_ ?_ | intro hb
  refine .pure rfl (.inl ?_)
  have : std.leI b (std.len R) = true := by simp only [std, hRn]; exact decide_eq_true h2n
  show AV.val (.bool (std.leI b (std.len R))) = _
  rw [this]
def csSl : Nat → List AV → List Ob → Option (AV × List Ob) := fun f args _ => match f, args with
  | 61, _ => some (.val (.bool true), [])
  | 115, [.slc 1 xs] => some (.slc 1 xs, [])
  | _, _ => none
structure TxtOk (t : Txt) (b : List UInt8) : Prop where
  len : t.off.length = t.r.length + 1
  range : ∀ x ∈ t.off, 0 ≤ x ∧ x ≤ b.length
  last : t.off[t.r.length]?.getD 0 = b.length
  mono : ∀ i j : Nat, i ≤ j → j ≤ t.r.length → t.off[i]?.getD 0 ≤ t.off[j]?.getD 0
def sliceF (t : Txt) (b : List UInt8) (i j : Int) : List UInt8 := (b.drop (t.off[i.toNat]?.getD 0).toNat).take ((t.off[j.toNat]?.getD 0) - (t.off[i.toNat]?.getD 0)).toNat
set_option maxRecDepth 20000 in
set_option maxHeartbeats 1000000 in
theorem Slice_b (t : Txt) (bs : List UInt8) (hbs : bs.length ≤ 1000000) (ok : TxtOk t bs) (hrl : t.r.length ≤ 1000000) (i j : Int) (h0 : 0 ≤ i) (h1 : i ≤ j) (h2 : j ≤ t.r.length) :
    BCall Tryz.prog 99 [.agg t.cs, .slc 1 (bytesA bs), .val (.int .i64 i), .val (.int .i64 j)] [] (.slc 1 (bytesA (sliceF t bs i j))) [] := by
  have cI := In_b t i j h0 h1 h2
  obtain ⟨lo, hlo⟩ : ∃ x, x = t.off[i.toNat]?.getD 0 := ⟨_, rfl⟩
  obtain ⟨hi, hhi⟩ : ∃ x, x = t.off[j.toNat]?.getD 0 := ⟨_, rfl⟩
  have hol := ok.len
  have olen := ints_len t.off
  have alo := ints_at (l := t.off) (i := i) h0 (by omega)
  have ahi := ints_at (l := t.off) (i := j) (by omega) (by omega)
  have ala := ints_at (l := t.off) (i := (t.r.length : Int)) (by omega) (by omega)
  rw [Int.toNat_natCast, ok.last] at ala
  rw [← hlo] at alo
  rw [← hhi] at ahi
  have hle : lo ≤ hi := by rw [hlo, hhi]; exact ok.mono _ _ (by omega) (by omega)
  have hlo0 : 0 ≤ lo := by
    have h3 : i.toNat < t.off.length := by omega
    have := ok.range (t.off[i.toNat]'h3) (List.getElem_mem h3)
    rw [hlo, List.getElem?_eq_getElem h3]
    exact this.1
  obtain ⟨nb, hnb⟩ := exLen bs
  have hhin : hi ≤ nb := by
    have h3 : j.toNat < t.off.length := by omega
    have := ok.range (t.off[j.toNat]'h3) (List.getElem_mem h3)
    rw [hhi, hnb.eq, List.getElem?_eq_getElem h3]
    exact this.2
  have hcut : std.cut (bytesA bs) lo hi = bytesA (sliceF t bs i j) := by
    show ((bytesA bs).drop lo.toNat).take (hi - lo).toNat = _
    rw [sliceF, ← hlo, ← hhi, bytesA, bytesA, List.map_take, List.map_drop]
  obtain ⟨nr, hnr⟩ := exLen t.r
  have hjn : j ≤ nr := by rw [hnr.eq]; exact h2
  have cC : BCall Tryz.prog 115 [.slc 1 (std.cut (bytesA bs) lo hi)] [] (.slc 1 (std.cut (bytesA bs) lo hi)) [] := CloneB_b _ (by rw [hcut, bytes_len, sliceF, List.length_take, List.length_drop]; omega)
  rw [← hcut]
  clear hcut ok hlo hhi h2
  unfold Txt.cs at cI ⊢
  obtain ⟨k, hk⟩ : ∃ k, k = t.kind := ⟨_, rfl⟩
  obtain ⟨m, hm⟩ : ∃ k, k = t.bom := ⟨_, rfl⟩
  obtain ⟨R, hR⟩ : ∃ k, k = runesA t.r := ⟨_, rfl⟩
  obtain ⟨O, hO⟩ : ∃ k, k = intsA t.off := ⟨_, rfl⟩
  rw [← hk, ← hm, ← hR, ← hO] at cI ⊢
  rw [← hO] at alo ahi ala olen
  refine fnN (csSl) Tryz.func99 rfl fun _ _ => ?_
  with_reducible refine cv1 (bytesA bs) ?_
  have enb := hnb.eq
  have enr := hnr.eq
  have hbl := bytes_len bs
  have hON : ((O.length : Nat) : Int) = nr + 1 := by omega
  have hON2 : ((O.length : Nat) : Int) - 1 = nr := by omega
  have ala : O[nr.toNat]?.getD .dead = .val (.int .i64 nb) := by rw [show nr.toNat = t.r.length by omega, enb]; exact ala
  have hbn : (((bytesA bs).length : Nat) : Int) = nb := by omega
  have hl' : std.int (std.nth (std.cel (std.at_ O i)) 0) = lo := by simp [std, alo, AV.cells, RowKit.intOf]
  have hh' : std.int (std.nth (std.cel (std.at_ O j)) 0) = hi := by simp [std, ahi, AV.cells, RowKit.intOf]
  with_reducible repeat' first | refine aU (zA cI <| zA alo <| zA ahi <| zA ala <| zA hON <| zA hON2 <| zA hbn <| zA hlo0 <| zA hle hhin) ?_ | refine And.intro ?_ ?_ | intro hb
  · show BCall _ _ [.slc 1 (std.cut (bytesA bs) (std.int (std.nth (std.cel (std.at_ O i)) 0)) (std.int (std.nth (std.cel (std.at_ O j)) 0)))] [] (.slc 1 (std.cut (bytesA bs) (std.int (std.nth (std.cel (std.at_ O i)) 0)) (std.int (std.nth (std.cel (std.at_ O j)) 0)))) []
    rw [hl', hh']; exact cC
  · refine .pure rfl (.inl ?_)
    show AV.slc 1 (std.cut (bytesA bs) (std.int (std.nth (std.cel (std.at_ O i)) 0)) (std.int (std.nth (std.cel (std.at_ O j)) 0))) = _
    rw [hl', hh']
set_option maxRecDepth 20000 in
set_option maxHeartbeats 1000000 in
theorem Equal_b (x y : List Int) (hx : x.length ≤ 1000000000) (hy : y.length ≤ 1000000000) : BCall Tryz.prog 98 [.slc 1 (runesA x), .slc 1 (runesA y)] [] (.val (.bool (decide (x = y)))) [] := by
  obtain ⟨n, hn⟩ := exLen x
  obtain ⟨m, hm⟩ := exLen y
  obtain ⟨e, he⟩ : ∃ e, e = decide (x = y) := ⟨_, rfl⟩
  rw [← he]
  have hxl := runes_len x
  have hyl := runes_len y
  refine fnN (cs0) Tryz.func98 rfl fun _ _ => ?_
  with_reducible refine cv2 (runesA x) (runesA y) ?_
  have en := hn.eq
  have em := hm.eq
  have hxn : (((runesA x).length : Nat) : Int) = n := by omega
  have hyn : (((runesA y).length : Nat) : Int) = m := by omega
  refine ⟨fun h => ?_, fun h => ?_⟩
  · have h : ¬ n = m := by simpa [std, hxn, hyn] using h
    refine .pure rfl (.inl ?_)
    rw [he, decide_eq_false (fun h2 => h (by rw [en, em, h2]))]
  · have h : n = m := by simpa [std, hxn, hyn] using h
    refine loopN (cs0) (Int) (fun i => ⟨[(0, .slc 1 (runesA x)), (1, .slc 1 (runesA y)), (12, .val (.int .i64 n)), (13, .val (.int .i64 i))], []⟩) (fun i => 0 ≤ i ∧ i ≤ n ∧ ∀ j : Nat, (j : Int) < i → x[j]?.getD 0 = y[j]?.getD 0) (fun i => (n - i).toNat) 0 ?_ ?_ ?_
    · exact ⟨by omega, by omega, fun j hj => by omega⟩
    · exact ⟨[], _, rfl, by simp [AllEq, lk, std, hxn]⟩
    · rintro i ⟨hi0, hin, hi⟩
      have hi' : ∀ j : Nat, j < i.toNat → x[j]?.getD 0 = y[j]?.getD 0 := fun j hj => hi j (by omega)
      clear hi
      rcases Int.lt_or_eq_of_le hin with hlt | heq
      · have ax := runes_at (l := x) hi0 (by omega)
        have ay := runes_at (l := y) hi0 (by omega)
        have hltm : i < m := by omega
        clear en em h hxn hyn
        with_reducible refine cv2 (runesA x) (runesA y) ?_
        have en := hn.eq
        have em := hm.eq
        have hxn : (((runesA x).length : Nat) : Int) = n := by omega
        have hyn : (((runesA y).length : Nat) : Int) = m := by omega
        with_reducible repeat' first | refine aU (zA ax <| zA ay <| zA hxn <| zA hyn <| zA hlt <| zA hltm hi0) ?_ | refine And.intro ?_ ?_ | intro hb
        · have hne : ¬ x[i.toNat]?.getD 0 = y[i.toNat]?.getD 0 := by simpa [std, ax, ay, AV.cells, RowKit.intOf] using hb
          with_reducible refine cv2 (runesA x) (runesA y) ?_
          refine .pure rfl (.inl ?_)
          rw [he, decide_eq_false (fun h2 => hne (by rw [h2]))]
        · have heq : x[i.toNat]?.getD 0 = y[i.toNat]?.getD 0 := by simpa [std, ax, ay, AV.cells, RowKit.intOf] using hb
          refine ⟨i + 1, ⟨by omega, by omega, fun j hj => ?_⟩, by omega, [], _, rfl, by simp [AllEq, lk, std]⟩
          have hj : (j : Int) < i + 1 := hj
          by_cases hji : j < i.toNat
          · exact hi' j hji
          · obtain rfl : j = i.toNat := by omega
            exact heq
      · have hxy : x = y := by
          refine List.ext_getElem (by omega) fun j h1 h2 => ?_
          have := hi' j (by omega)
          rw [List.getElem?_eq_getElem h1, List.getElem?_eq_getElem h2] at this
          exact this
        clear en em h hxn hyn
        with_reducible refine cv2 (runesA x) (runesA y) ?_
        with_reducible repeat' first | refine aU heq ?_ | refine And.intro ?_ ?_ | intro hb
        rw [if_pos trivial]
        with_reducible refine cv2 (runesA x) (runesA y) ?_
        refine .pure rfl (.inl ?_)
        rw [he, decide_eq_true hxy]
end Go.Proofs.YtaklahcbeldbhaaGreatDoor
namespace Go.Proofs.YtaklahcbeldbhaaGreatDoor
open Go.RowKit Go.Lib
def ChainI : Int → List Itm → Int → Prop
  | a, [], e => a = e
  | a, x :: r, e => x.off = a ∧ 1 ≤ x.n ∧ ChainI (a + x.n) r e
theorem wide_chain (big : Bool) : ∀ (n : Nat) (l : List UInt8) (a : Int), l.length ≤ n → ChainI a (wideF big a l) (a + l.length) := by
  intro n
  induction n with
  | zero =>
    intro l a h
    have : l = [] := List.eq_nil_of_length_eq_zero (by omega)
    subst this
    rw [wideF, dif_pos rfl]
    show a = _
    simp
  | succ n ih =>
    intro l a h
    by_cases hl : l = []
    · subst hl
      rw [wideF, dif_pos rfl]
      show a = _
      simp
    · have hs := stepW_n big l hl
      rw [wideF, dif_neg hl]
      refine ⟨rfl, hs.1, ?_⟩
      have := ih (l.drop (stepW big l).2.toNat) (a + (stepW big l).2) (by rw [List.length_drop]; omega)
      rw [List.length_drop] at this
      rw [show a + (stepW big l).2 + ((l.length - (stepW big l).2.toNat : Nat) : Int) = a + l.length by omega] at this
      exact this
theorem firstF_n (l : List UInt8) (h : l ≠ []) : 1 ≤ (firstF l).2 ∧ (firstF l).2 ≤ l.length := by
  have hl : 0 < l.length := List.length_pos_iff.2 h
  unfold firstF
  split
  · exact ⟨Nat.le_refl _, hl⟩
  · exact ⟨decodeL_width _, decodeL_le _ h⟩
theorem items_chain : ∀ (n off : Nat) (l : List UInt8), l.length ≤ n → ChainI off ((itemsGo n off l).map itmOf) (off + l.length : Int) := by
  intro n
  induction n with
  | zero =>
    intro off l h
    have : l = [] := List.eq_nil_of_length_eq_zero (by omega)
    subst this
    show (off : Int) = _
    simp
  | succ n ih =>
    intro off l h
    cases l with
    | nil => show (off : Int) = _; simp
    | cons b t =>
      have hs := firstF_n (b :: t) (by simp)
      refine ⟨rfl, by show (1 : Int) ≤ ((firstF (b :: t)).2 : Int); omega, ?_⟩
      have := ih (off + (firstF (b :: t)).2) ((b :: t).drop (firstF (b :: t)).2) (by rw [List.length_drop]; omega)
      rw [List.length_drop] at this
      rw [show ((off + (firstF (b :: t)).2 : Nat) : Int) + (((b :: t).length - (firstF (b :: t)).2 : Nat) : Int) = off + (b :: t).length by omega, show ((off + (firstF (b :: t)).2 : Nat) : Int) = off + (firstF (b :: t)).2 by omega] at this
      exact this
theorem chain_all : ∀ (ps : List Itm) (a e : Int), ChainI a ps e → (ps.length : Int) ≤ e - a ∧ (∀ x ∈ ps.map Itm.off ++ [e], a ≤ x ∧ x ≤ e) ∧ List.Pairwise (· ≤ ·) (ps.map Itm.off ++ [e]) ∧ (ps.map Itm.off ++ [e])[0]? = some a
  | [], a, e, h => by
    have h : a = e := h
    subst h
    simp
  | x :: r, a, e, h => by
    obtain ⟨h1, h2, h3⟩ := h
    obtain ⟨h4, h5, h6, h7⟩ := chain_all r _ e h3
    refine ⟨by simp only [List.length_cons]; omega, fun y hy => ?_, ?_, by simp [h1]⟩
    · simp only [List.map_cons, List.cons_append, List.mem_cons] at hy
      rcases hy with rfl | hy
      · have := h5 e (by simp); omega
      · have := h5 y hy; omega
    · simp only [List.map_cons, List.cons_append]
      exact List.pairwise_cons.2 ⟨fun y hy => by have := h5 y hy; omega, h6⟩
theorem kind_012 (b : List UInt8) : (kindF b).1 = 0 ∨ (kindF b).1 = 1 ∨ (kindF b).1 = 2 := by
  have key : ∀ (x : List UInt8 × Int × Int), x ∈ signsL → x.2.1 = 0 ∨ x.2.1 = 1 ∨ x.2.1 = 2 := by decide
  unfold kindF kR
  split
  · rename_i x hx
    exact key x (by simpa using List.mem_of_find?_eq_some hx)
  · exact .inl rfl
theorem text_chain (b : List UInt8) : ChainI 0 (textI b) (b.length - (kindF b).2) := by
  have hb := kind_bom b
  have hl : (((b.drop (kindF b).2.toNat).length : Nat) : Int) = b.length - (kindF b).2 := by rw [List.length_drop]; omega
  have h8 := items_chain _ 0 (b.drop (kindF b).2.toNat) (Nat.le_refl _)
  have hw := fun big => wide_chain big _ (b.drop (kindF b).2.toNat) 0 (Nat.le_refl _)
  rw [hl, Int.zero_add] at hw
  rw [hl, show ((0 : Nat) : Int) = 0 from rfl, Int.zero_add] at h8
  rw [textI]
  rcases kind_012 b with h | h | h
  · rw [pcsF, if_pos h]; exact h8
  · rw [pcsF, if_neg (by omega), if_pos h]; exact hw true
  · rw [pcsF, if_neg (by omega), if_neg (by omega), if_pos h]; exact hw false
theorem text_off (b : List UInt8) : (textF' b).off = ((textI b).map Itm.off ++ [(b.length : Int) - (kindF b).2]).map (· + (kindF b).2) := by
  show (textI b).map _ ++ [(b.length : Int)] = _
  simp
theorem text_ok (b : List UInt8) : TxtOk (textF' b) b ∧ (textF' b).off[0]?.getD 0 = (kindF b).2 ∧ (textF' b).r.length ≤ b.length ∧ (textI b).length ≤ b.length ∧ ∀ x ∈ textI b, 0 ≤ x.off ∧ x.off ≤ b.length := by
  have hb := kind_bom b
  obtain ⟨h1, h2, h3, h4⟩ := chain_all _ _ _ (text_chain b)
  have hr : (textF' b).r.length = (textI b).length := by show ((textI b).map Itm.r).length = _; simp
  have ho := text_off b
  generalize hL : (textI b).map Itm.off ++ [(b.length : Int) - (kindF b).2] = L at h2 h3 h4 ho
  have hLl : L.length = (textI b).length + 1 := by rw [← hL]; simp
  have hlast : L[(textI b).length]? = some ((b.length : Int) - (kindF b).2) := by rw [← hL, List.getElem?_append_right (by simp)]; simp
  refine ⟨⟨by rw [ho, hr, List.length_map, hLl], fun x hx => ?_, ?_, fun i j hij hj => ?_⟩, ?_, by omega, by omega, fun x hx => ?_⟩
  · rw [ho] at hx
    obtain ⟨y, hy, rfl⟩ := List.mem_map.1 hx
    have := h2 y hy; omega
  · rw [ho, hr, List.getElem?_map, hlast]
    show (b.length : Int) - (kindF b).2 + (kindF b).2 = _
    omega
  · have hi1 : i < L.length := by omega
    have hj1 : j < L.length := by omega
    rw [ho, List.getElem?_map, List.getElem?_map, List.getElem?_eq_getElem hi1, List.getElem?_eq_getElem hj1]
    show L[i] + _ ≤ L[j] + _
    rcases Nat.lt_or_eq_of_le hij with h | h
    · have := List.pairwise_iff_getElem.1 h3 i j hi1 hj1 h
      omega
    · subst h; exact Int.le_refl _
  · rw [ho, List.getElem?_map, h4]
    show (0 : Int) + _ = _
    omega
  · have := h2 x.off (by rw [← hL]; exact List.mem_append_left _ (List.mem_map.2 ⟨x, hx, rfl⟩))
    omega
end Go.Proofs.YtaklahcbeldbhaaGreatDoor
namespace Go.Proofs.YtaklahcbeldbhaaGreatDoor
open Go.RowKit Go.Lib
def strsZ (l : List (List UInt8)) : List AV := l.map fun x => .val (.string (bsZ x))
def strsV (l : List (List UInt8)) : List Value := l.map fun x => .string (bsZ x)
theorem strsZ_val (l : List (List UInt8)) : strsZ l = (strsV l).map .val := by simp [strsZ, strsV]
theorem strsZ_len (l : List (List UInt8)) : (strsZ l).length = l.length := by simp [strsZ]
theorem strZ_cell {l : List (List UInt8)} {i : Int} (h0 : 0 ≤ i) (h1 : i < l.length) : std.nth (std.cel (std.at_ (strsZ l) i)) 0 = .val (.string (bsZ (l[i.toNat]?.getD []))) := by rw [strsZ, at_map (fun x => AV.val (.string (bsZ x))) h0 h1 []]; rfl
theorem has_strZ {x : AV} {b : ByteArray} (h : x = .val (.string b)) : (std.hasS x).q := by subst h; rfl
theorem str_ofZ {x : AV} {b : ByteArray} (h : x = .val (.string b)) : std.str x = b := by subst h; rfl
theorem zspl_len : ∀ (s w : List UInt8), (zspl w s).length ≤ s.length + 1
  | [], w => Nat.le_refl _
  | c :: s, w => by
    rw [zspl, List.length_cons]; split
    · have := zspl_len s []
      rw [List.length_cons]; omega
    · have := zspl_len s (w ++ [c])
      omega
theorem zspl_mem : ∀ (s w : List UInt8), ∀ x ∈ zspl w s, x.length ≤ w.length + s.length
  | [], w, x, h => by
    rw [zspl, List.mem_singleton] at h; rw [h]; simp
  | c :: s, w, x, h => by
    rw [zspl] at h
    split at h
    · rcases List.mem_cons.1 h with rfl | h
      · omega
      · have := zspl_mem s [] x h
        rw [List.length_nil] at this
        rw [List.length_cons]; omega
    · have := zspl_mem s (w ++ [c]) x h
      rw [List.length_append, List.length_singleton] at this
      rw [List.length_cons]; omega
theorem genSplit_b (s : List UInt8) (hs : s.length ≤ 1000000) : BCall Tryz.prog 23 [.val (.string (bsZ s)), .val (.string ⟨#[47]⟩), .val (.int .i64 0), .val (.int .i64 (-1))] [] (.slc 1 (strsZ (zspl [] s))) [] := by
  refine BCall.hand (enters_of Tryz.func23 (by kernel_rfl) rfl) fun w g vs M hL => ?_
  obtain ⟨v1, vs1, rfl, h1, hL⟩ := argsCons hL
  obtain ⟨v2, vs2, rfl, h2, hL⟩ := argsCons hL
  obtain ⟨v3, vs3, rfl, h3, hL⟩ := argsCons hL
  obtain ⟨v4, vs4, rfl, h4, hL⟩ := argsCons hL
  obtain rfl := argsNil hL
  obtain rfl := argVal h1
  obtain rfl := argVal h2
  obtain rfl := argVal h3
  obtain rfl := argVal h4
  have hsz := bsZ_size s
  have h1s : 1 ≤ (⟨#[47]⟩ : ByteArray).size := Nat.le_refl 1
  have hle := Lib.countB_le ⟨#[47]⟩ h1s (bsZ s).size (bsZ s) (Nat.le_refl _)
  have hlen := Lib.splitB_all ⟨#[47]⟩ h1s 0 _ (bsZ s) rfl
  have hsp := splitB_zspl (bsZ s)
  rw [bsZ_data] at hsp
  have c := Any.strings_genSplit_core lSplit (by kernel_rfl) (bsZ s) ⟨#[47]⟩ 0 (-1) (Lib.countB (bsZ s) ⟨#[47]⟩ + 1) w (by omega) h1s (Nat.zero_le _)
    (fun x cs hx => (Any.strings_Index_one lIndex x 47 _).mono fun e w' ⟨h, hw⟩ => ⟨by rw [h, ← Lib.index_one], hw⟩)
    ((Any.strings_Count_one lCount (bsZ s) 47 w).mono fun e w' ⟨h, hw⟩ => ⟨by rw [h, show Lib.countByte (bsZ s).data.toList 47 = Lib.countB (bsZ s) ⟨#[47]⟩ from (Lib.count_one _ _).symm], hw⟩)
    (by decide) (by decide) (by rw [if_pos (by decide)]; omega)
  rw [Nat.add_sub_cancel, hlen] at c
  have e2 : Lib.cellsOf (Lib.splitB ⟨#[47]⟩ 0 (Lib.countB (bsZ s) ⟨#[47]⟩) (bsZ s)) (Lib.countB (bsZ s) ⟨#[47]⟩ + 1) = (strsV (zspl [] s)).toArray := by
    rw [← hlen, Lib.cellsOf_full, ← hsp, strsV, List.map_map]
    exact congrArg List.toArray (List.map_congr_left fun x _ => by show Value.string x = Value.string (bsZ x.data.toList); rw [bsZ_back])
  have hln : (zspl [] s).length = Lib.countB (bsZ s) ⟨#[47]⟩ + 1 := by rw [← hsp, List.length_map, hlen]
  rw [e2, ← hln] at c
  have hbd := zspl_len s []
  refine c.mono fun e w' ⟨h, hw⟩ => ⟨_, h, ?_, ?_⟩
  · rw [hw]; exact ba w _
  · rw [hw]
    refine own_slc (A' := (g.imm w _).A) (own_litN w _ rfl 9 (strsV (zspl [] s)).toArray 1 (zspl [] s).length (by simp [strsV]) (Nat.le_trans (show (zspl [] s).length ≤ 1000001 by omega) (by decide)) (strsV (zspl [] s)) (by simp)) (by decide) ?_ (strsZ_len _).symm (fun x hx => ?_) (fun b o h1 h2 => .inr ⟨h1, h2⟩)
    · rw [strsZ_val, flatVals]
      refine vals_alike fun u hu => ?_
      obtain ⟨y, _, rfl⟩ := List.mem_map.1 hu
      rfl
    · obtain ⟨y, _, rfl⟩ := List.mem_map.1 hx
      rfl
def zcsSp (x : List AV) : Nat → List AV → List Ob → Option (AV × List Ob) := fun f _ _ => match f with
  | 23 => some (.slc 1 x, [])
  | _ => none
theorem Split_b (s : List UInt8) (hs : s.length ≤ 1000000) : BCall Tryz.prog 15 [.val (.string (bsZ s)), .val (.string ⟨#[47]⟩)] [] (.slc 1 (strsZ (zspl [] s))) [] := by
  have c := genSplit_b s hs
  generalize bsZ s = B at c ⊢
  generalize strsZ (zspl [] s) = X at c ⊢
  refine fnN (zcsSp X) Tryz.func15 rfl fun _ _ => ?_
  with_reducible refine cv0 ?_
  exact ⟨c, .pure rfl (.inl rfl)⟩
end Go.Proofs.YtaklahcbeldbhaaGreatDoor
namespace Go.Proofs.YtaklahcbeldbhaaGreatDoor
open Go.RowKit Go.Lib
def zrdL (s : List UInt8) : List Int := (zrd s).getD []
def zrdB (s : List UInt8) : Bool := (zrd s).isSome
theorem zvals_len : ∀ (ws : List (List UInt8)) (l : List Int), zvals ws = some l → l.length = ws.length
  | [], l, h => by
    obtain rfl := Option.some.inj h; rfl
  | w :: r, l, h => by
    rw [zvals] at h
    cases hw : zvP w with
    | none => rw [hw] at h; cases h
    | some n =>
      rw [hw, Option.bind_some] at h
      cases hr : zvals r with
      | none => rw [hr] at h; cases h
      | some t =>
        rw [hr] at h
        obtain rfl := Option.some.inj h
        rw [List.length_cons, List.length_cons, zvals_len r t hr]
theorem zrdL_len (s : List UInt8) (h : s.length ≤ 1000) : (zrdL s).length ≤ 1000000 := by
  rw [zrdL]
  cases hr : zrd s with
  | none => exact Nat.zero_le _
  | some l =>
    rw [zrd] at hr
    split at hr
    · obtain rfl := Option.some.inj hr; exact Nat.zero_le _
    · have h1 := zvals_len _ _ hr
      have h2 := zspl_len s []
      show l.length ≤ _
      omega
end Go.Proofs.YtaklahcbeldbhaaGreatDoor
namespace Go.Proofs.YtaklahcbeldbhaaGreatDoor
open Go.RowKit Go.Lib
def vnZ (b : ByteArray) : Int := zvN b.data.toList
def vbZ (b : ByteArray) : Bool := zvB b.data.toList
def csRd (X : List AV) (vn : ByteArray → Int) (vb : ByteArray → Bool) : Nat → List AV → List Ob → Option (AV × List Ob) := fun f args _ => match f, args with
  | 15, _ => some (.slc 1 X, [])
  | 16, [.val (.string b)] => some (.tup [.val (.int .i64 (vn b)), .val (.bool (vb b))], [])
  | _, _ => none
theorem zvals_at (ws : List (List UInt8)) (i : Nat) (h : i < ws.length) : zvals (ws.drop i) = (zvP (ws[i]?.getD [])).bind fun n => (zvals (ws.drop (i + 1))).map fun l => (n : Int) :: l := by
  rw [List.drop_eq_getElem_cons h, zvals, List.getElem?_eq_getElem h]; rfl
theorem zvals_step (ws : List (List UInt8)) (i : Nat) (h : i < ws.length) (out : List Int) (V : Option (List Int)) (hJ : (zvals (ws.drop i)).map (out ++ ·) = V) :
    (zvB (ws[i]?.getD []) = false → V = none) ∧ (zvB (ws[i]?.getD []) = true → (zvals (ws.drop (i + 1))).map ((out ++ [zvN (ws[i]?.getD [])]) ++ ·) = V) := by
  rw [zvals_at ws i h] at hJ
  rw [zvB, zvN]
  cases hv : zvP (ws[i]?.getD []) with
  | none =>
    rw [hv] at hJ
    exact ⟨fun _ => hJ.symm, fun h => Bool.noConfusion h⟩
  | some n =>
    rw [hv] at hJ
    refine ⟨fun h => Bool.noConfusion h, fun _ => ?_⟩
    rw [← hJ, Option.bind_some, Option.map_map]
    congr 1
    funext l
    show (out ++ [(n : Int)]) ++ l = out ++ ((n : Int) :: l)
    rw [List.append_assoc]; rfl
set_option maxRecDepth 20000 in
theorem PRead_b (s : List UInt8) (hs : s.length ≤ 1000) : BCall Tryz.prog 8 [.val (.string (bsZ s))] [] (.tup [.slc 1 (intsA (zrdL s)), .val (.bool (zrdB s))]) [] := by
  have cS := Split_b s (by omega)
  have hE : std.eqS (bsZ s) ⟨#[46]⟩ = decide (s = [46]) := bsZ_eq s [46]
  have hsl := zspl_len s []
  obtain ⟨R, hR⟩ : ∃ R, R = AV.tup [.slc 1 (intsA (zrdL s)), .val (.bool (zrdB s))] := ⟨_, rfl⟩
  obtain ⟨V, hV⟩ : ∃ V, zvals (zspl [] s) = V := ⟨_, rfl⟩
  have hdot : s = [46] → leA (.tup [.val (.slice none 0 0), .val (.bool true)]) R := fun h => by
    rw [hR, zrdL, zrdB, zrd, if_pos h]
    exact ⟨.inr (.inl ⟨rfl, _, rfl⟩), .inl rfl, trivial⟩
  have hno : ¬ s = [46] → V = none → leA (.tup [.val (.slice none 0 0), .val (.bool false)]) R := fun h h2 => by
    rw [hR, zrdL, zrdB, zrd, if_neg h, hV, h2]
    exact ⟨.inr (.inl ⟨rfl, _, rfl⟩), .inl rfl, trivial⟩
  have hyes : ¬ s = [46] → ∀ l, V = some l → leA (.tup [.slc 1 (intsA l), .val (.bool true)]) R := fun h l h2 => by
    rw [hR, zrdL, zrdB, zrd, if_neg h, hV, h2]
    exact ⟨.inl rfl, .inl rfl, trivial⟩
  rw [← hR]
  clear hR
  have hws := fun x => zspl_mem s [] x
  generalize zspl [] s = ws at cS hV hsl hws
  generalize bsZ s = B at cS hE
  obtain ⟨n, hn⟩ := exLen ws
  have hn8 : 0 ≤ n ∧ n ≤ 1001 := by rw [hn.eq]; omega
  have hla : std.len (strsZ ws) = n := by show ((strsZ ws).length : Int) = n; rw [strsZ_len, hn.eq]
  have hat : ∀ i : Int, 0 ≤ i → i < n → std.nth (std.cel (std.at_ (strsZ ws) i)) 0 = .val (.string (bsZ (ws[i.toNat]?.getD []))) := fun i h0 h1 => strZ_cell h0 (by rw [← hn.eq]; exact h1)
  have cV : ∀ i : Int, 0 ≤ i → i < n → BCall Tryz.prog 16 [.val (.string (bsZ (ws[i.toNat]?.getD [])))] [] (zvA (ws[i.toNat]?.getD [])) [] := fun i h0 h1 => zvalue_b _ (by
    have h2 := hn.eq
    have h3 : i.toNat < ws.length := by omega
    rw [List.getElem?_eq_getElem h3]
    have := hws _ (List.getElem_mem h3)
    rw [List.length_nil] at this
    show ws[i.toNat].length ≤ _
    omega)
  have hst : ∀ i : Int, 0 ≤ i → i < n → ∀ out, (zvals (ws.drop i.toNat)).map (out ++ ·) = V → (zvB (ws[i.toNat]?.getD []) = false → V = none) ∧ (zvB (ws[i.toNat]?.getD []) = true → (zvals (ws.drop (i + 1).toNat)).map ((out ++ [zvN (ws[i.toNat]?.getD [])]) ++ ·) = V) := fun i h0 h1 out hJ => by
    have h2 := hn.eq
    rw [show (i + 1).toNat = i.toNat + 1 by omega]
    exact zvals_step ws i.toNat (by omega) out V hJ
  have hend : ∀ out, (zvals (ws.drop n.toNat)).map (out ++ ·) = V → V = some out := fun out h => by
    rw [List.drop_of_length_le (by rw [hn.eq]; omega)] at h
    rw [← h]
    show some (out ++ []) = _
    rw [List.append_nil]
  have hbeg : (zvals (ws.drop (0 : Int).toNat)).map (([] : List Int) ++ ·) = V := by
    rw [← hV]
    show (zvals ws).map (fun x => x) = _
    rw [Option.map_id']
  clear hws hn hV hsl
  refine fnN (csRd (strsZ ws) vnZ vbZ) Tryz.func8 rfl fun _ _ => ?_
  with_reducible refine cv3 (strsZ ws) vnZ vbZ ?_
  refine ⟨fun h => .pure rfl ?_, fun h => ⟨cS, ?_⟩⟩
  · have h : std.eqS B ⟨#[46]⟩ = true := h
    rw [hE] at h
    exact hdot (of_decide_eq_true h)
  · have h : std.eqS B ⟨#[46]⟩ = false := h
    rw [hE] at h
    have h : ¬ s = [46] := of_decide_eq_false h
    have hno := hno h
    have hyes := hyes h
    clear hdot hE cS h
    refine loopN (csRd (strsZ ws) vnZ vbZ) (Int × List Int) (fun x => ⟨[(4, .row 0 0), (12, .slc 1 (strsZ ws)), (13, .val (.int .i64 n)), (14, .val (.int .i64 x.1))], [.row 3 1 false 0 (intsA x.2)]⟩) (fun x => 0 ≤ x.1 ∧ x.1 ≤ n ∧ (zvals (ws.drop x.1.toNat)).map (x.2 ++ ·) = V ∧ (x.2.length : Int) ≤ x.1) (fun x => (n - x.1).toNat) (0, []) ?_ ?_ ?_
    · exact ⟨Int.le_refl 0, hn8.1, hbeg, Int.le_refl 0⟩
    · refine ⟨[none], _, rfl, ?_⟩
      have e1 : intsA ((0, []) : Int × List Int).2 = [] := rfl
      rw [e1]
      exact eq1 hla
    · rintro ⟨i, out⟩ ⟨hi0, hi1, hJ, hol⟩
      have hi0 : 0 ≤ i := hi0
      have hi1 : i ≤ n := hi1
      have hJ : (zvals (ws.drop i.toNat)).map (out ++ ·) = V := hJ
      have hol : (out.length : Int) ≤ i := hol
      have hil := ints_len out
      with_reducible refine cv4 (strsZ ws) vnZ vbZ (intsA out) ?_
      refine ⟨fun h2 => ?_, fun h2 => ?_⟩
      · have hin : i < n := of_decide_eq_true h2
        have hx := hat i hi0 hin
        have ex := str_ofZ hx
        have cv := cV i hi0 hin
        obtain ⟨s1, s2⟩ := hst i hi0 hin out hJ
        have hvb : vbZ (std.str (std.nth (std.cel (std.at_ (strsZ ws) i)) 0)) = zvB (ws[i.toNat]?.getD []) := by rw [ex, vbZ, bsZ_data]
        have hvn : vnZ (std.str (std.nth (std.cel (std.at_ (strsZ ws) i)) 0)) = zvN (ws[i.toNat]?.getD []) := by rw [ex, vnZ, bsZ_data]
        refine ⟨⟨hi0, by show i < std.len (strsZ ws); rw [hla]; exact hin⟩, ⟨has_strZ hx, trivial⟩, ?_, fun h3 => ?_, fun h3 => ?_⟩
        · show BCall _ _ [.val (.string (std.str (std.nth (std.cel (std.at_ (strsZ ws) i)) 0)))] [] (.tup [.val (.int .i64 (vnZ (std.str (std.nth (std.cel (std.at_ (strsZ ws) i)) 0)))), .val (.bool (vbZ (std.str (std.nth (std.cel (std.at_ (strsZ ws) i)) 0))))]) []
          rw [hvb, hvn, ex]
          exact cv
        · have h3 : (!(vbZ (std.str (std.nth (std.cel (std.at_ (strsZ ws) i)) 0)))) = true := h3
          rw [hvb] at h3
          have hV := s1 (by simpa using h3)
          with_reducible refine cv4 (strsZ ws) vnZ vbZ (intsA out) ?_
          exact .pure rfl (hno hV)
        · have h3 : (!(vbZ (std.str (std.nth (std.cel (std.at_ (strsZ ws) i)) 0)))) = false := h3
          rw [hvb] at h3
          have h4 : zvB (ws[i.toNat]?.getD []) = true := by simpa using h3
          have hJ2 := s2 h4
          have eO : intsA (out ++ [zvN (ws[i.toNat]?.getD [])]) = intsA out ++ [.val (.int .i64 (vnZ (std.str (std.nth (std.cel (std.at_ (strsZ ws) i)) 0))))] := by rw [hvn, ints_app]; rfl
          refine ⟨?_, ?_, (i + 1, out ++ [zvN (ws[i.toNat]?.getD [])]), ⟨by show 0 ≤ i + 1; omega, by show i + 1 ≤ n; omega, hJ2, by show ((out ++ [zvN (ws[i.toNat]?.getD [])]).length : Int) ≤ i + 1; rw [List.length_append, List.length_singleton]; omega⟩, by show (n - (i + 1)).toNat < (n - i).toNat; omega, [some 0], _, rfl, ?_⟩
          · show (intsA out).length + 1 ≤ 1000000000
            omega
          · show std.inR .i64 (i + 1)
            rw [inR64]; omega
          · show AllEq _
            rw [eO]
            exact eq0
      · have hin : ¬ i < n := of_decide_eq_false h2
        obtain rfl : i = n := by omega
        have hV := hend out hJ
        rw [if_pos trivial]
        with_reducible refine cv4 (strsZ ws) vnZ vbZ (intsA out) ?_
        exact .pure rfl (hyes out hV)
end Go.Proofs.YtaklahcbeldbhaaGreatDoor
namespace Go.Proofs.YtaklahcbeldbhaaGreatDoor
open Go.RowKit Go.Lib
def csRr (nb : Int → ByteArray) : Nat → List AV → List Ob → Option (AV × List Ob) := fun f args _ => match f, args with
  | 14, [.val (.int .i64 n)] => some (.val (.string (nb n)), [])
  | _, _ => none
theorem zword_bad {w : List UInt8} {t : List (List UInt8)} {l : List Int} {V : Option (List Int)} (hJ : (zvals (w :: t)).map (l ++ ·) = V) (h : zvR w = none) : V = none := by
  rw [zvals, zv_eq, h] at hJ
  exact hJ.symm
theorem zword_ok {w : List UInt8} {t : List (List UInt8)} {l : List Int} {V : Option (List Int)} {m : Nat} (hJ : (zvals (w :: t)).map (l ++ ·) = V) (h : zvR w = some m) : (zvals t).map ((l ++ [(m : Int)]) ++ ·) = V := by
  rw [zvals, zv_eq, h, Option.bind_some, Option.map_map] at hJ
  rw [← hJ]
  congr 1
  funext x
  show (l ++ [(m : Int)]) ++ x = l ++ ((m : Int) :: x)
  rw [List.append_assoc]; rfl
theorem zspl_at (s w : List UInt8) (i : Nat) (h : i < s.length) : zspl w (s.drop i) = if s[i]?.getD 0 = 47 then w :: zspl [] (s.drop (i + 1)) else zspl (w ++ [s[i]?.getD 0]) (s.drop (i + 1)) := by
  rw [List.drop_eq_getElem_cons h, zspl, List.getElem?_eq_getElem h]; rfl
theorem zcut1 (s : List UInt8) (i : Int) (h0 : 0 ≤ i) (h : i < s.length) : std.cutS (bsZ s) i (std.add i 1) = bsZ [s[i.toNat]?.getD 0] := by
  have hl : i.toNat < s.length := by omega
  show (bsZ s).extract i.toNat (i + 1).toNat = _
  rw [show (i + 1).toNat = i.toNat + 1 by omega, ← bsZ_back ((bsZ s).extract i.toNat (i.toNat + 1))]
  congr 1
  rw [Lib.extract_data, bsZ_data, List.getElem?_eq_getElem hl, List.drop_eq_getElem_cons hl, show i.toNat + 1 - i.toNat = 1 by omega]
  rfl
set_option maxRecDepth 20000 in
theorem RRead_b (s : List UInt8) (hs : s.length ≤ 1000) : BCall Tryz.prog 11 [.val (.string (bsZ s))] [] (.tup [.slc 1 (intsA (zrdL s)), .val (.bool (zrdB s))]) [] := by
  have hE : std.eqS (bsZ s) ⟨#[46]⟩ = decide (s = [46]) := bsZ_eq s [46]
  obtain ⟨R, hR⟩ : ∃ R, R = AV.tup [.slc 1 (intsA (zrdL s)), .val (.bool (zrdB s))] := ⟨_, rfl⟩
  obtain ⟨V, hV⟩ : ∃ V, zvals (zspl [] s) = V := ⟨_, rfl⟩
  have hdot : s = [46] → leA (.tup [.val (.slice none 0 0), .val (.bool true)]) R := fun h => by
    rw [hR, zrdL, zrdB, zrd, if_pos h]
    exact ⟨.inr (.inl ⟨rfl, _, rfl⟩), .inl rfl, trivial⟩
  have hno : ¬ s = [46] → V = none → leA (.tup [.val (.slice none 0 0), .val (.bool false)]) R := fun h h2 => by
    rw [hR, zrdL, zrdB, zrd, if_neg h, hV, h2]
    exact ⟨.inr (.inl ⟨rfl, _, rfl⟩), .inl rfl, trivial⟩
  have hyes : ¬ s = [46] → ∀ l, V = some l → leA (.tup [.slc 1 (intsA l), .val (.bool true)]) R := fun h l h2 => by
    rw [hR, zrdL, zrdB, zrd, if_neg h, hV, h2]
    exact ⟨.inl rfl, .inl rfl, trivial⟩
  rw [← hR]
  clear hR
  obtain ⟨n, hn⟩ := exLen s
  have hn8 : 0 ≤ n ∧ n ≤ 1000 := by rw [hn.eq]; omega
  have hst : std.szS (bsZ s) = n := by show ((bsZ s).size : Int) = _; rw [bsZ_size, hn.eq]
  have hix : ∀ i : Int, std.idxS (bsZ s) i = ((s[i.toNat]?.getD 0).toNat : Int) := bsZ_idx s
  have hcut : ∀ i : Int, 0 ≤ i → i < n → std.cutS (bsZ s) i (std.add i 1) = bsZ [s[i.toNat]?.getD 0] := fun i h0 h1 => zcut1 s i h0 (by rw [← hn.eq]; exact h1)
  have hsp : ∀ i : Int, 0 ≤ i → i < n → ∀ w, zspl w (s.drop i.toNat) = if s[i.toNat]?.getD 0 = 47 then w :: zspl [] (s.drop (i + 1).toNat) else zspl (w ++ [s[i.toNat]?.getD 0]) (s.drop (i + 1).toNat) := fun i h0 h1 w => by
    have h2 := hn.eq
    rw [show (i + 1).toNat = i.toNat + 1 by omega]
    exact zspl_at s w i.toNat (by omega)
  have hend : ∀ w, zspl w (s.drop n.toNat) = [w] := fun w => by
    rw [List.drop_of_length_le (by rw [hn.eq]; omega)]; rfl
  have hbeg : (zvals (zspl [] (s.drop (0 : Int).toNat))).map (([] : List Int) ++ ·) = V := by
    rw [← hV]
    show (zvals (zspl [] s)).map (fun x => x) = _
    rw [Option.map_id']
  generalize bsZ s = B at hE hst hix hcut ⊢
  clear hn hV hs
  refine fnN (csRr nbZ) Tryz.func11 rfl fun _ _ => ?_
  with_reducible refine cv1 nbZ ?_
  refine ⟨fun h => .pure rfl ?_, fun h => ?_⟩
  · have h : std.eqS B ⟨#[46]⟩ = true := h
    rw [hE] at h
    exact hdot (of_decide_eq_true h)
  · have h : std.eqS B ⟨#[46]⟩ = false := h
    rw [hE] at h
    have h : ¬ s = [46] := of_decide_eq_false h
    have hno := hno h
    have hyes := hyes h
    clear hdot hE h
    refine loopN (csRr nbZ) (Int × List Int × List UInt8) (fun x => ⟨[(0, .val (.string B)), (4, .row 0 0), (5, .val (.string (bsZ x.2.2))), (6, .val (.int .i64 x.1))], [.row 3 1 false 0 (intsA x.2.1)]⟩) (fun x => 0 ≤ x.1 ∧ x.1 ≤ n + 1 ∧ (x.1 ≤ n → (zvals (zspl x.2.2 (s.drop x.1.toNat))).map (x.2.1 ++ ·) = V ∧ (x.2.2.length : Int) ≤ x.1) ∧ (x.1 = n + 1 → V = some x.2.1) ∧ (x.2.1.length : Int) ≤ x.1) (fun x => (n + 1 - x.1).toNat) (0, [], []) ?_ ?_ ?_
    · exact ⟨Int.le_refl 0, by show (0 : Int) ≤ n + 1; omega, fun _ => ⟨hbeg, Int.le_refl 0⟩, fun h => absurd (show (0 : Int) = n + 1 from h) (by omega), Int.le_refl 0⟩
    · refine ⟨[none], _, rfl, ?_⟩
      have e1 : intsA ((0, [], []) : Int × List Int × List UInt8).2.1 = [] := rfl
      have e2 : bsZ ((0, [], []) : Int × List Int × List UInt8).2.2 = ⟨#[]⟩ := rfl
      rw [e1, e2]
      exact eq0
    · rintro ⟨i, l, w⟩ ⟨hi0, hi1, hJ, hV, hll⟩
      have hi0 : 0 ≤ i := hi0
      have hi1 : i ≤ n + 1 := hi1
      have hJ : i ≤ n → (zvals (zspl w (s.drop i.toNat))).map (l ++ ·) = V ∧ (w.length : Int) ≤ i := hJ
      have hV : i = n + 1 → V = some l := hV
      have hll : (l.length : Int) ≤ i := hll
      have hwz := bsZ_size w
      have hil := ints_len l
      with_reducible refine cv3 nbZ (intsA l) (bsZ w) ?_
      refine ⟨fun h1 => ⟨fun h2 => ⟨?_, fun h3 => ?_, fun h3 => ?_⟩, fun h2 => ?_⟩, fun h1 => ?_⟩
      · have h2 : std.ltI i (std.szS B) = true := h2
        rw [hst] at h2
        have h2 : i < n := of_decide_eq_true h2
        exact ⟨hi0, by show i < std.szS B; rw [hst]; exact h2⟩
      · have h2 : std.ltI i (std.szS B) = true := h2
        rw [hst] at h2
        have h2 : i < n := of_decide_eq_true h2
        have h3 : std.notB (std.eqI (std.idxS B i) 47) = true := h3
        rw [hix] at h3
        have h4 : ¬ s[i.toNat]?.getD 0 = 47 := fun e => by
          rw [e] at h3
          exact absurd h3 (by decide)
        obtain ⟨hJ1, hwi⟩ := hJ (by omega)
        rw [hsp i hi0 h2, if_neg h4] at hJ1
        have ec : bsZ (w ++ [s[i.toNat]?.getD 0]) = std.catS (bsZ w) (std.cutS B i (std.add i 1)) := by rw [hcut i hi0 h2, bsZ_cat]
        have hr : std.inR .i64 (i + 1) := by rw [inR64]; omega
        refine ⟨hr, ⟨hi0, by show i ≤ i + 1; omega, by show i + 1 ≤ std.szS B; rw [hst]; omega⟩, ?_, hr, (i + 1, l, w ++ [s[i.toNat]?.getD 0]), ⟨by show 0 ≤ i + 1; omega, by show i + 1 ≤ n + 1; omega, fun _ => ⟨hJ1, by show ((w ++ [s[i.toNat]?.getD 0]).length : Int) ≤ i + 1; rw [List.length_append, List.length_singleton]; omega⟩, fun h => absurd (show i + 1 = n + 1 from h) (by omega), by show (l.length : Int) ≤ i + 1; omega⟩, by show (n + 1 - (i + 1)).toNat < (n + 1 - i).toNat; omega, [some 0], _, rfl, ?_⟩
        · show (((bsZ w).size + (std.cutS B i (std.add i 1)).size : Nat) : Int) ≤ 9223372036854775807
          rw [hcut i hi0 h2, bsZ_size, bsZ_size]
          show ((w.length + 1 : Nat) : Int) ≤ _
          omega
        · show AllEq _
          rw [ec]
          exact eq0
      rotate_right
      · have h1 : std.leI i (std.szS B) = false := h1
        rw [hst] at h1
        have h1 : ¬ i ≤ n := of_decide_eq_false h1
        have hV := hyes l (hV (by omega))
        rw [if_pos trivial]
        with_reducible refine cv3 nbZ (intsA l) (bsZ w) ?_
        exact .pure rfl hV
      all_goals
        have hin : i ≤ n := by
          have h1 : std.leI i (std.szS B) = true := h1
          rw [hst] at h1
          exact of_decide_eq_true h1
        obtain ⟨hJ1, hwi⟩ := hJ hin
      have hT : ∃ T, (zvals (w :: T)).map (l ++ ·) = V ∧ (i + 1 ≤ n → zspl [] (s.drop (i + 1).toNat) = T) ∧ (i = n → T = []) := by
        have h2 : std.ltI i (std.szS B) = true := h2
        rw [hst] at h2
        have h2 : i < n := of_decide_eq_true h2
        have h3 : std.notB (std.eqI (std.idxS B i) 47) = false := h3
        rw [hix] at h3
        have h4 : s[i.toNat]?.getD 0 = 47 := by
          have h5 : ((s[i.toNat]?.getD 0).toNat : Int) = 47 := by
            refine Classical.byContradiction fun e => ?_
            have : std.eqI ((s[i.toNat]?.getD 0).toNat : Int) 47 = false := by show (_ == _) = false; simpa using e
            rw [this] at h3; cases h3
          exact UInt8.toNat_inj.1 (by show _ = 47; omega)
        rw [hsp i hi0 h2, if_pos h4] at hJ1
        exact ⟨_, hJ1, fun _ => rfl, fun h => absurd h (by omega)⟩
      rotate_left
      have hT : ∃ T, (zvals (w :: T)).map (l ++ ·) = V ∧ (i + 1 ≤ n → zspl [] (s.drop (i + 1).toNat) = T) ∧ (i = n → T = []) := by
        have h2 : std.ltI i (std.szS B) = false := h2
        rw [hst] at h2
        have h2 : ¬ i < n := of_decide_eq_false h2
        obtain rfl : i = n := by omega
        rw [hend] at hJ1
        exact ⟨[], hJ1, fun h => absurd h (by omega), fun _ => rfl⟩
      all_goals
        obtain ⟨T, hT1, hT2, hT3⟩ := hT
        clear h1 hJ hJ1 hV
        have hW0 : std.eqS (bsZ w) ⟨#[]⟩ = decide (w = []) := bsZ_eq w []
        have hWe : ∀ a, std.eqS (bsZ a) (bsZ w) = decide (a = w) := fun a => bsZ_eq a w
        have hWs : std.szS (bsZ w) = (w.length : Int) := by show ((bsZ w).size : Int) = _; rw [bsZ_size]
        have hWi : ∀ k : Nat, std.idxS (bsZ w) (Int.ofNat k) = ((w[k]?.getD 0).toNat : Int) := fun k => bsZ_idx w k
        refine loopN (csRr nbZ) (Nat × Nat) (fun x => ⟨[(0, .val (.string B)), (4, .row 0 0), (5, .val (.string (bsZ w))), (6, .val (.int .i64 i)), (7, .val (.int .i64 x.2)), (8, .val (.int .i64 x.1))], [.row 3 1 false 0 (intsA l)]⟩) (fun x => x.1 ≤ w.length ∧ x.1 ≤ 9 ∧ x.2 < 10 ^ x.1 ∧ zwor x.2 (w.drop x.1) = zwor 0 w) (fun x => w.length - x.1) (0, 0) ?_ ?_ ?_
        · exact ⟨Nat.zero_le _, by decide, by decide, rfl⟩
        · refine ⟨[some 0], _, rfl, ?_⟩
          exact eq0
        · rintro ⟨k, m⟩ ⟨hk, hk9, hm, hz⟩
          have hk : k ≤ w.length := hk
          have hk9 : k ≤ 9 := hk9
          have hm : m < 10 ^ k := hm
          have hz : zwor m (w.drop k) = zwor 0 w := hz
          have ew := hWi k
          have hm9 : m < 1000000000 ∧ (k < 9 → m < 100000000) := by
            refine ⟨Nat.lt_of_lt_of_le hm (Nat.le_trans (Nat.pow_le_pow_right (by decide) (show k ≤ 9 by omega)) (by decide)), fun h => Nat.lt_of_lt_of_le hm (Nat.le_trans (Nat.pow_le_pow_right (by decide) (show k ≤ 8 by omega)) (by decide))⟩
          with_reducible refine cv3 nbZ (intsA l) (bsZ w) ?_
          refine ⟨fun h1 => ?_, fun h1 => ?_⟩
          · have h1 : std.ltI (Int.ofNat k) (std.szS (bsZ w)) = true := h1
            rw [hWs] at h1
            have h1 : (k : Int) < (w.length : Int) := of_decide_eq_true h1
            have hkl : k < w.length := by omega
            have hw1 := zwor_at w m k hkl
            rw [hz] at hw1
            rw [List.getElem?_eq_getElem hkl, Option.getD_some] at ew
            have hib : (0 : Int) ≤ Int.ofNat k ∧ Int.ofNat k < std.szS (bsZ w) := by rw [hWs]; exact ⟨Int.natCast_nonneg k, h1⟩
            have hbad : ¬ (48 ≤ w[k].toNat ∧ w[k].toNat ≤ 57) ∨ 8 < k → V = none := fun h => by
              refine zword_bad hT1 ?_
              rw [zvR]
              split
              · rfl
              · rename_i h9
                rcases h with h | h
                · rw [hw1, if_neg h]; rfl
                · omega
            refine ⟨hib, fun h2 => ?_, fun h2 => ⟨hib, fun h3 => ?_, fun h3 => ⟨fun h4 => ?_, fun h4 => ?_⟩⟩⟩
            · have h2 : std.ltI (std.idxS (bsZ w) (Int.ofNat k)) 48 = true := h2
              rw [ew] at h2
              have h2 : ((w[k].toNat : Nat) : Int) < 48 := of_decide_eq_true h2
              have hN := hno (hbad (.inl fun h => by omega))
              with_reducible refine cv2 (intsA l) (bsZ w) ?_
              exact .pure rfl hN
            · have h3 : std.ltI 57 (std.idxS (bsZ w) (Int.ofNat k)) = true := h3
              rw [ew] at h3
              have h3 : 57 < ((w[k].toNat : Nat) : Int) := of_decide_eq_true h3
              have hN := hno (hbad (.inl fun h => by omega))
              with_reducible refine cv2 (intsA l) (bsZ w) ?_
              exact .pure rfl hN
            · have h4 : std.ltI 8 (Int.ofNat k) = true := h4
              have h4 : (8 : Int) < (k : Int) := of_decide_eq_true h4
              have hN := hno (hbad (.inr (by omega)))
              with_reducible refine cv2 (intsA l) (bsZ w) ?_
              exact .pure rfl hN
            · have h2 : std.ltI (std.idxS (bsZ w) (Int.ofNat k)) 48 = false := h2
              rw [ew] at h2
              have h2 : ¬ ((w[k].toNat : Nat) : Int) < 48 := of_decide_eq_false h2
              have h3 : std.ltI 57 (std.idxS (bsZ w) (Int.ofNat k)) = false := h3
              rw [ew] at h3
              have h3 : ¬ 57 < ((w[k].toNat : Nat) : Int) := of_decide_eq_false h3
              have h4 : std.ltI 8 (Int.ofNat k) = false := h4
              have h4 : ¬ (8 : Int) < (k : Int) := of_decide_eq_false h4
              have hm8 := hm9.2 (by omega)
              rw [if_pos ⟨by omega, by omega⟩] at hw1
              have hadd : std.add (std.mul 10 (Int.ofNat m)) (std.wrap .i64 (std.sub (std.idxS (bsZ w) (Int.ofNat k)) 48)) = Int.ofNat (10 * m + (w[k].toNat - 48)) := by
                show 10 * (m : Int) + IntKind.wrap .i64 (std.idxS (bsZ w) (Int.ofNat k) - 48) = ((10 * m + (w[k].toNat - 48) : Nat) : Int)
                rw [ew, zwrap64 _ (by omega) (by omega)]; omega
              refine ⟨?_, hib, ?_, ?_, ?_, (k + 1, 10 * m + (w[k].toNat - 48)), ⟨by omega, by omega, ?_, hw1.symm⟩, by omega, [some 0], _, rfl, ?_⟩
              · show -9223372036854775808 ≤ 10 * (m : Int) ∧ 10 * (m : Int) ≤ 9223372036854775807
                omega
              · show (0 : Int) ≤ std.idxS (bsZ w) (Int.ofNat k) - 48 ∧ std.idxS (bsZ w) (Int.ofNat k) - 48 ≤ 255
                rw [ew]; omega
              · show -9223372036854775808 ≤ std.add (std.mul 10 (Int.ofNat m)) (std.wrap .i64 (std.sub (std.idxS (bsZ w) (Int.ofNat k)) 48)) ∧ std.add (std.mul 10 (Int.ofNat m)) (std.wrap .i64 (std.sub (std.idxS (bsZ w) (Int.ofNat k)) 48)) ≤ 9223372036854775807
                rw [hadd]
                show -9223372036854775808 ≤ ((10 * m + (w[k].toNat - 48) : Nat) : Int) ∧ ((10 * m + (w[k].toNat - 48) : Nat) : Int) ≤ 9223372036854775807
                omega
              · show -9223372036854775808 ≤ (k : Int) + 1 ∧ (k : Int) + 1 ≤ 9223372036854775807
                omega
              · show 10 * m + (w[k].toNat - 48) < 10 ^ (k + 1)
                rw [Nat.pow_succ]; omega
              · exact eq1 hadd
          · have h1 : std.ltI (Int.ofNat k) (std.szS (bsZ w)) = false := h1
            rw [hWs] at h1
            have h1 : ¬ (k : Int) < (w.length : Int) := of_decide_eq_false h1
            rw [zwor_end w m k (by omega)] at hz
            have hzv : zvR w = if w = [] ∨ zdg m ≠ w then none else some m := by
              rw [zvR, if_neg (by omega), ← hz]; rfl
            have cN := znum_b m (by omega) (by omega)
            have hnb : std.eqS (nbZ (Int.ofNat m)) (bsZ w) = decide (zdg m = w) := hWe (zdg m)
            clear hz
            rw [if_pos trivial]
            with_reducible refine cv3 nbZ (intsA l) (bsZ w) ?_
            refine ⟨fun h2 => ?_, fun h2 => ⟨cN, fun h3 => ?_, fun h3 => ?_⟩⟩
            · have h2 : std.eqS (bsZ w) ⟨#[]⟩ = true := h2
              rw [hW0] at h2
              have hN := hno (zword_bad hT1 (by rw [hzv, if_pos (.inl (of_decide_eq_true h2))]))
              with_reducible refine cv2 (intsA l) (bsZ w) ?_
              exact .pure rfl hN
            · have h3 : std.notB (std.eqS (nbZ (Int.ofNat m)) (bsZ w)) = true := h3
              rw [hnb] at h3
              have h3 : ¬ zdg m = w := by
                intro e
                rw [decide_eq_true e] at h3
                cases h3
              have hN := hno (zword_bad hT1 (by rw [hzv, if_pos (.inr h3)]))
              with_reducible refine cv3 (intsA l) (bsZ w) (nbZ (Int.ofNat m)) ?_
              exact .pure rfl hN
            · have h2 : std.eqS (bsZ w) ⟨#[]⟩ = false := h2
              rw [hW0] at h2
              have h2 : ¬ w = [] := of_decide_eq_false h2
              have h3 : std.notB (std.eqS (nbZ (Int.ofNat m)) (bsZ w)) = false := h3
              rw [hnb] at h3
              have h3 : zdg m = w := by
                refine Classical.byContradiction fun e => ?_
                rw [decide_eq_false e] at h3
                cases h3
              have hok := zword_ok hT1 (m := m) (by rw [hzv, if_neg (by rintro (h | h); exact h2 h; exact h h3)])
              have eO : intsA (l ++ [(m : Int)]) = intsA l ++ [.val (.int .i64 (Int.ofNat m))] := by rw [ints_app]; rfl
              refine ⟨?_, ?_, (i + 1, l ++ [(m : Int)], []), ⟨by show 0 ≤ i + 1; omega, by show i + 1 ≤ n + 1; omega, fun h => ?_, fun h => ?_, by show ((l ++ [(m : Int)]).length : Int) ≤ i + 1; rw [List.length_append, List.length_singleton]; omega⟩, by show (n + 1 - (i + 1)).toNat < (n + 1 - i).toNat; omega, [some 0], _, rfl, ?_⟩
              · show (intsA l).length + 1 ≤ 1000000000
                omega
              · show std.inR .i64 (i + 1)
                rw [inR64]; omega
              · have h : i + 1 ≤ n := h
                refine ⟨?_, by show (0 : Int) ≤ i + 1; omega⟩
                show (zvals (zspl [] (s.drop (i + 1).toNat))).map ((l ++ [(m : Int)]) ++ ·) = V
                rw [hT2 h]; exact hok
              · have h : i + 1 = n + 1 := h
                rw [hT3 (by omega)] at hok
                rw [← hok]
                show some ((l ++ [(m : Int)]) ++ []) = some (l ++ [(m : Int)])
                rw [List.append_nil]
              · show AllEq _
                rw [eO]
                exact eq0
end Go.Proofs.YtaklahcbeldbhaaGreatDoor
