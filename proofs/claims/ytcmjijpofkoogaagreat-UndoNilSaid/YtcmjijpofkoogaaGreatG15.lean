/- Lemmas, conditions told -/
import Derived.Test.YtcmjijpofkoogaaGreatG13
import Derived.Test.YtcmjijpofkoogaaGreatG12
import Derived.Test.YtcmjijpofkoogaaGreatG11
import Derived.Test.YtcmjijpofkoogaaGreatG01
set_option linter.unusedSimpArgs false
set_option linter.unusedVariables false
namespace Go.Proofs.YtcmjijpofkoogaaGreat
open Go.RowKit Go.Lib
section
variable {w w' : World} {A' : Nat → Nat → Prop}
theorem vals_alike {us : List Value} (h : ∀ u ∈ us, u.oneCell' = true) : Alike w A' us (us.map .val) := by
  refine ⟨by simp, fun j y u hy hu => ?_⟩
  rw [List.getElem?_map, hy] at hu
  obtain rfl : AV.val y = u := by simpa using hu
  exact PRel.val _ (h y (List.mem_of_getElem? hy))
theorem own_slc {base e sz n : Nat} {v : Value} {ys : List Value} {xs : List AV} (h : w'.ownsRow base e sz v n ys) (hsz : 0 < sz) (hal : Alike w' A' ys (flatA xs)) (hn : n = xs.length) (hw : ∀ x ∈ xs, x.cells.length = sz)
    (hA : ∀ b o, base ≤ b → b < w'.heap.size → A' b o) : PRel w' A' v (.slc sz xs) := by
  obtain ⟨A, c, rfl, hr⟩ := own_form h
  refine rd_slc (S := fun b => base ≤ b ∧ b < w'.heap.size) ⟨hr.len, hr.le, hr.max, hr.nil, fun hp => ?_⟩ (fun b o hb => hA b o hb.1 hb.2) hn hw (fun a ha => ?_) hal
  · obtain ⟨b, o, h1, h2, h3⟩ := hr.at_ hp
    have hlen : 0 < ys.length := by rw [hr.len]; exact Nat.mul_pos hp hsz
    have := h3 0 ys[0] (List.getElem?_eq_getElem hlen)
    exact ⟨b, o, h1, ⟨h2, World.block_lt_of_cell? w' _ this⟩, h3⟩
  · rcases h.2 with ⟨h1, _⟩ | ⟨b, cap, cur, h1, _⟩
    · cases h1; cases ha
    · cases h1; cases ha; exact ⟨b, 0, rfl⟩
end
def itmOf (x : Int × Nat × Nat) : Itm := ⟨x.1, x.2.1, x.2.2⟩
def eightF (b : List UInt8) : List Itm := (itemsF b).map itmOf
theorem items_flat (l : List (Int × Nat × Nat)) : flatA (itmsA (l.map itmOf)) = (itemCells l).map .val := by
  induction l with
  | nil => rfl
  | cons x r ih => simp only [itmsA, List.map_cons, flatA, List.flatMap_cons, itemCells, List.map_append] at ih ⊢; rw [ih]; rfl
theorem Items_b (b : List UInt8) (hb : b.length ≤ 100000000) : BCall Tryz.prog 178 [.slc 1 (bytesA b)] [] (.slc 3 (itmsA (eightF b))) [] := by
  refine BCall.hand (enters_of Tryz.func178 (by kernel_rfl) rfl) fun w g vs M hL => ?_
  obtain ⟨v1, vs1, rfl, h1, hL⟩ := argsCons hL
  obtain rfl := argsNil hL
  obtain ⟨A, c, rfl, hr⟩ := bytes_rd h1 M
  refine (Items_any _ A _ c b w hr (by omega)).mono fun e w' ⟨v, h, ⟨n', ho⟩, hbel⟩ => ⟨v, h, hbel, ?_⟩
  have hn : n' = (itmsA (eightF b)).length := by
    have := ho.1
    rw [itemCells_len] at this
    rw [itms_len, eightF, List.length_map]; omega
  refine own_slc (A' := (g.imm w w').A) ho (by decide) ?_ hn (fun x hx => ?_) (fun b o h1 h2 => .inr ⟨h1, h2⟩)
  · rw [eightF, items_flat]
    refine vals_alike fun u hu => ?_
    obtain ⟨x, _, hx⟩ := List.mem_flatMap.1 hu
    simp only [List.mem_cons, List.not_mem_nil, or_false] at hx
    rcases hx with rfl | rfl | rfl <;> rfl
  · obtain ⟨y, _, rfl⟩ := List.mem_map.1 hx
    rfl
def pcsF (kind : Int) (b : List UInt8) : List Itm := if kind = 0 then eightF b else if kind = 1 then wideF true 0 b else if kind = 2 then wideF false 0 b else []
def csPi (f8 : List AV → List AV) (fw : Bool → List AV → List AV) : Nat → List AV → List Ob → Option (AV × List Ob) := fun f args _ => match f, args with
  | 178, [.slc 1 xs] => some (.slc 3 (f8 xs), [])
  | 179, [.slc 1 xs, .val (.bool b)] => some (.slc 3 (fw b xs), [])
  | _, _ => none
def f8A (xs : List AV) : List AV := itmsA (eightF (xs.map byteOf))
def fwA (big : Bool) (xs : List AV) : List AV := itmsA (wideF big 0 (xs.map byteOf))
set_option maxRecDepth 20000 in
theorem Pieces_b (kind : Int) (b : List UInt8) (hb : b.length ≤ 100000000) : BCall Tryz.prog 118 [.val (.int .i64 kind), .slc 1 (bytesA b)] [] (.slc 3 (itmsA (pcsF kind b))) [] := by
  have hf8 : f8A (bytesA b) = itmsA (eightF b) := by rw [f8A, bytes_back]
  have hfw : ∀ big, fwA big (bytesA b) = itmsA (wideF big 0 b) := fun big => by rw [fwA, bytes_back]
  have c8 : BCall Tryz.prog 178 [.slc 1 (bytesA b)] [] (.slc 3 (f8A (bytesA b))) [] := by rw [hf8]; exact Items_b b hb
  have cw : ∀ big, BCall Tryz.prog 179 [.slc 1 (bytesA b), .val (.bool big)] [] (.slc 3 (fwA big (bytesA b))) [] := fun big => by rw [hfw]; exact WItems_b big b (by omega)
  refine fnN (csPi f8A fwA) Tryz.func118 rfl fun _ _ => ?_
  with_reducible refine cv3 f8A fwA (bytesA b) ?_
  refine ⟨fun h => ⟨c8, .pure rfl (.inl ?_)⟩, fun h => ⟨fun h1 => ⟨cw _, .pure rfl (.inl ?_)⟩, fun h1 => ⟨fun h2 => ⟨cw _, .pure rfl (.inl ?_)⟩, fun h2 => .pure rfl (.inr (.inl ⟨rfl, 3, ?_⟩))⟩⟩⟩
  · have h : kind = 0 := by simpa [std] using h
    rw [pcsF, if_pos h, hf8]
  · have h : ¬ kind = 0 := by simpa [std] using h
    have h1' : kind = 1 := by simpa [std] using h1
    have h1 : std.eqI kind 1 = true := h1
    show AV.slc 3 (fwA (std.eqI kind 1) (bytesA b)) = _
    rw [pcsF, if_neg h, if_pos h1', h1, hfw]
  · have h : ¬ kind = 0 := by simpa [std] using h
    have h1' : ¬ kind = 1 := by simpa [std] using h1
    have h2 : kind = 2 := by simpa [std] using h2
    have h1 : std.eqI kind 1 = false := h1
    show AV.slc 3 (fwA (std.eqI kind 1) (bytesA b)) = _
    rw [pcsF, if_neg h, if_neg h1', if_pos h2, h1, hfw]
  · have h : ¬ kind = 0 := by simpa [std] using h
    have h1 : ¬ kind = 1 := by simpa [std] using h1
    have h2 : ¬ kind = 2 := by simpa [std] using h2
    rw [pcsF, if_neg h, if_neg h1, if_neg h2]; rfl
structure Txt where
  kind : Int
  bom : Int
  r : List Int
  off : List Int
  deriving Inhabited
def Txt.cs (t : Txt) : List AV := [.val (.int .i64 t.kind), .val (.int .i64 t.bom), .slc 1 (runesA t.r), .slc 1 (intsA t.off)]
def textI (b : List UInt8) : List Itm := pcsF (kindF b).1 (b.drop (kindF b).2.toNat)
def textF' (b : List UInt8) : Txt := ⟨(kindF b).1, (kindF b).2, (textI b).map Itm.r, (textI b).map (fun x => x.off + (kindF b).2) ++ [(b.length : Int)]⟩
theorem kind_bom (b : List UInt8) : 0 ≤ (kindF b).2 ∧ (kindF b).2 ≤ b.length := by
  have key : ∀ (x : List UInt8 × Int × Int), x ∈ signsL → x.1.isPrefixOf b = true → 0 ≤ x.2.2 ∧ x.2.2 ≤ b.length := by
    intro x hx hp
    have := (List.isPrefixOf_iff_prefix.1 hp).length_le
    simp only [signsL, List.mem_cons, List.not_mem_nil, or_false] at hx
    rcases hx with rfl | rfl | rfl | rfl | rfl <;> simp at this ⊢ <;> omega
  unfold kindF kR
  split
  · rename_i x hx
    have h1 := List.find?_some hx
    have h2 := List.mem_of_find?_eq_some hx
    exact key x (by simpa using h2) h1
  · simp only; omega
def csD (k bom : Int) (pc : Int → List AV → List AV) : Nat → List AV → List Ob → Option (AV × List Ob) := fun f args _ => match f, args with
  | 117, _ => some (.tup [.val (.int .i64 k), .val (.int .i64 bom)], [])
  | 118, [.val (.int .i64 k), .slc 1 xs] => some (.slc 3 (pc k xs), [])
  | _, _ => none
def pcA (k : Int) (xs : List AV) : List AV := itmsA (pcsF k (xs.map byteOf))
set_option maxRecDepth 20000 in
set_option maxHeartbeats 2000000 in
theorem Decode_b (b : List UInt8) (hb : b.length ≤ 1000000) (hps : (textI b).length ≤ 1000000) (hoff : ∀ x ∈ textI b, 0 ≤ x.off ∧ x.off ≤ 1000000) :
    BCall Tryz.prog 78 [.slc 1 (bytesA b)] [] (.agg (textF' b).cs) [] := by
  have hkb := kind_bom b
  have cK := Kind3_b b
  obtain ⟨k, hk⟩ : ∃ k, k = (kindF b).1 := ⟨_, rfl⟩
  obtain ⟨bom, hbom⟩ : ∃ k, k = (kindF b).2 := ⟨_, rfl⟩
  obtain ⟨ps, hpsE⟩ : ∃ ps, ps = textI b := ⟨_, rfl⟩
  have hT : textF' b = ⟨k, bom, ps.map Itm.r, ps.map (fun x => x.off + bom) ++ [(b.length : Int)]⟩ := by rw [hk, hbom, hpsE]; rfl
  have hpb : ps = pcsF k (b.drop bom.toNat) := by rw [hk, hbom, hpsE]; rfl
  rw [hT]
  rw [← hpsE] at hps hoff
  rw [← hk, ← hbom] at cK
  rw [← hbom] at hkb
  clear hT hk hbom hpsE
  have hcut : std.cut (bytesA b) bom (std.len (bytesA b)) = bytesA (b.drop bom.toNat) := by
    show ((bytesA b).drop bom.toNat).take ((bytesA b).length - bom : Int).toNat = _
    rw [bytesA, bytesA, List.map_drop, List.take_of_length_le (by simp; omega)]
  have hpc : pcA k (std.cut (bytesA b) bom (std.len (bytesA b))) = itmsA ps := by rw [hcut, pcA, bytes_back, hpb]
  have cP : BCall Tryz.prog 118 [.val (.int .i64 k), .slc 1 (std.cut (bytesA b) bom (std.len (bytesA b)))] [] (.slc 3 (pcA k (std.cut (bytesA b) bom (std.len (bytesA b))))) [] := by
    rw [hpc, hcut, hpb]; exact Pieces_b k _ (by rw [List.length_drop]; omega)
  obtain ⟨nb, hnb⟩ := exLen b
  obtain ⟨n, hn⟩ := exLen ps
  have hbn : bom ≤ nb := by rw [hnb.eq]; exact hkb.2
  have hb0 := hkb.1
  clear hkb
  refine fnO false (csD k bom pcA) (fun id => match id with | 3 => .of [0, 1, 2, 3, 4, 5, 8, 6, 7] | _ => .nil) Tryz.func78 rfl fun _ _ => ?_
  with_reducible refine cv2 pcA (bytesA b) ?_
  have enb := hnb.eq
  have en := hn.eq
  have hbl := bytes_len b
  refine ⟨cK, ?_, cP, ?_⟩
  · simp only [std, hbl]; omega
  have hnm : std.len (pcA k (std.cut (bytesA b) bom (std.len (bytesA b)))) = n := by rw [hpc]; simp only [std, itms_len]; omega
  refine loopN (csD k bom pcA) (Int) (fun i => ⟨[(0, .slc 1 (bytesA b)), (2, .box 0 0), (3, .box 1 0), (20, .slc 3 (itmsA ps)), (21, .val (.int .i64 n)), (22, .val (.int .i64 i))], [.box [.val (.int .i64 0), .val (.int .i64 0), .val (.slice none 0 0), .val (.slice none 0 0)], .box [.val (.int .i64 k), .val (.int .i64 bom), .row 2 0, .row 3 0], .row 21 1 false 0 (runesA ((ps.take i.toNat).map Itm.r)), .row 3 1 false 0 (intsA ((ps.take i.toNat).map fun x => x.off + bom))]⟩) (fun i => 0 ≤ i ∧ i ≤ n) (fun i => (n - i).toNat) 0 ?_ ?_ ?_
  · omega
  · refine ⟨[some 0, some 1, none, none], _, rfl, ?_⟩
    simp only [Int.toNat_zero, List.take_zero, List.map_nil]
    repeat first
      | exact trivial
      | refine ⟨gA hpc, ?_⟩
      | refine ⟨gI hnm, ?_⟩
      | refine ⟨rfl, ?_⟩
  · rintro i ⟨hi0, hin⟩
    have hil := itms_len ps
    rcases Int.lt_or_eq_of_le hin with hlt | heq
    · have hat : (itmsA ps)[i.toNat]?.getD .dead = (ps[i.toNat]?.getD ⟨0, 0, 0⟩).av := getA Itm.av hi0 (by omega) ⟨0, 0, 0⟩
      have hil2 : i.toNat < ps.length := by omega
      have hx := hoff (ps[i.toNat]?.getD ⟨0, 0, 0⟩) (by simp [hil2])
      have ht : ps.take (i + 1).toNat = ps.take i.toNat ++ [ps[i.toNat]?.getD ⟨0, 0, 0⟩] := by
        rw [show (i + 1).toNat = i.toNat + 1 by omega, List.take_add_one]
        simp [hil2]
      have hr1 : runesA ((ps.take (i + 1).toNat).map Itm.r) = runesA ((ps.take i.toNat).map Itm.r) ++ [.val (.int .i32 (ps[i.toNat]?.getD ⟨0, 0, 0⟩).r)] := by
        rw [ht, List.map_append, runes_app]; rfl
      have hr2 : intsA ((ps.take (i + 1).toNat).map fun x => x.off + bom) = intsA ((ps.take i.toNat).map fun x => x.off + bom) ++ [.val (.int .i64 ((ps[i.toNat]?.getD ⟨0, 0, 0⟩).off + bom))] := by
        rw [ht, List.map_append, ints_app]; rfl
      have hl1 : (runesA ((ps.take i.toNat).map Itm.r)).length ≤ 1000000 := by simp [runesA]; omega
      have hl2 : (intsA ((ps.take i.toNat).map fun x => x.off + bom)).length ≤ 1000000 := by simp [intsA]; omega
      obtain ⟨x, hxE⟩ : ∃ x, x = ps[i.toNat]?.getD ⟨0, 0, 0⟩ := ⟨_, rfl⟩
      rw [← hxE] at hat hx hr1 hr2
      obtain ⟨R, hR⟩ : ∃ R, R = runesA ((ps.take i.toNat).map Itm.r) := ⟨_, rfl⟩
      obtain ⟨O, hO⟩ : ∃ O, O = intsA ((ps.take i.toNat).map fun x => x.off + bom) := ⟨_, rfl⟩
      rw [← hR] at hr1 hl1 ⊢
      rw [← hO] at hr2 hl2 ⊢
      clear en enb ht
      with_reducible refine cv3 pcA (bytesA b) (itmsA ps) ?_
      have en := hn.eq
      have enb := hnb.eq
      repeat' first
        | (with_reducible refine And.intro (fun hx => absurd hx (by first | (try simp [std, S1, hat, Itm.av, hil, hlt, hi0]) <;> omega | omega)) (fun _ => ?_))
        | (with_reducible refine And.intro (fun _ => ?_) (fun hx => absurd hx (by first | (try simp [std, S1, hat, Itm.av, hil, hlt, hi0]) <;> omega | omega)))
        | (with_reducible refine And.intro (by first | (try simp [std, S1, hat, Itm.av, hil, hlt, hi0]) <;> omega | omega) ?_)
        | (with_reducible refine And.intro ?_ ?_)
        | (with_reducible intro hb)
      exact ⟨i + 1, ⟨by omega, by omega⟩, by omega, [some 0, some 1, some 2, some 3], _, rfl, by simp [-List.map_take, AllEq, lk, std, hat, hil, Itm.av, AV.cells, intOf, hr1, hr2]⟩
    · have ht : ps.take i.toNat = ps := List.take_of_length_le (by omega)
      rw [ht]
      have hl2 : (intsA (ps.map fun x => x.off + bom)).length ≤ 1000000 := by simp [intsA]; omega
      have hf : intsA (ps.map (fun x => x.off + bom) ++ [(b.length : Int)]) = intsA (ps.map fun x => x.off + bom) ++ [.val (.int .i64 nb)] := by
        rw [ints_app, hnb.eq]; rfl
      have hlb : std.len (bytesA b) = nb := by rw [enb]; simp only [std, hbl]
      obtain ⟨R, hR⟩ : ∃ R, R = runesA (ps.map Itm.r) := ⟨_, rfl⟩
      obtain ⟨O, hO⟩ : ∃ O, O = intsA (ps.map fun x => x.off + bom) := ⟨_, rfl⟩
      rw [← hO] at hl2 hf
      have hcs : (Txt.mk k bom (ps.map Itm.r) (ps.map (fun x => x.off + bom) ++ [(b.length : Int)])).cs = [.val (.int .i64 k), .val (.int .i64 bom), .slc 1 R, .slc 1 (O ++ [.val (.int .i64 nb)])] := by
        rw [Txt.cs, hf, hR]
      rw [hcs, ← hR, ← hO]
      clear en enb ht hcs
      with_reducible refine cv3 pcA (bytesA b) (itmsA ps) ?_
      with_reducible repeat' first | refine aU heq ?_ | refine And.intro ?_ ?_ | intro hb
      rw [if_pos trivial]
      with_reducible refine cv3 pcA (bytesA b) (itmsA ps) ?_
      refine ⟨?_, .pure rfl ?_⟩
      · simp [std]; omega
      · refine ⟨.inl rfl, .inl rfl, .inl rfl, .inl ?_, trivial⟩
        show AV.slc 1 (std.app O [.val (.int .i64 (std.len (bytesA b)))]) = _
        rw [hlb]; rfl
end Go.Proofs.YtcmjijpofkoogaaGreat
namespace Go.Proofs.YtcmjijpofkoogaaGreat
open Go.RowKit Go.Lib
set_option maxRecDepth 20000 in
theorem In_b (t : Txt) (a b : Int) (h0 : 0 ≤ a) (h1 : a ≤ b) (h2 : b ≤ t.r.length) : BCall Tryz.prog 188 [.agg t.cs, .val (.int .i64 a), .val (.int .i64 b)] [] (.val (.bool true)) [] := by
  obtain ⟨n, hn⟩ := exLen t.r
  have h2n : b ≤ n := by rw [hn.eq]; exact h2
  clear h2
  unfold Txt.cs
  obtain ⟨k, hk⟩ : ∃ k, k = t.kind := ⟨_, rfl⟩
  obtain ⟨m, hm⟩ : ∃ k, k = t.bom := ⟨_, rfl⟩
  obtain ⟨R, hR⟩ : ∃ k, k = runesA t.r := ⟨_, rfl⟩
  obtain ⟨O, hO⟩ : ∃ k, k = intsA t.off := ⟨_, rfl⟩
  have hRl : R.length = t.r.length := by rw [hR, runes_len]
  rw [← hk, ← hm, ← hR, ← hO]
  refine fnN (cs0) Tryz.func188 rfl fun _ _ => ?_
  with_reducible refine cv0 ?_
  have en := hn.eq
  have hRn : ((R.length : Nat) : Int) = n := by omega
  with_reducible repeat' first | refine aU (zA hRn <| zA h0 <| zA h1 h2n) ?_ | refine zA ?_ ?_ | intro hb
  refine .pure rfl (.inl ?_)
  have : std.leI b (std.len R) = true := by simp only [std, hRn]; exact decide_eq_true h2n
  show AV.val (.bool (std.leI b (std.len R))) = _
  rw [this]
def csSl : Nat → List AV → List Ob → Option (AV × List Ob) := fun f args _ => match f, args with
  | 188, _ => some (.val (.bool true), [])
  | 60, [.slc 1 xs] => some (.slc 1 xs, [])
  | _, _ => none
structure TxtOk (t : Txt) (b : List UInt8) : Prop where
  len : t.off.length = t.r.length + 1
  range : ∀ x ∈ t.off, 0 ≤ x ∧ x ≤ b.length
  last : t.off[t.r.length]?.getD 0 = b.length
  mono : ∀ i j : Nat, i ≤ j → j ≤ t.r.length → t.off[i]?.getD 0 ≤ t.off[j]?.getD 0
def sliceF (t : Txt) (b : List UInt8) (i j : Int) : List UInt8 := (b.drop (t.off[i.toNat]?.getD 0).toNat).take ((t.off[j.toNat]?.getD 0) - (t.off[i.toNat]?.getD 0)).toNat
set_option maxRecDepth 20000 in
set_option maxHeartbeats 1000000 in
theorem Slice_b (t : Txt) (bs : List UInt8) (hbs : bs.length ≤ 1000000) (ok : TxtOk t bs) (hrl : t.r.length ≤ 1000000) (i j : Int) (h0 : 0 ≤ i) (h1 : i ≤ j) (h2 : j ≤ t.r.length) :
    BCall Tryz.prog 255 [.agg t.cs, .slc 1 (bytesA bs), .val (.int .i64 i), .val (.int .i64 j)] [] (.slc 1 (bytesA (sliceF t bs i j))) [] := by
  have cI := In_b t i j h0 h1 h2
  obtain ⟨lo, hlo⟩ : ∃ x, x = t.off[i.toNat]?.getD 0 := ⟨_, rfl⟩
  obtain ⟨hi, hhi⟩ : ∃ x, x = t.off[j.toNat]?.getD 0 := ⟨_, rfl⟩
  have hol := ok.len
  have olen := ints_len t.off
  have alo := ints_at (l := t.off) (i := i) h0 (by omega)
  have ahi := ints_at (l := t.off) (i := j) (by omega) (by omega)
  have ala := ints_at (l := t.off) (i := (t.r.length : Int)) (by omega) (by omega)
  rw [Int.toNat_natCast, ok.last] at ala
  rw [← hlo] at alo
  rw [← hhi] at ahi
  have hle : lo ≤ hi := by rw [hlo, hhi]; exact ok.mono _ _ (by omega) (by omega)
  have hlo0 : 0 ≤ lo := by
    have h3 : i.toNat < t.off.length := by omega
    have := ok.range (t.off[i.toNat]'h3) (List.getElem_mem h3)
    rw [hlo, List.getElem?_eq_getElem h3]
    exact this.1
  obtain ⟨nb, hnb⟩ := exLen bs
  have hhin : hi ≤ nb := by
    have h3 : j.toNat < t.off.length := by omega
    have := ok.range (t.off[j.toNat]'h3) (List.getElem_mem h3)
    rw [hhi, hnb.eq, List.getElem?_eq_getElem h3]
    exact this.2
  have hcut : std.cut (bytesA bs) lo hi = bytesA (sliceF t bs i j) := by
    show ((bytesA bs).drop lo.toNat).take (hi - lo).toNat = _
    rw [sliceF, ← hlo, ← hhi, bytesA, bytesA, List.map_take, List.map_drop]
  obtain ⟨nr, hnr⟩ := exLen t.r
  have hjn : j ≤ nr := by rw [hnr.eq]; exact h2
  have cC : BCall Tryz.prog 60 [.slc 1 (std.cut (bytesA bs) lo hi)] [] (.slc 1 (std.cut (bytesA bs) lo hi)) [] := CloneB_b _ (by rw [hcut, bytes_len, sliceF, List.length_take, List.length_drop]; omega)
  rw [← hcut]
  clear hcut ok hlo hhi h2
  unfold Txt.cs at cI ⊢
  obtain ⟨k, hk⟩ : ∃ k, k = t.kind := ⟨_, rfl⟩
  obtain ⟨m, hm⟩ : ∃ k, k = t.bom := ⟨_, rfl⟩
  obtain ⟨R, hR⟩ : ∃ k, k = runesA t.r := ⟨_, rfl⟩
  obtain ⟨O, hO⟩ : ∃ k, k = intsA t.off := ⟨_, rfl⟩
  rw [← hk, ← hm, ← hR, ← hO] at cI ⊢
  rw [← hO] at alo ahi ala olen
  refine fnN (csSl) Tryz.func255 rfl fun _ _ => ?_
  with_reducible refine cv1 (bytesA bs) ?_
  have enb := hnb.eq
  have enr := hnr.eq
  have hbl := bytes_len bs
  have hON : ((O.length : Nat) : Int) = nr + 1 := by omega
  have hON2 : ((O.length : Nat) : Int) - 1 = nr := by omega
  have ala : O[nr.toNat]?.getD .dead = .val (.int .i64 nb) := by rw [show nr.toNat = t.r.length by omega, enb]; exact ala
  have hbn : (((bytesA bs).length : Nat) : Int) = nb := by omega
  have hl' : std.int (std.nth (std.cel (std.at_ O i)) 0) = lo := by simp [std, alo, AV.cells, intOf]
  have hh' : std.int (std.nth (std.cel (std.at_ O j)) 0) = hi := by simp [std, ahi, AV.cells, intOf]
  with_reducible repeat' first | refine aU (zA cI <| zA alo <| zA ahi <| zA ala <| zA hON <| zA hON2 <| zA hbn <| zA hlo0 <| zA hle hhin) ?_ | refine zA ?_ ?_ | intro hb
  · show BCall _ _ [.slc 1 (std.cut (bytesA bs) (std.int (std.nth (std.cel (std.at_ O i)) 0)) (std.int (std.nth (std.cel (std.at_ O j)) 0)))] [] (.slc 1 (std.cut (bytesA bs) (std.int (std.nth (std.cel (std.at_ O i)) 0)) (std.int (std.nth (std.cel (std.at_ O j)) 0)))) []
    rw [hl', hh']; exact cC
  · refine .pure rfl (.inl ?_)
    show AV.slc 1 (std.cut (bytesA bs) (std.int (std.nth (std.cel (std.at_ O i)) 0)) (std.int (std.nth (std.cel (std.at_ O j)) 0))) = _
    rw [hl', hh']
set_option maxRecDepth 20000 in
set_option maxHeartbeats 1000000 in
theorem Equal_b (x y : List Int) (hx : x.length ≤ 1000000000) (hy : y.length ≤ 1000000000) : BCall Tryz.prog 254 [.slc 1 (runesA x), .slc 1 (runesA y)] [] (.val (.bool (decide (x = y)))) [] := by
  obtain ⟨n, hn⟩ := exLen x
  obtain ⟨m, hm⟩ := exLen y
  obtain ⟨e, he⟩ : ∃ e, e = decide (x = y) := ⟨_, rfl⟩
  rw [← he]
  have hxl := runes_len x
  have hyl := runes_len y
  refine fnN (cs0) Tryz.func254 rfl fun _ _ => ?_
  with_reducible refine cv2 (runesA x) (runesA y) ?_
  have en := hn.eq
  have em := hm.eq
  have hxn : (((runesA x).length : Nat) : Int) = n := by omega
  have hyn : (((runesA y).length : Nat) : Int) = m := by omega
  refine ⟨fun h => ?_, fun h => ?_⟩
  · have h : ¬ n = m := by simpa [std, hxn, hyn] using h
    refine .pure rfl (.inl ?_)
    rw [he, decide_eq_false (fun h2 => h (by rw [en, em, h2]))]
  · have h : n = m := by simpa [std, hxn, hyn] using h
    refine loopN (cs0) (Int) (fun i => ⟨[(0, .slc 1 (runesA x)), (1, .slc 1 (runesA y)), (12, .val (.int .i64 n)), (13, .val (.int .i64 i))], []⟩) (fun i => 0 ≤ i ∧ i ≤ n ∧ ∀ j : Nat, (j : Int) < i → x[j]?.getD 0 = y[j]?.getD 0) (fun i => (n - i).toNat) 0 ?_ ?_ ?_
    · exact ⟨by omega, by omega, fun j hj => by omega⟩
    · exact ⟨[], _, rfl, by simp [AllEq, lk, std, hxn]⟩
    · rintro i ⟨hi0, hin, hi⟩
      have hi' : ∀ j : Nat, j < i.toNat → x[j]?.getD 0 = y[j]?.getD 0 := fun j hj => hi j (by omega)
      clear hi
      rcases Int.lt_or_eq_of_le hin with hlt | heq
      · have ax := runes_at (l := x) hi0 (by omega)
        have ay := runes_at (l := y) hi0 (by omega)
        have hltm : i < m := by omega
        clear en em h hxn hyn
        with_reducible refine cv2 (runesA x) (runesA y) ?_
        have en := hn.eq
        have em := hm.eq
        have hxn : (((runesA x).length : Nat) : Int) = n := by omega
        have hyn : (((runesA y).length : Nat) : Int) = m := by omega
        with_reducible repeat' first | refine aU (zA ax <| zA ay <| zA hxn <| zA hyn <| zA hlt <| zA hltm hi0) ?_ | refine zA ?_ ?_ | intro hb
        · have hne : ¬ x[i.toNat]?.getD 0 = y[i.toNat]?.getD 0 := by simpa [std, ax, ay, AV.cells, intOf] using hb
          with_reducible refine cv2 (runesA x) (runesA y) ?_
          refine .pure rfl (.inl ?_)
          rw [he, decide_eq_false (fun h2 => hne (by rw [h2]))]
        · have heq : x[i.toNat]?.getD 0 = y[i.toNat]?.getD 0 := by simpa [std, ax, ay, AV.cells, intOf] using hb
          refine ⟨i + 1, ⟨by omega, by omega, fun j hj => ?_⟩, by omega, [], _, rfl, by simp [AllEq, lk, std]⟩
          have hj : (j : Int) < i + 1 := hj
          by_cases hji : j < i.toNat
          · exact hi' j hji
          · obtain rfl : j = i.toNat := by omega
            exact heq
      · have hxy : x = y := by
          refine List.ext_getElem (by omega) fun j h1 h2 => ?_
          have := hi' j (by omega)
          rw [List.getElem?_eq_getElem h1, List.getElem?_eq_getElem h2] at this
          exact this
        clear en em h hxn hyn
        with_reducible refine cv2 (runesA x) (runesA y) ?_
        with_reducible repeat' first | refine aU heq ?_ | refine zA ?_ ?_ | intro hb
        rw [if_pos trivial]
        with_reducible refine cv2 (runesA x) (runesA y) ?_
        refine .pure rfl (.inl ?_)
        rw [he, decide_eq_true hxy]
end Go.Proofs.YtcmjijpofkoogaaGreat
namespace Go.Proofs.YtcmjijpofkoogaaGreat
open Go.RowKit Go.Lib
def ChainI : Int → List Itm → Int → Prop
  | a, [], e => a = e
  | a, x :: r, e => x.off = a ∧ 1 ≤ x.n ∧ ChainI (a + x.n) r e
theorem wide_chain (big : Bool) : ∀ (n : Nat) (l : List UInt8) (a : Int), l.length ≤ n → ChainI a (wideF big a l) (a + l.length) := by
  intro n
  induction n with
  | zero =>
    intro l a h
    have : l = [] := List.eq_nil_of_length_eq_zero (by omega)
    subst this
    rw [wideF, dif_pos rfl]
    show a = _
    simp
  | succ n ih =>
    intro l a h
    by_cases hl : l = []
    · subst hl
      rw [wideF, dif_pos rfl]
      show a = _
      simp
    · have hs := stepW_n big l hl
      rw [wideF, dif_neg hl]
      refine ⟨rfl, hs.1, ?_⟩
      have := ih (l.drop (stepW big l).2.toNat) (a + (stepW big l).2) (by rw [List.length_drop]; omega)
      rw [List.length_drop] at this
      rw [show a + (stepW big l).2 + ((l.length - (stepW big l).2.toNat : Nat) : Int) = a + l.length by omega] at this
      exact this
theorem firstF_n (l : List UInt8) (h : l ≠ []) : 1 ≤ (firstF l).2 ∧ (firstF l).2 ≤ l.length := by
  have hl : 0 < l.length := List.length_pos_iff.2 h
  unfold firstF
  split
  · exact ⟨Nat.le_refl _, hl⟩
  · exact ⟨decodeL_width _, decodeL_le _ h⟩
theorem items_chain : ∀ (n off : Nat) (l : List UInt8), l.length ≤ n → ChainI off ((itemsGo n off l).map itmOf) (off + l.length : Int) := by
  intro n
  induction n with
  | zero =>
    intro off l h
    have : l = [] := List.eq_nil_of_length_eq_zero (by omega)
    subst this
    show (off : Int) = _
    simp
  | succ n ih =>
    intro off l h
    cases l with
    | nil => show (off : Int) = _; simp
    | cons b t =>
      have hs := firstF_n (b :: t) (by simp)
      refine ⟨rfl, by show (1 : Int) ≤ ((firstF (b :: t)).2 : Int); omega, ?_⟩
      have := ih (off + (firstF (b :: t)).2) ((b :: t).drop (firstF (b :: t)).2) (by rw [List.length_drop]; omega)
      rw [List.length_drop] at this
      rw [show ((off + (firstF (b :: t)).2 : Nat) : Int) + (((b :: t).length - (firstF (b :: t)).2 : Nat) : Int) = off + (b :: t).length by omega, show ((off + (firstF (b :: t)).2 : Nat) : Int) = off + (firstF (b :: t)).2 by omega] at this
      exact this
theorem chain_all : ∀ (ps : List Itm) (a e : Int), ChainI a ps e → (ps.length : Int) ≤ e - a ∧ (∀ x ∈ ps.map Itm.off ++ [e], a ≤ x ∧ x ≤ e) ∧ List.Pairwise (· ≤ ·) (ps.map Itm.off ++ [e]) ∧ (ps.map Itm.off ++ [e])[0]? = some a
  | [], a, e, h => by
    have h : a = e := h
    subst h
    simp
  | x :: r, a, e, h => by
    obtain ⟨h1, h2, h3⟩ := h
    obtain ⟨h4, h5, h6, h7⟩ := chain_all r _ e h3
    refine ⟨by simp only [List.length_cons]; omega, fun y hy => ?_, ?_, by simp [h1]⟩
    · simp only [List.map_cons, List.cons_append, List.mem_cons] at hy
      rcases hy with rfl | hy
      · have := h5 e (by simp); omega
      · have := h5 y hy; omega
    · simp only [List.map_cons, List.cons_append]
      exact List.pairwise_cons.2 ⟨fun y hy => by have := h5 y hy; omega, h6⟩
theorem kind_012 (b : List UInt8) : (kindF b).1 = 0 ∨ (kindF b).1 = 1 ∨ (kindF b).1 = 2 := by
  have key : ∀ (x : List UInt8 × Int × Int), x ∈ signsL → x.2.1 = 0 ∨ x.2.1 = 1 ∨ x.2.1 = 2 := by decide
  unfold kindF kR
  split
  · rename_i x hx
    exact key x (by simpa using List.mem_of_find?_eq_some hx)
  · exact .inl rfl
theorem text_chain (b : List UInt8) : ChainI 0 (textI b) (b.length - (kindF b).2) := by
  have hb := kind_bom b
  have hl : (((b.drop (kindF b).2.toNat).length : Nat) : Int) = b.length - (kindF b).2 := by rw [List.length_drop]; omega
  have h8 := items_chain _ 0 (b.drop (kindF b).2.toNat) (Nat.le_refl _)
  have hw := fun big => wide_chain big _ (b.drop (kindF b).2.toNat) 0 (Nat.le_refl _)
  rw [hl, Int.zero_add] at hw
  rw [hl, show ((0 : Nat) : Int) = 0 from rfl, Int.zero_add] at h8
  rw [textI]
  rcases kind_012 b with h | h | h
  · rw [pcsF, if_pos h]; exact h8
  · rw [pcsF, if_neg (by omega), if_pos h]; exact hw true
  · rw [pcsF, if_neg (by omega), if_neg (by omega), if_pos h]; exact hw false
theorem text_off (b : List UInt8) : (textF' b).off = ((textI b).map Itm.off ++ [(b.length : Int) - (kindF b).2]).map (· + (kindF b).2) := by
  show (textI b).map _ ++ [(b.length : Int)] = _
  simp
theorem text_ok (b : List UInt8) : TxtOk (textF' b) b ∧ (textF' b).off[0]?.getD 0 = (kindF b).2 ∧ (textF' b).r.length ≤ b.length ∧ (textI b).length ≤ b.length ∧ ∀ x ∈ textI b, 0 ≤ x.off ∧ x.off ≤ b.length := by
  have hb := kind_bom b
  obtain ⟨h1, h2, h3, h4⟩ := chain_all _ _ _ (text_chain b)
  have hr : (textF' b).r.length = (textI b).length := by show ((textI b).map Itm.r).length = _; simp
  have ho := text_off b
  generalize hL : (textI b).map Itm.off ++ [(b.length : Int) - (kindF b).2] = L at h2 h3 h4 ho
  have hLl : L.length = (textI b).length + 1 := by rw [← hL]; simp
  have hlast : L[(textI b).length]? = some ((b.length : Int) - (kindF b).2) := by rw [← hL, List.getElem?_append_right (by simp)]; simp
  refine ⟨⟨by rw [ho, hr, List.length_map, hLl], fun x hx => ?_, ?_, fun i j hij hj => ?_⟩, ?_, by omega, by omega, fun x hx => ?_⟩
  · rw [ho] at hx
    obtain ⟨y, hy, rfl⟩ := List.mem_map.1 hx
    have := h2 y hy; omega
  · rw [ho, hr, List.getElem?_map, hlast]
    show (b.length : Int) - (kindF b).2 + (kindF b).2 = _
    omega
  · have hi1 : i < L.length := by omega
    have hj1 : j < L.length := by omega
    rw [ho, List.getElem?_map, List.getElem?_map, List.getElem?_eq_getElem hi1, List.getElem?_eq_getElem hj1]
    show L[i] + _ ≤ L[j] + _
    rcases Nat.lt_or_eq_of_le hij with h | h
    · have := List.pairwise_iff_getElem.1 h3 i j hi1 hj1 h
      omega
    · subst h; exact Int.le_refl _
  · rw [ho, List.getElem?_map, h4]
    show (0 : Int) + _ = _
    omega
  · have := h2 x.off (by rw [← hL]; exact List.mem_append_left _ (List.mem_map.2 ⟨x, hx, rfl⟩))
    omega
end Go.Proofs.YtcmjijpofkoogaaGreat
