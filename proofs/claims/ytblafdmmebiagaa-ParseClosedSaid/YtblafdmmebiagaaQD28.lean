/-
  Parts of the proof, joined: ClA ClB ClP ClM ClC ClD. Conditions: as each theorem says.
-/
import Derived.Test.YtblafdmmebiagaaQD27
import Derived.Test.YtblafdmmebiagaaQD08
namespace Go.Proofs.Ytblafdmmebiagaa
open Go.RowKit Go.Lib
def csRu (pc : List AV) : Nat → List AV → List Ob → Option (AV × List Ob) := fun f args _ => match f, args with
  | 46, [.val (.int .i64 _), .slc 1 _] => some (.slc 3 pc, [])
  | _, _ => none
def runesK (kind : Int) (b : List UInt8) : List Int := (pcsF kind b).map Itm.r
set_option maxRecDepth 20000 in
theorem Runes_b (kind : Int) (b : List UInt8) (hb : b.length ≤ 1000000) (hp : (pcsF kind b).length ≤ 1000000) : BCall Try.prog 57 [.val (.int .i64 kind), .slc 1 (bytesA b)] [] (.slc 1 (runesA (runesK kind b))) [] := by
  have cP := Pieces_b kind b (by omega)
  obtain ⟨ps, hps⟩ : ∃ ps, ps = pcsF kind b := ⟨_, rfl⟩
  unfold runesK
  rw [← hps] at cP hp ⊢
  obtain ⟨n, hn⟩ := exLen ps
  have hlen : std.len (itmsA ps) = n := by show ((itmsA ps).length : Int) = n; rw [itms_len, hn.eq]
  have en := hn.eq
  refine bcall_of (cs := csRu (itmsA ps)) (ord := fun _ => .nil) tyOk (by kernel_rfl) Try.func57 rfl (enters_of Try.func57 (by kernel_rfl) rfl) (Nat.le_of_ble_eq_true rfl) (by kernel_rfl) (by kernel_rfl) ?_
  intro w0 g0
  generalize hp : std = p
  generalize hpc : itmsA ps = pc
  generalize hB : bytesA b = B
  generalize hT : aexec p tys (csRu pc) _ _ _ _ = T
  cbv at hT
  subst hT
  simp only [Tree.ok, RoundOk, Bool.false_eq_true, Bool.true_eq_false, false_implies, true_implies, and_true, true_and]
  subst hp hpc hB
  refine ⟨cP, ?_⟩
  refine loop_rule (cs := csRu (itmsA ps)) (ord := fun _ => .nil) tyOk (by kernel_rfl) (by kernel_rfl) (by kernel_rfl) (X := Int) (fun k => ⟨[(5, .row 0 0), (10, .slc 3 (itmsA ps)), (11, .val (.int .i64 n)), (12, .val (.int .i64 k))], [.row 21 1 false 0 (runesA ((ps.take k.toNat).map Itm.r))]⟩) (fun k => 0 ≤ k ∧ k ≤ n) (fun k => (n - k).toNat) 0 ?_ ?_ ?_
  · have := hn.eq
    exact ⟨Int.le_refl 0, by omega⟩
  · refine ⟨[none], _, rfl, ?_⟩
    have e1 : runesA ((ps.take (0 : Int).toNat).map Itm.r) = [] := rfl
    rw [e1]
    repeat first
      | exact trivial
      | refine ⟨rfl, ?_⟩
      | refine ⟨rfl, ?_⟩
      | refine ⟨congrArg (fun q => AV.val (.int .i64 q)) (rfl), ?_⟩
      | refine ⟨congrArg (fun q => AV.slc 1 q) (rfl), ?_⟩
      | refine ⟨congrArg (fun q => AV.slc 0 q) (rfl), ?_⟩
      | refine ⟨congrArg (fun q => AV.val (.bool q)) (rfl), ?_⟩
      | refine ⟨congrArg (fun q => AV.val (.int .i32 q)) (rfl), ?_⟩
      | refine ⟨congrArg (fun q => AV.val (.string q)) (rfl), ?_⟩
      | refine ⟨congrArg (fun q => AV.val (.int .i64 q)) hlen, ?_⟩
      | refine ⟨congrArg (fun q => AV.val (.int .i64 q)) (congrArg (fun q => AV.val (.int .i64 q)) hlen), ?_⟩
      | refine ⟨congrArg (fun q => AV.slc 1 q) (congrArg (fun q => AV.val (.int .i64 q)) hlen), ?_⟩
      | refine ⟨congrArg (fun q => AV.slc 0 q) (congrArg (fun q => AV.val (.int .i64 q)) hlen), ?_⟩
      | refine ⟨congrArg (fun q => AV.val (.bool q)) (congrArg (fun q => AV.val (.int .i64 q)) hlen), ?_⟩
      | refine ⟨congrArg (fun q => AV.val (.int .i32 q)) (congrArg (fun q => AV.val (.int .i64 q)) hlen), ?_⟩
      | refine ⟨congrArg (fun q => AV.val (.string q)) (congrArg (fun q => AV.val (.int .i64 q)) hlen), ?_⟩
  · rintro k ⟨hk0, hk1⟩
    have hk0 : 0 ≤ k := hk0
    have hk1 : k ≤ n := hk1
    clear en
    generalize hp : std = p
    generalize hpc : itmsA ps = pc
    generalize hB : bytesA b = B
    generalize hRA : runesA ((ps.take k.toNat).map Itm.r) = RA
    generalize hT : aexec p tys (csRu pc) _ _ _ _ = T
    cbv at hT
    subst hT
    simp only [Tree.ok, RoundOk, Bool.false_eq_true, Bool.true_eq_false, false_implies, true_implies, and_true, true_and]
    subst hp hpc hB hRA
    have en := hn.eq
    refine ⟨fun h => ?_, fun h => ?_⟩
    · have h : k < n := of_decide_eq_true h
      have hk : k.toNat < ps.length := by omega
      have hat : (itmsA ps).getD k.toNat .dead = ps[k.toNat].av := by
        rw [List.getD_eq_getElem?_getD, itmsA, List.getElem?_map, List.getElem?_eq_getElem hk]; rfl
      have e1 : runesA ((ps.take (k + 1).toNat).map Itm.r) = runesA ((ps.take k.toNat).map Itm.r) ++ [.val (.int .i32 ps[k.toNat].r)] := by
        rw [show (k + 1).toNat = k.toNat + 1 by omega, List.take_add_one, List.getElem?_eq_getElem hk, List.map_append, runes_app]; rfl
      have hl : (runesA ((ps.take k.toNat).map Itm.r)).length ≤ 1000000 := by rw [runes_len, List.length_map, List.length_take]; omega
      have hw : ∀ i : Nat, AV.cells ps[k.toNat].av = [.val (.int .i32 ps[k.toNat].r), .val (.int .i64 ps[k.toNat].off), .val (.int .i64 ps[k.toNat].n)] := fun _ => rfl
      have ha : std.cel (std.at_ (itmsA ps) k) = [.val (.int .i32 ps[k.toNat].r), .val (.int .i64 ps[k.toNat].off), .val (.int .i64 ps[k.toNat].n)] := by
        show AV.cells ((itmsA ps).getD k.toNat .dead) = _
        rw [hat]; rfl
      have h0 : std.hasI .i32 (std.nth (std.cel (std.at_ (itmsA ps) k)) 0) := by rw [ha]; rfl
      have h1 : std.hasI .i64 (std.nth (std.cel (std.at_ (itmsA ps) k)) 1) := by rw [ha]; rfl
      have h2 : std.hasI .i64 (std.nth (std.cel (std.at_ (itmsA ps) k)) 2) := by rw [ha]; rfl
      have hx : std.int (std.nth (std.cel (std.at_ (itmsA ps) k)) 0) = ps[k.toNat].r := by rw [ha]; rfl
      rw [← hx] at e1
      refine ⟨?_, ⟨h0, h1, h2, trivial⟩, ?_, ?_, k + 1, ⟨by omega, by omega⟩, by omega, [some 0], _, rfl, ?_⟩
      · show 0 ≤ k ∧ k < std.len (itmsA ps)
        rw [hlen]; omega
      · show (runesA ((ps.take k.toNat).map Itm.r)).length + 1 ≤ 1000000000
        omega
      · show (-9223372036854775808 : Int) ≤ k + 1 ∧ k + 1 ≤ (9223372036854775807 : Int)
        omega
      · have e1 : std.app (runesA ((ps.take k.toNat).map Itm.r)) [.val (.int .i32 (std.int (std.nth (std.cel (std.at_ (itmsA ps) k)) 0)))] = runesA ((ps.take (k + 1).toNat).map Itm.r) := e1.symm
        repeat first
          | exact trivial
          | refine ⟨rfl, ?_⟩
          | refine ⟨e1, ?_⟩
          | refine ⟨congrArg (fun q => AV.val (.int .i64 q)) (e1), ?_⟩
          | refine ⟨congrArg (fun q => AV.slc 1 q) (e1), ?_⟩
          | refine ⟨congrArg (fun q => AV.slc 0 q) (e1), ?_⟩
          | refine ⟨congrArg (fun q => AV.val (.bool q)) (e1), ?_⟩
          | refine ⟨congrArg (fun q => AV.val (.int .i32 q)) (e1), ?_⟩
          | refine ⟨congrArg (fun q => AV.val (.string q)) (e1), ?_⟩
          | refine ⟨rfl, ?_⟩
          | refine ⟨congrArg (fun q => AV.val (.int .i64 q)) (rfl), ?_⟩
          | refine ⟨congrArg (fun q => AV.slc 1 q) (rfl), ?_⟩
          | refine ⟨congrArg (fun q => AV.slc 0 q) (rfl), ?_⟩
          | refine ⟨congrArg (fun q => AV.val (.bool q)) (rfl), ?_⟩
          | refine ⟨congrArg (fun q => AV.val (.int .i32 q)) (rfl), ?_⟩
          | refine ⟨congrArg (fun q => AV.val (.string q)) (rfl), ?_⟩
    · have h : ¬ k < n := of_decide_eq_false h
      rw [if_pos trivial, show ps.take k.toNat = ps from List.take_of_length_le (by omega)]
      clear en
      generalize hp : std = p
      generalize hpc : itmsA ps = pc
      generalize hB : bytesA b = B
      generalize hRA : runesA (ps.map Itm.r) = RA
      generalize hT : aexec p tys (csRu pc) _ _ _ _ = T
      cbv at hT
      subst hT
      simp only [Tree.ok, RoundOk, Bool.false_eq_true, Bool.true_eq_false, false_implies, true_implies, and_true, true_and]
      subst hp hpc hB hRA
      exact .pure rfl (.inl rfl)
def csTr (pr ru : Int → List AV) (n : Int) : Nat → List AV → List Ob → Option (AV × List Ob) := fun f args _ => match f, args with
  | 31, [.ref [.slc 6 _], .val (.int .i64 n)] => some (.slc 1 (pr n), [])
  | 57, [.val (.int .i64 _), .slc 1 _] => some (.slc 1 (ru n), [])
  | _, _ => none
def trO : OT := .then [0, 1, 3, 4, 5] (.fork (.of [2, 6, 7, 8]) (.of [6, 2, 7, 8]))
def ruN (kind : Int) (l : List Node) (n : Int) : List Int := runesK kind (pr l n)
def ruA (kind : Int) (l : List Node) (n : Int) : List AV := runesA (ruN kind l n)
theorem TRunes_b (t : Txt) (m : Mk) (n : Int) (h : PrOk (rootM m).n n) (hp : (pcsF t.kind (pr (rootM m).n n)).length ≤ 1000000) : BCall Try.prog 42 [treeA t m, .val (.int .i64 n)] [] (.slc 1 (runesA (ruN t.kind (rootM m).n n))) [] := by
  have cP := Print_b (rootM m).n h.len h.wf h.wide n h.h0 h.h1 h.p h.c
  have cR := Runes_b t.kind (pr (rootM m).n n) h.p hp
  obtain ⟨rt, hrt⟩ : ∃ rt : Int, rt = m.n.length := ⟨_, rfl⟩
  obtain ⟨l, hl⟩ : ∃ l, l = (rootM m).n := ⟨_, rfl⟩
  unfold treeA
  rw [← hrt, ← hl]
  rw [← hl] at cP cR
  clear h hp
  have cP : BCall Try.prog 31 [.ref [.slc 6 (nodesA l)], .val (.int .i64 n)] [] (.slc 1 (prA l n)) [] := cP
  have cR : BCall Try.prog 57 [.val (.int .i64 t.kind), .slc 1 (prA l n)] [] (.slc 1 (ruA t.kind l n)) [] := cR
  show BCall _ _ _ _ (.slc 1 (ruA t.kind l n)) _
  refine bcall_of (cs := csTr (prA l) (ruA t.kind l) n) (ord := fun id => match id with | 1 =>  trO | _ => .nil) tyOk (by kernel_rfl) Try.func42 rfl (enters_of Try.func42 (by kernel_rfl) rfl) (Nat.le_of_ble_eq_true rfl) (by kernel_rfl) (by kernel_rfl) ?_
  intro w0 g0
  generalize hp : std = p
  generalize hpr : prA l = pr
  generalize hru : ruA t.kind l = ru
  generalize hN : nodesA l = N
  generalize hR : runesA t.r = R
  generalize hO : intsA t.off = O
  generalize hD' : dgsA m.d = D'
  generalize hK : t.kind = K
  generalize hM : t.bom = M
  generalize hT : aexec p tys (csTr pr ru n) _ _ _ _ = T
  cbv at hT
  subst hT
  simp only [Tree.ok, RoundOk, Bool.false_eq_true, Bool.true_eq_false, false_implies, true_implies, and_true, true_and]
  subst hp hpr hru hN hR hO hD' hK hM
  exact ⟨⟨cP, cR, .pure rfl (.inl rfl)⟩, cP, cR, .pure rfl (.inl rfl)⟩
end Go.Proofs.Ytblafdmmebiagaa
namespace Go.Proofs.Ytblafdmmebiagaa
open Go.RowKit Go.Lib
def wayL (l : List Node) : Int → List Int → Option (List Int)
  | n, [] => some [n]
  | n, k :: r => if 0 ≤ k ∧ k < (nodeAt l n).kids.length then (wayL l ((nodeAt l n).kids[k.toNat]?.getD 0) r).map (n :: ·) else none
def wayA (l : List Node) (n : Int) (ks : List Int) : AV := match wayL l n ks with
  | some w => .tup [.slc 1 (intsA w), .val (.bool true)]
  | none => .tup [.val (.slice none 0 0), .val (.bool false)]
def csWy (ln : Int) : Nat → List AV → List Ob → Option (AV × List Ob) := fun f args _ => match f, args with
  | 53, [.ref [.slc 6 _]] => some (.val (.int .i64 ln), [])
  | _, _ => none
set_option maxRecDepth 20000 in
theorem way_b (l : List Node) (hw : Wf l) (hl : l.length ≤ 1000000) (n : Int) (h0 : 0 ≤ n) (h1 : n < l.length) (ks : List Int) (hks : ks.length ≤ 1000000) :
    BCall Try.prog 56 [.ref [.slc 6 (nodesA l)], .val (.int .i64 n), .slc 1 (intsA ks)] [] (wayA l n ks) [] := by
  have cL := Len_b l
  obtain ⟨ln, hln⟩ := exLen l
  rw [← hln.eq] at cL h1
  obtain ⟨nk, hnk⟩ := exLen ks
  have hlen : std.len (intsA ks) = nk := by show ((intsA ks).length : Int) = nk; rw [ints_len, hnk.eq]
  obtain ⟨R, hR⟩ : ∃ R, R = wayA l n ks := ⟨_, rfl⟩
  rw [← hR]
  refine bcall_of (cs := csWy ln) (ord := fun _ => .nil) tyOk (by kernel_rfl) Try.func56 rfl (enters_of Try.func56 (by kernel_rfl) rfl) (Nat.le_of_ble_eq_true rfl) (by kernel_rfl) (by kernel_rfl) ?_
  intro w0 g0
  generalize hp : std = p
  generalize hKA : intsA ks = KA
  generalize hN : nodesA l = N
  generalize hT : aexec p tys (csWy ln) _ _ _ _ = T
  cbv at hT
  subst hT
  simp only [Tree.ok, RoundOk, Bool.false_eq_true, Bool.true_eq_false, false_implies, true_implies, and_true, true_and]
  subst hp hKA hN
  refine ⟨fun h => absurd (of_decide_eq_true h : n < 0) (by omega), fun _ => ⟨cL, fun h => absurd (of_decide_eq_true h : ln ≤ n) (by omega), fun _ => ?_⟩⟩
  refine loop_rule (cs := csWy ln) (ord := fun _ => .nil) tyOk (by kernel_rfl) (by kernel_rfl) (by kernel_rfl) (X := Int × Int × List Int) (fun x => ⟨[(0, .ref [.slc 6 (nodesA l)]), (1, .val (.int .i64 x.2.1)), (8, .row 0 0), (22, .slc 1 (intsA ks)), (23, .val (.int .i64 nk)), (24, .val (.int .i64 x.1))], [.row 3 1 false 0 (intsA (x.2.2 ++ [x.2.1]))]⟩) (fun x => (0 ≤ x.1 ∧ x.1 ≤ nk) ∧ (0 ≤ x.2.1 ∧ x.2.1 < ln) ∧ x.2.2.length = x.1.toNat ∧ wayL l n ks = (wayL l x.2.1 (ks.drop x.1.toNat)).map (x.2.2 ++ ·)) (fun x => (nk - x.1).toNat) (0, n, []) ?_ ?_ ?_
  · have := hnk.eq
    refine ⟨⟨Int.le_refl 0, by omega⟩, ⟨h0, h1⟩, rfl, ?_⟩
    show wayL l n ks = (wayL l n ks).map ([] ++ ·)
    cases wayL l n ks <;> rfl
  · refine ⟨[some 0], _, rfl, ?_⟩
    repeat first
      | exact trivial
      | refine ⟨rfl, ?_⟩
      | refine ⟨rfl, ?_⟩
      | refine ⟨congrArg (fun q => AV.val (.int .i64 q)) (rfl), ?_⟩
      | refine ⟨congrArg (fun q => AV.slc 1 q) (rfl), ?_⟩
      | refine ⟨congrArg (fun q => AV.slc 0 q) (rfl), ?_⟩
      | refine ⟨congrArg (fun q => AV.val (.bool q)) (rfl), ?_⟩
      | refine ⟨congrArg (fun q => AV.val (.int .i32 q)) (rfl), ?_⟩
      | refine ⟨congrArg (fun q => AV.val (.string q)) (rfl), ?_⟩
      | refine ⟨congrArg (fun q => AV.val (.int .i64 q)) hlen, ?_⟩
      | refine ⟨congrArg (fun q => AV.val (.int .i64 q)) (congrArg (fun q => AV.val (.int .i64 q)) hlen), ?_⟩
      | refine ⟨congrArg (fun q => AV.slc 1 q) (congrArg (fun q => AV.val (.int .i64 q)) hlen), ?_⟩
      | refine ⟨congrArg (fun q => AV.slc 0 q) (congrArg (fun q => AV.val (.int .i64 q)) hlen), ?_⟩
      | refine ⟨congrArg (fun q => AV.val (.bool q)) (congrArg (fun q => AV.val (.int .i64 q)) hlen), ?_⟩
      | refine ⟨congrArg (fun q => AV.val (.int .i32 q)) (congrArg (fun q => AV.val (.int .i64 q)) hlen), ?_⟩
      | refine ⟨congrArg (fun q => AV.val (.string q)) (congrArg (fun q => AV.val (.int .i64 q)) hlen), ?_⟩
  · rintro ⟨j, c, w⟩ ⟨⟨hj0, hj1⟩, ⟨hc0, hc1⟩, hwl, hwy⟩
    simp only at hj0 hj1 hc0 hc1 hwl hwy ⊢
    generalize hp : std = p
    generalize hKA : intsA ks = KA
    generalize hN : nodesA l = N
    generalize hW : intsA (w ++ [c]) = W
    generalize hT : aexec p tys (csWy ln) _ _ _ _ = T
    cbv at hT
    subst hT
    simp only [Tree.ok, RoundOk, Bool.false_eq_true, Bool.true_eq_false, false_implies, true_implies, and_true, true_and]
    subst hp hKA hN hW
    have hK : j < nk → (intsA ks).getD j.toNat .dead = .val (.int .i64 (ks.getD j.toNat 0)) := fun h => by
      have := hnk.eq
      rw [List.getD_eq_getElem?_getD, intsA, List.getElem?_map, List.getElem?_eq_getElem (by omega), List.getD_eq_getElem?_getD, List.getElem?_eq_getElem (by omega)]; rfl
    have eln := hln.eq
    have hN : (nodesA l).getD c.toNat .dead = (nodeAt l c).av := by
      rw [List.getD_eq_getElem?_getD, nodesA, List.getElem?_map, nodeAt, if_pos ⟨hc0, by omega⟩, List.getElem?_eq_getElem (by omega)]; rfl
    refine ⟨fun h => ?_, fun h => ?_⟩
    · have h : j < nk := of_decide_eq_true h
      have hK := hK h
      have eK : std.int (std.nth (std.cel (std.at_ (intsA ks) j)) 0) = ks.getD j.toNat 0 := by
        show intOf ((AV.cells ((intsA ks).getD j.toNat .dead)).getD 0 .dead) = _
        rw [hK]; rfl
      obtain ⟨k, hk9⟩ : ∃ k, k = ks.getD j.toNat 0 := ⟨_, rfl⟩
      have hA : std.at_ (nodesA l) c = (nodeAt l c).av := hN
      have eC : std.lst (std.nth (std.drp (std.cel (std.at_ (nodesA l) c)) 5) 0) = intsA (nodeAt l c).kids := by rw [hA]; rfl
      have e3 : std.hasL 1 (std.nth (std.drp (std.cel (std.at_ (nodesA l) c)) 5) 0) := by rw [hA]; exact .inl rfl
      obtain ⟨nc, hnc⟩ := exLen (nodeAt l c).kids
      have hlc : std.len (std.lst (std.nth (std.drp (std.cel (std.at_ (nodesA l) c)) 5) 0)) = nc := by
        rw [eC]; show ((intsA (nodeAt l c).kids).length : Int) = nc; rw [ints_len, hnc.eq]
      have hdr : ks.drop j.toNat = k :: ks.drop (j + 1).toNat := by
        have := hnk.eq
        rw [List.drop_eq_getElem_cons (by omega), hk9, List.getD_eq_getElem?_getD, List.getElem?_eq_getElem (by omega), show (j + 1).toNat = j.toNat + 1 by omega]; rfl
      rw [hdr] at hwy
      refine ⟨?_, ⟨?_, trivial⟩, ⟨.inl rfl, trivial⟩, ?_, ⟨e3, trivial⟩, fun h2 => ?_, fun h2 => ⟨fun h3 => ?_, fun h3 => ?_⟩⟩
      · show 0 ≤ j ∧ j < std.len (intsA ks)
        rw [hlen]; omega
      · show (AV.cells ((intsA ks).getD j.toNat .dead)).getD 0 .dead = .val (.int .i64 (intOf ((AV.cells ((intsA ks).getD j.toNat .dead)).getD 0 .dead)))
        rw [hK]; rfl
      · show 0 ≤ c ∧ c < ((nodesA l).length : Int)
        rw [show (nodesA l).length = l.length by simp [nodesA]]
        have := hln.eq
        omega
      · have h2 : std.int (std.nth (std.cel (std.at_ (intsA ks) j)) 0) < 0 := of_decide_eq_true h2
        rw [eK, ← hk9] at h2
        have e2 : R = .tup [.val (.slice none 0 0), .val (.bool false)] := by
          rw [hR, wayA, hwy, wayL, if_neg (by omega)]; rfl
        rw [e2]
        generalize hp : std = p
        generalize hT : endK p tys false _ _ _ = T
        cbv at hT
        subst hT
        simp only [Tree.ok, RoundOk, Bool.false_eq_true, Bool.true_eq_false, false_implies, true_implies, and_true, true_and]
        subst hp
        exact .pure rfl ⟨.inl rfl, .inl rfl, trivial⟩
      · have h3 : std.len (std.lst (std.nth (std.drp (std.cel (std.at_ (nodesA l) c)) 5) 0)) ≤ std.int (std.nth (std.cel (std.at_ (intsA ks) j)) 0) := of_decide_eq_true h3
        rw [eK, ← hk9, hlc] at h3
        have e2 : R = .tup [.val (.slice none 0 0), .val (.bool false)] := by
          have := hnc.eq
          rw [hR, wayA, hwy, wayL, if_neg (by omega)]; rfl
        rw [e2]
        generalize hp : std = p
        generalize hT : endK p tys false _ _ _ = T
        cbv at hT
        subst hT
        simp only [Tree.ok, RoundOk, Bool.false_eq_true, Bool.true_eq_false, false_implies, true_implies, and_true, true_and]
        subst hp
        exact .pure rfl ⟨.inl rfl, .inl rfl, trivial⟩
      · have h2 : ¬ std.int (std.nth (std.cel (std.at_ (intsA ks) j)) 0) < 0 := of_decide_eq_false h2
        have h3 : ¬ std.len (std.lst (std.nth (std.drp (std.cel (std.at_ (nodesA l) c)) 5) 0)) ≤ std.int (std.nth (std.cel (std.at_ (intsA ks) j)) 0) := of_decide_eq_false h3
        rw [eK, ← hk9] at h2
        rw [eK, ← hk9, hlc] at h3
        have enc := hnc.eq
        have enk := hnk.eq
        have hkl : k.toNat < (nodeAt l c).kids.length := by omega
        obtain ⟨q, hq⟩ : ∃ q, q = (nodeAt l c).kids[k.toNat] := ⟨_, rfl⟩
        have hqr := hw c hc0 (by omega) q (by rw [hq]; exact List.getElem_mem hkl)
        have hqd : (nodeAt l c).kids[k.toNat]?.getD 0 = q := by rw [List.getElem?_eq_getElem hkl, hq]; rfl
        have eA : std.at_ (std.lst (std.nth (std.drp (std.cel (std.at_ (nodesA l) c)) 5) 0)) (std.int (std.nth (std.cel (std.at_ (intsA ks) j)) 0)) = .val (.int .i64 q) := by
          rw [eC, eK, ← hk9]
          show (intsA (nodeAt l c).kids).getD k.toNat .dead = _
          rw [List.getD_eq_getElem?_getD, intsA, List.getElem?_map, List.getElem?_eq_getElem hkl, ← hq]; rfl
        have eQ : std.int (std.nth (std.cel (std.at_ (std.lst (std.nth (std.drp (std.cel (std.at_ (nodesA l) c)) 5) 0)) (std.int (std.nth (std.cel (std.at_ (intsA ks) j)) 0)))) 0) = q := by rw [eA]; rfl
        have hwy2 : wayL l n ks = (wayL l q (ks.drop (j + 1).toNat)).map ((w ++ [c]) ++ ·) := by
          rw [hwy, wayL, if_pos ⟨by omega, by omega⟩, hqd]
          cases wayL l q (ks.drop (j + 1).toNat) <;> simp
        have eR : std.app (intsA (w ++ [c])) [.val (.int .i64 (std.int (std.nth (std.cel (std.at_ (std.lst (std.nth (std.drp (std.cel (std.at_ (nodesA l) c)) 5) 0)) (std.int (std.nth (std.cel (std.at_ (intsA ks) j)) 0)))) 0)))] = intsA ((w ++ [c]) ++ [q]) := by
          rw [eQ]; show intsA (w ++ [c]) ++ [.val (.int .i64 q)] = _; simp [intsA]; rfl
        refine ⟨?_, ⟨?_, trivial⟩, ?_, ?_, (j + 1, q, w ++ [c]), ⟨⟨?_, ?_⟩, ⟨hqr.1, ?_⟩, ?_, hwy2⟩, ?_, [some 0], _, rfl, ?_⟩
        · show 0 ≤ std.int (std.nth (std.cel (std.at_ (intsA ks) j)) 0) ∧ std.int (std.nth (std.cel (std.at_ (intsA ks) j)) 0) < std.len (std.lst (std.nth (std.drp (std.cel (std.at_ (nodesA l) c)) 5) 0))
          rw [eK, ← hk9, hlc]; omega
        · show std.hasI .i64 (std.nth (std.cel (std.at_ (std.lst (std.nth (std.drp (std.cel (std.at_ (nodesA l) c)) 5) 0)) (std.int (std.nth (std.cel (std.at_ (intsA ks) j)) 0)))) 0)
          rw [eA]; rfl
        · show (intsA (w ++ [c])).length + 1 ≤ 1000000000
          rw [ints_len]; simp only [List.length_append, List.length_singleton]; omega
        · show (-9223372036854775808 : Int) ≤ j + 1 ∧ j + 1 ≤ (9223372036854775807 : Int)
          omega
        · show 0 ≤ j + 1
          omega
        · show j + 1 ≤ nk
          omega
        · show q < ln
          omega
        · show (w ++ [c]).length = (j + 1).toNat
          simp only [List.length_append, List.length_singleton]; omega
        · show (nk - (j + 1)).toNat < (nk - j).toNat
          omega
        · repeat first
            | exact trivial
            | refine ⟨rfl, ?_⟩
            | refine ⟨eR, ?_⟩
            | refine ⟨congrArg (fun q => AV.val (.int .i64 q)) (eR), ?_⟩
            | refine ⟨congrArg (fun q => AV.slc 1 q) (eR), ?_⟩
            | refine ⟨congrArg (fun q => AV.slc 0 q) (eR), ?_⟩
            | refine ⟨congrArg (fun q => AV.val (.bool q)) (eR), ?_⟩
            | refine ⟨congrArg (fun q => AV.val (.int .i32 q)) (eR), ?_⟩
            | refine ⟨congrArg (fun q => AV.val (.string q)) (eR), ?_⟩
            | refine ⟨congrArg (fun z => AV.val (.int .i64 z)) eQ, ?_⟩
            | refine ⟨congrArg (fun q => AV.val (.int .i64 q)) (congrArg (fun z => AV.val (.int .i64 z)) eQ), ?_⟩
            | refine ⟨congrArg (fun q => AV.slc 1 q) (congrArg (fun z => AV.val (.int .i64 z)) eQ), ?_⟩
            | refine ⟨congrArg (fun q => AV.slc 0 q) (congrArg (fun z => AV.val (.int .i64 z)) eQ), ?_⟩
            | refine ⟨congrArg (fun q => AV.val (.bool q)) (congrArg (fun z => AV.val (.int .i64 z)) eQ), ?_⟩
            | refine ⟨congrArg (fun q => AV.val (.int .i32 q)) (congrArg (fun z => AV.val (.int .i64 z)) eQ), ?_⟩
            | refine ⟨congrArg (fun q => AV.val (.string q)) (congrArg (fun z => AV.val (.int .i64 z)) eQ), ?_⟩
    · have h : ¬ j < nk := of_decide_eq_false h
      rw [if_pos trivial]
      generalize hp : std = p
      generalize hKA : intsA ks = KA
      generalize hN : nodesA l = N
      generalize hW : intsA (w ++ [c]) = W
      generalize hT : aexec p tys (csWy ln) _ _ _ _ = T
      cbv at hT
      subst hT
      simp only [Tree.ok, RoundOk, Bool.false_eq_true, Bool.true_eq_false, false_implies, true_implies, and_true, true_and]
      subst hp hKA hN hW
      have e : ks.drop j.toNat = [] := List.drop_of_length_le (by have := hnk.eq; omega)
      rw [e] at hwy
      have e2 : R = .tup [.slc 1 (intsA (w ++ [c])), .val (.bool true)] := by rw [hR, wayA, hwy]; rfl
      rw [e2]
      exact .pure rfl ⟨.inl rfl, .inl rfl, trivial⟩
end Go.Proofs.Ytblafdmmebiagaa
namespace Go.Proofs.Ytblafdmmebiagaa
open Go.RowKit Go.Lib
theorem firstF_wide (l : List UInt8) (h : (firstF l).1 ≠ -1) : 0 < widthF (firstF l).1 := by
  have h' : ¬ ((decodeL l).1 = 65533 ∧ (decodeL l).2 = 1) := fun hh => h (by rw [firstF, if_pos hh])
  rw [firstF, if_neg h']
  show 0 < widthF ((decodeL l).1 : Int)
  clear h
  rw [decodeL_N] at h' ⊢
  have k0 := (l.getD 0 0).toNat_lt
  have k1 := (l.getD 1 0).toNat_lt
  have k2 := (l.getD 2 0).toNat_lt
  have k3 := (l.getD 3 0).toNat_lt
  rcases decodeN_shape l.length (l.getD 0 0).toNat (l.getD 1 0).toNat (l.getD 2 0).toNat (l.getD 3 0).toNat with ⟨c, e⟩ | ⟨c1, c2, c3, cv, e⟩ | ⟨c1, c2, c3, c4, cv, cs, e⟩ | ⟨c1, c2, c3, c4, c5, cv, cw, e⟩ | e
  all_goals (rw [e] at h' ⊢; dsimp only at h' ⊢)
  all_goals (try (exact absurd ⟨rfl, rfl⟩ h'))
  all_goals (unfold widthF; repeat' split)
  all_goals omega
theorem firstF_cut (l : List UInt8) (n : Nat) (hne : l ≠ []) (hn : (firstF l).2 ≤ n) : firstF (l.take n) = firstF l := by
  by_cases h : (firstF l).1 = -1
  · have h2 : firstF l = (-1, 1) := by
      unfold firstF at h ⊢
      split
      · rfl
      · rename_i h3
        rw [if_neg h3] at h
        simp only at h
        omega
    have h1 : 1 ≤ n := by rw [h2] at hn; exact hn
    have hne2 : l.take n ≠ [] := by
      intro h3
      rcases List.take_eq_nil_iff.1 h3 with h3 | h3
      · omega
      · exact hne h3
    by_cases h3 : (firstF (l.take n)).1 = -1
    · rw [h2]
      unfold firstF at h3 ⊢
      split
      · rfl
      · rename_i h4
        rw [if_neg h4] at h3
        simp only at h3
        omega
    · have g := firstF_good _ hne2 h3
      have hle := firstF_le _ hne2
      refine absurd ⟨l.drop (firstF (l.take n)).2, ?_⟩ (firstF_bad l h _ (firstF_wide _ h3))
      rw [← g, List.take_take, Nat.min_eq_left (by rw [List.length_take] at hle; omega), List.take_append_drop]
  · have g := firstF_good _ hne h
    have hw := firstF_wide _ h
    have e : l.take n = encodeRune (firstF l).1 ++ (l.drop (firstF l).2).take (n - (firstF l).2) := by
      rw [← g, ← List.drop_take]
      conv => lhs; rw [← List.take_append_drop (firstF l).2 (l.take n), List.take_take, Nat.min_eq_left hn]
    have e2 : l = encodeRune (firstF l).1 ++ l.drop (firstF l).2 := by rw [← g, List.take_append_drop]
    rw [e, firstF_enc _ hw]
    conv => rhs; rw [e2, firstF_enc _ hw]
theorem stepW_two (big : Bool) (x y : UInt8) : (stepW big [x, y]).2 = 2 := by
  unfold stepW; simp only; split <;> rfl
theorem stepW_cut (big : Bool) (l : List UInt8) (n : Nat) (hne : l ≠ []) (h : (stepW big l).2 ≤ n) : stepW big (l.take n) = stepW big l := by
  match l, hne with
  | [x], _ =>
    have h : (1 : Int) ≤ n := h
    rw [List.take_of_length_le (by simp; omega)]
  | [x, y], _ =>
    rw [stepW_two] at h
    rw [List.take_of_length_le (by simp; omega)]
  | [x, y, z], _ =>
    have e : stepW big [x, y, z] = stepW big [x, y] := rfl
    rw [e, stepW_two] at h
    by_cases h2 : n = 2
    · subst h2; rfl
    · rw [List.take_of_length_le (by simp; omega)]
  | x :: y :: x2 :: y2 :: r, _ =>
    have e : stepW big (x :: y :: x2 :: y2 :: r) = if (55296 ≤ unitI big x y ∧ unitI big x y < 56320) ∧ (56320 ≤ unitI big x2 y2 ∧ unitI big x2 y2 < 57344) then (65536 + (unitI big x y - 55296) * 1024 + (unitI big x2 y2 - 56320), 4) else stepW big [x, y] := rfl
    by_cases hC : (55296 ≤ unitI big x y ∧ unitI big x y < 56320) ∧ (56320 ≤ unitI big x2 y2 ∧ unitI big x2 y2 < 57344)
    · rw [e, if_pos hC] at h ⊢
      have h : (4 : Int) ≤ n := h
      obtain ⟨m, rfl⟩ : ∃ m, n = m + 4 := ⟨n - 4, by omega⟩
      show stepW big (x :: y :: x2 :: y2 :: r.take m) = _
      exact if_pos hC
    · rw [e, if_neg hC] at h ⊢
      rw [stepW_two] at h
      by_cases h2 : n = 2
      · subst h2; rfl
      · by_cases h3 : n = 3
        · subst h3; rfl
        · obtain ⟨m, rfl⟩ : ∃ m, n = m + 4 := ⟨n - 4, by omega⟩
          show stepW big (x :: y :: x2 :: y2 :: r.take m) = _
          exact if_neg hC
def stepK (kind : Int) (l : List UInt8) : Int × Nat := if kind = 0 then firstF l else ((stepW (decide (kind = 1)) l).1, (stepW (decide (kind = 1)) l).2.toNat)
theorem stepK_n (kind : Int) (l : List UInt8) (hne : l ≠ []) : 1 ≤ (stepK kind l).2 ∧ (stepK kind l).2 ≤ l.length := by
  unfold stepK
  split
  · exact ⟨firstF_pos l, firstF_le l hne⟩
  · have := stepW_n (decide (kind = 1)) l hne
    simp only
    omega
theorem stepK_cut (kind : Int) (l : List UInt8) (n : Nat) (hne : l ≠ []) (h : (stepK kind l).2 ≤ n) : stepK kind (l.take n) = stepK kind l := by
  unfold stepK at h ⊢
  split
  · rename_i hk
    rw [if_pos hk] at h
    exact firstF_cut l n hne h
  · rename_i hk
    rw [if_neg hk] at h
    simp only at h
    rw [stepW_cut _ l n hne (by omega)]
def pcsN (kind : Int) (n off : Nat) (l : List UInt8) : List Itm := if kind = 0 then (itemsGo n off l).map itmOf else if kind = 1 then wideF true off l else if kind = 2 then wideF false off l else []
theorem pcsN_nil (kind : Int) (n off : Nat) : pcsN kind n off [] = [] := by
  unfold pcsN
  rw [itemsGo_nil, wideF, dif_pos rfl, wideF, dif_pos rfl]
  simp
theorem wide_cons (big : Bool) (off : Nat) {l : List UInt8} (hne : l ≠ []) : wideF big off l = ⟨(stepW big l).1, (off : Int), ((stepW big l).2.toNat : Int)⟩ :: wideF big ((off + (stepW big l).2.toNat : Nat) : Int) (l.drop (stepW big l).2.toNat) := by
  have := stepW_n big l hne
  have e1 : ((stepW big l).2.toNat : Int) = (stepW big l).2 := Int.toNat_of_nonneg (by omega)
  have e2 : ((off + (stepW big l).2.toNat : Nat) : Int) = (off : Int) + (stepW big l).2 := by rw [Int.natCast_add, e1]
  rw [e2, e1]
  conv => lhs; rw [wideF, dif_neg hne]
theorem pcsN_cons {kind : Int} (hk : kind = 0 ∨ kind = 1 ∨ kind = 2) {l : List UInt8} (hne : l ≠ []) (n off : Nat) : pcsN kind (n + 1) off l = ⟨(stepK kind l).1, off, (stepK kind l).2⟩ :: pcsN kind n (off + (stepK kind l).2) (l.drop (stepK kind l).2) := by
  rcases hk with rfl | rfl | rfl
  · obtain ⟨b, t, rfl⟩ := List.exists_cons_of_ne_nil hne
    rfl
  · exact wide_cons true off hne
  · exact wide_cons false off hne
theorem pcsN_len {kind : Int} (hk : kind = 0 ∨ kind = 1 ∨ kind = 2) : ∀ (n off : Nat) (l : List UInt8), l.length ≤ n → (pcsN kind n off l).length ≤ l.length
  | 0, off, l, h => by
    obtain rfl : l = [] := List.eq_nil_of_length_eq_zero (by omega)
    rw [pcsN_nil]; exact Nat.le_refl _
  | n + 1, off, l, h => by
    by_cases hne : l = []
    · subst hne
      rw [pcsN_nil]; exact Nat.le_refl _
    · have hs := stepK_n kind l hne
      have ih := pcsN_len hk n (off + (stepK kind l).2) (l.drop (stepK kind l).2) (by rw [List.length_drop]; omega)
      rw [List.length_drop] at ih
      rw [pcsN_cons hk hne, List.length_cons]
      omega
theorem pcsF_len {kind : Int} (hk : kind = 0 ∨ kind = 1 ∨ kind = 2) (l : List UInt8) : (pcsF kind l).length ≤ l.length := pcsN_len hk l.length 0 l (Nat.le_refl _)
def wdK (kind : Int) : Nat → List UInt8 → Nat
  | 0, _ => 0
  | j + 1, l => if l = [] then 0 else (stepK kind l).2 + wdK kind j (l.drop (stepK kind l).2)
def rnK (kind : Int) : Nat → List UInt8 → List Int
  | 0, _ => []
  | n + 1, l => if l = [] then [] else (stepK kind l).1 :: rnK kind n (l.drop (stepK kind l).2)
theorem wdK_nil (kind : Int) (j : Nat) : wdK kind j [] = 0 := by cases j <;> rfl
theorem rnK_nil (kind : Int) (n : Nat) : rnK kind n [] = [] := by cases n <;> rfl
theorem pcsN_r {kind : Int} (hk : kind = 0 ∨ kind = 1 ∨ kind = 2) : ∀ (n off : Nat) (l : List UInt8), l.length ≤ n → (pcsN kind n off l).map Itm.r = rnK kind n l
  | 0, off, l, h => by
    obtain rfl : l = [] := List.eq_nil_of_length_eq_zero (by omega)
    rw [pcsN_nil]; rfl
  | n + 1, off, l, h => by
    by_cases hne : l = []
    · subst hne
      rw [pcsN_nil]; rfl
    · have hs := stepK_n kind l hne
      rw [pcsN_cons hk hne, rnK, if_neg hne, List.map_cons, pcsN_r hk n _ _ (by rw [List.length_drop]; omega)]
theorem pcsN_off {kind : Int} (hk : kind = 0 ∨ kind = 1 ∨ kind = 2) : ∀ (n off : Nat) (l : List UInt8), l.length ≤ n → ∀ j, j ≤ (pcsN kind n off l).length → ((pcsN kind n off l).map Itm.off ++ [((off + l.length : Nat) : Int)])[j]? = some ((off + wdK kind j l : Nat) : Int)
  | 0, off, l, h, j, hj => by
    obtain rfl : l = [] := List.eq_nil_of_length_eq_zero (by omega)
    rw [pcsN_nil] at hj ⊢
    obtain rfl : j = 0 := by simpa using hj
    rfl
  | n + 1, off, l, h, j, hj => by
    by_cases hne : l = []
    · subst hne
      rw [pcsN_nil] at hj ⊢
      obtain rfl : j = 0 := by simpa using hj
      rfl
    · have hs := stepK_n kind l hne
      rw [pcsN_cons hk hne] at hj ⊢
      cases j with
      | zero => rfl
      | succ j =>
        have ih := pcsN_off hk n (off + (stepK kind l).2) (l.drop (stepK kind l).2) (by rw [List.length_drop]; omega) j (by simpa using hj)
        rw [List.length_drop, show off + (stepK kind l).2 + (l.length - (stepK kind l).2) = off + l.length by omega] at ih
        rw [wdK, if_neg hne, ← Nat.add_assoc, ← ih]
        rfl
theorem rnK_fuel (kind : Int) : ∀ (n m : Nat) (l : List UInt8), l.length ≤ n → l.length ≤ m → rnK kind n l = rnK kind m l
  | 0, m, l, h, _ => by
    obtain rfl : l = [] := List.eq_nil_of_length_eq_zero (by omega)
    rw [rnK_nil, rnK_nil]
  | n + 1, 0, l, _, h => by
    obtain rfl : l = [] := List.eq_nil_of_length_eq_zero (by omega)
    rw [rnK_nil, rnK_nil]
  | n + 1, m + 1, l, h1, h2 => by
    by_cases hne : l = []
    · subst hne; rfl
    · have hs := stepK_n kind l hne
      rw [rnK, rnK, if_neg hne, if_neg hne, rnK_fuel kind n m _ (by rw [List.length_drop]; omega) (by rw [List.length_drop]; omega)]
theorem rnK_take (kind : Int) : ∀ (n j : Nat) (l : List UInt8), l.length ≤ n → rnK kind n (l.take (wdK kind j l)) = (rnK kind n l).take j
  | 0, j, l, h => by
    obtain rfl : l = [] := List.eq_nil_of_length_eq_zero (by omega)
    rw [wdK_nil]; simp [rnK]
  | n + 1, j, l, h => by
    by_cases hne : l = []
    · subst hne
      rw [wdK_nil, rnK_nil]; simp [rnK_nil]
    · have hs := stepK_n kind l hne
      cases j with
      | zero => rfl
      | succ j =>
        have ih := rnK_take kind n j (l.drop (stepK kind l).2) (by rw [List.length_drop]; omega)
        rw [wdK, if_neg hne]
        have hne2 : l.take ((stepK kind l).2 + wdK kind j (l.drop (stepK kind l).2)) ≠ [] := by
          intro h3
          rcases List.take_eq_nil_iff.1 h3 with h3 | h3
          · omega
          · exact hne h3
        rw [rnK, if_neg hne2, stepK_cut kind l _ hne (by omega), List.drop_take, show (stepK kind l).2 + wdK kind j (l.drop (stepK kind l).2) - (stepK kind l).2 = wdK kind j (l.drop (stepK kind l).2) by omega, ih, rnK, if_neg hne]
        rfl
theorem rnK_drop (kind : Int) : ∀ (n j : Nat) (l : List UInt8), l.length ≤ n → rnK kind n (l.drop (wdK kind j l)) = (rnK kind n l).drop j
  | 0, j, l, h => by
    obtain rfl : l = [] := List.eq_nil_of_length_eq_zero (by omega)
    rw [wdK_nil]; simp [rnK]
  | n + 1, j, l, h => by
    by_cases hne : l = []
    · subst hne
      rw [wdK_nil, rnK_nil]; simp [rnK_nil]
    · have hs := stepK_n kind l hne
      cases j with
      | zero => rfl
      | succ j =>
        have ih := rnK_drop kind n j (l.drop (stepK kind l).2) (by rw [List.length_drop]; omega)
        rw [wdK, if_neg hne, ← List.drop_drop, rnK_fuel kind (n + 1) n _ (by rw [List.length_drop, List.length_drop]; omega) (by rw [List.length_drop, List.length_drop]; omega), ih]
        conv => rhs; rw [rnK, if_neg hne]
        rfl
theorem wdK_add (kind : Int) : ∀ (f g : Nat) (l : List UInt8), wdK kind (f + g) l = wdK kind f l + wdK kind g (l.drop (wdK kind f l))
  | 0, g, l => by rw [Nat.zero_add]; show _ = 0 + wdK kind g (l.drop 0); rw [Nat.zero_add, List.drop_zero]
  | f + 1, g, l => by
    by_cases hne : l = []
    · subst hne; simp [wdK_nil]
    · rw [show f + 1 + g = (f + g) + 1 by omega, wdK, if_neg hne, wdK, if_neg hne, wdK_add kind f g, List.drop_drop]
      omega
theorem runesK_rn {kind : Int} (hk : kind = 0 ∨ kind = 1 ∨ kind = 2) (l : List UInt8) : runesK kind l = rnK kind l.length l := pcsN_r hk l.length 0 l (Nat.le_refl _)
theorem text_wd (b : List UInt8) {j : Nat} (hj : j ≤ (textF' b).r.length) : offA (textF' b) j = ((kindF b).2.toNat + wdK (kindF b).1 j (b.drop (kindF b).2.toNat) : Nat) := by
  have hb := kind_bom b
  have hj2 : j ≤ (textI b).length := by
    have : (textF' b).r.length = (textI b).length := List.length_map _
    omega
  have h := pcsN_off (kind_012 b) (b.drop (kindF b).2.toNat).length 0 (b.drop (kindF b).2.toNat) (Nat.le_refl _) j hj2
  have h : ((textI b).map Itm.off ++ [((0 + (b.drop (kindF b).2.toNat).length : Nat) : Int)])[j]? = some ((0 + wdK (kindF b).1 j (b.drop (kindF b).2.toNat) : Nat) : Int) := h
  rw [Nat.zero_add, Nat.zero_add, List.length_drop, show ((b.length - (kindF b).2.toNat : Nat) : Int) = (b.length : Int) - (kindF b).2 by omega] at h
  show ((textF' b).off[(j : Int).toNat]?.getD 0 : Int) = _
  rw [text_off, Int.toNat_natCast, List.getElem?_map, h]
  show (_ + _ : Int) = _
  rw [Int.natCast_add, Int.toNat_of_nonneg hb.1, Int.add_comm]
theorem runes_local (b : List UInt8) {f u : Int} (h0 : 0 ≤ f) (h1 : f ≤ u) (h2 : u ≤ (textF' b).r.length) : runesK (textF' b).kind (sliceF (textF' b) b f u) = ((textF' b).r.drop f.toNat).take (u - f).toNat := by
  obtain ⟨i, rfl⟩ := Int.eq_ofNat_of_zero_le h0
  obtain ⟨g, rfl⟩ : ∃ g : Nat, u = ((i + g : Nat) : Int) := ⟨(u - i).toNat, by omega⟩
  obtain ⟨c, hc⟩ : ∃ c, c = b.drop (kindF b).2.toNat := ⟨_, rfl⟩
  have e1 : ((textF' b).off[(i : Int).toNat]?.getD 0 : Int) = _ := text_wd b (j := i) (by omega)
  have e2 : ((textF' b).off[((i + g : Nat) : Int).toNat]?.getD 0 : Int) = _ := text_wd b (j := i + g) (by omega)
  have hr : (textF' b).r = rnK (kindF b).1 c.length c := by rw [hc]; exact runesK_rn (kind_012 b) _
  have hs : sliceF (textF' b) b i ((i + g : Nat) : Int) = (c.drop (wdK (kindF b).1 i c)).take (wdK (kindF b).1 g (c.drop (wdK (kindF b).1 i c))) := by
    unfold sliceF
    rw [e1, e2, ← hc, Int.toNat_natCast, wdK_add, ← List.drop_drop, ← hc]
    congr 1
    omega
  rw [hs, hr, show (((i + g : Nat) : Int) - (i : Int)).toNat = g by omega, Int.toNat_natCast]
  show runesK (kindF b).1 _ = _
  rw [runesK_rn (kind_012 b), rnK_fuel _ _ c.length _ (Nat.le_refl _) (by rw [List.length_take, List.length_drop]; omega), rnK_take _ _ _ _ (by rw [List.length_drop]; omega), rnK_drop _ _ _ _ (Nat.le_refl _)]
def shP (d : Int) (x : TPart) : TPart := ⟨x.kind, x.from_ + d, x.to + d⟩
theorem partsGo_cons {r : List Int} (h : r ≠ []) (a : Int) (first : Bool) : partsGo a first r = ⟨(tpieceF r first).1, a, a + (tpieceF r first).2⟩ :: partsGo (a + (tpieceF r first).2) false (r.drop (tpieceF r first).2.toNat) := by
  conv => lhs; rw [partsGo, dif_neg h]
theorem partsGo_sh (d : Int) : ∀ (n : Nat) (r : List Int) (a : Int) (first : Bool), r.length ≤ n → partsGo (a + d) first r = (partsGo a first r).map (shP d)
  | 0, r, a, first, h => by
    obtain rfl : r = [] := List.eq_nil_of_length_eq_zero (by omega)
    rw [partsGo, dif_pos rfl, partsGo, dif_pos rfl]; rfl
  | n + 1, r, a, first, h => by
    by_cases hr : r = []
    · rw [partsGo, dif_pos hr, partsGo, dif_pos hr]; rfl
    · have hn := tpiece_n r first hr
      have ih := partsGo_sh d n (r.drop (tpieceF r first).2.toNat) (a + (tpieceF r first).2) false (by rw [List.length_drop]; omega)
      rw [partsGo_cons hr, partsGo_cons hr, List.map_cons, ← ih, shP, show a + d + (tpieceF r first).2 = a + (tpieceF r first).2 + d by omega]
theorem takes_sh (d : Int) (ps : List TPart) (a : Nat) (ks : List Int) : takesOk (ps.map (shP d)) a ks = takesOk ps a ks := by
  unfold takesOk
  rw [← List.map_drop, ← List.map_take, List.map_map]
  rfl
theorem readP_nm (ps : List TPart) : (readP ps).name = if takesOk ps 0 [1, 2] = true then ps[1]?.getD tpart0 else tpart0 := by
  unfold readP
  split
  · simp only
    split
    · rfl
    · rfl
  · rfl
def nameL (r : List Int) : List Int := nameF' ⟨0, 0, r, []⟩ 0 r.length
theorem name_local (t : Txt) {f u : Int} (h0 : 0 ≤ f) (h1 : f ≤ u) (h2 : u ≤ t.r.length) : nameL ((t.r.drop f.toNat).take (u - f).toNat) = nameF' t f u := by
  obtain ⟨s, hs⟩ : ∃ s, s = (t.r.drop f.toNat).take (u - f).toNat := ⟨_, rfl⟩
  have hsl : (s.length : Int) = u - f := by rw [hs, List.length_take, List.length_drop]; omega
  have hs2 : (t.r.take u.toNat).drop f.toNat = s := by rw [hs, List.drop_take]; congr 1; omega
  have e1 : partsF s 0 s.length = partsGo 0 true s := by
    unfold partsF
    rw [Int.toNat_natCast, List.take_length]; rfl
  have e2 : partsF t.r f u = (partsGo 0 true s).map (shP f) := by
    unfold partsF
    rw [hs2]
    have := partsGo_sh f s.length s 0 true (Nat.le_refl _)
    rw [Int.zero_add] at this
    exact this
  rw [← hs]
  unfold nameL nameF' readF
  rw [e1, e2, readP_nm, readP_nm, takes_sh]
  obtain ⟨ps, hps⟩ : ∃ ps, ps = partsGo 0 true s := ⟨_, rfl⟩
  rw [← hps]
  split
  · rename_i ht
    have hl := ((takes_iff (Nat.zero_le _)).1 ht).1
    have hl : 2 ≤ ps.length := by simpa using hl
    have hin : ∀ x ∈ ps, _ := fun x hx => partsGo_in s s.length s 0 true (Nat.le_refl _) x (by rw [← hps]; exact hx)
    rw [List.getElem?_map, List.getElem?_eq_getElem (show 1 < ps.length by omega)]
    have hp := hin ps[1] (List.getElem_mem _)
    show (s.drop ps[1].from_.toNat).take (ps[1].to - ps[1].from_).toNat = (t.r.drop (ps[1].from_ + f).toNat).take ((ps[1].to + f) - (ps[1].from_ + f)).toNat
    rw [hs, List.drop_take, List.drop_drop, List.take_take, show (ps[1].from_ + f).toNat = f.toNat + ps[1].from_.toNat by omega, show min (ps[1].to - ps[1].from_).toNat ((u - f).toNat - ps[1].from_.toNat) = ((ps[1].to + f) - (ps[1].from_ + f)).toNat by omega]
  · rfl
theorem start_wide {r : Int} (h : isNameStart r = true) : 0 < widthF r := by
  have key : ∀ x ∈ startSp, 0 ≤ x.1 ∧ x.2 ≤ 1114111 ∧ (x.2 < 55296 ∨ 57343 < x.1) := by decide
  obtain ⟨x, hx, hr⟩ := List.any_eq_true.1 (show startSp.any (fun x => decide (x.1 ≤ r) && decide (r ≤ x.2)) = true from h)
  have hk := key x hx
  simp only [Bool.and_eq_true, decide_eq_true_eq] at hr
  unfold widthF
  repeat' split
  all_goals omega
theorem name_lead (t : Txt) {f u : Int} (h0 : 0 ≤ f) (h1 : f ≤ u) (h2 : u ≤ t.r.length) (hne : nameF' t f u ≠ []) : f + 2 ≤ u ∧ ∃ r0 rs, nameF' t f u = r0 :: rs ∧ isNameStart r0 = true := by
  obtain ⟨s, hs⟩ : ∃ s, s = (t.r.drop f.toNat).take (u - f).toNat := ⟨_, rfl⟩
  have hsl : (s.length : Int) = u - f := by rw [hs, List.length_take, List.length_drop]; omega
  have hloc := name_local t h0 h1 h2
  rw [← hs] at hloc
  rw [← hloc] at hne ⊢
  have e1 : partsF s 0 s.length = partsGo 0 true s := by
    unfold partsF
    rw [Int.toNat_natCast, List.take_length]; rfl
  have en : nameL s = (s.drop (readP (partsGo 0 true s)).name.from_.toNat).take ((readP (partsGo 0 true s)).name.to - (readP (partsGo 0 true s)).name.from_).toNat := by
    have e2 : readF s 0 s.length = readP (partsGo 0 true s) := by rw [readF, e1]
    show (s.drop (readF s 0 s.length).name.from_.toNat).take ((readF s 0 s.length).name.to - (readF s 0 s.length).name.from_).toNat = _
    rw [e2]
  rw [readP_nm] at en
  split at en
  · rename_i ht
    have ht2 := (takes_iff (Nat.zero_le _)).1 ht
    have hl : 2 ≤ (partsGo 0 true s).length := by simpa using ht2.1
    have hk2 : ((partsGo 0 true s)[1]?.getD tpart0).kind = 2 := ht2.2 1 (by decide)
    have hs0 : s ≠ [] := by
      intro h
      rw [h, partsGo, dif_pos rfl] at hl
      simp at hl
    have hn0 := tpiece_n s true hs0
    rw [partsGo_cons hs0] at hl hk2 en
    obtain ⟨x, hx⟩ : ∃ x, x = s.drop (tpieceF s true).2.toNat := ⟨_, rfl⟩
    rw [← hx] at hl hk2 en
    have hx0 : x ≠ [] := by
      intro h
      rw [h, partsGo, dif_pos rfl] at hl
      simp at hl
    have hn1 := tpiece_n x false hx0
    rw [partsGo_cons hx0] at hk2 en
    have hk2 : (tpieceF x false).1 = 2 := hk2
    have en : nameL s = (s.drop (0 + (tpieceF s true).2).toNat).take ((0 + (tpieceF s true).2 + (tpieceF x false).2) - (0 + (tpieceF s true).2)).toNat := en
    rw [show (0 + (tpieceF s true).2).toNat = (tpieceF s true).2.toNat by omega, ← hx, show ((0 + (tpieceF s true).2 + (tpieceF x false).2) - (0 + (tpieceF s true).2)).toNat = (tpieceF x false).2.toNat by omega] at en
    have hxl : x.length = s.length - (tpieceF s true).2.toNat := by rw [hx, List.length_drop]
    have hlead : 0 < leadF x 0 := by
      unfold tpieceF at hk2
      rw [if_neg (by simp), if_neg (by simp)] at hk2
      split at hk2
      · simp at hk2
      · split at hk2
        · rename_i h; omega
        · split at hk2
          · simp at hk2
          · split at hk2
            · simp at hk2
            · split at hk2 <;> simp at hk2
    obtain ⟨r0, rs, rfl⟩ := List.exists_cons_of_ne_nil hx0
    have hst : isNameStart r0 = true := by
      by_cases hq : isNameStart r0 = true
      · exact hq
      · have : leadF (r0 :: rs) 0 = 0 := by show (if isNameStart r0 then _ else 0) = 0; rw [if_neg hq]
        omega
    refine ⟨by simp only [List.length_cons] at hxl; omega, r0, rs.take ((tpieceF (r0 :: rs) false).2.toNat - 1), ?_, hst⟩
    rw [en]
    obtain ⟨q, hq⟩ : ∃ q, (tpieceF (r0 :: rs) false).2.toNat = q + 1 := ⟨_, (Nat.sub_add_cancel (by omega)).symm⟩
    rw [hq]; rfl
  · exact absurd en (by intro h; rw [h] at hne; exact hne rfl)
end Go.Proofs.Ytblafdmmebiagaa
namespace Go.Proofs.Ytblafdmmebiagaa
open Go.RowKit Go.Lib
def elM (l : List Node) (x : Node) : Bool := decide (x.kind = 21) && decide (kindN l (x.kids.getLast?.getD (-1)) = 22)
def n01 (b : Bool) : Nat := if b then 1 else 0
def cmF (l : List Node) : Nat → Int → Nat
  | 0, _ => 0
  | f + 1, n => n01 (elM l (nodeAt l n)) + ((nodeAt l n).kids.map (cmF l f)).sum
def cm (l : List Node) (n : Int) : Nat := cmF l (n.toNat + 1) n
theorem cmF_more {l : List Node} (hw : Wf l) : ∀ (f f' : Nat) (n : Int), 0 ≤ n → n < l.length → n.toNat < f → n.toNat < f' → cmF l f n = cmF l f' n
  | 0, _, _, _, _, h, _ => by omega
  | _ + 1, 0, _, _, _, _, h => by omega
  | f + 1, f' + 1, n, h0, h1, h2, h3 => by
    simp only [cmF]
    congr 2
    refine List.map_congr_left fun k hk => ?_
    have := hw n h0 h1 k hk
    exact cmF_more hw f f' k this.1 (by omega) (by omega) (by omega)
theorem cm_eq {l : List Node} (hw : Wf l) {n : Int} (h0 : 0 ≤ n) (h1 : n < l.length) : cm l n = n01 (elM l (nodeAt l n)) + ((nodeAt l n).kids.map (cm l)).sum := by
  show cmF l (n.toNat + 1) n = _
  simp only [cmF]
  congr 2
  refine List.map_congr_left fun k hk => ?_
  have := hw n h0 h1 k hk
  exact cmF_more hw _ _ k this.1 (by omega) (by omega) (by omega)
theorem kind_old {l : List Node} {x : Node} {n : Int} (h0 : 0 ≤ n) (h1 : n < l.length) : kindN (l ++ [x]) n = kindN l n := by unfold kindN; rw [nodeAt_old h0 h1]
theorem kind_new {l : List Node} {x : Node} : kindN (l ++ [x]) l.length = x.kind := by unfold kindN; rw [nodeAt_new]
theorem kind_neg (l : List Node) : kindN l (-1) = 0 := by unfold kindN; rw [nodeAt_out (by omega)]; rfl
theorem elM_old {l : List Node} {x : Node} (hx : InR l x.kids) (z : Node) : elM (l ++ [z]) x = elM l x := by
  unfold elM
  cases h : x.kids.getLast? with
  | none => simp only [Option.getD_none, kind_neg]
  | some k =>
    have := hx k (List.mem_of_getLast? h)
    simp only [Option.getD_some, kind_old this.1 this.2]
theorem cmF_old {l : List Node} (h : Wf l) (x : Node) : ∀ (f : Nat) (n : Int), 0 ≤ n → n < l.length → cmF (l ++ [x]) f n = cmF l f n
  | 0, _, _, _ => rfl
  | f + 1, n, h0, h1 => by
    have hr : InR l (nodeAt l n).kids := fun k hk => by have := h n h0 h1 k hk; omega
    simp only [cmF, nodeAt_old h0 h1, elM_old hr]
    congr 2
    refine List.map_congr_left fun k hk => ?_
    have := hr k hk
    exact cmF_old h x f k this.1 this.2
theorem cm_old {l : List Node} (h : Wf l) (x : Node) {n : Int} (h0 : 0 ≤ n) (h1 : n < l.length) : cm (l ++ [x]) n = cm l n := cmF_old h x _ n h0 h1
def cmL (l : List Node) (ks : List Int) : Nat := (ks.map (cm l)).sum
theorem cmL_old {l : List Node} (h : Wf l) (x : Node) {ks : List Int} (hk : InR l ks) : cmL (l ++ [x]) ks = cmL l ks :=
  congrArg List.sum (List.map_congr_left fun k hk' => cm_old h x (hk k hk').1 (hk k hk').2)
theorem cm_new {l : List Node} (h : Wf l) {x : Node} (hx : InR l x.kids) : cm (l ++ [x]) l.length = n01 (elM l x) + cmL l x.kids := by
  rw [cm_eq (wf_add h hx) (by omega) (by simp only [List.length_append, List.length_singleton]; omega), nodeAt_new, elM_old hx]
  exact congrArg (n01 (elM l x) + ·) (cmL_old h x hx)
theorem cmL_app (l : List Node) (a b : List Int) : cmL l (a ++ b) = cmL l a + cmL l b := by simp [cmL]
theorem cmL_one (l : List Node) (k : Int) : cmL l [k] = cm l k := by simp [cmL]
def cmK (l : List Node) (s : List Opn) : Nat := (s.map fun x => cmL l x.kids).sum
theorem cmK_app (l : List Node) (s : List Opn) (x : Opn) : cmK l (s ++ [x]) = cmK l s + cmL l x.kids := by simp [cmK]
theorem cmK_old {l : List Node} (h : Wf l) (x : Node) {s : List Opn} (hs : ∀ y ∈ s, InR l y.kids) : cmK (l ++ [x]) s = cmK l s :=
  congrArg List.sum (List.map_congr_left fun y hy => cmL_old h x (hs y hy))
theorem elM_leaf (l : List Node) {kind : Int} (hk : kind ≠ 21) (bs : List UInt8) : elM l (leafF kind bs) = false := by
  unfold elM
  rw [decide_eq_false (show ¬ (leafF kind bs).kind = 21 from hk)]; rfl
theorem leaf_in (l : List Node) (kind : Int) (bs : List UInt8) : InR l (leafF kind bs).kids := fun k hk => by cases hk
theorem cm_leaf {l : List Node} (h : Wf l) {kind : Int} (hk : kind ≠ 21) (bs : List UInt8) : cm (l ++ [leafF kind bs]) l.length = 0 := by
  rw [cm_new h (leaf_in l kind bs), elM_leaf l hk]; rfl
def Lead (nm : List Int) : Prop := ∃ r0 rs, nm = r0 :: rs ∧ isNameStart r0 = true
def nmN (K : Int) (l : List Node) (n : Int) : List Int := nameL (runesK K (pr l n))
structure StOk (K : Int) (l : List Node) (y : Opn) (k0 : Int) (r : List Int) : Prop where
  k : y.kids = k0 :: r
  s : kindN l k0 = 8
  n : nmN K l k0 = y.name
  l : Lead y.name
structure ElIs (K : Int) (l : List Node) (ks : List Int) (k0 : Int) (r : List Int) (kl : Int) : Prop where
  k : ks = k0 :: (r ++ [kl])
  s : kindN l k0 = 8
  ld : Lead (nmN K l k0)
  e : kindN l kl = 22 ∨ (kindN l kl = 10 ∧ nmN K l kl = nmN K l k0)
def ElOk (K : Int) (l : List Node) (n : Int) : Prop := kindN l n = 21 → ∃ k0 r kl, ElIs K l (nodeAt l n).kids k0 r kl
theorem nm_old (K : Int) {l : List Node} (h : Wf l) (x : Node) {n : Int} (h0 : 0 ≤ n) (h1 : n < l.length) : nmN K (l ++ [x]) n = nmN K l n := by unfold nmN; rw [pr_old h x h0 h1]
theorem StOk.old {K : Int} {l : List Node} (h : Wf l) {y : Opn} {k0 : Int} {r : List Int} (hr : InR l y.kids) (hs : StOk K l y k0 r) (x : Node) : StOk K (l ++ [x]) y k0 r := by
  have := hr k0 (by rw [hs.k]; simp)
  exact ⟨hs.k, by rw [kind_old this.1 this.2]; exact hs.s, by rw [nm_old K h x this.1 this.2]; exact hs.n, hs.l⟩
theorem ElIs.old {K : Int} {l : List Node} (h : Wf l) {ks : List Int} {k0 : Int} {r : List Int} {kl : Int} (hr : InR l ks) (hs : ElIs K l ks k0 r kl) (x : Node) : ElIs K (l ++ [x]) ks k0 r kl := by
  have h1 := hr k0 (by rw [hs.k]; simp)
  have h2 := hr kl (by rw [hs.k]; simp)
  refine ⟨hs.k, ?_, ?_, ?_⟩
  · rw [kind_old h1.1 h1.2]; exact hs.s
  · rw [nm_old K h x h1.1 h1.2]; exact hs.ld
  · rw [kind_old h2.1 h2.2, nm_old K h x h1.1 h1.2, nm_old K h x h2.1 h2.2]; exact hs.e
theorem el_old {K : Int} {l : List Node} (h : Wf l) {n : Int} (h0 : 0 ≤ n) (h1 : n < l.length) (he : ElOk K l n) (x : Node) : ElOk K (l ++ [x]) n := fun hk => by
  rw [kind_old h0 h1] at hk
  obtain ⟨k0, r, kl, hs⟩ := he hk
  rw [nodeAt_old h0 h1]
  exact ⟨k0, r, kl, hs.old h (fun k hk => by have := h n h0 h1 k hk; omega) x⟩
theorem el_add {K : Int} {l : List Node} (h : Wf l) (he : ∀ n : Int, 0 ≤ n → n < l.length → ElOk K l n) {x : Node} (hx : ElOk K (l ++ [x]) l.length) : ∀ n : Int, 0 ≤ n → n < (l ++ [x]).length → ElOk K (l ++ [x]) n := fun n h0 h1 => by
  simp only [List.length_append, List.length_singleton] at h1
  by_cases h2 : n < l.length
  · exact el_old h h0 h2 (he n h0 h2) x
  · obtain rfl : n = l.length := by omega
    exact hx
theorem el_not {K : Int} {l : List Node} {x : Node} (hk : x.kind ≠ 21) : ElOk K (l ++ [x]) l.length := fun h => by
  rw [kind_new] at h; exact absurd h hk
theorem drop_one {s : List Opn} {x z : Opn} : z ∈ (s ++ [x]).drop 1 ↔ z ∈ s.drop 1 ∨ (s ≠ [] ∧ z = x) := by
  cases s <;> simp
structure CIn (K : Int) (m : Mk) (c : Nat) : Prop where
  el : ∀ n : Int, 0 ≤ n → n < m.n.length → ElOk K m.n n
  st : ∀ y ∈ m.s.drop 1, ∃ k0 r, StOk K m.n y k0 r
  cm : cmK m.n m.s = c
section
variable {K : Int} {m : Mk} {X : List UInt8} {B D c : Nat}
theorem CIn.wrong (h : CIn K m c) (t : Txt) (d f u : Int) : CIn K (wrongF t d f u m) c := ⟨h.el, h.st, h.cm⟩
theorem CIn.leaf (h : MkInv m X B D) (hc : CIn K m c) {kind : Int} (hk : kind ≠ 21) (bs : List UInt8) : CIn K (kidF m.n.length (addF (leafF kind bs) m)) c := by
  obtain ⟨s0, hs0⟩ := top_split h.s1
  generalize topF m.s = y at hs0
  have hr := h.rng
  have hst := hc.st
  have hcm := hc.cm
  rw [hs0] at hr hst hcm
  have hr0 : ∀ z ∈ s0, InR m.n z.kids := fun z hz => hr z (List.mem_append_left _ hz)
  have hry : InR m.n y.kids := hr y (by simp)
  refine ⟨?_, ?_, ?_⟩
  · exact el_add h.ar.wf hc.el (el_not hk)
  · show ∀ z ∈ (kidS m.n.length m.s).drop 1, ∃ k0 r, StOk K (m.n ++ [leafF kind bs]) z k0 r
    rw [hs0, kid_app]
    intro z hz
    rcases drop_one.1 hz with hz | ⟨hne, rfl⟩
    · obtain ⟨k0, r, hs⟩ := hst z (drop_one.2 (.inl hz))
      exact ⟨k0, r, hs.old h.ar.wf (hr0 z (List.mem_of_mem_drop hz)) _⟩
    · obtain ⟨k0, r, hs⟩ := hst y (drop_one.2 (.inr ⟨hne, rfl⟩))
      have hs := hs.old h.ar.wf hry (leafF kind bs)
      exact ⟨k0, r ++ [(m.n.length : Int)], by show y.kids ++ _ = _; rw [hs.k]; rfl, hs.s, hs.n, hs.l⟩
  · show cmK (m.n ++ [leafF kind bs]) (kidS m.n.length m.s) = c
    rw [cmK_app] at hcm
    rw [hs0, kid_app, cmK_app, cmL_app, cmL_one, cmK_old h.ar.wf _ hr0, cmL_old h.ar.wf _ hry, cm_leaf h.ar.wf hk]
    exact hcm
theorem CIn.push (h : MkInv m X B D) (hc : CIn K m c) (bs : List UInt8) {nm : List Int} (hn : nameL (runesK K bs) = nm) (hl : Lead nm) : CIn K (kidF m.n.length (addF (leafF 8 bs) { m with s := m.s ++ [⟨nm, []⟩] })) c := by
  have ha := (ar_leaf h.ar 8 bs)
  have hks : ∀ z ∈ m.s, InR m.n z.kids := h.rng
  refine ⟨?_, ?_, ?_⟩
  · exact el_add h.ar.wf hc.el (el_not (by show (8 : Int) ≠ 21; decide))
  · show ∀ z ∈ (kidS m.n.length (m.s ++ [⟨nm, []⟩])).drop 1, ∃ k0 r, StOk K (m.n ++ [leafF 8 bs]) z k0 r
    rw [kid_app]
    intro z hz
    rcases drop_one.1 hz with hz | ⟨hne, rfl⟩
    · obtain ⟨k0, r, hs⟩ := hc.st z hz
      exact ⟨k0, r, hs.old h.ar.wf (hks z (List.mem_of_mem_drop hz)) _⟩
    · refine ⟨m.n.length, [], rfl, kind_new, ?_, hl⟩
      unfold nmN
      rw [ha.2]; exact hn
  · show cmK (m.n ++ [leafF 8 bs]) (kidS m.n.length (m.s ++ [⟨nm, []⟩])) = c
    rw [kid_app, cmK_app, cmL_app, cmL_one, cmK_old h.ar.wf _ hks, cm_leaf h.ar.wf (by decide)]
    exact hc.cm
theorem shut_eq {s0 : List Opn} {y x : Opn} (hs1 : m.s = s0 ++ [y] ++ [x]) (kind : Int) (bs : List UInt8) :
    (shutF m.n.length (addF (leafF kind bs) m)).n = (m.n ++ [leafF kind bs]) ++ [branchF (m.n ++ [leafF kind bs]) 21 (x.kids ++ [(m.n.length : Int)])] ∧ (shutF m.n.length (addF (leafF kind bs) m)).s = s0 ++ [⟨y.name, y.kids ++ [((m.n ++ [leafF kind bs]).length : Int)]⟩] := by
  have eT : topF (kidF (m.n.length : Int) (addF (leafF kind bs) m)).s = ⟨x.name, x.kids ++ [(m.n.length : Int)]⟩ := by
    show topF (kidS m.n.length m.s) = _
    rw [hs1, kid_app, top_app]
  constructor
  · show (m.n ++ [leafF kind bs]) ++ [branchF (m.n ++ [leafF kind bs]) 21 (topF (kidF (m.n.length : Int) (addF (leafF kind bs) m)).s).kids] = _
    rw [eT]
  · show kidS ((m.n ++ [leafF kind bs]).length : Int) ((kidS m.n.length m.s).take ((kidS m.n.length m.s).length - 1)) = _
    have e2 : (kidS m.n.length m.s).take ((kidS m.n.length m.s).length - 1) = s0 ++ [y] := by
      rw [hs1, kid_app, show (s0 ++ [y] ++ [(⟨x.name, x.kids ++ [(m.n.length : Int)]⟩ : Opn)]).length - 1 = (s0 ++ [y]).length by simp]
      exact List.take_left
    rw [e2, kid_app]
theorem two_split {s : List Opn} (hs : 2 ≤ s.length) : ∃ s0 y, s = s0 ++ [y] ++ [topF s] := by
  obtain ⟨s1, hs1⟩ := top_split (s := s) (by omega)
  have hl1 : 1 ≤ s1.length := by rw [hs1] at hs; simp at hs; omega
  obtain ⟨s0, hs0⟩ := top_split hl1
  exact ⟨s0, topF s1, by rw [← hs0]; exact hs1⟩
theorem CIn.shut (h : MkInv m X B D) (hc : CIn K m c) (hs : 2 ≤ m.s.length) {kind : Int} (bs : List UInt8) (hk : kind = 22 ∨ (kind = 10 ∧ nameL (runesK K bs) = (topF m.s).name)) : CIn K (shutF m.n.length (addF (leafF kind bs) m)) (c + n01 (decide (kind = 22))) := by
  obtain ⟨s0, y, hs1⟩ := two_split hs
  generalize topF m.s = x at hs1 hk
  obtain ⟨en, es⟩ := shut_eq hs1 kind bs
  have hk21 : kind ≠ 21 := by omega
  obtain ⟨ha1, hp1⟩ := ar_leaf h.ar kind bs
  have hr := h.rng
  have hst := hc.st
  have hcm := hc.cm
  rw [hs1] at hr hst hcm
  have hr0 : ∀ z ∈ s0, InR m.n z.kids := fun z hz => hr z (List.mem_append_left _ (List.mem_append_left _ hz))
  have hry : InR m.n y.kids := hr y (List.mem_append_left _ (by simp))
  have hrx : InR m.n x.kids := hr x (by simp)
  have hks : InR (m.n ++ [leafF kind bs]) (x.kids ++ [(m.n.length : Int)]) := fun k hk => by
    rcases List.mem_append.1 hk with hk | hk
    · exact hrx.more _ k hk
    · obtain rfl : k = (m.n.length : Int) := by simpa using hk
      simp; omega
  obtain ⟨k0, r, hx⟩ := hst x (drop_one.2 (.inr ⟨by simp, rfl⟩))
  have hx1 := hx.old h.ar.wf hrx (leafF kind bs)
  obtain ⟨l1, hl⟩ : ∃ l1, l1 = m.n ++ [leafF kind bs] := ⟨_, rfl⟩
  have hl1 : ((m.n ++ [leafF kind bs]).length : Int) = l1.length := by rw [hl]
  have hel1 := el_add h.ar.wf hc.el (x := leafF kind bs) (el_not hk21)
  have hnew : kindN (m.n ++ [leafF kind bs]) m.n.length = kind := kind_new
  have hnmn : nmN K (m.n ++ [leafF kind bs]) m.n.length = nameL (runesK K bs) := by unfold nmN; rw [hp1]
  have up0 : ∀ z : Node, cmK (l1 ++ [z]) s0 = cmK m.n s0 := fun z => by
    rw [cmK_old (by rw [hl]; exact ha1.wf) z (fun q hq => by rw [hl]; exact (hr0 q hq).more _), hl, cmK_old h.ar.wf _ hr0]
  have upy : ∀ z : Node, cmL (l1 ++ [z]) y.kids = cmL m.n y.kids := fun z => by
    rw [cmL_old (by rw [hl]; exact ha1.wf) z (by rw [hl]; exact hry.more _), hl, cmL_old h.ar.wf _ hry]
  have e1 : cmL l1 (x.kids ++ [(m.n.length : Int)]) = cmL m.n x.kids := by
    rw [hl, cmL_app, cmL_one, cmL_old h.ar.wf _ hrx, cm_leaf h.ar.wf hk21]; rfl
  rw [← hl] at ha1 hks hx1 hel1 en es hnew hnmn
  obtain ⟨z, hz⟩ : ∃ z, z = branchF l1 21 (x.kids ++ [(m.n.length : Int)]) := ⟨_, rfl⟩
  rw [← hz] at en
  have hzk : z.kids = x.kids ++ [(m.n.length : Int)] := by rw [hz]; rfl
  have hzm : elM l1 z = decide (kind = 22) := by
    unfold elM
    rw [hzk, List.getLast?_concat, Option.getD_some, hnew, hz]; rfl
  refine ⟨?_, ?_, ?_⟩
  · rw [en]
    refine el_add ha1.wf hel1 (fun _ => ⟨k0, r, m.n.length, ?_⟩)
    rw [nodeAt_new, hzk]
    refine ElIs.old ha1.wf hks ⟨by rw [hx1.k]; rfl, hx1.s, ?_, ?_⟩ z
    · rw [hx1.n]; exact hx1.l
    · rw [hnew, hnmn, hx1.n]; exact hk
  · rw [en, es]
    intro q hq
    rcases drop_one.1 hq with hq | ⟨hne, rfl⟩
    · obtain ⟨q0, qr, hq1⟩ := hst q (drop_one.2 (.inl (drop_one.2 (.inl hq))))
      have hqr := hr0 q (List.mem_of_mem_drop hq)
      have hq2 := hq1.old h.ar.wf hqr (leafF kind bs)
      rw [← hl] at hq2
      exact ⟨q0, qr, hq2.old ha1.wf (by rw [hl]; exact hqr.more _) z⟩
    · obtain ⟨q0, qr, hq1⟩ := hst y (drop_one.2 (.inl (drop_one.2 (.inr ⟨hne, rfl⟩))))
      have hq2 := hq1.old h.ar.wf hry (leafF kind bs)
      rw [← hl] at hq2
      have hq3 := hq2.old ha1.wf (by rw [hl]; exact hry.more _) z
      exact ⟨q0, qr ++ [(l1.length : Int)], by show y.kids ++ _ = _; rw [hq3.k]; rfl, hq3.s, hq3.n, hq3.l⟩
  · rw [en, es, cmK_app, cmL_app, cmL_one, up0, upy, cm_new ha1.wf (by rw [hzk]; exact hks), hzm, hzk, e1]
    rw [cmK_app, cmK_app] at hcm
    omega
def told (d : List Dg) : Nat := (d.filter fun x => decide (x.c = 4)).length
theorem told_app (d : List Dg) (x : Dg) : told (d ++ [x]) = told d + n01 (decide (x.c = 4)) := by
  unfold told n01
  rw [List.filter_append, List.length_append]
  by_cases h : x.c = 4 <;> simp [h]
def sz (m : Mk) : Nat := m.n.length + 2 * m.s.length
structure CI (K : Int) (m : Mk) (S : Nat) : Prop where
  c : CIn K m (told m.d)
  z : 2 * sz m ≤ S
theorem CI.wrong {S : Nat} (h : CI K m S) (t : Txt) {d f u : Int} (hd : d ≠ 4) : CI K (wrongF t d f u m) S := by
  refine ⟨?_, h.z⟩
  have : told (wrongF t d f u m).d = told m.d := by
    show told (m.d ++ [_]) = _
    rw [told_app, decide_eq_false (show ¬ d = 4 from hd)]; rfl
  rw [this]
  exact h.c.wrong t d f u
theorem CI.lk {S : Nat} (h : MkI m X B D) (hc : CI K m S) (t : Txt) (b : List UInt8) {kind : Int} (hk : kind ≠ 21) (f u : Int) : CI K (lkF t b kind f u m) (S + 2) := by
  refine ⟨hc.c.leaf h.i hk _, ?_⟩
  have := hc.z
  show 2 * ((m.n ++ [_]).length + 2 * (kidS _ m.s).length) ≤ _
  unfold sz at this
  rw [kidS_len]
  simp only [List.length_append, List.length_singleton]
  omega
theorem sz_shut (last : Int) (hs : 1 ≤ m.s.length) (kind : Int) (bs : List UInt8) : sz (shutF last (addF (leafF kind bs) m)) = sz m := by
  have e1 : (shutF last (addF (leafF kind bs) m)).s.length = m.s.length - 1 := by
    show (kidS _ ((kidS _ m.s).take ((kidS _ m.s).length - 1))).length = _
    rw [kidS_len, List.length_take, kidS_len]; omega
  have e2 : (shutF last (addF (leafF kind bs) m)).n.length = m.n.length + 2 := by
    show ((m.n ++ [_]) ++ [_]).length = _
    simp
  unfold sz
  omega
theorem CI.miss {S : Nat} (h : MkI m X B D) (hc : CI K m S) (hs : 2 ≤ m.s.length) (t : Txt) (a : Int) : CI K (missF t a m) S := by
  refine ⟨?_, ?_⟩
  · have h2 := CIn.shut (h.wrong t 4 a a).i (hc.c.wrong t 4 a a) hs (kind := 22) [] (.inl rfl)
    have : told (missF t a m).d = told m.d + 1 := by
      show told (m.d ++ [_]) = _
      rw [told_app]; rfl
    rw [this]
    exact h2
  · have : sz (missF t a m) = sz m := sz_shut _ (by show 1 ≤ m.s.length; omega) 22 []
    rw [this]; exact hc.z
theorem miss_names (t : Txt) (a : Int) (hs : 2 ≤ m.s.length) : (missF t a m).s.map Opn.name <+: m.s.map Opn.name := by
  obtain ⟨s0, y, hs1⟩ := two_split hs
  have e := (shut_eq (m := wrongF t 4 a a m) (s0 := s0) (y := y) (x := topF m.s) hs1 22 []).2
  have e : (missF t a m).s = _ := e
  rw [e, hs1]
  exact ⟨[(topF m.s).name], by simp⟩
end
theorem CI.missGo {K : Int} (t : Txt) (f : Int) (k : Nat) {X : List UInt8} {B D S : Nat} : ∀ (n : Nat) (m : Mk), MkI m X B D → CI K m S → k + 1 ≤ m.s.length → m.s.length ≤ n + k + 1 → CI K (missGo t f k n m) S ∧ (Go.Proofs.Ytblafdmmebiagaa.missGo t f k n m).s.map Opn.name <+: m.s.map Opn.name
  | 0, m, _, hc, _, _ => ⟨hc, List.prefix_refl _⟩
  | n + 1, m, h, hc, h1, h2 => by
    show CI K (if _ then _ else _) S ∧ (if _ then _ else _ : Mk).s.map Opn.name <+: _
    split
    · have h3 := inv_miss h.i (by omega) t f
      have ih := CI.missGo t f k n _ (h.miss (by omega) t f) (hc.miss h (by omega) t f) (by omega) (by omega)
      exact ⟨ih.1, ih.2.trans (miss_names t f (by omega))⟩
    · exact ⟨hc, List.prefix_refl _⟩
theorem opnFind_name (s : List Opn) (nm : List Int) : ∀ k, opnFind s nm k ≠ 0 → (s[opnFind s nm k]?.getD ⟨[], []⟩).name = nm
  | 0, h => absurd rfl h
  | k + 1, h => by
    unfold opnFind at h ⊢
    split at h
    · rename_i h1
      rw [if_pos h1]; exact h1
    · rename_i h1
      rw [if_neg h1]; exact opnFind_name s nm k h
theorem slice_name (b : List UInt8) {f u : Int} (h0 : 0 ≤ f) (h1 : f ≤ u) (h2 : u ≤ (textF' b).r.length) : nameL (runesK (textF' b).kind (sliceF (textF' b) b f u)) = nameF' (textF' b) f u := by
  rw [runes_local b h0 h1 h2, name_local _ h0 h1 h2]
section
variable {m : Mk} {X : List UInt8} {B D S : Nat} {b : List UInt8} {f u : Int}
theorem CI.end_ (h : MkI m X B D) (hc : CI (textF' b).kind m S) (h0 : 0 ≤ f) (h1 : f ≤ u) (h2 : u ≤ (textF' b).r.length) : CI (textF' b).kind (endF' (textF' b) b 10 f u m) (S + 2) := by
  unfold endF'
  have hs1 := h.i.s1
  have hle := opnFind_le m.s (nameF' (textF' b) f u) (m.s.length - 1)
  simp only
  split
  · exact CI.lk (h.wrong (textF' b) 3 f u) (hc.wrong (textF' b) (by decide)) (textF' b) b (by decide) f u
  · rename_i hk0
    have hnm := opnFind_name m.s (nameF' (textF' b) f u) (m.s.length - 1) hk0
    obtain ⟨k, hk⟩ : ∃ k, k = opnFind m.s (nameF' (textF' b) f u) (m.s.length - 1) := ⟨_, rfl⟩
    rw [← hk] at hk0 hle hnm ⊢
    obtain ⟨h3, h4⟩ := MkI.missGo (textF' b) f k m.s.length m h (by omega) (by omega)
    obtain ⟨h5, tl, h6⟩ := CI.missGo (textF' b) f k m.s.length m h hc (by omega) (by omega)
    obtain ⟨m1, hm1⟩ : ∃ m1, m1 = Go.Proofs.Ytblafdmmebiagaa.missGo (textF' b) f k m.s.length m := ⟨_, rfl⟩
    rw [← hm1] at h3 h4 h5 h6 ⊢
    have htop : (topF m1.s).name = nameF' (textF' b) f u := by
      rw [← hnm]
      have e1 : (m.s.map Opn.name)[k]? = (m1.s.map Opn.name)[k]? := by
        rw [← h6, List.getElem?_append_left (by rw [List.length_map]; omega)]
      rw [List.getElem?_map, List.getElem?_map] at e1
      unfold topF
      rw [h4, Nat.add_sub_cancel]
      have hk1 : k < m.s.length := by omega
      have hk2 : k < m1.s.length := by omega
      rw [List.getElem?_eq_getElem hk1, List.getElem?_eq_getElem hk2] at e1 ⊢
      simp only [Option.map_some, Option.some.injEq] at e1
      exact e1.symm
    refine ⟨?_, ?_⟩
    · have := CIn.shut h3.i h5.c (by omega) (kind := 10) (sliceF (textF' b) b f u) (.inr ⟨rfl, by rw [slice_name b h0 h1 h2, htop]⟩)
      exact this
    · have e : sz (shutF m1.n.length (mleafF (textF' b) b 10 f u m1)) = sz m1 := sz_shut _ (by omega) 10 _
      rw [e]
      exact Nat.le_trans h5.z (by omega)
theorem CI.start (h : MkI m X B D) (hc : CI (textF' b).kind m S) (h0 : 0 ≤ f) (h1 : f ≤ u) (h2 : u ≤ (textF' b).r.length) (hn : nameF' (textF' b) f u ≠ []) : CI (textF' b).kind (startF' (textF' b) b 8 f u m) (S + 6) := by
  unfold startF'
  split
  · have := CI.lk (h.wrong (textF' b) 5 f u) (hc.wrong (textF' b) (by decide)) (textF' b) b (kind := 8) (by decide) f u
    exact ⟨this.c, Nat.le_trans this.z (by omega)⟩
  · refine ⟨hc.c.push h.i (sliceF (textF' b) b f u) (slice_name b h0 h1 h2) (name_lead _ h0 h1 h2 hn).2, ?_⟩
    have := hc.z
    show 2 * ((m.n ++ [_]).length + 2 * (kidS _ (m.s ++ [_])).length) ≤ _
    unfold sz at this
    rw [kidS_len]
    simp only [List.length_append, List.length_singleton]
    omega
theorem CI.token (h : MkI m X B D) (hc : CI (textF' b).kind m S) {kind : Int} (hk : kind ≠ 21) (h0 : 0 ≤ f) (h1 : f < u) (h2 : u ≤ (textF' b).r.length) (wh : Bool) : CI (textF' b).kind (tokenF (textF' b) b kind f u wh m) (S + 3 * (u - f).toNat) := by
  unfold tokenF
  simp only
  generalize hm1 : (if wh = false then wrongF (textF' b) 1 f u m else if (kind = 8 ∨ kind = 9 ∨ kind = 10) ∧ (readF (textF' b).r f u).right = false then wrongF (textF' b) 2 f u m else m) = m1
  have h3 : ∃ D', MkI m1 X B D' := by
    rw [← hm1]
    split
    · exact ⟨_, h.wrong (textF' b) 1 f u⟩
    · split
      · exact ⟨_, h.wrong (textF' b) 2 f u⟩
      · exact ⟨_, h⟩
  have hc1 : CI (textF' b).kind m1 S := by
    rw [← hm1]
    split
    · exact hc.wrong (textF' b) (by decide)
    · split
      · exact hc.wrong (textF' b) (by decide)
      · exact hc
  obtain ⟨D', h3⟩ := h3
  split
  · rename_i hs
    obtain ⟨_, rfl, hs⟩ := hs
    have hn : nameF' (textF' b) f u ≠ [] := List.length_pos_iff.1 hs
    have h4 := CI.start h3 hc1 h0 (by omega) h2 hn
    have h5 := (name_lead _ h0 (by omega) h2 hn).1
    exact ⟨h4.c, Nat.le_trans h4.z (by omega)⟩
  · split
    · rename_i hs
      obtain ⟨_, rfl⟩ := hs
      have h4 := CI.end_ h3 hc1 h0 (by omega) h2
      exact ⟨h4.c, Nat.le_trans h4.z (by omega)⟩
    · have h4 := CI.lk h3 hc1 (textF' b) b hk f u
      exact ⟨h4.c, Nat.le_trans h4.z (by omega)⟩
end
theorem refF_kind (l : List Int) (k : Nat) : (refF l k).1 ≠ 21 := by
  unfold refF
  repeat' split
  all_goals (intro h; simp at h)
theorem upToF_kind (l : List Int) (kd k skip : Nat) (bs : List UInt8) : (upToF l kd k skip bs).1 = kd := by unfold upToF; split <;> rfl
theorem nextTF_kind (l : List Int) (k : Nat) : (nextTF l k).1 ≠ 21 := by
  unfold nextTF
  split
  · unfold markupF
    split
    · rw [upToF_kind]; decide
    · split
      · rw [upToF_kind]; decide
      · split
        · rw [upToF_kind]; decide
        · split
          · exact (by decide : (7 : Nat) ≠ 21)
          · split
            · exact (by decide : (10 : Nat) ≠ 21)
            · split
              · unfold startTF
                repeat' split
                all_goals (intro h; simp at h)
              · exact (by decide : (11 : Nat) ≠ 21)
  · split
    · exact refF_kind l k
    · split
      · exact (by decide : (11 : Nat) ≠ 21)
      · exact (by decide : (1 : Nat) ≠ 21)
theorem CI.toks {b : List UInt8} (hb : b.length ≤ 1000000) : ∀ (n k : Nat) (m : Mk) (B D S : Nat), (textF' b).r.length - k ≤ n → k ≤ (textF' b).r.length → MkI m (upTo (textF' b) b k) B D → CI (textF' b).kind m S →
    CI (textF' b).kind ((toksGo (textF' b).r k).foldl (tokM (textF' b) b) m) (S + 3 * ((textF' b).r.length - k))
  | 0, k, m, B, D, S, h, hk, hi, hc => by
    rw [toksGo_nil (by omega)]
    exact ⟨hc.c, Nat.le_trans hc.z (by omega)⟩
  | n + 1, k, m, B, D, S, h, hk, hi, hc => by
    have ok := (text_ok b).1
    have hr : (textF' b).r.length ≤ 1000000 := Nat.le_trans (text_ok b).2.2.1 hb
    by_cases hlt : k < (textF' b).r.length
    · obtain ⟨h1, h2, h3, h4⟩ := tok_in (textF' b).r hlt
      rw [toksGo_cons hlt, List.foldl_cons]
      have := hi.token (textF' b) b hr (tokAt (textF' b).r k).kind (tokAt (textF' b).r k).from_ (tokAt (textF' b).r k).to (tokAt (textF' b).r k).whole
      rw [h1, h2, upTo_slice ok (by omega) (by omega) (by omega)] at this
      have hkd : (tokAt (textF' b).r k).kind ≠ 21 := by
        show (((nextTF (textF' b).r k).1 : Nat) : Int) ≠ 21
        have := nextTF_kind (textF' b).r k
        omega
      have hc2 := CI.token hi hc hkd (f := k) (u := ((nextTF (textF' b).r k).2.1 : Nat)) (by omega) (by omega) (by omega) (tokAt (textF' b).r k).whole
      have h5 := CI.toks hb n (nextTF (textF' b).r k).2.1 _ (B + 3) (D + 3) _ (by omega) h4 this hc2
      have e : tokM (textF' b) b m (tokAt (textF' b).r k) = tokenF (textF' b) b (tokAt (textF' b).r k).kind k ((nextTF (textF' b).r k).2.1 : Nat) (tokAt (textF' b).r k).whole m := rfl
      rw [e]
      exact ⟨h5.c, Nat.le_trans h5.z (by omega)⟩
    · rw [toksGo_nil hlt]
      exact ⟨hc.c, Nat.le_trans hc.z (by omega)⟩
theorem mk0_ci (K : Int) : CI K mk0 6 :=
  ⟨⟨fun n h0 h1 => by have h1 : n < (0 : Int) := h1; omega, (fun y hy => by cases hy), rfl⟩, by decide⟩
theorem first_ci (b : List UInt8) (K : Int) : CI K (firstM b) 6 := by
  unfold firstM
  split
  · refine ⟨?_, by show 2 * (1 + 2 * 1) ≤ 6; decide⟩
    exact CIn.leaf mk0_inv.i (mk0_ci K).c (by decide) _
  · exact mk0_ci K
structure TreeClosed (b : List UInt8) : Prop where
  el : ∀ n : Int, 0 ≤ n → n < (rootM (parseM b)).n.length → ElOk (textF' b).kind (rootM (parseM b)).n n
  cm : cm (rootM (parseM b)).n (parseM b).n.length = told (parseM b).d
  co : 2 * co (rootM (parseM b)).n (parseM b).n.length ≤ 4 + 3 * b.length
theorem parse_closed (b : List UInt8) (hb : b.length ≤ 100000) : TreeClosed b := by
  have hs := text_sml b hb
  have hr := (text_ok b).2.2.1
  have hi := first_inv b
  have h1 := inv_toks hs.ok hs.hr (textF' b).r.length 0 _ _ _ (by omega) (by omega) hi
  have c1 := CI.toks (b := b) (by omega) (textF' b).r.length 0 _ _ _ 6 (by omega) (by omega) hi (first_ci b _)
  have h2 := h1.i.s1
  obtain ⟨c2, _⟩ := CI.missGo (textF' b) (textF' b).r.length 0 _ _ h1 c1 (by omega) (Nat.le_succ _)
  have c2 : CI (textF' b).kind (parseM b) (6 + 3 * ((textF' b).r.length - 0)) := c2
  obtain ⟨h3, h4⟩ := inv_all hs.ok hs.hr hi
  have h3 : MkI (parseM b) b (3 + 3 * (textF' b).r.length) (2 + 3 * (textF' b).r.length) := h3
  have h4 : (parseM b).s.length = 1 := h4
  obtain ⟨k1, k2, k3, k4⟩ := root_prints h3 h4
  have hin : InR (parseM b).n (topF (parseM b).s).kids := h3.i.top
  refine ⟨?_, ?_, ?_⟩
  · exact el_add h3.i.ar.wf c2.c.el (el_not (by show (20 : Int) ≠ 21; decide))
  · show cm ((parseM b).n ++ [branchF (parseM b).n 20 (topF (parseM b).s).kids]) (parseM b).n.length = _
    rw [cm_new h3.i.ar.wf (x := branchF (parseM b).n 20 (topF (parseM b).s).kids) hin]
    have e1 : elM (parseM b).n (branchF (parseM b).n 20 (topF (parseM b).s).kids) = false := rfl
    have e2 := c2.c.cm
    obtain ⟨s0, hs0⟩ := top_split h3.i.s1
    have hs0' : s0 = [] := by
      rw [hs0] at h4
      exact List.eq_nil_of_length_eq_zero (by simpa using h4)
    subst hs0'
    rw [e1]
    show 0 + cmL (parseM b).n (topF (parseM b).s).kids = _
    rw [← e2]
    conv => rhs; rw [hs0]
    simp [cmK]
  · have := c2.z
    unfold sz at this
    rw [h4] at this
    omega
end Go.Proofs.Ytblafdmmebiagaa
namespace Go.Proofs.Ytblafdmmebiagaa
open Go.RowKit Go.Lib
theorem String_b (l : List Int) (hl : l.length ≤ 1000000) (f u : Int) (h0 : 0 ≤ f) (h1 : f ≤ u) (h2 : u ≤ l.length) (hne : strF ((l.drop f.toNat).take (u - f).toNat) ≠ []) :
    BCall Try.prog 44 [.agg [.val (.int .i64 0), .val (.int .i64 0), .slc 1 (runesA l), .val (.slice none 0 0)], .val (.int .i64 f), .val (.int .i64 u)] [] (.val (.string ⟨(strF ((l.drop f.toNat).take (u - f).toNat)).toArray⟩)) [] := by
  obtain ⟨i, rfl⟩ := Int.eq_ofNat_of_zero_le h0
  obtain ⟨j, rfl⟩ := Int.eq_ofNat_of_zero_le (Int.le_trans h0 h1)
  have e1 : ((i : Int).toNat) = i := Int.toNat_natCast i
  have e2 : ((j : Int) - (i : Int)).toNat = j - i := by omega
  rw [e1, e2] at hne ⊢
  refine BCall.hand (enters_of Try.func44 (by kernel_rfl) rfl) fun w g vs M hL => ?_
  obtain ⟨v1, vs1, rfl, k1, hL⟩ := argsCons hL
  obtain ⟨v2, vs2, rfl, k2, hL⟩ := argsCons hL
  obtain ⟨v3, vs3, rfl, k3, hL⟩ := argsCons hL
  obtain rfl := argsNil hL
  obtain rfl := ARel.valEq (ob := []) k2
  obtain rfl := ARel.valEq (ob := []) k3
  obtain ⟨cs, rfl, hc⟩ := k1
  obtain ⟨c0, c1, c2, c3, rfl⟩ : ∃ c0 c1 c2 c3, cs = #[c0, c1, c2, c3] := by
    rcases cs with ⟨l4⟩
    match l4, hc.1 with
    | [a, b, c, d], _ => exact ⟨a, b, c, d, rfl⟩
  obtain rfl := ARel.valEq (ob := []) (hc.2 0 c0 _ rfl rfl).1
  obtain rfl := ARel.valEq (ob := []) (hc.2 1 c1 _ rfl rfl).1
  obtain rfl := ARel.valEq (ob := []) (hc.2 3 c3 _ rfl rfl).1
  obtain ⟨A, c, rfl, hr⟩ := runes_rd (hc.2 2 c2 _ rfl rfl).1 M
  exact (TString_any _ A _ c l i j w hr (by omega) (by omega) hl hne).mono fun e w' ⟨h, hb⟩ => ⟨_, h, hb, .val _ rfl⟩
def csA1 (n k : Int) : Nat → List AV → List Ob → Option (AV × List Ob) := fun f args _ => match f, args with
  | 56, [.ref [.slc 6 _], .val (.int .i64 _), .slc 1 _] => some (.tup [.slc 1 [.val (.int .i64 n), .val (.int .i64 k)], .val (.bool true)], [])
  | _, _ => none
theorem At1_b (l : List Node) (hw : Wf l) (hl : l.length ≤ 1000000) (n : Int) (h0 : 0 ≤ n) (h1 : n < l.length) (k : Int) (r : List Int) (hkk : (nodeAt l n).kids = k :: r) :
    BCall Try.prog 41 [.ref [.slc 6 (nodesA l)], .val (.int .i64 n), .slc 1 [.val (.int .i64 0)]] [] (.tup [.val (.int .i64 k), .val (.bool true)]) [] := by
  have cW : BCall Try.prog 56 [.ref [.slc 6 (nodesA l)], .val (.int .i64 n), .slc 1 [.val (.int .i64 0)]] [] (wayA l n [0]) [] := way_b l hw hl n h0 h1 [0] (by decide)
  have hway : wayA l n [0] = .tup [.slc 1 [.val (.int .i64 n), .val (.int .i64 k)], .val (.bool true)] := by
    have : wayL l n [0] = some [n, k] := by
      show (if _ then _ else _) = _
      rw [hkk, if_pos ⟨Int.le_refl 0, by simp only [List.length_cons]; omega⟩]; rfl
    rw [wayA, this]; rfl
  rw [hway] at cW
  clear hway hkk hl
  refine bcall_of (cs := csA1 n k) (ord := fun _ => .nil) tyOk (by kernel_rfl) Try.func41 rfl (enters_of Try.func41 (by kernel_rfl) rfl) (Nat.le_of_ble_eq_true rfl) (by kernel_rfl) (by kernel_rfl) ?_
  intro w0 g0
  generalize hp : std = p
  generalize hN : nodesA l = N
  generalize hT : aexec p tys (csA1 n k) _ _ _ _ = T
  cbv at hT
  subst hT
  simp only [Tree.ok, RoundOk, Bool.false_eq_true, Bool.true_eq_false, false_implies, true_implies, and_true, true_and]
  subst hp hN
  refine ⟨cW, fun h => absurd (show false = true from h) (by decide), fun _ => ⟨?_, ?_, ⟨rfl, trivial⟩, .pure rfl ⟨.inl rfl, .inl rfl, trivial⟩⟩⟩
  · show (-9223372036854775808 : Int) ≤ 2 - 1 ∧ (2 : Int) - 1 ≤ 9223372036854775807
    decide
  · show (0 : Int) ≤ 2 - 1 ∧ (2 : Int) - 1 < 2
    decide
theorem Node_b (l : List Node) (c : Cur) : BCall Try.prog 23 [.agg (c.el (nodesA l))] [] (.val (.int .i64 c.n)) [] := by
  rw [Cur.el]
  obtain ⟨cn, hcn⟩ : ∃ x, x = c.n := ⟨_, rfl⟩
  obtain ⟨cf, hcf⟩ : ∃ x, x = c.f := ⟨_, rfl⟩
  obtain ⟨ck, hck⟩ : ∃ x, x = c.k := ⟨_, rfl⟩
  rw [← hcn, ← hcf, ← hck]
  refine bcall_of (cs := cs0) (ord := fun _ => .nil) tyOk (by kernel_rfl) Try.func23 rfl (enters_of Try.func23 (by kernel_rfl) rfl) (Nat.le_of_ble_eq_true rfl) (by kernel_rfl) (by kernel_rfl) ?_
  intro w0 g0
  generalize hp : std = p
  generalize hU : upO (nodesA l) c = U
  generalize hN : nodesA l = N
  generalize hT : aexec p tys (cs0) _ _ _ _ = T
  cbv at hT
  subst hT
  simp only [Tree.ok, RoundOk, Bool.false_eq_true, Bool.true_eq_false, false_implies, true_implies, and_true, true_and]
  subst hp hU hN
  exact .pure rfl (.inl rfl)
def nmS (r : List Int) : ByteArray := ⟨(strF (nameL r)).toArray⟩
def csNe (k1 k2 k0 : Int) (ru : List AV) (rk rf rt : Int) (ra : List AV) (rr re : Bool) (st : ByteArray) : Nat → List AV → List Ob → Option (AV × List Ob) := fun f args _ => match f, args with
  | 1000010, _ => some (.val (.int .i64 k1), [])
  | 1000023, _ => some (.val (.int .i64 k2), [])
  | 41, [.ref [.slc 6 _], .val (.int .i64 _), .slc 1 _] => some (.tup [.val (.int .i64 k0), .val (.bool true)], [])
  | 42, [.agg _, .val (.int .i64 _)] => some (.slc 1 ru, [])
  | 43, [.slc 1 _, .val (.int .i64 _), .val (.int .i64 _)] => some (.agg [.val (.int .i64 rk), .val (.int .i64 rf), .val (.int .i64 rt), .slc 9 ra, .val (.bool rr), .val (.bool re)], [])
  | 44, [.agg _, .val (.int .i64 _), .val (.int .i64 _)] => some (.val (.string st), [])
  | _, _ => none
structure NmOk (t : Txt) (m : Mk) (n : Int) : Prop where
  p : PrOk (rootM m).n n
  l : Lead (nameL (ruN t.kind (rootM m).n n))
theorem lead_str {nm : List Int} (h : Lead nm) : strF nm ≠ [] := by
  obtain ⟨r0, rs, rfl, h0⟩ := h
  have hw := start_wide h0
  have hb : r0 ≠ -1 := by rintro rfl; exact absurd hw (by decide)
  have e : strF (r0 :: rs) = bytesF [r0] ++ strF rs := by
    show (if r0 = -1 then [] else bytesF [r0]) ++ strF rs = _
    rw [if_neg hb]
  have h1 : (bytesF [r0]).length = widthF r0 := by
    have : bytesF [r0] = encodeRune r0 := by
      show runeF r0 ++ [] = _
      rw [runeF, if_neg (by omega), List.append_nil]
    rw [this, enc_width r0 hw]
  intro h2
  have := congrArg List.length h2
  rw [e, List.length_append, h1] at this
  simp at this
  omega
set_option maxRecDepth 20000 in
theorem Name8_b (t : Txt) (m : Mk) (ht : t.kind = 0 ∨ t.kind = 1 ∨ t.kind = 2) (n : Int) (h : NmOk t m n) (hk : kindN (rootM m).n n = 8) :
    BCall Try.prog 25 [treeA t m, .val (.int .i64 n)] [] (.val (.string (nmS (ruN t.kind (rootM m).n n)))) [] := by
  have cK := Kind_b (rootM m).n n
  rw [show (nodeAt (rootM m).n n).kind = 8 from hk] at cK
  have cK2 := cK
  have cA := cK
  have hp : (pcsF t.kind (pr (rootM m).n n)).length ≤ 1000000 := Nat.le_trans (pcsF_len ht _) h.p.p
  have cR := TRunes_b t m n h.p hp
  have hld := h.l
  have hrl : (ruN t.kind (rootM m).n n).length ≤ 1000000 := by rw [ruN, runesK, List.length_map]; exact hp
  generalize ruN t.kind (rootM m).n n = r at cR hld hrl ⊢
  have hin := name_in r 0 r.length (Int.le_refl 0) (by omega) (Int.le_refl _)
  have cD := Read_b r hrl 0 r.length (Int.le_refl 0) (by omega) (Int.le_refl _)
  have cS := String_b r hrl (readF r 0 r.length).name.from_ (readF r 0 r.length).name.to hin.1 hin.2.1 hin.2.2 (lead_str hld)
  have eS : (⟨(strF ((r.drop (readF r 0 r.length).name.from_.toNat).take ((readF r 0 r.length).name.to - (readF r 0 r.length).name.from_).toNat)).toArray⟩ : ByteArray) = nmS r := rfl
  rw [eS] at cS
  clear eS hin hld h hp ht hk
  generalize nmS r = st at cS ⊢
  obtain ⟨nr, hnr⟩ := exLen r
  rw [← hnr.eq] at cD cS
  have hlen : std.len (runesA r) = nr := by show ((runesA r).length : Int) = nr; rw [runes_len, hnr.eq]
  generalize (readF r 0 nr).name.kind = rk at cD
  generalize (readF r 0 nr).name.from_ = rf at cD cS
  generalize (readF r 0 nr).name.to = rt at cD cS
  generalize tattrsA (readF r 0 nr).attrs = ra at cD
  generalize (readF r 0 nr).right = rr at cD
  generalize (readF r 0 nr).empty = re at cD
  obtain ⟨ro, hro⟩ : ∃ ro : Int, ro = m.n.length := ⟨_, rfl⟩
  unfold treeA at cR ⊢
  rw [← hro] at cR ⊢
  generalize (rootM m).n = l at cR cK cK2 cA ⊢
  generalize t.kind = K at cR ⊢
  generalize t.bom = M at cR ⊢
  generalize runesA t.r = R at cR ⊢
  generalize intsA t.off = O at cR ⊢
  generalize dgsA m.d = D at cR ⊢
  clear hro hnr
  refine bcall_of (cs := csNe 8 8 0 (runesA r) rk rf rt ra rr re st) (ord := fun _ => .nil) tyOk (by kernel_rfl) Try.func25 rfl (enters_of Try.func25 (by kernel_rfl) rfl) (Nat.le_of_ble_eq_true rfl) (by kernel_rfl) (by kernel_rfl) ?_
  intro w0 g0
  generalize hp : std = p
  generalize hru : runesA r = ru
  generalize hN : nodesA l = N
  generalize hT : aexec p tys (csNe 8 8 0 ru rk rf rt ra rr re st) _ _ _ _ = T
  cbv at hT
  subst hT
  simp only [Tree.ok, RoundOk, Bool.false_eq_true, Bool.true_eq_false, false_implies, true_implies, and_true, true_and]
  subst hp hru hN
  rw [← hlen] at cD
  repeat' first
    | (with_reducible apply And.intro)
    | exact fun h => absurd (show false = true from h) (by decide)
    | exact fun h => absurd (show true = false from h) (by decide)
    | (intro _)
  all_goals first
    | exact cK
    | exact cK2
    | exact cA
    | exact cR
    | exact cD
    | exact cS
    | exact .pure rfl (.inl rfl)
set_option maxRecDepth 20000 in
theorem Name10_b (t : Txt) (m : Mk) (ht : t.kind = 0 ∨ t.kind = 1 ∨ t.kind = 2) (n : Int) (h : NmOk t m n) (hk : kindN (rootM m).n n = 10) :
    BCall Try.prog 25 [treeA t m, .val (.int .i64 n)] [] (.val (.string (nmS (ruN t.kind (rootM m).n n)))) [] := by
  have cK := Kind_b (rootM m).n n
  rw [show (nodeAt (rootM m).n n).kind = 10 from hk] at cK
  have cK2 := cK
  have cA := cK
  have hp : (pcsF t.kind (pr (rootM m).n n)).length ≤ 1000000 := Nat.le_trans (pcsF_len ht _) h.p.p
  have cR := TRunes_b t m n h.p hp
  have hld := h.l
  have hrl : (ruN t.kind (rootM m).n n).length ≤ 1000000 := by rw [ruN, runesK, List.length_map]; exact hp
  generalize ruN t.kind (rootM m).n n = r at cR hld hrl ⊢
  have hin := name_in r 0 r.length (Int.le_refl 0) (by omega) (Int.le_refl _)
  have cD := Read_b r hrl 0 r.length (Int.le_refl 0) (by omega) (Int.le_refl _)
  have cS := String_b r hrl (readF r 0 r.length).name.from_ (readF r 0 r.length).name.to hin.1 hin.2.1 hin.2.2 (lead_str hld)
  have eS : (⟨(strF ((r.drop (readF r 0 r.length).name.from_.toNat).take ((readF r 0 r.length).name.to - (readF r 0 r.length).name.from_).toNat)).toArray⟩ : ByteArray) = nmS r := rfl
  rw [eS] at cS
  clear eS hin hld h hp ht hk
  generalize nmS r = st at cS ⊢
  obtain ⟨nr, hnr⟩ := exLen r
  rw [← hnr.eq] at cD cS
  have hlen : std.len (runesA r) = nr := by show ((runesA r).length : Int) = nr; rw [runes_len, hnr.eq]
  generalize (readF r 0 nr).name.kind = rk at cD
  generalize (readF r 0 nr).name.from_ = rf at cD cS
  generalize (readF r 0 nr).name.to = rt at cD cS
  generalize tattrsA (readF r 0 nr).attrs = ra at cD
  generalize (readF r 0 nr).right = rr at cD
  generalize (readF r 0 nr).empty = re at cD
  obtain ⟨ro, hro⟩ : ∃ ro : Int, ro = m.n.length := ⟨_, rfl⟩
  unfold treeA at cR ⊢
  rw [← hro] at cR ⊢
  generalize (rootM m).n = l at cR cK cK2 cA ⊢
  generalize t.kind = K at cR ⊢
  generalize t.bom = M at cR ⊢
  generalize runesA t.r = R at cR ⊢
  generalize intsA t.off = O at cR ⊢
  generalize dgsA m.d = D at cR ⊢
  clear hro hnr
  refine bcall_of (cs := csNe 10 10 0 (runesA r) rk rf rt ra rr re st) (ord := fun _ => .nil) tyOk (by kernel_rfl) Try.func25 rfl (enters_of Try.func25 (by kernel_rfl) rfl) (Nat.le_of_ble_eq_true rfl) (by kernel_rfl) (by kernel_rfl) ?_
  intro w0 g0
  generalize hp : std = p
  generalize hru : runesA r = ru
  generalize hN : nodesA l = N
  generalize hT : aexec p tys (csNe 10 10 0 ru rk rf rt ra rr re st) _ _ _ _ = T
  cbv at hT
  subst hT
  simp only [Tree.ok, RoundOk, Bool.false_eq_true, Bool.true_eq_false, false_implies, true_implies, and_true, true_and]
  subst hp hru hN
  rw [← hlen] at cD
  repeat' first
    | (with_reducible apply And.intro)
    | exact fun h => absurd (show false = true from h) (by decide)
    | exact fun h => absurd (show true = false from h) (by decide)
    | (intro _)
  all_goals first
    | exact cK
    | exact cK2
    | exact cA
    | exact cR
    | exact cD
    | exact cS
    | exact .pure rfl (.inl rfl)
set_option maxRecDepth 20000 in
theorem NameEl_b (t : Txt) (m : Mk) (ht : t.kind = 0 ∨ t.kind = 1 ∨ t.kind = 2) (n k0 : Int) (r0 : List Int) (h0 : 0 ≤ n) (h1 : n < (rootM m).n.length) (hl : (rootM m).n.length ≤ 1000000) (h : NmOk t m k0) (hk : kindN (rootM m).n n = 21) (hk0 : kindN (rootM m).n k0 = 8) (hkk : (nodeAt (rootM m).n n).kids = k0 :: r0) :
    BCall Try.prog 25 [treeA t m, .val (.int .i64 n)] [] (.val (.string (nmS (ruN t.kind (rootM m).n k0)))) [] := by
  have cK := Kind_b (rootM m).n n
  rw [show (nodeAt (rootM m).n n).kind = 21 from hk] at cK
  have cK2 := Kind_b (rootM m).n k0
  rw [show (nodeAt (rootM m).n k0).kind = 8 from hk0] at cK2
  have cA := At1_b (rootM m).n h.p.wf hl n h0 h1 k0 r0 hkk
  have hp : (pcsF t.kind (pr (rootM m).n k0)).length ≤ 1000000 := Nat.le_trans (pcsF_len ht _) h.p.p
  have cR := TRunes_b t m k0 h.p hp
  have hld := h.l
  have hrl : (ruN t.kind (rootM m).n k0).length ≤ 1000000 := by rw [ruN, runesK, List.length_map]; exact hp
  generalize ruN t.kind (rootM m).n k0 = r at cR hld hrl ⊢
  have hin := name_in r 0 r.length (Int.le_refl 0) (by omega) (Int.le_refl _)
  have cD := Read_b r hrl 0 r.length (Int.le_refl 0) (by omega) (Int.le_refl _)
  have cS := String_b r hrl (readF r 0 r.length).name.from_ (readF r 0 r.length).name.to hin.1 hin.2.1 hin.2.2 (lead_str hld)
  have eS : (⟨(strF ((r.drop (readF r 0 r.length).name.from_.toNat).take ((readF r 0 r.length).name.to - (readF r 0 r.length).name.from_).toNat)).toArray⟩ : ByteArray) = nmS r := rfl
  rw [eS] at cS
  clear eS hin hld h hp ht hk hk0 hkk hl h0 h1
  generalize nmS r = st at cS ⊢
  obtain ⟨nr, hnr⟩ := exLen r
  rw [← hnr.eq] at cD cS
  have hlen : std.len (runesA r) = nr := by show ((runesA r).length : Int) = nr; rw [runes_len, hnr.eq]
  generalize (readF r 0 nr).name.kind = rk at cD
  generalize (readF r 0 nr).name.from_ = rf at cD cS
  generalize (readF r 0 nr).name.to = rt at cD cS
  generalize tattrsA (readF r 0 nr).attrs = ra at cD
  generalize (readF r 0 nr).right = rr at cD
  generalize (readF r 0 nr).empty = re at cD
  obtain ⟨ro, hro⟩ : ∃ ro : Int, ro = m.n.length := ⟨_, rfl⟩
  unfold treeA at cR ⊢
  rw [← hro] at cR ⊢
  generalize (rootM m).n = l at cR cK cK2 cA ⊢
  generalize t.kind = K at cR ⊢
  generalize t.bom = M at cR ⊢
  generalize runesA t.r = R at cR ⊢
  generalize intsA t.off = O at cR ⊢
  generalize dgsA m.d = D at cR ⊢
  clear hro hnr
  refine bcall_of (cs := csNe 21 8 k0 (runesA r) rk rf rt ra rr re st) (ord := fun _ => .nil) tyOk (by kernel_rfl) Try.func25 rfl (enters_of Try.func25 (by kernel_rfl) rfl) (Nat.le_of_ble_eq_true rfl) (by kernel_rfl) (by kernel_rfl) ?_
  intro w0 g0
  generalize hp : std = p
  generalize hru : runesA r = ru
  generalize hN : nodesA l = N
  generalize hT : aexec p tys (csNe 21 8 k0 ru rk rf rt ra rr re st) _ _ _ _ = T
  cbv at hT
  subst hT
  simp only [Tree.ok, RoundOk, Bool.false_eq_true, Bool.true_eq_false, false_implies, true_implies, and_true, true_and]
  subst hp hru hN
  rw [← hlen] at cD
  repeat' first
    | (with_reducible apply And.intro)
    | exact fun h => absurd (show false = true from h) (by decide)
    | exact fun h => absurd (show true = false from h) (by decide)
    | (intro _)
  all_goals first
    | exact cK
    | exact cK2
    | exact cA
    | exact cR
    | exact cD
    | exact cS
    | exact .pure rfl (.inl rfl)
end Go.Proofs.Ytblafdmmebiagaa
namespace Go.Proofs.Ytblafdmmebiagaa
open Go.RowKit Go.Lib
def cmC (l : List Node) (st : List Cur) : Nat := (st.map fun c => cm l c.n).sum
theorem cmC_app (l : List Node) (a b : List Cur) : cmC l (a ++ b) = cmC l a + cmC l b := by simp [cmC]
theorem downs_cm (l : List Node) (c : Cur) : ∀ k, k ≤ (kidsAt l c).length → cmC l (downs l c k) = cmL l ((kidsAt l c).take k)
  | 0, _ => rfl
  | k + 1, h => by
    have h1 : k < (kidsAt l c).length := h
    have e : (kidsAt l c)[(k : Int).toNat]?.getD 0 = (kidsAt l c)[k] := by rw [Int.toNat_natCast, List.getElem?_eq_getElem h1]; rfl
    have ih := downs_cm l c k (by omega)
    rw [List.take_add_one, List.getElem?_eq_getElem h1, cmL_app]
    show cm l (downC l c k).n + cmC l (downs l c k) = _
    rw [ih, show (downC l c k).n = (kidsAt l c)[k] from e]
    simp only [Option.toList_some, cmL_one]
    omega
def isM (l : List Node) (x : Cur) : Bool := elM l (nodeAt l x.n)
theorem walkGo_cm {l : List Node} {W C : Nat} (ha : Ar l) : ∀ (n : Nat) (st : List Cur), (∀ x ∈ st, CurIn l W C x) → coC l st ≤ n → ((walkGo l n st).filter (isM l)).length = cmC l st
  | 0, st, _, h => by
    have := coC_len l st
    obtain rfl : st = [] := List.eq_nil_of_length_eq_zero (by omega)
    rfl
  | n + 1, st, hin, h => by
    by_cases hne : st = []
    · subst hne
      rw [walkGo_nil]; rfl
    · obtain ⟨st0, x, rfl⟩ : ∃ st0 x, st = st0 ++ [x] := ⟨st.dropLast, st.getLast hne, (List.dropLast_concat_getLast hne).symm⟩
      have hx : CurIn l W C x := hin x (by simp)
      have h5 : coC l [x] = 1 + coL l (kidsAt l x) := by
        show co l x.n + 0 = _
        rw [Nat.add_zero, co_eq ha.wf hx.h0 hx.h1]; rfl
      have h6 : cmC l [x] = n01 (isM l x) + cmL l (kidsAt l x) := by
        show cm l x.n + 0 = _
        rw [Nat.add_zero, cm_eq ha.wf hx.h0 hx.h1]; rfl
      have hd := downs_co l x _ (Nat.le_refl _)
      have hm := downs_cm l x _ (Nat.le_refl _)
      rw [List.take_length] at hd hm
      rw [coC_app, h5] at h
      have ih := walkGo_cm ha n (st0 ++ downs l x (kidsAt l x).length) (fun y hy => by
        rcases List.mem_append.1 hy with hy | hy
        · exact hin y (List.mem_append_left _ hy)
        · exact downs_in ha hx _ (Nat.le_refl _) y hy) (by rw [coC_app, hd]; omega)
      rw [cmC_app, hm] at ih
      rw [walkGo_app, List.filter_cons, cmC_app, h6]
      cases hb : isM l x with
      | true => rw [if_pos rfl, List.length_cons, ih]; show _ = _ + (1 + _); omega
      | false => rw [if_neg (by decide), ih]; show _ = _ + (0 + _); omega
def nmF (K : Int) (l : List Node) (n : Int) : ByteArray := if kindN l n = 21 then nmS (ruN K l ((nodeAt l n).kids.headD 0)) else nmS (ruN K l n)
structure ElF (T : AV) (l : List Node) (nm : Int → ByteArray) (n k0 : Int) (r : List Int) (kl : Int) : Prop where
  k : (nodeAt l n).kids = k0 :: (r ++ [kl])
  s : kindN l k0 = 8
  q : nm n = nm k0
  ne : (nm k0).data.size ≠ 0
  c : BCall Try.prog 25 [T, .val (.int .i64 n)] [] (.val (.string (nm n))) []
  c0 : BCall Try.prog 25 [T, .val (.int .i64 k0)] [] (.val (.string (nm k0))) []
  e : kindN l kl = 22 ∨ (kindN l kl = 10 ∧ nm kl = nm k0 ∧ BCall Try.prog 25 [T, .val (.int .i64 kl)] [] (.val (.string (nm kl))) [])
theorem kid_b2 {l : List Node} {b : List UInt8} {C : Nat} {c : Cur} (ha : Ar l) (ho : ∀ x ∈ l, NodeOk x) (h : CurB l b C c) {i : Nat} (hi : i < (kidsAt l c).length) : CurB l b C (downC l c i) ∧ (downC l c i).n = (kidsAt l c)[i] :=
  ⟨⟨h.1.down ha (by omega) (by omega), h.2.down ha ho h.1 (by omega) (by omega)⟩, by
    show (kidsAt l c)[(i : Int).toNat]?.getD 0 = _
    rw [Int.toNat_natCast, List.getElem?_eq_getElem hi]; rfl⟩
theorem closed_el (b : List UInt8) (hb : b.length ≤ 400) {x : Cur} (hx : CurB (rootM (parseM b)).n b 400000 x) (hk : kindN (rootM (parseM b)).n x.n = 21) :
    ∃ k0 r kl, ElF (treeA (textF' b) (parseM b)) (rootM (parseM b)).n (nmF (textF' b).kind (rootM (parseM b)).n) x.n k0 r kl := by
  have hO := parse_ok b (by omega)
  have hN := parse_nodes b
  have hC := parse_closed b (by omega)
  have ht : (textF' b).kind = 0 ∨ (textF' b).kind = 1 ∨ (textF' b).kind = 2 := kind_012 b
  obtain ⟨k0, r, kl, hs⟩ := hC.el x.n hx.1.h0 hx.1.h1 hk
  have hln := hO.n
  generalize textF' b = t at *
  have har := hO.ar
  have hkl : (kidsAt (rootM (parseM b)).n x).length = r.length + 2 := by
    show (nodeAt (rootM (parseM b)).n x.n).kids.length = _
    rw [hs.k]; simp
  have hkids : kidsAt (rootM (parseM b)).n x = k0 :: (r ++ [kl]) := hs.k
  obtain ⟨b0, n0⟩ := kid_b2 har hN hx (i := 0) (by omega)
  obtain ⟨b1, n1⟩ := kid_b2 har hN hx (i := r.length + 1) (by omega)
  have n0 : (downC (rootM (parseM b)).n x (0 : Nat)).n = k0 := by rw [n0]; simp [hkids]
  have n1 : (downC (rootM (parseM b)).n x ((r.length + 1 : Nat) : Int)).n = kl := by rw [n1]; simp [hkids]
  have p0 := CurB.pr har (by omega) (by omega) (by omega) b0
  have p1 := CurB.pr har (by omega) (by omega) (by omega) b1
  rw [n0] at p0
  rw [n1] at p1
  have ok0 : NmOk t (parseM b) k0 := ⟨p0, hs.ld⟩
  have e21 : nmF t.kind (rootM (parseM b)).n x.n = nmS (ruN t.kind (rootM (parseM b)).n k0) := by
    rw [nmF, if_pos hk, hs.k]; rfl
  have e0 : nmF t.kind (rootM (parseM b)).n k0 = nmS (ruN t.kind (rootM (parseM b)).n k0) := by
    rw [nmF, if_neg (by rw [hs.s]; decide)]
  refine ⟨k0, r, kl, hs.k, hs.s, by rw [e21, e0], ?_, ?_, ?_, ?_⟩
  · rw [e0]
    show (strF (nameL (ruN t.kind (rootM (parseM b)).n k0))).toArray.size ≠ 0
    have this : strF (nameL (ruN t.kind (rootM (parseM b)).n k0)) ≠ [] := lead_str hs.ld
    intro h
    exact this (List.eq_nil_of_length_eq_zero (by simpa using h))
  · rw [e21]
    exact NameEl_b t (parseM b) ht x.n k0 _ hx.1.h0 hx.1.h1 (by omega) ok0 hk hs.s hs.k
  · rw [e0]
    exact Name8_b t (parseM b) ht k0 ok0 hs.s
  · rcases hs.e with h | ⟨h, h2⟩
    · exact .inl h
    · have e1 : nmF t.kind (rootM (parseM b)).n kl = nmS (ruN t.kind (rootM (parseM b)).n kl) := by
        rw [nmF, if_neg (by rw [h]; decide)]
      have e2 : nmS (ruN t.kind (rootM (parseM b)).n kl) = nmS (ruN t.kind (rootM (parseM b)).n k0) := by
        have h2 : nameL (ruN t.kind (rootM (parseM b)).n kl) = nameL (ruN t.kind (rootM (parseM b)).n k0) := h2
        unfold nmS
        rw [h2]
      refine .inr ⟨h, by rw [e1, e0, e2], ?_⟩
      rw [e1]
      exact Name10_b t (parseM b) ht kl ⟨p1, by
        show Lead (nmN t.kind (rootM (parseM b)).n kl)
        rw [h2]; exact hs.ld⟩ h
theorem walk_told (b : List UInt8) (hb : b.length ≤ 400) : ((walkF (rootM (parseM b)).n (.root (parseM b).n.length) 1000).filter (isM (rootM (parseM b)).n)).length = told (parseM b).d := by
  have hO := parse_ok b (by omega)
  have hC := parse_closed b (by omega)
  have hr := hO.root
  have := walkGo_cm hO.ar 1000 [.root (parseM b).n.length] (fun x hx => by
    obtain rfl : x = .root (parseM b).n.length := by simpa using hx
    exact hr) (by
    show co (rootM (parseM b)).n (parseM b).n.length + 0 ≤ 1000
    have := hC.co
    omega)
  rw [← hC.cm]
  exact this
end Go.Proofs.Ytblafdmmebiagaa
