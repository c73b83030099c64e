/-
  Parts of the proof, joined: Oi. Conditions: as each theorem says.
-/
import Derived.Test.YtblafdmmebiagaaQC24
import Derived.Test.YtblafdmmebiagaaQC25
namespace Go.Proofs.Ytblafdmmebiagaa
open Go.RowKit Go.Lib
def mR (l : List Int) (k : Int) : List Int := (l.take (min k.toNat 200)).filter fun x => decide (0 < widthF x)
theorem mR_wide (l : List Int) (k : Int) : ∀ x ∈ mR l k, 0 < widthF x := fun x hx => by
  have := (List.mem_filter.1 hx).2
  exact of_decide_eq_true this
theorem mR_len (l : List Int) (k : Int) : (mR l k).length ≤ 200 := by
  have h1 := List.length_filter_le (fun x => decide (0 < widthF x)) (l.take (min k.toNat 200))
  have h2 : (l.take (min k.toNat 200)).length ≤ 200 := by rw [List.length_take]; omega
  exact Nat.le_trans h1 h2
theorem mR_more {l : List Int} {k : Int} (h0 : 0 ≤ k) (h1 : k.toNat < l.length) (hk : k < 200) (hw : 0 < widthF l[k.toNat]) : mR l (k + 1) = mR l k ++ [l[k.toNat]] := by
  unfold mR
  rw [show min (k + 1).toNat 200 = k.toNat + 1 by omega, show min k.toNat 200 = k.toNat by omega, List.take_add_one, List.getElem?_eq_getElem h1, List.filter_append]
  have e : [l[k.toNat]].filter (fun x => decide (0 < widthF x)) = [l[k.toNat]] := by rw [List.filter_cons_of_pos (by simpa using hw)]; rfl
  show _ ++ [l[k.toNat]].filter (fun x => decide (0 < widthF x)) = _
  rw [e]
theorem mR_same {l : List Int} {k : Int} (h0 : 0 ≤ k) (h1 : k.toNat < l.length) (h : ¬ (k < 200 ∧ 0 < widthF l[k.toNat])) : mR l (k + 1) = mR l k := by
  unfold mR
  by_cases hk : k < 200
  · have hw : ¬ 0 < widthF l[k.toNat] := fun hw => h ⟨hk, hw⟩
    rw [show min (k + 1).toNat 200 = k.toNat + 1 by omega, show min k.toNat 200 = k.toNat by omega, List.take_add_one, List.getElem?_eq_getElem h1, List.filter_append]
    have e : [l[k.toNat]].filter (fun x => decide (0 < widthF x)) = [] := by rw [List.filter_cons_of_neg (by simpa using hw)]; rfl
    show _ ++ [l[k.toNat]].filter (fun x => decide (0 < widthF x)) = _
    rw [e, List.append_nil]
  · rw [show min (k + 1).toNat 200 = 200 by omega, show min k.toNat 200 = 200 by omega]
theorem of_ok (l : List Int) (hw : ∀ x ∈ l, 0 < widthF x) (hb : (bytesF l).length ≤ 100000) : TreeOk (bytesF l) (ofM l) := by
  have hs := ofT_sml l (fun x hx => wide_bytes x (hw x hx)) hb
  have hr := (ofT_ok l (fun x hx => wide_bytes x (hw x hx))).2
  have hrl : (ofT l).r.length = l.length := rfl
  have hi : MkI mk0 (upTo (ofT l) (bytesF l) 0) 3 2 := by rw [ofM_up]; exact ⟨mk0_inv.i.mono (by omega) (Nat.le_refl _), mk0_inv.c⟩
  obtain ⟨h1, h2⟩ := inv_all hs.ok hs.hr hi
  have h1 : MkI (ofM l) (bytesF l) (3 + 3 * (ofT l).r.length) (2 + 3 * (ofT l).r.length) := h1
  have h2 : (ofM l).s.length = 1 := h2
  obtain ⟨k1, k2, k3, k4⟩ := root_prints h1 h2
  have hn := h1.i.n
  exact ⟨k1, k2, k3, by omega, by show ((ofM l).n ++ [_]).length ≤ _; simp only [List.length_append, List.length_singleton]; omega, h2⟩
theorem of_d (l : List Int) (hw : ∀ x ∈ l, 0 < widthF x) (hb : (bytesF l).length ≤ 100000) : ((ofM l).d.length : Int) ≤ 1000000 := by
  have hs := ofT_sml l (fun x hx => wide_bytes x (hw x hx)) hb
  have hr := (ofT_ok l (fun x hx => wide_bytes x (hw x hx))).2
  have hrl : (ofT l).r.length = l.length := rfl
  have hi : MkI mk0 (upTo (ofT l) (bytesF l) 0) 3 2 := by rw [ofM_up]; exact ⟨mk0_inv.i.mono (by omega) (Nat.le_refl _), mk0_inv.c⟩
  have h1 := (inv_all hs.ok hs.hr hi).1.i.d
  have h1 : (ofM l).d.length + 2 * (ofM l).s.length ≤ 2 + 3 * (ofT l).r.length := h1
  omega
def csPO (wd : Int → Int) (kd bm rt : Int) (SB R O N D EV : List AV) : Nat → List AV → List Ob → Option (AV × List Ob) := fun f args _ => match f, args with
  | 16, [.val (.int .i32 r)] => some (.val (.int .i64 (wd r)), [])
  | 17, [.slc 1 _] => some (.slc 1 SB, [])
  | 18, [.slc 1 _] => some (.tup [.val (.int .i64 kd), .val (.int .i64 bm)], [])
  | 19, [.slc 1 _] => some (.agg [.val (.int .i64 0), .val (.int .i64 0), .slc 1 R, .slc 1 O, .ref [.slc 6 N], .val (.int .i64 rt), .slc 3 D], [])
  | 8, [.slc 1 _] => some (.agg [.val (.int .i64 0), .val (.int .i64 0), .slc 1 R, .slc 1 O, .ref [.slc 6 N], .val (.int .i64 rt), .slc 3 D], [])
  | 9, [.agg _] => some (.slc 1 SB, [])
  | 12, [.agg _] => some (.agg [.opt (.ref [.slc 6 N]), .val (.int .i64 rt), .val (.int .i64 0), .val (.int .i64 0), .opt (.val (.pointer none))], [])
  | 20, [.agg _, .val (.bool true)] => some (.slc 3 EV, [])
  | 11, [] => some (.val (.bool true), [])
  | _, _ => none
def poO1 : OT := .then [0, 3] (.fork (.then [1] (.fork (.of [2, 4, 5, 6, 7, 8, 9, 10, 11, 12, 13, 14, 15, 16, 17]) (.of [4, 2, 5, 6, 7, 8, 9, 10, 11, 12, 13, 14, 15, 16, 17]))) (.of [4, 1, 2, 5, 6, 7, 8, 9, 10, 11, 12, 13, 14, 15, 16, 17]))
def poO2 : OT := .then [0] (.fork (.then [1] (.fork (.of [2, 3, 4, 5, 6, 7]) (.of [3, 2, 4, 5, 6, 7]))) (.of [3, 1, 2, 4, 5, 6, 7]))
def wdA (x : Int) : Int := widthF x
set_option maxRecDepth 20000 in
set_option maxHeartbeats 4000000 in
theorem ParseOf_b (l : List Int) : BCall Try.prog 5 [.slc 1 (runesA l)] [] (.val (.bool true)) [] := by
  refine BCall.bounded (enters_of Try.func5 (by kernel_rfl) rfl) fun hmax => ?_
  obtain ⟨n, hn⟩ := exLen l
  have hmax : n ≤ 9223372036854775807 := by
    rw [runes_len] at hmax
    have := hn.eq
    have : maxLen ≤ 9223372036854775807 := by decide
    omega
  have hlen : std.len (runesA l) = n := by show ((runesA l).length : Int) = n; rw [runes_len, hn.eq]
  obtain ⟨ml, hml⟩ : ∃ ml, ml = mR l n := ⟨_, rfl⟩
  have hw : ∀ x ∈ ml, 0 < widthF x := by rw [hml]; exact mR_wide l n
  have hmn : ml.length ≤ 200 := by rw [hml]; exact mR_len l n
  obtain ⟨b, hb⟩ : ∃ b, b = bytesF ml := ⟨_, rfl⟩
  have hbn : b.length ≤ 800 := by rw [hb]; have := bytesF_len ml; omega
  have hi32 : I32 ml := fun x hx => by
    have := hw x hx
    unfold widthF at this
    split at this <;> omega
  have cW : ∀ r, BCall Try.prog 16 [.val (.int .i32 r)] [] (.val (.int .i64 (wdA r))) [] := RefWidth_b
  have cRB := RefBytes_b ml (by omega) hi32
  have cKi := RefKind_b b
  have cO := Of_b ml hw (by rw [← hb]; omega)
  have hO := of_ok ml hw (by rw [← hb]; omega)
  rw [← hb] at hO cRB
  have cPr := TPrint_b (ofT ml) (ofM ml) (hO.pr (by omega))
  rw [hO.p] at cPr
  have cA := awake_b
  obtain ⟨kd, hkd⟩ : ∃ kd, kd = (kindF b).1 := ⟨_, rfl⟩
  obtain ⟨bm, hbm⟩ : ∃ bm, bm = (kindF b).2 := ⟨_, rfl⟩
  rw [← hkd, ← hbm] at cKi
  have cP : kd = 0 → bm = 0 → BCall Try.prog 8 [.slc 1 (bytesA b)] [] (treeA (ofT ml) (ofM ml)) [] := fun h1 h2 => by
    have hk : kindF (bytesF ml) = (0, 0) := by
      rw [← hb]
      exact Prod.ext (hkd.symm.trans h1) (hbm.symm.trans h2)
    have := Parse_b b (by omega)
    rw [hb, ofT_eq ml hw hk, ofM_eq ml hw hk, ← hb] at this
    exact this
  have cC := (TCursor_b (ofT ml) (ofM ml)).res (res' := .agg ((Cur.root (ofM ml).n.length).el (nodesA (rootM (ofM ml)).n))) ⟨.inr (.inr (.inl ⟨rfl, trivial⟩)), .inl rfl, .inl rfl, .inl rfl, .inl rfl, trivial⟩
  have cS : kd = 0 → bm = 0 → BCall Try.prog 20 [.agg ((Cur.root (ofM ml).n.length).el (nodesA (rootM (ofM ml)).n)), .val (.bool true)] [] (.slc 3 (evsA (spN (rootM (ofM ml)).n (ofM ml).n.length true))) [] := fun h1 h2 => by
    have hk : kindF (bytesF ml) = (0, 0) := by
      rw [← hb]
      exact Prod.ext (hkd.symm.trans h1) (hbm.symm.trans h2)
    have hN := parse_nodes b
    rw [hb, ofM_eq ml hw hk] at hN
    have hAt : CurB (rootM (ofM ml)).n b 400000 (.root (ofM ml).n.length) := ⟨hO.root, [], [], by show b = [] ++ (pr (rootM (ofM ml)).n (ofM ml).n.length ++ []); rw [hO.p]; simp, rfl⟩
    exact spread_b (rootM (ofM ml)).n b 400000 hO.ar hN (by have := hO.n; omega) (by omega) (by omega) _ _ true (Nat.lt_succ_self _) hAt
  obtain ⟨rt, hrt⟩ : ∃ rt : Int, rt = (ofM ml).n.length := ⟨_, rfl⟩
  rw [← hrt] at cS cC
  unfold treeA at cO cP cPr cC
  rw [← hrt] at cO cP cPr cC
  simp only [Cur.el, Cur.root] at cC cS
  obtain ⟨N, hN⟩ : ∃ N, N = nodesA (rootM (ofM ml)).n := ⟨_, rfl⟩
  obtain ⟨D, hD⟩ : ∃ D, D = dgsA (ofM ml).d := ⟨_, rfl⟩
  obtain ⟨O, hO'⟩ : ∃ O, O = intsA (ofT ml).off := ⟨_, rfl⟩
  obtain ⟨EV, hEV⟩ : ∃ EV, EV = evsA (spN (rootM (ofM ml)).n rt true) := ⟨_, rfl⟩
  rw [← hN] at cO cP cPr cC cS
  rw [← hD] at cO cP cPr cC
  rw [← hO'] at cO cP cPr cC
  rw [← hEV] at cS
  have cO : BCall Try.prog 19 [.slc 1 (runesA ml)] [] (.agg [.val (.int .i64 0), .val (.int .i64 0), .slc 1 (runesA ml), .slc 1 O, .ref [.slc 6 N], .val (.int .i64 rt), .slc 3 D]) [] := cO
  have cP : kd = 0 → bm = 0 → BCall Try.prog 8 [.slc 1 (bytesA b)] [] (.agg [.val (.int .i64 0), .val (.int .i64 0), .slc 1 (runesA ml), .slc 1 O, .ref [.slc 6 N], .val (.int .i64 rt), .slc 3 D]) [] := cP
  have cPr : BCall Try.prog 9 [.agg [.val (.int .i64 0), .val (.int .i64 0), .slc 1 (runesA ml), .slc 1 O, .ref [.slc 6 N], .val (.int .i64 rt), .slc 3 D]] [] (.slc 1 (bytesA b)) [] := cPr
  have cC : BCall Try.prog 12 [.agg [.val (.int .i64 0), .val (.int .i64 0), .slc 1 (runesA ml), .slc 1 O, .ref [.slc 6 N], .val (.int .i64 rt), .slc 3 D]] [] (.agg [.opt (.ref [.slc 6 N]), .val (.int .i64 rt), .val (.int .i64 0), .val (.int .i64 0), .opt (.val (.pointer none))]) [] := cC
  have cS : kd = 0 → bm = 0 → BCall Try.prog 20 [.agg [.opt (.ref [.slc 6 N]), .val (.int .i64 rt), .val (.int .i64 0), .val (.int .i64 0), .opt (.val (.pointer none))], .val (.bool true)] [] (.slc 3 EV) [] := cS
  have hEl : ∀ k : Int, 0 ≤ k → k < std.len EV → ∃ a c w, EV.getD k.toNat .dead = .agg [.val (.int .i64 a), .val (.int .i64 c), w] ∧ (w = .slc 1 (lstOf w) ∨ w = .val (.slice none 0 0)) ∧ std.isB (lstOf w) := fun k h0 h1 => by
    rw [hEV] at h1 ⊢
    have h1 : k < ((evsA (spN (rootM (ofM ml)).n rt true)).length : Int) := h1
    rw [evs_len] at h1
    have hk : k.toNat < (spN (rootM (ofM ml)).n rt true).length := by omega
    rw [List.getD_eq_getElem?_getD, evsA, List.getElem?_map, List.getElem?_eq_getElem hk]
    show ∃ a c w, Ev.av _ = _ ∧ _
    generalize (spN (rootM (ofM ml)).n rt true)[k.toNat] = e
    unfold Ev.av
    split
    · exact ⟨_, _, _, rfl, .inl rfl, isB_bytesA _⟩
    · exact ⟨_, _, _, rfl, .inr rfl, fun x hx => by cases hx⟩
  have hDl : ∀ k : Int, 0 ≤ k → k < std.len D → ∃ a c e, D.getD k.toNat .dead = .agg [.val (.int .i64 a), .val (.int .i64 c), .val (.int .i64 e)] := fun k h0 h1 => by
    rw [hD] at h1 ⊢
    have h1 : k < ((dgsA (ofM ml).d).length : Int) := h1
    rw [show (dgsA (ofM ml).d).length = (ofM ml).d.length by simp [dgsA]] at h1
    have hk : k.toNat < (ofM ml).d.length := by omega
    rw [List.getD_eq_getElem?_getD, dgsA, List.getElem?_map, List.getElem?_eq_getElem hk]
    exact ⟨_, _, _, rfl⟩
  have hEn : std.len EV ≤ 9000000 := by
    rw [hEV]
    show ((evsA (spN (rootM (ofM ml)).n rt true)).length : Int) ≤ 9000000
    rw [evs_len]
    have h1 := sp_len hO.ar.wf (rt.toNat + 1) rt true (by omega) (by rw [hrt]; exact root_lt _) (by omega)
    have h2 := hO.c
    rw [← hrt] at h2
    omega
  have hDn : std.len D ≤ 9000000 := by
    rw [hD]
    show ((dgsA (ofM ml).d).length : Int) ≤ 9000000
    have := of_d ml hw (by rw [← hb]; omega)
    rw [show (dgsA (ofM ml).d).length = (ofM ml).d.length by simp [dgsA]]; omega
  clear hO hEV hD hO' hN hkd hbm
  obtain ⟨ne, hne⟩ : ∃ ne, ne = std.len EV := ⟨_, rfl⟩
  obtain ⟨nd, hnd⟩ : ∃ nd, nd = std.len D := ⟨_, rfl⟩
  refine bcall_of (cs := csPO wdA kd bm rt (bytesA b) (runesA ml) O N D EV) (ord := fun id => match id with | 11 =>  poO1 | 16 =>  poO2 | _ => .nil) tyOk (by kernel_rfl) Try.func5 rfl (enters_of Try.func5 (by kernel_rfl) rfl) (Nat.le_of_ble_eq_true rfl) (by kernel_rfl) (by kernel_rfl) ?_
  intro w0 g0
  generalize hp : std = p
  generalize hwd : wdA = wd
  generalize hSB : bytesA b = SB
  generalize hR : runesA ml = R
  generalize hL0 : runesA l = L0
  generalize hT : aexec p tys (csPO wd kd bm rt SB R O N D EV) _ _ _ _ = T
  cbv at hT
  subst hT
  simp only [Tree.ok, RoundOk, Bool.false_eq_true, Bool.true_eq_false, false_implies, true_implies, and_true, true_and]
  subst hp hwd hSB hR hL0
  refine loop_rule (cs := csPO wdA kd bm rt (bytesA b) (runesA ml) O N D EV) (ord := fun _ => .nil) tyOk (by kernel_rfl) (by kernel_rfl) (by kernel_rfl) (X := Int) (fun k => ⟨[(3, .row 0 0), (15, .slc 1 (runesA l)), (16, .val (.int .i64 n)), (17, .val (.int .i64 k))], [.row 21 1 false 0 (runesA (mR l k))]⟩) (fun k => 0 ≤ k ∧ k ≤ n) (fun k => (n - k).toNat) 0 ?_ ?_ ?_
  · have := hn.eq
    exact ⟨Int.le_refl 0, by omega⟩
  · refine ⟨[none], _, rfl, ?_⟩
    have e1 : runesA (mR l 0) = [] := rfl
    rw [e1]
    repeat first
      | exact trivial
      | refine ⟨rfl, ?_⟩
      | refine ⟨rfl, ?_⟩
      | refine ⟨congrArg (fun q => AV.val (.int .i64 q)) (rfl), ?_⟩
      | refine ⟨congrArg (fun q => AV.slc 1 q) (rfl), ?_⟩
      | refine ⟨congrArg (fun q => AV.slc 0 q) (rfl), ?_⟩
      | refine ⟨congrArg (fun q => AV.val (.bool q)) (rfl), ?_⟩
      | refine ⟨congrArg (fun q => AV.val (.int .i32 q)) (rfl), ?_⟩
      | refine ⟨congrArg (fun q => AV.val (.string q)) (rfl), ?_⟩
      | refine ⟨congrArg (fun q => AV.val (.int .i64 q)) hlen, ?_⟩
      | refine ⟨congrArg (fun q => AV.val (.int .i64 q)) (congrArg (fun q => AV.val (.int .i64 q)) hlen), ?_⟩
      | refine ⟨congrArg (fun q => AV.slc 1 q) (congrArg (fun q => AV.val (.int .i64 q)) hlen), ?_⟩
      | refine ⟨congrArg (fun q => AV.slc 0 q) (congrArg (fun q => AV.val (.int .i64 q)) hlen), ?_⟩
      | refine ⟨congrArg (fun q => AV.val (.bool q)) (congrArg (fun q => AV.val (.int .i64 q)) hlen), ?_⟩
      | refine ⟨congrArg (fun q => AV.val (.int .i32 q)) (congrArg (fun q => AV.val (.int .i64 q)) hlen), ?_⟩
      | refine ⟨congrArg (fun q => AV.val (.string q)) (congrArg (fun q => AV.val (.int .i64 q)) hlen), ?_⟩
  · rintro k ⟨hk0, hk1⟩
    have hk0 : 0 ≤ k := hk0
    have hk1 : k ≤ n := hk1
    generalize hp : std = p
    generalize hwd : wdA = wd
    generalize hSB : bytesA b = SB
    generalize hR : runesA ml = R
    generalize hL0 : runesA l = L0
    generalize hMA : runesA (mR l k) = MA
    generalize hT : aexec p tys (csPO wd kd bm rt SB R O N D EV) _ _ _ _ = T
    cbv at hT
    subst hT
    simp only [Tree.ok, RoundOk, Bool.false_eq_true, Bool.true_eq_false, false_implies, true_implies, and_true, true_and]
    subst hp hwd hSB hR hL0 hMA
    refine ⟨fun h => ?_, fun h => ?_⟩
    · have h : k < n := of_decide_eq_true h
      have hk : k.toNat < l.length := by have := hn.eq; omega
      obtain ⟨x, hx⟩ : ∃ x, x = std.int (std.nth (std.cel (std.at_ (runesA l) k)) 0) := ⟨_, rfl⟩
      have hat : (runesA l).getD k.toNat .dead = .val (.int .i32 l[k.toNat]) := by
        rw [List.getD_eq_getElem?_getD, runesA, List.getElem?_map, List.getElem?_eq_getElem hk]; rfl
      have eint : x = l[k.toNat] := by
        rw [hx]
        show intOf ((AV.cells ((runesA l).getD k.toNat .dead)).getD 0 .dead) = _
        rw [hat]; rfl
      have ehas : std.hasI .i32 (std.nth (std.cel (std.at_ (runesA l) k)) 0) := by
        show (AV.cells ((runesA l).getD k.toNat .dead)).getD 0 .dead = .val (.int .i32 (intOf ((AV.cells ((runesA l).getD k.toNat .dead)).getD 0 .dead)))
        rw [hat]; rfl
      have hk9 : std.inR .i64 (std.add k 1) := by
        show (-9223372036854775808 : Int) ≤ k + 1 ∧ k + 1 ≤ (9223372036854775807 : Int)
        omega
      have hmore := fun h1 h2 => mR_more (l := l) hk0 hk h1 h2
      have hsame := fun h1 => mR_same (l := l) hk0 hk h1
      rw [← eint] at hmore hsame
      have hin : std.inb k (std.len (runesA l)) := by
        show 0 ≤ k ∧ k < std.len (runesA l)
        rw [hlen]; omega
      have hml9 := mR_len l k
      refine ⟨hin, ⟨ehas, trivial⟩, fun h2 => ⟨cW _, fun h3 => ?_, fun h3 => ?_⟩, fun h2 => ?_⟩
      · have h2 : k < 200 := of_decide_eq_true h2
        have h3 : (0 : Int) < wdA (std.int (std.nth (std.cel (std.at_ (runesA l) k)) 0)) := of_decide_eq_true h3
        rw [← hx] at h3
        have e1 : std.app (runesA (mR l k)) [.val (.int .i32 x)] = runesA (mR l (k + 1)) := by
          rw [hmore h2 (by have h3 : (0 : Int) < (widthF x : Int) := h3; omega)]
          show runesA (mR l k) ++ _ = _
          simp [runesA]; rfl
        rw [hx] at e1
        refine ⟨?_, hk9, k + 1, ⟨by omega, by omega⟩, by omega, [some 0], _, rfl, ?_⟩
        · show (runesA (mR l k)).length + 1 ≤ 1000000000
          rw [runes_len]; omega
        · repeat first
            | exact trivial
            | refine ⟨rfl, ?_⟩
            | refine ⟨e1, ?_⟩
            | refine ⟨congrArg (fun q => AV.val (.int .i64 q)) (e1), ?_⟩
            | refine ⟨congrArg (fun q => AV.slc 1 q) (e1), ?_⟩
            | refine ⟨congrArg (fun q => AV.slc 0 q) (e1), ?_⟩
            | refine ⟨congrArg (fun q => AV.val (.bool q)) (e1), ?_⟩
            | refine ⟨congrArg (fun q => AV.val (.int .i32 q)) (e1), ?_⟩
            | refine ⟨congrArg (fun q => AV.val (.string q)) (e1), ?_⟩
            | refine ⟨rfl, ?_⟩
            | refine ⟨congrArg (fun q => AV.val (.int .i64 q)) (rfl), ?_⟩
            | refine ⟨congrArg (fun q => AV.slc 1 q) (rfl), ?_⟩
            | refine ⟨congrArg (fun q => AV.slc 0 q) (rfl), ?_⟩
            | refine ⟨congrArg (fun q => AV.val (.bool q)) (rfl), ?_⟩
            | refine ⟨congrArg (fun q => AV.val (.int .i32 q)) (rfl), ?_⟩
            | refine ⟨congrArg (fun q => AV.val (.string q)) (rfl), ?_⟩
      · have h3 : ¬ (0 : Int) < wdA (std.int (std.nth (std.cel (std.at_ (runesA l) k)) 0)) := of_decide_eq_false h3
        rw [← hx] at h3
        have e1 : runesA (mR l k) = runesA (mR l (k + 1)) := by
          rw [hsame (fun h9 => h3 (by have := h9.2; show (0 : Int) < (widthF x : Int); omega))]
        refine ⟨hk9, k + 1, ⟨by omega, by omega⟩, by omega, [some 0], _, rfl, ?_⟩
        repeat first
          | exact trivial
          | refine ⟨rfl, ?_⟩
          | refine ⟨e1, ?_⟩
          | refine ⟨congrArg (fun q => AV.val (.int .i64 q)) (e1), ?_⟩
          | refine ⟨congrArg (fun q => AV.slc 1 q) (e1), ?_⟩
          | refine ⟨congrArg (fun q => AV.slc 0 q) (e1), ?_⟩
          | refine ⟨congrArg (fun q => AV.val (.bool q)) (e1), ?_⟩
          | refine ⟨congrArg (fun q => AV.val (.int .i32 q)) (e1), ?_⟩
          | refine ⟨congrArg (fun q => AV.val (.string q)) (e1), ?_⟩
          | refine ⟨rfl, ?_⟩
          | refine ⟨congrArg (fun q => AV.val (.int .i64 q)) (rfl), ?_⟩
          | refine ⟨congrArg (fun q => AV.slc 1 q) (rfl), ?_⟩
          | refine ⟨congrArg (fun q => AV.slc 0 q) (rfl), ?_⟩
          | refine ⟨congrArg (fun q => AV.val (.bool q)) (rfl), ?_⟩
          | refine ⟨congrArg (fun q => AV.val (.int .i32 q)) (rfl), ?_⟩
          | refine ⟨congrArg (fun q => AV.val (.string q)) (rfl), ?_⟩
      · have h2 : ¬ k < 200 := of_decide_eq_false h2
        have e1 : runesA (mR l k) = runesA (mR l (k + 1)) := by
          rw [hsame (fun h9 => h2 h9.1)]
        refine ⟨hk9, k + 1, ⟨by omega, by omega⟩, by omega, [some 0], _, rfl, ?_⟩
        repeat first
          | exact trivial
          | refine ⟨rfl, ?_⟩
          | refine ⟨e1, ?_⟩
          | refine ⟨congrArg (fun q => AV.val (.int .i64 q)) (e1), ?_⟩
          | refine ⟨congrArg (fun q => AV.slc 1 q) (e1), ?_⟩
          | refine ⟨congrArg (fun q => AV.slc 0 q) (e1), ?_⟩
          | refine ⟨congrArg (fun q => AV.val (.bool q)) (e1), ?_⟩
          | refine ⟨congrArg (fun q => AV.val (.int .i32 q)) (e1), ?_⟩
          | refine ⟨congrArg (fun q => AV.val (.string q)) (e1), ?_⟩
          | refine ⟨rfl, ?_⟩
          | refine ⟨congrArg (fun q => AV.val (.int .i64 q)) (rfl), ?_⟩
          | refine ⟨congrArg (fun q => AV.slc 1 q) (rfl), ?_⟩
          | refine ⟨congrArg (fun q => AV.slc 0 q) (rfl), ?_⟩
          | refine ⟨congrArg (fun q => AV.val (.bool q)) (rfl), ?_⟩
          | refine ⟨congrArg (fun q => AV.val (.int .i32 q)) (rfl), ?_⟩
          | refine ⟨congrArg (fun q => AV.val (.string q)) (rfl), ?_⟩
    · have h : ¬ k < n := of_decide_eq_false h
      have hkn : k = n := by omega
      have hma : runesA (mR l k) = runesA ml := by rw [hml, hkn]
      rw [hma, if_pos trivial]
      generalize hp : std = p
      generalize hwd : wdA = wd
      generalize hSB : bytesA b = SB
      generalize hR : runesA ml = R
      generalize hT : aexec p tys (csPO wd kd bm rt SB R O N D EV) _ _ _ _ = T
      cbv at hT
      subst hT
      simp only [Tree.ok, RoundOk, Bool.false_eq_true, Bool.true_eq_false, false_implies, true_implies, and_true, true_and]
      subst hp hwd hSB hR
      have hSS : std.eqS (std.strB (bytesA b)) (std.strB (bytesA b)) = true := eqS_self _
      have hF1 : std.notB (std.eqS (std.strB (bytesA b)) (std.strB (bytesA b))) = false := congrArg (fun q => !q) hSS
      have hF2 : std.notB (std.eqI (std.len EV) (std.len EV)) = false := congrArg (fun q => !q) (show (std.len EV == std.len EV) = true from beq_self_eq_true _)
      have hF3 : std.notB (std.eqI (std.len D) (std.len D)) = false := congrArg (fun q => !q) (show (std.len D == std.len D) = true from beq_self_eq_true _)
      have hnI : ∀ a : Int, std.notB (std.eqI a a) = false := fun a => congrArg (fun q => !q) (show (a == a) = true from beq_self_eq_true _)
      have hnS : ∀ a : ByteArray, std.notB (std.eqS a a) = false := fun a => congrArg (fun q => !q) (eqS_self a)
      have hn3 : ∀ a b c : Int, std.notB (std.andB (std.eqI a a) (std.andB (std.eqI b b) (std.andB (std.eqI c c) true))) = false := fun a b c => by simp [std]
      have hz0 : ∀ z : Int, std.notB (std.eqI z 0) = false → z = 0 := fun z h9 => by simpa [std] using h9
      have hne0 : 0 ≤ ne := by rw [hne]; show (0 : Int) ≤ (EV.length : Int); omega
      have hnd0 : 0 ≤ nd := by rw [hnd]; show (0 : Int) ≤ (D.length : Int); omega
      repeat' first
        | (with_reducible apply And.intro)
        | (with_reducible intro hh)
      all_goals try first
        | exact cRB
        | exact cKi
        | exact cO
        | exact cPr
        | exact cC
        | exact cA
        | exact isB_bytesA _
        | exact absurd (hSS.symm.trans hh) (by decide)
        | exact absurd hh (by decide)
        | exact .pure rfl (.inl rfl)
      all_goals try first
        | exact cP (hz0 kd (by assumption)) (hz0 bm (by assumption))
        | exact cS (hz0 kd (by assumption)) (hz0 bm (by assumption))
        | exact absurd (hF1.symm.trans hh) (by decide)
        | exact absurd (hF2.symm.trans hh) (by decide)
        | exact absurd (hF3.symm.trans hh) (by decide)
      all_goals
        skip
        refine loop_rule (cs := csPO wdA kd bm rt (bytesA b) (runesA ml) O N D EV) (ord := fun _ => .nil) tyOk (by kernel_rfl) (by kernel_rfl) (by kernel_rfl) (X := Int) (fun k => ⟨[(9, .box 1 0), (10, .box 2 0), (11, .slc 3 EV), (12, .slc 3 EV), (91, .val (.int .i64 ne)), (92, .val (.int .i64 k))], [.row 21 1 true 0 (runesA ml), .box [.val (.int .i64 0), .val (.int .i64 0), .slc 1 (runesA ml), .slc 1 O, .ref [.slc 6 N], .val (.int .i64 rt), .slc 3 D], .box [.val (.int .i64 0), .val (.int .i64 0), .slc 1 (runesA ml), .slc 1 O, .ref [.slc 6 N], .val (.int .i64 rt), .slc 3 D]]⟩) (fun k => 0 ≤ k ∧ k ≤ ne) (fun k => (ne - k).toNat) 0 ?_ ?_ ?_
        · exact ⟨Int.le_refl 0, hne0⟩
        · refine ⟨[some 0, some 1, some 2], _, rfl, ?_⟩
          repeat first
            | exact trivial
            | refine ⟨rfl, ?_⟩
            | refine ⟨rfl, ?_⟩
            | refine ⟨congrArg (fun q => AV.val (.int .i64 q)) (rfl), ?_⟩
            | refine ⟨congrArg (fun q => AV.slc 1 q) (rfl), ?_⟩
            | refine ⟨congrArg (fun q => AV.slc 0 q) (rfl), ?_⟩
            | refine ⟨congrArg (fun q => AV.val (.bool q)) (rfl), ?_⟩
            | refine ⟨congrArg (fun q => AV.val (.int .i32 q)) (rfl), ?_⟩
            | refine ⟨congrArg (fun q => AV.val (.string q)) (rfl), ?_⟩
            | refine ⟨congrArg (fun q => AV.val (.int .i64 q)) hne.symm, ?_⟩
            | refine ⟨congrArg (fun q => AV.val (.int .i64 q)) (congrArg (fun q => AV.val (.int .i64 q)) hne.symm), ?_⟩
            | refine ⟨congrArg (fun q => AV.slc 1 q) (congrArg (fun q => AV.val (.int .i64 q)) hne.symm), ?_⟩
            | refine ⟨congrArg (fun q => AV.slc 0 q) (congrArg (fun q => AV.val (.int .i64 q)) hne.symm), ?_⟩
            | refine ⟨congrArg (fun q => AV.val (.bool q)) (congrArg (fun q => AV.val (.int .i64 q)) hne.symm), ?_⟩
            | refine ⟨congrArg (fun q => AV.val (.int .i32 q)) (congrArg (fun q => AV.val (.int .i64 q)) hne.symm), ?_⟩
            | refine ⟨congrArg (fun q => AV.val (.string q)) (congrArg (fun q => AV.val (.int .i64 q)) hne.symm), ?_⟩
        · rintro k ⟨hk0, hk1⟩
          have hk0 : 0 ≤ k := hk0
          have hk1 : k ≤ ne := hk1
          generalize hp : std = p
          generalize hwd : wdA = wd
          generalize hSB : bytesA b = SB
          generalize hR : runesA ml = R
          generalize hT : aexec p tys (csPO wd kd bm rt SB R O N D EV) _ _ _ _ = T
          cbv at hT
          subst hT
          simp only [Tree.ok, RoundOk, Bool.false_eq_true, Bool.true_eq_false, false_implies, true_implies, and_true, true_and]
          subst hp hwd hSB hR
          refine ⟨fun h => ?_, fun h => ?_⟩
          · have h : k < ne := of_decide_eq_true h
            have hin : std.inb k (std.len EV) := by
              show 0 ≤ k ∧ k < std.len EV
              rw [← hne]; exact ⟨hk0, h⟩
            obtain ⟨ea, ec, ew, he1, he2, he3⟩ := hEl k hk0 hin.2
            have hI0 : std.hasI .i64 (std.nth (std.drp (std.cel (std.at_ EV k)) 0) 0) := by
              show ((AV.cells (EV.getD k.toNat .dead)).drop 0).getD 0 .dead = .val (.int .i64 (intOf (((AV.cells (EV.getD k.toNat .dead)).drop 0).getD 0 .dead)))
              rw [he1]; rfl
            have hI1 : std.hasI .i64 (std.nth (std.drp (std.cel (std.at_ EV k)) 1) 0) := by
              show ((AV.cells (EV.getD k.toNat .dead)).drop 1).getD 0 .dead = .val (.int .i64 (intOf (((AV.cells (EV.getD k.toNat .dead)).drop 1).getD 0 .dead)))
              rw [he1]; rfl
            have hw2 : std.nth (std.drp (std.cel (std.at_ EV k)) 2) 0 = ew := by
              show ((AV.cells (EV.getD k.toNat .dead)).drop 2).getD 0 .dead = ew
              rw [he1]; rfl
            have hI2 : std.hasL 1 (std.nth (std.drp (std.cel (std.at_ EV k)) 2) 0) := by rw [hw2]; exact he2
            have hB2 : std.isB (std.lst (std.nth (std.drp (std.cel (std.at_ EV k)) 2) 0)) := by rw [hw2]; exact he3
            have hk9 : std.inR .i64 (std.add k 1) := by
              show (-9223372036854775808 : Int) ≤ k + 1 ∧ k + 1 ≤ (9223372036854775807 : Int)
              omega
            clear hEl hDl he1 he2 he3 hw2
            repeat' first
              | (with_reducible apply And.intro)
              | (with_reducible intro hh)
            all_goals first
              | exact hin
              | exact ⟨hI0, trivial⟩
              | exact ⟨hI1, trivial⟩
              | exact ⟨hI2, trivial⟩
              | exact hB2
              | exact hk9
              | exact absurd ((hnI _).symm.trans hh) (by decide)
              | exact absurd ((hnS _).symm.trans hh) (by decide)
              | (refine ⟨k + 1, ⟨by omega, by omega⟩, by omega, [some 0, some 1, some 2], _, rfl, ?_⟩
                 repeat first | exact trivial | refine ⟨rfl, ?_⟩)
          · have h : ¬ k < ne := of_decide_eq_false h
            rw [if_pos trivial]
            generalize hp : std = p
            generalize hwd : wdA = wd
            generalize hSB : bytesA b = SB
            generalize hR : runesA ml = R
            generalize hT : aexec p tys (csPO wd kd bm rt SB R O N D EV) _ _ _ _ = T
            cbv at hT
            subst hT
            simp only [Tree.ok, RoundOk, Bool.false_eq_true, Bool.true_eq_false, false_implies, true_implies, and_true, true_and]
            subst hp hwd hSB hR
            refine loop_rule (cs := csPO wdA kd bm rt (bytesA b) (runesA ml) O N D EV) (ord := fun _ => .nil) tyOk (by kernel_rfl) (by kernel_rfl) (by kernel_rfl) (X := Int) (fun k => ⟨[(9, .box 1 0), (10, .box 2 0), (137, .val (.int .i64 nd)), (138, .val (.int .i64 k))], [.row 21 1 true 0 (runesA ml), .box [.val (.int .i64 0), .val (.int .i64 0), .slc 1 (runesA ml), .slc 1 O, .ref [.slc 6 N], .val (.int .i64 rt), .slc 3 D], .box [.val (.int .i64 0), .val (.int .i64 0), .slc 1 (runesA ml), .slc 1 O, .ref [.slc 6 N], .val (.int .i64 rt), .slc 3 D]]⟩) (fun k => 0 ≤ k ∧ k ≤ nd) (fun k => (nd - k).toNat) 0 ?_ ?_ ?_
            · exact ⟨Int.le_refl 0, hnd0⟩
            · refine ⟨[some 0, some 1, some 2], _, rfl, ?_⟩
              repeat first
                | exact trivial
                | refine ⟨rfl, ?_⟩
                | refine ⟨rfl, ?_⟩
                | refine ⟨congrArg (fun q => AV.val (.int .i64 q)) (rfl), ?_⟩
                | refine ⟨congrArg (fun q => AV.slc 1 q) (rfl), ?_⟩
                | refine ⟨congrArg (fun q => AV.slc 0 q) (rfl), ?_⟩
                | refine ⟨congrArg (fun q => AV.val (.bool q)) (rfl), ?_⟩
                | refine ⟨congrArg (fun q => AV.val (.int .i32 q)) (rfl), ?_⟩
                | refine ⟨congrArg (fun q => AV.val (.string q)) (rfl), ?_⟩
                | refine ⟨congrArg (fun q => AV.val (.int .i64 q)) hnd.symm, ?_⟩
                | refine ⟨congrArg (fun q => AV.val (.int .i64 q)) (congrArg (fun q => AV.val (.int .i64 q)) hnd.symm), ?_⟩
                | refine ⟨congrArg (fun q => AV.slc 1 q) (congrArg (fun q => AV.val (.int .i64 q)) hnd.symm), ?_⟩
                | refine ⟨congrArg (fun q => AV.slc 0 q) (congrArg (fun q => AV.val (.int .i64 q)) hnd.symm), ?_⟩
                | refine ⟨congrArg (fun q => AV.val (.bool q)) (congrArg (fun q => AV.val (.int .i64 q)) hnd.symm), ?_⟩
                | refine ⟨congrArg (fun q => AV.val (.int .i32 q)) (congrArg (fun q => AV.val (.int .i64 q)) hnd.symm), ?_⟩
                | refine ⟨congrArg (fun q => AV.val (.string q)) (congrArg (fun q => AV.val (.int .i64 q)) hnd.symm), ?_⟩
            · rintro j ⟨hj0, hj1⟩
              have hj0 : 0 ≤ j := hj0
              have hj1 : j ≤ nd := hj1
              generalize hp : std = p
              generalize hwd : wdA = wd
              generalize hSB : bytesA b = SB
              generalize hR : runesA ml = R
              generalize hT : aexec p tys (csPO wd kd bm rt SB R O N D EV) _ _ _ _ = T
              cbv at hT
              subst hT
              simp only [Tree.ok, RoundOk, Bool.false_eq_true, Bool.true_eq_false, false_implies, true_implies, and_true, true_and]
              subst hp hwd hSB hR
              refine ⟨fun h => ?_, fun h => ?_⟩
              · have h : j < nd := of_decide_eq_true h
                have hin : std.inb j (std.len D) := by
                  show 0 ≤ j ∧ j < std.len D
                  rw [← hnd]; exact ⟨hj0, h⟩
                obtain ⟨da, dc, de, he1⟩ := hDl j hj0 hin.2
                have hk9 : std.inR .i64 (std.add j 1) := by
                  show (-9223372036854775808 : Int) ≤ j + 1 ∧ j + 1 ≤ (9223372036854775807 : Int)
                  omega
                clear hEl hDl
                have hA : ∀ i : Nat, i < 3 → std.hasI .i64 (std.nth (std.cel (std.at_ D j)) i) := fun i hi => by
                  show (AV.cells (D.getD j.toNat .dead)).getD i .dead = .val (.int .i64 (intOf ((AV.cells (D.getD j.toNat .dead)).getD i .dead)))
                  rw [he1]
                  match i, hi with
                  | 0, _ => rfl
                  | 1, _ => rfl
                  | 2, _ => rfl
                have hA3 : std.hasI .i64 (std.nth (std.cel (std.at_ D j)) 0) ∧ std.hasI .i64 (std.nth (std.cel (std.at_ D j)) 1) ∧ std.hasI .i64 (std.nth (std.cel (std.at_ D j)) 2) ∧ True := ⟨hA 0 (by omega), hA 1 (by omega), hA 2 (by omega), trivial⟩
                refine ⟨hin, hA3, hin, hA3, eqDiag, fun hh => absurd ((hn3 _ _ _).symm.trans hh) (by decide), fun _ => ⟨hk9, j + 1, ⟨by omega, by omega⟩, by omega, [some 0, some 1, some 2], _, rfl, ?_⟩⟩
                repeat first | exact trivial | refine ⟨rfl, ?_⟩
              · have h : ¬ j < nd := of_decide_eq_false h
                rw [if_pos trivial]
                generalize hp : std = p
                generalize hwd : wdA = wd
                generalize hSB : bytesA b = SB
                generalize hR : runesA ml = R
                generalize hT : aexec p tys (csPO wd kd bm rt SB R O N D EV) _ _ _ _ = T
                cbv at hT
                subst hT
                simp only [Tree.ok, RoundOk, Bool.false_eq_true, Bool.true_eq_false, false_implies, true_implies, and_true, true_and]
                subst hp hwd hSB hR
                exact ⟨cA, .pure rfl (.inl rfl)⟩
end Go.Proofs.Ytblafdmmebiagaa
