/-
  Parts of the proof, joined: ClE. Conditions: as each theorem says.
-/
import Derived.Test.YtblafdmmebiagaaQD28
namespace Go.Proofs.Ytblafdmmebiagaa
open Go.RowKit Go.Lib
def csCl (K M rt : Int) (R O N D SB WA : List AV) (kd : Int → Int) (ks : Int → List AV) (nm : Int → ByteArray) : Nat → List AV → List Ob → Option (AV × List Ob) := fun f args _ => match f, args with
  | 7, [.slc 1 _] => some (.slc 1 SB, [])
  | 8, [.slc 1 _] => some (.agg [.val (.int .i64 K), .val (.int .i64 M), .slc 1 R, .slc 1 O, .ref [.slc 6 N], .val (.int .i64 rt), .slc 3 D], [])
  | 12, [.agg _] => some (.agg [.opt (.ref [.slc 6 N]), .val (.int .i64 rt), .val (.int .i64 0), .val (.int .i64 0), .opt (.val (.pointer none))], [])
  | 13, [.agg _, .val (.int .i64 _)] => some (.slc 5 WA, [])
  | 21, [.agg [_, .val (.int .i64 n), _, _, _]] => some (.val (.int .i64 (kd n)), [])
  | 23, [.agg [_, .val (.int .i64 n), _, _, _]] => some (.val (.int .i64 n), [])
  | 22, [.ref [.slc 6 _], .val (.int .i64 n)] => some (.slc 1 (ks n), [])
  | 24, [.ref [.slc 6 _], .val (.int .i64 n)] => some (.val (.int .i64 (kd n)), [])
  | 25, [.agg _, .val (.int .i64 n)] => some (.val (.string (nm n)), [])
  | 11, [] => some (.val (.bool true), [])
  | _, _ => none
def o8 : OT := .then [0, 2] (.fork (.of [1, 3, 4, 5]) (.of [3, 1, 4, 5]))
def o10 : OT := .then [0, 1, 2, 3, 4, 5, 6, 7, 8, 9, 10, 11] (.fork (.of [12, 13, 14, 15, 16, 17]) (.then [13] (.fork (.of [12, 14, 15, 16, 17]) (.of [14, 12, 15, 16, 17]))))
def o17 : OT := .then [0, 1, 2, 3, 4, 7, 8] (.fork (.then [5] (.fork (.of [6, 9, 10, 11]) (.of [9, 6, 10, 11]))) (.fork (.then [6] (.fork (.of [5, 9, 10, 11]) (.of [9, 5, 10, 11]))) (.then [9] (.fork (.of [5, 6, 10, 11]) (.of [6, 5, 10, 11])))))
theorem CKind_el (l : List Node) (c : Cur) : BCall Try.prog 21 [.agg (c.el (nodesA l))] [] (.val (.int .i64 (kindN l c.n))) [] :=
  (CKind_b l c).le (args := [.agg (c.el (nodesA l))]) ⟨⟨.inr (.inr (.inr rfl)), .inl rfl, .inl rfl, .inl rfl, .inl rfl, trivial⟩, trivial⟩
set_option maxRecDepth 20000 in
set_option maxHeartbeats 4000000 in
theorem Closed_b (b0 : List UInt8) : BCall Try.prog 6 [.slc 1 (bytesA b0)] [] (.val (.bool true)) [] := by
  have cS := Short_b b0
  obtain ⟨b, hb⟩ : ∃ b, b = b0.take 400 := ⟨_, rfl⟩
  have hl : b.length ≤ 400 := by rw [hb, List.length_take]; omega
  rw [← hb] at cS
  have hO := parse_ok b (by omega)
  have hN := parse_nodes b
  have cP := Parse_b b (by omega)
  have cC := (TCursor_b (textF' b) (parseM b)).res (res' := .agg ((Cur.root (parseM b).n.length).el (nodesA (rootM (parseM b)).n))) ⟨.inr (.inr (.inl ⟨rfl, trivial⟩)), .inl rfl, .inl rfl, .inl rfl, .inl rfl, trivial⟩
  have cW := Walk_b (rootM (parseM b)).n b.length 400000 hO.ar (by omega) (by omega) (.root (parseM b).n.length) hO.root 1000 (by omega)
  have hAt : CurB (rootM (parseM b)).n b 400000 (.root (parseM b).n.length) := ⟨hO.root, [], [], by show b = [] ++ (pr (rootM (parseM b)).n (parseM b).n.length ++ []); rw [hO.p]; simp, rfl⟩
  have hAll := walk_all hO.ar hN hAt 1000
  have hEl : ∀ x ∈ walkF (rootM (parseM b)).n (.root (parseM b).n.length) 1000, kindN (rootM (parseM b)).n x.n = 21 → ∃ k0 r kl, ElF (treeA (textF' b) (parseM b)) (rootM (parseM b)).n (nmF (textF' b).kind (rootM (parseM b)).n) x.n k0 r kl := fun x hx hk => closed_el b hl (hAll x hx) hk
  have hTo := walk_told b hl
  have har := hO.ar
  have hdn : ((parseM b).d.length : Int) ≤ 1000000000 := by
    have h1 := (inv_all (text_ok b).1 (text_sml b (by omega)).hr (first_inv b)).1.i.d
    have h2 := (text_ok b).2.2.1
    have h1 : (parseM b).d.length + 2 * (parseM b).s.length ≤ 2 + 3 * (textF' b).r.length := h1
    omega
  have cA := awake_b
  generalize nmF (textF' b).kind (rootM (parseM b)).n = nm at hEl
  generalize parseM b = m at cP cC cW hAll hdn har hEl hTo
  generalize textF' b = t at cP cC hEl
  obtain ⟨rt, hrt⟩ : ∃ rt : Int, rt = m.n.length := ⟨_, rfl⟩
  unfold treeA at cP cC hEl
  simp only [Cur.el] at cC cW
  rw [← hrt] at cP cC cW hAll hEl hTo
  have hwn : (walkF (rootM m).n (.root rt) 1000).length ≤ 1000 := walkGo_len _ _ _
  generalize walkF (rootM m).n (.root rt) 1000 = ws at cW hAll hwn hEl hTo
  generalize (rootM m).n = l at cP cC cW hAll har hEl hTo
  generalize m.d = ds at cP cC hdn hEl hTo
  generalize t.kind = K at cP cC hEl
  generalize t.bom = M at cP cC hEl
  generalize runesA t.r = R at cP cC hEl
  generalize intsA t.off = O at cP cC hEl
  clear hO hN hAt hb hrt
  obtain ⟨nb, hnb⟩ := exLen b
  have hdn : ds.length ≤ 1000000000 := by omega
  have hblen : std.len (bytesA b) = nb := by show ((bytesA b).length : Int) = nb; rw [bytes_len, hnb.eq]
  obtain ⟨nw, hnw⟩ := exLen ws
  have hwl : std.len (cursA (nodesA l) ws) = nw := by show ((cursA (nodesA l) ws).length : Int) = nw; rw [curs_len, hnw.eq]
  obtain ⟨nd, hnd⟩ := exLen ds
  have hdl : std.len (dgsA ds) = nd := by show ((dgsA ds).length : Int) = nd; rw [dgs_len, hnd.eq]
  refine bcall_of (cs := csCl K M rt R O (nodesA l) (dgsA ds) (bytesA b) (cursA (nodesA l) ws) (kindN l) (kidsN l) nm) (ord := fun id => match id with | 8 =>  o8 | 10 =>  o10 | 17 =>  o17 | _ => .nil) tyOk (by kernel_rfl) Try.func6 rfl (enters_of Try.func6 (by kernel_rfl) rfl) (Nat.le_of_ble_eq_true rfl) (by kernel_rfl) (by kernel_rfl) ?_
  intro w0 g0
  generalize hp : std = p
  generalize hkd : kindN l = kd
  generalize hks : kidsN l = ks
  generalize hWA : cursA (nodesA l) ws = WA
  generalize hN : nodesA l = N
  generalize hD : dgsA ds = D
  generalize hSB : bytesA b = SB
  generalize hB0 : bytesA b0 = B0
  generalize hT : aexec p tys (csCl K M rt R O N D SB WA kd ks nm) _ _ _ _ = T
  cbv at hT
  subst hT
  simp only [Tree.ok, RoundOk, Bool.false_eq_true, Bool.true_eq_false, false_implies, true_implies, and_true, true_and]
  subst hp hkd hks hWA hN hD hSB hB0
  refine ⟨cS, cP, cC, cW, ?_⟩
  refine loop_rule (cs := csCl K M rt R O (nodesA l) (dgsA ds) (bytesA b) (cursA (nodesA l) ws) (kindN l) (kidsN l) nm) (ord := fun id => match id with | 8 =>  o8 | 10 =>  o10 | 17 =>  o17 | _ => .nil) tyOk (by kernel_rfl) (by kernel_rfl) (by kernel_rfl) (X := Int × Int) (fun x => ⟨[(0, .slc 1 (bytesA b)), (3, .box 0 0), (4, .val (.int .i64 x.2)), (18, .slc 5 (cursA (nodesA l) ws)), (19, .val (.int .i64 nw)), (20, .val (.int .i64 x.1))], [.box [.val (.int .i64 K), .val (.int .i64 M), .slc 1 R, .slc 1 O, .ref [.slc 6 (nodesA l)], .val (.int .i64 rt), .slc 3 (dgsA ds)]]⟩) (fun x => (0 ≤ x.1 ∧ x.1 ≤ nw) ∧ Len ((ws.take x.1.toNat).filter (isM l)) x.2) (fun x => (nw - x.1).toNat) (0, 0) ?_ ?_ ?_
  · exact ⟨⟨Int.le_refl _, by have := hnw.eq; omega⟩, rfl⟩
  · refine ⟨[some 0], _, rfl, ?_⟩
    repeat first
      | exact trivial
      | refine ⟨rfl, ?_⟩
      | refine ⟨hwl, ?_⟩
      | refine ⟨congrArg (fun q => AV.val (.int .i64 q)) (hwl), ?_⟩
      | refine ⟨congrArg (fun q => AV.slc 1 q) (hwl), ?_⟩
      | refine ⟨congrArg (fun q => AV.slc 0 q) (hwl), ?_⟩
      | refine ⟨congrArg (fun q => AV.val (.bool q)) (hwl), ?_⟩
      | refine ⟨congrArg (fun q => AV.val (.int .i32 q)) (hwl), ?_⟩
      | refine ⟨congrArg (fun q => AV.val (.string q)) (hwl), ?_⟩
  · rintro ⟨i, ms⟩ ⟨⟨hi0, hi1⟩, hms⟩
    simp only at hi0 hi1 hms ⊢
    rcases Int.lt_or_eq_of_le hi1 with hlt | heq
    · have hil : i.toNat < ws.length := by have := hnw.eq; omega
      obtain ⟨x, hx⟩ : ∃ x, x = ws[i.toNat] := ⟨_, rfl⟩
      have hxm : x ∈ ws := by rw [hx]; exact List.getElem_mem hil
      have hat : (cursA (nodesA l) ws).getD i.toNat .dead = .agg (x.el (nodesA l)) := by
        rw [List.getD_eq_getElem?_getD, cursA, List.getElem?_map, List.getElem?_eq_getElem hil, hx]; rfl
      have hfl : (ws.take (i + 1).toNat).filter (isM l) = (ws.take i.toNat).filter (isM l) ++ (if isM l x then [x] else []) := by
        rw [show (i + 1).toNat = i.toNat + 1 by omega, List.take_succ_eq_append_getElem hil, List.filter_append, ← hx]
        congr 1
        simp only [List.filter_cons, List.filter_nil]
      obtain ⟨hxi, hxa⟩ := hAll x hxm
      have cKd := CKind_el l x
      have hUx : isPtr (.opt (upO (nodesA l) x)) := upO_ptr _ _
      have hnw2 : nw ≤ 1000 := by have := hnw.eq; omega
      have hms2 : ms ≤ i := by
        have h1 := hms.eq
        have h2 := List.length_filter_le (isM l) (ws.take i.toNat)
        rw [List.length_take] at h2
        omega
      have hms0 : 0 ≤ ms := by have := hms.eq; omega
      have hwl2 : ((cursA (nodesA l) ws).length : Int) = nw := hwl
      simp only [Cur.el] at cKd
      by_cases h21 : kindN l x.n = 21
      · obtain ⟨k0, r, kl, hF⟩ := hEl x hxm h21
        clear hEl hTo
        have hkids : (nodeAt l x.n).kids = k0 :: (r ++ [kl]) := hF.k
        have hkn := hxi.cos har
        have hkl := coL_len l (kidsAt l x)
        have cKs := Kids_b l x.n (by show (kidsAt l x).length ≤ 1000000000; omega)
        have cNo := Node_b l x
        simp only [Cur.el] at cNo
        have cK0 := Kind_b l k0
        rw [show (nodeAt l k0).kind = 8 from hF.s] at cK0
        have cKl := Kind_b l kl
        obtain ⟨nk, hnk⟩ := exLen (nodeAt l x.n).kids
        have hnk3 : nk ≤ 400000 := by have := hnk.eq; have : (nodeAt l x.n).kids.length ≤ 400000 := by { show (kidsAt l x).length ≤ _; omega }; omega
        have hnk2 : 2 ≤ nk := by have := hnk.eq; rw [hkids] at this; simp only [List.length_cons, List.length_append, List.length_nil] at this; omega
        have hkL : ((kidsN l x.n).length : Int) = nk := by show ((intsA (nodeAt l x.n).kids).length : Int) = nk; rw [ints_len, hnk.eq]
        have hkA0 : (kidsN l x.n).getD (0 : Int).toNat .dead = .val (.int .i64 k0) := by
          show (intsA (nodeAt l x.n).kids).getD 0 .dead = _
          rw [hkids]; rfl
        have hkAl : (kidsN l x.n).getD (nk - 1).toNat .dead = .val (.int .i64 kl) := by
          show (intsA (nodeAt l x.n).kids).getD (nk - 1).toNat .dead = _
          have h1 := hnk.eq
          rw [hkids] at h1 ⊢
          simp only [List.length_cons, List.length_append, List.length_nil] at h1
          rw [show (nk - 1).toNat = r.length + 1 by omega, List.getD_eq_getElem?_getD, intsA, List.getElem?_map]
          simp
          rfl
        have hkA1 : (kidsN l x.n).getD 0 .dead = .val (.int .i64 k0) := hkA0
        have hlast : (nodeAt l x.n).kids.getLast?.getD (-1) = kl := by
          rw [hkids, show k0 :: (r ++ [kl]) = (k0 :: r) ++ [kl] from rfl, List.getLast?_concat]; rfl
        have hisM : isM l x = decide (kindN l kl = 22) := by
          show (decide ((nodeAt l x.n).kind = 21) && decide (kindN l ((nodeAt l x.n).kids.getLast?.getD (-1)) = 22)) = _
          rw [decide_eq_true (show (nodeAt l x.n).kind = 21 from h21), hlast]; rfl
        have cN := hF.c
        have cN0 := hF.c0
        have hne : std.eqS (nm x.n) ⟨#[]⟩ = false := by
          have := hF.ne
          rw [hF.q]
          show ((nm k0).toList == (⟨#[]⟩ : ByteArray).toList) = false
          refine beq_false_of_ne fun h => this ?_
          have h2 : (nm k0).data.toList = [] := by simpa [ByteArray.toList_eq] using h
          simpa using congrArg List.length h2
        rcases hF.e with h22 | ⟨h10, hnn, cN1⟩
        · rw [hisM, decide_eq_true h22] at hfl
          have hms' : Len ((ws.take (i + 1).toNat).filter (isM l)) (ms + 1) := by
            have := hms.eq
            rw [hfl, if_pos rfl]
            show ms + 1 = _
            rw [List.length_append, List.length_singleton]; omega
          rw [show (nodeAt l kl).kind = 22 from h22] at cKl
          clear hil hx hfl hms hkids hkn hkl hnk hlast hisM
          generalize hp : std = p
          generalize hkd : kindN l = kd
          generalize hks : kidsN l = ks
          generalize hWA : cursA (nodesA l) ws = WA
          generalize hN : nodesA l = N
          generalize hD : dgsA ds = D
          generalize hSB : bytesA b = SB
          generalize hT : aexec p tys (csCl K M rt R O N D SB WA kd ks nm) _ _ _ _ = T
          cbv at hT
          subst hT
          simp only [Tree.ok, RoundOk, Bool.false_eq_true, Bool.true_eq_false, false_implies, true_implies, and_true, true_and]
          subst hp hkd hks hWA hN hD hSB
          have hne2 := hne
          have hkx : kindN l x.n = 21 := h21
          have hkk0 : kindN l k0 = 8 := hF.s
          rw [h21] at cKd
          have cN1 := cN
          simp only [std] at hne2
          simp only [std, hat, hkA0, hkA1, hkAl, hkL, hkx, hkk0, h22, Cur.el, AV.cells, List.getD_cons_zero, List.getD_cons_succ, intOf, unoA, allP, hwl2, decide_eq_true_eq, decide_eq_false_iff_not, beq_self_eq_true, Bool.not_true, Bool.not_false, Bool.false_eq_true, Bool.true_eq_false, false_implies, true_implies, and_true]
          repeat' first
            | (with_reducible apply And.intro)
            | (with_reducible intro hh)
          all_goals first
            | exact cKd
            | exact cNo
            | exact cKs
            | exact cK0
            | exact cKl
            | exact cN
            | exact cN0
            | exact cN1
            | exact hUx
            | trivial
            | (exfalso; omega)
            | exact absurd (show (false : Bool) = true from hne2 ▸ hh) (by decide)
            | exact absurd hh (by decide)
            | (show (-9223372036854775808 : Int) ≤ _; omega)
            | (show _ ≤ (9223372036854775807 : Int); omega)
            | omega
            | skip
          all_goals
            refine ⟨(i + 1, ms + 1), ⟨⟨?_, ?_⟩, hms'⟩, ?_, [some 0], _, rfl, ?_⟩
            · show 0 ≤ i + 1
              omega
            · show i + 1 ≤ nw
              omega
            · show (nw - (i + 1)).toNat < (nw - i).toNat
              omega
            repeat first
              | exact trivial
              | refine ⟨rfl, ?_⟩
              | refine ⟨hwl, ?_⟩
              | refine ⟨congrArg (fun q => AV.val (.int .i64 q)) (hwl), ?_⟩
              | refine ⟨congrArg (fun q => AV.slc 1 q) (hwl), ?_⟩
              | refine ⟨congrArg (fun q => AV.slc 0 q) (hwl), ?_⟩
              | refine ⟨congrArg (fun q => AV.val (.bool q)) (hwl), ?_⟩
              | refine ⟨congrArg (fun q => AV.val (.int .i32 q)) (hwl), ?_⟩
              | refine ⟨congrArg (fun q => AV.val (.string q)) (hwl), ?_⟩
        · rw [hisM, decide_eq_false (by rw [h10]; decide)] at hfl
          have hms' : Len ((ws.take (i + 1).toNat).filter (isM l)) ms := by rw [hfl]; simpa using hms
          rw [show (nodeAt l kl).kind = 10 from h10] at cKl
          rw [hnn] at cN1
          clear hil hx hfl hms hkids hkn hkl hnk hlast hisM
          generalize hp : std = p
          generalize hkd : kindN l = kd
          generalize hks : kidsN l = ks
          generalize hWA : cursA (nodesA l) ws = WA
          generalize hN : nodesA l = N
          generalize hD : dgsA ds = D
          generalize hSB : bytesA b = SB
          generalize hT : aexec p tys (csCl K M rt R O N D SB WA kd ks nm) _ _ _ _ = T
          cbv at hT
          subst hT
          simp only [Tree.ok, RoundOk, Bool.false_eq_true, Bool.true_eq_false, false_implies, true_implies, and_true, true_and]
          subst hp hkd hks hWA hN hD hSB
          have hne2 := hne
          have hkx : kindN l x.n = 21 := h21
          have hkk0 : kindN l k0 = 8 := hF.s
          rw [h21] at cKd
          simp only [std] at hne2
          simp only [std, hat, hkA0, hkA1, hkAl, hkL, hkx, hkk0, h10, hnn, Cur.el, AV.cells, List.getD_cons_zero, List.getD_cons_succ, intOf, unoA, allP, hwl2, decide_eq_true_eq, decide_eq_false_iff_not, beq_self_eq_true, Bool.not_true, Bool.not_false, Bool.false_eq_true, Bool.true_eq_false, false_implies, true_implies, and_true]
          repeat' first
            | (with_reducible apply And.intro)
            | (with_reducible intro hh)
          all_goals first
            | exact cKd
            | exact cNo
            | exact cKs
            | exact cK0
            | exact cKl
            | exact cN
            | exact cN0
            | exact cN1
            | exact hUx
            | trivial
            | (exfalso; omega)
            | exact absurd (show (false : Bool) = true from hne2 ▸ hh) (by decide)
            | exact absurd hh (by decide)
            | (show (-9223372036854775808 : Int) ≤ _; omega)
            | (show _ ≤ (9223372036854775807 : Int); omega)
            | omega
            | skip
          all_goals
            refine ⟨(i + 1, ms), ⟨⟨?_, ?_⟩, hms'⟩, ?_, [some 0], _, rfl, ?_⟩
            · show 0 ≤ i + 1
              omega
            · show i + 1 ≤ nw
              omega
            · show (nw - (i + 1)).toNat < (nw - i).toNat
              omega
            repeat first
              | exact trivial
              | refine ⟨rfl, ?_⟩
              | refine ⟨hwl, ?_⟩
              | refine ⟨congrArg (fun q => AV.val (.int .i64 q)) (hwl), ?_⟩
              | refine ⟨congrArg (fun q => AV.slc 1 q) (hwl), ?_⟩
              | refine ⟨congrArg (fun q => AV.slc 0 q) (hwl), ?_⟩
              | refine ⟨congrArg (fun q => AV.val (.bool q)) (hwl), ?_⟩
              | refine ⟨congrArg (fun q => AV.val (.int .i32 q)) (hwl), ?_⟩
              | refine ⟨congrArg (fun q => AV.val (.string q)) (hwl), ?_⟩
      · clear hEl hTo
        have hnm : isM l x = false := by
          show (decide ((nodeAt l x.n).kind = 21) && _) = false
          rw [decide_eq_false (show ¬ (nodeAt l x.n).kind = 21 from h21)]; rfl
        rw [hnm] at hfl
        have hms' : Len ((ws.take (i + 1).toNat).filter (isM l)) ms := by rw [hfl]; simpa using hms
        clear hil hx hfl hms
        generalize hp : std = p
        generalize hkd : kindN l = kd
        generalize hks : kidsN l = ks
        generalize hWA : cursA (nodesA l) ws = WA
        generalize hN : nodesA l = N
        generalize hD : dgsA ds = D
        generalize hSB : bytesA b = SB
        generalize hT : aexec p tys (csCl K M rt R O N D SB WA kd ks nm) _ _ _ _ = T
        cbv at hT
        subst hT
        simp only [Tree.ok, RoundOk, Bool.false_eq_true, Bool.true_eq_false, false_implies, true_implies, and_true, true_and]
        subst hp hkd hks hWA hN hD hSB
        simp only [std, hat, Cur.el, AV.cells, List.getD_cons_zero, List.getD_cons_succ, intOf, unoA, allP, hwl2, decide_eq_true_eq, decide_eq_false_iff_not, Bool.not_true, Bool.false_eq_true, Bool.true_eq_false, false_implies, true_implies, and_true]
        refine ⟨fun _ => ⟨⟨hi0, hlt⟩, ⟨trivial, trivial, trivial, trivial, hUx⟩, cKd, fun _ => ⟨?_, (i + 1, ms), ⟨⟨?_, ?_⟩, hms'⟩, ?_, [some 0], _, rfl, ?_⟩, fun h => ?_⟩, fun h => ?_⟩
        · show (-9223372036854775808 : Int) ≤ i + 1 ∧ i + 1 ≤ 9223372036854775807
          omega
        · show 0 ≤ i + 1
          omega
        · show i + 1 ≤ nw
          omega
        · show (nw - (i + 1)).toNat < (nw - i).toNat
          omega
        · repeat first
            | exact trivial
            | refine ⟨rfl, ?_⟩
            | refine ⟨hwl, ?_⟩
            | refine ⟨congrArg (fun q => AV.val (.int .i64 q)) (hwl), ?_⟩
            | refine ⟨congrArg (fun q => AV.slc 1 q) (hwl), ?_⟩
            | refine ⟨congrArg (fun q => AV.slc 0 q) (hwl), ?_⟩
            | refine ⟨congrArg (fun q => AV.val (.bool q)) (hwl), ?_⟩
            | refine ⟨congrArg (fun q => AV.val (.int .i32 q)) (hwl), ?_⟩
            | refine ⟨congrArg (fun q => AV.val (.string q)) (hwl), ?_⟩
        · exact absurd (by simpa using h) h21
        · exact absurd hlt h
    · rw [heq] at hms ⊢
      have hmw : Len (ws.filter (isM l)) ms := by
        have h1 : ws.take nw.toNat = ws := List.take_of_length_le (by have := hnw.eq; omega)
        rw [h1] at hms; exact hms
      clear hEl hms
      generalize hp : std = p
      generalize hkd : kindN l = kd
      generalize hks : kidsN l = ks
      generalize hWA : cursA (nodesA l) ws = WA
      generalize hN : nodesA l = N
      generalize hD : dgsA ds = D
      generalize hSB : bytesA b = SB
      generalize hT : aexec p tys (csCl K M rt R O N D SB WA kd ks nm) _ _ _ _ = T
      cbv at hT
      subst hT
      simp only [Tree.ok, RoundOk, Bool.false_eq_true, Bool.true_eq_false, false_implies, true_implies, and_true, true_and]
      subst hp hkd hks hWA hN hD hSB
      refine ⟨fun h => absurd (of_decide_eq_true h) (by omega), fun _ => ?_⟩
      rw [if_pos trivial]
      generalize hp : std = p
      generalize hkd : kindN l = kd
      generalize hks : kidsN l = ks
      generalize hWA : cursA (nodesA l) ws = WA
      generalize hN : nodesA l = N
      generalize hD : dgsA ds = D
      generalize hSB : bytesA b = SB
      generalize hT : aexec p tys (csCl K M rt R O N D SB WA kd ks nm) _ _ _ _ = T
      cbv at hT
      subst hT
      simp only [Tree.ok, RoundOk, Bool.false_eq_true, Bool.true_eq_false, false_implies, true_implies, and_true, true_and]
      subst hp hkd hks hWA hN hD hSB
      refine loop_rule (cs := csCl K M rt R O (nodesA l) (dgsA ds) (bytesA b) (cursA (nodesA l) ws) (kindN l) (kidsN l) nm) (ord := fun _ => .nil) tyOk (by kernel_rfl) (by kernel_rfl) (by kernel_rfl) (X := Int × Int) (fun x => ⟨[(3, .box 0 0), (4, .val (.int .i64 ms)), (9, .val (.int .i64 x.2)), (80, .slc 3 (dgsA ds)), (81, .val (.int .i64 nd)), (82, .val (.int .i64 x.1))], [.box [.val (.int .i64 K), .val (.int .i64 M), .slc 1 R, .slc 1 O, .ref [.slc 6 (nodesA l)], .val (.int .i64 rt), .slc 3 (dgsA ds)]]⟩) (fun x => (0 ≤ x.1 ∧ x.1 ≤ nd) ∧ Len ((ds.take x.1.toNat).filter fun y => decide (y.c = 4)) x.2) (fun x => (nd - x.1).toNat) (0, 0) ?_ ?_ ?_
      · exact ⟨⟨Int.le_refl _, by have := hnd.eq; omega⟩, rfl⟩
      · refine ⟨[some 0], _, rfl, ?_⟩
        repeat first
          | exact trivial
          | refine ⟨rfl, ?_⟩
          | refine ⟨hdl, ?_⟩
          | refine ⟨congrArg (fun q => AV.val (.int .i64 q)) (hdl), ?_⟩
          | refine ⟨congrArg (fun q => AV.slc 1 q) (hdl), ?_⟩
          | refine ⟨congrArg (fun q => AV.slc 0 q) (hdl), ?_⟩
          | refine ⟨congrArg (fun q => AV.val (.bool q)) (hdl), ?_⟩
          | refine ⟨congrArg (fun q => AV.val (.int .i32 q)) (hdl), ?_⟩
          | refine ⟨congrArg (fun q => AV.val (.string q)) (hdl), ?_⟩
      · rintro ⟨j, tl⟩ ⟨⟨hj0, hj1⟩, htl⟩
        simp only at hj0 hj1 htl ⊢
        rcases Int.lt_or_eq_of_le hj1 with hlt | hjq
        · have hjl : j.toNat < ds.length := by have := hnd.eq; omega
          obtain ⟨x, hx⟩ : ∃ x, x = ds[j.toNat] := ⟨_, rfl⟩
          have hat : (dgsA ds).getD j.toNat .dead = x.av := by
            rw [List.getD_eq_getElem?_getD, dgsA, List.getElem?_map, List.getElem?_eq_getElem hjl, hx]; rfl
          have hfl : (ds.take (j + 1).toNat).filter (fun y => decide (y.c = 4)) = (ds.take j.toNat).filter (fun y => decide (y.c = 4)) ++ (if decide (x.c = 4) then [x] else []) := by
            rw [show (j + 1).toNat = j.toNat + 1 by omega, List.take_succ_eq_append_getElem hjl, List.filter_append, ← hx]
            congr 1
            simp only [List.filter_cons, List.filter_nil]
          have htl2 : tl ≤ j := by
            have h1 := htl.eq
            have h2 := List.length_filter_le (fun y : Dg => decide (y.c = 4)) (ds.take j.toNat)
            rw [List.length_take] at h2
            omega
          have htl0 : 0 ≤ tl := by have := htl.eq; omega
          have hdl2 : ((dgsA ds).length : Int) = nd := hdl
          have hnd2 : nd ≤ 1000000000 := by have := hnd.eq; omega
          have htY : x.c = 4 → Len ((ds.take (j + 1).toNat).filter fun y => decide (y.c = 4)) (tl + 1) := fun h => by
            rw [hfl, decide_eq_true h]
            have := htl.eq
            show tl + 1 = _
            rw [if_pos rfl, List.length_append]
            simp only [List.length_singleton]
            omega
          have htN : x.c ≠ 4 → Len ((ds.take (j + 1).toNat).filter fun y => decide (y.c = 4)) tl := fun h => by
            rw [hfl, decide_eq_false h]
            simpa using htl
          clear hx hjl hfl htl hmw hTo
          generalize hp : std = p
          generalize hkd : kindN l = kd
          generalize hks : kidsN l = ks
          generalize hWA : cursA (nodesA l) ws = WA
          generalize hN : nodesA l = N
          generalize hD : dgsA ds = D
          generalize hSB : bytesA b = SB
          generalize hT : aexec p tys (csCl K M rt R O N D SB WA kd ks nm) _ _ _ _ = T
          cbv at hT
          subst hT
          simp only [Tree.ok, RoundOk, Bool.false_eq_true, Bool.true_eq_false, false_implies, true_implies, and_true, true_and]
          subst hp hkd hks hWA hN hD hSB
          simp only [std, hat, Dg.av, AV.cells, List.getD_cons_zero, List.getD_cons_succ, intOf, allP, hdl2, decide_eq_true_eq, decide_eq_false_iff_not, and_true]
          refine ⟨fun _ => ⟨⟨hj0, hlt⟩, trivial, fun h => ⟨?_, ?_, (j + 1, tl + 1), ⟨⟨?_, ?_⟩, htY (by simpa using h)⟩, ?_, [some 0], _, rfl, ?_⟩, fun h => ⟨?_, (j + 1, tl), ⟨⟨?_, ?_⟩, htN (by simpa using h)⟩, ?_, [some 0], _, rfl, ?_⟩⟩, fun h => absurd hlt h⟩
          · show (-9223372036854775808 : Int) ≤ tl + 1 ∧ tl + 1 ≤ 9223372036854775807
            omega
          · show (-9223372036854775808 : Int) ≤ j + 1 ∧ j + 1 ≤ 9223372036854775807
            omega
          · show 0 ≤ j + 1
            omega
          · show j + 1 ≤ nd
            omega
          · show (nd - (j + 1)).toNat < (nd - j).toNat
            omega
          · repeat first
              | exact trivial
              | refine ⟨rfl, ?_⟩
              | refine ⟨hdl, ?_⟩
              | refine ⟨congrArg (fun q => AV.val (.int .i64 q)) (hdl), ?_⟩
              | refine ⟨congrArg (fun q => AV.slc 1 q) (hdl), ?_⟩
              | refine ⟨congrArg (fun q => AV.slc 0 q) (hdl), ?_⟩
              | refine ⟨congrArg (fun q => AV.val (.bool q)) (hdl), ?_⟩
              | refine ⟨congrArg (fun q => AV.val (.int .i32 q)) (hdl), ?_⟩
              | refine ⟨congrArg (fun q => AV.val (.string q)) (hdl), ?_⟩
          · show (-9223372036854775808 : Int) ≤ j + 1 ∧ j + 1 ≤ 9223372036854775807
            omega
          · show 0 ≤ j + 1
            omega
          · show j + 1 ≤ nd
            omega
          · show (nd - (j + 1)).toNat < (nd - j).toNat
            omega
          · repeat first
              | exact trivial
              | refine ⟨rfl, ?_⟩
              | refine ⟨hdl, ?_⟩
              | refine ⟨congrArg (fun q => AV.val (.int .i64 q)) (hdl), ?_⟩
              | refine ⟨congrArg (fun q => AV.slc 1 q) (hdl), ?_⟩
              | refine ⟨congrArg (fun q => AV.slc 0 q) (hdl), ?_⟩
              | refine ⟨congrArg (fun q => AV.val (.bool q)) (hdl), ?_⟩
              | refine ⟨congrArg (fun q => AV.val (.int .i32 q)) (hdl), ?_⟩
              | refine ⟨congrArg (fun q => AV.val (.string q)) (hdl), ?_⟩
        · rw [hjq] at htl ⊢
          have htw : Len (ds.filter fun y => decide (y.c = 4)) tl := by
            have h1 : ds.take nd.toNat = ds := List.take_of_length_le (by have := hnd.eq; omega)
            rw [h1] at htl; exact htl
          have hEq : tl = ms := by rw [htw.eq, hmw.eq, hTo]; rfl
          subst hEq
          clear htl htw hmw hTo
          generalize hp : std = p
          generalize hkd : kindN l = kd
          generalize hks : kidsN l = ks
          generalize hWA : cursA (nodesA l) ws = WA
          generalize hN : nodesA l = N
          generalize hD : dgsA ds = D
          generalize hSB : bytesA b = SB
          generalize hT : aexec p tys (csCl K M rt R O N D SB WA kd ks nm) _ _ _ _ = T
          cbv at hT
          subst hT
          simp only [Tree.ok, RoundOk, Bool.false_eq_true, Bool.true_eq_false, false_implies, true_implies, and_true, true_and]
          subst hp hkd hks hWA hN hD hSB
          refine ⟨fun h => absurd (of_decide_eq_true h) (by omega), fun _ => ?_⟩
          rw [if_pos trivial]
          generalize hp : std = p
          generalize hkd : kindN l = kd
          generalize hks : kidsN l = ks
          generalize hWA : cursA (nodesA l) ws = WA
          generalize hN : nodesA l = N
          generalize hD : dgsA ds = D
          generalize hSB : bytesA b = SB
          generalize hT : aexec p tys (csCl K M rt R O N D SB WA kd ks nm) _ _ _ _ = T
          cbv at hT
          subst hT
          simp only [Tree.ok, RoundOk, Bool.false_eq_true, Bool.true_eq_false, false_implies, true_implies, and_true, true_and]
          subst hp hkd hks hWA hN hD hSB
          refine ⟨fun _ => ⟨cA, .pure rfl (.inl rfl)⟩, fun h => ?_⟩
          have h : (tl == tl) = false := h
          simp at h
end Go.Proofs.Ytblafdmmebiagaa
