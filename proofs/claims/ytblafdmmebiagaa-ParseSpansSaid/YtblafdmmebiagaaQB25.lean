/-
  Parts of the proof, joined: Lt. Conditions: as each theorem says.
-/
import Derived.Test.YtblafdmmebiagaaQB24
namespace Go.Proofs.Ytblafdmmebiagaa
open Go.RowKit Go.Lib
def csSs (K M rt : Int) (R O N D SB WA : List AV) (w : Int → Int → Int) (tx : Int → List AV) : Nat → List AV → List Ob → Option (AV × List Ob) := fun f args _ => match f, args with
  | 7, [.slc 1 _] => some (.slc 1 SB, [])
  | 8, [.slc 1 _] => some (.agg [.val (.int .i64 K), .val (.int .i64 M), .slc 1 R, .slc 1 O, .ref [.slc 6 N], .val (.int .i64 rt), .slc 3 D], [])
  | 12, [.agg _] => some (.agg [.opt (.ref [.slc 6 N]), .val (.int .i64 rt), .val (.int .i64 0), .val (.int .i64 0), .opt (.val (.pointer none))], [])
  | 13, [.agg _, .val (.int .i64 _)] => some (.slc 5 WA, [])
  | 14, [.agg [_, .val (.int .i64 n), .val (.int .i64 f), _, _]] => some (.agg [.val (.int .i64 f), .val (.int .i64 (w f n))], [])
  | 15, [.agg [_, .val (.int .i64 n), _, _, _]] => some (.slc 1 (tx n), [])
  | 11, [] => some (.val (.bool true), [])
  | _, _ => none
def toW (l : List Node) (f n : Int) : Int := f + widthN l n
def ssO : OT := .then [0, 1, 2, 3, 4, 5, 6, 7, 8, 9, 10, 11, 12, 13, 14, 15, 16, 17, 18, 19, 21, 25] (.fork (.then [20] (.fork (.then [22, 23] (.fork (.of [24, 26, 27, 28, 29]) (.then [26] (.fork (.of [24, 27, 28, 29]) (.of [27, 24, 28, 29]))))) (.then [26] (.fork (.then [22, 23] (.fork (.of [24, 27, 28, 29]) (.of [27, 24, 28, 29]))) (.of [27, 22, 23, 24, 28, 29]))))) (.fork (.then [22] (.fork (.then [20, 23] (.fork (.of [24, 26, 27, 28, 29]) (.then [26] (.fork (.of [24, 27, 28, 29]) (.of [27, 24, 28, 29]))))) (.then [26] (.fork (.then [20, 23] (.fork (.of [24, 27, 28, 29]) (.of [27, 24, 28, 29]))) (.of [27, 20, 23, 24, 28, 29]))))) (.then [26] (.fork (.then [20] (.fork (.then [22, 23] (.fork (.of [24, 27, 28, 29]) (.of [27, 24, 28, 29]))) (.of [27, 22, 23, 24, 28, 29]))) (.fork (.then [22] (.fork (.then [20, 23] (.fork (.of [24, 27, 28, 29]) (.of [27, 24, 28, 29]))) (.of [27, 20, 23, 24, 28, 29]))) (.then [27] (.fork (.of [20, 22, 23, 24, 28, 29]) (.of [22, 20, 23, 24, 28, 29]))))))))
theorem CurB.pr {l : List Node} {b : List UInt8} {C : Nat} {c : Cur} (ha : Ar l) (hl : l.length ≤ 1000000000) (hb : b.length ≤ 1000000) (hC : C ≤ 1000000) (h : CurB l b C c) : PrOk l c.n := by
  refine ⟨hl, ha.wf, ha.wide, h.1.h0, h.1.h1, ?_, by have := h.1.co; omega⟩
  obtain ⟨pre, post, e1, _⟩ := h.2
  have := congrArg List.length e1
  simp only [List.length_append] at this
  omega
theorem walkGo_len (l : List Node) : ∀ (n : Nat) (st : List Cur), (walkGo l n st).length ≤ n
  | 0, _ => Nat.le_refl _
  | n + 1, st => by
    unfold walkGo
    cases st.getLast? with
    | none => exact Nat.zero_le _
    | some x => simp only [List.length_cons]; have := walkGo_len l n (st.dropLast ++ downs l x (kidsAt l x).length); omega
set_option maxRecDepth 20000 in
set_option maxHeartbeats 4000000 in
theorem Spans_b (b0 : List UInt8) : BCall Try.prog 4 [.slc 1 (bytesA b0)] [] (.val (.bool true)) [] := by
  have cS := Short_b b0
  obtain ⟨b, hb⟩ : ∃ b, b = b0.take 400 := ⟨_, rfl⟩
  have hl : b.length ≤ 400 := by rw [hb, List.length_take]; omega
  rw [← hb] at cS
  have hO := parse_ok b (by omega)
  have hN := parse_nodes b
  have hD := (parse_s b).d
  have cP := Parse_b b (by omega)
  have cC := (TCursor_b (textF' b) (parseM b)).res (res' := .agg ((Cur.root (parseM b).n.length).el (nodesA (rootM (parseM b)).n))) ⟨.inr (.inr (.inl ⟨rfl, trivial⟩)), .inl rfl, .inl rfl, .inl rfl, .inl rfl, trivial⟩
  have cW := Walk_b (rootM (parseM b)).n b.length 400000 hO.ar (by omega) (by omega) (.root (parseM b).n.length) hO.root 1000 (by omega)
  have hAt : CurB (rootM (parseM b)).n b 400000 (.root (parseM b).n.length) := ⟨hO.root, [], [], by show b = [] ++ (pr (rootM (parseM b)).n (parseM b).n.length ++ []); rw [hO.p]; simp, rfl⟩
  have hAll := walk_all hO.ar hN hAt 1000
  have hln : (rootM (parseM b)).n.length ≤ 1000000000 := by have := hO.n; omega
  have har := hO.ar
  have hdn : ((parseM b).d.length : Int) ≤ 1000000000 := by
    have h1 := (inv_all (text_ok b).1 (text_sml b (by omega)).hr (first_inv b)).1.i.d
    have h2 := (text_ok b).2.2.1
    have h1 : (parseM b).d.length + 2 * (parseM b).s.length ≤ 2 + 3 * (textF' b).r.length := h1
    omega
  have cA := awake_b
  generalize parseM b = m at cP cC cW hAll hln hD har hdn
  generalize textF' b = t at cP cC
  obtain ⟨rt, hrt⟩ : ∃ rt : Int, rt = m.n.length := ⟨_, rfl⟩
  unfold treeA at cP cC
  simp only [Cur.el] at cC cW
  rw [← hrt] at cP cC cW hAll
  have hwn : (walkF (rootM m).n (.root rt) 1000).length ≤ 1000 := walkGo_len _ _ _
  generalize walkF (rootM m).n (.root rt) 1000 = ws at cW hAll hwn
  generalize (rootM m).n = l at cP cC cW hAll hln har
  generalize m.d = ds at cP cC hD hdn
  generalize t.kind = K at cP cC
  generalize t.bom = M at cP cC
  generalize runesA t.r = R at cP cC
  generalize intsA t.off = O at cP cC
  clear hO hN hAt hb hrt
  obtain ⟨nb, hnb⟩ := exLen b
  have hdn : ds.length ≤ 1000000000 := by omega
  have hblen : std.len (bytesA b) = nb := by show ((bytesA b).length : Int) = nb; rw [bytes_len, hnb.eq]
  obtain ⟨nw, hnw⟩ := exLen ws
  have hwl : std.len (cursA (nodesA l) ws) = nw := by show ((cursA (nodesA l) ws).length : Int) = nw; rw [curs_len, hnw.eq]
  obtain ⟨nd, hnd⟩ := exLen ds
  have hdl : std.len (dgsA ds) = nd := by show ((dgsA ds).length : Int) = nd; rw [dgs_len, hnd.eq]
  refine bcall_of (cs := csSs K M rt R O (nodesA l) (dgsA ds) (bytesA b) (cursA (nodesA l) ws) (toW l) (prA l)) (ord := fun id => match id with | 7 =>  ssO | _ => .nil) tyOk (by kernel_rfl) Try.func4 rfl (enters_of Try.func4 (by kernel_rfl) rfl) (Nat.le_of_ble_eq_true rfl) (by kernel_rfl) (by kernel_rfl) ?_
  intro w0 g0
  generalize hp : std = p
  generalize hw : toW l = w
  generalize htx : prA l = tx
  generalize hWA : cursA (nodesA l) ws = WA
  generalize hN : nodesA l = N
  generalize hD : dgsA ds = D
  generalize hSB : bytesA b = SB
  generalize hB0 : bytesA b0 = B0
  generalize hT : aexec p tys (csSs K M rt R O N D SB WA w tx) _ _ _ _ = T
  cbv at hT
  subst hT
  simp only [Tree.ok, RoundOk, Bool.false_eq_true, Bool.true_eq_false, false_implies, true_implies, and_true, true_and]
  subst hp hw htx hWA hN hD hSB hB0
  refine ⟨cS, cP, cC, cW, ?_⟩
  refine loop_rule (cs := csSs K M rt R O (nodesA l) (dgsA ds) (bytesA b) (cursA (nodesA l) ws) (toW l) (prA l)) (ord := fun id => match id with | 7 =>  ssO | _ => .nil) tyOk (by kernel_rfl) (by kernel_rfl) (by kernel_rfl) (X := Int) (fun i => ⟨[(0, .slc 1 (bytesA b)), (3, .box 0 0), (15, .slc 5 (cursA (nodesA l) ws)), (16, .val (.int .i64 nw)), (17, .val (.int .i64 i))], [.box [.val (.int .i64 K), .val (.int .i64 M), .slc 1 R, .slc 1 O, .ref [.slc 6 (nodesA l)], .val (.int .i64 rt), .slc 3 (dgsA ds)]]⟩) (fun i => 0 ≤ i ∧ i ≤ nw) (fun i => (nw - i).toNat) 0 ?_ ?_ ?_
  · exact ⟨Int.le_refl _, by have := hnw.eq; omega⟩
  · refine ⟨[some 0], _, rfl, ?_⟩
    repeat first
      | exact trivial
      | refine ⟨rfl, ?_⟩
      | refine ⟨hwl, ?_⟩
      | refine ⟨congrArg (fun q => AV.val (.int .i64 q)) (hwl), ?_⟩
      | refine ⟨congrArg (fun q => AV.slc 1 q) (hwl), ?_⟩
      | refine ⟨congrArg (fun q => AV.slc 0 q) (hwl), ?_⟩
      | refine ⟨congrArg (fun q => AV.val (.bool q)) (hwl), ?_⟩
      | refine ⟨congrArg (fun q => AV.val (.int .i32 q)) (hwl), ?_⟩
      | refine ⟨congrArg (fun q => AV.val (.string q)) (hwl), ?_⟩
  · rintro i ⟨hi0, hi1⟩
    rcases Int.lt_or_eq_of_le hi1 with hlt | heq
    · have hil : i.toNat < ws.length := by have := hnw.eq; omega
      obtain ⟨x, hx⟩ : ∃ x, x = ws[i.toNat] := ⟨_, rfl⟩
      have hxm : x ∈ ws := by rw [hx]; exact List.getElem_mem hil
      have hat : (cursA (nodesA l) ws).getD i.toNat .dead = .agg (x.el (nodesA l)) := by
        rw [List.getD_eq_getElem?_getD, cursA, List.getElem?_map, List.getElem?_eq_getElem hil, hx]; rfl
      obtain ⟨hxi, hxa⟩ := hAll x hxm
      have hxp := CurB.pr har hln (by omega) (by omega) (⟨hxi, hxa⟩ : CurB l b 400000 x)
      have hw0 := (hxi.wide har).2
      have hwd : widthN l x.n = ((pr l x.n).length : Int) := har.wide x.n hxi.h0 hxi.h1
      have hf0 := hxi.f0
      have hfw := hxi.w
      have hfw : x.f + widthN l x.n ≤ nb := by rw [hnb.eq]; exact hfw
      have hw0 : 0 ≤ widthN l x.n := hw0
      have hnb400 : nb ≤ 400 := by rw [hnb.eq]; omega
      have cSp := SpanC_b l x (by omega)
      have cTx := TextC_b l x hxp
      have hcut : std.cut (bytesA b) x.f (x.f + widthN l x.n) = bytesA (pr l x.n) := by
        show ((bytesA b).drop x.f.toNat).take (x.f + widthN l x.n - x.f).toNat = _
        have e := hxa.cut
        rw [show (x.f + widthN l x.n - x.f).toNat = (pr l x.n).length by omega]
        conv => rhs; rw [← e]
        simp [bytesA, List.map_take, List.map_drop]
      have hUx : isPtr (.opt (upO (nodesA l) x)) := upO_ptr _ _
      have hnw2 : nw ≤ 1000 := by have := hnw.eq; omega
      clear hwd hxp hil hx
      generalize hp : std = p
      generalize hw : toW l = w
      generalize htx : prA l = tx
      generalize hWA : cursA (nodesA l) ws = WA
      generalize hN : nodesA l = N
      generalize hD : dgsA ds = D
      generalize hSB : bytesA b = SB
      generalize hT : aexec p tys (csSs K M rt R O N D SB WA w tx) _ _ _ _ = T
      cbv at hT
      subst hT
      simp only [Tree.ok, RoundOk, Bool.false_eq_true, Bool.true_eq_false, false_implies, true_implies, and_true, true_and]
      subst hp hw htx hWA hN hD hSB
      have hcut2 : List.take (toW l x.f x.n - x.f).toNat (List.drop x.f.toNat (bytesA b)) = bytesA (pr l x.n) := hcut
      have hto : toW l x.f x.n = x.f + widthN l x.n := rfl
      have hbl : ((bytesA b).length : Int) = nb := hblen
      have hwl2 : ((cursA (nodesA l) ws).length : Int) = nw := hwl
      have hB : ∀ y ∈ bytesA (pr l x.n), ∃ n : UInt8, y = .val (.int .u8 n.toNat) := isB_bytesA _
      have hpa : prA l x.n = bytesA (pr l x.n) := rfl
      have cSp2 : BCall Try.prog 14 [.agg (x.el (nodesA l))] [] (.agg [.val (.int .i64 x.f), .val (.int .i64 (toW l x.f x.n))]) [] := cSp
      simp only [Cur.el] at cSp2 cTx
      simp only [std, hat, Cur.el, AV.cells, List.getD_cons_zero, List.getD_cons_succ, intOf, unoA, allP, hcut2, hpa, hbl, hwl2, decide_eq_true_eq, decide_eq_false_iff_not, beq_self_eq_true, Bool.not_true, Bool.false_eq_true, Bool.true_eq_false, false_implies, true_implies, and_true]
      repeat' first
        | (with_reducible apply And.intro)
        | (with_reducible intro hh)
      all_goals first
        | exact cSp2
        | exact cTx
        | exact hB
        | exact hUx
        | (exfalso; omega)
        | trivial
        | exact hB _ (by assumption)
        | (show (-9223372036854775808 : Int) ≤ i + 1; omega)
        | (show i + 1 ≤ (9223372036854775807 : Int); omega)
        | (rw [hto]; omega)
        | skip
      all_goals
        refine ⟨i + 1, ⟨by omega, by omega⟩, by omega, [some 0], _, rfl, ?_⟩
        repeat first
          | exact trivial
          | refine ⟨rfl, ?_⟩
          | refine ⟨hwl, ?_⟩
          | refine ⟨congrArg (fun q => AV.val (.int .i64 q)) (hwl), ?_⟩
          | refine ⟨congrArg (fun q => AV.slc 1 q) (hwl), ?_⟩
          | refine ⟨congrArg (fun q => AV.slc 0 q) (hwl), ?_⟩
          | refine ⟨congrArg (fun q => AV.val (.bool q)) (hwl), ?_⟩
          | refine ⟨congrArg (fun q => AV.val (.int .i32 q)) (hwl), ?_⟩
          | refine ⟨congrArg (fun q => AV.val (.string q)) (hwl), ?_⟩
    · rw [heq]
      generalize hp : std = p
      generalize hw : toW l = w
      generalize htx : prA l = tx
      generalize hWA : cursA (nodesA l) ws = WA
      generalize hN : nodesA l = N
      generalize hD : dgsA ds = D
      generalize hSB : bytesA b = SB
      generalize hT : aexec p tys (csSs K M rt R O N D SB WA w tx) _ _ _ _ = T
      cbv at hT
      subst hT
      simp only [Tree.ok, RoundOk, Bool.false_eq_true, Bool.true_eq_false, false_implies, true_implies, and_true, true_and]
      subst hp hw htx hWA hN hD hSB
      refine ⟨fun h => absurd (of_decide_eq_true h) (by omega), fun _ => ?_⟩
      rw [if_pos trivial]
      generalize hp : std = p
      generalize hw : toW l = w
      generalize htx : prA l = tx
      generalize hWA : cursA (nodesA l) ws = WA
      generalize hN : nodesA l = N
      generalize hD : dgsA ds = D
      generalize hSB : bytesA b = SB
      generalize hT : aexec p tys (csSs K M rt R O N D SB WA w tx) _ _ _ _ = T
      cbv at hT
      subst hT
      simp only [Tree.ok, RoundOk, Bool.false_eq_true, Bool.true_eq_false, false_implies, true_implies, and_true, true_and]
      subst hp hw htx hWA hN hD hSB
      refine loop_rule (cs := csSs K M rt R O (nodesA l) (dgsA ds) (bytesA b) (cursA (nodesA l) ws) (toW l) (prA l)) (ord := fun _ => .nil) tyOk (by kernel_rfl) (by kernel_rfl) (by kernel_rfl) (X := Int) (fun i => ⟨[(0, .slc 1 (bytesA b)), (3, .box 0 0), (55, .slc 3 (dgsA ds)), (56, .val (.int .i64 nd)), (57, .val (.int .i64 i))], [.box [.val (.int .i64 K), .val (.int .i64 M), .slc 1 R, .slc 1 O, .ref [.slc 6 (nodesA l)], .val (.int .i64 rt), .slc 3 (dgsA ds)]]⟩) (fun i => 0 ≤ i ∧ i ≤ nd) (fun i => (nd - i).toNat) 0 ?_ ?_ ?_
      · exact ⟨Int.le_refl _, by have := hnd.eq; omega⟩
      · refine ⟨[some 0], _, rfl, ?_⟩
        repeat first
          | exact trivial
          | refine ⟨rfl, ?_⟩
          | refine ⟨hdl, ?_⟩
          | refine ⟨congrArg (fun q => AV.val (.int .i64 q)) (hdl), ?_⟩
          | refine ⟨congrArg (fun q => AV.slc 1 q) (hdl), ?_⟩
          | refine ⟨congrArg (fun q => AV.slc 0 q) (hdl), ?_⟩
          | refine ⟨congrArg (fun q => AV.val (.bool q)) (hdl), ?_⟩
          | refine ⟨congrArg (fun q => AV.val (.int .i32 q)) (hdl), ?_⟩
          | refine ⟨congrArg (fun q => AV.val (.string q)) (hdl), ?_⟩
      · rintro j ⟨hj0, hj1⟩
        rcases Int.lt_or_eq_of_le hj1 with hlt | hjq
        · have hjl : j.toNat < ds.length := by have := hnd.eq; omega
          obtain ⟨x, hx⟩ : ∃ x, x = ds[j.toNat] := ⟨_, rfl⟩
          have hxm : x ∈ ds := by rw [hx]; exact List.getElem_mem hjl
          have hat : (dgsA ds).getD j.toNat .dead = x.av := by
            rw [List.getD_eq_getElem?_getD, dgsA, List.getElem?_map, List.getElem?_eq_getElem hjl, hx]; rfl
          obtain ⟨d1, d2, d3, d4, d5⟩ := hD x hxm
          have d3 : x.t ≤ nb := by rw [hnb.eq]; exact d3
          have hdl2 : ((dgsA ds).length : Int) = nd := hdl
          have hbl : ((bytesA b).length : Int) = nb := hblen
          have hnd2 : nd ≤ 1000000000 := by have := hnd.eq; omega
          clear hx hjl
          generalize hp : std = p
          generalize hw : toW l = w
          generalize htx : prA l = tx
          generalize hWA : cursA (nodesA l) ws = WA
          generalize hN : nodesA l = N
          generalize hD : dgsA ds = D
          generalize hSB : bytesA b = SB
          generalize hT : aexec p tys (csSs K M rt R O N D SB WA w tx) _ _ _ _ = T
          cbv at hT
          subst hT
          simp only [Tree.ok, RoundOk, Bool.false_eq_true, Bool.true_eq_false, false_implies, true_implies, and_true, true_and]
          subst hp hw htx hWA hN hD hSB
          simp only [std, hat, Dg.av, AV.cells, List.getD_cons_zero, List.getD_cons_succ, intOf, allP, hbl, hdl2, decide_eq_true_eq, decide_eq_false_iff_not, and_true]
          repeat' first
            | (with_reducible apply And.intro)
            | (with_reducible intro hh)
          all_goals first
            | (exfalso; omega)
            | trivial
            | (show (-9223372036854775808 : Int) ≤ j + 1; omega)
            | (show j + 1 ≤ (9223372036854775807 : Int); omega)
            | omega
            | skip
          all_goals
            refine ⟨j + 1, ⟨by omega, by omega⟩, by omega, [some 0], _, rfl, ?_⟩
            repeat first
              | exact trivial
              | refine ⟨rfl, ?_⟩
              | refine ⟨hdl, ?_⟩
              | refine ⟨congrArg (fun q => AV.val (.int .i64 q)) (hdl), ?_⟩
              | refine ⟨congrArg (fun q => AV.slc 1 q) (hdl), ?_⟩
              | refine ⟨congrArg (fun q => AV.slc 0 q) (hdl), ?_⟩
              | refine ⟨congrArg (fun q => AV.val (.bool q)) (hdl), ?_⟩
              | refine ⟨congrArg (fun q => AV.val (.int .i32 q)) (hdl), ?_⟩
              | refine ⟨congrArg (fun q => AV.val (.string q)) (hdl), ?_⟩
        · rw [hjq]
          generalize hp : std = p
          generalize hw : toW l = w
          generalize htx : prA l = tx
          generalize hWA : cursA (nodesA l) ws = WA
          generalize hN : nodesA l = N
          generalize hD : dgsA ds = D
          generalize hSB : bytesA b = SB
          generalize hT : aexec p tys (csSs K M rt R O N D SB WA w tx) _ _ _ _ = T
          cbv at hT
          subst hT
          simp only [Tree.ok, RoundOk, Bool.false_eq_true, Bool.true_eq_false, false_implies, true_implies, and_true, true_and]
          subst hp hw htx hWA hN hD hSB
          refine ⟨fun h => absurd (of_decide_eq_true h) (by omega), fun _ => ?_⟩
          rw [if_pos trivial]
          generalize hp : std = p
          generalize hw : toW l = w
          generalize htx : prA l = tx
          generalize hWA : cursA (nodesA l) ws = WA
          generalize hN : nodesA l = N
          generalize hD : dgsA ds = D
          generalize hSB : bytesA b = SB
          generalize hT : aexec p tys (csSs K M rt R O N D SB WA w tx) _ _ _ _ = T
          cbv at hT
          subst hT
          simp only [Tree.ok, RoundOk, Bool.false_eq_true, Bool.true_eq_false, false_implies, true_implies, and_true, true_and]
          subst hp hw htx hWA hN hD hSB
          exact ⟨cA, .pure rfl (.inl rfl)⟩
end Go.Proofs.Ytblafdmmebiagaa
