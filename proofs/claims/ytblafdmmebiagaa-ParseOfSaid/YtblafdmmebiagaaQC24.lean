/-
  Parts of the proof, joined: MkU MkV La Ls MkS Rw Of Op Oh Og. Conditions: as each theorem says.
-/
import Derived.Test.YtblafdmmebiagaaQC23
import Derived.Test.YtblafdmmebiagaaQC22
import Derived.Test.YtblafdmmebiagaaQC07
import Derived.Test.YtblafdmmebiagaaQC16
namespace Go.Proofs.Ytblafdmmebiagaa
open Go.RowKit Go.Lib
def tkAn (t : Txt) (b : List UInt8) (k f u : Int) (w : Bool) (N D S : List AV) : List AV := nodesA (tokenF t b k f u w (mkB N D S)).n
def tkAd (t : Txt) (b : List UInt8) (k f u : Int) (w : Bool) (N D S : List AV) : List AV := dgsA (tokenF t b k f u w (mkB N D S)).d
def tkAs (t : Txt) (b : List UInt8) (k f u : Int) (w : Bool) (N D S : List AV) : List AV := opnsA (tokenF t b k f u w (mkB N D S)).s
theorem tkAn_eq (t : Txt) (b : List UInt8) (k f u : Int) (w : Bool) (m : Mk) : tkAn t b k f u w (nodesA m.n) (dgsA m.d) (opnsA m.s) = nodesA (tokenF t b k f u w m).n := by rw [tkAn, mk_back]
theorem tkAd_eq (t : Txt) (b : List UInt8) (k f u : Int) (w : Bool) (m : Mk) : tkAd t b k f u w (nodesA m.n) (dgsA m.d) (opnsA m.s) = dgsA (tokenF t b k f u w m).d := by rw [tkAd, mk_back]
theorem tkAs_eq (t : Txt) (b : List UInt8) (k f u : Int) (w : Bool) (m : Mk) : tkAs t b k f u w (nodesA m.n) (dgsA m.d) (opnsA m.s) = opnsA (tokenF t b k f u w m).s := by rw [tkAs, mk_back]
def csAl (p : Pr) (TK : List AV) (tn td ts : Int → Int → Int → Bool → List AV → List AV → List AV → List AV) (mn md ms : Int → List AV → List AV → List AV → List AV) (br : Int → List AV → List AV → List AV) : Nat → List AV → List Ob → Option (AV × List Ob) := fun f args ob => match f, args with
  | 49, [.slc 1 _] => some (.slc 4 TK, [])
  | 50, [.box 0 0, .agg [.val (.int .i64 kind), .val (.int .i64 f), .val (.int .i64 u), .val (.bool wh)]] => withM ob fun b k m r o rt N D S => some (.tup [], obM 1 b k m r o rt (tn kind f u wh N D S) (td kind f u wh N D S) (ts kind f u wh N D S))
  | 51, [.box 0 0, .val (.int .i64 a)] => withM ob fun b k m r o rt N D S => some (.tup [], obM 1 b k m r o rt (mn a N D S) (md a N D S) (ms a N D S))
  | 52, [.box 0 0, .val (.int .i64 k), .slc 1 ks] => match ob with
    | [.box [.row 1 0], .row 74 6 false 0 N] => some (.tup [.val (.int .i64 (p.len N)), .val (.int .i64 0)], [.box [.row 1 1], .row 74 6 false 1 (br k ks N)])
    | _ => none
  | _, _ => none
def alO : OT := .then [0, 1, 2, 4, 5, 6, 7, 8, 9, 10, 11, 12, 13, 14, 15, 16, 17] (.fork (.of [3, 18, 19, 20, 21, 22, 23, 24]) (.of [18, 19, 20, 21, 3, 22, 23, 24]))
theorem toks_le (l : List Int) : ∀ n k : Nat, l.length - k ≤ n → (toksGo l k).length ≤ n
  | 0, k, h => by rw [toksGo_nil (by omega)]; exact Nat.le_refl _
  | n + 1, k, h => by
    by_cases hk : k < l.length
    · have := nextTF_range l k hk
      rw [toksGo_cons hk, List.length_cons]
      have := toks_le l n (nextTF l k).2.1 (by omega)
      omega
    · rw [toksGo_nil hk]; exact Nat.zero_le _
set_option maxRecDepth 20000 in
set_option maxHeartbeats 2000000 in
theorem all_b (t : Txt) (b : List UInt8) (hs : Sml t b) (rt : Int) (m : Mk) (B D : Nat) (iv : MkI m (upTo t b 0) B D) (hB : B + 3 * t.r.length ≤ 600000) (hD : D + 3 * t.r.length ≤ 600000) :
    BCall Try.prog 30 [.box 0 0] (obT 0 t b rt m) (.tup []) (obT 1 t b (allM t b m).n.length (rootM (allM t b m))) := by
  have cT := Tokens_b t.r hs.hr
  obtain ⟨toks, htk⟩ : ∃ toks, toks = toksF t.r := ⟨_, rfl⟩
  rw [← htk] at cT
  have hnl : toks.length ≤ 1000000 := by
    have := toks_le t.r t.r.length 0 (by omega)
    rw [htk]; exact Nat.le_trans this hs.hr
  obtain ⟨n, hn⟩ := exLen toks
  obtain ⟨M0, hM0⟩ : ∃ x, x = toks.foldl (tokM t b) m := ⟨_, rfl⟩
  obtain ⟨M1, hM1⟩ : ∃ x, x = allM t b m := ⟨_, rfl⟩
  have hM01 : M1 = missGo t t.r.length 0 M0.s.length M0 := by rw [hM1, hM0, htk]; rfl
  rw [← hM1]
  obtain ⟨E, hE⟩ : ∃ x, x = rootM M1 := ⟨_, rfl⟩
  unfold obT obM
  refine bcall_of (cs := csAl std (toksA toks) (tkAn t b) (tkAd t b) (tkAs t b) (msAn t) (msAd t) (msAs t) brA) (ord := fun id => match id with | 7 =>  alO | _ => .nil) tyOk (by kernel_rfl) Try.func30 rfl (enters_of Try.func30 (by kernel_rfl) rfl) (Nat.le_of_ble_eq_true rfl) (by kernel_rfl) (by kernel_rfl) ?_
  intro w0 g0
  generalize hp : std = p
  generalize hTK : toksA toks = TK
  generalize htn : tkAn t b = tn
  generalize htd : tkAd t b = td
  generalize hts : tkAs t b = ts
  generalize hmn : msAn t = mn
  generalize hmd : msAd t = md
  generalize hms : msAs t = ms
  generalize hbr : brA = br
  generalize hN : nodesA m.n = N
  generalize hD' : dgsA m.d = D'
  generalize hS : opnsA m.s = S
  generalize hB' : bytesA b = B'
  generalize hR : runesA t.r = R
  generalize hO : intsA t.off = O
  generalize hK : t.kind = K
  generalize hM : t.bom = M
  generalize hT : aexec p tys (csAl p TK tn td ts mn md ms br) _ _ _ _ = T
  cbv at hT
  subst hT
  simp only [Tree.ok, RoundOk, Bool.false_eq_true, Bool.true_eq_false, false_implies, true_implies, and_true, true_and]
  subst hp hTK htn htd hts hmn hmd hms hbr hN hD' hS hB' hR hO hK hM
  have tlen := toks_len toks
  have hnm : std.len (toksA toks) = n := by show ((toksA toks).length : Int) = n; rw [tlen, hn.eq]
  refine ⟨cT, ?_⟩
  refine loop_rule (cs := csAl std (toksA toks) (tkAn t b) (tkAd t b) (tkAs t b) (msAn t) (msAd t) (msAs t) brA) (ord := fun _ => .nil) tyOk (by kernel_rfl) (by kernel_rfl) (by kernel_rfl) (X := Int × Mk × Nat) (fun x => ⟨[(0, .box 0 0), (12, .slc 4 (toksA toks)), (13, .val (.int .i64 n)), (14, .val (.int .i64 x.1))], [.box [.slc 1 (bytesA b), .box 1 0, .row 5 1], .box [.val (.int .i64 t.kind), .val (.int .i64 t.bom), .slc 1 (runesA t.r), .slc 1 (intsA t.off), .box 2 0, .val (.int .i64 rt), .row 4 1], .box [.row 3 1], .row 74 6 false 1 (nodesA x.2.1.n), .row 47 3 false 1 (dgsA x.2.1.d), .row 66 2 false 1 (opnsA x.2.1.s)]⟩) (fun x => 0 ≤ x.1 ∧ x.1 ≤ n ∧ x.2.2 ≤ t.r.length ∧ toksGo t.r x.2.2 = toks.drop x.1.toNat ∧ MkI x.2.1 (upTo t b x.2.2) (B + 3 * x.2.2) (D + 3 * x.2.2) ∧ (toks.drop x.1.toNat).foldl (tokM t b) x.2.1 = M0) (fun x => (n - x.1).toNat) (0, m, 0) ?_ ?_ ?_
  · have := hn.eq
    exact ⟨Int.le_refl _, by simp only; omega, Nat.zero_le _, by rw [htk]; rfl, iv, hM0.symm⟩
  · refine ⟨[some 0, some 1, some 2, some 3, some 4, some 5], _, rfl, ?_⟩
    repeat first
      | exact trivial
      | refine ⟨rfl, ?_⟩
      | refine ⟨hnm, ?_⟩
      | refine ⟨congrArg (fun q => AV.val (.int .i64 q)) (hnm), ?_⟩
      | refine ⟨congrArg (fun q => AV.slc 1 q) (hnm), ?_⟩
      | refine ⟨congrArg (fun q => AV.slc 0 q) (hnm), ?_⟩
      | refine ⟨congrArg (fun q => AV.val (.bool q)) (hnm), ?_⟩
      | refine ⟨congrArg (fun q => AV.val (.int .i32 q)) (hnm), ?_⟩
      | refine ⟨congrArg (fun q => AV.val (.string q)) (hnm), ?_⟩
  · rintro ⟨i, x, k⟩ ⟨hi0, hi1, hk, hd, hv, hf⟩
    simp only at hi0 hi1 hk hd hv hf
    have okx := hv.i.ok (by omega) (by omega)
    rcases Int.lt_or_eq_of_le hi1 with hlt | heq
    · have en := hn.eq
      have hil : i.toNat < toks.length := by omega
      have hkl : k < t.r.length := by
        by_cases h : k < t.r.length
        · exact h
        · rw [toksGo_nil h] at hd
          have := congrArg List.length hd
          rw [List.length_drop] at this
          simp at this
          omega
      obtain ⟨t1, t2, t3, t4⟩ := tok_in t.r hkl
      have hdr : toks.drop i.toNat = tokAt t.r k :: toksGo t.r (nextTF t.r k).2.1 := by rw [← hd, toksGo_cons hkl]
      have hxe : toks[i.toNat]? = some (tokAt t.r k) := by rw [← List.head?_drop, hdr]; rfl
      have hdn : toksGo t.r (nextTF t.r k).2.1 = toks.drop (i + 1).toNat := by
        rw [show (i + 1).toNat = i.toNat + 1 by omega, ← List.tail_drop, hdr]; rfl
      have hat : (toksA toks).getD i.toNat .dead = (tokAt t.r k).av := by
        rw [List.getD_eq_getElem?_getD, toksA, List.getElem?_map, hxe]; rfl
      have hin : InT t (tokAt t.r k).from_ (tokAt t.r k).to := ⟨by omega, by omega, by omega⟩
      have hXl : (upTo t b k).length ≤ 1000000 := by
        have := hs.hb
        rw [upTo, List.length_take]; omega
      have c := token_b t b hs rt x (upTo t b k) (B + 3 * k) (D + 3 * k) hv.i (by omega) (by omega) hXl (tokAt t.r k).kind (tokAt t.r k).from_ (tokAt t.r k).to (tokAt t.r k).whole hin
      have hv2 : MkI (tokM t b x (tokAt t.r k)) (upTo t b (nextTF t.r k).2.1) (B + 3 * (nextTF t.r k).2.1) (D + 3 * (nextTF t.r k).2.1) := by
        have := hv.token t b hs.hr (tokAt t.r k).kind (tokAt t.r k).from_ (tokAt t.r k).to (tokAt t.r k).whole
        rw [t1, t2, upTo_slice hs.ok (by omega) (by omega) (by omega)] at this
        have e : tokM t b x (tokAt t.r k) = tokenF t b (tokAt t.r k).kind k ((nextTF t.r k).2.1 : Nat) (tokAt t.r k).whole x := rfl
        rw [e]
        exact ⟨this.i.mono (by omega) (by omega), this.c⟩
      have hf2 : (toks.drop (i + 1).toNat).foldl (tokM t b) (tokM t b x (tokAt t.r k)) = M0 := by
        rw [hdr, List.foldl_cons] at hf
        rw [← hdn]; exact hf
      obtain ⟨y, hy⟩ : ∃ y, y = tokAt t.r k := ⟨_, rfl⟩
      obtain ⟨k2, hk2⟩ : ∃ k2, k2 = (nextTF t.r k).2.1 := ⟨_, rfl⟩
      rw [← hy] at hat hin c hv2 hf2
      rw [← hk2] at hv2 hdn t4
      clear en t1 t2 t3 hdr hxe hd hf hy hk2 hkl
      generalize hp : std = p
      generalize hTK : toksA toks = TK
      generalize htn : tkAn t b = tn
      generalize htd : tkAd t b = td
      generalize hts : tkAs t b = ts
      generalize hmn : msAn t = mn
      generalize hmd : msAd t = md
      generalize hms : msAs t = ms
      generalize hbr : brA = br
      generalize hN : nodesA x.n = N
      generalize hD' : dgsA x.d = D'
      generalize hS : opnsA x.s = S
      generalize hB' : bytesA b = B'
      generalize hR : runesA t.r = R
      generalize hO : intsA t.off = O
      generalize hK : t.kind = K
      generalize hM : t.bom = M
      generalize hT : aexec p tys (csAl p TK tn td ts mn md ms br) _ _ _ _ = T
      cbv at hT
      subst hT
      simp only [Tree.ok, RoundOk, Bool.false_eq_true, Bool.true_eq_false, false_implies, true_implies, and_true, true_and]
      subst hp hTK htn htd hts hmn hmd hms hbr hN hD' hS hB' hR hO hK hM
      unfold obT obM at c
      simp only [std, hat, Tok.av, AV.cells, List.getD_cons_zero, List.getD_cons_succ, intOf, booOf, allP, tkAn_eq, tkAd_eq, tkAs_eq, decide_eq_true_eq, decide_eq_false_iff_not]
      refine ⟨fun _ => ⟨?_, ⟨trivial, trivial, trivial, trivial, trivial⟩, c, ?_, (i + 1, tokM t b x y, k2), ⟨?_, ?_, t4, hdn, hv2, hf2⟩, ?_, [some 0, some 1, some 2, some 3, some 4, some 5], _, rfl, ?_⟩, fun h => ?_⟩
      · have := hn.eq
        rw [tlen]; omega
      · have := hn.eq
        have := hs.hr
        show (-9223372036854775808 : Int) ≤ i + 1 ∧ i + 1 ≤ (9223372036854775807 : Int)
        omega
      · show 0 ≤ i + 1
        omega
      · show i + 1 ≤ n
        omega
      · show (n - (i + 1)).toNat < (n - i).toNat
        omega
      · simp [AllEq, lk, tokM]
      · omega
    · have hd0 : toks.drop i.toNat = [] := List.drop_eq_nil_of_le (by have := hn.eq; omega)
      rw [hd0] at hd hf
      have hxM : x = M0 := hf
      have hkr : k = t.r.length := by
        by_cases h : k < t.r.length
        · rw [toksGo_cons h] at hd; cases hd
        · omega
      subst hxM
      rw [heq]
      clear hd hf hd0 hk
      have hlr : (t.r.length : Int) = t.r.length := rfl
      obtain ⟨rl, hrl⟩ := exLen t.r
      generalize hp : std = p
      generalize hTK : toksA toks = TK
      generalize htn : tkAn t b = tn
      generalize htd : tkAd t b = td
      generalize hts : tkAs t b = ts
      generalize hmn : msAn t = mn
      generalize hmd : msAd t = md
      generalize hms : msAs t = ms
      generalize hbr : brA = br
      generalize hN : nodesA x.n = N
      generalize hD' : dgsA x.d = D'
      generalize hS : opnsA x.s = S
      generalize hB' : bytesA b = B'
      generalize hR : runesA t.r = R
      generalize hO : intsA t.off = O
      generalize hK : t.kind = K
      generalize hM : t.bom = M
      generalize hT : aexec p tys (csAl p TK tn td ts mn md ms br) _ _ _ _ = T
      cbv at hT
      subst hT
      simp only [Tree.ok, RoundOk, Bool.false_eq_true, Bool.true_eq_false, false_implies, true_implies, and_true, true_and]
      subst hp hTK htn htd hts hmn hmd hms hbr hN hD' hS hB' hR hO hK hM
      refine ⟨fun h => ?_, fun _ => ?_⟩
      · have h : n < n := of_decide_eq_true h
        omega
      rw [if_pos trivial]
      generalize hp : std = p
      generalize hTK : toksA toks = TK
      generalize htn : tkAn t b = tn
      generalize htd : tkAd t b = td
      generalize hts : tkAs t b = ts
      generalize hmn : msAn t = mn
      generalize hmd : msAd t = md
      generalize hms : msAs t = ms
      generalize hbr : brA = br
      generalize hN : nodesA x.n = N
      generalize hD' : dgsA x.d = D'
      generalize hS : opnsA x.s = S
      generalize hB' : bytesA b = B'
      generalize hR : runesA t.r = R
      generalize hO : intsA t.off = O
      generalize hK : t.kind = K
      generalize hM : t.bom = M
      generalize hT : aexec p tys (csAl p TK tn td ts mn md ms br) _ _ _ _ = T
      cbv at hT
      subst hT
      simp only [Tree.ok, RoundOk, Bool.false_eq_true, Bool.true_eq_false, false_implies, true_implies, and_true, true_and]
      subst hp hTK htn htd hts hmn hmd hms hbr hN hD' hS hB' hR hO hK hM
      rw [hkr, upTo_end hs.ok] at hv
      have hv0 : MkI x b (B + 3 * t.r.length) (D + 3 * t.r.length) := hv
      have hrl2 : std.len (runesA t.r) = rl := by show ((runesA t.r).length : Int) = rl; rw [runes_len, hrl.eq]
      clear hv hkr hlr okx heq hi0 hi1
      refine loop_rule (cs := csAl std (toksA toks) (tkAn t b) (tkAd t b) (tkAs t b) (msAn t) (msAd t) (msAs t) brA) (ord := fun _ => .nil) tyOk (by kernel_rfl) (by kernel_rfl) (by kernel_rfl) (X := Mk) (fun x => ⟨[(0, .box 0 0)], [.box [.slc 1 (bytesA b), .box 1 0, .row 5 1], .box [.val (.int .i64 t.kind), .val (.int .i64 t.bom), .slc 1 (runesA t.r), .slc 1 (intsA t.off), .box 2 0, .val (.int .i64 rt), .row 4 1], .box [.row 3 1], .row 74 6 false 1 (nodesA x.n), .row 47 3 false 1 (dgsA x.d), .row 66 2 false 1 (opnsA x.s)]⟩) (fun x => MkI x b (B + 3 * t.r.length) (D + 3 * t.r.length) ∧ missGo t t.r.length 0 x.s.length x = M1) (fun x => x.s.length) x ?_ ?_ ?_
      · exact ⟨hv0, hM01.symm⟩
      · exact ⟨[some 0, some 1, some 2, some 3, some 4, some 5], _, rfl, by simp [AllEq, lk, std]⟩
      · rintro y ⟨hv, hg⟩
        have oky := hv.i.ok (by omega) (by omega)
        have ylen := opns_len y.s
        obtain ⟨LY, hLY⟩ := exLen y.s
        generalize hp : std = p
        generalize hTK : toksA toks = TK
        generalize htn : tkAn t b = tn
        generalize htd : tkAd t b = td
        generalize hts : tkAs t b = ts
        generalize hmn : msAn t = mn
        generalize hmd : msAd t = md
        generalize hms : msAs t = ms
        generalize hbr : brA = br
        generalize hN : nodesA y.n = N
        generalize hD' : dgsA y.d = D'
        generalize hS : opnsA y.s = S
        generalize hB' : bytesA b = B'
        generalize hR : runesA t.r = R
        generalize hO : intsA t.off = O
        generalize hK : t.kind = K
        generalize hM : t.bom = M
        generalize hT : aexec p tys (csAl p TK tn td ts mn md ms br) _ _ _ _ = T
        cbv at hT
        subst hT
        simp only [Tree.ok, RoundOk, Bool.false_eq_true, Bool.true_eq_false, false_implies, true_implies, and_true, true_and]
        subst hp hTK htn htd hts hmn hmd hms hbr hN hD' hS hB' hR hO hK hM
        have hly : std.len (opnsA y.s) = LY := by show ((opnsA y.s).length : Int) = LY; rw [ylen, hLY.eq]
        simp only [msAn_eq, msAd_eq, msAs_eq]
        refine ⟨fun hgt => ?_, fun hle => ?_⟩
        · have hgt : 1 < std.len (opnsA y.s) := of_decide_eq_true hgt
          rw [hly] at hgt
          have hy2 : 2 ≤ y.s.length := by have := hLY.eq; omega
          have hrr := hrl.eq
          have hol := hs.ok.len
          have c := miss_i t b rt hv.i (by omega) (by omega) hs.hb t.r.length (by omega) hy2
          have erl : (t.r.length : Int) = std.len (runesA t.r) := by rw [hrl2]; exact hrr.symm
          rw [erl] at c
          refine ⟨c, missF t (std.len (runesA t.r)) y, ⟨by rw [← erl]; exact hv.miss hy2 t t.r.length, ?_⟩, by rw [miss_len]; omega, [some 0, some 1, some 2, some 3, some 4, some 5], _, rfl, by simp [AllEq, lk, std]⟩
          rw [← erl, ← missGo_step (by omega)]; exact hg
        · have hle : ¬ 1 < std.len (opnsA y.s) := of_decide_eq_false hle
          rw [hly] at hle
          have hy1 : y.s.length = 1 := by have := hLY.eq; have := hv.i.s1; omega
          have hyM : y = M1 := by rw [← hg, missGo_end (by omega)]
          subst hyM
          clear hle hly
          rw [if_pos trivial]
          generalize hp : std = p
          generalize hTK : toksA toks = TK
          generalize htn : tkAn t b = tn
          generalize htd : tkAd t b = td
          generalize hts : tkAs t b = ts
          generalize hmn : msAn t = mn
          generalize hmd : msAd t = md
          generalize hms : msAs t = ms
          generalize hbr : brA = br
          generalize hN : nodesA y.n = N
          generalize hD' : dgsA y.d = D'
          generalize hS : opnsA y.s = S
          generalize hB' : bytesA b = B'
          generalize hR : runesA t.r = R
          generalize hO : intsA t.off = O
          generalize hK : t.kind = K
          generalize hM : t.bom = M
          generalize hT : aexec p tys (csAl p TK tn td ts mn md ms br) _ _ _ _ = T
          cbv at hT
          subst hT
          simp only [Tree.ok, RoundOk, Bool.false_eq_true, Bool.true_eq_false, false_implies, true_implies, and_true, true_and]
          subst hp hTK htn htd hts hmn hmd hms hbr hN hD' hS hB' hR hO hK hM
          obtain ⟨o, ho⟩ : ∃ o, y.s = [o] := List.length_eq_one_iff.1 hy1
          have hto : topF y.s = o := by rw [ho]; rfl
          have hcell : std.nth (std.drp (std.cel (std.at_ (opnsA y.s) 0)) 1) 0 = slK (topF y.s).kids := by rw [hto, ho]; rfl
          have hlst : std.lst (slK (topF y.s).kids) = intsA (topF y.s).kids := by cases (topF y.s).kids <;> rfl
          have hcl2 : std.lst (std.nth (std.drp (std.cel (std.at_ (opnsA y.s) 0)) 1) 0) = intsA (topF y.s).kids := by rw [hcell, hlst]
          have hflat : ((topF y.s).kids.flatMap (pr y.n)).length ≤ b.length := by
            have := hv.i.p
            rw [hto, ← this, ho]
            simp [prK]
          have hkl : (topF y.s).kids.length ≤ 900000 := oky.top
          have cB := Branch_b y.n (by have := oky.n; omega) 20 (topF y.s).kids (by omega) hv.i.top hv.i.ar.ok.w hv.i.ar.ok.c (MkInv.sum hv.i.ar hv.i.top hflat (by have := hs.hb; omega))
          rw [← brA_eq, ← nodes_len, ← hcl2] at cB
          have hnl2 := nodes_len y.n
          have fin : brA 20 (std.lst (std.nth (std.drp (std.cel (std.at_ (opnsA y.s) 0)) 1) 0)) (nodesA y.n) = nodesA (rootM y).n := by
            rw [hcl2, brA_eq]; rfl
          have e0 : std.len (nodesA y.n) = (y.n.length : Int) := by show ((nodesA y.n).length : Int) = _; rw [hnl2]
          refine ⟨?_, ⟨?_, trivial⟩, ⟨cB, ?_⟩, cB, ?_⟩
          · show 0 ≤ (0 : Int) ∧ (0 : Int) < std.len (opnsA y.s)
            show 0 ≤ (0 : Int) ∧ (0 : Int) < ((opnsA y.s).length : Int)
            rw [ylen, hy1]; decide
          · show std.hasL 1 (std.nth (std.drp (std.cel (std.at_ (opnsA y.s) 0)) 1) 0)
            rw [hcell]
            rcases slK_or (topF y.s).kids with h | h
            · exact .inl (by rw [h]; rfl)
            · exact .inr h.1
          all_goals
            refine ⟨[some 0, some 1, some 2, some 3, some 4, some 5], .tup [], _, rfl, rfl, Nat.le_of_ble_eq_true rfl, rfl, ?_, trivial⟩
            repeat first
              | exact trivial
              | refine ⟨rfl, ?_⟩
              | refine ⟨e0, ?_⟩
              | refine ⟨congrArg (fun q => AV.val (.int .i64 q)) (e0), ?_⟩
              | refine ⟨congrArg (fun q => AV.slc 1 q) (e0), ?_⟩
              | refine ⟨congrArg (fun q => AV.slc 0 q) (e0), ?_⟩
              | refine ⟨congrArg (fun q => AV.val (.bool q)) (e0), ?_⟩
              | refine ⟨congrArg (fun q => AV.val (.int .i32 q)) (e0), ?_⟩
              | refine ⟨congrArg (fun q => AV.val (.string q)) (e0), ?_⟩
              | refine ⟨fin, ?_⟩
              | refine ⟨congrArg (fun q => AV.val (.int .i64 q)) (fin), ?_⟩
              | refine ⟨congrArg (fun q => AV.slc 1 q) (fin), ?_⟩
              | refine ⟨congrArg (fun q => AV.slc 0 q) (fin), ?_⟩
              | refine ⟨congrArg (fun q => AV.val (.bool q)) (fin), ?_⟩
              | refine ⟨congrArg (fun q => AV.val (.int .i32 q)) (fin), ?_⟩
              | refine ⟨congrArg (fun q => AV.val (.string q)) (fin), ?_⟩
end Go.Proofs.Ytblafdmmebiagaa
namespace Go.Proofs.Ytblafdmmebiagaa
open Go.RowKit Go.Lib
def mk0 : Mk := ⟨[], [], [⟨[], []⟩]⟩
def markM (bs : List UInt8) : Mk := kidF 0 (addF (leafF 23 bs) mk0)
def firstM (b : List UInt8) : Mk := if 0 < (kindF b).2 then markM (b.take (kindF b).2.toNat) else mk0
def parseM (b : List UInt8) : Mk := allM (textF' b) b (firstM b)
def treeA (t : Txt) (m : Mk) : AV := .agg [.val (.int .i64 t.kind), .val (.int .i64 t.bom), .slc 1 (runesA t.r), .slc 1 (intsA t.off), .ref [.slc 6 (nodesA (rootM m).n)], .val (.int .i64 m.n.length), .slc 3 (dgsA m.d)]
def csPaM (kd bm : Int) (R O : List AV) (rt : Int) (an ad asx N1 S1 : List AV) : Nat → List AV → List Ob → Option (AV × List Ob) := fun f args ob => match f, args with
  | 26, [.slc 1 _] => some (.agg [.val (.int .i64 kd), .val (.int .i64 bm), .slc 1 R, .slc 1 O], [])
  | 27, [] => some (.box 0 0, [.box [.val (.slice none 0 0)]])
  | 29, [.box 0 0, .val (.int .i64 _), .slc 1 _] => match ob with
    | [.box [.val (.slice none 0 0)]] => some (.val (.int .i64 0), [.box [.row 1 1], .row 74 6 false 1 N1])
    | _ => none
  | 28, [.box 0 0, .val (.int .i64 _)] => match ob with
    | [.box [b, .box 1 0, .row 4 0], .box [k, m, r, o, .box 2 0, q, .val (.slice none 0 0)], .box [.row 3 0], .row 74 6 false 0 N, .row 66 2 false 0 _] =>
      some (.tup [], [.box [b, .box 1 0, .row 4 1], .box [k, m, r, o, .box 2 0, q, .row 5 1], .box [.row 3 1], .row 74 6 false 1 N, .row 66 2 false 1 S1, .row 47 3 false 1 []])
    | _ => none
  | 30, [.box 0 0] => match ob with
    | [.box [b, .box 1 0, .row 3 0], .box [k, m, r, o, .box 2 0, _, .val (.slice none 0 0)], .box [.val (.slice none 0 0)], .row 66 2 false 0 _] =>
      some (.tup [], [.box [b, .box 1 0, .row 3 1], .box [k, m, r, o, .box 2 0, .val (.int .i64 rt), .row 4 1], .box [.row 5 1], .row 66 2 false 1 asx, .row 47 3 false 1 ad, .row 74 6 false 1 an])
    | _ => withM ob fun b k m r o _ _ _ _ => some (.tup [], obM 1 b k m r o (.val (.int .i64 rt)) an ad asx)
  | _, _ => none
theorem mk0_inv : MkI mk0 [] 2 2 :=
  have h : ∀ x ∈ mk0.s, x = ⟨[], []⟩ := fun x hx => by simpa [mk0] using hx
  ⟨⟨ar_nil, (fun x hx => by rw [h x hx]; exact fun k hk => by cases hk), rfl, Nat.le_refl _, Nat.le_refl _, Nat.le_refl _, Nat.le_refl _, (fun x hx => by rw [h x hx]; exact Nat.zero_le _)⟩, Nat.le_refl _⟩
theorem mark_inv (bs : List UInt8) : MkI (markM bs) bs 3 2 := by
  have h := mk0_inv
  have ha := ar_leaf h.i.ar 23 bs
  exact ⟨inv_kid h.i ha.1 ha.2, co_leafkid h.i h.c 23 bs⟩
theorem upTo_zero (b : List UInt8) : upTo (textF' b) b 0 = b.take (kindF b).2.toNat := by
  rw [upTo, offA, show (0 : Int).toNat = 0 from rfl, (text_ok b).2.1]
theorem first_inv (b : List UInt8) : MkI (firstM b) (upTo (textF' b) b 0) 3 2 := by
  rw [upTo_zero, firstM]
  have hb := kind_bom b
  split
  · exact mark_inv _
  · have : (kindF b).2 = 0 := by omega
    rw [this]
    exact ⟨mk0_inv.i.mono (by omega) (Nat.le_refl _), mk0_inv.c⟩
theorem text_sml (b : List UInt8) (hb : b.length ≤ 100000) : Sml (textF' b) b := ⟨by omega, Nat.le_trans (text_ok b).2.2.1 (by omega), (text_ok b).1⟩
theorem all_new (t : Txt) (b : List UInt8) (hs : Sml t b) (B D : Nat) (iv : MkI mk0 (upTo t b 0) B D) (hB : B + 3 * t.r.length ≤ 600000) (hD : D + 3 * t.r.length ≤ 600000) :
    BCall Try.prog 30 [.box 0 0] [.box [.slc 1 (bytesA b), .box 1 0, .row 3 0], .box [.val (.int .i64 t.kind), .val (.int .i64 t.bom), .slc 1 (runesA t.r), .slc 1 (intsA t.off), .box 2 0, .val (.int .i64 0), .val (.slice none 0 0)], .box [.val (.slice none 0 0)], .row 66 2 false 0 (opnsA mk0.s)] (.tup [])
      [.box [.slc 1 (bytesA b), .box 1 0, .row 3 1], .box [.val (.int .i64 t.kind), .val (.int .i64 t.bom), .slc 1 (runesA t.r), .slc 1 (intsA t.off), .box 2 0, .val (.int .i64 (allM t b mk0).n.length), .row 4 1], .box [.row 5 1], .row 66 2 false 1 (opnsA (rootM (allM t b mk0)).s), .row 47 3 false 1 (dgsA (rootM (allM t b mk0)).d), .row 74 6 false 1 (nodesA (rootM (allM t b mk0)).n)] := by
  have h := all_b t b hs 0 mk0 B D iv hB hD
  unfold obT obM at h
  exact h.tell [some 0, some 1, some 2, none, none, some 3] [some 0, some 1, some 2, some 5, some 4, some 3] rfl rfl rfl (Nat.le_of_ble_eq_true rfl) rfl (by simp [AllEq, nodesA, dgsA, mk0]) (res' := .tup []) rfl (by simp [AllEq]) trivial
theorem kid_new (t : Txt) (b : List UInt8) (m : Mk) (hd : m.d = []) (hs : 1 ≤ m.s.length) (hn : m.s.length ≤ 1000000) (hk : (topF m.s).kids.length ≤ 1000000) (n : Int) :
    BCall Try.prog 28 [.box 0 0, .val (.int .i64 n)] [.box [.slc 1 (bytesA b), .box 1 0, .row 4 0], .box [.val (.int .i64 t.kind), .val (.int .i64 t.bom), .slc 1 (runesA t.r), .slc 1 (intsA t.off), .box 2 0, .val (.int .i64 0), .val (.slice none 0 0)], .box [.row 3 0], .row 74 6 false 0 (nodesA m.n), .row 66 2 false 0 (opnsA m.s)] (.tup [])
      [.box [.slc 1 (bytesA b), .box 1 0, .row 4 1], .box [.val (.int .i64 t.kind), .val (.int .i64 t.bom), .slc 1 (runesA t.r), .slc 1 (intsA t.off), .box 2 0, .val (.int .i64 0), .row 5 1], .box [.row 3 1], .row 74 6 false 1 (nodesA m.n), .row 66 2 false 1 (opnsA (kidS n m.s)), .row 47 3 false 1 []] := by
  have h := kid_b t b 0 m hs hn hk n
  unfold obT obM at h
  exact h.tell [some 0, some 1, some 2, some 3, none, some 4] [some 0, some 1, some 2, some 3, some 5, some 4] rfl rfl rfl (Nat.le_of_ble_eq_true rfl) rfl (by simp [AllEq, dgsA, hd]) (res' := .tup []) rfl (by simp [AllEq, dgsA, kidF, hd]) trivial
set_option maxRecDepth 20000 in
set_option maxHeartbeats 2000000 in
theorem Parse_b (b : List UInt8) (hb : b.length ≤ 100000) : BCall Try.prog 8 [.slc 1 (bytesA b)] [] (treeA (textF' b) (parseM b)) [] := by
  obtain ⟨ok, h1, h2, h3, h4⟩ := text_ok b
  have hs := text_sml b hb
  have cD := Decode_b b (by omega) (by omega) (fun x hx => by have := h4 x hx; omega)
  have hkb := kind_bom b
  have hE : parseM b = allM (textF' b) b (firstM b) := rfl
  have hiv := first_inv b
  have hrl := hs.hr
  have c0 := fun (h : firstM b = mk0) => all_new (textF' b) b hs 3 2 (by rw [← h]; exact hiv) (by omega) (by omega)
  have c1 := all_b (textF' b) b hs 0 (firstM b) 3 2 hiv (by omega) (by omega)
  rw [← hE] at c1
  obtain ⟨M, hM⟩ : ∃ M, M = parseM b := ⟨_, rfl⟩
  rw [← hM] at c1 hE ⊢
  have cL := Leaf0_b 23 (b.take (kindF b).2.toNat) (by rw [List.length_take]; omega)
  have cK := kid_new (textF' b) b (addF (leafF 23 (b.take (kindF b).2.toNat)) mk0) rfl (Nat.le_refl _) (Nat.le_of_ble_eq_true rfl) (Nat.zero_le _) 0
  obtain ⟨t, ht⟩ : ∃ t, t = textF' b := ⟨_, rfl⟩
  have htb : t.bom = (kindF b).2 := by rw [ht]; rfl
  rw [← ht] at cD c0 c1 cK hE ⊢
  rw [← htb] at cL cK hkb
  have hf : firstM b = if 0 < t.bom then markM (b.take t.bom.toNat) else mk0 := by rw [htb]; rfl
  obtain ⟨nb, hnb⟩ := exLen b
  have hbn : t.bom ≤ nb := by rw [hnb.eq]; exact hkb.2
  have hb0 := hkb.1
  have hcut : std.cut (bytesA b) 0 t.bom = bytesA (b.take t.bom.toNat) := by
    show ((bytesA b).drop (0 : Int).toNat).take (t.bom - 0).toNat = _
    simp [bytesA, List.map_take]
  have hbl := bytes_len b
  clear h1 h2 h3 h4 hkb hrl
  refine bcall_of (cs := csPaM t.kind t.bom (runesA t.r) (intsA t.off) M.n.length (nodesA (rootM M).n) (dgsA M.d) (opnsA M.s) (nodesA [leafF 23 (b.take t.bom.toNat)]) (opnsA (kidS 0 mk0.s))) (ord := fun _ => .nil) tyOk (by kernel_rfl) Try.func8 rfl (enters_of Try.func8 (by kernel_rfl) rfl) (Nat.le_of_ble_eq_true rfl) (by kernel_rfl) (by kernel_rfl) ?_
  intro w0 g0
  generalize hp : std = p
  generalize hN1 : nodesA [leafF 23 (b.take t.bom.toNat)] = N1
  generalize hS1 : opnsA (kidS 0 mk0.s) = S1
  generalize hrt : (M.n.length : Int) = rt
  generalize han : nodesA (rootM M).n = an
  generalize had : dgsA M.d = ad
  generalize hasx : opnsA M.s = asx
  generalize hbm : t.bom = bm
  generalize hkd : t.kind = kd
  generalize hR : runesA t.r = R
  generalize hO : intsA t.off = O
  generalize hB' : bytesA b = B'
  generalize hT : aexec p tys (csPaM kd bm R O rt an ad asx N1 S1) _ _ _ _ = T
  cbv at hT
  subst hT
  simp only [Tree.ok, RoundOk, Bool.false_eq_true, Bool.true_eq_false, false_implies, true_implies, and_true, true_and]
  subst hp hN1 hS1 hrt han had hasx hbm hkd hR hO hB'
  refine ⟨cD, New_b, fun h => ⟨?_, ?_, cK, ?_, .pure rfl ⟨.inl rfl, .inl rfl, .inl rfl, .inl rfl, .inl rfl, .inl rfl, .inl rfl, trivial⟩⟩, fun h => ⟨?_, .pure rfl ⟨.inl rfl, .inl rfl, .inl rfl, .inl rfl, .inl rfl, .inl rfl, .inl rfl, trivial⟩⟩⟩
  · show 0 ≤ (0 : Int) ∧ 0 ≤ t.bom ∧ t.bom ≤ ((bytesA b).length : Int)
    have := hnb.eq
    rw [hbl]; omega
  · show BCall _ _ [.box 0 0, .val (.int .i64 23), .slc 1 (std.cut (bytesA b) 0 t.bom)] _ _ _
    rw [hcut]; exact cL
  · have h : 0 < t.bom := of_decide_eq_true h
    rw [if_pos h] at hf
    rw [hf] at c1
    exact c1
  · have h : ¬ 0 < t.bom := of_decide_eq_false h
    rw [if_neg h] at hf
    have c := c0 hf
    rw [hf] at hE
    rw [← hE] at c
    exact c
def csTp (pr : Int → List AV) : Nat → List AV → List Ob → Option (AV × List Ob) := fun f args _ => match f, args with
  | 31, [.ref [.slc 6 _], .val (.int .i64 n)] => some (.slc 1 (pr n), [])
  | _, _ => none
def prA (l : List Node) (n : Int) : List AV := bytesA (pr l n)
structure PrOk (l : List Node) (n : Int) : Prop where
  len : l.length ≤ 1000000000
  wf : Wf l
  wide : Wide l
  h0 : 0 ≤ n
  h1 : n < l.length
  p : (pr l n).length ≤ 1000000
  c : co l n ≤ 1000000
theorem TPrint_b (t : Txt) (m : Mk) (h : PrOk (rootM m).n m.n.length) : BCall Try.prog 9 [treeA t m] [] (.slc 1 (bytesA (pr (rootM m).n m.n.length))) [] := by
  have cP := Print_b (rootM m).n h.len h.wf h.wide m.n.length h.h0 h.h1 h.p h.c
  obtain ⟨rt, hrt⟩ : ∃ rt : Int, rt = m.n.length := ⟨_, rfl⟩
  obtain ⟨l, hl⟩ : ∃ l, l = (rootM m).n := ⟨_, rfl⟩
  unfold treeA
  rw [← hrt, ← hl] at cP ⊢
  clear h
  refine bcall_of (cs := csTp (prA l)) (ord := fun _ => .nil) tyOk (by kernel_rfl) Try.func9 rfl (enters_of Try.func9 (by kernel_rfl) rfl) (Nat.le_of_ble_eq_true rfl) (by kernel_rfl) (by kernel_rfl) ?_
  intro w0 g0
  generalize hp : std = p
  generalize hpr : prA l = pr
  generalize hN : nodesA l = N
  generalize hR : runesA t.r = R
  generalize hO : intsA t.off = O
  generalize hD' : dgsA m.d = D'
  generalize hK : t.kind = K
  generalize hM : t.bom = M
  generalize hT : aexec p tys (csTp pr) _ _ _ _ = T
  cbv at hT
  subst hT
  simp only [Tree.ok, RoundOk, Bool.false_eq_true, Bool.true_eq_false, false_implies, true_implies, and_true, true_and]
  subst hp hpr hN hR hO hD' hK hM
  exact ⟨cP, .pure rfl (.inl rfl)⟩
def csTc (N : List AV) : Nat → List AV → List Ob → Option (AV × List Ob) := fun f args _ => match f, args with
  | 34, [.ref [.slc 6 _], .val (.int .i64 n)] => some (.tup [.agg [.ref [.slc 6 N], .val (.int .i64 n), .val (.int .i64 0), .val (.int .i64 0), .opt (.val (.pointer none))], .val (.int .i64 0)], [])
  | _, _ => none
theorem TCursor_b (t : Txt) (m : Mk) : BCall Try.prog 12 [treeA t m] [] (.agg ((Cur.root m.n.length).cs (nodesA (rootM m).n))) [] := by
  have cR := Root_b (rootM m).n m.n.length (by omega) (by show (m.n.length : Int) < ((m.n ++ [_]).length : Int); simp only [List.length_append, List.length_singleton]; omega)
  obtain ⟨rt, hrt⟩ : ∃ rt : Int, rt = m.n.length := ⟨_, rfl⟩
  obtain ⟨l, hl⟩ : ∃ l, l = (rootM m).n := ⟨_, rfl⟩
  unfold treeA
  rw [← hrt, ← hl] at cR ⊢
  refine bcall_of (cs := csTc (nodesA l)) (ord := fun _ => .nil) tyOk (by kernel_rfl) Try.func12 rfl (enters_of Try.func12 (by kernel_rfl) rfl) (Nat.le_of_ble_eq_true rfl) (by kernel_rfl) (by kernel_rfl) ?_
  intro w0 g0
  generalize hp : std = p
  generalize hN : nodesA l = N
  generalize hR : runesA t.r = R
  generalize hO : intsA t.off = O
  generalize hD' : dgsA m.d = D'
  generalize hK : t.kind = K
  generalize hM : t.bom = M
  generalize hT : aexec p tys (csTc N) _ _ _ _ = T
  cbv at hT
  subst hT
  simp only [Tree.ok, RoundOk, Bool.false_eq_true, Bool.true_eq_false, false_implies, true_implies, and_true, true_and]
  subst hp hN hR hO hD' hK hM
  exact ⟨cR, .pure rfl ⟨.inl rfl, .inl rfl, .inl rfl, .inl rfl, .inl rfl, trivial⟩⟩
end Go.Proofs.Ytblafdmmebiagaa
namespace Go.Proofs.Ytblafdmmebiagaa
open Go.RowKit Go.Lib
def exB : List UInt8 := [60, 97, 62, 60, 98, 62, 60, 47, 97, 62]
theorem ex_d : (parseM exB).d = [⟨6, 6, 4⟩] := by cbv
theorem ex_to : (toC (rootM (parseM exB)).n (Cur.root (parseM exB).n.length) [0, 1, 1]).map (fun c => (nodeAt (rootM (parseM exB)).n c.n).kind) = some 22 := by cbv
end Go.Proofs.Ytblafdmmebiagaa
namespace Go.Proofs.Ytblafdmmebiagaa
open Go.RowKit Go.Lib
structure CurIn (l : List Node) (W C : Nat) (c : Cur) : Prop where
  h0 : 0 ≤ c.n
  h1 : c.n < l.length
  f0 : 0 ≤ c.f
  w : c.f + (nodeAt l c.n).width ≤ W
  co : co l c.n ≤ C
theorem coL_len (l : List Node) (ks : List Int) : ks.length ≤ coL l ks := by
  induction ks with
  | nil => exact Nat.zero_le _
  | cons k r ih => have := co_pos l k; simp only [coL, List.map_cons, List.sum_cons, List.length_cons] at ih ⊢; omega
theorem coL_mem (l : List Node) {ks : List Int} {k : Int} (h : k ∈ ks) : co l k ≤ coL l ks := by
  induction ks with
  | nil => cases h
  | cons x r ih =>
    simp only [coL, List.map_cons, List.sum_cons] at ih ⊢
    rcases List.mem_cons.1 h with rfl | h
    · omega
    · have := ih h; omega
section
variable {l : List Node} {W C : Nat} {c : Cur}
theorem CurIn.kids (ha : Ar l) (h : CurIn l W C c) : InR l (kidsAt l c) := fun k hk => by
  have h1 := ha.wf c.n h.h0 h.h1 k hk
  have := h.h1
  omega
theorem CurIn.wide (ha : Ar l) (h : CurIn l W C c) : wsum l (kidsAt l c) ≤ (nodeAt l c.n).width ∧ 0 ≤ (nodeAt l c.n).width := by
  rw [ha.wide c.n h.h0 h.h1, wsum_pr ha.wide (h.kids ha), pr_eq ha.wf h.h0 h.h1, List.length_append]
  show (((kidsAt l c).flatMap (pr l)).length : Int) ≤ (((nodeAt l c.n).b.length + ((kidsAt l c).flatMap (pr l)).length : Nat) : Int) ∧ _
  omega
theorem CurIn.cos (ha : Ar l) (h : CurIn l W C c) : 1 + coL l (kidsAt l c) ≤ C := by
  have := h.co
  rw [co_eq ha.wf h.h0 h.h1] at this
  exact this
theorem CurIn.ok (ha : Ar l) (h : CurIn l W C c) (hW : W ≤ 2147483647) (hC : C ≤ 1000000) : CurOk l c := by
  have h1 := h.wide ha
  have h2 := h.cos ha
  have h3 := coL_len l (kidsAt l c)
  have h4 := h.w
  have h5 := h.f0
  exact ⟨by omega, by omega, h5, by omega⟩
theorem CurIn.down (ha : Ar l) (h : CurIn l W C c) {k : Int} (h0 : 0 ≤ k) (h1 : k < (kidsAt l c).length) : CurIn l W C (downC l c k) := by
  have hk : k.toNat < (kidsAt l c).length := by omega
  have hx : (kidsAt l c)[k.toNat]?.getD 0 = (kidsAt l c)[k.toNat] := by rw [List.getElem?_eq_getElem hk]; rfl
  have hm : (kidsAt l c)[k.toNat] ∈ kidsAt l c := List.getElem_mem hk
  have hr := h.kids ha _ hm
  have hw := h.wide ha
  have hc := h.cos ha
  have hcm := coL_mem l hm
  have hs1 := wsum_pos ha.ok.w ((kidsAt l c).take k.toNat)
  have hs2 := wsum_le ha.ok.w (kidsAt l c) (k.toNat + 1)
  have hs3 : wsum l ((kidsAt l c).take (k.toNat + 1)) = wsum l ((kidsAt l c).take k.toNat) + (nodeAt l (kidsAt l c)[k.toNat]).width := by
    rw [List.take_add_one, List.getElem?_eq_getElem hk]
    show (((kidsAt l c).take k.toNat ++ [(kidsAt l c)[k.toNat]]).map (widthN l)).sum = _
    rw [List.map_append, List.sum_append]
    simp [wsum, widthN]
  have h4 := h.w
  have h5 := h.f0
  refine ⟨?_, ?_, ?_, ?_, ?_⟩
  · show 0 ≤ (kidsAt l c)[k.toNat]?.getD 0
    rw [hx]; exact hr.1
  · show (kidsAt l c)[k.toNat]?.getD 0 < _
    rw [hx]; exact hr.2
  · show 0 ≤ c.f + wsum l ((kidsAt l c).take k.toNat)
    omega
  · show c.f + wsum l ((kidsAt l c).take k.toNat) + (nodeAt l ((kidsAt l c)[k.toNat]?.getD 0)).width ≤ W
    rw [hx]; omega
  · show Go.Proofs.Ytblafdmmebiagaa.co l ((kidsAt l c)[k.toNat]?.getD 0) ≤ C
    rw [hx]; omega
end
theorem CurIn.to {l : List Node} {W C : Nat} (ha : Ar l) : ∀ (p : List Int) (c x : Cur), CurIn l W C c → toC l c p = some x → CurIn l W C x
  | [], c, x, h, e => by
    obtain rfl : c = x := by simpa [toC] using e
    exact h
  | k :: r, c, x, h, e => by
    have e : (if 0 ≤ k ∧ k < (kidsAt l c).length then toC l (downC l c k) r else none) = some x := e
    split at e
    · rename_i hk
      exact CurIn.to ha r _ x (h.down ha hk.1 hk.2) e
    · cases e
structure TreeOk (b : List UInt8) (m : Mk) : Prop where
  ar : Ar (rootM m).n
  p : pr (rootM m).n m.n.length = b
  w : (nodeAt (rootM m).n m.n.length).width = b.length
  c : co (rootM m).n m.n.length ≤ 400000
  n : (rootM m).n.length ≤ 400000
  s : m.s.length = 1
theorem parse_ok (b : List UInt8) (hb : b.length ≤ 100000) : TreeOk b (parseM b) := by
  have hs := text_sml b hb
  have hr := (text_ok b).2.2.1
  obtain ⟨h1, h2⟩ := inv_all hs.ok hs.hr (first_inv b)
  have h1 : MkI (parseM b) b (3 + 3 * (textF' b).r.length) (2 + 3 * (textF' b).r.length) := h1
  have h2 : (parseM b).s.length = 1 := h2
  obtain ⟨k1, k2, k3, k4⟩ := root_prints h1 h2
  have hn := h1.i.n
  exact ⟨k1, k2, k3, by omega, by show ((parseM b).n ++ [_]).length ≤ _; simp only [List.length_append, List.length_singleton]; omega, h2⟩
theorem root_lt (m : Mk) : (m.n.length : Int) < ((rootM m).n.length : Int) := by
  show (m.n.length : Int) < ((m.n ++ [_]).length : Int)
  simp only [List.length_append, List.length_singleton]; omega
theorem TreeOk.pr {b : List UInt8} {m : Mk} (h : TreeOk b m) (hb : b.length ≤ 100000) : PrOk (rootM m).n m.n.length :=
  ⟨by have := h.n; omega, h.ar.wf, h.ar.wide, by omega, root_lt m, by rw [h.p]; omega, by have := h.c; omega⟩
theorem TreeOk.root {b : List UInt8} {m : Mk} (h : TreeOk b m) : CurIn (rootM m).n b.length 400000 (.root m.n.length) :=
  ⟨by show (0 : Int) ≤ m.n.length; omega, root_lt m, Int.le_refl _, by show (0 : Int) + (nodeAt (rootM m).n m.n.length).width ≤ _; rw [h.w]; omega, h.c⟩
theorem strB_bytes (l : List UInt8) : std.strB (bytesA l) = ⟨l.toArray⟩ := by
  show (⟨((bytesA l).map byteOf).toArray⟩ : ByteArray) = _
  rw [bytes_back]
theorem eqS_self (a : ByteArray) : std.eqS a a = true := by
  show (a.toList == a.toList) = true
  exact beq_self_eq_true _
def csAw (K M rt tn tf tk : Int) (R O N D PB : List AV) (U : AV) : Nat → List AV → List Ob → Option (AV × List Ob) := fun f args _ => match f, args with
  | 8, [.slc 1 _] => some (.agg [.val (.int .i64 K), .val (.int .i64 M), .slc 1 R, .slc 1 O, .ref [.slc 6 N], .val (.int .i64 rt), .slc 3 D], [])
  | 12, [.agg _] => some (.agg [.ref [.slc 6 N], .val (.int .i64 rt), .val (.int .i64 0), .val (.int .i64 0), .opt (.val (.pointer none))], [])
  | 33, [.agg _, .slc 1 _] => some (.tup [.agg [.ref [.slc 6 N], .val (.int .i64 tn), .val (.int .i64 tf), .val (.int .i64 tk), .opt U], .val (.bool true)], [])
  | 9, [.agg _] => some (.slc 1 PB, [])
  | 21, [.agg _] => some (.val (.int .i64 22), [])
  | _, _ => none
set_option maxRecDepth 20000 in
set_option maxHeartbeats 2000000 in
theorem awake_b : BCall Try.prog 11 [] [] (.val (.bool true)) [] := by
  have hb : exB.length ≤ 100000 := by decide
  have hO := parse_ok exB hb
  have cP := Parse_b exB hb
  have cC := TCursor_b (textF' exB) (parseM exB)
  have cPr := TPrint_b (textF' exB) (parseM exB) (hO.pr hb)
  rw [hO.p] at cPr
  have hd := ex_d
  have hto := ex_to
  obtain ⟨x, hx, hk⟩ := Option.map_eq_some_iff.1 hto
  have cT := To_b (rootM (parseM exB)).n hO.ar.ok.w (.root (parseM exB).n.length) [0, 1, 1] (by decide) (fun j x h => (CurIn.to hO.ar _ _ _ hO.root h).ok hO.ar (by decide) (by decide))
  rw [hx] at cT
  have cK := CKind_b (rootM (parseM exB)).n x
  rw [hk] at cK
  generalize parseM exB = m at cP cC cPr cT cK hd
  generalize textF' exB = t at cP cC cPr
  obtain ⟨rt, hrt⟩ : ∃ rt : Int, rt = m.n.length := ⟨_, rfl⟩
  unfold treeA at cP cC cPr
  simp only [toCs, Cur.cs, Option.isSome_some, hd] at cP cC cPr cT cK
  rw [← hrt] at cP cC cPr cT
  clear hO hb hto hx hk hd
  refine bcall_of (cs := csAw t.kind t.bom rt x.n x.f x.k (runesA t.r) (intsA t.off) (nodesA (rootM m).n) [.agg [.val (.int .i64 6), .val (.int .i64 6), .val (.int .i64 4)]] (bytesA exB) (upO (nodesA (rootM m).n) x)) (ord := fun _ => .nil) tyOk (by kernel_rfl) Try.func11 rfl (enters_of Try.func11 (by kernel_rfl) rfl) (Nat.le_of_ble_eq_true rfl) (by kernel_rfl) (by kernel_rfl) ?_
  intro w0 g0
  generalize hp : std = p
  generalize hU : upO (nodesA (rootM m).n) x = U
  generalize hN : nodesA (rootM m).n = N
  generalize htn : x.n = tn
  generalize htf : x.f = tf
  generalize htk : x.k = tk
  generalize hK : t.kind = K
  generalize hM : t.bom = M
  generalize hR : runesA t.r = R
  generalize hO : intsA t.off = O
  generalize hPB : bytesA exB = PB
  generalize hT : aexec p tys (csAw K M rt tn tf tk R O N [.agg [.val (.int .i64 6), .val (.int .i64 6), .val (.int .i64 4)]] PB U) _ _ _ _ = T
  cbv at hT
  subst hT
  simp only [Tree.ok, RoundOk, Bool.false_eq_true, Bool.true_eq_false, false_implies, true_implies, and_true, true_and]
  subst hp hU hN htn htf htk hK hM hR hO hPB
  have hS : std.eqS (std.strB (bytesA exB)) ⟨#[60, 97, 62, 60, 98, 62, 60, 47, 97, 62]⟩ = true := by rw [strB_bytes]; exact eqS_self _
  repeat' first
    | (with_reducible apply And.intro)
    | (with_reducible intro hh)
  all_goals first
    | exact cP
    | exact cC
    | exact cT
    | exact cPr
    | exact cK
    | exact isB_bytesA _
    | exact eqDiag
    | exact absurd (hS.symm.trans hh) (by decide)
    | exact absurd hh (by decide)
    | exact .pure rfl (.inl rfl)
    | exact List.cons_ne_nil _ _
    | exact ⟨rfl, rfl, rfl, trivial⟩
    | exact ⟨(by decide : (0 : Int) ≤ 0), (by decide : (0 : Int) < 1)⟩
end Go.Proofs.Ytblafdmmebiagaa
namespace Go.Proofs.Ytblafdmmebiagaa
open Go.RowKit Go.Lib
def NodeOk (x : Node) : Prop := x.b = [] ∨ x.kids = []
def DgOk (n : Nat) (x : Dg) : Prop := 0 ≤ x.f ∧ x.f ≤ x.t ∧ x.t ≤ n ∧ 1 ≤ x.c ∧ x.c ≤ 5
structure MkS (z : Nat) (m : Mk) : Prop where
  n : ∀ x ∈ m.n, NodeOk x
  d : ∀ x ∈ m.d, DgOk z x
theorem nodes_more {l : List Node} (h : ∀ x ∈ l, NodeOk x) {y : Node} (hy : NodeOk y) : ∀ x ∈ l ++ [y], NodeOk x := fun x hx => by
  rcases List.mem_append.1 hx with hx | hx
  · exact h x hx
  · obtain rfl : x = y := by simpa using hx
    exact hy
theorem leaf_ok (k : Int) (b : List UInt8) : NodeOk (leafF k b) := .inr rfl
theorem branch_ok (l : List Node) (k : Int) (ks : List Int) : NodeOk (branchF l k ks) := .inl rfl
section
variable {n : Nat} {m : Mk}
theorem MkS.add (h : MkS n m) {y : Node} (hy : NodeOk y) : MkS n (addF y m) := ⟨nodes_more h.n hy, h.d⟩
theorem MkS.kid (h : MkS n m) (k : Int) : MkS n (kidF k m) := ⟨h.n, h.d⟩
theorem MkS.lk (h : MkS n m) (t : Txt) (b : List UInt8) (kind f u : Int) : MkS n (lkF t b kind f u m) := (h.add (leaf_ok _ _)).kid _
theorem MkS.shut (h : MkS n m) (l : Int) : MkS n (shutF l m) := ⟨nodes_more h.n (branch_ok _ _ _), h.d⟩
structure Plc (t : Txt) (n : Nat) (f u : Int) : Prop where
  h0 : 0 ≤ offA t f
  h1 : offA t f ≤ offA t u
  h2 : offA t u ≤ n
theorem MkS.wrong (h : MkS n m) (t : Txt) {c f u : Int} (hp : Plc t n f u) (hc : 1 ≤ c ∧ c ≤ 5) : MkS n (wrongF t c f u m) := ⟨h.n, fun x hx => by
  rcases List.mem_append.1 hx with hx | hx
  · exact h.d x hx
  · obtain rfl : x = ⟨offA t f, offA t u, c⟩ := by simpa using hx
    exact ⟨hp.h0, hp.h1, hp.h2, hc.1, hc.2⟩⟩
theorem Plc.same {t : Txt} {f u : Int} (h : Plc t n f u) : Plc t n f f := ⟨h.h0, Int.le_refl _, Int.le_trans h.h1 h.h2⟩
theorem MkS.miss (h : MkS n m) (t : Txt) {a : Int} (hp : Plc t n a a) : MkS n (missF t a m) := ((h.wrong t hp (by decide)).add (leaf_ok _ _)).shut _
end
theorem MkS.missGo {n : Nat} (t : Txt) {f : Int} (hp : Plc t n f f) (k : Nat) : ∀ (j : Nat) (m : Mk), MkS n m → MkS n (missGo t f k j m)
  | 0, _, h => h
  | j + 1, m, h => by
    show MkS n (if _ then _ else _)
    split
    · exact MkS.missGo t hp k j _ (h.miss t hp)
    · exact h
section
variable {n : Nat} {m : Mk}
theorem MkS.start (h : MkS n m) (t : Txt) (b : List UInt8) (kind : Int) {f u : Int} (hp : Plc t n f u) : MkS n (startF' t b kind f u m) := by
  unfold startF'
  split
  · exact (h.wrong t hp (by decide)).lk t b kind f u
  · exact MkS.lk (m := { m with s := m.s ++ [⟨nameF' t f u, []⟩] }) ⟨h.n, h.d⟩ t b kind f u
theorem MkS.end_ (h : MkS n m) (t : Txt) (b : List UInt8) (kind : Int) {f u : Int} (hp : Plc t n f u) : MkS n (endF' t b kind f u m) := by
  unfold endF'
  simp only
  split
  · exact (h.wrong t hp (by decide)).lk t b kind f u
  · exact ((MkS.missGo t hp.same _ _ _ h).add (leaf_ok _ _)).shut _
theorem MkS.token (h : MkS n m) (t : Txt) (b : List UInt8) (kind : Int) {f u : Int} (wh : Bool) (hp : Plc t n f u) : MkS n (tokenF t b kind f u wh m) := by
  unfold tokenF
  simp only
  generalize hm1 : (if wh = false then wrongF t 1 f u m else if (kind = 8 ∨ kind = 9 ∨ kind = 10) ∧ (readF t.r f u).right = false then wrongF t 2 f u m else m) = m1
  have h1 : MkS n m1 := by
    rw [← hm1]
    split
    · exact h.wrong t hp (by decide)
    · split
      · exact h.wrong t hp (by decide)
      · exact h
  split
  · exact h1.start t b kind hp
  · split
    · exact h1.end_ t b kind hp
    · exact h1.lk t b kind f u
end
theorem plc_of {t : Txt} {b : List UInt8} (ok : TxtOk t b) {f u : Int} (h0 : 0 ≤ f) (h1 : f ≤ u) (h2 : u ≤ t.r.length) : Plc t b.length f u := by
  have hm := ok.mono f.toNat u.toNat (by omega) (by omega)
  have hlen := ok.len
  have hf : f.toNat < t.off.length := by omega
  have hu : u.toNat < t.off.length := by omega
  have h3 := ok.range (t.off[f.toNat]'hf) (List.getElem_mem hf)
  have h4 := ok.range (t.off[u.toNat]'hu) (List.getElem_mem hu)
  have e3 : t.off[f.toNat]?.getD 0 = t.off[f.toNat] := by rw [List.getElem?_eq_getElem hf]; rfl
  have e4 : t.off[u.toNat]?.getD 0 = t.off[u.toNat] := by rw [List.getElem?_eq_getElem hu]; rfl
  rw [← e3] at h3
  rw [← e4] at h4
  exact ⟨h3.1, hm, h4.2⟩
theorem MkS.toks {t : Txt} {b : List UInt8} (ok : TxtOk t b) : ∀ (n k : Nat) (m : Mk), t.r.length - k ≤ n → MkS b.length m → MkS b.length ((toksGo t.r k).foldl (tokM t b) m)
  | 0, k, m, h, hi => by
    rw [toksGo_nil (by omega)]; exact hi
  | n + 1, k, m, h, hi => by
    by_cases hlt : k < t.r.length
    · obtain ⟨h1, h2, h3, h4⟩ := tok_in t.r hlt
      rw [toksGo_cons hlt, List.foldl_cons]
      have hp : Plc t b.length (tokAt t.r k).from_ (tokAt t.r k).to := plc_of ok (by omega) (by omega) (by omega)
      exact MkS.toks ok n (nextTF t.r k).2.1 _ (by omega) (hi.token t b _ _ hp)
    · rw [toksGo_nil hlt]; exact hi
theorem MkS.all {t : Txt} {b : List UInt8} (ok : TxtOk t b) {m : Mk} (hi : MkS b.length m) : MkS b.length (allM t b m) :=
  MkS.missGo t (plc_of ok (by omega) (Int.le_refl _) (Int.le_refl _)) 0 _ _ (MkS.toks ok t.r.length 0 m (by omega) hi)
theorem first_s (b : List UInt8) (n : Nat) : MkS n (firstM b) := by
  have h0 : MkS n mk0 := ⟨(fun x hx => by cases hx), fun x hx => by cases hx⟩
  unfold firstM
  split
  · exact (h0.add (leaf_ok _ _)).kid _
  · exact h0
theorem parse_s (b : List UInt8) : MkS b.length (parseM b) := MkS.all (text_ok b).1 (first_s b _)
theorem parse_nodes (b : List UInt8) : ∀ x ∈ (rootM (parseM b)).n, NodeOk x := nodes_more (parse_s b).n (branch_ok _ _ _)
end Go.Proofs.Ytblafdmmebiagaa
namespace Go.Proofs.Ytblafdmmebiagaa
open Go.RowKit Go.Lib
def IsN (n : Nat) (i : Int) : Prop := i = n
theorem IsN.eq {n : Nat} {i : Int} (h : IsN n i) : i = (n : Int) := h
def Cur.el (N : List AV) (c : Cur) : List AV := [.opt (.ref [.slc 6 N]), .val (.int .i64 c.n), .val (.int .i64 c.f), .val (.int .i64 c.k), .opt (upO N c)]
def CurAt (l : List Node) (b : List UInt8) (c : Cur) : Prop := ∃ pre post, b = pre ++ (pr l c.n ++ post) ∧ (pre.length : Int) = c.f
theorem CurAt.down {l : List Node} {b : List UInt8} {W C : Nat} {c : Cur} (ha : Ar l) (ho : ∀ x ∈ l, NodeOk x) (h : CurIn l W C c) (hb : CurAt l b c) {k : Int} (h0 : 0 ≤ k) (h1 : k < (kidsAt l c).length) : CurAt l b (downC l c k) := by
  obtain ⟨pre, post, e1, e2⟩ := hb
  have hk : k.toNat < (kidsAt l c).length := by omega
  have hx : (downC l c k).n = (kidsAt l c)[k.toNat] := by show (kidsAt l c)[k.toNat]?.getD 0 = _; rw [List.getElem?_eq_getElem hk]; rfl
  have hin := h.kids ha
  have hnb : (nodeAt l c.n).b = [] := by
    have hm : nodeAt l c.n ∈ l := by
      have hlt : c.n.toNat < l.length := by have := h.h0; have := h.h1; omega
      rw [nodeAt, if_pos ⟨h.h0, h.h1⟩, List.getElem?_eq_getElem hlt]
      exact List.getElem_mem hlt
    rcases ho _ hm with h2 | h2
    · exact h2
    · have h2 : kidsAt l c = [] := h2
      rw [h2] at hk; exact absurd hk (by simp)
  have hp : pr l c.n = (kidsAt l c).flatMap (pr l) := by
    rw [pr_eq ha.wf h.h0 h.h1, hnb]; rfl
  have hsp : kidsAt l c = (kidsAt l c).take k.toNat ++ ((kidsAt l c)[k.toNat] :: (kidsAt l c).drop (k.toNat + 1)) := by
    rw [← List.drop_eq_getElem_cons hk, List.take_append_drop]
  have hpk : pr l c.n = ((kidsAt l c).take k.toNat).flatMap (pr l) ++ (pr l (kidsAt l c)[k.toNat] ++ ((kidsAt l c).drop (k.toNat + 1)).flatMap (pr l)) := by
    rw [hp]
    conv => lhs; rw [hsp]
    rw [List.flatMap_append, List.flatMap_cons]
  refine ⟨pre ++ ((kidsAt l c).take k.toNat).flatMap (pr l), ((kidsAt l c).drop (k.toNat + 1)).flatMap (pr l) ++ post, ?_, ?_⟩
  · rw [e1, hpk, hx]; simp only [List.append_assoc]
  · show ((pre ++ _).length : Int) = c.f + wsum l ((kidsAt l c).take k.toNat)
    rw [wsum_pr ha.wide (fun y hy => hin y (List.mem_of_mem_take hy)), List.length_append]
    omega
def CurB (l : List Node) (b : List UInt8) (C : Nat) (c : Cur) : Prop := CurIn l b.length C c ∧ CurAt l b c
theorem CurAt.cut {l : List Node} {b : List UInt8} {c : Cur} (h : CurAt l b c) : (b.drop c.f.toNat).take (pr l c.n).length = pr l c.n := by
  obtain ⟨pre, post, e1, e2⟩ := h
  rw [e1, show c.f.toNat = pre.length by omega, List.drop_left, List.take_left]
def csTx (pr : Int → List AV) : Nat → List AV → List Ob → Option (AV × List Ob) := fun f args _ => match f, args with
  | 31, [.opt (.ref [.slc 6 _]), .val (.int .i64 n)] => some (.slc 1 (pr n), [])
  | _, _ => none
theorem TextC_b (l : List Node) (c : Cur) (h : PrOk l c.n) : BCall Try.prog 15 [.agg (c.el (nodesA l))] [] (.slc 1 (bytesA (pr l c.n))) [] := by
  have cP := (Print_b l h.len h.wf h.wide c.n h.h0 h.h1 h.p h.c).le (args := [.opt (.ref [.slc 6 (nodesA l)]), .val (.int .i64 c.n)]) ⟨.inr (.inr (.inr rfl)), .inl rfl, trivial⟩
  rw [Cur.el]
  obtain ⟨cn, hcn⟩ : ∃ x, x = c.n := ⟨_, rfl⟩
  obtain ⟨cf, hcf⟩ : ∃ x, x = c.f := ⟨_, rfl⟩
  obtain ⟨ck, hck⟩ : ∃ x, x = c.k := ⟨_, rfl⟩
  rw [← hcn] at cP ⊢
  rw [← hcf, ← hck]
  clear h
  refine bcall_of (cs := csTx (prA l)) (ord := fun _ => .nil) tyOk (by kernel_rfl) Try.func15 rfl (enters_of Try.func15 (by kernel_rfl) rfl) (Nat.le_of_ble_eq_true rfl) (by kernel_rfl) (by kernel_rfl) ?_
  intro w0 g0
  generalize hp : std = p
  generalize hU : upO (nodesA l) c = U
  generalize hpr : prA l = pr
  generalize hN : nodesA l = N
  generalize hT : aexec p tys (csTx pr) _ _ _ _ = T
  cbv at hT
  subst hT
  simp only [Tree.ok, RoundOk, Bool.false_eq_true, Bool.true_eq_false, false_implies, true_implies, and_true, true_and]
  subst hp hU hpr hN
  exact ⟨cP, .pure rfl (.inl rfl)⟩
theorem Down_el (l : List Node) (c : Cur) (k : Int) (h0 : 0 ≤ k) (h1 : k < (kidsAt l c).length) (hw : ∀ n, 0 ≤ widthN l n) (ok : CurOk l c) :
    BCall Try.prog 35 [.agg (c.el (nodesA l)), .val (.int .i64 k)] [] (.tup [.agg ((downC l c k).el (nodesA l)), .val (.bool true)]) [] :=
  ((Down_ok l c k h0 h1 ok.n hw ok.s ok.f0 ok.f1).le (args := [.agg (c.el (nodesA l)), .val (.int .i64 k)]) ⟨⟨.inr (.inr (.inr rfl)), .inl rfl, .inl rfl, .inl rfl, .inl rfl, trivial⟩, .inl rfl, trivial⟩).res (res' := .tup [.agg ((downC l c k).el (nodesA l)), .val (.bool true)]) ⟨⟨.inr (.inr (.inl ⟨rfl, trivial⟩)), .inl rfl, .inl rfl, .inl rfl, .inl rfl, trivial⟩, .inl rfl, trivial⟩
end Go.Proofs.Ytblafdmmebiagaa
namespace Go.Proofs.Ytblafdmmebiagaa
open Go.RowKit Go.Lib
section
variable {w w' : World} {A' : Nat → Nat → Prop}
theorem own_bytes {base n : Nat} {v : Value} {l : List UInt8} (h : w'.ownsRow base 5 1 v n (bc l)) (hA : ∀ b o, base ≤ b → b < w'.heap.size → A' b o) : PRel w' A' v (.slc 1 (bytesA l)) := by
  have hn : n = (bytesA l).length := by
    have := h.1
    rw [bytes_len]; simpa [bc] using this.symm
  refine own_slc h (by decide) ?_ hn (fun x hx => by obtain ⟨y, _, rfl⟩ := List.mem_map.1 hx; rfl) hA
  have e : flatA (bytesA l) = (bc l).map .val := by
    have e1 : bytesA l = (bc l).map .val := by simp [bytesA, bc, byteA]
    rw [e1, flatVals]
  rw [e]
  refine vals_alike fun u hu => ?_
  obtain ⟨x, _, rfl⟩ := List.mem_map.1 hu
  rfl
end
theorem ScanBytes_b (l : List Int) (hl : l.length ≤ 100000000) : BCall Try.prog 38 [.slc 1 (runesA l)] [] (.slc 1 (bytesA (bytesF l))) [] := by
  refine BCall.hand (enters_of Try.func38 (by kernel_rfl) rfl) fun w g vs M hL => ?_
  obtain ⟨v1, vs1, rfl, h1, hL⟩ := argsCons hL
  obtain rfl := argsNil hL
  obtain ⟨A, c, rfl, hr⟩ := runes_rd h1 M
  exact (Bytes_any _ A _ c l w hr hl).mono fun e w' ⟨v, h, ⟨n', ho⟩, hbel⟩ => ⟨v, h, hbel, own_bytes (A' := (g.imm w w').A) ho fun b o h1 h2 => .inr ⟨h1, h2⟩⟩
theorem RefBytes_b (l : List Int) (hl : l.length ≤ 100000000) (hi : I32 l) : BCall Try.prog 17 [.slc 1 (runesA l)] [] (.slc 1 (bytesA (bytesF l))) [] := by
  refine BCall.hand (enters_of Try.func17 (by kernel_rfl) rfl) fun w g vs M hL => ?_
  obtain ⟨v1, vs1, rfl, h1, hL⟩ := argsCons hL
  obtain rfl := argsNil hL
  obtain ⟨A, c, rfl, hr⟩ := runes_rd h1 M
  exact (RBytes_any _ A _ c l w hr hl hi).mono fun e w' ⟨v, h, ⟨n', ho⟩, hbel⟩ => ⟨v, h, hbel, own_bytes (A' := (g.imm w w').A) ho fun b o h1 h2 => .inr ⟨h1, h2⟩⟩
theorem RefWidth_b (r : Int) : BCall Try.prog 16 [.val (.int .i32 r)] [] (.val (.int .i64 (widthF r))) [] := by
  refine BCall.hand (enters_of Try.func16 (by kernel_rfl) rfl) fun w g vs M hL => ?_
  obtain ⟨v1, vs1, rfl, h1, hL⟩ := argsCons hL
  obtain rfl := argsNil hL
  obtain rfl := argVal h1
  exact (RWidth_any r w).mono fun e w' ⟨h, hw⟩ => ⟨_, h, by subst hw; exact Below.refl _ _, PRel.val _ rfl⟩
theorem Begins_b (b : List UInt8) (s : ByteArray) : BCall Try.prog 37 [.slc 1 (bytesA b), .val (.string s)] [] (.val (.bool (s.data.toList.isPrefixOf b))) [] := by
  obtain ⟨n, hn⟩ := exLen b
  have hlen : std.len (bytesA b) = n := by show ((bytesA b).length : Int) = n; rw [bytes_len, hn.eq]
  obtain ⟨z, hz⟩ : ∃ z : Int, IsN s.size z := ⟨_, rfl⟩
  have hsz : std.szS s = z := hz.eq.symm
  refine bcall_of (cs := cs0) (ord := fun _ => .nil) tyOk (by kernel_rfl) Try.func37 rfl (enters_of Try.func37 (by kernel_rfl) rfl) (Nat.le_of_ble_eq_true rfl) (by kernel_rfl) (by kernel_rfl) ?_
  intro w0 g0
  generalize hp : std = p
  generalize hB : bytesA b = B
  generalize hT : aexec p tys (cs0) _ _ _ _ = T
  cbv at hT
  subst hT
  simp only [Tree.ok, RoundOk, Bool.false_eq_true, Bool.true_eq_false, false_implies, true_implies, and_true, true_and]
  subst hp hB
  have hzn := hz.eq
  have key : std.cut (bytesA b) 0 z = bytesA (b.take s.size) := by
    show ((bytesA b).drop (0 : Int).toNat).take (z - 0).toNat = _
    rw [hzn]
    simp [bytesA, List.map_take]
  refine ⟨fun h => ⟨?_, ?_, .pure rfl (.inl ?_)⟩, fun h => .pure rfl (.inl ?_)⟩
  · have h : std.szS s ≤ std.len (bytesA b) := of_decide_eq_true h
    show 0 ≤ (0 : Int) ∧ 0 ≤ std.szS s ∧ std.szS s ≤ std.len (bytesA b)
    rw [hsz] at h ⊢
    omega
  · show std.isB (std.cut (bytesA b) 0 (std.szS s))
    rw [hsz, key]; exact isB_bytesA _
  · show AV.val (.bool (std.eqS (std.strB (std.cut (bytesA b) 0 (std.szS s))) s)) = _
    rw [hsz, key, strB_bytes]
    show AV.val (.bool ((⟨(b.take s.size).toArray⟩ : ByteArray).toList == s.toList)) = _
    rw [ByteArray.toList_eq, ByteArray.toList_eq]
    congr 2
    have e : s.size = s.data.toList.length := by simp
    rw [Bool.eq_iff_iff, beq_iff_eq, List.isPrefixOf_iff_prefix, List.prefix_iff_eq_take, e]
    exact ⟨fun h => h.symm, fun h => h.symm⟩
  · have h : ¬ std.szS s ≤ std.len (bytesA b) := of_decide_eq_false h
    rw [hsz, hlen] at h
    have hx : s.data.toList.isPrefixOf b = false := by
      cases hp : s.data.toList.isPrefixOf b with
      | false => rfl
      | true =>
        exfalso
        have := (List.isPrefixOf_iff_prefix.1 hp).length_le
        have e : s.size = s.data.toList.length := by simp
        have := hn.eq
        omega
    rw [hx]
def csBg (bg : ByteArray → Bool) : Nat → List AV → List Ob → Option (AV × List Ob) := fun f args _ => match f, args with
  | 37, [.slc 1 _, .val (.string s)] => some (.val (.bool (bg s)), [])
  | _, _ => none
def bgA (b : List UInt8) (s : ByteArray) : Bool := s.data.toList.isPrefixOf b
set_option maxRecDepth 20000 in
theorem RefKind_b (b : List UInt8) : BCall Try.prog 18 [.slc 1 (bytesA b)] [] (.tup [.val (.int .i64 (kindF b).1), .val (.int .i64 (kindF b).2)]) [] := by
  have cB := fun s => Begins_b b s
  have cB : ∀ s, BCall Try.prog 37 [.slc 1 (bytesA b), .val (.string s)] [] (.val (.bool (bgA b s))) [] := cB
  obtain ⟨K, hK⟩ : ∃ K, K = kindF b := ⟨_, rfl⟩
  rw [← hK]
  refine bcall_of (cs := csBg (bgA b)) (ord := fun _ => .nil) tyOk (by kernel_rfl) Try.func18 rfl (enters_of Try.func18 (by kernel_rfl) rfl) (Nat.le_of_ble_eq_true rfl) (by kernel_rfl) (by kernel_rfl) ?_
  intro w0 g0
  generalize hp : std = p
  generalize hbg : bgA b = bg
  generalize hB : bytesA b = B
  generalize hT : aexec p tys (csBg bg) _ _ _ _ = T
  cbv at hT
  subst hT
  simp only [Tree.ok, RoundOk, Bool.false_eq_true, Bool.true_eq_false, false_implies, true_implies, and_true, true_and]
  subst hp hbg hB
  have e : K = if bgA b ⟨#[254, 255]⟩ = true then (1, 2) else if bgA b ⟨#[255, 254]⟩ = true then (2, 2) else if bgA b ⟨#[239, 187, 191]⟩ = true then (0, 3) else if bgA b ⟨#[0, 60, 0, 63]⟩ = true then (1, 0) else if bgA b ⟨#[60, 0, 63, 0]⟩ = true then (2, 0) else (0, 0) := by
    rw [hK]
    unfold kindF kR signsL bgA
    simp only [List.drop_zero, List.find?]
    cases [254, 255].isPrefixOf b <;> cases [255, 254].isPrefixOf b <;> cases [239, 187, 191].isPrefixOf b <;> cases [0, 60, 0, 63].isPrefixOf b <;> cases [60, 0, 63, 0].isPrefixOf b <;> rfl
  rw [e]
  refine ⟨cB _, fun h1 => ?_, fun h1 => ⟨cB _, fun h2 => ?_, fun h2 => ⟨cB _, fun h3 => ?_, fun h3 => ⟨cB _, fun h4 => ?_, fun h4 => ⟨cB _, fun h5 => ?_, fun h5 => ?_⟩⟩⟩⟩⟩
  all_goals
    simp only [*]
    exact .pure rfl ⟨.inl rfl, .inl rfl, trivial⟩
def zeroE : List AV := [.opt (.val (.pointer none)), .val (.int .i64 0), .val (.int .i64 0), .val (.int .i64 0), .opt (.val (.pointer none))]
theorem Down_noE (l : List Node) (c : Cur) (k : Int) (hk : ¬ (0 ≤ k ∧ k < (kidsAt l c).length)) (hn : (kidsAt l c).length ≤ 1000000) : BCall Try.prog 35 [.agg (c.el (nodesA l)), .val (.int .i64 k)] [] (.tup [.agg zeroE, .val (.bool false)]) [] :=
  ((Down_no l c k hk hn).le (args := [.agg (c.el (nodesA l)), .val (.int .i64 k)]) ⟨⟨.inr (.inr (.inr rfl)), .inl rfl, .inl rfl, .inl rfl, .inl rfl, trivial⟩, .inl rfl, trivial⟩).res (res' := .tup [.agg zeroE, .val (.bool false)]) ⟨⟨.inr (.inr (.inl ⟨rfl, trivial⟩)), .inl rfl, .inl rfl, .inl rfl, .inr (.inr (.inl ⟨rfl, trivial⟩)), trivial⟩, .inl rfl, trivial⟩
def dOk (l : List Node) (c : Cur) (k : Int) : Bool := decide (0 ≤ k ∧ k < (kidsAt l c).length)
def pE (l : List Node) (c : Cur) (k : Int) : AV := if dOk l c k = true then .ref [.slc 6 (nodesA l)] else .val (.pointer none)
def nE (l : List Node) (c : Cur) (k : Int) : Int := if dOk l c k = true then (downC l c k).n else 0
def fE (l : List Node) (c : Cur) (k : Int) : Int := if dOk l c k = true then (downC l c k).f else 0
def kE (l : List Node) (c : Cur) (k : Int) : Int := if dOk l c k = true then k else 0
def uE (l : List Node) (c : Cur) (k : Int) : AV := if dOk l c k = true then upO (nodesA l) (downC l c k) else .val (.pointer none)
def dE (l : List Node) (c : Cur) (k : Int) : List AV := [.opt (pE l c k), .val (.int .i64 (nE l c k)), .val (.int .i64 (fE l c k)), .val (.int .i64 (kE l c k)), .opt (uE l c k)]
theorem dE_in {l : List Node} {c : Cur} {k : Int} (h : dOk l c k = true) : dE l c k = (downC l c k).el (nodesA l) := by
  unfold dE pE nE fE kE uE
  rw [if_pos h, if_pos h, if_pos h, if_pos h, if_pos h]; rfl
theorem dE_out {l : List Node} {c : Cur} {k : Int} (h : dOk l c k = false) : dE l c k = zeroE := by
  unfold dE pE nE fE kE uE
  rw [h]; rfl
theorem Down_E (l : List Node) (c : Cur) (k : Int) (hw : ∀ n, 0 ≤ widthN l n) (ok : CurOk l c) : BCall Try.prog 35 [.agg (c.el (nodesA l)), .val (.int .i64 k)] [] (.tup [.agg (dE l c k), .val (.bool (dOk l c k))]) [] := by
  by_cases h : 0 ≤ k ∧ k < (kidsAt l c).length
  · have ho : dOk l c k = true := decide_eq_true h
    rw [dE_in ho, ho]; exact Down_el l c k h.1 h.2 hw ok
  · have ho : dOk l c k = false := decide_eq_false h
    rw [dE_out ho, ho]; exact Down_noE l c k h ok.n
def csBs (q : AV) (n f k : Int) (u : AV) (ok : Bool) : Nat → List AV → List Ob → Option (AV × List Ob) := fun g args _ => match g, args with
  | 35, _ => some (.tup [.agg [.opt q, .val (.int .i64 n), .val (.int .i64 f), .val (.int .i64 k), .opt u], .val (.bool ok)], [])
  | 55, _ => some (.tup [.agg [.opt q, .val (.int .i64 n), .val (.int .i64 f), .val (.int .i64 k), .opt u], .val (.bool ok)], [])
  | _, _ => none
set_option maxRecDepth 20000 in
set_option maxHeartbeats 1000000 in
theorem Beside_b (l : List Node) (hw : ∀ n, 0 ≤ widthN l n) (n f k d : Int) (u : Cur) (ok : CurOk l u) (hk : 0 ≤ k ∧ k ≤ 1000000) (hd : 0 ≤ d ∧ d ≤ 1000) :
    BCall Try.prog 55 [.agg ((Cur.kid n f k u).el (nodesA l)), .val (.int .i64 d)] [] (.tup [.agg (dE l u (k + d)), .val (.bool (dOk l u (k + d)))]) [] := by
  have cD := Down_E l u (k + d) hw ok
  unfold dE at cD ⊢
  simp only [Cur.el] at cD ⊢
  show BCall _ _ [.agg [.opt (.ref [.slc 6 (nodesA l)]), .val (.int .i64 n), .val (.int .i64 f), .val (.int .i64 k), .opt (upO (nodesA l) (Cur.kid n f k u))], _] _ _ _
  obtain ⟨U, hU⟩ : ∃ U, U = upO (nodesA l) (Cur.kid n f k u) := ⟨_, rfl⟩
  have hU1 : prfOf U = u.cs (nodesA l) := by rw [hU]; rfl
  have hU2 : isPtr U ∧ isNil U = false := by rw [hU]; exact ⟨trivial, rfl⟩
  rw [← hU]
  refine bcall_of (cs := csBs (pE l u (k + d)) (nE l u (k + d)) (fE l u (k + d)) (kE l u (k + d)) (uE l u (k + d)) (dOk l u (k + d))) (ord := fun _ => .nil) tyOk (by kernel_rfl) Try.func55 rfl (enters_of Try.func55 (by kernel_rfl) rfl) (Nat.le_of_ble_eq_true rfl) (by kernel_rfl) (by kernel_rfl) ?_
  intro w0 g0
  generalize hp : std = p
  generalize hq : pE l u (k + d) = q
  generalize hn' : nE l u (k + d) = n'
  generalize hf' : fE l u (k + d) = f'
  generalize hk' : kE l u (k + d) = k'
  generalize hu' : uE l u (k + d) = u'
  generalize ho : dOk l u (k + d) = o
  generalize hN : nodesA l = N
  generalize hT : aexec p tys (csBs q n' f' k' u' o) _ _ _ _ = T
  cbv at hT
  subst hT
  simp only [Tree.ok, RoundOk, Bool.false_eq_true, Bool.true_eq_false, false_implies, true_implies, and_true, true_and]
  subst hp hq hn' hf' hk' hu' ho hN
  refine ⟨fun h => absurd (hU2.2.symm.trans (show isNil U = true from h)) (by decide), fun _ => ?_⟩
  have hu2 : isPtr (.opt (upO (nodesA l) u)) := upO_ptr _ _
  simp only [std, hU1, Cur.cs, List.getD_cons_zero, List.getD_cons_succ, intOf, unoA, allP]
  refine ⟨hU2, ⟨trivial, trivial, trivial, trivial, hu2, trivial⟩, ?_, cD, .pure rfl ⟨⟨.inl rfl, .inl rfl, .inl rfl, .inl rfl, .inl rfl, trivial⟩, .inl rfl, trivial⟩⟩
  show (-9223372036854775808 : Int) ≤ k + d ∧ k + d ≤ (9223372036854775807 : Int)
  omega
theorem NextC_b (l : List Node) (hw : ∀ n, 0 ≤ widthN l n) (n f k : Int) (u : Cur) (ok : CurOk l u) (hk : 0 ≤ k ∧ k ≤ 1000000) :
    BCall Try.prog 39 [.agg ((Cur.kid n f k u).el (nodesA l))] [] (.tup [.agg (dE l u (k + 1)), .val (.bool (dOk l u (k + 1)))]) [] := by
  have cB := Beside_b l hw n f k 1 u ok hk (by omega)
  unfold dE at cB ⊢
  simp only [Cur.el] at cB ⊢
  show BCall _ _ [.agg [.opt (.ref [.slc 6 (nodesA l)]), .val (.int .i64 n), .val (.int .i64 f), .val (.int .i64 k), .opt (upO (nodesA l) (Cur.kid n f k u))]] _ _ _
  have cB : BCall Try.prog 55 [.agg [.opt (.ref [.slc 6 (nodesA l)]), .val (.int .i64 n), .val (.int .i64 f), .val (.int .i64 k), .opt (upO (nodesA l) (Cur.kid n f k u))], .val (.int .i64 1)] [] (.tup [.agg [.opt (pE l u (k + 1)), .val (.int .i64 (nE l u (k + 1))), .val (.int .i64 (fE l u (k + 1))), .val (.int .i64 (kE l u (k + 1))), .opt (uE l u (k + 1))], .val (.bool (dOk l u (k + 1)))]) [] := cB
  obtain ⟨U, hU⟩ : ∃ U, U = upO (nodesA l) (Cur.kid n f k u) := ⟨_, rfl⟩
  rw [← hU] at cB ⊢
  clear hU
  refine bcall_of (cs := csBs (pE l u (k + 1)) (nE l u (k + 1)) (fE l u (k + 1)) (kE l u (k + 1)) (uE l u (k + 1)) (dOk l u (k + 1))) (ord := fun _ => .nil) tyOk (by kernel_rfl) Try.func39 rfl (enters_of Try.func39 (by kernel_rfl) rfl) (Nat.le_of_ble_eq_true rfl) (by kernel_rfl) (by kernel_rfl) ?_
  intro w0 g0
  generalize hp : std = p
  generalize hq : pE l u (k + 1) = q
  generalize hn' : nE l u (k + 1) = n'
  generalize hf' : fE l u (k + 1) = f'
  generalize hk' : kE l u (k + 1) = k'
  generalize hu' : uE l u (k + 1) = u'
  generalize ho : dOk l u (k + 1) = o
  generalize hN : nodesA l = N
  generalize hT : aexec p tys (csBs q n' f' k' u' o) _ _ _ _ = T
  cbv at hT
  subst hT
  simp only [Tree.ok, RoundOk, Bool.false_eq_true, Bool.true_eq_false, false_implies, true_implies, and_true, true_and]
  subst hp hq hn' hf' hk' hu' ho hN
  exact ⟨cB, .pure rfl ⟨⟨.inl rfl, .inl rfl, .inl rfl, .inl rfl, .inl rfl, trivial⟩, .inl rfl, trivial⟩⟩
theorem CurB.prOk {l : List Node} {b : List UInt8} {C : Nat} {c : Cur} (ha : Ar l) (hl : l.length ≤ 1000000000) (hb : b.length ≤ 1000000) (hC : C ≤ 1000000) (h : CurB l b C c) : PrOk l c.n := by
  refine ⟨hl, ha.wf, ha.wide, h.1.h0, h.1.h1, ?_, by have := h.1.co; omega⟩
  obtain ⟨pre, post, e1, _⟩ := h.2
  have := congrArg List.length e1
  simp only [List.length_append] at this
  omega
structure Ev where
  do_ : Int
  kind : Int
  b : List UInt8
  deriving Inhabited, DecidableEq
def Ev.av (x : Ev) : AV := if x.do_ = 2 then .agg [.val (.int .i64 2), .val (.int .i64 x.kind), .slc 1 (bytesA x.b)] else .agg [.val (.int .i64 x.do_), .val (.int .i64 0), .val (.slice none 0 0)]
def evsA (l : List Ev) : List AV := l.map Ev.av
theorem evs_app (a b : List Ev) : evsA (a ++ b) = evsA a ++ evsA b := by simp [evsA]
theorem evs_len (a : List Ev) : (evsA a).length = a.length := by simp [evsA]
def spF (l : List Node) : Nat → Int → Bool → List Ev
  | 0, _, _ => []
  | f + 1, n, top => if (nodeAt l n).kind ≠ 21 ∧ top = false then [⟨2, (nodeAt l n).kind, pr l n⟩]
    else (if top = true then [] else [⟨1, 0, []⟩]) ++ (nodeAt l n).kids.flatMap (fun k => spF l f k false) ++ (if top = true then [] else [⟨3, 0, []⟩])
def spN (l : List Node) (n : Int) (top : Bool) : List Ev := spF l (n.toNat + 1) n top
theorem spF_more {l : List Node} (hw : Wf l) : ∀ (f f' : Nat) (n : Int) (top : Bool), 0 ≤ n → n < l.length → n.toNat < f → n.toNat < f' → spF l f n top = spF l f' n top
  | 0, _, _, _, _, _, h, _ => by omega
  | _ + 1, 0, _, _, _, _, _, h => by omega
  | f + 1, f' + 1, n, top, h0, h1, h2, h3 => by
    simp only [spF]
    have : (nodeAt l n).kids.flatMap (fun k => spF l f k false) = (nodeAt l n).kids.flatMap (fun k => spF l f' k false) := by
      refine congrArg List.flatten (List.map_congr_left fun k hk => ?_)
      have := hw n h0 h1 k hk
      exact spF_more hw f f' k false this.1 (by omega) (by omega) (by omega)
    rw [this]
theorem spN_eq {l : List Node} (hw : Wf l) {n : Int} (h0 : 0 ≤ n) (h1 : n < l.length) (top : Bool) : spN l n top = if (nodeAt l n).kind ≠ 21 ∧ top = false then [⟨2, (nodeAt l n).kind, pr l n⟩]
    else (if top = true then [] else [⟨1, 0, []⟩]) ++ (nodeAt l n).kids.flatMap (fun k => spN l k false) ++ (if top = true then [] else [⟨3, 0, []⟩]) := by
  show spF l (n.toNat + 1) n top = _
  simp only [spF]
  have : (nodeAt l n).kids.flatMap (fun k => spF l n.toNat k false) = (nodeAt l n).kids.flatMap (fun k => spN l k false) := by
    refine congrArg List.flatten (List.map_congr_left fun k hk => ?_)
    have := hw n h0 h1 k hk
    exact spF_more hw _ _ k false this.1 (by omega) (by omega) (by omega)
  rw [this]
def csSp (kd : Int → Int) (tx : Int → List AV) (p0 p1 : Int → AV) (n0 f0 k0 : Int → Int) (u0 : Int → AV) (ok : Int → Bool) (sp : Int → List AV) (nx : Int → Int) : Nat → List AV → List Ob → Option (AV × List Ob) := fun g args _ => match g, args with
  | 21, [.agg [_, .val (.int .i64 n), _, _, _]] => some (.val (.int .i64 (kd n)), [])
  | 15, [.agg [_, .val (.int .i64 n), _, _, _]] => some (.slc 1 (tx n), [])
  | 35, [.agg _, .val (.int .i64 k)] => some (.tup [.agg [.opt (p0 k), .val (.int .i64 (n0 k)), .val (.int .i64 (f0 k)), .val (.int .i64 (k0 k)), .opt (u0 k)], .val (.bool (ok k))], [])
  | 39, [.agg [_, _, _, .val (.int .i64 k), _]] => some (.tup [.agg [.opt (p0 (nx k)), .val (.int .i64 (n0 (nx k))), .val (.int .i64 (f0 (nx k))), .val (.int .i64 (k0 (nx k))), .opt (u0 (nx k))], .val (.bool (ok (nx k)))], [])
  | 20, [.agg [_, .val (.int .i64 n), _, _, _], .val (.bool false)] => some (.slc 3 (sp n), [])
  | _, _ => none
def spA (l : List Node) (n : Int) : List AV := evsA (spN l n false)
def nxt (k : Int) : Int := k + 1
def sprO : OT := .then [0] (.fork (.of [1, 2, 3, 4, 5, 6]) (.of [2, 1, 3, 4, 5, 6]))
end Go.Proofs.Ytblafdmmebiagaa
namespace Go.Proofs.Ytblafdmmebiagaa
open Go.RowKit Go.Lib
theorem bytes_one (x : Int) (h : 0 < widthF x) : bytesF [x] = encodeRune x := by
  have e : bytesF [x] = runeF x := by simp [bytesF]
  rw [e, runeF, if_neg (by omega)]
def ofI : Int → List Int → List Itm
  | _, [] => []
  | a, x :: r => ⟨x, a, (bytesF [x]).length⟩ :: ofI (a + (bytesF [x]).length) r
theorem bytesF_cons (x : Int) (r : List Int) : bytesF (x :: r) = bytesF [x] ++ bytesF r := by
  simp [bytesF]
theorem bytesF_app (a b : List Int) : bytesF (a ++ b) = bytesF a ++ bytesF b := by
  induction a with
  | nil => rfl
  | cons x r ih => rw [List.cons_append, bytesF_cons, ih, bytesF_cons x r, List.append_assoc]
theorem ofI_chain : ∀ (l : List Int) (a : Int), (∀ x ∈ l, 1 ≤ (bytesF [x]).length) → ChainI a (ofI a l) (a + (bytesF l).length)
  | [], a, _ => by show a = _; simp [bytesF]
  | x :: r, a, h => by
    refine ⟨rfl, by have := h x (List.mem_cons_self ..); show (1 : Int) ≤ ((bytesF [x]).length : Int); omega, ?_⟩
    have := ofI_chain r (a + (bytesF [x]).length) fun y hy => h y (List.mem_cons_of_mem _ hy)
    have e : a + ((bytesF [x]).length : Int) + ((bytesF r).length : Int) = a + (((bytesF (x :: r)).length : Nat) : Int) := by rw [bytesF_cons x r, List.length_append]; omega
    rw [e] at this
    exact this
theorem ofI_r : ∀ (l : List Int) (a : Int), (ofI a l).map Itm.r = l
  | [], _ => rfl
  | x :: r, a => by simp only [ofI, List.map_cons, ofI_r]
theorem ofI_app : ∀ (l : List Int) (a : Int) (x : Int), ofI a (l ++ [x]) = ofI a l ++ [⟨x, a + (bytesF l).length, (bytesF [x]).length⟩]
  | [], a, x => by simp [ofI, bytesF]
  | y :: r, a, x => by
    simp only [List.cons_append, ofI, ofI_app r, bytesF_cons y r, List.length_append]
    rw [show a + ((bytesF [y]).length : Int) + ((bytesF r).length : Int) = a + (((bytesF [y]).length + (bytesF r).length : Nat) : Int) by omega]
def offO (l : List Int) : List Int := (ofI 0 l).map Itm.off
theorem offO_app (l : List Int) (x : Int) : offO (l ++ [x]) = offO l ++ [((bytesF l).length : Int)] := by
  rw [offO, ofI_app, List.map_append, offO]
  simp
theorem offO_len (l : List Int) : (offO l).length = l.length := by
  have := congrArg List.length (ofI_r l 0)
  rw [List.length_map] at this
  rw [offO, List.length_map, this]
def ofT (l : List Int) : Txt := ⟨0, 0, l, offO l ++ [((bytesF l).length : Int)]⟩
theorem ofT_ok (l : List Int) (h : ∀ x ∈ l, 1 ≤ (bytesF [x]).length) : TxtOk (ofT l) (bytesF l) ∧ l.length ≤ (bytesF l).length := by
  have hc := ofI_chain l 0 h
  rw [Int.zero_add] at hc
  obtain ⟨h1, h2, h3, h4⟩ := chain_all _ _ _ hc
  have hr : (ofI 0 l).length = l.length := by rw [← List.length_map (f := Itm.r), ofI_r]
  refine ⟨⟨?_, ?_, ?_, ?_⟩, by omega⟩
  · show (offO l ++ [_]).length = l.length + 1
    rw [List.length_append, offO_len]; rfl
  · exact fun x hx => h2 x hx
  · show (offO l ++ [((bytesF l).length : Int)])[l.length]?.getD 0 = _
    rw [List.getElem?_append_right (by rw [offO_len]; exact Nat.le_refl _), offO_len, Nat.sub_self]; rfl
  · intro i j hij hj
    have hL : (offO l ++ [((bytesF l).length : Int)]).length = l.length + 1 := by rw [List.length_append, offO_len]; rfl
    have hj : j ≤ l.length := hj
    have h3 : List.Pairwise (· ≤ ·) (offO l ++ [((bytesF l).length : Int)]) := h3
    show (offO l ++ [((bytesF l).length : Int)])[i]?.getD 0 ≤ (offO l ++ [((bytesF l).length : Int)])[j]?.getD 0
    rw [List.getElem?_eq_getElem (by omega), List.getElem?_eq_getElem (by omega)]
    show (offO l ++ [((bytesF l).length : Int)])[i] ≤ (offO l ++ [((bytesF l).length : Int)])[j]
    rcases Nat.lt_or_eq_of_le hij with h | h
    · exact List.pairwise_iff_getElem.1 h3 i j (by omega) (by omega) h
    · subst h; exact Int.le_refl _
theorem ofT_off0 (l : List Int) : (ofT l).off[0]?.getD 0 = 0 := by
  cases l with
  | nil => rfl
  | cons x r => rfl
theorem ofT_sml (l : List Int) (h : ∀ x ∈ l, 1 ≤ (bytesF [x]).length) (hb : (bytesF l).length ≤ 100000) : Sml (ofT l) (bytesF l) :=
  ⟨by omega, Nat.le_trans (ofT_ok l h).2 (by omega), (ofT_ok l h).1⟩
def ofM (l : List Int) : Mk := allM (ofT l) (bytesF l) mk0
theorem ofM_up (l : List Int) : upTo (ofT l) (bytesF l) 0 = [] := by
  rw [upTo, offA, show (0 : Int).toNat = 0 from rfl, ofT_off0]; rfl
theorem items_of : ∀ (l : List Int) (a : Nat), (∀ x ∈ l, 0 < widthF x) → (itemsGo (bytesF l).length a (bytesF l)).map itmOf = ofI a l
  | [], a, _ => by simp [bytesF, itemsGo_nil, ofI]
  | x :: r, a, h => by
    have hx := h x (List.mem_cons_self ..)
    have e1 := bytes_one x hx
    have hw := enc_width x hx
    have hne : bytesF (x :: r) ≠ [] := fun h => by
      have := congrArg List.length h
      rw [bytesF_cons, List.length_append, e1, hw] at this
      simp at this; omega
    have hf := firstF_enc x hx (bytesF r)
    rw [← e1, ← bytesF_cons] at hf
    rw [itemsGo_step a _ hne, hf]
    simp only [List.map_cons, ofI]
    have ed : (bytesF (x :: r)).drop (widthF x) = bytesF r := by
      rw [bytesF_cons, e1, ← hw, List.drop_left]
    rw [ed, items_of r (a + widthF x) fun y hy => h y (List.mem_cons_of_mem _ hy), e1, hw]
    rfl
theorem ofT_eq (l : List Int) (h : ∀ x ∈ l, 0 < widthF x) (hk : kindF (bytesF l) = (0, 0)) : textF' (bytesF l) = ofT l := by
  have e : textI (bytesF l) = ofI 0 l := by
    rw [textI, hk]
    show pcsF 0 ((bytesF l).drop (0 : Int).toNat) = _
    rw [pcsF, if_pos rfl, eightF, itemsF]
    exact items_of l 0 h
  unfold textF' ofT
  rw [e, hk, ofI_r]
  simp [offO]
theorem ofM_eq (l : List Int) (h : ∀ x ∈ l, 0 < widthF x) (hk : kindF (bytesF l) = (0, 0)) : parseM (bytesF l) = ofM l := by
  unfold parseM ofM firstM
  rw [ofT_eq l h hk, hk]; rfl
theorem wide_bytes (x : Int) (h : 0 < widthF x) : 1 ≤ (bytesF [x]).length := by
  have e1 := bytes_one x h
  rw [e1, enc_width x h]; exact h
end Go.Proofs.Ytblafdmmebiagaa
namespace Go.Proofs.Ytblafdmmebiagaa
open Go.RowKit Go.Lib
def csPo (by_ : Int → List AV) (rt : Int) (an ad asx : List AV) : Nat → List AV → List Ob → Option (AV × List Ob) := fun f args ob => match f, args with
  | 27, [] => some (.box 0 0, [.box [.val (.slice none 0 0)]])
  | 38, [.slc 1 [.val (.int .i32 r)]] => some (.slc 1 (by_ r), [])
  | 30, [.box 0 0] => match ob with
    | [.box [.row 1 0, .box 2 0, .row 5 0], .row 5 1 false 0 B, .box [k, m, r, .row 3 0, .box 4 0, _, .val (.slice none 0 0)], .row 3 1 false 0 O, .box [.val (.slice none 0 0)], .row 66 2 false 0 _] =>
      some (.tup [], [.box [.slc 1 B, .box 2 0, .row 5 1], .row 5 1 true 0 B, .box [k, m, r, .slc 1 O, .box 4 0, .val (.int .i64 rt), .row 6 1], .row 3 1 true 0 O, .box [.row 7 1], .row 66 2 false 1 asx, .row 47 3 false 1 ad, .row 74 6 false 1 an])
    | _ => none
  | _, _ => none
def ofA (l : List Int) (k : Int) : List AV := intsA (offO (l.take k.toNat))
def obA (l : List Int) (k : Int) : List AV := bytesA (bytesF (l.take k.toNat))
def byA (x : Int) : List AV := bytesA (bytesF [x])
theorem all_fr (B O R N D S0 S : List AV) (rt : Int) (h : BCall Try.prog 30 [.box 0 0] [.box [.slc 1 B, .box 1 0, .row 3 0], .box [.val (.int .i64 0), .val (.int .i64 0), .slc 1 R, .slc 1 O, .box 2 0, .val (.int .i64 0), .val (.slice none 0 0)], .box [.val (.slice none 0 0)], .row 66 2 false 0 S0] (.tup [])
      [.box [.slc 1 B, .box 1 0, .row 3 1], .box [.val (.int .i64 0), .val (.int .i64 0), .slc 1 R, .slc 1 O, .box 2 0, .val (.int .i64 rt), .row 4 1], .box [.row 5 1], .row 66 2 false 1 S, .row 47 3 false 1 D, .row 74 6 false 1 N]) :
    BCall Try.prog 30 [.box 0 0] [.box [.row 1 0, .box 2 0, .row 5 0], .row 5 1 false 0 B, .box [.val (.int .i64 0), .val (.int .i64 0), .slc 1 R, .row 3 0, .box 4 0, .val (.int .i64 0), .val (.slice none 0 0)], .row 3 1 false 0 O, .box [.val (.slice none 0 0)], .row 66 2 false 0 S0] (.tup [])
      [.box [.slc 1 B, .box 2 0, .row 5 1], .row 5 1 true 0 B, .box [.val (.int .i64 0), .val (.int .i64 0), .slc 1 R, .slc 1 O, .box 4 0, .val (.int .i64 rt), .row 6 1], .row 3 1 true 0 O, .box [.row 7 1], .row 66 2 false 1 S, .row 47 3 false 1 D, .row 74 6 false 1 N] := by
  refine BCall.frozen (i := 0) (j := 0) (id := 1) rfl rfl rfl ?_
  refine BCall.frozen (i := 2) (j := 3) (id := 3) rfl rfl rfl ?_
  exact @BCall.frame _ _ [.box 0 0] _ [.box [.slc 1 B, .box 1 0, .row 3 1], .box [.val (.int .i64 0), .val (.int .i64 0), .slc 1 R, .slc 1 O, .box 2 0, .val (.int .i64 rt), .row 4 1], .box [.row 5 1], .row 66 2 false 1 S, .row 47 3 false 1 D, .row 74 6 false 1 N] (.tup []) [0, 2, 4, 5] rfl rfl (Nat.le_of_ble_eq_true rfl) h
set_option maxRecDepth 20000 in
set_option maxHeartbeats 2000000 in
theorem Of_b (l : List Int) (hw : ∀ x ∈ l, 0 < widthF x) (hb : (bytesF l).length ≤ 100000) : BCall Try.prog 19 [.slc 1 (runesA l)] [] (treeA (ofT l) (ofM l)) [] := by
  have hs := ofT_sml l (fun x hx => wide_bytes x (hw x hx)) hb
  have hll := (ofT_ok l (fun x hx => wide_bytes x (hw x hx))).2
  have cA := all_new (ofT l) (bytesF l) hs 3 2 (by rw [ofM_up]; exact ⟨mk0_inv.i.mono (by omega) (Nat.le_refl _), mk0_inv.c⟩) (by have : (ofT l).r.length = l.length := rfl; omega) (by have : (ofT l).r.length = l.length := rfl; omega)
  have hE : allM (ofT l) (bytesF l) mk0 = ofM l := rfl
  rw [hE] at cA
  obtain ⟨M, hM⟩ : ∃ M, M = ofM l := ⟨_, rfl⟩
  rw [← hM] at cA hE ⊢
  obtain ⟨rt, hrt⟩ : ∃ rt : Int, rt = M.n.length := ⟨_, rfl⟩
  unfold treeA
  rw [← hrt] at cA ⊢
  obtain ⟨n, hn⟩ := exLen l
  have hlen : std.len (runesA l) = n := by show ((runesA l).length : Int) = n; rw [runes_len, hn.eq]
  have cB : ∀ x, BCall Try.prog 38 [.slc 1 [.val (.int .i32 x)]] [] (.slc 1 (bytesA (bytesF [x]))) [] := fun x => ScanBytes_b [x] (by simp)
  have cB : ∀ x, BCall Try.prog 38 [.slc 1 [.val (.int .i32 x)]] [] (.slc 1 (byA x)) [] := cB
  refine bcall_of (cs := csPo byA rt (nodesA (rootM M).n) (dgsA (rootM M).d) (opnsA (rootM M).s)) (ord := fun _ => .nil) tyOk (by kernel_rfl) Try.func19 rfl (enters_of Try.func19 (by kernel_rfl) rfl) (Nat.le_of_ble_eq_true rfl) (by kernel_rfl) (by kernel_rfl) ?_
  intro w0 g0
  generalize hp : std = p
  generalize hby_ : byA = by_
  generalize han : nodesA (rootM M).n = an
  generalize had : dgsA (rootM M).d = ad
  generalize hasx : opnsA (rootM M).s = asx
  generalize hR : runesA l = R
  generalize hT : aexec p tys (csPo by_ rt an ad asx) _ _ _ _ = T
  cbv at hT
  subst hT
  simp only [Tree.ok, RoundOk, Bool.false_eq_true, Bool.true_eq_false, false_implies, true_implies, and_true, true_and]
  subst hp hby_ han had hasx hR
  refine ⟨New_b, ?_⟩
  refine loop_rule (cs := csPo byA rt (nodesA (rootM M).n) (dgsA (rootM M).d) (opnsA (rootM M).s)) (ord := fun _ => .nil) tyOk (by kernel_rfl) (by kernel_rfl) (by kernel_rfl) (X := Int) (fun k => ⟨[(2, .box 0 0), (3, .box 2 0), (4, .row 4 0), (13, .slc 1 (runesA l)), (14, .val (.int .i64 n)), (15, .val (.int .i64 k))], [.box [.val (.int .i64 0), .val (.int .i64 0), .val (.slice none 0 0), .val (.slice none 0 0), .val (.pointer none), .val (.int .i64 0), .val (.slice none 0 0)], .box [.val (.slice none 0 0)], .box [.val (.int .i64 0), .val (.int .i64 0), .slc 1 (runesA l), .row 3 0, .box 1 0, .val (.int .i64 0), .val (.slice none 0 0)], .row 3 1 false 0 (ofA l k), .row 5 1 false 0 (obA l k)]⟩) (fun k => 0 ≤ k ∧ k ≤ n) (fun k => (n - k).toNat) 0 ?_ ?_ ?_
  · have := hn.eq
    exact ⟨Int.le_refl 0, by omega⟩
  · refine ⟨[some 0, some 1, some 2, none, none], _, rfl, ?_⟩
    have e1 : ofA l 0 = [] := rfl
    have e2 : obA l 0 = [] := rfl
    rw [e1, e2]
    repeat first
      | exact trivial
      | refine ⟨rfl, ?_⟩
      | refine ⟨rfl, ?_⟩
      | refine ⟨congrArg (fun q => AV.val (.int .i64 q)) (rfl), ?_⟩
      | refine ⟨congrArg (fun q => AV.slc 1 q) (rfl), ?_⟩
      | refine ⟨congrArg (fun q => AV.slc 0 q) (rfl), ?_⟩
      | refine ⟨congrArg (fun q => AV.val (.bool q)) (rfl), ?_⟩
      | refine ⟨congrArg (fun q => AV.val (.int .i32 q)) (rfl), ?_⟩
      | refine ⟨congrArg (fun q => AV.val (.string q)) (rfl), ?_⟩
      | refine ⟨congrArg (fun q => AV.val (.int .i64 q)) hlen, ?_⟩
      | refine ⟨congrArg (fun q => AV.val (.int .i64 q)) (congrArg (fun q => AV.val (.int .i64 q)) hlen), ?_⟩
      | refine ⟨congrArg (fun q => AV.slc 1 q) (congrArg (fun q => AV.val (.int .i64 q)) hlen), ?_⟩
      | refine ⟨congrArg (fun q => AV.slc 0 q) (congrArg (fun q => AV.val (.int .i64 q)) hlen), ?_⟩
      | refine ⟨congrArg (fun q => AV.val (.bool q)) (congrArg (fun q => AV.val (.int .i64 q)) hlen), ?_⟩
      | refine ⟨congrArg (fun q => AV.val (.int .i32 q)) (congrArg (fun q => AV.val (.int .i64 q)) hlen), ?_⟩
      | refine ⟨congrArg (fun q => AV.val (.string q)) (congrArg (fun q => AV.val (.int .i64 q)) hlen), ?_⟩
  · rintro k ⟨hk0, hk1⟩
    have hk0 : 0 ≤ k := hk0
    have hk1 : k ≤ n := hk1
    generalize hp : std = p
    generalize hby_ : byA = by_
    generalize han : nodesA (rootM M).n = an
    generalize had : dgsA (rootM M).d = ad
    generalize hasx : opnsA (rootM M).s = asx
    generalize hR : runesA l = R
    generalize hOA : ofA l k = OA
    generalize hBA : obA l k = BA
    generalize hT : aexec p tys (csPo by_ rt an ad asx) _ _ _ _ = T
    cbv at hT
    subst hT
    simp only [Tree.ok, RoundOk, Bool.false_eq_true, Bool.true_eq_false, false_implies, true_implies, and_true, true_and]
    subst hp hby_ han had hasx hR hOA hBA
    refine ⟨fun h => ?_, fun h => ?_⟩
    · have h : k < n := of_decide_eq_true h
      have hk : k.toNat < l.length := by have := hn.eq; omega
      obtain ⟨x, hx⟩ : ∃ x, x = l[k.toNat] := ⟨_, rfl⟩
      have hat : (runesA l).getD k.toNat .dead = .val (.int .i32 x) := by
        rw [List.getD_eq_getElem?_getD, runesA, List.getElem?_map, List.getElem?_eq_getElem hk, hx]; rfl
      have eint : std.int (std.nth (std.cel (std.at_ (runesA l) k)) 0) = x := by
        show intOf ((AV.cells ((runesA l).getD k.toNat .dead)).getD 0 .dead) = x
        rw [hat]; rfl
      have ehas : std.hasI .i32 (std.nth (std.cel (std.at_ (runesA l) k)) 0) := by
        show (AV.cells ((runesA l).getD k.toNat .dead)).getD 0 .dead = .val (.int .i32 (intOf ((AV.cells ((runesA l).getD k.toNat .dead)).getD 0 .dead)))
        rw [hat]; rfl
      have etk : l.take (k + 1).toNat = l.take k.toNat ++ [x] := by
        rw [show (k + 1).toNat = k.toNat + 1 by omega, List.take_add_one, List.getElem?_eq_getElem hk, hx]; rfl
      have hbl : (bytesF (l.take k.toNat)).length + (bytesF [x]).length ≤ (bytesF l).length := by
        have e := congrArg List.length (congrArg bytesF (List.take_append_drop (k.toNat + 1) l))
        rw [bytesF_app, List.length_append, show k.toNat + 1 = (k + 1).toNat by omega, etk, bytesF_app, List.length_append] at e
        omega
      have e1 : std.app (ofA l k) [.val (.int .i64 (std.len (obA l k)))] = ofA l (k + 1) := by
        show intsA (offO (l.take k.toNat)) ++ [.val (.int .i64 ((bytesA (bytesF (l.take k.toNat))).length : Int))] = intsA (offO (l.take (k + 1).toNat))
        rw [etk, offO_app, bytes_len]
        simp [intsA]; rfl
      have e2 : std.app (obA l k) (byA x) = obA l (k + 1) := by
        show bytesA (bytesF (l.take k.toNat)) ++ bytesA (bytesF [x]) = bytesA (bytesF (l.take (k + 1).toNat))
        rw [etk, bytesF_app]
        simp [bytesA]
      rw [← eint] at e2 hbl
      refine ⟨?_, ⟨ehas, trivial⟩, ?_, cB (std.int (std.nth (std.cel (std.at_ (runesA l) k)) 0)), ?_, ?_, k + 1, ⟨by omega, by omega⟩, by omega, [some 0, some 1, some 2, some 3, some 4], _, rfl, ?_⟩
      · show 0 ≤ k ∧ k < std.len (runesA l)
        rw [hlen]; omega
      · show (intsA (offO (l.take k.toNat))).length + 1 ≤ 1000000000
        rw [ints_len, offO_len, List.length_take]; omega
      · show (bytesA (bytesF (l.take k.toNat))).length + (bytesA (bytesF [std.int (std.nth (std.cel (std.at_ (runesA l) k)) 0)])).length ≤ 1000000000
        rw [bytes_len, bytes_len]; omega
      · show (-9223372036854775808 : Int) ≤ k + 1 ∧ k + 1 ≤ (9223372036854775807 : Int)
        have := hn.eq
        omega
      · repeat first
          | exact trivial
          | refine ⟨rfl, ?_⟩
          | refine ⟨e1, ?_⟩
          | refine ⟨congrArg (fun q => AV.val (.int .i64 q)) (e1), ?_⟩
          | refine ⟨congrArg (fun q => AV.slc 1 q) (e1), ?_⟩
          | refine ⟨congrArg (fun q => AV.slc 0 q) (e1), ?_⟩
          | refine ⟨congrArg (fun q => AV.val (.bool q)) (e1), ?_⟩
          | refine ⟨congrArg (fun q => AV.val (.int .i32 q)) (e1), ?_⟩
          | refine ⟨congrArg (fun q => AV.val (.string q)) (e1), ?_⟩
          | refine ⟨e2, ?_⟩
          | refine ⟨congrArg (fun q => AV.val (.int .i64 q)) (e2), ?_⟩
          | refine ⟨congrArg (fun q => AV.slc 1 q) (e2), ?_⟩
          | refine ⟨congrArg (fun q => AV.slc 0 q) (e2), ?_⟩
          | refine ⟨congrArg (fun q => AV.val (.bool q)) (e2), ?_⟩
          | refine ⟨congrArg (fun q => AV.val (.int .i32 q)) (e2), ?_⟩
          | refine ⟨congrArg (fun q => AV.val (.string q)) (e2), ?_⟩
          | refine ⟨rfl, ?_⟩
          | refine ⟨congrArg (fun q => AV.val (.int .i64 q)) (rfl), ?_⟩
          | refine ⟨congrArg (fun q => AV.slc 1 q) (rfl), ?_⟩
          | refine ⟨congrArg (fun q => AV.slc 0 q) (rfl), ?_⟩
          | refine ⟨congrArg (fun q => AV.val (.bool q)) (rfl), ?_⟩
          | refine ⟨congrArg (fun q => AV.val (.int .i32 q)) (rfl), ?_⟩
          | refine ⟨congrArg (fun q => AV.val (.string q)) (rfl), ?_⟩
    · rw [if_pos trivial]
      generalize hp : std = p
      generalize hby_ : byA = by_
      generalize han : nodesA (rootM M).n = an
      generalize had : dgsA (rootM M).d = ad
      generalize hasx : opnsA (rootM M).s = asx
      generalize hR : runesA l = R
      generalize hOA : ofA l k = OA
      generalize hBA : obA l k = BA
      generalize hT : aexec p tys (csPo by_ rt an ad asx) _ _ _ _ = T
      cbv at hT
      subst hT
      simp only [Tree.ok, RoundOk, Bool.false_eq_true, Bool.true_eq_false, false_implies, true_implies, and_true, true_and]
      subst hp hby_ han had hasx hR hOA hBA
      have h : ¬ k < n := of_decide_eq_false h
      have hkn : l.take k.toNat = l := List.take_of_length_le (by have := hn.eq; omega)
      have e2 : obA l k = bytesA (bytesF l) := by rw [obA, hkn]
      have e1 : std.app (ofA l k) [.val (.int .i64 (std.len (obA l k)))] = intsA (ofT l).off := by
        rw [e2]
        show intsA (offO (l.take k.toNat)) ++ [.val (.int .i64 ((bytesA (bytesF l)).length : Int))] = intsA (offO l ++ [((bytesF l).length : Int)])
        rw [hkn, bytes_len]
        simp [intsA]; rfl
      rw [e2] at e1 ⊢
      have cF := all_fr _ _ _ _ _ _ _ _ cA
      rw [← e1] at cF
      refine ⟨?_, cF, .pure rfl ⟨.inl rfl, .inl rfl, .inl rfl, .inl (congrArg (AV.slc 1) e1), .inl rfl, .inl rfl, .inl rfl, trivial⟩⟩
      show (intsA (offO (l.take k.toNat))).length + 1 ≤ 1000000000
      rw [ints_len, offO_len, List.length_take]; omega
end Go.Proofs.Ytblafdmmebiagaa
namespace Go.Proofs.Ytblafdmmebiagaa
open Go.RowKit Go.Lib
theorem sp_len {l : List Node} (hw : Wf l) : ∀ (m : Nat) (n : Int) (top : Bool), 0 ≤ n → n < l.length → n.toNat < m → (spN l n top).length ≤ 2 * co l n
  | 0, _, _, _, _, h => by omega
  | m + 1, n, top, h0, h1, h2 => by
    rw [spN_eq hw h0 h1, co_eq hw h0 h1]
    split
    · simp; omega
    · have : ((nodeAt l n).kids.flatMap (fun k => spN l k false)).length ≤ 2 * ((nodeAt l n).kids.map (co l)).sum := by
        have hk : ∀ k ∈ (nodeAt l n).kids, (spN l k false).length ≤ 2 * co l k := fun k hk => by
          have := hw n h0 h1 k hk
          exact sp_len hw m k false this.1 (by omega) (by omega)
        generalize (nodeAt l n).kids = ks at hk ⊢
        induction ks with
        | nil => simp
        | cons k r ih =>
          have h3 := hk k (List.mem_cons_self ..)
          have h4 := ih fun x hx => hk x (List.mem_cons_of_mem _ hx)
          simp only [List.flatMap_cons, List.length_append, List.map_cons, List.sum_cons]
          omega
      simp only [List.length_append]
      have h5 : (if top = true then ([] : List Ev) else [⟨1, 0, []⟩]).length ≤ 1 := by split <;> simp
      have h6 : (if top = true then ([] : List Ev) else [⟨3, 0, []⟩]).length ≤ 1 := by split <;> simp
      omega
def evK (l : List Node) (c : Cur) (top : Bool) (k : Int) : List Ev := (if top = true then [] else [⟨1, 0, []⟩]) ++ ((kidsAt l c).take k.toNat).flatMap (fun x => spN l x false)
theorem evK_next {l : List Node} {c : Cur} {top : Bool} {k : Int} (h0 : 0 ≤ k) (h1 : k < (kidsAt l c).length) : evK l c top (k + 1) = evK l c top k ++ spN l (downC l c k).n false := by
  have hk : k.toNat < (kidsAt l c).length := by omega
  have hx : (downC l c k).n = (kidsAt l c)[k.toNat] := by show (kidsAt l c)[k.toNat]?.getD 0 = _; rw [List.getElem?_eq_getElem hk]; rfl
  unfold evK
  rw [show (k + 1).toNat = k.toNat + 1 by omega, List.take_add_one, List.getElem?_eq_getElem hk, List.flatMap_append, hx]
  simp
set_option maxRecDepth 20000 in
set_option maxHeartbeats 4000000 in
theorem spread_b (l : List Node) (b : List UInt8) (C : Nat) (ha : Ar l) (ho : ∀ x ∈ l, NodeOk x) (hl : l.length ≤ 1000000000) (hb : b.length ≤ 1000000) (hC : C ≤ 1000000) : ∀ (m : Nat) (c : Cur) (top : Bool), c.n.toNat < m → CurB l b C c →
    BCall Try.prog 20 [.agg (c.el (nodesA l)), .val (.bool top)] [] (.slc 3 (evsA (spN l c.n top))) [] := by
  intro m
  induction m with
  | zero => intro c top h; omega
  | succ m ih =>
  intro c top hcm hc
  have hok := hc.1.ok ha (by omega) hC
  have cK0 := CKind_b l c
  have cK := cK0.le (args := [.agg (c.el (nodesA l))]) ⟨⟨.inr (.inr (.inr rfl)), .inl rfl, .inl rfl, .inl rfl, .inl rfl, trivial⟩, trivial⟩
  have cT := TextC_b l c (CurB.prOk ha hl hb hC hc)
  have cD := Down_E l c 0 ha.ok.w hok
  have hsp := spN_eq ha.wf hc.1.h0 hc.1.h1 top
  obtain ⟨R, hR⟩ : ∃ R, R = spN l c.n top := ⟨_, rfl⟩
  rw [← hR] at hsp ⊢
  obtain ⟨n, hn⟩ := exLen (kidsAt l c)
  have hin : ∀ k : Int, 0 ≤ k → k < n → dOk l c k = true := fun k h0 h1 => decide_eq_true ⟨h0, by rw [← hn.eq]; exact h1⟩
  have hout : ∀ k : Int, ¬ k < n → dOk l c k = false := fun k h1 => decide_eq_false fun h => h1 (by rw [hn.eq]; exact h.2)
  have hn9 : n ≤ 1000000 := by rw [hn.eq]; have := hok.n; omega
  have hkid : ∀ k : Int, 0 ≤ k → k < n → BCall Try.prog 20 [.agg (dE l c k), .val (.bool false)] [] (.slc 3 (spA l (nE l c k))) [] := fun k h0 h1 => by
    have h1' : k < (kidsAt l c).length := by rw [← hn.eq]; exact h1
    have hd : CurB l b C (downC l c k) := ⟨hc.1.down ha h0 h1', hc.2.down ha ho hc.1 h0 h1'⟩
    have hk : k.toNat < (kidsAt l c).length := by omega
    have hx : (downC l c k).n = (kidsAt l c)[k.toNat] := by show (kidsAt l c)[k.toNat]?.getD 0 = _; rw [List.getElem?_eq_getElem hk]; rfl
    have hlt := ha.wf c.n hc.1.h0 hc.1.h1 _ (List.getElem_mem hk)
    have := ih (downC l c k) false (by rw [hx]; have := hlt.1; have := hlt.2; omega) hd
    rw [dE_in (hin k h0 h1), nE, if_pos (hin k h0 h1)]
    exact this
  have hnext : ∀ k : Int, 0 ≤ k → k < n → BCall Try.prog 39 [.agg (dE l c k)] [] (.tup [.agg (dE l c (nxt (kE l c k))), .val (.bool (dOk l c (nxt (kE l c k))))]) [] := fun k h0 h1 => by
    rw [dE_in (hin k h0 h1), kE, if_pos (hin k h0 h1)]
    exact NextC_b l ha.ok.w _ _ k c hok ⟨h0, by omega⟩
  have hkE : ∀ k : Int, 0 ≤ k → k < n → nxt (kE l c k) = k + 1 := fun k h0 h1 => by rw [kE, if_pos (hin k h0 h1)]; rfl
  have hnx : ∀ k : Int, 0 ≤ k → k < n → evsA (evK l c top (k + 1)) = evsA (evK l c top k) ++ spA l (nE l c k) := fun k h0 h1 => by
    rw [evK_next h0 (by rw [← hn.eq]; exact h1), evs_app, nE, if_pos (hin k h0 h1)]; rfl
  have hev : ∀ k : Int, (evK l c top k).length ≤ 3000000 := fun k => by
    have h1 := sp_len ha.wf (c.n.toNat + 1) c.n top hc.1.h0 hc.1.h1 (by omega)
    have h2 := hc.1.co
    have h3 : (evK l c top k).length ≤ 1 + ((kidsAt l c).flatMap (fun x => spN l x false)).length := by
      unfold evK
      rw [List.length_append]
      have h5 : (if top = true then ([] : List Ev) else [⟨1, 0, []⟩]).length ≤ 1 := by split <;> simp
      have h6 : (((kidsAt l c).take k.toNat).flatMap (fun x => spN l x false)).length ≤ ((kidsAt l c).flatMap (fun x => spN l x false)).length := by
        conv => rhs; rw [← List.take_append_drop k.toNat (kidsAt l c)]
        rw [List.flatMap_append, List.length_append]; omega
      omega
    have h4 : ((kidsAt l c).flatMap (fun x => spN l x false)).length ≤ 2 * coL l (kidsAt l c) := by
      have hk : ∀ k ∈ kidsAt l c, (spN l k false).length ≤ 2 * co l k := fun k hk => by
        have := ha.wf c.n hc.1.h0 hc.1.h1 k hk
        have := hc.1.h1
        exact sp_len ha.wf (k.toNat + 1) k false (by omega) (by omega) (by omega)
      generalize kidsAt l c = ks at hk ⊢
      clear h3
      induction ks with
      | nil => simp [coL]
      | cons k r ih =>
        have h3 := hk k (List.mem_cons_self ..)
        have h4 := ih fun x hx => hk x (List.mem_cons_of_mem _ hx)
        simp only [List.flatMap_cons, List.length_append, coL, List.map_cons, List.sum_cons] at h4 ⊢
        omega
    have := hc.1.cos ha
    omega
  have hbd : ∀ (k : Int) (z : List AV), z.length ≤ 3000000 → std.bnd (evsA (evK l c top k)) z := fun k z hz => by
    show (evsA (evK l c top k)).length + z.length ≤ 1000000000
    rw [evs_len]; have := hev k; omega
  have hsl : ∀ k : Int, 0 ≤ k → k < n → (spA l (nE l c k)).length ≤ 3000000 := fun k h0 h1 => by
    have := hev (k + 1)
    have e := congrArg List.length (hnx k h0 h1)
    rw [List.length_append, evs_len] at e
    omega
  obtain ⟨cn, hcn⟩ : ∃ x, x = c.n := ⟨_, rfl⟩
  obtain ⟨cf, hcf⟩ : ∃ x, x = c.f := ⟨_, rfl⟩
  obtain ⟨ck, hck⟩ : ∃ x, x = c.k := ⟨_, rfl⟩
  have hkd : kindN l cn = (nodeAt l c.n).kind := by rw [hcn]; rfl
  have hpr : prA l cn = bytesA (pr l c.n) := by rw [hcn]; rfl
  rw [← hkd] at hsp
  simp only [Cur.el, dE] at cK cT cD hkid hnext ⊢
  rw [← hcn, ← hcf, ← hck] at cK cT cD ⊢
  have cK : BCall Try.prog 21 [.agg [.opt (.ref [.slc 6 (nodesA l)]), .val (.int .i64 cn), .val (.int .i64 cf), .val (.int .i64 ck), .opt (upO (nodesA l) c)]] [] (.val (.int .i64 (kindN l cn))) [] := cK
  have cT : BCall Try.prog 15 [.agg [.opt (.ref [.slc 6 (nodesA l)]), .val (.int .i64 cn), .val (.int .i64 cf), .val (.int .i64 ck), .opt (upO (nodesA l) c)]] [] (.slc 1 (prA l cn)) [] := cT
  have hkn : kidsAt l c = (nodeAt l c.n).kids := rfl
  have hend : ∀ k : Int, k = n → evK l c top k = (if top = true then [] else [⟨1, 0, []⟩]) ++ (nodeAt l c.n).kids.flatMap (fun x => spN l x false) := fun k h => by
    have e := hn.eq
    unfold evK
    rw [List.take_of_length_le (by omega), hkn]
  clear cK0 hcm ih
  have hb0 : ∀ z, std.bnd [] [z] := fun z => by
    show 0 + 1 ≤ 1000000000
    omega
  have hb0 := hb0 (.agg [.val (.int .i64 1), .val (.int .i64 0), .val (.slice none 0 0)])
  cases top with
  | true =>
    refine bcall_of (cs := csSp (kindN l) (prA l) (pE l c) (pE l c) (nE l c) (fE l c) (kE l c) (uE l c) (dOk l c) (spA l) nxt) (ord := fun id => match id with | 3 =>  sprO | _ => .nil) tyOk (by kernel_rfl) Try.func20 rfl (enters_of Try.func20 (by kernel_rfl) rfl) (Nat.le_of_ble_eq_true rfl) (by kernel_rfl) (by kernel_rfl) ?_
    intro w0 g0
    generalize hp : std = p
    generalize hU : upO (nodesA l) c = U
    generalize hkd : kindN l = kd
    generalize htx : prA l = tx
    generalize hp0 : pE l c = p0
    generalize hn0 : nE l c = n0
    generalize hf0 : fE l c = f0
    generalize hk0 : kE l c = k0
    generalize hu0 : uE l c = u0
    generalize hok : dOk l c = ok
    generalize hsp : spA l = sp
    generalize hnx : nxt = nx
    generalize hN : nodesA l = N
    generalize hT : aexec p tys (csSp kd tx p0 p0 n0 f0 k0 u0 ok sp nx) _ _ _ _ = T
    cbv at hT
    subst hT
    simp only [Tree.ok, RoundOk, Bool.false_eq_true, Bool.true_eq_false, false_implies, true_implies, and_true, true_and]
    subst hp hU hkd htx hp0 hn0 hf0 hk0 hu0 hok hsp hnx hN
    refine ⟨cK, fun hk => ⟨fun ht => ?_, fun ht => ?_⟩, fun hk => ?_⟩
    · simp [std] at ht
    · rw [if_neg (fun h => absurd h.2 (by decide))] at hsp

      refine ⟨fun ht => ?_, fun ht => ?_⟩
      · exact absurd ht (by decide)
      
      refine ⟨cD, ?_⟩
      refine loop_rule (cs := csSp (kindN l) (prA l) (pE l c) (pE l c) (nE l c) (fE l c) (kE l c) (uE l c) (dOk l c) (spA l) nxt) (ord := fun _ => .nil) tyOk (by kernel_rfl) (by kernel_rfl) (by kernel_rfl) (X := Int) (fun k => ⟨[(1, .val (.bool true)), (2, .box 0 0), (5, .row 2 0), (6, .box 1 0), (7, .val (.bool (dOk l c k)))], [.box [.opt (.ref [.slc 6 (nodesA l)]), .val (.int .i64 cn), .val (.int .i64 cf), .val (.int .i64 ck), .opt (upO (nodesA l) c)], .box [.opt (pE l c k), .val (.int .i64 (nE l c k)), .val (.int .i64 (fE l c k)), .val (.int .i64 (kE l c k)), .opt (uE l c k)], .row 56 3 false 0 (evsA (evK l c true k))]⟩) (fun k => 0 ≤ k ∧ k ≤ n) (fun k => (n - k).toNat) 0 ?_ ?_ ?_
      · have := hn.eq
        exact ⟨Int.le_refl 0, by omega⟩
      · refine ⟨[some 0, some 1, none], _, rfl, ?_⟩
        have e0 : evsA (evK l c true 0) = [] := rfl
        rw [e0]
        repeat first
          | exact trivial
          | refine ⟨rfl, ?_⟩
          | refine ⟨rfl, ?_⟩
          | refine ⟨congrArg (fun q => AV.val (.int .i64 q)) (rfl), ?_⟩
          | refine ⟨congrArg (fun q => AV.slc 1 q) (rfl), ?_⟩
          | refine ⟨congrArg (fun q => AV.slc 0 q) (rfl), ?_⟩
          | refine ⟨congrArg (fun q => AV.val (.bool q)) (rfl), ?_⟩
          | refine ⟨congrArg (fun q => AV.val (.int .i32 q)) (rfl), ?_⟩
          | refine ⟨congrArg (fun q => AV.val (.string q)) (rfl), ?_⟩
      · rintro k ⟨hk0, hk1⟩
        have hk0 : 0 ≤ k := hk0
        have hk1 : k ≤ n := hk1
        generalize hp : std = p
        generalize hU : upO (nodesA l) c = U
        generalize hkd : kindN l = kd
        generalize htx : prA l = tx
        generalize hp0 : pE l c = p0
        generalize hn0 : nE l c = n0
        generalize hf0 : fE l c = f0
        generalize hk0 : kE l c = k0
        generalize hu0 : uE l c = u0
        generalize hok : dOk l c = ok
        generalize hsp : spA l = sp
        generalize hnx : nxt = nx
        generalize hN : nodesA l = N
        generalize hEV : evsA (evK l c true k) = EV
        generalize hT : aexec p tys (csSp kd tx p0 p0 n0 f0 k0 u0 ok sp nx) _ _ _ _ = T
        cbv at hT
        subst hT
        simp only [Tree.ok, RoundOk, Bool.false_eq_true, Bool.true_eq_false, false_implies, true_implies, and_true, true_and]
        subst hp hU hkd htx hp0 hn0 hf0 hk0 hu0 hok hsp hnx hN hEV
        refine ⟨fun h => ?_, fun h => ?_⟩
        · have hkn1 : k < n := by
            by_cases h9 : k < n
            · exact h9
            · rw [hout k h9] at h; exact absurd h (by decide)
          have hx1 := hkE k hk0 hkn1
          have cx := hnext k hk0 hkn1
          rw [hx1] at cx
          rw [hx1]
          refine ⟨hkid k hk0 hkn1, hbd k _ (hsl k hk0 hkn1), cx, k + 1, ⟨by omega, by omega⟩, by omega, [some 0, some 3, some 2], _, rfl, ?_⟩
          have e9 : std.app (evsA (evK l c true k)) (spA l (nE l c k)) = evsA (evK l c true (k + 1)) := (hnx k hk0 hkn1).symm
          repeat first
            | exact trivial
            | refine ⟨rfl, ?_⟩
            | refine ⟨e9, ?_⟩
            | refine ⟨congrArg (fun q => AV.val (.int .i64 q)) (e9), ?_⟩
            | refine ⟨congrArg (fun q => AV.slc 1 q) (e9), ?_⟩
            | refine ⟨congrArg (fun q => AV.slc 0 q) (e9), ?_⟩
            | refine ⟨congrArg (fun q => AV.val (.bool q)) (e9), ?_⟩
            | refine ⟨congrArg (fun q => AV.val (.int .i32 q)) (e9), ?_⟩
            | refine ⟨congrArg (fun q => AV.val (.string q)) (e9), ?_⟩
        · have hkn1 : k = n := by
            by_cases h9 : k < n
            · rw [hin k hk0 h9] at h; exact absurd h (by decide)
            · omega
          have hR2 := hend k hkn1
          rw [if_pos trivial]
          generalize hp : std = p
          generalize hU : upO (nodesA l) c = U
          generalize hkd : kindN l = kd
          generalize htx : prA l = tx
          generalize hp0 : pE l c = p0
          generalize hn0 : nE l c = n0
          generalize hf0 : fE l c = f0
          generalize hk0 : kE l c = k0
          generalize hu0 : uE l c = u0
          generalize hok : dOk l c = ok
          generalize hsp : spA l = sp
          generalize hnx : nxt = nx
          generalize hN : nodesA l = N
          generalize hEV : evsA (evK l c true k) = EV
          generalize hT : aexec p tys (csSp kd tx p0 p0 n0 f0 k0 u0 ok sp nx) _ _ _ _ = T
          cbv at hT
          subst hT
          simp only [Tree.ok, RoundOk, Bool.false_eq_true, Bool.true_eq_false, false_implies, true_implies, and_true, true_and]
          subst hp hU hkd htx hp0 hn0 hf0 hk0 hu0 hok hsp hnx hN hEV
          have e9 : R = evK l c true k := by rw [hR2, hsp]; simp
          rw [e9]
          exact ⟨fun h9 => absurd h9 (by decide), fun _ => .pure rfl (.inl rfl)⟩

    · have hk : (decide (kindN l cn = 21) : Bool) ≠ false := fun h => by
        have hk : (!(decide (kindN l cn = 21))) = false := hk
        rw [h] at hk; exact absurd hk (by decide)
      have h21 : kindN l cn = 21 := by
        by_cases h : kindN l cn = 21
        · exact h
        · exact absurd (decide_eq_false h) hk
      rw [if_neg (fun h => h.1 h21)] at hsp
      refine ⟨fun ht => ?_, fun ht => ?_⟩
      · exact absurd ht (by decide)
      
      refine ⟨cD, ?_⟩
      refine loop_rule (cs := csSp (kindN l) (prA l) (pE l c) (pE l c) (nE l c) (fE l c) (kE l c) (uE l c) (dOk l c) (spA l) nxt) (ord := fun _ => .nil) tyOk (by kernel_rfl) (by kernel_rfl) (by kernel_rfl) (X := Int) (fun k => ⟨[(1, .val (.bool true)), (2, .box 0 0), (5, .row 2 0), (6, .box 1 0), (7, .val (.bool (dOk l c k)))], [.box [.opt (.ref [.slc 6 (nodesA l)]), .val (.int .i64 cn), .val (.int .i64 cf), .val (.int .i64 ck), .opt (upO (nodesA l) c)], .box [.opt (pE l c k), .val (.int .i64 (nE l c k)), .val (.int .i64 (fE l c k)), .val (.int .i64 (kE l c k)), .opt (uE l c k)], .row 56 3 false 0 (evsA (evK l c true k))]⟩) (fun k => 0 ≤ k ∧ k ≤ n) (fun k => (n - k).toNat) 0 ?_ ?_ ?_
      · have := hn.eq
        exact ⟨Int.le_refl 0, by omega⟩
      · refine ⟨[some 0, some 1, none], _, rfl, ?_⟩
        have e0 : evsA (evK l c true 0) = [] := rfl
        rw [e0]
        repeat first
          | exact trivial
          | refine ⟨rfl, ?_⟩
          | refine ⟨rfl, ?_⟩
          | refine ⟨congrArg (fun q => AV.val (.int .i64 q)) (rfl), ?_⟩
          | refine ⟨congrArg (fun q => AV.slc 1 q) (rfl), ?_⟩
          | refine ⟨congrArg (fun q => AV.slc 0 q) (rfl), ?_⟩
          | refine ⟨congrArg (fun q => AV.val (.bool q)) (rfl), ?_⟩
          | refine ⟨congrArg (fun q => AV.val (.int .i32 q)) (rfl), ?_⟩
          | refine ⟨congrArg (fun q => AV.val (.string q)) (rfl), ?_⟩
      · rintro k ⟨hk0, hk1⟩
        have hk0 : 0 ≤ k := hk0
        have hk1 : k ≤ n := hk1
        generalize hp : std = p
        generalize hU : upO (nodesA l) c = U
        generalize hkd : kindN l = kd
        generalize htx : prA l = tx
        generalize hp0 : pE l c = p0
        generalize hn0 : nE l c = n0
        generalize hf0 : fE l c = f0
        generalize hk0 : kE l c = k0
        generalize hu0 : uE l c = u0
        generalize hok : dOk l c = ok
        generalize hsp : spA l = sp
        generalize hnx : nxt = nx
        generalize hN : nodesA l = N
        generalize hEV : evsA (evK l c true k) = EV
        generalize hT : aexec p tys (csSp kd tx p0 p0 n0 f0 k0 u0 ok sp nx) _ _ _ _ = T
        cbv at hT
        subst hT
        simp only [Tree.ok, RoundOk, Bool.false_eq_true, Bool.true_eq_false, false_implies, true_implies, and_true, true_and]
        subst hp hU hkd htx hp0 hn0 hf0 hk0 hu0 hok hsp hnx hN hEV
        refine ⟨fun h => ?_, fun h => ?_⟩
        · have hkn1 : k < n := by
            by_cases h9 : k < n
            · exact h9
            · rw [hout k h9] at h; exact absurd h (by decide)
          have hx1 := hkE k hk0 hkn1
          have cx := hnext k hk0 hkn1
          rw [hx1] at cx
          rw [hx1]
          refine ⟨hkid k hk0 hkn1, hbd k _ (hsl k hk0 hkn1), cx, k + 1, ⟨by omega, by omega⟩, by omega, [some 0, some 3, some 2], _, rfl, ?_⟩
          have e9 : std.app (evsA (evK l c true k)) (spA l (nE l c k)) = evsA (evK l c true (k + 1)) := (hnx k hk0 hkn1).symm
          repeat first
            | exact trivial
            | refine ⟨rfl, ?_⟩
            | refine ⟨e9, ?_⟩
            | refine ⟨congrArg (fun q => AV.val (.int .i64 q)) (e9), ?_⟩
            | refine ⟨congrArg (fun q => AV.slc 1 q) (e9), ?_⟩
            | refine ⟨congrArg (fun q => AV.slc 0 q) (e9), ?_⟩
            | refine ⟨congrArg (fun q => AV.val (.bool q)) (e9), ?_⟩
            | refine ⟨congrArg (fun q => AV.val (.int .i32 q)) (e9), ?_⟩
            | refine ⟨congrArg (fun q => AV.val (.string q)) (e9), ?_⟩
        · have hkn1 : k = n := by
            by_cases h9 : k < n
            · rw [hin k hk0 h9] at h; exact absurd h (by decide)
            · omega
          have hR2 := hend k hkn1
          rw [if_pos trivial]
          generalize hp : std = p
          generalize hU : upO (nodesA l) c = U
          generalize hkd : kindN l = kd
          generalize htx : prA l = tx
          generalize hp0 : pE l c = p0
          generalize hn0 : nE l c = n0
          generalize hf0 : fE l c = f0
          generalize hk0 : kE l c = k0
          generalize hu0 : uE l c = u0
          generalize hok : dOk l c = ok
          generalize hsp : spA l = sp
          generalize hnx : nxt = nx
          generalize hN : nodesA l = N
          generalize hEV : evsA (evK l c true k) = EV
          generalize hT : aexec p tys (csSp kd tx p0 p0 n0 f0 k0 u0 ok sp nx) _ _ _ _ = T
          cbv at hT
          subst hT
          simp only [Tree.ok, RoundOk, Bool.false_eq_true, Bool.true_eq_false, false_implies, true_implies, and_true, true_and]
          subst hp hU hkd htx hp0 hn0 hf0 hk0 hu0 hok hsp hnx hN hEV
          have e9 : R = evK l c true k := by rw [hR2, hsp]; simp
          rw [e9]
          exact ⟨fun h9 => absurd h9 (by decide), fun _ => .pure rfl (.inl rfl)⟩

  | false =>
    refine bcall_of (cs := csSp (kindN l) (prA l) (pE l c) (pE l c) (nE l c) (fE l c) (kE l c) (uE l c) (dOk l c) (spA l) nxt) (ord := fun id => match id with | 3 =>  sprO | _ => .nil) tyOk (by kernel_rfl) Try.func20 rfl (enters_of Try.func20 (by kernel_rfl) rfl) (Nat.le_of_ble_eq_true rfl) (by kernel_rfl) (by kernel_rfl) ?_
    intro w0 g0
    generalize hp : std = p
    generalize hU : upO (nodesA l) c = U
    generalize hkd : kindN l = kd
    generalize htx : prA l = tx
    generalize hp0 : pE l c = p0
    generalize hn0 : nE l c = n0
    generalize hf0 : fE l c = f0
    generalize hk0 : kE l c = k0
    generalize hu0 : uE l c = u0
    generalize hok : dOk l c = ok
    generalize hsp : spA l = sp
    generalize hnx : nxt = nx
    generalize hN : nodesA l = N
    generalize hT : aexec p tys (csSp kd tx p0 p0 n0 f0 k0 u0 ok sp nx) _ _ _ _ = T
    cbv at hT
    subst hT
    simp only [Tree.ok, RoundOk, Bool.false_eq_true, Bool.true_eq_false, false_implies, true_implies, and_true, true_and]
    subst hp hU hkd htx hp0 hn0 hf0 hk0 hu0 hok hsp hnx hN
    refine ⟨cK, fun hk => ⟨fun ht => ?_, fun ht => ?_⟩, fun hk => ?_⟩
    · have hne : ¬ kindN l cn = 21 := fun h => by
        have hk : (!(decide (kindN l cn = 21))) = true := hk
        rw [h] at hk; exact absurd hk (by decide)
      rw [if_pos ⟨hne, rfl⟩] at hsp
      have e : evsA R = [.agg [.val (.int .i64 2), .val (.int .i64 (kindN l cn)), .slc 1 (prA l cn)]] := by
        rw [hsp, hpr]; rfl
      rw [e]
      exact ⟨⟨cK, cT, .pure rfl (.inl rfl)⟩, cK, cT, .pure rfl (.inl rfl)⟩
    · exact absurd ht (by decide)
    · have hk : (decide (kindN l cn = 21) : Bool) ≠ false := fun h => by
        have hk : (!(decide (kindN l cn = 21))) = false := hk
        rw [h] at hk; exact absurd hk (by decide)
      have h21 : kindN l cn = 21 := by
        by_cases h : kindN l cn = 21
        · exact h
        · exact absurd (decide_eq_false h) hk
      rw [if_neg (fun h => h.1 h21)] at hsp
      refine ⟨fun ht => ⟨hb0, ?_⟩, fun ht => absurd ht (by decide)⟩
      
      refine ⟨cD, ?_⟩
      refine loop_rule (cs := csSp (kindN l) (prA l) (pE l c) (pE l c) (nE l c) (fE l c) (kE l c) (uE l c) (dOk l c) (spA l) nxt) (ord := fun _ => .nil) tyOk (by kernel_rfl) (by kernel_rfl) (by kernel_rfl) (X := Int) (fun k => ⟨[(1, .val (.bool false)), (2, .box 0 0), (5, .row 2 0), (6, .box 1 0), (7, .val (.bool (dOk l c k)))], [.box [.opt (.ref [.slc 6 (nodesA l)]), .val (.int .i64 cn), .val (.int .i64 cf), .val (.int .i64 ck), .opt (upO (nodesA l) c)], .box [.opt (pE l c k), .val (.int .i64 (nE l c k)), .val (.int .i64 (fE l c k)), .val (.int .i64 (kE l c k)), .opt (uE l c k)], .row 56 3 false 0 (evsA (evK l c false k))]⟩) (fun k => 0 ≤ k ∧ k ≤ n) (fun k => (n - k).toNat) 0 ?_ ?_ ?_
      · have := hn.eq
        exact ⟨Int.le_refl 0, by omega⟩
      · refine ⟨[some 0, some 3, some 2], _, rfl, ?_⟩
        have e0 : evsA (evK l c false 0) = [.agg [.val (.int .i64 1), .val (.int .i64 0), .val (.slice none 0 0)]] := rfl
        rw [e0]
        repeat first
          | exact trivial
          | refine ⟨rfl, ?_⟩
          | refine ⟨rfl, ?_⟩
          | refine ⟨congrArg (fun q => AV.val (.int .i64 q)) (rfl), ?_⟩
          | refine ⟨congrArg (fun q => AV.slc 1 q) (rfl), ?_⟩
          | refine ⟨congrArg (fun q => AV.slc 0 q) (rfl), ?_⟩
          | refine ⟨congrArg (fun q => AV.val (.bool q)) (rfl), ?_⟩
          | refine ⟨congrArg (fun q => AV.val (.int .i32 q)) (rfl), ?_⟩
          | refine ⟨congrArg (fun q => AV.val (.string q)) (rfl), ?_⟩
      · rintro k ⟨hk0, hk1⟩
        have hk0 : 0 ≤ k := hk0
        have hk1 : k ≤ n := hk1
        generalize hp : std = p
        generalize hU : upO (nodesA l) c = U
        generalize hkd : kindN l = kd
        generalize htx : prA l = tx
        generalize hp0 : pE l c = p0
        generalize hn0 : nE l c = n0
        generalize hf0 : fE l c = f0
        generalize hk0 : kE l c = k0
        generalize hu0 : uE l c = u0
        generalize hok : dOk l c = ok
        generalize hsp : spA l = sp
        generalize hnx : nxt = nx
        generalize hN : nodesA l = N
        generalize hEV : evsA (evK l c false k) = EV
        generalize hT : aexec p tys (csSp kd tx p0 p0 n0 f0 k0 u0 ok sp nx) _ _ _ _ = T
        cbv at hT
        subst hT
        simp only [Tree.ok, RoundOk, Bool.false_eq_true, Bool.true_eq_false, false_implies, true_implies, and_true, true_and]
        subst hp hU hkd htx hp0 hn0 hf0 hk0 hu0 hok hsp hnx hN hEV
        refine ⟨fun h => ?_, fun h => ?_⟩
        · have hkn1 : k < n := by
            by_cases h9 : k < n
            · exact h9
            · rw [hout k h9] at h; exact absurd h (by decide)
          have hx1 := hkE k hk0 hkn1
          have cx := hnext k hk0 hkn1
          rw [hx1] at cx
          rw [hx1]
          refine ⟨hkid k hk0 hkn1, hbd k _ (hsl k hk0 hkn1), cx, k + 1, ⟨by omega, by omega⟩, by omega, [some 0, some 3, some 2], _, rfl, ?_⟩
          have e9 : std.app (evsA (evK l c false k)) (spA l (nE l c k)) = evsA (evK l c false (k + 1)) := (hnx k hk0 hkn1).symm
          repeat first
            | exact trivial
            | refine ⟨rfl, ?_⟩
            | refine ⟨e9, ?_⟩
            | refine ⟨congrArg (fun q => AV.val (.int .i64 q)) (e9), ?_⟩
            | refine ⟨congrArg (fun q => AV.slc 1 q) (e9), ?_⟩
            | refine ⟨congrArg (fun q => AV.slc 0 q) (e9), ?_⟩
            | refine ⟨congrArg (fun q => AV.val (.bool q)) (e9), ?_⟩
            | refine ⟨congrArg (fun q => AV.val (.int .i32 q)) (e9), ?_⟩
            | refine ⟨congrArg (fun q => AV.val (.string q)) (e9), ?_⟩
        · have hkn1 : k = n := by
            by_cases h9 : k < n
            · rw [hin k hk0 h9] at h; exact absurd h (by decide)
            · omega
          have hR2 := hend k hkn1
          rw [if_pos trivial]
          generalize hp : std = p
          generalize hU : upO (nodesA l) c = U
          generalize hkd : kindN l = kd
          generalize htx : prA l = tx
          generalize hp0 : pE l c = p0
          generalize hn0 : nE l c = n0
          generalize hf0 : fE l c = f0
          generalize hk0 : kE l c = k0
          generalize hu0 : uE l c = u0
          generalize hok : dOk l c = ok
          generalize hsp : spA l = sp
          generalize hnx : nxt = nx
          generalize hN : nodesA l = N
          generalize hEV : evsA (evK l c false k) = EV
          generalize hT : aexec p tys (csSp kd tx p0 p0 n0 f0 k0 u0 ok sp nx) _ _ _ _ = T
          cbv at hT
          subst hT
          simp only [Tree.ok, RoundOk, Bool.false_eq_true, Bool.true_eq_false, false_implies, true_implies, and_true, true_and]
          subst hp hU hkd htx hp0 hn0 hf0 hk0 hu0 hok hsp hnx hN hEV
          have e9 : R = evK l c false k ++ [⟨3, 0, []⟩] := by rw [hR2, hsp]; rfl
          rw [e9, evs_app]
          exact ⟨fun _ => ⟨hbd k _ (by show 1 ≤ 3000000; omega), .pure rfl (.inl rfl)⟩, fun h9 => absurd h9 (by decide)⟩
end Go.Proofs.Ytblafdmmebiagaa
