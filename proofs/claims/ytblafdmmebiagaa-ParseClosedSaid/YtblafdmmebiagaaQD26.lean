/-
  Parts of the proof, joined: MkU MkV La Ls MkS Rw. Conditions: as each theorem says.
-/
import Derived.Test.YtblafdmmebiagaaQD25
import Derived.Test.YtblafdmmebiagaaQD24
import Derived.Test.YtblafdmmebiagaaQD07
import Derived.Test.YtblafdmmebiagaaQD16
namespace Go.Proofs.Ytblafdmmebiagaa
open Go.RowKit Go.Lib
def tkAn (t : Txt) (b : List UInt8) (k f u : Int) (w : Bool) (N D S : List AV) : List AV := nodesA (tokenF t b k f u w (mkB N D S)).n
def tkAd (t : Txt) (b : List UInt8) (k f u : Int) (w : Bool) (N D S : List AV) : List AV := dgsA (tokenF t b k f u w (mkB N D S)).d
def tkAs (t : Txt) (b : List UInt8) (k f u : Int) (w : Bool) (N D S : List AV) : List AV := opnsA (tokenF t b k f u w (mkB N D S)).s
theorem tkAn_eq (t : Txt) (b : List UInt8) (k f u : Int) (w : Bool) (m : Mk) : tkAn t b k f u w (nodesA m.n) (dgsA m.d) (opnsA m.s) = nodesA (tokenF t b k f u w m).n := by rw [tkAn, mk_back]
theorem tkAd_eq (t : Txt) (b : List UInt8) (k f u : Int) (w : Bool) (m : Mk) : tkAd t b k f u w (nodesA m.n) (dgsA m.d) (opnsA m.s) = dgsA (tokenF t b k f u w m).d := by rw [tkAd, mk_back]
theorem tkAs_eq (t : Txt) (b : List UInt8) (k f u : Int) (w : Bool) (m : Mk) : tkAs t b k f u w (nodesA m.n) (dgsA m.d) (opnsA m.s) = opnsA (tokenF t b k f u w m).s := by rw [tkAs, mk_back]
def csAl (p : Pr) (TK : List AV) (tn td ts : Int → Int → Int → Bool → List AV → List AV → List AV → List AV) (mn md ms : Int → List AV → List AV → List AV → List AV) (br : Int → List AV → List AV → List AV) : Nat → List AV → List Ob → Option (AV × List Ob) := fun f args ob => match f, args with
  | 49, [.slc 1 _] => some (.slc 4 TK, [])
  | 50, [.box 0 0, .agg [.val (.int .i64 kind), .val (.int .i64 f), .val (.int .i64 u), .val (.bool wh)]] => withM ob fun b k m r o rt N D S => some (.tup [], obM 1 b k m r o rt (tn kind f u wh N D S) (td kind f u wh N D S) (ts kind f u wh N D S))
  | 51, [.box 0 0, .val (.int .i64 a)] => withM ob fun b k m r o rt N D S => some (.tup [], obM 1 b k m r o rt (mn a N D S) (md a N D S) (ms a N D S))
  | 52, [.box 0 0, .val (.int .i64 k), .slc 1 ks] => match ob with
    | [.box [.row 1 0], .row 74 6 false 0 N] => some (.tup [.val (.int .i64 (p.len N)), .val (.int .i64 0)], [.box [.row 1 1], .row 74 6 false 1 (br k ks N)])
    | _ => none
  | _, _ => none
def alO : OT := .then [0, 1, 2, 4, 5, 6, 7, 8, 9, 10, 11, 12, 13, 14, 15, 16, 17] (.fork (.of [3, 18, 19, 20, 21, 22, 23, 24]) (.of [18, 19, 20, 21, 3, 22, 23, 24]))
theorem toks_le (l : List Int) : ∀ n k : Nat, l.length - k ≤ n → (toksGo l k).length ≤ n
  | 0, k, h => by rw [toksGo_nil (by omega)]; exact Nat.le_refl _
  | n + 1, k, h => by
    by_cases hk : k < l.length
    · have := nextTF_range l k hk
      rw [toksGo_cons hk, List.length_cons]
      have := toks_le l n (nextTF l k).2.1 (by omega)
      omega
    · rw [toksGo_nil hk]; exact Nat.zero_le _
set_option maxRecDepth 20000 in
set_option maxHeartbeats 2000000 in
theorem all_b (t : Txt) (b : List UInt8) (hs : Sml t b) (rt : Int) (m : Mk) (B D : Nat) (iv : MkI m (upTo t b 0) B D) (hB : B + 3 * t.r.length ≤ 600000) (hD : D + 3 * t.r.length ≤ 600000) :
    BCall Try.prog 30 [.box 0 0] (obT 0 t b rt m) (.tup []) (obT 1 t b (allM t b m).n.length (rootM (allM t b m))) := by
  have cT := Tokens_b t.r hs.hr
  obtain ⟨toks, htk⟩ : ∃ toks, toks = toksF t.r := ⟨_, rfl⟩
  rw [← htk] at cT
  have hnl : toks.length ≤ 1000000 := by
    have := toks_le t.r t.r.length 0 (by omega)
    rw [htk]; exact Nat.le_trans this hs.hr
  obtain ⟨n, hn⟩ := exLen toks
  obtain ⟨M0, hM0⟩ : ∃ x, x = toks.foldl (tokM t b) m := ⟨_, rfl⟩
  obtain ⟨M1, hM1⟩ : ∃ x, x = allM t b m := ⟨_, rfl⟩
  have hM01 : M1 = missGo t t.r.length 0 M0.s.length M0 := by rw [hM1, hM0, htk]; rfl
  rw [← hM1]
  obtain ⟨E, hE⟩ : ∃ x, x = rootM M1 := ⟨_, rfl⟩
  unfold obT obM
  refine bcall_of (cs := csAl std (toksA toks) (tkAn t b) (tkAd t b) (tkAs t b) (msAn t) (msAd t) (msAs t) brA) (ord := fun id => match id with | 7 =>  alO | _ => .nil) tyOk (by kernel_rfl) Try.func30 rfl (enters_of Try.func30 (by kernel_rfl) rfl) (Nat.le_of_ble_eq_true rfl) (by kernel_rfl) (by kernel_rfl) ?_
  intro w0 g0
  generalize hp : std = p
  generalize hTK : toksA toks = TK
  generalize htn : tkAn t b = tn
  generalize htd : tkAd t b = td
  generalize hts : tkAs t b = ts
  generalize hmn : msAn t = mn
  generalize hmd : msAd t = md
  generalize hms : msAs t = ms
  generalize hbr : brA = br
  generalize hN : nodesA m.n = N
  generalize hD' : dgsA m.d = D'
  generalize hS : opnsA m.s = S
  generalize hB' : bytesA b = B'
  generalize hR : runesA t.r = R
  generalize hO : intsA t.off = O
  generalize hK : t.kind = K
  generalize hM : t.bom = M
  generalize hT : aexec p tys (csAl p TK tn td ts mn md ms br) _ _ _ _ = T
  cbv at hT
  subst hT
  simp only [Tree.ok, RoundOk, Bool.false_eq_true, Bool.true_eq_false, false_implies, true_implies, and_true, true_and]
  subst hp hTK htn htd hts hmn hmd hms hbr hN hD' hS hB' hR hO hK hM
  have tlen := toks_len toks
  have hnm : std.len (toksA toks) = n := by show ((toksA toks).length : Int) = n; rw [tlen, hn.eq]
  refine ⟨cT, ?_⟩
  refine loop_rule (cs := csAl std (toksA toks) (tkAn t b) (tkAd t b) (tkAs t b) (msAn t) (msAd t) (msAs t) brA) (ord := fun _ => .nil) tyOk (by kernel_rfl) (by kernel_rfl) (by kernel_rfl) (X := Int × Mk × Nat) (fun x => ⟨[(0, .box 0 0), (12, .slc 4 (toksA toks)), (13, .val (.int .i64 n)), (14, .val (.int .i64 x.1))], [.box [.slc 1 (bytesA b), .box 1 0, .row 5 1], .box [.val (.int .i64 t.kind), .val (.int .i64 t.bom), .slc 1 (runesA t.r), .slc 1 (intsA t.off), .box 2 0, .val (.int .i64 rt), .row 4 1], .box [.row 3 1], .row 74 6 false 1 (nodesA x.2.1.n), .row 47 3 false 1 (dgsA x.2.1.d), .row 66 2 false 1 (opnsA x.2.1.s)]⟩) (fun x => 0 ≤ x.1 ∧ x.1 ≤ n ∧ x.2.2 ≤ t.r.length ∧ toksGo t.r x.2.2 = toks.drop x.1.toNat ∧ MkI x.2.1 (upTo t b x.2.2) (B + 3 * x.2.2) (D + 3 * x.2.2) ∧ (toks.drop x.1.toNat).foldl (tokM t b) x.2.1 = M0) (fun x => (n - x.1).toNat) (0, m, 0) ?_ ?_ ?_
  · have := hn.eq
    exact ⟨Int.le_refl _, by simp only; omega, Nat.zero_le _, by rw [htk]; rfl, iv, hM0.symm⟩
  · refine ⟨[some 0, some 1, some 2, some 3, some 4, some 5], _, rfl, ?_⟩
    repeat first
      | exact trivial
      | refine ⟨rfl, ?_⟩
      | refine ⟨hnm, ?_⟩
      | refine ⟨congrArg (fun q => AV.val (.int .i64 q)) (hnm), ?_⟩
      | refine ⟨congrArg (fun q => AV.slc 1 q) (hnm), ?_⟩
      | refine ⟨congrArg (fun q => AV.slc 0 q) (hnm), ?_⟩
      | refine ⟨congrArg (fun q => AV.val (.bool q)) (hnm), ?_⟩
      | refine ⟨congrArg (fun q => AV.val (.int .i32 q)) (hnm), ?_⟩
      | refine ⟨congrArg (fun q => AV.val (.string q)) (hnm), ?_⟩
  · rintro ⟨i, x, k⟩ ⟨hi0, hi1, hk, hd, hv, hf⟩
    simp only at hi0 hi1 hk hd hv hf
    have okx := hv.i.ok (by omega) (by omega)
    rcases Int.lt_or_eq_of_le hi1 with hlt | heq
    · have en := hn.eq
      have hil : i.toNat < toks.length := by omega
      have hkl : k < t.r.length := by
        by_cases h : k < t.r.length
        · exact h
        · rw [toksGo_nil h] at hd
          have := congrArg List.length hd
          rw [List.length_drop] at this
          simp at this
          omega
      obtain ⟨t1, t2, t3, t4⟩ := tok_in t.r hkl
      have hdr : toks.drop i.toNat = tokAt t.r k :: toksGo t.r (nextTF t.r k).2.1 := by rw [← hd, toksGo_cons hkl]
      have hxe : toks[i.toNat]? = some (tokAt t.r k) := by rw [← List.head?_drop, hdr]; rfl
      have hdn : toksGo t.r (nextTF t.r k).2.1 = toks.drop (i + 1).toNat := by
        rw [show (i + 1).toNat = i.toNat + 1 by omega, ← List.tail_drop, hdr]; rfl
      have hat : (toksA toks).getD i.toNat .dead = (tokAt t.r k).av := by
        rw [List.getD_eq_getElem?_getD, toksA, List.getElem?_map, hxe]; rfl
      have hin : InT t (tokAt t.r k).from_ (tokAt t.r k).to := ⟨by omega, by omega, by omega⟩
      have hXl : (upTo t b k).length ≤ 1000000 := by
        have := hs.hb
        rw [upTo, List.length_take]; omega
      have c := token_b t b hs rt x (upTo t b k) (B + 3 * k) (D + 3 * k) hv.i (by omega) (by omega) hXl (tokAt t.r k).kind (tokAt t.r k).from_ (tokAt t.r k).to (tokAt t.r k).whole hin
      have hv2 : MkI (tokM t b x (tokAt t.r k)) (upTo t b (nextTF t.r k).2.1) (B + 3 * (nextTF t.r k).2.1) (D + 3 * (nextTF t.r k).2.1) := by
        have := hv.token t b hs.hr (tokAt t.r k).kind (tokAt t.r k).from_ (tokAt t.r k).to (tokAt t.r k).whole
        rw [t1, t2, upTo_slice hs.ok (by omega) (by omega) (by omega)] at this
        have e : tokM t b x (tokAt t.r k) = tokenF t b (tokAt t.r k).kind k ((nextTF t.r k).2.1 : Nat) (tokAt t.r k).whole x := rfl
        rw [e]
        exact ⟨this.i.mono (by omega) (by omega), this.c⟩
      have hf2 : (toks.drop (i + 1).toNat).foldl (tokM t b) (tokM t b x (tokAt t.r k)) = M0 := by
        rw [hdr, List.foldl_cons] at hf
        rw [← hdn]; exact hf
      obtain ⟨y, hy⟩ : ∃ y, y = tokAt t.r k := ⟨_, rfl⟩
      obtain ⟨k2, hk2⟩ : ∃ k2, k2 = (nextTF t.r k).2.1 := ⟨_, rfl⟩
      rw [← hy] at hat hin c hv2 hf2
      rw [← hk2] at hv2 hdn t4
      clear en t1 t2 t3 hdr hxe hd hf hy hk2 hkl
      generalize hp : std = p
      generalize hTK : toksA toks = TK
      generalize htn : tkAn t b = tn
      generalize htd : tkAd t b = td
      generalize hts : tkAs t b = ts
      generalize hmn : msAn t = mn
      generalize hmd : msAd t = md
      generalize hms : msAs t = ms
      generalize hbr : brA = br
      generalize hN : nodesA x.n = N
      generalize hD' : dgsA x.d = D'
      generalize hS : opnsA x.s = S
      generalize hB' : bytesA b = B'
      generalize hR : runesA t.r = R
      generalize hO : intsA t.off = O
      generalize hK : t.kind = K
      generalize hM : t.bom = M
      generalize hT : aexec p tys (csAl p TK tn td ts mn md ms br) _ _ _ _ = T
      cbv at hT
      subst hT
      simp only [Tree.ok, RoundOk, Bool.false_eq_true, Bool.true_eq_false, false_implies, true_implies, and_true, true_and]
      subst hp hTK htn htd hts hmn hmd hms hbr hN hD' hS hB' hR hO hK hM
      unfold obT obM at c
      simp only [std, hat, Tok.av, AV.cells, List.getD_cons_zero, List.getD_cons_succ, intOf, booOf, allP, tkAn_eq, tkAd_eq, tkAs_eq, decide_eq_true_eq, decide_eq_false_iff_not]
      refine ⟨fun _ => ⟨?_, ⟨trivial, trivial, trivial, trivial, trivial⟩, c, ?_, (i + 1, tokM t b x y, k2), ⟨?_, ?_, t4, hdn, hv2, hf2⟩, ?_, [some 0, some 1, some 2, some 3, some 4, some 5], _, rfl, ?_⟩, fun h => ?_⟩
      · have := hn.eq
        rw [tlen]; omega
      · have := hn.eq
        have := hs.hr
        show (-9223372036854775808 : Int) ≤ i + 1 ∧ i + 1 ≤ (9223372036854775807 : Int)
        omega
      · show 0 ≤ i + 1
        omega
      · show i + 1 ≤ n
        omega
      · show (n - (i + 1)).toNat < (n - i).toNat
        omega
      · simp [AllEq, lk, tokM]
      · omega
    · have hd0 : toks.drop i.toNat = [] := List.drop_eq_nil_of_le (by have := hn.eq; omega)
      rw [hd0] at hd hf
      have hxM : x = M0 := hf
      have hkr : k = t.r.length := by
        by_cases h : k < t.r.length
        · rw [toksGo_cons h] at hd; cases hd
        · omega
      subst hxM
      rw [heq]
      clear hd hf hd0 hk
      have hlr : (t.r.length : Int) = t.r.length := rfl
      obtain ⟨rl, hrl⟩ := exLen t.r
      generalize hp : std = p
      generalize hTK : toksA toks = TK
      generalize htn : tkAn t b = tn
      generalize htd : tkAd t b = td
      generalize hts : tkAs t b = ts
      generalize hmn : msAn t = mn
      generalize hmd : msAd t = md
      generalize hms : msAs t = ms
      generalize hbr : brA = br
      generalize hN : nodesA x.n = N
      generalize hD' : dgsA x.d = D'
      generalize hS : opnsA x.s = S
      generalize hB' : bytesA b = B'
      generalize hR : runesA t.r = R
      generalize hO : intsA t.off = O
      generalize hK : t.kind = K
      generalize hM : t.bom = M
      generalize hT : aexec p tys (csAl p TK tn td ts mn md ms br) _ _ _ _ = T
      cbv at hT
      subst hT
      simp only [Tree.ok, RoundOk, Bool.false_eq_true, Bool.true_eq_false, false_implies, true_implies, and_true, true_and]
      subst hp hTK htn htd hts hmn hmd hms hbr hN hD' hS hB' hR hO hK hM
      refine ⟨fun h => ?_, fun _ => ?_⟩
      · have h : n < n := of_decide_eq_true h
        omega
      rw [if_pos trivial]
      generalize hp : std = p
      generalize hTK : toksA toks = TK
      generalize htn : tkAn t b = tn
      generalize htd : tkAd t b = td
      generalize hts : tkAs t b = ts
      generalize hmn : msAn t = mn
      generalize hmd : msAd t = md
      generalize hms : msAs t = ms
      generalize hbr : brA = br
      generalize hN : nodesA x.n = N
      generalize hD' : dgsA x.d = D'
      generalize hS : opnsA x.s = S
      generalize hB' : bytesA b = B'
      generalize hR : runesA t.r = R
      generalize hO : intsA t.off = O
      generalize hK : t.kind = K
      generalize hM : t.bom = M
      generalize hT : aexec p tys (csAl p TK tn td ts mn md ms br) _ _ _ _ = T
      cbv at hT
      subst hT
      simp only [Tree.ok, RoundOk, Bool.false_eq_true, Bool.true_eq_false, false_implies, true_implies, and_true, true_and]
      subst hp hTK htn htd hts hmn hmd hms hbr hN hD' hS hB' hR hO hK hM
      rw [hkr, upTo_end hs.ok] at hv
      have hv0 : MkI x b (B + 3 * t.r.length) (D + 3 * t.r.length) := hv
      have hrl2 : std.len (runesA t.r) = rl := by show ((runesA t.r).length : Int) = rl; rw [runes_len, hrl.eq]
      clear hv hkr hlr okx heq hi0 hi1
      refine loop_rule (cs := csAl std (toksA toks) (tkAn t b) (tkAd t b) (tkAs t b) (msAn t) (msAd t) (msAs t) brA) (ord := fun _ => .nil) tyOk (by kernel_rfl) (by kernel_rfl) (by kernel_rfl) (X := Mk) (fun x => ⟨[(0, .box 0 0)], [.box [.slc 1 (bytesA b), .box 1 0, .row 5 1], .box [.val (.int .i64 t.kind), .val (.int .i64 t.bom), .slc 1 (runesA t.r), .slc 1 (intsA t.off), .box 2 0, .val (.int .i64 rt), .row 4 1], .box [.row 3 1], .row 74 6 false 1 (nodesA x.n), .row 47 3 false 1 (dgsA x.d), .row 66 2 false 1 (opnsA x.s)]⟩) (fun x => MkI x b (B + 3 * t.r.length) (D + 3 * t.r.length) ∧ missGo t t.r.length 0 x.s.length x = M1) (fun x => x.s.length) x ?_ ?_ ?_
      · exact ⟨hv0, hM01.symm⟩
      · exact ⟨[some 0, some 1, some 2, some 3, some 4, some 5], _, rfl, by simp [AllEq, lk, std]⟩
      · rintro y ⟨hv, hg⟩
        have oky := hv.i.ok (by omega) (by omega)
        have ylen := opns_len y.s
        obtain ⟨LY, hLY⟩ := exLen y.s
        generalize hp : std = p
        generalize hTK : toksA toks = TK
        generalize htn : tkAn t b = tn
        generalize htd : tkAd t b = td
        generalize hts : tkAs t b = ts
        generalize hmn : msAn t = mn
        generalize hmd : msAd t = md
        generalize hms : msAs t = ms
        generalize hbr : brA = br
        generalize hN : nodesA y.n = N
        generalize hD' : dgsA y.d = D'
        generalize hS : opnsA y.s = S
        generalize hB' : bytesA b = B'
        generalize hR : runesA t.r = R
        generalize hO : intsA t.off = O
        generalize hK : t.kind = K
        generalize hM : t.bom = M
        generalize hT : aexec p tys (csAl p TK tn td ts mn md ms br) _ _ _ _ = T
        cbv at hT
        subst hT
        simp only [Tree.ok, RoundOk, Bool.false_eq_true, Bool.true_eq_false, false_implies, true_implies, and_true, true_and]
        subst hp hTK htn htd hts hmn hmd hms hbr hN hD' hS hB' hR hO hK hM
        have hly : std.len (opnsA y.s) = LY := by show ((opnsA y.s).length : Int) = LY; rw [ylen, hLY.eq]
        simp only [msAn_eq, msAd_eq, msAs_eq]
        refine ⟨fun hgt => ?_, fun hle => ?_⟩
        · have hgt : 1 < std.len (opnsA y.s) := of_decide_eq_true hgt
          rw [hly] at hgt
          have hy2 : 2 ≤ y.s.length := by have := hLY.eq; omega
          have hrr := hrl.eq
          have hol := hs.ok.len
          have c := miss_i t b rt hv.i (by omega) (by omega) hs.hb t.r.length (by omega) hy2
          have erl : (t.r.length : Int) = std.len (runesA t.r) := by rw [hrl2]; exact hrr.symm
          rw [erl] at c
          refine ⟨c, missF t (std.len (runesA t.r)) y, ⟨by rw [← erl]; exact hv.miss hy2 t t.r.length, ?_⟩, by rw [miss_len]; omega, [some 0, some 1, some 2, some 3, some 4, some 5], _, rfl, by simp [AllEq, lk, std]⟩
          rw [← erl, ← missGo_step (by omega)]; exact hg
        · have hle : ¬ 1 < std.len (opnsA y.s) := of_decide_eq_false hle
          rw [hly] at hle
          have hy1 : y.s.length = 1 := by have := hLY.eq; have := hv.i.s1; omega
          have hyM : y = M1 := by rw [← hg, missGo_end (by omega)]
          subst hyM
          clear hle hly
          rw [if_pos trivial]
          generalize hp : std = p
          generalize hTK : toksA toks = TK
          generalize htn : tkAn t b = tn
          generalize htd : tkAd t b = td
          generalize hts : tkAs t b = ts
          generalize hmn : msAn t = mn
          generalize hmd : msAd t = md
          generalize hms : msAs t = ms
          generalize hbr : brA = br
          generalize hN : nodesA y.n = N
          generalize hD' : dgsA y.d = D'
          generalize hS : opnsA y.s = S
          generalize hB' : bytesA b = B'
          generalize hR : runesA t.r = R
          generalize hO : intsA t.off = O
          generalize hK : t.kind = K
          generalize hM : t.bom = M
          generalize hT : aexec p tys (csAl p TK tn td ts mn md ms br) _ _ _ _ = T
          cbv at hT
          subst hT
          simp only [Tree.ok, RoundOk, Bool.false_eq_true, Bool.true_eq_false, false_implies, true_implies, and_true, true_and]
          subst hp hTK htn htd hts hmn hmd hms hbr hN hD' hS hB' hR hO hK hM
          obtain ⟨o, ho⟩ : ∃ o, y.s = [o] := List.length_eq_one_iff.1 hy1
          have hto : topF y.s = o := by rw [ho]; rfl
          have hcell : std.nth (std.drp (std.cel (std.at_ (opnsA y.s) 0)) 1) 0 = slK (topF y.s).kids := by rw [hto, ho]; rfl
          have hlst : std.lst (slK (topF y.s).kids) = intsA (topF y.s).kids := by cases (topF y.s).kids <;> rfl
          have hcl2 : std.lst (std.nth (std.drp (std.cel (std.at_ (opnsA y.s) 0)) 1) 0) = intsA (topF y.s).kids := by rw [hcell, hlst]
          have hflat : ((topF y.s).kids.flatMap (pr y.n)).length ≤ b.length := by
            have := hv.i.p
            rw [hto, ← this, ho]
            simp [prK]
          have hkl : (topF y.s).kids.length ≤ 900000 := oky.top
          have cB := Branch_b y.n (by have := oky.n; omega) 20 (topF y.s).kids (by omega) hv.i.top hv.i.ar.ok.w hv.i.ar.ok.c (MkInv.sum hv.i.ar hv.i.top hflat (by have := hs.hb; omega))
          rw [← brA_eq, ← nodes_len, ← hcl2] at cB
          have hnl2 := nodes_len y.n
          have fin : brA 20 (std.lst (std.nth (std.drp (std.cel (std.at_ (opnsA y.s) 0)) 1) 0)) (nodesA y.n) = nodesA (rootM y).n := by
            rw [hcl2, brA_eq]; rfl
          have e0 : std.len (nodesA y.n) = (y.n.length : Int) := by show ((nodesA y.n).length : Int) = _; rw [hnl2]
          refine ⟨?_, ⟨?_, trivial⟩, ⟨cB, ?_⟩, cB, ?_⟩
          · show 0 ≤ (0 : Int) ∧ (0 : Int) < std.len (opnsA y.s)
            show 0 ≤ (0 : Int) ∧ (0 : Int) < ((opnsA y.s).length : Int)
            rw [ylen, hy1]; decide
          · show std.hasL 1 (std.nth (std.drp (std.cel (std.at_ (opnsA y.s) 0)) 1) 0)
            rw [hcell]
            rcases slK_or (topF y.s).kids with h | h
            · exact .inl (by rw [h]; rfl)
            · exact .inr h.1
          all_goals
            refine ⟨[some 0, some 1, some 2, some 3, some 4, some 5], .tup [], _, rfl, rfl, Nat.le_of_ble_eq_true rfl, rfl, ?_, trivial⟩
            repeat first
              | exact trivial
              | refine ⟨rfl, ?_⟩
              | refine ⟨e0, ?_⟩
              | refine ⟨congrArg (fun q => AV.val (.int .i64 q)) (e0), ?_⟩
              | refine ⟨congrArg (fun q => AV.slc 1 q) (e0), ?_⟩
              | refine ⟨congrArg (fun q => AV.slc 0 q) (e0), ?_⟩
              | refine ⟨congrArg (fun q => AV.val (.bool q)) (e0), ?_⟩
              | refine ⟨congrArg (fun q => AV.val (.int .i32 q)) (e0), ?_⟩
              | refine ⟨congrArg (fun q => AV.val (.string q)) (e0), ?_⟩
              | refine ⟨fin, ?_⟩
              | refine ⟨congrArg (fun q => AV.val (.int .i64 q)) (fin), ?_⟩
              | refine ⟨congrArg (fun q => AV.slc 1 q) (fin), ?_⟩
              | refine ⟨congrArg (fun q => AV.slc 0 q) (fin), ?_⟩
              | refine ⟨congrArg (fun q => AV.val (.bool q)) (fin), ?_⟩
              | refine ⟨congrArg (fun q => AV.val (.int .i32 q)) (fin), ?_⟩
              | refine ⟨congrArg (fun q => AV.val (.string q)) (fin), ?_⟩
end Go.Proofs.Ytblafdmmebiagaa
namespace Go.Proofs.Ytblafdmmebiagaa
open Go.RowKit Go.Lib
def mk0 : Mk := ⟨[], [], [⟨[], []⟩]⟩
def markM (bs : List UInt8) : Mk := kidF 0 (addF (leafF 23 bs) mk0)
def firstM (b : List UInt8) : Mk := if 0 < (kindF b).2 then markM (b.take (kindF b).2.toNat) else mk0
def parseM (b : List UInt8) : Mk := allM (textF' b) b (firstM b)
def treeA (t : Txt) (m : Mk) : AV := .agg [.val (.int .i64 t.kind), .val (.int .i64 t.bom), .slc 1 (runesA t.r), .slc 1 (intsA t.off), .ref [.slc 6 (nodesA (rootM m).n)], .val (.int .i64 m.n.length), .slc 3 (dgsA m.d)]
def csPaM (kd bm : Int) (R O : List AV) (rt : Int) (an ad asx N1 S1 : List AV) : Nat → List AV → List Ob → Option (AV × List Ob) := fun f args ob => match f, args with
  | 26, [.slc 1 _] => some (.agg [.val (.int .i64 kd), .val (.int .i64 bm), .slc 1 R, .slc 1 O], [])
  | 27, [] => some (.box 0 0, [.box [.val (.slice none 0 0)]])
  | 29, [.box 0 0, .val (.int .i64 _), .slc 1 _] => match ob with
    | [.box [.val (.slice none 0 0)]] => some (.val (.int .i64 0), [.box [.row 1 1], .row 74 6 false 1 N1])
    | _ => none
  | 28, [.box 0 0, .val (.int .i64 _)] => match ob with
    | [.box [b, .box 1 0, .row 4 0], .box [k, m, r, o, .box 2 0, q, .val (.slice none 0 0)], .box [.row 3 0], .row 74 6 false 0 N, .row 66 2 false 0 _] =>
      some (.tup [], [.box [b, .box 1 0, .row 4 1], .box [k, m, r, o, .box 2 0, q, .row 5 1], .box [.row 3 1], .row 74 6 false 1 N, .row 66 2 false 1 S1, .row 47 3 false 1 []])
    | _ => none
  | 30, [.box 0 0] => match ob with
    | [.box [b, .box 1 0, .row 3 0], .box [k, m, r, o, .box 2 0, _, .val (.slice none 0 0)], .box [.val (.slice none 0 0)], .row 66 2 false 0 _] =>
      some (.tup [], [.box [b, .box 1 0, .row 3 1], .box [k, m, r, o, .box 2 0, .val (.int .i64 rt), .row 4 1], .box [.row 5 1], .row 66 2 false 1 asx, .row 47 3 false 1 ad, .row 74 6 false 1 an])
    | _ => withM ob fun b k m r o _ _ _ _ => some (.tup [], obM 1 b k m r o (.val (.int .i64 rt)) an ad asx)
  | _, _ => none
theorem mk0_inv : MkI mk0 [] 2 2 :=
  have h : ∀ x ∈ mk0.s, x = ⟨[], []⟩ := fun x hx => by simpa [mk0] using hx
  ⟨⟨ar_nil, (fun x hx => by rw [h x hx]; exact fun k hk => by cases hk), rfl, Nat.le_refl _, Nat.le_refl _, Nat.le_refl _, Nat.le_refl _, (fun x hx => by rw [h x hx]; exact Nat.zero_le _)⟩, Nat.le_refl _⟩
theorem mark_inv (bs : List UInt8) : MkI (markM bs) bs 3 2 := by
  have h := mk0_inv
  have ha := ar_leaf h.i.ar 23 bs
  exact ⟨inv_kid h.i ha.1 ha.2, co_leafkid h.i h.c 23 bs⟩
theorem upTo_zero (b : List UInt8) : upTo (textF' b) b 0 = b.take (kindF b).2.toNat := by
  rw [upTo, offA, show (0 : Int).toNat = 0 from rfl, (text_ok b).2.1]
theorem first_inv (b : List UInt8) : MkI (firstM b) (upTo (textF' b) b 0) 3 2 := by
  rw [upTo_zero, firstM]
  have hb := kind_bom b
  split
  · exact mark_inv _
  · have : (kindF b).2 = 0 := by omega
    rw [this]
    exact ⟨mk0_inv.i.mono (by omega) (Nat.le_refl _), mk0_inv.c⟩
theorem text_sml (b : List UInt8) (hb : b.length ≤ 100000) : Sml (textF' b) b := ⟨by omega, Nat.le_trans (text_ok b).2.2.1 (by omega), (text_ok b).1⟩
theorem all_new (t : Txt) (b : List UInt8) (hs : Sml t b) (B D : Nat) (iv : MkI mk0 (upTo t b 0) B D) (hB : B + 3 * t.r.length ≤ 600000) (hD : D + 3 * t.r.length ≤ 600000) :
    BCall Try.prog 30 [.box 0 0] [.box [.slc 1 (bytesA b), .box 1 0, .row 3 0], .box [.val (.int .i64 t.kind), .val (.int .i64 t.bom), .slc 1 (runesA t.r), .slc 1 (intsA t.off), .box 2 0, .val (.int .i64 0), .val (.slice none 0 0)], .box [.val (.slice none 0 0)], .row 66 2 false 0 (opnsA mk0.s)] (.tup [])
      [.box [.slc 1 (bytesA b), .box 1 0, .row 3 1], .box [.val (.int .i64 t.kind), .val (.int .i64 t.bom), .slc 1 (runesA t.r), .slc 1 (intsA t.off), .box 2 0, .val (.int .i64 (allM t b mk0).n.length), .row 4 1], .box [.row 5 1], .row 66 2 false 1 (opnsA (rootM (allM t b mk0)).s), .row 47 3 false 1 (dgsA (rootM (allM t b mk0)).d), .row 74 6 false 1 (nodesA (rootM (allM t b mk0)).n)] := by
  have h := all_b t b hs 0 mk0 B D iv hB hD
  unfold obT obM at h
  exact h.tell [some 0, some 1, some 2, none, none, some 3] [some 0, some 1, some 2, some 5, some 4, some 3] rfl rfl rfl (Nat.le_of_ble_eq_true rfl) rfl (by simp [AllEq, nodesA, dgsA, mk0]) (res' := .tup []) rfl (by simp [AllEq]) trivial
theorem kid_new (t : Txt) (b : List UInt8) (m : Mk) (hd : m.d = []) (hs : 1 ≤ m.s.length) (hn : m.s.length ≤ 1000000) (hk : (topF m.s).kids.length ≤ 1000000) (n : Int) :
    BCall Try.prog 28 [.box 0 0, .val (.int .i64 n)] [.box [.slc 1 (bytesA b), .box 1 0, .row 4 0], .box [.val (.int .i64 t.kind), .val (.int .i64 t.bom), .slc 1 (runesA t.r), .slc 1 (intsA t.off), .box 2 0, .val (.int .i64 0), .val (.slice none 0 0)], .box [.row 3 0], .row 74 6 false 0 (nodesA m.n), .row 66 2 false 0 (opnsA m.s)] (.tup [])
      [.box [.slc 1 (bytesA b), .box 1 0, .row 4 1], .box [.val (.int .i64 t.kind), .val (.int .i64 t.bom), .slc 1 (runesA t.r), .slc 1 (intsA t.off), .box 2 0, .val (.int .i64 0), .row 5 1], .box [.row 3 1], .row 74 6 false 1 (nodesA m.n), .row 66 2 false 1 (opnsA (kidS n m.s)), .row 47 3 false 1 []] := by
  have h := kid_b t b 0 m hs hn hk n
  unfold obT obM at h
  exact h.tell [some 0, some 1, some 2, some 3, none, some 4] [some 0, some 1, some 2, some 3, some 5, some 4] rfl rfl rfl (Nat.le_of_ble_eq_true rfl) rfl (by simp [AllEq, dgsA, hd]) (res' := .tup []) rfl (by simp [AllEq, dgsA, kidF, hd]) trivial
set_option maxRecDepth 20000 in
set_option maxHeartbeats 2000000 in
theorem Parse_b (b : List UInt8) (hb : b.length ≤ 100000) : BCall Try.prog 8 [.slc 1 (bytesA b)] [] (treeA (textF' b) (parseM b)) [] := by
  obtain ⟨ok, h1, h2, h3, h4⟩ := text_ok b
  have hs := text_sml b hb
  have cD := Decode_b b (by omega) (by omega) (fun x hx => by have := h4 x hx; omega)
  have hkb := kind_bom b
  have hE : parseM b = allM (textF' b) b (firstM b) := rfl
  have hiv := first_inv b
  have hrl := hs.hr
  have c0 := fun (h : firstM b = mk0) => all_new (textF' b) b hs 3 2 (by rw [← h]; exact hiv) (by omega) (by omega)
  have c1 := all_b (textF' b) b hs 0 (firstM b) 3 2 hiv (by omega) (by omega)
  rw [← hE] at c1
  obtain ⟨M, hM⟩ : ∃ M, M = parseM b := ⟨_, rfl⟩
  rw [← hM] at c1 hE ⊢
  have cL := Leaf0_b 23 (b.take (kindF b).2.toNat) (by rw [List.length_take]; omega)
  have cK := kid_new (textF' b) b (addF (leafF 23 (b.take (kindF b).2.toNat)) mk0) rfl (Nat.le_refl _) (Nat.le_of_ble_eq_true rfl) (Nat.zero_le _) 0
  obtain ⟨t, ht⟩ : ∃ t, t = textF' b := ⟨_, rfl⟩
  have htb : t.bom = (kindF b).2 := by rw [ht]; rfl
  rw [← ht] at cD c0 c1 cK hE ⊢
  rw [← htb] at cL cK hkb
  have hf : firstM b = if 0 < t.bom then markM (b.take t.bom.toNat) else mk0 := by rw [htb]; rfl
  obtain ⟨nb, hnb⟩ := exLen b
  have hbn : t.bom ≤ nb := by rw [hnb.eq]; exact hkb.2
  have hb0 := hkb.1
  have hcut : std.cut (bytesA b) 0 t.bom = bytesA (b.take t.bom.toNat) := by
    show ((bytesA b).drop (0 : Int).toNat).take (t.bom - 0).toNat = _
    simp [bytesA, List.map_take]
  have hbl := bytes_len b
  clear h1 h2 h3 h4 hkb hrl
  refine bcall_of (cs := csPaM t.kind t.bom (runesA t.r) (intsA t.off) M.n.length (nodesA (rootM M).n) (dgsA M.d) (opnsA M.s) (nodesA [leafF 23 (b.take t.bom.toNat)]) (opnsA (kidS 0 mk0.s))) (ord := fun _ => .nil) tyOk (by kernel_rfl) Try.func8 rfl (enters_of Try.func8 (by kernel_rfl) rfl) (Nat.le_of_ble_eq_true rfl) (by kernel_rfl) (by kernel_rfl) ?_
  intro w0 g0
  generalize hp : std = p
  generalize hN1 : nodesA [leafF 23 (b.take t.bom.toNat)] = N1
  generalize hS1 : opnsA (kidS 0 mk0.s) = S1
  generalize hrt : (M.n.length : Int) = rt
  generalize han : nodesA (rootM M).n = an
  generalize had : dgsA M.d = ad
  generalize hasx : opnsA M.s = asx
  generalize hbm : t.bom = bm
  generalize hkd : t.kind = kd
  generalize hR : runesA t.r = R
  generalize hO : intsA t.off = O
  generalize hB' : bytesA b = B'
  generalize hT : aexec p tys (csPaM kd bm R O rt an ad asx N1 S1) _ _ _ _ = T
  cbv at hT
  subst hT
  simp only [Tree.ok, RoundOk, Bool.false_eq_true, Bool.true_eq_false, false_implies, true_implies, and_true, true_and]
  subst hp hN1 hS1 hrt han had hasx hbm hkd hR hO hB'
  refine ⟨cD, New_b, fun h => ⟨?_, ?_, cK, ?_, .pure rfl ⟨.inl rfl, .inl rfl, .inl rfl, .inl rfl, .inl rfl, .inl rfl, .inl rfl, trivial⟩⟩, fun h => ⟨?_, .pure rfl ⟨.inl rfl, .inl rfl, .inl rfl, .inl rfl, .inl rfl, .inl rfl, .inl rfl, trivial⟩⟩⟩
  · show 0 ≤ (0 : Int) ∧ 0 ≤ t.bom ∧ t.bom ≤ ((bytesA b).length : Int)
    have := hnb.eq
    rw [hbl]; omega
  · show BCall _ _ [.box 0 0, .val (.int .i64 23), .slc 1 (std.cut (bytesA b) 0 t.bom)] _ _ _
    rw [hcut]; exact cL
  · have h : 0 < t.bom := of_decide_eq_true h
    rw [if_pos h] at hf
    rw [hf] at c1
    exact c1
  · have h : ¬ 0 < t.bom := of_decide_eq_false h
    rw [if_neg h] at hf
    have c := c0 hf
    rw [hf] at hE
    rw [← hE] at c
    exact c
def csTp (pr : Int → List AV) : Nat → List AV → List Ob → Option (AV × List Ob) := fun f args _ => match f, args with
  | 31, [.ref [.slc 6 _], .val (.int .i64 n)] => some (.slc 1 (pr n), [])
  | _, _ => none
def prA (l : List Node) (n : Int) : List AV := bytesA (pr l n)
structure PrOk (l : List Node) (n : Int) : Prop where
  len : l.length ≤ 1000000000
  wf : Wf l
  wide : Wide l
  h0 : 0 ≤ n
  h1 : n < l.length
  p : (pr l n).length ≤ 1000000
  c : co l n ≤ 1000000
theorem TPrint_b (t : Txt) (m : Mk) (h : PrOk (rootM m).n m.n.length) : BCall Try.prog 9 [treeA t m] [] (.slc 1 (bytesA (pr (rootM m).n m.n.length))) [] := by
  have cP := Print_b (rootM m).n h.len h.wf h.wide m.n.length h.h0 h.h1 h.p h.c
  obtain ⟨rt, hrt⟩ : ∃ rt : Int, rt = m.n.length := ⟨_, rfl⟩
  obtain ⟨l, hl⟩ : ∃ l, l = (rootM m).n := ⟨_, rfl⟩
  unfold treeA
  rw [← hrt, ← hl] at cP ⊢
  clear h
  refine bcall_of (cs := csTp (prA l)) (ord := fun _ => .nil) tyOk (by kernel_rfl) Try.func9 rfl (enters_of Try.func9 (by kernel_rfl) rfl) (Nat.le_of_ble_eq_true rfl) (by kernel_rfl) (by kernel_rfl) ?_
  intro w0 g0
  generalize hp : std = p
  generalize hpr : prA l = pr
  generalize hN : nodesA l = N
  generalize hR : runesA t.r = R
  generalize hO : intsA t.off = O
  generalize hD' : dgsA m.d = D'
  generalize hK : t.kind = K
  generalize hM : t.bom = M
  generalize hT : aexec p tys (csTp pr) _ _ _ _ = T
  cbv at hT
  subst hT
  simp only [Tree.ok, RoundOk, Bool.false_eq_true, Bool.true_eq_false, false_implies, true_implies, and_true, true_and]
  subst hp hpr hN hR hO hD' hK hM
  exact ⟨cP, .pure rfl (.inl rfl)⟩
def csTc (N : List AV) : Nat → List AV → List Ob → Option (AV × List Ob) := fun f args _ => match f, args with
  | 34, [.ref [.slc 6 _], .val (.int .i64 n)] => some (.tup [.agg [.ref [.slc 6 N], .val (.int .i64 n), .val (.int .i64 0), .val (.int .i64 0), .opt (.val (.pointer none))], .val (.int .i64 0)], [])
  | _, _ => none
theorem TCursor_b (t : Txt) (m : Mk) : BCall Try.prog 12 [treeA t m] [] (.agg ((Cur.root m.n.length).cs (nodesA (rootM m).n))) [] := by
  have cR := Root_b (rootM m).n m.n.length (by omega) (by show (m.n.length : Int) < ((m.n ++ [_]).length : Int); simp only [List.length_append, List.length_singleton]; omega)
  obtain ⟨rt, hrt⟩ : ∃ rt : Int, rt = m.n.length := ⟨_, rfl⟩
  obtain ⟨l, hl⟩ : ∃ l, l = (rootM m).n := ⟨_, rfl⟩
  unfold treeA
  rw [← hrt, ← hl] at cR ⊢
  refine bcall_of (cs := csTc (nodesA l)) (ord := fun _ => .nil) tyOk (by kernel_rfl) Try.func12 rfl (enters_of Try.func12 (by kernel_rfl) rfl) (Nat.le_of_ble_eq_true rfl) (by kernel_rfl) (by kernel_rfl) ?_
  intro w0 g0
  generalize hp : std = p
  generalize hN : nodesA l = N
  generalize hR : runesA t.r = R
  generalize hO : intsA t.off = O
  generalize hD' : dgsA m.d = D'
  generalize hK : t.kind = K
  generalize hM : t.bom = M
  generalize hT : aexec p tys (csTc N) _ _ _ _ = T
  cbv at hT
  subst hT
  simp only [Tree.ok, RoundOk, Bool.false_eq_true, Bool.true_eq_false, false_implies, true_implies, and_true, true_and]
  subst hp hN hR hO hD' hK hM
  exact ⟨cR, .pure rfl ⟨.inl rfl, .inl rfl, .inl rfl, .inl rfl, .inl rfl, trivial⟩⟩
theorem Short_b (b : List UInt8) : BCall Try.prog 7 [.slc 1 (bytesA b)] [] (.slc 1 (bytesA (b.take 400))) [] := by
  obtain ⟨n, hn⟩ := exLen b
  have hbl := bytes_len b
  have hlen : std.len (bytesA b) = n := by show ((bytesA b).length : Int) = n; rw [hbl, hn.eq]
  refine bcall_of (cs := cs0) (ord := fun _ => .nil) tyOk (by kernel_rfl) Try.func7 rfl (enters_of Try.func7 (by kernel_rfl) rfl) (Nat.le_of_ble_eq_true rfl) (by kernel_rfl) (by kernel_rfl) ?_
  intro w0 g0
  generalize hp : std = p
  generalize hB' : bytesA b = B'
  generalize hT : aexec p tys (cs0) _ _ _ _ = T
  cbv at hT
  subst hT
  simp only [Tree.ok, RoundOk, Bool.false_eq_true, Bool.true_eq_false, false_implies, true_implies, and_true, true_and]
  subst hp hB'
  refine ⟨fun h => ⟨?_, .pure rfl (.inl ?_)⟩, fun h => .pure rfl (.inl ?_)⟩
  · have h : 400 < std.len (bytesA b) := of_decide_eq_true h
    show 0 ≤ (0 : Int) ∧ 0 ≤ (400 : Int) ∧ (400 : Int) ≤ std.len (bytesA b)
    omega
  · show AV.slc 1 (((bytesA b).drop (0 : Int).toNat).take ((400 : Int) - 0).toNat) = _
    simp [bytesA, List.map_take]
  · have h : ¬ 400 < std.len (bytesA b) := of_decide_eq_false h
    have := hn.eq
    rw [List.take_of_length_le (by omega)]
end Go.Proofs.Ytblafdmmebiagaa
namespace Go.Proofs.Ytblafdmmebiagaa
open Go.RowKit Go.Lib
def exB : List UInt8 := [60, 97, 62, 60, 98, 62, 60, 47, 97, 62]
theorem ex_d : (parseM exB).d = [⟨6, 6, 4⟩] := by cbv
theorem ex_to : (toC (rootM (parseM exB)).n (Cur.root (parseM exB).n.length) [0, 1, 1]).map (fun c => (nodeAt (rootM (parseM exB)).n c.n).kind) = some 22 := by cbv
end Go.Proofs.Ytblafdmmebiagaa
namespace Go.Proofs.Ytblafdmmebiagaa
open Go.RowKit Go.Lib
structure CurIn (l : List Node) (W C : Nat) (c : Cur) : Prop where
  h0 : 0 ≤ c.n
  h1 : c.n < l.length
  f0 : 0 ≤ c.f
  w : c.f + (nodeAt l c.n).width ≤ W
  co : co l c.n ≤ C
theorem coL_len (l : List Node) (ks : List Int) : ks.length ≤ coL l ks := by
  induction ks with
  | nil => exact Nat.zero_le _
  | cons k r ih => have := co_pos l k; simp only [coL, List.map_cons, List.sum_cons, List.length_cons] at ih ⊢; omega
theorem coL_mem (l : List Node) {ks : List Int} {k : Int} (h : k ∈ ks) : co l k ≤ coL l ks := by
  induction ks with
  | nil => cases h
  | cons x r ih =>
    simp only [coL, List.map_cons, List.sum_cons] at ih ⊢
    rcases List.mem_cons.1 h with rfl | h
    · omega
    · have := ih h; omega
section
variable {l : List Node} {W C : Nat} {c : Cur}
theorem CurIn.kids (ha : Ar l) (h : CurIn l W C c) : InR l (kidsAt l c) := fun k hk => by
  have h1 := ha.wf c.n h.h0 h.h1 k hk
  have := h.h1
  omega
theorem CurIn.wide (ha : Ar l) (h : CurIn l W C c) : wsum l (kidsAt l c) ≤ (nodeAt l c.n).width ∧ 0 ≤ (nodeAt l c.n).width := by
  rw [ha.wide c.n h.h0 h.h1, wsum_pr ha.wide (h.kids ha), pr_eq ha.wf h.h0 h.h1, List.length_append]
  show (((kidsAt l c).flatMap (pr l)).length : Int) ≤ (((nodeAt l c.n).b.length + ((kidsAt l c).flatMap (pr l)).length : Nat) : Int) ∧ _
  omega
theorem CurIn.cos (ha : Ar l) (h : CurIn l W C c) : 1 + coL l (kidsAt l c) ≤ C := by
  have := h.co
  rw [co_eq ha.wf h.h0 h.h1] at this
  exact this
theorem CurIn.ok (ha : Ar l) (h : CurIn l W C c) (hW : W ≤ 2147483647) (hC : C ≤ 1000000) : CurOk l c := by
  have h1 := h.wide ha
  have h2 := h.cos ha
  have h3 := coL_len l (kidsAt l c)
  have h4 := h.w
  have h5 := h.f0
  exact ⟨by omega, by omega, h5, by omega⟩
theorem CurIn.down (ha : Ar l) (h : CurIn l W C c) {k : Int} (h0 : 0 ≤ k) (h1 : k < (kidsAt l c).length) : CurIn l W C (downC l c k) := by
  have hk : k.toNat < (kidsAt l c).length := by omega
  have hx : (kidsAt l c)[k.toNat]?.getD 0 = (kidsAt l c)[k.toNat] := by rw [List.getElem?_eq_getElem hk]; rfl
  have hm : (kidsAt l c)[k.toNat] ∈ kidsAt l c := List.getElem_mem hk
  have hr := h.kids ha _ hm
  have hw := h.wide ha
  have hc := h.cos ha
  have hcm := coL_mem l hm
  have hs1 := wsum_pos ha.ok.w ((kidsAt l c).take k.toNat)
  have hs2 := wsum_le ha.ok.w (kidsAt l c) (k.toNat + 1)
  have hs3 : wsum l ((kidsAt l c).take (k.toNat + 1)) = wsum l ((kidsAt l c).take k.toNat) + (nodeAt l (kidsAt l c)[k.toNat]).width := by
    rw [List.take_add_one, List.getElem?_eq_getElem hk]
    show (((kidsAt l c).take k.toNat ++ [(kidsAt l c)[k.toNat]]).map (widthN l)).sum = _
    rw [List.map_append, List.sum_append]
    simp [wsum, widthN]
  have h4 := h.w
  have h5 := h.f0
  refine ⟨?_, ?_, ?_, ?_, ?_⟩
  · show 0 ≤ (kidsAt l c)[k.toNat]?.getD 0
    rw [hx]; exact hr.1
  · show (kidsAt l c)[k.toNat]?.getD 0 < _
    rw [hx]; exact hr.2
  · show 0 ≤ c.f + wsum l ((kidsAt l c).take k.toNat)
    omega
  · show c.f + wsum l ((kidsAt l c).take k.toNat) + (nodeAt l ((kidsAt l c)[k.toNat]?.getD 0)).width ≤ W
    rw [hx]; omega
  · show Go.Proofs.Ytblafdmmebiagaa.co l ((kidsAt l c)[k.toNat]?.getD 0) ≤ C
    rw [hx]; omega
end
theorem CurIn.to {l : List Node} {W C : Nat} (ha : Ar l) : ∀ (p : List Int) (c x : Cur), CurIn l W C c → toC l c p = some x → CurIn l W C x
  | [], c, x, h, e => by
    obtain rfl : c = x := by simpa [toC] using e
    exact h
  | k :: r, c, x, h, e => by
    have e : (if 0 ≤ k ∧ k < (kidsAt l c).length then toC l (downC l c k) r else none) = some x := e
    split at e
    · rename_i hk
      exact CurIn.to ha r _ x (h.down ha hk.1 hk.2) e
    · cases e
structure TreeOk (b : List UInt8) (m : Mk) : Prop where
  ar : Ar (rootM m).n
  p : pr (rootM m).n m.n.length = b
  w : (nodeAt (rootM m).n m.n.length).width = b.length
  c : co (rootM m).n m.n.length ≤ 400000
  n : (rootM m).n.length ≤ 400000
  s : m.s.length = 1
theorem parse_ok (b : List UInt8) (hb : b.length ≤ 100000) : TreeOk b (parseM b) := by
  have hs := text_sml b hb
  have hr := (text_ok b).2.2.1
  obtain ⟨h1, h2⟩ := inv_all hs.ok hs.hr (first_inv b)
  have h1 : MkI (parseM b) b (3 + 3 * (textF' b).r.length) (2 + 3 * (textF' b).r.length) := h1
  have h2 : (parseM b).s.length = 1 := h2
  obtain ⟨k1, k2, k3, k4⟩ := root_prints h1 h2
  have hn := h1.i.n
  exact ⟨k1, k2, k3, by omega, by show ((parseM b).n ++ [_]).length ≤ _; simp only [List.length_append, List.length_singleton]; omega, h2⟩
theorem root_lt (m : Mk) : (m.n.length : Int) < ((rootM m).n.length : Int) := by
  show (m.n.length : Int) < ((m.n ++ [_]).length : Int)
  simp only [List.length_append, List.length_singleton]; omega
theorem TreeOk.pr {b : List UInt8} {m : Mk} (h : TreeOk b m) (hb : b.length ≤ 100000) : PrOk (rootM m).n m.n.length :=
  ⟨by have := h.n; omega, h.ar.wf, h.ar.wide, by omega, root_lt m, by rw [h.p]; omega, by have := h.c; omega⟩
theorem TreeOk.root {b : List UInt8} {m : Mk} (h : TreeOk b m) : CurIn (rootM m).n b.length 400000 (.root m.n.length) :=
  ⟨by show (0 : Int) ≤ m.n.length; omega, root_lt m, Int.le_refl _, by show (0 : Int) + (nodeAt (rootM m).n m.n.length).width ≤ _; rw [h.w]; omega, h.c⟩
theorem strB_bytes (l : List UInt8) : std.strB (bytesA l) = ⟨l.toArray⟩ := by
  show (⟨((bytesA l).map byteOf).toArray⟩ : ByteArray) = _
  rw [bytes_back]
theorem eqS_self (a : ByteArray) : std.eqS a a = true := by
  show (a.toList == a.toList) = true
  exact beq_self_eq_true _
def csAw (K M rt tn tf tk : Int) (R O N D PB : List AV) (U : AV) : Nat → List AV → List Ob → Option (AV × List Ob) := fun f args _ => match f, args with
  | 8, [.slc 1 _] => some (.agg [.val (.int .i64 K), .val (.int .i64 M), .slc 1 R, .slc 1 O, .ref [.slc 6 N], .val (.int .i64 rt), .slc 3 D], [])
  | 12, [.agg _] => some (.agg [.ref [.slc 6 N], .val (.int .i64 rt), .val (.int .i64 0), .val (.int .i64 0), .opt (.val (.pointer none))], [])
  | 33, [.agg _, .slc 1 _] => some (.tup [.agg [.ref [.slc 6 N], .val (.int .i64 tn), .val (.int .i64 tf), .val (.int .i64 tk), .opt U], .val (.bool true)], [])
  | 9, [.agg _] => some (.slc 1 PB, [])
  | 21, [.agg _] => some (.val (.int .i64 22), [])
  | _, _ => none
set_option maxRecDepth 20000 in
set_option maxHeartbeats 2000000 in
theorem awake_b : BCall Try.prog 11 [] [] (.val (.bool true)) [] := by
  have hb : exB.length ≤ 100000 := by decide
  have hO := parse_ok exB hb
  have cP := Parse_b exB hb
  have cC := TCursor_b (textF' exB) (parseM exB)
  have cPr := TPrint_b (textF' exB) (parseM exB) (hO.pr hb)
  rw [hO.p] at cPr
  have hd := ex_d
  have hto := ex_to
  obtain ⟨x, hx, hk⟩ := Option.map_eq_some_iff.1 hto
  have cT := To_b (rootM (parseM exB)).n hO.ar.ok.w (.root (parseM exB).n.length) [0, 1, 1] (by decide) (fun j x h => (CurIn.to hO.ar _ _ _ hO.root h).ok hO.ar (by decide) (by decide))
  rw [hx] at cT
  have cK := CKind_b (rootM (parseM exB)).n x
  rw [hk] at cK
  generalize parseM exB = m at cP cC cPr cT cK hd
  generalize textF' exB = t at cP cC cPr
  obtain ⟨rt, hrt⟩ : ∃ rt : Int, rt = m.n.length := ⟨_, rfl⟩
  unfold treeA at cP cC cPr
  simp only [toCs, Cur.cs, Option.isSome_some, hd] at cP cC cPr cT cK
  rw [← hrt] at cP cC cPr cT
  clear hO hb hto hx hk hd
  refine bcall_of (cs := csAw t.kind t.bom rt x.n x.f x.k (runesA t.r) (intsA t.off) (nodesA (rootM m).n) [.agg [.val (.int .i64 6), .val (.int .i64 6), .val (.int .i64 4)]] (bytesA exB) (upO (nodesA (rootM m).n) x)) (ord := fun _ => .nil) tyOk (by kernel_rfl) Try.func11 rfl (enters_of Try.func11 (by kernel_rfl) rfl) (Nat.le_of_ble_eq_true rfl) (by kernel_rfl) (by kernel_rfl) ?_
  intro w0 g0
  generalize hp : std = p
  generalize hU : upO (nodesA (rootM m).n) x = U
  generalize hN : nodesA (rootM m).n = N
  generalize htn : x.n = tn
  generalize htf : x.f = tf
  generalize htk : x.k = tk
  generalize hK : t.kind = K
  generalize hM : t.bom = M
  generalize hR : runesA t.r = R
  generalize hO : intsA t.off = O
  generalize hPB : bytesA exB = PB
  generalize hT : aexec p tys (csAw K M rt tn tf tk R O N [.agg [.val (.int .i64 6), .val (.int .i64 6), .val (.int .i64 4)]] PB U) _ _ _ _ = T
  cbv at hT
  subst hT
  simp only [Tree.ok, RoundOk, Bool.false_eq_true, Bool.true_eq_false, false_implies, true_implies, and_true, true_and]
  subst hp hU hN htn htf htk hK hM hR hO hPB
  have hS : std.eqS (std.strB (bytesA exB)) ⟨#[60, 97, 62, 60, 98, 62, 60, 47, 97, 62]⟩ = true := by rw [strB_bytes]; exact eqS_self _
  repeat' first
    | (with_reducible apply And.intro)
    | (with_reducible intro hh)
  all_goals first
    | exact cP
    | exact cC
    | exact cT
    | exact cPr
    | exact cK
    | exact isB_bytesA _
    | exact eqDiag
    | exact absurd (hS.symm.trans hh) (by decide)
    | exact absurd hh (by decide)
    | exact .pure rfl (.inl rfl)
    | exact List.cons_ne_nil _ _
    | exact ⟨rfl, rfl, rfl, trivial⟩
    | exact ⟨(by decide : (0 : Int) ≤ 0), (by decide : (0 : Int) < 1)⟩
end Go.Proofs.Ytblafdmmebiagaa
namespace Go.Proofs.Ytblafdmmebiagaa
open Go.RowKit Go.Lib
def NodeOk (x : Node) : Prop := x.b = [] ∨ x.kids = []
def DgOk (n : Nat) (x : Dg) : Prop := 0 ≤ x.f ∧ x.f ≤ x.t ∧ x.t ≤ n ∧ 1 ≤ x.c ∧ x.c ≤ 5
structure MkS (z : Nat) (m : Mk) : Prop where
  n : ∀ x ∈ m.n, NodeOk x
  d : ∀ x ∈ m.d, DgOk z x
theorem nodes_more {l : List Node} (h : ∀ x ∈ l, NodeOk x) {y : Node} (hy : NodeOk y) : ∀ x ∈ l ++ [y], NodeOk x := fun x hx => by
  rcases List.mem_append.1 hx with hx | hx
  · exact h x hx
  · obtain rfl : x = y := by simpa using hx
    exact hy
theorem leaf_ok (k : Int) (b : List UInt8) : NodeOk (leafF k b) := .inr rfl
theorem branch_ok (l : List Node) (k : Int) (ks : List Int) : NodeOk (branchF l k ks) := .inl rfl
section
variable {n : Nat} {m : Mk}
theorem MkS.add (h : MkS n m) {y : Node} (hy : NodeOk y) : MkS n (addF y m) := ⟨nodes_more h.n hy, h.d⟩
theorem MkS.kid (h : MkS n m) (k : Int) : MkS n (kidF k m) := ⟨h.n, h.d⟩
theorem MkS.lk (h : MkS n m) (t : Txt) (b : List UInt8) (kind f u : Int) : MkS n (lkF t b kind f u m) := (h.add (leaf_ok _ _)).kid _
theorem MkS.shut (h : MkS n m) (l : Int) : MkS n (shutF l m) := ⟨nodes_more h.n (branch_ok _ _ _), h.d⟩
structure Plc (t : Txt) (n : Nat) (f u : Int) : Prop where
  h0 : 0 ≤ offA t f
  h1 : offA t f ≤ offA t u
  h2 : offA t u ≤ n
theorem MkS.wrong (h : MkS n m) (t : Txt) {c f u : Int} (hp : Plc t n f u) (hc : 1 ≤ c ∧ c ≤ 5) : MkS n (wrongF t c f u m) := ⟨h.n, fun x hx => by
  rcases List.mem_append.1 hx with hx | hx
  · exact h.d x hx
  · obtain rfl : x = ⟨offA t f, offA t u, c⟩ := by simpa using hx
    exact ⟨hp.h0, hp.h1, hp.h2, hc.1, hc.2⟩⟩
theorem Plc.same {t : Txt} {f u : Int} (h : Plc t n f u) : Plc t n f f := ⟨h.h0, Int.le_refl _, Int.le_trans h.h1 h.h2⟩
theorem MkS.miss (h : MkS n m) (t : Txt) {a : Int} (hp : Plc t n a a) : MkS n (missF t a m) := ((h.wrong t hp (by decide)).add (leaf_ok _ _)).shut _
end
theorem MkS.missGo {n : Nat} (t : Txt) {f : Int} (hp : Plc t n f f) (k : Nat) : ∀ (j : Nat) (m : Mk), MkS n m → MkS n (missGo t f k j m)
  | 0, _, h => h
  | j + 1, m, h => by
    show MkS n (if _ then _ else _)
    split
    · exact MkS.missGo t hp k j _ (h.miss t hp)
    · exact h
section
variable {n : Nat} {m : Mk}
theorem MkS.start (h : MkS n m) (t : Txt) (b : List UInt8) (kind : Int) {f u : Int} (hp : Plc t n f u) : MkS n (startF' t b kind f u m) := by
  unfold startF'
  split
  · exact (h.wrong t hp (by decide)).lk t b kind f u
  · exact MkS.lk (m := { m with s := m.s ++ [⟨nameF' t f u, []⟩] }) ⟨h.n, h.d⟩ t b kind f u
theorem MkS.end_ (h : MkS n m) (t : Txt) (b : List UInt8) (kind : Int) {f u : Int} (hp : Plc t n f u) : MkS n (endF' t b kind f u m) := by
  unfold endF'
  simp only
  split
  · exact (h.wrong t hp (by decide)).lk t b kind f u
  · exact ((MkS.missGo t hp.same _ _ _ h).add (leaf_ok _ _)).shut _
theorem MkS.token (h : MkS n m) (t : Txt) (b : List UInt8) (kind : Int) {f u : Int} (wh : Bool) (hp : Plc t n f u) : MkS n (tokenF t b kind f u wh m) := by
  unfold tokenF
  simp only
  generalize hm1 : (if wh = false then wrongF t 1 f u m else if (kind = 8 ∨ kind = 9 ∨ kind = 10) ∧ (readF t.r f u).right = false then wrongF t 2 f u m else m) = m1
  have h1 : MkS n m1 := by
    rw [← hm1]
    split
    · exact h.wrong t hp (by decide)
    · split
      · exact h.wrong t hp (by decide)
      · exact h
  split
  · exact h1.start t b kind hp
  · split
    · exact h1.end_ t b kind hp
    · exact h1.lk t b kind f u
end
theorem plc_of {t : Txt} {b : List UInt8} (ok : TxtOk t b) {f u : Int} (h0 : 0 ≤ f) (h1 : f ≤ u) (h2 : u ≤ t.r.length) : Plc t b.length f u := by
  have hm := ok.mono f.toNat u.toNat (by omega) (by omega)
  have hlen := ok.len
  have hf : f.toNat < t.off.length := by omega
  have hu : u.toNat < t.off.length := by omega
  have h3 := ok.range (t.off[f.toNat]'hf) (List.getElem_mem hf)
  have h4 := ok.range (t.off[u.toNat]'hu) (List.getElem_mem hu)
  have e3 : t.off[f.toNat]?.getD 0 = t.off[f.toNat] := by rw [List.getElem?_eq_getElem hf]; rfl
  have e4 : t.off[u.toNat]?.getD 0 = t.off[u.toNat] := by rw [List.getElem?_eq_getElem hu]; rfl
  rw [← e3] at h3
  rw [← e4] at h4
  exact ⟨h3.1, hm, h4.2⟩
theorem MkS.toks {t : Txt} {b : List UInt8} (ok : TxtOk t b) : ∀ (n k : Nat) (m : Mk), t.r.length - k ≤ n → MkS b.length m → MkS b.length ((toksGo t.r k).foldl (tokM t b) m)
  | 0, k, m, h, hi => by
    rw [toksGo_nil (by omega)]; exact hi
  | n + 1, k, m, h, hi => by
    by_cases hlt : k < t.r.length
    · obtain ⟨h1, h2, h3, h4⟩ := tok_in t.r hlt
      rw [toksGo_cons hlt, List.foldl_cons]
      have hp : Plc t b.length (tokAt t.r k).from_ (tokAt t.r k).to := plc_of ok (by omega) (by omega) (by omega)
      exact MkS.toks ok n (nextTF t.r k).2.1 _ (by omega) (hi.token t b _ _ hp)
    · rw [toksGo_nil hlt]; exact hi
theorem MkS.all {t : Txt} {b : List UInt8} (ok : TxtOk t b) {m : Mk} (hi : MkS b.length m) : MkS b.length (allM t b m) :=
  MkS.missGo t (plc_of ok (by omega) (Int.le_refl _) (Int.le_refl _)) 0 _ _ (MkS.toks ok t.r.length 0 m (by omega) hi)
theorem first_s (b : List UInt8) (n : Nat) : MkS n (firstM b) := by
  have h0 : MkS n mk0 := ⟨(fun x hx => by cases hx), fun x hx => by cases hx⟩
  unfold firstM
  split
  · exact (h0.add (leaf_ok _ _)).kid _
  · exact h0
theorem parse_s (b : List UInt8) : MkS b.length (parseM b) := MkS.all (text_ok b).1 (first_s b _)
theorem parse_nodes (b : List UInt8) : ∀ x ∈ (rootM (parseM b)).n, NodeOk x := nodes_more (parse_s b).n (branch_ok _ _ _)
end Go.Proofs.Ytblafdmmebiagaa
namespace Go.Proofs.Ytblafdmmebiagaa
open Go.RowKit Go.Lib
def IsN (n : Nat) (i : Int) : Prop := i = n
theorem IsN.eq {n : Nat} {i : Int} (h : IsN n i) : i = (n : Int) := h
def Cur.el (N : List AV) (c : Cur) : List AV := [.opt (.ref [.slc 6 N]), .val (.int .i64 c.n), .val (.int .i64 c.f), .val (.int .i64 c.k), .opt (upO N c)]
def cursA (N : List AV) (l : List Cur) : List AV := l.map fun c => .agg (c.el N)
theorem curs_len (N : List AV) (l : List Cur) : (cursA N l).length = l.length := by simp [cursA]
theorem curs_app (N : List AV) (a b : List Cur) : cursA N (a ++ b) = cursA N a ++ cursA N b := by simp [cursA]
def downs (l : List Node) (c : Cur) : Nat → List Cur
  | 0 => []
  | k + 1 => downC l c k :: downs l c k
def walkGo (l : List Node) : Nat → List Cur → List Cur
  | 0, _ => []
  | n + 1, st => match st.getLast? with
    | none => []
    | some x => x :: walkGo l n (st.dropLast ++ downs l x (kidsAt l x).length)
def walkF (l : List Node) (c : Cur) (n : Nat) : List Cur := walkGo l n [c]
def coC (l : List Node) (st : List Cur) : Nat := (st.map fun c => co l c.n).sum
theorem coC_app (l : List Node) (a b : List Cur) : coC l (a ++ b) = coC l a + coC l b := by simp [coC]
theorem coC_len (l : List Node) (st : List Cur) : st.length ≤ coC l st := by
  induction st with
  | nil => exact Nat.zero_le _
  | cons c r ih => have := co_pos l c.n; simp only [coC, List.map_cons, List.sum_cons, List.length_cons] at ih ⊢; omega
theorem downs_co (l : List Node) (c : Cur) : ∀ k, k ≤ (kidsAt l c).length → coC l (downs l c k) = coL l ((kidsAt l c).take k)
  | 0, _ => rfl
  | k + 1, h => by
    have h1 : k < (kidsAt l c).length := h
    have e : (kidsAt l c)[(k : Int).toNat]?.getD 0 = (kidsAt l c)[k] := by rw [Int.toNat_natCast, List.getElem?_eq_getElem h1]; rfl
    have ih := downs_co l c k (by omega)
    rw [List.take_add_one, List.getElem?_eq_getElem h1, coL_app]
    show co l (downC l c k).n + coC l (downs l c k) = _
    rw [ih, show (downC l c k).n = (kidsAt l c)[k] from e]
    simp only [Option.toList_some, coL_one]
    omega
theorem downs_in {l : List Node} {W C : Nat} {c : Cur} (ha : Ar l) (h : CurIn l W C c) : ∀ k, k ≤ (kidsAt l c).length → ∀ x ∈ downs l c k, CurIn l W C x
  | 0, _, x, hx => by cases hx
  | k + 1, hk, x, hx => by
    rcases List.mem_cons.1 hx with rfl | hx
    · exact h.down ha (by omega) (by omega)
    · exact downs_in ha h k (by omega) x hx
theorem walkGo_all {l : List Node} {Q : Cur → Prop} (hQ : ∀ x, Q x → ∀ y ∈ downs l x (kidsAt l x).length, Q y) : ∀ (n : Nat) (st : List Cur), (∀ x ∈ st, Q x) → ∀ y ∈ walkGo l n st, Q y
  | 0, _, _, y, hy => by cases hy
  | n + 1, st, h, y, hy => by
    unfold walkGo at hy
    cases hl : st.getLast? with
    | none => rw [hl] at hy; cases hy
    | some x =>
      rw [hl] at hy
      have hx : Q x := h x (List.mem_of_getLast? hl)
      rcases List.mem_cons.1 hy with rfl | hy
      · exact hx
      · refine walkGo_all hQ n _ (fun z hz => ?_) y hy
        rcases List.mem_append.1 hz with hz | hz
        · exact h z (List.dropLast_subset _ hz)
        · exact hQ x hx z hz
def CurAt (l : List Node) (b : List UInt8) (c : Cur) : Prop := ∃ pre post, b = pre ++ (pr l c.n ++ post) ∧ (pre.length : Int) = c.f
theorem CurAt.down {l : List Node} {b : List UInt8} {W C : Nat} {c : Cur} (ha : Ar l) (ho : ∀ x ∈ l, NodeOk x) (h : CurIn l W C c) (hb : CurAt l b c) {k : Int} (h0 : 0 ≤ k) (h1 : k < (kidsAt l c).length) : CurAt l b (downC l c k) := by
  obtain ⟨pre, post, e1, e2⟩ := hb
  have hk : k.toNat < (kidsAt l c).length := by omega
  have hx : (downC l c k).n = (kidsAt l c)[k.toNat] := by show (kidsAt l c)[k.toNat]?.getD 0 = _; rw [List.getElem?_eq_getElem hk]; rfl
  have hin := h.kids ha
  have hnb : (nodeAt l c.n).b = [] := by
    have hm : nodeAt l c.n ∈ l := by
      have hlt : c.n.toNat < l.length := by have := h.h0; have := h.h1; omega
      rw [nodeAt, if_pos ⟨h.h0, h.h1⟩, List.getElem?_eq_getElem hlt]
      exact List.getElem_mem hlt
    rcases ho _ hm with h2 | h2
    · exact h2
    · have h2 : kidsAt l c = [] := h2
      rw [h2] at hk; exact absurd hk (by simp)
  have hp : pr l c.n = (kidsAt l c).flatMap (pr l) := by
    rw [pr_eq ha.wf h.h0 h.h1, hnb]; rfl
  have hsp : kidsAt l c = (kidsAt l c).take k.toNat ++ ((kidsAt l c)[k.toNat] :: (kidsAt l c).drop (k.toNat + 1)) := by
    rw [← List.drop_eq_getElem_cons hk, List.take_append_drop]
  have hpk : pr l c.n = ((kidsAt l c).take k.toNat).flatMap (pr l) ++ (pr l (kidsAt l c)[k.toNat] ++ ((kidsAt l c).drop (k.toNat + 1)).flatMap (pr l)) := by
    rw [hp]
    conv => lhs; rw [hsp]
    rw [List.flatMap_append, List.flatMap_cons]
  refine ⟨pre ++ ((kidsAt l c).take k.toNat).flatMap (pr l), ((kidsAt l c).drop (k.toNat + 1)).flatMap (pr l) ++ post, ?_, ?_⟩
  · rw [e1, hpk, hx]; simp only [List.append_assoc]
  · show ((pre ++ _).length : Int) = c.f + wsum l ((kidsAt l c).take k.toNat)
    rw [wsum_pr ha.wide (fun y hy => hin y (List.mem_of_mem_take hy)), List.length_append]
    omega
def CurB (l : List Node) (b : List UInt8) (C : Nat) (c : Cur) : Prop := CurIn l b.length C c ∧ CurAt l b c
theorem CurB.downs {l : List Node} {b : List UInt8} {C : Nat} {c : Cur} (ha : Ar l) (ho : ∀ x ∈ l, NodeOk x) (h : CurB l b C c) : ∀ k, k ≤ (kidsAt l c).length → ∀ x ∈ Go.Proofs.Ytblafdmmebiagaa.downs l c k, CurB l b C x
  | 0, _, x, hx => by cases hx
  | k + 1, hk, x, hx => by
    rcases List.mem_cons.1 hx with rfl | hx
    · exact ⟨h.1.down ha (by omega) (by omega), h.2.down ha ho h.1 (by omega) (by omega)⟩
    · exact CurB.downs ha ho h k (by omega) x hx
theorem walk_all {l : List Node} {b : List UInt8} {C : Nat} {c : Cur} (ha : Ar l) (ho : ∀ x ∈ l, NodeOk x) (h : CurB l b C c) (n : Nat) : ∀ x ∈ walkF l c n, CurB l b C x :=
  walkGo_all (fun x hx y hy => hx.downs ha ho _ (Nat.le_refl _) y hy) n [c] (fun x hx => by
    obtain rfl : x = c := by simpa using hx
    exact h)
theorem CurAt.cut {l : List Node} {b : List UInt8} {c : Cur} (h : CurAt l b c) : (b.drop c.f.toNat).take (pr l c.n).length = pr l c.n := by
  obtain ⟨pre, post, e1, e2⟩ := h
  rw [e1, show c.f.toNat = pre.length by omega, List.drop_left, List.take_left]
theorem Down_el (l : List Node) (c : Cur) (k : Int) (h0 : 0 ≤ k) (h1 : k < (kidsAt l c).length) (hw : ∀ n, 0 ≤ widthN l n) (ok : CurOk l c) :
    BCall Try.prog 35 [.agg (c.el (nodesA l)), .val (.int .i64 k)] [] (.tup [.agg ((downC l c k).el (nodesA l)), .val (.bool true)]) [] :=
  ((Down_ok l c k h0 h1 ok.n hw ok.s ok.f0 ok.f1).le (args := [.agg (c.el (nodesA l)), .val (.int .i64 k)]) ⟨⟨.inr (.inr (.inr rfl)), .inl rfl, .inl rfl, .inl rfl, .inl rfl, trivial⟩, .inl rfl, trivial⟩).res (res' := .tup [.agg ((downC l c k).el (nodesA l)), .val (.bool true)]) ⟨⟨.inr (.inr (.inl ⟨rfl, trivial⟩)), .inl rfl, .inl rfl, .inl rfl, .inl rfl, trivial⟩, .inl rfl, trivial⟩
theorem walkGo_nil (l : List Node) : ∀ n, walkGo l n [] = []
  | 0 => rfl
  | _ + 1 => rfl
theorem walkGo_app (l : List Node) (n : Nat) (st : List Cur) (x : Cur) : walkGo l (n + 1) (st ++ [x]) = x :: walkGo l n (st ++ downs l x (kidsAt l x).length) := by
  show (match (st ++ [x]).getLast? with | none => [] | some y => y :: walkGo l n ((st ++ [x]).dropLast ++ downs l y (kidsAt l y).length)) = _
  simp
theorem Kids_el (l : List Node) (c : Cur) (hn : (kidsAt l c).length ≤ 1000000000) : BCall Try.prog 22 [.opt (.ref [.slc 6 (nodesA l)]), .val (.int .i64 c.n)] [] (.slc 1 (kidsN l c.n)) [] :=
  (Kids_b l c.n hn).le (args := [.opt (.ref [.slc 6 (nodesA l)]), .val (.int .i64 c.n)]) ⟨.inr (.inr (.inr rfl)), .inl rfl, trivial⟩
def dnW (l : List Node) (n i : Int) : Int := (nodeAt l n).kids[i.toNat]?.getD 0
def dfW (l : List Node) (n f i : Int) : Int := f + wsum l ((nodeAt l n).kids.take i.toNat)
def duW (N : List AV) (n f k : Int) (U : AV) : AV := .ref [.ref [.slc 6 N], .val (.int .i64 n), .val (.int .i64 f), .val (.int .i64 k), U]
def csWk (N : List AV) (kd : Int → List AV) (dn : Int → Int → Int) (df : Int → Int → Int → Int) (du : Int → Int → Int → AV → AV) : Nat → List AV → List Ob → Option (AV × List Ob) := fun g args _ => match g, args with
  | 22, [.opt (.ref [.slc 6 _]), .val (.int .i64 n)] => some (.slc 1 (kd n), [])
  | 35, [.agg [.opt (.ref [.slc 6 _]), .val (.int .i64 n), .val (.int .i64 f), .val (.int .i64 k), U], .val (.int .i64 i)] => some (.tup [.agg [.opt (.ref [.slc 6 N]), .val (.int .i64 (dn n i)), .val (.int .i64 (df n f i)), .val (.int .i64 i), .opt (du n f k U)], .val (.bool true)], [])
  | _, _ => none
set_option maxRecDepth 20000 in
set_option maxHeartbeats 2000000 in
theorem Walk_b (l : List Node) (W C : Nat) (ha : Ar l) (hW : W ≤ 2147483647) (hC : C ≤ 1000000) (c : Cur) (hc : CurIn l W C c) (most : Nat) (hm : most ≤ 1000000) :
    BCall Try.prog 13 [.agg (c.el (nodesA l)), .val (.int .i64 most)] [] (.slc 5 (cursA (nodesA l) (walkF l c most))) [] := by
  obtain ⟨mo, hmo⟩ : ∃ mo : Int, IsN most mo := ⟨_, rfl⟩
  rw [← hmo.eq]
  obtain ⟨R, hR⟩ : ∃ R, R = walkF l c most := ⟨_, rfl⟩
  rw [← hR]
  rw [Cur.el]
  obtain ⟨cn, hcn⟩ : ∃ x, x = c.n := ⟨_, rfl⟩
  obtain ⟨cf, hcf⟩ : ∃ x, x = c.f := ⟨_, rfl⟩
  obtain ⟨ck, hck⟩ : ∃ x, x = c.k := ⟨_, rfl⟩
  rw [← hcn, ← hcf, ← hck]
  refine bcall_of (cs := csWk (nodesA l) (kidsN l) (dnW l) (dfW l) (duW (nodesA l))) (ord := fun _ => .nil) tyOk (by kernel_rfl) Try.func13 rfl (enters_of Try.func13 (by kernel_rfl) rfl) (Nat.le_of_ble_eq_true rfl) (by kernel_rfl) (by kernel_rfl) ?_
  intro w0 g0
  generalize hp : std = p
  generalize hU : upO (nodesA l) c = U
  generalize hkd : kidsN l = kd
  generalize hdn : dnW l = dn
  generalize hdf : dfW l = df
  generalize hdu : duW (nodesA l) = du
  generalize hN : nodesA l = N
  generalize hT : aexec p tys (csWk N kd dn df du) _ _ _ _ = T
  cbv at hT
  subst hT
  simp only [Tree.ok, RoundOk, Bool.false_eq_true, Bool.true_eq_false, false_implies, true_implies, and_true, true_and]
  subst hp hU hkd hdn hdf hdu hN
  refine ⟨fun h => absurd (show false = true from h) (by decide), fun _ => ?_⟩
  refine loop_rule (cs := csWk (nodesA l) (kidsN l) (dnW l) (dfW l) (duW (nodesA l))) (ord := fun _ => .nil) tyOk (by kernel_rfl) (by kernel_rfl) (by kernel_rfl) (X := List Cur × List Cur) (fun x => ⟨[(1, .val (.int .i64 mo)), (2, .box 0 0), (5, .row 1 0), (6, .row 2 0)], [.box [.opt (.ref [.slc 6 (nodesA l)]), .val (.int .i64 cn), .val (.int .i64 cf), .val (.int .i64 ck), .opt (upO (nodesA l) c)], .row 40 5 false 0 (cursA (nodesA l) x.1), .row 40 5 false 0 (cursA (nodesA l) x.2)]⟩) (fun x => x.1 ++ walkGo l (most - x.1.length) x.2 = R ∧ (∀ y ∈ x.2, CurIn l W C y) ∧ coC l x.2 ≤ C ∧ x.1.length ≤ most) (fun x => most - x.1.length) ([], [c]) ?_ ?_ ?_
  · refine ⟨by rw [hR]; rfl, fun y hy => ?_, ?_, Nat.zero_le _⟩
    · obtain rfl : y = c := by simpa using hy
      exact hc
    · have := hc.co
      simpa [coC] using this
  · refine ⟨[some 0, none, some 1], _, rfl, ?_⟩
    subst hcn hcf hck
    repeat first
      | exact trivial
      | refine ⟨rfl, ?_⟩
      | refine ⟨rfl, ?_⟩
      | refine ⟨congrArg (fun q => AV.val (.int .i64 q)) (rfl), ?_⟩
      | refine ⟨congrArg (fun q => AV.slc 1 q) (rfl), ?_⟩
      | refine ⟨congrArg (fun q => AV.slc 0 q) (rfl), ?_⟩
      | refine ⟨congrArg (fun q => AV.val (.bool q)) (rfl), ?_⟩
      | refine ⟨congrArg (fun q => AV.val (.int .i32 q)) (rfl), ?_⟩
      | refine ⟨congrArg (fun q => AV.val (.string q)) (rfl), ?_⟩
  · rintro ⟨o, st⟩ ⟨hJ, hin, hco, hol⟩
    simp only at hJ hin hco hol
    have olen := curs_len (nodesA l) o
    have slen := curs_len (nodesA l) st
    obtain ⟨lo, hlo⟩ := exLen o
    obtain ⟨ls, hls⟩ := exLen st
    have hoA : std.len (cursA (nodesA l) o) = lo := by show ((cursA (nodesA l) o).length : Int) = lo; rw [olen, hlo.eq]
    have hsA : std.len (cursA (nodesA l) st) = ls := by show ((cursA (nodesA l) st).length : Int) = ls; rw [slen, hls.eq]
    generalize hp : std = p
    generalize hU : upO (nodesA l) c = U
    generalize hOA : cursA (nodesA l) o = OA
    generalize hSA : cursA (nodesA l) st = SA
    generalize hkd : kidsN l = kd
    generalize hdn : dnW l = dn
    generalize hdf : dfW l = df
    generalize hdu : duW (nodesA l) = du
    generalize hN : nodesA l = N
    generalize hT : aexec p tys (csWk N kd dn df du) _ _ _ _ = T
    cbv at hT
    subst hT
    simp only [Tree.ok, RoundOk, Bool.false_eq_true, Bool.true_eq_false, false_implies, true_implies, and_true, true_and]
    subst hp hU hOA hSA hkd hdn hdf hdu hN
    refine ⟨fun h1 => ⟨fun h2 => ?_, fun h2 => ?_⟩, fun h1 => ?_⟩
    · have h1 : 0 < std.len (cursA (nodesA l) st) := of_decide_eq_true h1
      have h2 : std.len (cursA (nodesA l) o) < mo := of_decide_eq_true h2
      rw [hsA] at h1
      rw [hoA] at h2
      have hne : st ≠ [] := by rintro rfl; have := hls.eq; simp at this; omega
      obtain ⟨st0, x, rfl⟩ : ∃ st0 x, st = st0 ++ [x] := ⟨st.dropLast, st.getLast hne, (List.dropLast_concat_getLast hne).symm⟩
      have hx : CurIn l W C x := hin x (by simp)
      have hxo := hx.ok ha hW hC
      have hkn := hx.cos ha
      have hkl := coL_len l (kidsAt l x)
      have slen0 := curs_len (nodesA l) st0
      have hat : (cursA (nodesA l) (st0 ++ [x])).getD (((cursA (nodesA l) (st0 ++ [x])).length : Int) - 1).toNat .dead = .agg (x.el (nodesA l)) := by
        rw [show (((cursA (nodesA l) (st0 ++ [x])).length : Int) - 1).toNat = (cursA (nodesA l) st0).length by rw [curs_len, curs_len]; simp, curs_app]
        simp [cursA]
      have hcut : List.take (((cursA (nodesA l) (st0 ++ [x])).length : Int) - 1 - 0).toNat (List.drop (0 : Int).toNat (cursA (nodesA l) (st0 ++ [x]))) = cursA (nodesA l) st0 := by
        rw [show (((cursA (nodesA l) (st0 ++ [x])).length : Int) - 1 - 0).toNat = (cursA (nodesA l) st0).length by rw [curs_len, curs_len]; simp, curs_app]
        simp
      obtain ⟨n, hn⟩ := exLen (kidsAt l x)
      have hkA : ((kidsN l x.n).length : Int) = n := by
        show ((intsA (kidsAt l x)).length : Int) = n
        rw [ints_len, hn.eq]
      have cK := Kids_el l x (by omega)
      have hcoL : st0.length ≤ 1000000 := by
        have := coC_len l st0
        rw [coC_app] at hco
        omega
      have hbd : std.bnd (cursA (nodesA l) o) [.agg (x.el (nodesA l))] := by
        show (cursA (nodesA l) o).length + 1 ≤ 1000000000
        rw [olen]; omega
      simp only [std, hat, hcut, Cur.el, AV.cells, List.drop_zero, List.getD_cons_zero, List.getD_cons_succ, intOf, unoA, allP, hkA]
      have hlen1 : ((cursA (nodesA l) (st0 ++ [x])).length : Int) = st0.length + 1 := by rw [curs_len]; simp
      have hUx : isPtr (.opt (upO (nodesA l) x)) := upO_ptr _ _
      refine ⟨?_, ?_, ⟨trivial, trivial, trivial, trivial, hUx, trivial⟩, ?_, ?_, hbd, cK, ?_, ?_⟩
      · show (-9223372036854775808 : Int) ≤ _ ∧ _ ≤ (9223372036854775807 : Int)
        rw [hlen1]; omega
      · rw [hlen1]; omega
      · show (-9223372036854775808 : Int) ≤ _ ∧ _ ≤ (9223372036854775807 : Int)
        rw [hlen1]; omega
      · rw [hlen1]; omega
      · show (-9223372036854775808 : Int) ≤ n - 1 ∧ n - 1 ≤ (9223372036854775807 : Int)
        have := hn.eq
        omega
      refine loop_rule (cs := csWk (nodesA l) (kidsN l) (dnW l) (dfW l) (duW (nodesA l))) (ord := fun _ => .nil) tyOk (by kernel_rfl) (by kernel_rfl) (by kernel_rfl) (X := Int × List Cur) (fun y => ⟨[(1, .val (.int .i64 mo)), (2, .box 0 0), (5, .row 1 0), (6, .row 2 0), (7, .box 3 0), (8, .val (.int .i64 y.1))], [.box [.opt (.ref [.slc 6 (nodesA l)]), .val (.int .i64 cn), .val (.int .i64 cf), .val (.int .i64 ck), .opt (upO (nodesA l) c)], .row 40 5 false 0 (cursA (nodesA l) (o ++ [x])), .row 40 5 false 0 (cursA (nodesA l) y.2), .box (x.el (nodesA l))]⟩) (fun y => -1 ≤ y.1 ∧ y.1 < n ∧ y.2 ++ downs l x (y.1 + 1).toNat = st0 ++ downs l x (kidsAt l x).length) (fun y => (y.1 + 1).toNat) (n - 1, st0) ?_ ?_ ?_
      · have := hn.eq
        refine ⟨?_, ?_, ?_⟩
        · show (-1 : Int) ≤ n - 1
          omega
        · show n - 1 < n
          omega
        · show st0 ++ downs l x (n - 1 + 1).toNat = _
          rw [show (n - 1 + 1).toNat = (kidsAt l x).length by omega]
      · refine ⟨[some 0, some 1, some 2, some 3], _, rfl, ?_⟩
        have happ : cursA (nodesA l) o ++ [.agg (x.el (nodesA l))] = cursA (nodesA l) (o ++ [x]) := by rw [curs_app]; rfl
        repeat first
          | exact trivial
          | refine ⟨rfl, ?_⟩
          | refine ⟨happ, ?_⟩
          | refine ⟨congrArg (fun q => AV.val (.int .i64 q)) (happ), ?_⟩
          | refine ⟨congrArg (fun q => AV.slc 1 q) (happ), ?_⟩
          | refine ⟨congrArg (fun q => AV.slc 0 q) (happ), ?_⟩
          | refine ⟨congrArg (fun q => AV.val (.bool q)) (happ), ?_⟩
          | refine ⟨congrArg (fun q => AV.val (.int .i32 q)) (happ), ?_⟩
          | refine ⟨congrArg (fun q => AV.val (.string q)) (happ), ?_⟩
          | refine ⟨hcut, ?_⟩
          | refine ⟨congrArg (fun q => AV.val (.int .i64 q)) (hcut), ?_⟩
          | refine ⟨congrArg (fun q => AV.slc 1 q) (hcut), ?_⟩
          | refine ⟨congrArg (fun q => AV.slc 0 q) (hcut), ?_⟩
          | refine ⟨congrArg (fun q => AV.val (.bool q)) (hcut), ?_⟩
          | refine ⟨congrArg (fun q => AV.val (.int .i32 q)) (hcut), ?_⟩
          | refine ⟨congrArg (fun q => AV.val (.string q)) (hcut), ?_⟩
      · rintro ⟨k, s1⟩ ⟨hk0, hk1, hks⟩
        simp only at hk0 hk1 hks
        have hs1 : s1.length ≤ 1000000 := by
          have h3 := congrArg (coC l) hks
          rw [coC_app, coC_app, downs_co l x _ (Nat.le_refl _), List.take_length] at h3
          have h4 := coC_len l s1
          have h5 : coC l [x] = 1 + coL l (kidsAt l x) := by
            show co l x.n + 0 = _
            rw [Nat.add_zero, co_eq ha.wf hx.h0 hx.h1]; rfl
          rw [coC_app, h5] at hco
          omega
        have s1len := curs_len (nodesA l) s1
        obtain ⟨xn, hxn⟩ : ∃ y, y = x.n := ⟨_, rfl⟩
        obtain ⟨xf, hxf⟩ : ∃ y, y = x.f := ⟨_, rfl⟩
        obtain ⟨xk, hxk⟩ : ∃ y, y = x.k := ⟨_, rfl⟩
        by_cases hk : 0 ≤ k
        · have cD := Down_el l x k hk (by have := hn.eq; omega) ha.ok.w hxo
          have hdn : (downC l x k).el (nodesA l) = [.opt (.ref [.slc 6 (nodesA l)]), .val (.int .i64 (dnW l xn k)), .val (.int .i64 (dfW l xn xf k)), .val (.int .i64 k), .opt (duW (nodesA l) xn xf xk (.opt (upO (nodesA l) x)))] := by
            rw [hxn, hxf, hxk]; rfl
          rw [hdn] at cD
          have hks2 : (s1 ++ [downC l x k]) ++ downs l x k.toNat = st0 ++ downs l x (kidsAt l x).length := by
            rw [← hks, show (k + 1).toNat = k.toNat + 1 by omega]
            show _ = s1 ++ (downC l x (k.toNat : Nat) :: downs l x k.toNat)
            rw [Int.toNat_of_nonneg hk]; simp
          have happ2 : cursA (nodesA l) s1 ++ [.agg ((downC l x k).el (nodesA l))] = cursA (nodesA l) (s1 ++ [downC l x k]) := by rw [curs_app]; rfl
          rw [hdn] at happ2
          have hbd2 : ∀ z, std.bnd (cursA (nodesA l) s1) [z] := fun z => by
            show (cursA (nodesA l) s1).length + 1 ≤ 1000000000
            rw [s1len]; omega
          simp only [Cur.el] at cD ⊢
          rw [← hxn, ← hxf, ← hxk] at cD ⊢
          clear hks hdn
          generalize hp : std = p
          generalize hU : upO (nodesA l) c = U
          generalize hUX : upO (nodesA l) x = UX
          generalize hOA : cursA (nodesA l) (o ++ [x]) = OA
          generalize hSA : cursA (nodesA l) s1 = SA
          generalize hkd : kidsN l = kd
          generalize hdn : dnW l = dn
          generalize hdf : dfW l = df
          generalize hdu : duW (nodesA l) = du
          generalize hN : nodesA l = N
          generalize hT : aexec p tys (csWk N kd dn df du) _ _ _ _ = T
          cbv at hT
          subst hT
          simp only [Tree.ok, RoundOk, Bool.false_eq_true, Bool.true_eq_false, false_implies, true_implies, and_true, true_and]
          subst hp hU hUX hOA hSA hkd hdn hdf hdu hN
          refine ⟨fun _ => ⟨cD, hbd2 _, ?_, (k - 1, s1 ++ [downC l x k]), ⟨?_, ?_, ?_⟩, ?_, [some 0, some 1, some 2, some 3], _, rfl, ?_⟩, fun h => ?_⟩
          · show (-9223372036854775808 : Int) ≤ k - 1 ∧ k - 1 ≤ (9223372036854775807 : Int)
            have := hn.eq
            omega
          · show (-1 : Int) ≤ k - 1
            omega
          · show k - 1 < n
            omega
          · show (s1 ++ [downC l x k]) ++ downs l x (k - 1 + 1).toNat = _
            rw [show (k - 1 + 1).toNat = k.toNat by omega]; exact hks2
          · show (k - 1 + 1).toNat < (k + 1).toNat
            omega
          · repeat first
              | exact trivial
              | refine ⟨rfl, ?_⟩
              | refine ⟨happ2, ?_⟩
              | refine ⟨congrArg (fun q => AV.val (.int .i64 q)) (happ2), ?_⟩
              | refine ⟨congrArg (fun q => AV.slc 1 q) (happ2), ?_⟩
              | refine ⟨congrArg (fun q => AV.slc 0 q) (happ2), ?_⟩
              | refine ⟨congrArg (fun q => AV.val (.bool q)) (happ2), ?_⟩
              | refine ⟨congrArg (fun q => AV.val (.int .i32 q)) (happ2), ?_⟩
              | refine ⟨congrArg (fun q => AV.val (.string q)) (happ2), ?_⟩
          · have h : ¬ 0 ≤ k := of_decide_eq_false h
            omega
        · have hk2 : k = -1 := by omega
          subst hk2
          have hs2 : s1 = st0 ++ downs l x (kidsAt l x).length := by
            rw [← hks]; show s1 = s1 ++ []; simp
          simp only [Cur.el]
          rw [← hxn, ← hxf, ← hxk]
          generalize hp : std = p
          generalize hU : upO (nodesA l) c = U
          generalize hUX : upO (nodesA l) x = UX
          generalize hOA : cursA (nodesA l) (o ++ [x]) = OA
          generalize hSA : cursA (nodesA l) s1 = SA
          generalize hkd : kidsN l = kd
          generalize hdn : dnW l = dn
          generalize hdf : dfW l = df
          generalize hdu : duW (nodesA l) = du
          generalize hN : nodesA l = N
          generalize hT : aexec p tys (csWk N kd dn df du) _ _ _ _ = T
          cbv at hT
          subst hT
          simp only [Tree.ok, RoundOk, Bool.false_eq_true, Bool.true_eq_false, false_implies, true_implies, and_true, true_and]
          subst hp hU hUX hOA hSA hkd hdn hdf hdu hN
          refine ⟨fun h => ?_, fun _ => ?_⟩
          · exact absurd (show decide ((0 : Int) ≤ -1) = true from h) (by decide)
          rw [if_pos trivial]
          have hlt : o.length < most := by have := hlo.eq; have := hmo.eq; omega
          refine ⟨(o ++ [x], st0 ++ downs l x (kidsAt l x).length), ⟨?_, fun y hy => ?_, ?_, ?_⟩, ?_, [some 0, some 1, some 2], _, rfl, ?_⟩
          · show (o ++ [x]) ++ walkGo l (most - (o ++ [x]).length) (st0 ++ downs l x (kidsAt l x).length) = R
            rw [← hJ, show most - o.length = (most - (o ++ [x]).length) + 1 by simp; omega, walkGo_app]
            simp
          · have hy : y ∈ st0 ++ downs l x (kidsAt l x).length := hy
            rcases List.mem_append.1 hy with hy | hy
            · exact hin y (List.mem_append_left _ hy)
            · exact downs_in ha hx _ (Nat.le_refl _) y hy
          · show coC l (st0 ++ downs l x (kidsAt l x).length) ≤ C
            have h5 : coC l [x] = 1 + coL l (kidsAt l x) := by
              show co l x.n + 0 = _
              rw [Nat.add_zero, co_eq ha.wf hx.h0 hx.h1]; rfl
            rw [coC_app, h5] at hco
            rw [coC_app, downs_co l x _ (Nat.le_refl _), List.take_length]
            omega
          · show (o ++ [x]).length ≤ most
            simp; omega
          · show most - (o ++ [x]).length < most - o.length
            simp; omega
          · subst hs2
            repeat first
              | exact trivial
              | refine ⟨rfl, ?_⟩
              | refine ⟨rfl, ?_⟩
              | refine ⟨congrArg (fun q => AV.val (.int .i64 q)) (rfl), ?_⟩
              | refine ⟨congrArg (fun q => AV.slc 1 q) (rfl), ?_⟩
              | refine ⟨congrArg (fun q => AV.slc 0 q) (rfl), ?_⟩
              | refine ⟨congrArg (fun q => AV.val (.bool q)) (rfl), ?_⟩
              | refine ⟨congrArg (fun q => AV.val (.int .i32 q)) (rfl), ?_⟩
              | refine ⟨congrArg (fun q => AV.val (.string q)) (rfl), ?_⟩
    · have h2 : ¬ std.len (cursA (nodesA l) o) < mo := of_decide_eq_false h2
      rw [hoA] at h2
      have hR2 : o = R := by
        have := hlo.eq
        have := hmo.eq
        rw [← hJ, show most - o.length = 0 by omega]
        simp [walkGo]
      rw [if_pos trivial, ← hR2]
      clear h2 hmo
      generalize hp : std = p
      generalize hU : upO (nodesA l) c = U
      generalize hOA : cursA (nodesA l) o = OA
      generalize hSA : cursA (nodesA l) st = SA
      generalize hkd : kidsN l = kd
      generalize hdn : dnW l = dn
      generalize hdf : dfW l = df
      generalize hdu : duW (nodesA l) = du
      generalize hN : nodesA l = N
      generalize hT : aexec p tys (csWk N kd dn df du) _ _ _ _ = T
      cbv at hT
      subst hT
      simp only [Tree.ok, RoundOk, Bool.false_eq_true, Bool.true_eq_false, false_implies, true_implies, and_true, true_and]
      subst hp hU hOA hSA hkd hdn hdf hdu hN
      exact .pure rfl (.inl rfl)
    · have h1 : ¬ 0 < std.len (cursA (nodesA l) st) := of_decide_eq_false h1
      rw [hsA] at h1
      have hst : st = [] := List.eq_nil_of_length_eq_zero (by have := hls.eq; omega)
      have hR2 : o = R := by
        rw [← hJ, hst, walkGo_nil]
        simp
      rw [if_pos trivial, ← hR2]
      clear h1 hmo
      generalize hp : std = p
      generalize hU : upO (nodesA l) c = U
      generalize hOA : cursA (nodesA l) o = OA
      generalize hSA : cursA (nodesA l) st = SA
      generalize hkd : kidsN l = kd
      generalize hdn : dnW l = dn
      generalize hdf : dfW l = df
      generalize hdu : duW (nodesA l) = du
      generalize hN : nodesA l = N
      generalize hT : aexec p tys (csWk N kd dn df du) _ _ _ _ = T
      cbv at hT
      subst hT
      simp only [Tree.ok, RoundOk, Bool.false_eq_true, Bool.true_eq_false, false_implies, true_implies, and_true, true_and]
      subst hp hU hOA hSA hkd hdn hdf hdu hN
      exact .pure rfl (.inl rfl)
end Go.Proofs.Ytblafdmmebiagaa
