/- Lemmas, conditions told -/
import Derived.Test.YtcmjijpofkoogaaGreatG19
import Derived.Test.YtcmjijpofkoogaaGreatG18
import Derived.Test.YtcmjijpofkoogaaGreatG10
import Derived.Test.YtcmjijpofkoogaaGreatG14
import Derived.Test.YtcmjijpofkoogaaGreatG11
set_option linter.unusedSimpArgs false
set_option linter.unusedVariables false
namespace Go.Proofs.YtcmjijpofkoogaaGreat
open Go.RowKit Go.Lib
def tkAn (t : Txt) (b : List UInt8) (k f u : Int) (w : Bool) (N D S : List AV) : List AV := nodesA (tokenF t b k f u w (mkB N D S)).n
def tkAd (t : Txt) (b : List UInt8) (k f u : Int) (w : Bool) (N D S : List AV) : List AV := dgsA (tokenF t b k f u w (mkB N D S)).d
def tkAs (t : Txt) (b : List UInt8) (k f u : Int) (w : Bool) (N D S : List AV) : List AV := opnsA (tokenF t b k f u w (mkB N D S)).s
theorem tkAn_eq (t : Txt) (b : List UInt8) (k f u : Int) (w : Bool) (m : Mk) : tkAn t b k f u w (nodesA m.n) (dgsA m.d) (opnsA m.s) = nodesA (tokenF t b k f u w m).n := by rw [tkAn, mk_back]
theorem tkAd_eq (t : Txt) (b : List UInt8) (k f u : Int) (w : Bool) (m : Mk) : tkAd t b k f u w (nodesA m.n) (dgsA m.d) (opnsA m.s) = dgsA (tokenF t b k f u w m).d := by rw [tkAd, mk_back]
theorem tkAs_eq (t : Txt) (b : List UInt8) (k f u : Int) (w : Bool) (m : Mk) : tkAs t b k f u w (nodesA m.n) (dgsA m.d) (opnsA m.s) = opnsA (tokenF t b k f u w m).s := by rw [tkAs, mk_back]
def csAl (p : Pr) (TK : List AV) (tn td ts : Int → Int → Int → Bool → List AV → List AV → List AV → List AV) (mn md ms : Int → List AV → List AV → List AV → List AV) (br : Int → List AV → List AV → List AV) : Nat → List AV → List Ob → Option (AV × List Ob) := fun f args ob => match f, args with
  | 120, [.slc 1 _] => some (.slc 4 TK, [])
  | 121, [.box 0 0, .agg [.val (.int .i64 kind), .val (.int .i64 f), .val (.int .i64 u), .val (.bool wh)]] => withM ob fun b k m r o rt N D S => some (.tup [], obM 1 b k m r o rt (tn kind f u wh N D S) (td kind f u wh N D S) (ts kind f u wh N D S))
  | 122, [.box 0 0, .val (.int .i64 a)] => withM ob fun b k m r o rt N D S => some (.tup [], obM 1 b k m r o rt (mn a N D S) (md a N D S) (ms a N D S))
  | 123, [.box 0 0, .val (.int .i64 k), .slc 1 ks] => match ob with
    | [.box [.row 1 0], .row 230 6 false 0 N] => some (.tup [.val (.int .i64 (p.len N)), .val (.int .i64 0)], [.box [.row 1 1], .row 230 6 false 1 (br k ks N)])
    | _ => none
  | _, _ => none
def alO : OT := .then [0, 1, 2, 4, 5, 6, 7, 8, 9, 10, 11, 12, 13, 14, 15, 16, 17] (.fork (.of [3, 18, 19, 20, 21, 22, 23, 24]) (.of [18, 19, 20, 21, 3, 22, 23, 24]))
theorem toks_le (l : List Int) : ∀ n k : Nat, l.length - k ≤ n → (toksGo l k).length ≤ n
  | 0, k, h => by rw [toksGo_nil (by omega)]; exact Nat.le_refl _
  | n + 1, k, h => by
    by_cases hk : k < l.length
    · have := nextTF_range l k hk
      rw [toksGo_cons hk, List.length_cons]
      have := toks_le l n (nextTF l k).2.1 (by omega)
      omega
    · rw [toksGo_nil hk]; exact Nat.zero_le _
set_option maxRecDepth 20000 in
set_option maxHeartbeats 2000000 in
theorem all_b (t : Txt) (b : List UInt8) (hs : Sml t b) (rt : Int) (m : Mk) (B D : Nat) (iv : MkI m (upTo t b 0) B D) (hB : B + 3 * t.r.length ≤ 600000) (hD : D + 3 * t.r.length ≤ 600000) :
    BCall Tryz.prog 82 [.box 0 0] (obT 0 t b rt m) (.tup []) (obT 1 t b (allM t b m).n.length (rootM (allM t b m))) := by
  have cT := Tokens_b t.r hs.hr
  obtain ⟨toks, htk⟩ : ∃ toks, toks = toksF t.r := ⟨_, rfl⟩
  rw [← htk] at cT
  have hnl : toks.length ≤ 1000000 := by
    have := toks_le t.r t.r.length 0 (by omega)
    rw [htk]; exact Nat.le_trans this hs.hr
  obtain ⟨n, hn⟩ := exLen toks
  obtain ⟨M0, hM0⟩ : ∃ x, x = toks.foldl (tokM t b) m := ⟨_, rfl⟩
  obtain ⟨M1, hM1⟩ : ∃ x, x = allM t b m := ⟨_, rfl⟩
  have hM01 : M1 = missGo t t.r.length 0 M0.s.length M0 := by rw [hM1, hM0, htk]; rfl
  rw [← hM1]
  obtain ⟨E, hE⟩ : ∃ x, x = rootM M1 := ⟨_, rfl⟩
  unfold obT obM
  refine fnO false (csAl std (toksA toks) (tkAn t b) (tkAd t b) (tkAs t b) (msAn t) (msAd t) (msAs t) brA) (fun id => match id with | 7 =>  alO | _ => .nil) Tryz.func82 rfl fun _ _ => ?_
  generalize hS : opnsA m.s = S
  generalize hB' : bytesA b = B'
  generalize hR : runesA t.r = R
  generalize hO : intsA t.off = O
  generalize hK : t.kind = K
  generalize hM : t.bom = M
  with_reducible refine cv10 (toksA toks) (tkAn t b) (tkAd t b) (tkAs t b) (msAn t) (msAd t) (msAs t) brA (nodesA m.n) (dgsA m.d) ?_
  subst hS hB' hR hO hK hM
  have tlen := toks_len toks
  have hnm : std.len (toksA toks) = n := by show ((toksA toks).length : Int) = n; rw [tlen, hn.eq]
  refine ⟨cT, ?_⟩
  refine loopN (csAl std (toksA toks) (tkAn t b) (tkAd t b) (tkAs t b) (msAn t) (msAd t) (msAs t) brA) (Int × Mk × Nat) (fun x => ⟨[(0, .box 0 0), (12, .slc 4 (toksA toks)), (13, .val (.int .i64 n)), (14, .val (.int .i64 x.1))], [.box [.slc 1 (bytesA b), .box 1 0, .row 5 1], .box [.val (.int .i64 t.kind), .val (.int .i64 t.bom), .slc 1 (runesA t.r), .slc 1 (intsA t.off), .box 2 0, .val (.int .i64 rt), .row 4 1], .box [.row 3 1], .row 230 6 false 1 (nodesA x.2.1.n), .row 270 3 false 1 (dgsA x.2.1.d), .row 158 2 false 1 (opnsA x.2.1.s)]⟩) (fun x => 0 ≤ x.1 ∧ x.1 ≤ n ∧ x.2.2 ≤ t.r.length ∧ toksGo t.r x.2.2 = toks.drop x.1.toNat ∧ MkI x.2.1 (upTo t b x.2.2) (B + 3 * x.2.2) (D + 3 * x.2.2) ∧ (toks.drop x.1.toNat).foldl (tokM t b) x.2.1 = M0) (fun x => (n - x.1).toNat) (0, m, 0) ?_ ?_ ?_
  · have := hn.eq
    exact ⟨Int.le_refl _, by simp only; omega, Nat.zero_le _, by rw [htk]; rfl, iv, hM0.symm⟩
  · refine ⟨[some 0, some 1, some 2, some 3, some 4, some 5], _, rfl, ?_⟩
    exact eq1 hnm
  · rintro ⟨i, x, k⟩ ⟨hi0, hi1, hk, hd, hv, hf⟩
    simp only at hi0 hi1 hk hd hv hf
    have okx := hv.i.ok (by omega) (by omega)
    rcases Int.lt_or_eq_of_le hi1 with hlt | heq
    · have en := hn.eq
      have hil : i.toNat < toks.length := by omega
      have hkl : k < t.r.length := by
        by_cases h : k < t.r.length
        · exact h
        · rw [toksGo_nil h] at hd
          have := congrArg List.length hd
          rw [List.length_drop] at this
          simp at this
          omega
      obtain ⟨t1, t2, t3, t4⟩ := tok_in t.r hkl
      have hdr : toks.drop i.toNat = tokAt t.r k :: toksGo t.r (nextTF t.r k).2.1 := by rw [← hd, toksGo_cons hkl]
      have hxe : toks[i.toNat]? = some (tokAt t.r k) := by rw [← List.head?_drop, hdr]; rfl
      have hdn : toksGo t.r (nextTF t.r k).2.1 = toks.drop (i + 1).toNat := by
        rw [show (i + 1).toNat = i.toNat + 1 by omega, ← List.tail_drop, hdr]; rfl
      have hat : (toksA toks).getD i.toNat .dead = (tokAt t.r k).av := by
        rw [List.getD_eq_getElem?_getD, toksA, List.getElem?_map, hxe]; rfl
      have hin : InT t (tokAt t.r k).from_ (tokAt t.r k).to := ⟨by omega, by omega, by omega⟩
      have hXl : (upTo t b k).length ≤ 1000000 := by
        have := hs.hb
        rw [upTo, List.length_take]; omega
      have c := token_b t b hs rt x (upTo t b k) (B + 3 * k) (D + 3 * k) hv.i (by omega) (by omega) hXl (tokAt t.r k).kind (tokAt t.r k).from_ (tokAt t.r k).to (tokAt t.r k).whole hin
      have hv2 : MkI (tokM t b x (tokAt t.r k)) (upTo t b (nextTF t.r k).2.1) (B + 3 * (nextTF t.r k).2.1) (D + 3 * (nextTF t.r k).2.1) := by
        have := hv.token t b hs.hr (tokAt t.r k).kind (tokAt t.r k).from_ (tokAt t.r k).to (tokAt t.r k).whole
        rw [t1, t2, upTo_slice hs.ok (by omega) (by omega) (by omega)] at this
        have e : tokM t b x (tokAt t.r k) = tokenF t b (tokAt t.r k).kind k ((nextTF t.r k).2.1 : Nat) (tokAt t.r k).whole x := rfl
        rw [e]
        exact ⟨this.i.mono (by omega) (by omega), this.c⟩
      have hf2 : (toks.drop (i + 1).toNat).foldl (tokM t b) (tokM t b x (tokAt t.r k)) = M0 := by
        rw [hdr, List.foldl_cons] at hf
        rw [← hdn]; exact hf
      obtain ⟨y, hy⟩ : ∃ y, y = tokAt t.r k := ⟨_, rfl⟩
      obtain ⟨k2, hk2⟩ : ∃ k2, k2 = (nextTF t.r k).2.1 := ⟨_, rfl⟩
      rw [← hy] at hat hin c hv2 hf2
      rw [← hk2] at hv2 hdn t4
      clear en t1 t2 t3 hdr hxe hd hf hy hk2 hkl
      generalize hS : opnsA x.s = S
      generalize hB' : bytesA b = B'
      generalize hR : runesA t.r = R
      generalize hO : intsA t.off = O
      generalize hK : t.kind = K
      generalize hM : t.bom = M
      with_reducible refine cv10 (toksA toks) (tkAn t b) (tkAd t b) (tkAs t b) (msAn t) (msAd t) (msAs t) brA (nodesA x.n) (dgsA x.d) ?_
      subst hS hB' hR hO hK hM
      unfold obT obM at c
      simp only [std, hat, Tok.av, AV.cells, List.getD_cons_zero, List.getD_cons_succ, intOf, booOf, allP, tkAn_eq, tkAd_eq, tkAs_eq, decide_eq_true_eq, decide_eq_false_iff_not]
      refine ⟨fun _ => ⟨?_, ⟨trivial, trivial, trivial, trivial, trivial⟩, c, ?_, (i + 1, tokM t b x y, k2), ⟨?_, ?_, t4, hdn, hv2, hf2⟩, ?_, [some 0, some 1, some 2, some 3, some 4, some 5], _, rfl, ?_⟩, fun h => ?_⟩
      · have := hn.eq
        rw [tlen]; omega
      · have := hn.eq
        have := hs.hr
        show (-9223372036854775808 : Int) ≤ i + 1 ∧ i + 1 ≤ (9223372036854775807 : Int)
        omega
      · show 0 ≤ i + 1
        omega
      · show i + 1 ≤ n
        omega
      · show (n - (i + 1)).toNat < (n - i).toNat
        omega
      · simp [AllEq, lk, tokM]
      · omega
    · have hd0 : toks.drop i.toNat = [] := List.drop_eq_nil_of_le (by have := hn.eq; omega)
      rw [hd0] at hd hf
      have hxM : x = M0 := hf
      have hkr : k = t.r.length := by
        by_cases h : k < t.r.length
        · rw [toksGo_cons h] at hd; cases hd
        · omega
      subst hxM
      rw [heq]
      clear hd hf hd0 hk
      have hlr : (t.r.length : Int) = t.r.length := rfl
      obtain ⟨rl, hrl⟩ := exLen t.r
      generalize hS : opnsA x.s = S
      generalize hB' : bytesA b = B'
      generalize hR : runesA t.r = R
      generalize hO : intsA t.off = O
      generalize hK : t.kind = K
      generalize hM : t.bom = M
      with_reducible refine cv10 (toksA toks) (tkAn t b) (tkAd t b) (tkAs t b) (msAn t) (msAd t) (msAs t) brA (nodesA x.n) (dgsA x.d) ?_
      subst hS hB' hR hO hK hM
      refine ⟨fun h => ?_, fun _ => ?_⟩
      · have h : n < n := of_decide_eq_true h
        omega
      rw [if_pos trivial]
      generalize hS : opnsA x.s = S
      generalize hB' : bytesA b = B'
      generalize hR : runesA t.r = R
      generalize hO : intsA t.off = O
      generalize hK : t.kind = K
      generalize hM : t.bom = M
      with_reducible refine cv10 (toksA toks) (tkAn t b) (tkAd t b) (tkAs t b) (msAn t) (msAd t) (msAs t) brA (nodesA x.n) (dgsA x.d) ?_
      subst hS hB' hR hO hK hM
      rw [hkr, upTo_end hs.ok] at hv
      have hv0 : MkI x b (B + 3 * t.r.length) (D + 3 * t.r.length) := hv
      have hrl2 : std.len (runesA t.r) = rl := by show ((runesA t.r).length : Int) = rl; rw [runes_len, hrl.eq]
      clear hv hkr hlr okx heq hi0 hi1
      refine loopN (csAl std (toksA toks) (tkAn t b) (tkAd t b) (tkAs t b) (msAn t) (msAd t) (msAs t) brA) (Mk) (fun x => ⟨[(0, .box 0 0)], [.box [.slc 1 (bytesA b), .box 1 0, .row 5 1], .box [.val (.int .i64 t.kind), .val (.int .i64 t.bom), .slc 1 (runesA t.r), .slc 1 (intsA t.off), .box 2 0, .val (.int .i64 rt), .row 4 1], .box [.row 3 1], .row 230 6 false 1 (nodesA x.n), .row 270 3 false 1 (dgsA x.d), .row 158 2 false 1 (opnsA x.s)]⟩) (fun x => MkI x b (B + 3 * t.r.length) (D + 3 * t.r.length) ∧ missGo t t.r.length 0 x.s.length x = M1) (fun x => x.s.length) x ?_ ?_ ?_
      · exact ⟨hv0, hM01.symm⟩
      · exact ⟨[some 0, some 1, some 2, some 3, some 4, some 5], _, rfl, by simp [AllEq, lk, std]⟩
      · rintro y ⟨hv, hg⟩
        have oky := hv.i.ok (by omega) (by omega)
        have ylen := opns_len y.s
        obtain ⟨LY, hLY⟩ := exLen y.s
        generalize hS : opnsA y.s = S
        generalize hB' : bytesA b = B'
        generalize hR : runesA t.r = R
        generalize hO : intsA t.off = O
        generalize hK : t.kind = K
        generalize hM : t.bom = M
        with_reducible refine cv10 (toksA toks) (tkAn t b) (tkAd t b) (tkAs t b) (msAn t) (msAd t) (msAs t) brA (nodesA y.n) (dgsA y.d) ?_
        subst hS hB' hR hO hK hM
        have hly : std.len (opnsA y.s) = LY := by show ((opnsA y.s).length : Int) = LY; rw [ylen, hLY.eq]
        simp only [msAn_eq, msAd_eq, msAs_eq]
        refine ⟨fun hgt => ?_, fun hle => ?_⟩
        · have hgt : 1 < std.len (opnsA y.s) := of_decide_eq_true hgt
          rw [hly] at hgt
          have hy2 : 2 ≤ y.s.length := by have := hLY.eq; omega
          have hrr := hrl.eq
          have hol := hs.ok.len
          have c := miss_i t b rt hv.i (by omega) (by omega) hs.hb t.r.length (by omega) hy2
          have erl : (t.r.length : Int) = std.len (runesA t.r) := by rw [hrl2]; exact hrr.symm
          rw [erl] at c
          refine ⟨c, missF t (std.len (runesA t.r)) y, ⟨by rw [← erl]; exact hv.miss hy2 t t.r.length, ?_⟩, by rw [miss_len]; omega, [some 0, some 1, some 2, some 3, some 4, some 5], _, rfl, by simp [AllEq, lk, std]⟩
          rw [← erl, ← missGo_step (by omega)]; exact hg
        · have hle : ¬ 1 < std.len (opnsA y.s) := of_decide_eq_false hle
          rw [hly] at hle
          have hy1 : y.s.length = 1 := by have := hLY.eq; have := hv.i.s1; omega
          have hyM : y = M1 := by rw [← hg, missGo_end (by omega)]
          subst hyM
          clear hle hly
          rw [if_pos trivial]
          generalize hS : opnsA y.s = S
          generalize hB' : bytesA b = B'
          generalize hR : runesA t.r = R
          generalize hO : intsA t.off = O
          generalize hK : t.kind = K
          generalize hM : t.bom = M
          with_reducible refine cv10 (toksA toks) (tkAn t b) (tkAd t b) (tkAs t b) (msAn t) (msAd t) (msAs t) brA (nodesA y.n) (dgsA y.d) ?_
          subst hS hB' hR hO hK hM
          obtain ⟨o, ho⟩ : ∃ o, y.s = [o] := List.length_eq_one_iff.1 hy1
          have hto : topF y.s = o := by rw [ho]; rfl
          have hcell : std.nth (std.drp (std.cel (std.at_ (opnsA y.s) 0)) 1) 0 = slK (topF y.s).kids := by rw [hto, ho]; rfl
          have hlst : std.lst (slK (topF y.s).kids) = intsA (topF y.s).kids := by cases (topF y.s).kids <;> rfl
          have hcl2 : std.lst (std.nth (std.drp (std.cel (std.at_ (opnsA y.s) 0)) 1) 0) = intsA (topF y.s).kids := by rw [hcell, hlst]
          have hflat : ((topF y.s).kids.flatMap (pr y.n)).length ≤ b.length := by
            have := hv.i.p
            rw [hto, ← this, ho]
            simp [prK]
          have hkl : (topF y.s).kids.length ≤ 900000 := oky.top
          have cB := Branch_b y.n (by have := oky.n; omega) 20 (topF y.s).kids (by omega) hv.i.top hv.i.ar.ok.w hv.i.ar.ok.c (MkInv.sum hv.i.ar hv.i.top hflat (by have := hs.hb; omega))
          rw [← brA_eq, ← nodes_len, ← hcl2] at cB
          have hnl2 := nodes_len y.n
          have fin : brA 20 (std.lst (std.nth (std.drp (std.cel (std.at_ (opnsA y.s) 0)) 1) 0)) (nodesA y.n) = nodesA (rootM y).n := by
            rw [hcl2, brA_eq]; rfl
          have e0 : std.len (nodesA y.n) = (y.n.length : Int) := by show ((nodesA y.n).length : Int) = _; rw [hnl2]
          refine ⟨?_, ⟨?_, trivial⟩, ⟨cB, ?_⟩, cB, ?_⟩
          · show 0 ≤ (0 : Int) ∧ (0 : Int) < std.len (opnsA y.s)
            show 0 ≤ (0 : Int) ∧ (0 : Int) < ((opnsA y.s).length : Int)
            rw [ylen, hy1]; decide
          · show std.hasL 1 (std.nth (std.drp (std.cel (std.at_ (opnsA y.s) 0)) 1) 0)
            rw [hcell]
            rcases slK_or (topF y.s).kids with h | h
            · exact .inl (by rw [h]; rfl)
            · exact .inr h.1
          all_goals
            refine ⟨[some 0, some 1, some 2, some 3, some 4, some 5], .tup [], _, rfl, rfl, Nat.le_of_ble_eq_true rfl, rfl, ?_, trivial⟩
            exact eq2 e0 fin
end Go.Proofs.YtcmjijpofkoogaaGreat
namespace Go.Proofs.YtcmjijpofkoogaaGreat
open Go.RowKit Go.Lib
def mk0 : Mk := ⟨[], [], [⟨[], []⟩]⟩
def markM (bs : List UInt8) : Mk := kidF 0 (addF (leafF 23 bs) mk0)
def firstM (b : List UInt8) : Mk := if 0 < (kindF b).2 then markM (b.take (kindF b).2.toNat) else mk0
def parseM (b : List UInt8) : Mk := allM (textF' b) b (firstM b)
def treeA (t : Txt) (m : Mk) : AV := .agg [.val (.int .i64 t.kind), .val (.int .i64 t.bom), .slc 1 (runesA t.r), .slc 1 (intsA t.off), .ref [.slc 6 (nodesA (rootM m).n)], .val (.int .i64 m.n.length), .slc 3 (dgsA m.d)]
def csPaM (kd bm : Int) (R O : List AV) (rt : Int) (an ad asx N1 S1 : List AV) : Nat → List AV → List Ob → Option (AV × List Ob) := fun f args ob => match f, args with
  | 78, [.slc 1 _] => some (.agg [.val (.int .i64 kd), .val (.int .i64 bm), .slc 1 R, .slc 1 O], [])
  | 79, [] => some (.box 0 0, [.box [.val (.slice none 0 0)]])
  | 81, [.box 0 0, .val (.int .i64 _), .slc 1 _] => match ob with
    | [.box [.val (.slice none 0 0)]] => some (.val (.int .i64 0), [.box [.row 1 1], .row 230 6 false 1 N1])
    | _ => none
  | 80, [.box 0 0, .val (.int .i64 _)] => match ob with
    | [.box [b, .box 1 0, .row 4 0], .box [k, m, r, o, .box 2 0, q, .val (.slice none 0 0)], .box [.row 3 0], .row 230 6 false 0 N, .row 158 2 false 0 _] =>
      some (.tup [], [.box [b, .box 1 0, .row 4 1], .box [k, m, r, o, .box 2 0, q, .row 5 1], .box [.row 3 1], .row 230 6 false 1 N, .row 158 2 false 1 S1, .row 270 3 false 1 []])
    | _ => none
  | 82, [.box 0 0] => match ob with
    | [.box [b, .box 1 0, .row 3 0], .box [k, m, r, o, .box 2 0, _, .val (.slice none 0 0)], .box [.val (.slice none 0 0)], .row 158 2 false 0 _] =>
      some (.tup [], [.box [b, .box 1 0, .row 3 1], .box [k, m, r, o, .box 2 0, .val (.int .i64 rt), .row 4 1], .box [.row 5 1], .row 158 2 false 1 asx, .row 270 3 false 1 ad, .row 230 6 false 1 an])
    | _ => withM ob fun b k m r o _ _ _ _ => some (.tup [], obM 1 b k m r o (.val (.int .i64 rt)) an ad asx)
  | _, _ => none
theorem mk0_inv : MkI mk0 [] 2 2 :=
  have h : ∀ x ∈ mk0.s, x = ⟨[], []⟩ := fun x hx => by simpa [mk0] using hx
  ⟨⟨ar_nil, (fun x hx => by rw [h x hx]; exact fun k hk => by cases hk), rfl, Nat.le_refl _, Nat.le_refl _, Nat.le_refl _, Nat.le_refl _, (fun x hx => by rw [h x hx]; exact Nat.zero_le _)⟩, Nat.le_refl _⟩
theorem mark_inv (bs : List UInt8) : MkI (markM bs) bs 3 2 := by
  have h := mk0_inv
  have ha := ar_leaf h.i.ar 23 bs
  exact ⟨inv_kid h.i ha.1 ha.2, co_leafkid h.i h.c 23 bs⟩
theorem upTo_zero (b : List UInt8) : upTo (textF' b) b 0 = b.take (kindF b).2.toNat := by
  rw [upTo, offA, show (0 : Int).toNat = 0 from rfl, (text_ok b).2.1]
theorem first_inv (b : List UInt8) : MkI (firstM b) (upTo (textF' b) b 0) 3 2 := by
  rw [upTo_zero, firstM]
  have hb := kind_bom b
  split
  · exact mark_inv _
  · have : (kindF b).2 = 0 := by omega
    rw [this]
    exact ⟨mk0_inv.i.mono (by omega) (Nat.le_refl _), mk0_inv.c⟩
theorem text_sml (b : List UInt8) (hb : b.length ≤ 100000) : Sml (textF' b) b := ⟨by omega, Nat.le_trans (text_ok b).2.2.1 (by omega), (text_ok b).1⟩
theorem all_new (t : Txt) (b : List UInt8) (hs : Sml t b) (B D : Nat) (iv : MkI mk0 (upTo t b 0) B D) (hB : B + 3 * t.r.length ≤ 600000) (hD : D + 3 * t.r.length ≤ 600000) :
    BCall Tryz.prog 82 [.box 0 0] [.box [.slc 1 (bytesA b), .box 1 0, .row 3 0], .box [.val (.int .i64 t.kind), .val (.int .i64 t.bom), .slc 1 (runesA t.r), .slc 1 (intsA t.off), .box 2 0, .val (.int .i64 0), .val (.slice none 0 0)], .box [.val (.slice none 0 0)], .row 158 2 false 0 (opnsA mk0.s)] (.tup [])
      [.box [.slc 1 (bytesA b), .box 1 0, .row 3 1], .box [.val (.int .i64 t.kind), .val (.int .i64 t.bom), .slc 1 (runesA t.r), .slc 1 (intsA t.off), .box 2 0, .val (.int .i64 (allM t b mk0).n.length), .row 4 1], .box [.row 5 1], .row 158 2 false 1 (opnsA (rootM (allM t b mk0)).s), .row 270 3 false 1 (dgsA (rootM (allM t b mk0)).d), .row 230 6 false 1 (nodesA (rootM (allM t b mk0)).n)] := by
  have h := all_b t b hs 0 mk0 B D iv hB hD
  unfold obT obM at h
  exact h.tell [some 0, some 1, some 2, none, none, some 3] [some 0, some 1, some 2, some 5, some 4, some 3] rfl rfl rfl (Nat.le_of_ble_eq_true rfl) rfl (by simp [AllEq, nodesA, dgsA, mk0]) (res' := .tup []) rfl (by simp [AllEq]) trivial
theorem kid_new (t : Txt) (b : List UInt8) (m : Mk) (hd : m.d = []) (hs : 1 ≤ m.s.length) (hn : m.s.length ≤ 1000000) (hk : (topF m.s).kids.length ≤ 1000000) (n : Int) :
    BCall Tryz.prog 80 [.box 0 0, .val (.int .i64 n)] [.box [.slc 1 (bytesA b), .box 1 0, .row 4 0], .box [.val (.int .i64 t.kind), .val (.int .i64 t.bom), .slc 1 (runesA t.r), .slc 1 (intsA t.off), .box 2 0, .val (.int .i64 0), .val (.slice none 0 0)], .box [.row 3 0], .row 230 6 false 0 (nodesA m.n), .row 158 2 false 0 (opnsA m.s)] (.tup [])
      [.box [.slc 1 (bytesA b), .box 1 0, .row 4 1], .box [.val (.int .i64 t.kind), .val (.int .i64 t.bom), .slc 1 (runesA t.r), .slc 1 (intsA t.off), .box 2 0, .val (.int .i64 0), .row 5 1], .box [.row 3 1], .row 230 6 false 1 (nodesA m.n), .row 158 2 false 1 (opnsA (kidS n m.s)), .row 270 3 false 1 []] := by
  have h := kid_b t b 0 m hs hn hk n
  unfold obT obM at h
  exact h.tell [some 0, some 1, some 2, some 3, none, some 4] [some 0, some 1, some 2, some 3, some 5, some 4] rfl rfl rfl (Nat.le_of_ble_eq_true rfl) rfl (by simp [AllEq, dgsA, hd]) (res' := .tup []) rfl (by simp [AllEq, dgsA, kidF, hd]) trivial
set_option maxRecDepth 20000 in
set_option maxHeartbeats 2000000 in
theorem Parse_b (b : List UInt8) (hb : b.length ≤ 100000) : BCall Tryz.prog 61 [.slc 1 (bytesA b)] [] (treeA (textF' b) (parseM b)) [] := by
  obtain ⟨ok, h1, h2, h3, h4⟩ := text_ok b
  have hs := text_sml b hb
  have cD := Decode_b b (by omega) (by omega) (fun x hx => by have := h4 x hx; omega)
  have hkb := kind_bom b
  have hE : parseM b = allM (textF' b) b (firstM b) := rfl
  have hiv := first_inv b
  have hrl := hs.hr
  have c0 := fun (h : firstM b = mk0) => all_new (textF' b) b hs 3 2 (by rw [← h]; exact hiv) (by omega) (by omega)
  have c1 := all_b (textF' b) b hs 0 (firstM b) 3 2 hiv (by omega) (by omega)
  rw [← hE] at c1
  obtain ⟨M, hM⟩ : ∃ M, M = parseM b := ⟨_, rfl⟩
  rw [← hM] at c1 hE ⊢
  have cL := Leaf0_b 23 (b.take (kindF b).2.toNat) (by rw [List.length_take]; omega)
  have cK := kid_new (textF' b) b (addF (leafF 23 (b.take (kindF b).2.toNat)) mk0) rfl (Nat.le_refl _) (Nat.le_of_ble_eq_true rfl) (Nat.zero_le _) 0
  obtain ⟨t, ht⟩ : ∃ t, t = textF' b := ⟨_, rfl⟩
  have htb : t.bom = (kindF b).2 := by rw [ht]; rfl
  rw [← ht] at cD c0 c1 cK hE ⊢
  rw [← htb] at cL cK hkb
  have hf : firstM b = if 0 < t.bom then markM (b.take t.bom.toNat) else mk0 := by rw [htb]; rfl
  obtain ⟨nb, hnb⟩ := exLen b
  have hbn : t.bom ≤ nb := by rw [hnb.eq]; exact hkb.2
  have hb0 := hkb.1
  have hcut : std.cut (bytesA b) 0 t.bom = bytesA (b.take t.bom.toNat) := by
    show ((bytesA b).drop (0 : Int).toNat).take (t.bom - 0).toNat = _
    simp [bytesA, List.map_take]
  have hbl := bytes_len b
  clear h1 h2 h3 h4 hkb hrl
  refine fnN (csPaM t.kind t.bom (runesA t.r) (intsA t.off) M.n.length (nodesA (rootM M).n) (dgsA M.d) (opnsA M.s) (nodesA [leafF 23 (b.take t.bom.toNat)]) (opnsA (kidS 0 mk0.s))) Tryz.func61 rfl fun _ _ => ?_
  generalize hN1 : nodesA [leafF 23 (b.take t.bom.toNat)] = N1
  with_reducible refine cv10 (opnsA (kidS 0 mk0.s)) ((M.n.length : Int)) (nodesA (rootM M).n) (dgsA M.d) (opnsA M.s) t.bom t.kind (runesA t.r) (intsA t.off) (bytesA b) ?_
  subst hN1
  refine ⟨cD, New_b, fun h => ⟨?_, ?_, cK, ?_, .pure rfl ⟨.inl rfl, .inl rfl, .inl rfl, .inl rfl, .inl rfl, .inl rfl, .inl rfl, trivial⟩⟩, fun h => ⟨?_, .pure rfl ⟨.inl rfl, .inl rfl, .inl rfl, .inl rfl, .inl rfl, .inl rfl, .inl rfl, trivial⟩⟩⟩
  · show 0 ≤ (0 : Int) ∧ 0 ≤ t.bom ∧ t.bom ≤ ((bytesA b).length : Int)
    have := hnb.eq
    rw [hbl]; omega
  · show BCall _ _ [.box 0 0, .val (.int .i64 23), .slc 1 (std.cut (bytesA b) 0 t.bom)] _ _ _
    rw [hcut]; exact cL
  · have h : 0 < t.bom := of_decide_eq_true h
    rw [if_pos h] at hf
    rw [hf] at c1
    exact c1
  · have h : ¬ 0 < t.bom := of_decide_eq_false h
    rw [if_neg h] at hf
    have c := c0 hf
    rw [hf] at hE
    rw [← hE] at c
    exact c
structure PrOk (l : List Node) (n : Int) : Prop where
  len : l.length ≤ 1000000000
  wf : Wf l
  wide : Wide l
  h0 : 0 ≤ n
  h1 : n < l.length
  p : (pr l n).length ≤ 1000000
  c : co l n ≤ 1000000
end Go.Proofs.YtcmjijpofkoogaaGreat
namespace Go.Proofs.YtcmjijpofkoogaaGreat
open Go.RowKit Go.Lib
end Go.Proofs.YtcmjijpofkoogaaGreat
namespace Go.Proofs.YtcmjijpofkoogaaGreat
open Go.RowKit Go.Lib
structure CurIn (l : List Node) (W C : Nat) (c : Cur) : Prop where
  h0 : 0 ≤ c.n
  h1 : c.n < l.length
  f0 : 0 ≤ c.f
  w : c.f + (nodeAt l c.n).width ≤ W
  co : co l c.n ≤ C
theorem coL_len (l : List Node) (ks : List Int) : ks.length ≤ coL l ks := by
  induction ks with
  | nil => exact Nat.zero_le _
  | cons k r ih => have := co_pos l k; simp only [coL, List.map_cons, List.sum_cons, List.length_cons] at ih ⊢; omega
theorem coL_mem (l : List Node) {ks : List Int} {k : Int} (h : k ∈ ks) : co l k ≤ coL l ks := by
  induction ks with
  | nil => cases h
  | cons x r ih =>
    simp only [coL, List.map_cons, List.sum_cons] at ih ⊢
    rcases List.mem_cons.1 h with rfl | h
    · omega
    · have := ih h; omega
section
variable {l : List Node} {W C : Nat} {c : Cur}
theorem CurIn.kids (ha : Ar l) (h : CurIn l W C c) : InR l (kidsAt l c) := fun k hk => by
  have h1 := ha.wf c.n h.h0 h.h1 k hk
  have := h.h1
  omega
theorem CurIn.wide (ha : Ar l) (h : CurIn l W C c) : wsum l (kidsAt l c) ≤ (nodeAt l c.n).width ∧ 0 ≤ (nodeAt l c.n).width := by
  rw [ha.wide c.n h.h0 h.h1, wsum_pr ha.wide (h.kids ha), pr_eq ha.wf h.h0 h.h1, List.length_append]
  show (((kidsAt l c).flatMap (pr l)).length : Int) ≤ (((nodeAt l c.n).b.length + ((kidsAt l c).flatMap (pr l)).length : Nat) : Int) ∧ _
  omega
theorem CurIn.cos (ha : Ar l) (h : CurIn l W C c) : 1 + coL l (kidsAt l c) ≤ C := by
  have := h.co
  rw [co_eq ha.wf h.h0 h.h1] at this
  exact this
theorem CurIn.ok (ha : Ar l) (h : CurIn l W C c) (hW : W ≤ 2147483647) (hC : C ≤ 1000000) : CurOk l c := by
  have h1 := h.wide ha
  have h2 := h.cos ha
  have h3 := coL_len l (kidsAt l c)
  have h4 := h.w
  have h5 := h.f0
  exact ⟨by omega, by omega, h5, by omega⟩
theorem CurIn.down (ha : Ar l) (h : CurIn l W C c) {k : Int} (h0 : 0 ≤ k) (h1 : k < (kidsAt l c).length) : CurIn l W C (downC l c k) := by
  have hk : k.toNat < (kidsAt l c).length := by omega
  have hx : (kidsAt l c)[k.toNat]?.getD 0 = (kidsAt l c)[k.toNat] := by rw [List.getElem?_eq_getElem hk]; rfl
  have hm : (kidsAt l c)[k.toNat] ∈ kidsAt l c := List.getElem_mem hk
  have hr := h.kids ha _ hm
  have hw := h.wide ha
  have hc := h.cos ha
  have hcm := coL_mem l hm
  have hs1 := wsum_pos ha.ok.w ((kidsAt l c).take k.toNat)
  have hs2 := wsum_le ha.ok.w (kidsAt l c) (k.toNat + 1)
  have hs3 : wsum l ((kidsAt l c).take (k.toNat + 1)) = wsum l ((kidsAt l c).take k.toNat) + (nodeAt l (kidsAt l c)[k.toNat]).width := by
    rw [List.take_add_one, List.getElem?_eq_getElem hk]
    show (((kidsAt l c).take k.toNat ++ [(kidsAt l c)[k.toNat]]).map (widthN l)).sum = _
    rw [List.map_append, List.sum_append]
    simp [wsum, widthN]
  have h4 := h.w
  have h5 := h.f0
  refine ⟨?_, ?_, ?_, ?_, ?_⟩
  · show 0 ≤ (kidsAt l c)[k.toNat]?.getD 0
    rw [hx]; exact hr.1
  · show (kidsAt l c)[k.toNat]?.getD 0 < _
    rw [hx]; exact hr.2
  · show 0 ≤ c.f + wsum l ((kidsAt l c).take k.toNat)
    omega
  · show c.f + wsum l ((kidsAt l c).take k.toNat) + (nodeAt l ((kidsAt l c)[k.toNat]?.getD 0)).width ≤ W
    rw [hx]; omega
  · show Go.Proofs.YtcmjijpofkoogaaGreat.co l ((kidsAt l c)[k.toNat]?.getD 0) ≤ C
    rw [hx]; omega
end
theorem CurIn.to {l : List Node} {W C : Nat} (ha : Ar l) : ∀ (p : List Int) (c x : Cur), CurIn l W C c → toC l c p = some x → CurIn l W C x
  | [], c, x, h, e => by
    obtain rfl : c = x := by simpa [toC] using e
    exact h
  | k :: r, c, x, h, e => by
    have e : (if 0 ≤ k ∧ k < (kidsAt l c).length then toC l (downC l c k) r else none) = some x := e
    split at e
    · rename_i hk
      exact CurIn.to ha r _ x (h.down ha hk.1 hk.2) e
    · cases e
structure TreeOk (b : List UInt8) (m : Mk) : Prop where
  ar : Ar (rootM m).n
  p : pr (rootM m).n m.n.length = b
  w : (nodeAt (rootM m).n m.n.length).width = b.length
  c : co (rootM m).n m.n.length ≤ 400000
  n : (rootM m).n.length ≤ 400000
  s : m.s.length = 1
theorem root_lt (m : Mk) : (m.n.length : Int) < ((rootM m).n.length : Int) := by
  show (m.n.length : Int) < ((m.n ++ [_]).length : Int)
  simp only [List.length_append, List.length_singleton]; omega
theorem TreeOk.pr {b : List UInt8} {m : Mk} (h : TreeOk b m) (hb : b.length ≤ 100000) : PrOk (rootM m).n m.n.length :=
  ⟨by have := h.n; omega, h.ar.wf, h.ar.wide, by omega, root_lt m, by rw [h.p]; omega, by have := h.c; omega⟩
theorem TreeOk.root {b : List UInt8} {m : Mk} (h : TreeOk b m) : CurIn (rootM m).n b.length 400000 (.root m.n.length) :=
  ⟨by show (0 : Int) ≤ m.n.length; omega, root_lt m, Int.le_refl _, by show (0 : Int) + (nodeAt (rootM m).n m.n.length).width ≤ _; rw [h.w]; omega, h.c⟩
end Go.Proofs.YtcmjijpofkoogaaGreat
namespace Go.Proofs.YtcmjijpofkoogaaGreat
open Go.RowKit Go.Lib
def NodeOk (x : Node) : Prop := x.b = [] ∨ x.kids = []
def NodeO1 (x : Node) : Prop := (x.b = [] ∧ x.kind = 21) ∨ x.kids = []
def DgOk (n : Nat) (x : Dg) : Prop := 0 ≤ x.f ∧ x.f ≤ x.t ∧ x.t ≤ n ∧ 1 ≤ x.c ∧ x.c ≤ 5
structure MkS (z : Nat) (m : Mk) : Prop where
  n : ∀ x ∈ m.n, NodeO1 x
  d : ∀ x ∈ m.d, DgOk z x
theorem nodes_more {P : Node → Prop} {l : List Node} (h : ∀ x ∈ l, P x) {y : Node} (hy : P y) : ∀ x ∈ l ++ [y], P x := fun x hx => by
  rcases List.mem_append.1 hx with hx | hx
  · exact h x hx
  · obtain rfl : x = y := by simpa using hx
    exact hy
theorem leaf_ok (k : Int) (b : List UInt8) : NodeO1 (leafF k b) := .inr rfl
theorem branch_ok (l : List Node) (ks : List Int) : NodeO1 (branchF l 21 ks) := .inl ⟨rfl, rfl⟩
section
variable {n : Nat} {m : Mk}
theorem MkS.add (h : MkS n m) {y : Node} (hy : NodeO1 y) : MkS n (addF y m) := ⟨nodes_more h.n hy, h.d⟩
theorem MkS.kid (h : MkS n m) (k : Int) : MkS n (kidF k m) := ⟨h.n, h.d⟩
theorem MkS.lk (h : MkS n m) (t : Txt) (b : List UInt8) (kind f u : Int) : MkS n (lkF t b kind f u m) := (h.add (leaf_ok _ _)).kid _
theorem MkS.shut (h : MkS n m) (l : Int) : MkS n (shutF l m) := ⟨nodes_more h.n (branch_ok _ _), h.d⟩
structure Plc (t : Txt) (n : Nat) (f u : Int) : Prop where
  h0 : 0 ≤ offA t f
  h1 : offA t f ≤ offA t u
  h2 : offA t u ≤ n
theorem MkS.wrong (h : MkS n m) (t : Txt) {c f u : Int} (hp : Plc t n f u) (hc : 1 ≤ c ∧ c ≤ 5) : MkS n (wrongF t c f u m) := ⟨h.n, fun x hx => by
  rcases List.mem_append.1 hx with hx | hx
  · exact h.d x hx
  · obtain rfl : x = ⟨offA t f, offA t u, c⟩ := by simpa using hx
    exact ⟨hp.h0, hp.h1, hp.h2, hc.1, hc.2⟩⟩
theorem Plc.same {t : Txt} {f u : Int} (h : Plc t n f u) : Plc t n f f := ⟨h.h0, Int.le_refl _, Int.le_trans h.h1 h.h2⟩
theorem MkS.miss (h : MkS n m) (t : Txt) {a : Int} (hp : Plc t n a a) : MkS n (missF t a m) := ((h.wrong t hp (by decide)).add (leaf_ok _ _)).shut _
end
theorem MkS.missGo {n : Nat} (t : Txt) {f : Int} (hp : Plc t n f f) (k : Nat) : ∀ (j : Nat) (m : Mk), MkS n m → MkS n (missGo t f k j m)
  | 0, _, h => h
  | j + 1, m, h => by
    show MkS n (if _ then _ else _)
    split
    · exact MkS.missGo t hp k j _ (h.miss t hp)
    · exact h
section
variable {n : Nat} {m : Mk}
theorem MkS.start (h : MkS n m) (t : Txt) (b : List UInt8) (kind : Int) {f u : Int} (hp : Plc t n f u) : MkS n (startF' t b kind f u m) := by
  unfold startF'
  split
  · exact (h.wrong t hp (by decide)).lk t b kind f u
  · exact MkS.lk (m := { m with s := m.s ++ [⟨nameF' t f u, []⟩] }) ⟨h.n, h.d⟩ t b kind f u
theorem MkS.end_ (h : MkS n m) (t : Txt) (b : List UInt8) (kind : Int) {f u : Int} (hp : Plc t n f u) : MkS n (endF' t b kind f u m) := by
  unfold endF'
  simp only
  split
  · exact (h.wrong t hp (by decide)).lk t b kind f u
  · exact ((MkS.missGo t hp.same _ _ _ h).add (leaf_ok _ _)).shut _
theorem MkS.token (h : MkS n m) (t : Txt) (b : List UInt8) (kind : Int) {f u : Int} (wh : Bool) (hp : Plc t n f u) : MkS n (tokenF t b kind f u wh m) := by
  unfold tokenF
  simp only
  generalize hm1 : (if wh = false then wrongF t 1 f u m else if (kind = 8 ∨ kind = 9 ∨ kind = 10) ∧ (readF t.r f u).right = false then wrongF t 2 f u m else m) = m1
  have h1 : MkS n m1 := by
    rw [← hm1]
    split
    · exact h.wrong t hp (by decide)
    · split
      · exact h.wrong t hp (by decide)
      · exact h
  split
  · exact h1.start t b kind hp
  · split
    · exact h1.end_ t b kind hp
    · exact h1.lk t b kind f u
end
theorem plc_of {t : Txt} {b : List UInt8} (ok : TxtOk t b) {f u : Int} (h0 : 0 ≤ f) (h1 : f ≤ u) (h2 : u ≤ t.r.length) : Plc t b.length f u := by
  have hm := ok.mono f.toNat u.toNat (by omega) (by omega)
  have hlen := ok.len
  have hf : f.toNat < t.off.length := by omega
  have hu : u.toNat < t.off.length := by omega
  have h3 := ok.range (t.off[f.toNat]'hf) (List.getElem_mem hf)
  have h4 := ok.range (t.off[u.toNat]'hu) (List.getElem_mem hu)
  have e3 : t.off[f.toNat]?.getD 0 = t.off[f.toNat] := by rw [List.getElem?_eq_getElem hf]; rfl
  have e4 : t.off[u.toNat]?.getD 0 = t.off[u.toNat] := by rw [List.getElem?_eq_getElem hu]; rfl
  rw [← e3] at h3
  rw [← e4] at h4
  exact ⟨h3.1, hm, h4.2⟩
theorem MkS.toks {t : Txt} {b : List UInt8} (ok : TxtOk t b) : ∀ (n k : Nat) (m : Mk), t.r.length - k ≤ n → MkS b.length m → MkS b.length ((toksGo t.r k).foldl (tokM t b) m)
  | 0, k, m, h, hi => by
    rw [toksGo_nil (by omega)]; exact hi
  | n + 1, k, m, h, hi => by
    by_cases hlt : k < t.r.length
    · obtain ⟨h1, h2, h3, h4⟩ := tok_in t.r hlt
      rw [toksGo_cons hlt, List.foldl_cons]
      have hp : Plc t b.length (tokAt t.r k).from_ (tokAt t.r k).to := plc_of ok (by omega) (by omega) (by omega)
      exact MkS.toks ok n (nextTF t.r k).2.1 _ (by omega) (hi.token t b _ _ hp)
    · rw [toksGo_nil hlt]; exact hi
theorem MkS.all {t : Txt} {b : List UInt8} (ok : TxtOk t b) {m : Mk} (hi : MkS b.length m) : MkS b.length (allM t b m) :=
  MkS.missGo t (plc_of ok (by omega) (Int.le_refl _) (Int.le_refl _)) 0 _ _ (MkS.toks ok t.r.length 0 m (by omega) hi)
end Go.Proofs.YtcmjijpofkoogaaGreat
namespace Go.Proofs.YtcmjijpofkoogaaGreat
open Go.RowKit Go.Lib
def IsN (n : Nat) (i : Int) : Prop := i = n
theorem IsN.eq {n : Nat} {i : Int} (h : IsN n i) : i = (n : Int) := h
def Cur.el (N : List AV) (c : Cur) : List AV := [.opt (.ref [.slc 6 N]), .val (.int .i64 c.n), .val (.int .i64 c.f), .val (.int .i64 c.k), .opt (upO N c)]
def CurAt (l : List Node) (b : List UInt8) (c : Cur) : Prop := ∃ pre post, b = pre ++ (pr l c.n ++ post) ∧ (pre.length : Int) = c.f
theorem CurAt.down {l : List Node} {b : List UInt8} {W C : Nat} {c : Cur} (ha : Ar l) (ho : ∀ x ∈ l, NodeOk x) (h : CurIn l W C c) (hb : CurAt l b c) {k : Int} (h0 : 0 ≤ k) (h1 : k < (kidsAt l c).length) : CurAt l b (downC l c k) := by
  obtain ⟨pre, post, e1, e2⟩ := hb
  have hk : k.toNat < (kidsAt l c).length := by omega
  have hx : (downC l c k).n = (kidsAt l c)[k.toNat] := by show (kidsAt l c)[k.toNat]?.getD 0 = _; rw [List.getElem?_eq_getElem hk]; rfl
  have hin := h.kids ha
  have hnb : (nodeAt l c.n).b = [] := by
    have hm : nodeAt l c.n ∈ l := by
      have hlt : c.n.toNat < l.length := by have := h.h0; have := h.h1; omega
      rw [nodeAt, if_pos ⟨h.h0, h.h1⟩, List.getElem?_eq_getElem hlt]
      exact List.getElem_mem hlt
    rcases ho _ hm with h2 | h2
    · exact h2
    · have h2 : kidsAt l c = [] := h2
      rw [h2] at hk; exact absurd hk (by simp)
  have hp : pr l c.n = (kidsAt l c).flatMap (pr l) := by
    rw [pr_eq ha.wf h.h0 h.h1, hnb]; rfl
  have hsp : kidsAt l c = (kidsAt l c).take k.toNat ++ ((kidsAt l c)[k.toNat] :: (kidsAt l c).drop (k.toNat + 1)) := by
    rw [← List.drop_eq_getElem_cons hk, List.take_append_drop]
  have hpk : pr l c.n = ((kidsAt l c).take k.toNat).flatMap (pr l) ++ (pr l (kidsAt l c)[k.toNat] ++ ((kidsAt l c).drop (k.toNat + 1)).flatMap (pr l)) := by
    rw [hp]
    conv => lhs; rw [hsp]
    rw [List.flatMap_append, List.flatMap_cons]
  refine ⟨pre ++ ((kidsAt l c).take k.toNat).flatMap (pr l), ((kidsAt l c).drop (k.toNat + 1)).flatMap (pr l) ++ post, ?_, ?_⟩
  · rw [e1, hpk, hx]; simp only [List.append_assoc]
  · show ((pre ++ _).length : Int) = c.f + wsum l ((kidsAt l c).take k.toNat)
    rw [wsum_pr ha.wide (fun y hy => hin y (List.mem_of_mem_take hy)), List.length_append]
    omega
def CurB (l : List Node) (b : List UInt8) (C : Nat) (c : Cur) : Prop := CurIn l b.length C c ∧ CurAt l b c
theorem CurAt.cut {l : List Node} {b : List UInt8} {c : Cur} (h : CurAt l b c) : (b.drop c.f.toNat).take (pr l c.n).length = pr l c.n := by
  obtain ⟨pre, post, e1, e2⟩ := h
  rw [e1, show c.f.toNat = pre.length by omega, List.drop_left, List.take_left]
end Go.Proofs.YtcmjijpofkoogaaGreat
namespace Go.Proofs.YtcmjijpofkoogaaGreat
open Go.RowKit Go.Lib
section
variable {w w' : World} {A' : Nat → Nat → Prop}
theorem own_bytes {base n : Nat} {v : Value} {l : List UInt8} (h : w'.ownsRow base 5 1 v n (bc l)) (hA : ∀ b o, base ≤ b → b < w'.heap.size → A' b o) : PRel w' A' v (.slc 1 (bytesA l)) := by
  have hn : n = (bytesA l).length := by
    have := h.1
    rw [bytes_len]; simpa [bc] using this.symm
  refine own_slc h (by decide) ?_ hn (fun x hx => by obtain ⟨y, _, rfl⟩ := List.mem_map.1 hx; rfl) hA
  have e : flatA (bytesA l) = (bc l).map .val := by
    have e1 : bytesA l = (bc l).map .val := by simp [bytesA, bc, byteA]
    rw [e1, flatVals]
  rw [e]
  refine vals_alike fun u hu => ?_
  obtain ⟨x, _, rfl⟩ := List.mem_map.1 hu
  rfl
end
theorem ScanBytes_b (l : List Int) (hl : l.length ≤ 100000000) : BCall Tryz.prog 95 [.slc 1 (runesA l)] [] (.slc 1 (bytesA (bytesF l))) [] := by
  refine BCall.hand (enters_of Tryz.func95 (by kernel_rfl) rfl) fun w g vs M hL => ?_
  obtain ⟨v1, vs1, rfl, h1, hL⟩ := argsCons hL
  obtain rfl := argsNil hL
  obtain ⟨A, c, rfl, hr⟩ := runes_rd h1 M
  exact (Bytes_any _ A _ c l w hr hl).mono fun e w' ⟨v, h, ⟨n', ho⟩, hbel⟩ => ⟨v, h, hbel, own_bytes (A' := (g.imm w w').A) ho fun b o h1 h2 => .inr ⟨h1, h2⟩⟩
structure Ev where
  do_ : Int
  kind : Int
  b : List UInt8
  deriving Inhabited, DecidableEq
def Ev.av (x : Ev) : AV := if x.do_ = 2 then .agg [.val (.int .i64 2), .val (.int .i64 x.kind), .slc 1 (bytesA x.b)] else .agg [.val (.int .i64 x.do_), .val (.int .i64 0), .val (.slice none 0 0)]
def spF (l : List Node) : Nat → Int → Bool → List Ev
  | 0, _, _ => []
  | f + 1, n, top => if (nodeAt l n).kind ≠ 21 ∧ top = false then [⟨2, (nodeAt l n).kind, pr l n⟩]
    else (if top = true then [] else [⟨1, 0, []⟩]) ++ (nodeAt l n).kids.flatMap (fun k => spF l f k false) ++ (if top = true then [] else [⟨3, 0, []⟩])
def spV (l : List Node) (n : Int) (top : Bool) : List Ev := spF l (n.toNat + 1) n top
theorem spF_more {l : List Node} (hw : Wf l) : ∀ (f f' : Nat) (n : Int) (top : Bool), 0 ≤ n → n < l.length → n.toNat < f → n.toNat < f' → spF l f n top = spF l f' n top
  | 0, _, _, _, _, _, h, _ => by omega
  | _ + 1, 0, _, _, _, _, _, h => by omega
  | f + 1, f' + 1, n, top, h0, h1, h2, h3 => by
    simp only [spF]
    have : (nodeAt l n).kids.flatMap (fun k => spF l f k false) = (nodeAt l n).kids.flatMap (fun k => spF l f' k false) := by
      refine congrArg List.flatten (List.map_congr_left fun k hk => ?_)
      have := hw n h0 h1 k hk
      exact spF_more hw f f' k false this.1 (by omega) (by omega) (by omega)
    rw [this]
theorem spN_eq {l : List Node} (hw : Wf l) {n : Int} (h0 : 0 ≤ n) (h1 : n < l.length) (top : Bool) : spV l n top = if (nodeAt l n).kind ≠ 21 ∧ top = false then [⟨2, (nodeAt l n).kind, pr l n⟩]
    else (if top = true then [] else [⟨1, 0, []⟩]) ++ (nodeAt l n).kids.flatMap (fun k => spV l k false) ++ (if top = true then [] else [⟨3, 0, []⟩]) := by
  show spF l (n.toNat + 1) n top = _
  simp only [spF]
  have : (nodeAt l n).kids.flatMap (fun k => spF l n.toNat k false) = (nodeAt l n).kids.flatMap (fun k => spV l k false) := by
    refine congrArg List.flatten (List.map_congr_left fun k hk => ?_)
    have := hw n h0 h1 k hk
    exact spF_more hw _ _ k false this.1 (by omega) (by omega) (by omega)
  rw [this]
def nxt (k : Int) : Int := k + 1
end Go.Proofs.YtcmjijpofkoogaaGreat
namespace Go.Proofs.YtcmjijpofkoogaaGreat
open Go.RowKit Go.Lib
set_option maxRecDepth 20000
def tkW (p : Int → Bool) (l : List Int) (k : Int) : List Int := (l.drop k.toNat).takeWhile p
def skI (l : List Int) (k : Int) : Int := k + (tkW isSpace l k).length
def txF (x : List Int) : ByteArray := ⟨(bytesF x).toArray⟩
def sdI (l : List Int) (k : Int) (s : ByteArray) : Bool := startsF l k.toNat s.data.toList
def Pla (l : List Int) (k : Int) : Prop := 0 ≤ k ∧ k ≤ l.length
theorem tkW_len (p : Int → Bool) (l : List Int) {k : Int} (h : Pla l k) : k + (tkW p l k).length ≤ l.length := by
  have h1 := (List.takeWhile_sublist p (l := l.drop k.toNat)).length_le
  rw [List.length_drop] at h1
  unfold tkW Pla at *
  omega
theorem Pla.sp {l : List Int} {k : Int} (h : Pla l k) : Pla l (skI l k) := ⟨by have := h.1; unfold skI; omega, tkW_len _ l h⟩
theorem sdI_len {l : List Int} {k : Int} {s : ByteArray} (h : Pla l k) (hs : sdI l k s = true) : k + s.size ≤ l.length := by
  unfold sdI startsF at hs
  simp only [Bool.and_eq_true, beq_iff_eq] at hs
  have := congrArg List.length hs.2
  rw [List.length_take, List.length_drop, bi, List.length_map] at this
  have hl : s.data.toList.length = s.size := by simp
  unfold Pla at h
  omega
theorem Pla.st {l : List Int} {k : Int} {s : ByteArray} (h : Pla l k) (hs : sdI l k s = true) : Pla l (k + s.size) := ⟨by have := h.1; omega, sdI_len h hs⟩
def csL (t : List (Nat × AV × List Ob)) : Nat → List AV → List Ob → Option (AV × List Ob) := fun g _ _ => match t with
  | [] => none
  | (h, r) :: t => match Nat.beq g h with
    | true => some r
    | false => csL t g [] []
theorem dtext_b (x : List Int) (hx : x.length ≤ 1000000) : BCall Tryz.prog 399 [.slc 1 (runesA x)] [] (.val (.string (txF x))) [] := by
  have c := ScanBytes_b x (by omega)
  have hB := isB_bytesA (bytesF x)
  have hS : std.strB (bytesA (bytesF x)) = txF x := by simp [std, bytes_back, txF]
  obtain ⟨B, hBE⟩ : ∃ B, B = bytesA (bytesF x) := ⟨_, rfl⟩
  rw [← hBE] at c hB hS
  refine fnN (csL [(95, .slc 1 B, [])]) Tryz.func399 rfl fun _ _ => ?_
  with_reducible refine cv1 (runesA x) ?_
  exact ⟨c, hB, .pure rfl (.inl (by rw [← hS]))⟩
def nxI (l : List Int) (k : Int) (s : ByteArray) : Int := if sdI l k s = true then k + s.size else k
theorem Pla.nx {l : List Int} {k : Int} {s : ByteArray} (h : Pla l k) : Pla l (nxI l k s) := by
  unfold nxI
  split
  · rename_i hs; exact h.st hs
  · exact h
theorem Name_b (s : ByteArray) (hs : s.size ≤ 300000000) : BCall Tryz.prog 213 [.val (.string s)] [] (.val (.bool (nameF s.data.toList))) [] := by
  refine BCall.hand (enters_of Tryz.func213 (by kernel_rfl) rfl) fun w g vs M hL => ?_
  obtain ⟨v1, vs1, rfl, k1, hL⟩ := argsCons hL
  obtain rfl := argsNil hL
  obtain rfl := argVal k1
  exact (NName_any s w hs).mono fun e w' ⟨h, hb⟩ => ⟨_, h, hb, .val _ rfl⟩
end Go.Proofs.YtcmjijpofkoogaaGreat
namespace Go.Proofs.YtcmjijpofkoogaaGreat
open Go.RowKit Go.Lib
end Go.Proofs.YtcmjijpofkoogaaGreat
namespace Go.Proofs.YtcmjijpofkoogaaGreat
open Go.RowKit Go.Lib
theorem CurB.pr {l : List Node} {b : List UInt8} {C : Nat} {c : Cur} (ha : Ar l) (hl : l.length ≤ 1000000000) (hb : b.length ≤ 1000000) (hC : C ≤ 1000000) (h : CurB l b C c) : PrOk l c.n := by
  refine ⟨hl, ha.wf, ha.wide, h.1.h0, h.1.h1, ?_, by have := h.1.co; omega⟩
  obtain ⟨pre, post, e1, _⟩ := h.2
  have := congrArg List.length e1
  simp only [List.length_append] at this
  omega
end Go.Proofs.YtcmjijpofkoogaaGreat
namespace Go.Proofs.YtcmjijpofkoogaaGreat
open Go.RowKit Go.Lib
def runesK (kind : Int) (b : List UInt8) : List Int := (pcsF kind b).map Itm.r
end Go.Proofs.YtcmjijpofkoogaaGreat
namespace Go.Proofs.YtcmjijpofkoogaaGreat
open Go.RowKit Go.Lib
theorem firstF_wide (l : List UInt8) (h : (firstF l).1 ≠ -1) : 0 < widthF (firstF l).1 := by
  have h' : ¬ ((decodeL l).1 = 65533 ∧ (decodeL l).2 = 1) := fun hh => h (by rw [firstF, if_pos hh])
  rw [firstF, if_neg h']
  show 0 < widthF ((decodeL l).1 : Int)
  clear h
  rw [decodeL_N] at h' ⊢
  have k0 := (l.getD 0 0).toNat_lt
  have k1 := (l.getD 1 0).toNat_lt
  have k2 := (l.getD 2 0).toNat_lt
  have k3 := (l.getD 3 0).toNat_lt
  rcases decodeN_shape l.length (l.getD 0 0).toNat (l.getD 1 0).toNat (l.getD 2 0).toNat (l.getD 3 0).toNat with ⟨c, e⟩ | ⟨c1, c2, c3, cv, e⟩ | ⟨c1, c2, c3, c4, cv, cs, e⟩ | ⟨c1, c2, c3, c4, c5, cv, cw, e⟩ | e
  all_goals (rw [e] at h' ⊢; dsimp only at h' ⊢)
  all_goals (try (exact absurd ⟨rfl, rfl⟩ h'))
  all_goals (unfold widthF; repeat' split)
  all_goals omega
theorem firstF_cut (l : List UInt8) (n : Nat) (hne : l ≠ []) (hn : (firstF l).2 ≤ n) : firstF (l.take n) = firstF l := by
  by_cases h : (firstF l).1 = -1
  · have h2 : firstF l = (-1, 1) := by
      unfold firstF at h ⊢
      split
      · rfl
      · rename_i h3
        rw [if_neg h3] at h
        simp only at h
        omega
    have h1 : 1 ≤ n := by rw [h2] at hn; exact hn
    have hne2 : l.take n ≠ [] := by
      intro h3
      rcases List.take_eq_nil_iff.1 h3 with h3 | h3
      · omega
      · exact hne h3
    by_cases h3 : (firstF (l.take n)).1 = -1
    · rw [h2]
      unfold firstF at h3 ⊢
      split
      · rfl
      · rename_i h4
        rw [if_neg h4] at h3
        simp only at h3
        omega
    · have g := firstF_good _ hne2 h3
      have hle := firstF_le _ hne2
      refine absurd ⟨l.drop (firstF (l.take n)).2, ?_⟩ (firstF_bad l h _ (firstF_wide _ h3))
      rw [← g, List.take_take, Nat.min_eq_left (by rw [List.length_take] at hle; omega), List.take_append_drop]
  · have g := firstF_good _ hne h
    have hw := firstF_wide _ h
    have e : l.take n = encodeRune (firstF l).1 ++ (l.drop (firstF l).2).take (n - (firstF l).2) := by
      rw [← g, ← List.drop_take]
      conv => lhs; rw [← List.take_append_drop (firstF l).2 (l.take n), List.take_take, Nat.min_eq_left hn]
    have e2 : l = encodeRune (firstF l).1 ++ l.drop (firstF l).2 := by rw [← g, List.take_append_drop]
    rw [e, firstF_enc _ hw]
    conv => rhs; rw [e2, firstF_enc _ hw]
theorem stepW_two (big : Bool) (x y : UInt8) : (stepW big [x, y]).2 = 2 := by
  unfold stepW; simp only; split <;> rfl
theorem stepW_cut (big : Bool) (l : List UInt8) (n : Nat) (hne : l ≠ []) (h : (stepW big l).2 ≤ n) : stepW big (l.take n) = stepW big l := by
  match l, hne with
  | [x], _ =>
    have h : (1 : Int) ≤ n := h
    rw [List.take_of_length_le (by simp; omega)]
  | [x, y], _ =>
    rw [stepW_two] at h
    rw [List.take_of_length_le (by simp; omega)]
  | [x, y, z], _ =>
    have e : stepW big [x, y, z] = stepW big [x, y] := rfl
    rw [e, stepW_two] at h
    by_cases h2 : n = 2
    · subst h2; rfl
    · rw [List.take_of_length_le (by simp; omega)]
  | x :: y :: x2 :: y2 :: r, _ =>
    have e : stepW big (x :: y :: x2 :: y2 :: r) = if (55296 ≤ unitI big x y ∧ unitI big x y < 56320) ∧ (56320 ≤ unitI big x2 y2 ∧ unitI big x2 y2 < 57344) then (65536 + (unitI big x y - 55296) * 1024 + (unitI big x2 y2 - 56320), 4) else stepW big [x, y] := rfl
    by_cases hC : (55296 ≤ unitI big x y ∧ unitI big x y < 56320) ∧ (56320 ≤ unitI big x2 y2 ∧ unitI big x2 y2 < 57344)
    · rw [e, if_pos hC] at h ⊢
      have h : (4 : Int) ≤ n := h
      obtain ⟨m, rfl⟩ : ∃ m, n = m + 4 := ⟨n - 4, by omega⟩
      show stepW big (x :: y :: x2 :: y2 :: r.take m) = _
      exact if_pos hC
    · rw [e, if_neg hC] at h ⊢
      rw [stepW_two] at h
      by_cases h2 : n = 2
      · subst h2; rfl
      · by_cases h3 : n = 3
        · subst h3; rfl
        · obtain ⟨m, rfl⟩ : ∃ m, n = m + 4 := ⟨n - 4, by omega⟩
          show stepW big (x :: y :: x2 :: y2 :: r.take m) = _
          exact if_neg hC
def stepK (kind : Int) (l : List UInt8) : Int × Nat := if kind = 0 then firstF l else ((stepW (decide (kind = 1)) l).1, (stepW (decide (kind = 1)) l).2.toNat)
theorem stepK_n (kind : Int) (l : List UInt8) (hne : l ≠ []) : 1 ≤ (stepK kind l).2 ∧ (stepK kind l).2 ≤ l.length := by
  unfold stepK
  split
  · exact ⟨firstF_pos l, firstF_le l hne⟩
  · have := stepW_n (decide (kind = 1)) l hne
    simp only
    omega
theorem stepK_cut (kind : Int) (l : List UInt8) (n : Nat) (hne : l ≠ []) (h : (stepK kind l).2 ≤ n) : stepK kind (l.take n) = stepK kind l := by
  unfold stepK at h ⊢
  split
  · rename_i hk
    rw [if_pos hk] at h
    exact firstF_cut l n hne h
  · rename_i hk
    rw [if_neg hk] at h
    simp only at h
    rw [stepW_cut _ l n hne (by omega)]
def pcsN (kind : Int) (n off : Nat) (l : List UInt8) : List Itm := if kind = 0 then (itemsGo n off l).map itmOf else if kind = 1 then wideF true off l else if kind = 2 then wideF false off l else []
theorem pcsN_nil (kind : Int) (n off : Nat) : pcsN kind n off [] = [] := by
  unfold pcsN
  rw [itemsGo_nil, wideF, dif_pos rfl, wideF, dif_pos rfl]
  simp
theorem wide_cons (big : Bool) (off : Nat) {l : List UInt8} (hne : l ≠ []) : wideF big off l = ⟨(stepW big l).1, (off : Int), ((stepW big l).2.toNat : Int)⟩ :: wideF big ((off + (stepW big l).2.toNat : Nat) : Int) (l.drop (stepW big l).2.toNat) := by
  have := stepW_n big l hne
  have e1 : ((stepW big l).2.toNat : Int) = (stepW big l).2 := Int.toNat_of_nonneg (by omega)
  have e2 : ((off + (stepW big l).2.toNat : Nat) : Int) = (off : Int) + (stepW big l).2 := by rw [Int.natCast_add, e1]
  rw [e2, e1]
  conv => lhs; rw [wideF, dif_neg hne]
theorem pcsN_cons {kind : Int} (hk : kind = 0 ∨ kind = 1 ∨ kind = 2) {l : List UInt8} (hne : l ≠ []) (n off : Nat) : pcsN kind (n + 1) off l = ⟨(stepK kind l).1, off, (stepK kind l).2⟩ :: pcsN kind n (off + (stepK kind l).2) (l.drop (stepK kind l).2) := by
  rcases hk with rfl | rfl | rfl
  · obtain ⟨b, t, rfl⟩ := List.exists_cons_of_ne_nil hne
    rfl
  · exact wide_cons true off hne
  · exact wide_cons false off hne
def wdK (kind : Int) : Nat → List UInt8 → Nat
  | 0, _ => 0
  | j + 1, l => if l = [] then 0 else (stepK kind l).2 + wdK kind j (l.drop (stepK kind l).2)
def rnK (kind : Int) : Nat → List UInt8 → List Int
  | 0, _ => []
  | n + 1, l => if l = [] then [] else (stepK kind l).1 :: rnK kind n (l.drop (stepK kind l).2)
theorem wdK_nil (kind : Int) (j : Nat) : wdK kind j [] = 0 := by cases j <;> rfl
theorem rnK_nil (kind : Int) (n : Nat) : rnK kind n [] = [] := by cases n <;> rfl
theorem pcsN_r {kind : Int} (hk : kind = 0 ∨ kind = 1 ∨ kind = 2) : ∀ (n off : Nat) (l : List UInt8), l.length ≤ n → (pcsN kind n off l).map Itm.r = rnK kind n l
  | 0, off, l, h => by
    obtain rfl : l = [] := List.eq_nil_of_length_eq_zero (by omega)
    rw [pcsN_nil]; rfl
  | n + 1, off, l, h => by
    by_cases hne : l = []
    · subst hne
      rw [pcsN_nil]; rfl
    · have hs := stepK_n kind l hne
      rw [pcsN_cons hk hne, rnK, if_neg hne, List.map_cons, pcsN_r hk n _ _ (by rw [List.length_drop]; omega)]
theorem pcsN_off {kind : Int} (hk : kind = 0 ∨ kind = 1 ∨ kind = 2) : ∀ (n off : Nat) (l : List UInt8), l.length ≤ n → ∀ j, j ≤ (pcsN kind n off l).length → ((pcsN kind n off l).map Itm.off ++ [((off + l.length : Nat) : Int)])[j]? = some ((off + wdK kind j l : Nat) : Int)
  | 0, off, l, h, j, hj => by
    obtain rfl : l = [] := List.eq_nil_of_length_eq_zero (by omega)
    rw [pcsN_nil] at hj ⊢
    obtain rfl : j = 0 := by simpa using hj
    rfl
  | n + 1, off, l, h, j, hj => by
    by_cases hne : l = []
    · subst hne
      rw [pcsN_nil] at hj ⊢
      obtain rfl : j = 0 := by simpa using hj
      rfl
    · have hs := stepK_n kind l hne
      rw [pcsN_cons hk hne] at hj ⊢
      cases j with
      | zero => rfl
      | succ j =>
        have ih := pcsN_off hk n (off + (stepK kind l).2) (l.drop (stepK kind l).2) (by rw [List.length_drop]; omega) j (by simpa using hj)
        rw [List.length_drop, show off + (stepK kind l).2 + (l.length - (stepK kind l).2) = off + l.length by omega] at ih
        rw [wdK, if_neg hne, ← Nat.add_assoc, ← ih]
        rfl
theorem rnK_fuel (kind : Int) : ∀ (n m : Nat) (l : List UInt8), l.length ≤ n → l.length ≤ m → rnK kind n l = rnK kind m l
  | 0, m, l, h, _ => by
    obtain rfl : l = [] := List.eq_nil_of_length_eq_zero (by omega)
    rw [rnK_nil, rnK_nil]
  | n + 1, 0, l, _, h => by
    obtain rfl : l = [] := List.eq_nil_of_length_eq_zero (by omega)
    rw [rnK_nil, rnK_nil]
  | n + 1, m + 1, l, h1, h2 => by
    by_cases hne : l = []
    · subst hne; rfl
    · have hs := stepK_n kind l hne
      rw [rnK, rnK, if_neg hne, if_neg hne, rnK_fuel kind n m _ (by rw [List.length_drop]; omega) (by rw [List.length_drop]; omega)]
theorem rnK_take (kind : Int) : ∀ (n j : Nat) (l : List UInt8), l.length ≤ n → rnK kind n (l.take (wdK kind j l)) = (rnK kind n l).take j
  | 0, j, l, h => by
    obtain rfl : l = [] := List.eq_nil_of_length_eq_zero (by omega)
    rw [wdK_nil]; simp [rnK]
  | n + 1, j, l, h => by
    by_cases hne : l = []
    · subst hne
      rw [wdK_nil, rnK_nil]; simp [rnK_nil]
    · have hs := stepK_n kind l hne
      cases j with
      | zero => rfl
      | succ j =>
        have ih := rnK_take kind n j (l.drop (stepK kind l).2) (by rw [List.length_drop]; omega)
        rw [wdK, if_neg hne]
        have hne2 : l.take ((stepK kind l).2 + wdK kind j (l.drop (stepK kind l).2)) ≠ [] := by
          intro h3
          rcases List.take_eq_nil_iff.1 h3 with h3 | h3
          · omega
          · exact hne h3
        rw [rnK, if_neg hne2, stepK_cut kind l _ hne (by omega), List.drop_take, show (stepK kind l).2 + wdK kind j (l.drop (stepK kind l).2) - (stepK kind l).2 = wdK kind j (l.drop (stepK kind l).2) by omega, ih, rnK, if_neg hne]
        rfl
theorem rnK_drop (kind : Int) : ∀ (n j : Nat) (l : List UInt8), l.length ≤ n → rnK kind n (l.drop (wdK kind j l)) = (rnK kind n l).drop j
  | 0, j, l, h => by
    obtain rfl : l = [] := List.eq_nil_of_length_eq_zero (by omega)
    rw [wdK_nil]; simp [rnK]
  | n + 1, j, l, h => by
    by_cases hne : l = []
    · subst hne
      rw [wdK_nil, rnK_nil]; simp [rnK_nil]
    · have hs := stepK_n kind l hne
      cases j with
      | zero => rfl
      | succ j =>
        have ih := rnK_drop kind n j (l.drop (stepK kind l).2) (by rw [List.length_drop]; omega)
        rw [wdK, if_neg hne, ← List.drop_drop, rnK_fuel kind (n + 1) n _ (by rw [List.length_drop, List.length_drop]; omega) (by rw [List.length_drop, List.length_drop]; omega), ih]
        conv => rhs; rw [rnK, if_neg hne]
        rfl
theorem wdK_add (kind : Int) : ∀ (f g : Nat) (l : List UInt8), wdK kind (f + g) l = wdK kind f l + wdK kind g (l.drop (wdK kind f l))
  | 0, g, l => by rw [Nat.zero_add]; show _ = 0 + wdK kind g (l.drop 0); rw [Nat.zero_add, List.drop_zero]
  | f + 1, g, l => by
    by_cases hne : l = []
    · subst hne; simp [wdK_nil]
    · rw [show f + 1 + g = (f + g) + 1 by omega, wdK, if_neg hne, wdK, if_neg hne, wdK_add kind f g, List.drop_drop]
      omega
theorem runesK_rn {kind : Int} (hk : kind = 0 ∨ kind = 1 ∨ kind = 2) (l : List UInt8) : runesK kind l = rnK kind l.length l := pcsN_r hk l.length 0 l (Nat.le_refl _)
theorem text_wd (b : List UInt8) {j : Nat} (hj : j ≤ (textF' b).r.length) : offA (textF' b) j = ((kindF b).2.toNat + wdK (kindF b).1 j (b.drop (kindF b).2.toNat) : Nat) := by
  have hb := kind_bom b
  have hj2 : j ≤ (textI b).length := by
    have : (textF' b).r.length = (textI b).length := List.length_map _
    omega
  have h := pcsN_off (kind_012 b) (b.drop (kindF b).2.toNat).length 0 (b.drop (kindF b).2.toNat) (Nat.le_refl _) j hj2
  have h : ((textI b).map Itm.off ++ [((0 + (b.drop (kindF b).2.toNat).length : Nat) : Int)])[j]? = some ((0 + wdK (kindF b).1 j (b.drop (kindF b).2.toNat) : Nat) : Int) := h
  rw [Nat.zero_add, Nat.zero_add, List.length_drop, show ((b.length - (kindF b).2.toNat : Nat) : Int) = (b.length : Int) - (kindF b).2 by omega] at h
  show ((textF' b).off[(j : Int).toNat]?.getD 0 : Int) = _
  rw [text_off, Int.toNat_natCast, List.getElem?_map, h]
  show (_ + _ : Int) = _
  rw [Int.natCast_add, Int.toNat_of_nonneg hb.1, Int.add_comm]
theorem runes_local (b : List UInt8) {f u : Int} (h0 : 0 ≤ f) (h1 : f ≤ u) (h2 : u ≤ (textF' b).r.length) : runesK (textF' b).kind (sliceF (textF' b) b f u) = ((textF' b).r.drop f.toNat).take (u - f).toNat := by
  obtain ⟨i, rfl⟩ := Int.eq_ofNat_of_zero_le h0
  obtain ⟨g, rfl⟩ : ∃ g : Nat, u = ((i + g : Nat) : Int) := ⟨(u - i).toNat, by omega⟩
  obtain ⟨c, hc⟩ : ∃ c, c = b.drop (kindF b).2.toNat := ⟨_, rfl⟩
  have e1 : ((textF' b).off[(i : Int).toNat]?.getD 0 : Int) = _ := text_wd b (j := i) (by omega)
  have e2 : ((textF' b).off[((i + g : Nat) : Int).toNat]?.getD 0 : Int) = _ := text_wd b (j := i + g) (by omega)
  have hr : (textF' b).r = rnK (kindF b).1 c.length c := by rw [hc]; exact runesK_rn (kind_012 b) _
  have hs : sliceF (textF' b) b i ((i + g : Nat) : Int) = (c.drop (wdK (kindF b).1 i c)).take (wdK (kindF b).1 g (c.drop (wdK (kindF b).1 i c))) := by
    unfold sliceF
    rw [e1, e2, ← hc, Int.toNat_natCast, wdK_add, ← List.drop_drop, ← hc]
    congr 1
    omega
  rw [hs, hr, show (((i + g : Nat) : Int) - (i : Int)).toNat = g by omega, Int.toNat_natCast]
  show runesK (kindF b).1 _ = _
  rw [runesK_rn (kind_012 b), rnK_fuel _ _ c.length _ (Nat.le_refl _) (by rw [List.length_take, List.length_drop]; omega), rnK_take _ _ _ _ (by rw [List.length_drop]; omega), rnK_drop _ _ _ _ (Nat.le_refl _)]
def shP (d : Int) (x : TPart) : TPart := ⟨x.kind, x.from_ + d, x.to + d⟩
theorem partsGo_cons {r : List Int} (h : r ≠ []) (a : Int) (first : Bool) : partsGo a first r = ⟨(tpieceF r first).1, a, a + (tpieceF r first).2⟩ :: partsGo (a + (tpieceF r first).2) false (r.drop (tpieceF r first).2.toNat) := by
  conv => lhs; rw [partsGo, dif_neg h]
theorem partsGo_sh (d : Int) : ∀ (n : Nat) (r : List Int) (a : Int) (first : Bool), r.length ≤ n → partsGo (a + d) first r = (partsGo a first r).map (shP d)
  | 0, r, a, first, h => by
    obtain rfl : r = [] := List.eq_nil_of_length_eq_zero (by omega)
    rw [partsGo, dif_pos rfl, partsGo, dif_pos rfl]; rfl
  | n + 1, r, a, first, h => by
    by_cases hr : r = []
    · rw [partsGo, dif_pos hr, partsGo, dif_pos hr]; rfl
    · have hn := tpiece_n r first hr
      have ih := partsGo_sh d n (r.drop (tpieceF r first).2.toNat) (a + (tpieceF r first).2) false (by rw [List.length_drop]; omega)
      rw [partsGo_cons hr, partsGo_cons hr, List.map_cons, ← ih, shP, show a + d + (tpieceF r first).2 = a + (tpieceF r first).2 + d by omega]
theorem takes_sh (d : Int) (ps : List TPart) (a : Nat) (ks : List Int) : takesOk (ps.map (shP d)) a ks = takesOk ps a ks := by
  unfold takesOk
  rw [← List.map_drop, ← List.map_take, List.map_map]
  rfl
theorem readP_nm (ps : List TPart) : (readP ps).name = if takesOk ps 0 [1, 2] = true then ps[1]?.getD tpart0 else tpart0 := by
  unfold readP
  split
  · simp only
    split
    · rfl
    · rfl
  · rfl
def nameL (r : List Int) : List Int := nameF' ⟨0, 0, r, []⟩ 0 r.length
theorem name_local (t : Txt) {f u : Int} (h0 : 0 ≤ f) (h1 : f ≤ u) (h2 : u ≤ t.r.length) : nameL ((t.r.drop f.toNat).take (u - f).toNat) = nameF' t f u := by
  obtain ⟨s, hs⟩ : ∃ s, s = (t.r.drop f.toNat).take (u - f).toNat := ⟨_, rfl⟩
  have hsl : (s.length : Int) = u - f := by rw [hs, List.length_take, List.length_drop]; omega
  have hs2 : (t.r.take u.toNat).drop f.toNat = s := by rw [hs, List.drop_take]; congr 1; omega
  have e1 : partsF s 0 s.length = partsGo 0 true s := by
    unfold partsF
    rw [Int.toNat_natCast, List.take_length]; rfl
  have e2 : partsF t.r f u = (partsGo 0 true s).map (shP f) := by
    unfold partsF
    rw [hs2]
    have := partsGo_sh f s.length s 0 true (Nat.le_refl _)
    rw [Int.zero_add] at this
    exact this
  rw [← hs]
  unfold nameL nameF' readF
  rw [e1, e2, readP_nm, readP_nm, takes_sh]
  obtain ⟨ps, hps⟩ : ∃ ps, ps = partsGo 0 true s := ⟨_, rfl⟩
  rw [← hps]
  split
  · rename_i ht
    have hl := ((takes_iff (Nat.zero_le _)).1 ht).1
    have hl : 2 ≤ ps.length := by simpa using hl
    have hin : ∀ x ∈ ps, _ := fun x hx => partsGo_in s s.length s 0 true (Nat.le_refl _) x (by rw [← hps]; exact hx)
    rw [List.getElem?_map, List.getElem?_eq_getElem (show 1 < ps.length by omega)]
    have hp := hin ps[1] (List.getElem_mem _)
    show (s.drop ps[1].from_.toNat).take (ps[1].to - ps[1].from_).toNat = (t.r.drop (ps[1].from_ + f).toNat).take ((ps[1].to + f) - (ps[1].from_ + f)).toNat
    rw [hs, List.drop_take, List.drop_drop, List.take_take, show (ps[1].from_ + f).toNat = f.toNat + ps[1].from_.toNat by omega, show min (ps[1].to - ps[1].from_).toNat ((u - f).toNat - ps[1].from_.toNat) = ((ps[1].to + f) - (ps[1].from_ + f)).toNat by omega]
  · rfl
theorem name_lead (t : Txt) {f u : Int} (h0 : 0 ≤ f) (h1 : f ≤ u) (h2 : u ≤ t.r.length) (hne : nameF' t f u ≠ []) : f + 2 ≤ u ∧ ∃ r0 rs, nameF' t f u = r0 :: rs ∧ isNameStart r0 = true := by
  obtain ⟨s, hs⟩ : ∃ s, s = (t.r.drop f.toNat).take (u - f).toNat := ⟨_, rfl⟩
  have hsl : (s.length : Int) = u - f := by rw [hs, List.length_take, List.length_drop]; omega
  have hloc := name_local t h0 h1 h2
  rw [← hs] at hloc
  rw [← hloc] at hne ⊢
  have e1 : partsF s 0 s.length = partsGo 0 true s := by
    unfold partsF
    rw [Int.toNat_natCast, List.take_length]; rfl
  have en : nameL s = (s.drop (readP (partsGo 0 true s)).name.from_.toNat).take ((readP (partsGo 0 true s)).name.to - (readP (partsGo 0 true s)).name.from_).toNat := by
    have e2 : readF s 0 s.length = readP (partsGo 0 true s) := by rw [readF, e1]
    show (s.drop (readF s 0 s.length).name.from_.toNat).take ((readF s 0 s.length).name.to - (readF s 0 s.length).name.from_).toNat = _
    rw [e2]
  rw [readP_nm] at en
  split at en
  · rename_i ht
    have ht2 := (takes_iff (Nat.zero_le _)).1 ht
    have hl : 2 ≤ (partsGo 0 true s).length := by simpa using ht2.1
    have hk2 : ((partsGo 0 true s)[1]?.getD tpart0).kind = 2 := ht2.2 1 (by decide)
    have hs0 : s ≠ [] := by
      intro h
      rw [h, partsGo, dif_pos rfl] at hl
      simp at hl
    have hn0 := tpiece_n s true hs0
    rw [partsGo_cons hs0] at hl hk2 en
    obtain ⟨x, hx⟩ : ∃ x, x = s.drop (tpieceF s true).2.toNat := ⟨_, rfl⟩
    rw [← hx] at hl hk2 en
    have hx0 : x ≠ [] := by
      intro h
      rw [h, partsGo, dif_pos rfl] at hl
      simp at hl
    have hn1 := tpiece_n x false hx0
    rw [partsGo_cons hx0] at hk2 en
    have hk2 : (tpieceF x false).1 = 2 := hk2
    have en : nameL s = (s.drop (0 + (tpieceF s true).2).toNat).take ((0 + (tpieceF s true).2 + (tpieceF x false).2) - (0 + (tpieceF s true).2)).toNat := en
    rw [show (0 + (tpieceF s true).2).toNat = (tpieceF s true).2.toNat by omega, ← hx, show ((0 + (tpieceF s true).2 + (tpieceF x false).2) - (0 + (tpieceF s true).2)).toNat = (tpieceF x false).2.toNat by omega] at en
    have hxl : x.length = s.length - (tpieceF s true).2.toNat := by rw [hx, List.length_drop]
    have hlead : 0 < leadF x 0 := by
      unfold tpieceF at hk2
      rw [if_neg (by simp), if_neg (by simp)] at hk2
      split at hk2
      · simp at hk2
      · split at hk2
        · rename_i h; omega
        · split at hk2
          · simp at hk2
          · split at hk2
            · simp at hk2
            · split at hk2 <;> simp at hk2
    obtain ⟨r0, rs, rfl⟩ := List.exists_cons_of_ne_nil hx0
    have hst : isNameStart r0 = true := by
      by_cases hq : isNameStart r0 = true
      · exact hq
      · have : leadF (r0 :: rs) 0 = 0 := by show (if isNameStart r0 then _ else 0) = 0; rw [if_neg hq]
        omega
    refine ⟨by simp only [List.length_cons] at hxl; omega, r0, rs.take ((tpieceF (r0 :: rs) false).2.toNat - 1), ?_, hst⟩
    rw [en]
    obtain ⟨q, hq⟩ : ∃ q, (tpieceF (r0 :: rs) false).2.toNat = q + 1 := ⟨_, (Nat.sub_add_cancel (by omega)).symm⟩
    rw [hq]; rfl
  · exact absurd en (by intro h; rw [h] at hne; exact hne rfl)
end Go.Proofs.YtcmjijpofkoogaaGreat
