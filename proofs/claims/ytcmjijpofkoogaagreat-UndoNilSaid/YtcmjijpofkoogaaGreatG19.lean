/- Lemmas, conditions told -/
import Derived.Test.YtcmjijpofkoogaaGreatG18
set_option linter.unusedSimpArgs false
set_option linter.unusedVariables false
namespace Go.Proofs.YtcmjijpofkoogaaGreat
open Go.RowKit Go.Lib
def stAn (t : Txt) (b : List UInt8) (k f u : Int) (N D S : List AV) : List AV := nodesA (startF' t b k f u (mkB N D S)).n
def stAd (t : Txt) (b : List UInt8) (k f u : Int) (N D S : List AV) : List AV := dgsA (startF' t b k f u (mkB N D S)).d
def stAs (t : Txt) (b : List UInt8) (k f u : Int) (N D S : List AV) : List AV := opnsA (startF' t b k f u (mkB N D S)).s
def enAn (t : Txt) (b : List UInt8) (k f u : Int) (N D S : List AV) : List AV := nodesA (endF' t b k f u (mkB N D S)).n
def enAd (t : Txt) (b : List UInt8) (k f u : Int) (N D S : List AV) : List AV := dgsA (endF' t b k f u (mkB N D S)).d
def enAs (t : Txt) (b : List UInt8) (k f u : Int) (N D S : List AV) : List AV := opnsA (endF' t b k f u (mkB N D S)).s
def csTk (p : Pr) (nm : Int → Int → List AV) (wr : Int → Int → Int → List AV → List AV) (lf : Int → Int → Int → List AV → List AV) (kd : Int → List AV → List AV) (sn sd ss en ed es : Int → Int → Int → List AV → List AV → List AV → List AV) (rk rf ru : Int → Int → Int) (ra : Int → Int → List AV) (rr re : Int → Int → Bool) : Nat → List AV → List Ob → Option (AV × List Ob) := fun f args ob => match f, args with
  | 21, [.slc 1 _, .val (.int .i64 f), .val (.int .i64 u)] => some (.agg [.val (.int .i64 (rk f u)), .val (.int .i64 (rf f u)), .val (.int .i64 (ru f u)), .slc 9 (ra f u), .val (.bool (rr f u)), .val (.bool (re f u))], [])
  | 181, [.box 0 0, .agg [_, .val (.int .i64 f), .val (.int .i64 u), _]] => some (.slc 1 (nm f u), ob)
  | 180, [.box 0 0, .val (.int .i64 c), .val (.int .i64 f), .val (.int .i64 u)] => withM ob fun b k m r o rt N D S => some (.tup [], obM 1 b k m r o rt N (wr c f u D) S)
  | 184, [.box 0 0, .agg [.val (.int .i64 kind), .val (.int .i64 f), .val (.int .i64 u), _]] => withM ob fun b k m r o rt N D S => some (.val (.int .i64 (p.len N)), obM 1 b k m r o rt (lf kind f u N) D S)
  | 80, [.box 0 0, .val (.int .i64 n)] => withM ob fun b k m r o rt N D S => some (.tup [], obM 1 b k m r o rt N D (kd n S))
  | 182, [.box 0 0, .agg [.val (.int .i64 kind), .val (.int .i64 f), .val (.int .i64 u), _]] => withM ob fun b k m r o rt N D S => some (.tup [], obM 1 b k m r o rt (sn kind f u N D S) (sd kind f u N D S) (ss kind f u N D S))
  | 183, [.box 0 0, .agg [.val (.int .i64 kind), .val (.int .i64 f), .val (.int .i64 u), _]] => withM ob fun b k m r o rt N D S => some (.tup [], obM 1 b k m r o rt (en kind f u N D S) (ed kind f u N D S) (es kind f u N D S))
  | _, _ => none
theorem wr_n (t : Txt) (c f u : Int) (m : Mk) : (wrongF t c f u m).n = m.n := rfl
theorem wr_s (t : Txt) (c f u : Int) (m : Mk) : (wrongF t c f u m).s = m.s := rfl
theorem wr_d (t : Txt) (c f u : Int) (m : Mk) : (wrongF t c f u m).d = m.d ++ [⟨offA t f, offA t u, c⟩] := rfl
theorem nm_len (t : Txt) (f u : Int) : (nmA t f u).length = (nameF' t f u).length := runes_len _
theorem stAn_eq (t : Txt) (b : List UInt8) (k f u : Int) (m : Mk) : stAn t b k f u (nodesA m.n) (dgsA m.d) (opnsA m.s) = nodesA (startF' t b k f u m).n := by rw [stAn, mk_back]
theorem stAn_wr (t : Txt) (b : List UInt8) (k f u c : Int) (m : Mk) : stAn t b k f u (nodesA m.n) (dgsA (m.d ++ [⟨offA t f, offA t u, c⟩])) (opnsA m.s) = nodesA (startF' t b k f u (wrongF t c f u m)).n := stAn_eq t b k f u (wrongF t c f u m)
theorem stAd_eq (t : Txt) (b : List UInt8) (k f u : Int) (m : Mk) : stAd t b k f u (nodesA m.n) (dgsA m.d) (opnsA m.s) = dgsA (startF' t b k f u m).d := by rw [stAd, mk_back]
theorem stAd_wr (t : Txt) (b : List UInt8) (k f u c : Int) (m : Mk) : stAd t b k f u (nodesA m.n) (dgsA (m.d ++ [⟨offA t f, offA t u, c⟩])) (opnsA m.s) = dgsA (startF' t b k f u (wrongF t c f u m)).d := stAd_eq t b k f u (wrongF t c f u m)
theorem stAs_eq (t : Txt) (b : List UInt8) (k f u : Int) (m : Mk) : stAs t b k f u (nodesA m.n) (dgsA m.d) (opnsA m.s) = opnsA (startF' t b k f u m).s := by rw [stAs, mk_back]
theorem stAs_wr (t : Txt) (b : List UInt8) (k f u c : Int) (m : Mk) : stAs t b k f u (nodesA m.n) (dgsA (m.d ++ [⟨offA t f, offA t u, c⟩])) (opnsA m.s) = opnsA (startF' t b k f u (wrongF t c f u m)).s := stAs_eq t b k f u (wrongF t c f u m)
theorem enAn_eq (t : Txt) (b : List UInt8) (k f u : Int) (m : Mk) : enAn t b k f u (nodesA m.n) (dgsA m.d) (opnsA m.s) = nodesA (endF' t b k f u m).n := by rw [enAn, mk_back]
theorem enAn_wr (t : Txt) (b : List UInt8) (k f u c : Int) (m : Mk) : enAn t b k f u (nodesA m.n) (dgsA (m.d ++ [⟨offA t f, offA t u, c⟩])) (opnsA m.s) = nodesA (endF' t b k f u (wrongF t c f u m)).n := enAn_eq t b k f u (wrongF t c f u m)
theorem enAd_eq (t : Txt) (b : List UInt8) (k f u : Int) (m : Mk) : enAd t b k f u (nodesA m.n) (dgsA m.d) (opnsA m.s) = dgsA (endF' t b k f u m).d := by rw [enAd, mk_back]
theorem enAd_wr (t : Txt) (b : List UInt8) (k f u c : Int) (m : Mk) : enAd t b k f u (nodesA m.n) (dgsA (m.d ++ [⟨offA t f, offA t u, c⟩])) (opnsA m.s) = dgsA (endF' t b k f u (wrongF t c f u m)).d := enAd_eq t b k f u (wrongF t c f u m)
theorem enAs_eq (t : Txt) (b : List UInt8) (k f u : Int) (m : Mk) : enAs t b k f u (nodesA m.n) (dgsA m.d) (opnsA m.s) = opnsA (endF' t b k f u m).s := by rw [enAs, mk_back]
theorem enAs_wr (t : Txt) (b : List UInt8) (k f u c : Int) (m : Mk) : enAs t b k f u (nodesA m.n) (dgsA (m.d ++ [⟨offA t f, offA t u, c⟩])) (opnsA m.s) = opnsA (endF' t b k f u (wrongF t c f u m)).s := enAs_eq t b k f u (wrongF t c f u m)
theorem lk_n (t : Txt) (b : List UInt8) (k f u : Int) (m : Mk) : (lkF t b k f u m).n = m.n ++ [leafF k (sliceF t b f u)] := rfl
theorem lk_d (t : Txt) (b : List UInt8) (k f u : Int) (m : Mk) : (lkF t b k f u m).d = m.d := rfl
theorem lk_s (t : Txt) (b : List UInt8) (k f u : Int) (m : Mk) : (lkF t b k f u m).s = kidS m.n.length m.s := rfl
set_option maxRecDepth 20000 in
set_option maxHeartbeats 2000000 in
theorem token_b (t : Txt) (b : List UInt8) (hs : Sml t b) (rt : Int) (m : Mk) (X : List UInt8) (B D : Nat) (iv : MkInv m X B D) (hB : B ≤ 700000) (hD : D ≤ 700000) (hX : X.length ≤ 1000000) (kind f u : Int) (wh : Bool) (hi : InT t f u) :
    BCall Tryz.prog 121 [.box 0 0, .agg [.val (.int .i64 kind), .val (.int .i64 f), .val (.int .i64 u), .val (.bool wh)]] (obT 0 t b rt m) (.tup []) (obT 1 t b rt (tokenF t b kind f u wh m)) := by
  have cR := Read_b t.r hs.hr f u hi.h0 hi.h1 hi.h2
  have hoff := hi.off hs
  have ok := iv.ok (by omega) (by omega)
  have hdl := ok.d
  have cW := fun c => wrong_b t b rt m (by omega) c f u hoff.1 hoff.2
  have key : ∀ (m1 : Mk) (D1 : Nat), MkInv m1 X B D1 → D1 ≤ 700001 →
      BCall Tryz.prog 181 [.box 0 0, .agg [.val (.int .i64 kind), .val (.int .i64 f), .val (.int .i64 u), .val (.bool wh)]] (obT 0 t b rt m1) (.slc 1 (nmA t f u)) (obT 0 t b rt m1) ∧
      (nameF' t f u ≠ [] → BCall Tryz.prog 182 [.box 0 0, .agg [.val (.int .i64 kind), .val (.int .i64 f), .val (.int .i64 u), .val (.bool wh)]] (obT 0 t b rt m1) (.tup []) (obT 1 t b rt (startF' t b kind f u m1))) ∧
      BCall Tryz.prog 183 [.box 0 0, .agg [.val (.int .i64 kind), .val (.int .i64 f), .val (.int .i64 u), .val (.bool wh)]] (obT 0 t b rt m1) (.tup []) (obT 1 t b rt (endF' t b kind f u m1)) ∧
      BCall Tryz.prog 184 [.box 0 0, .agg [.val (.int .i64 kind), .val (.int .i64 f), .val (.int .i64 u), .val (.bool wh)]] (obT 0 t b rt m1) (.val (.int .i64 m1.n.length)) (obT 1 t b rt (mleafF t b kind f u m1)) ∧
      BCall Tryz.prog 80 [.box 0 0, .val (.int .i64 m1.n.length)] (obT 0 t b rt (mleafF t b kind f u m1)) (.tup []) (obT 1 t b rt (lkF t b kind f u m1)) := fun m1 D1 iv1 hD1 => by
    have ok1 := iv1.ok (by omega) (by omega)
    exact ⟨name_b t b hs.hr rt m1 kind f u wh hi.h0 hi.h1 hi.h2, fun hne => start_b t b hs rt m1 ok1 kind f u wh hi hne, end_b t b hs rt m1 X B D1 iv1 (by omega) (by omega) hX kind f u wh hi,
      leaf_b t b hs.hb hs.ok hs.hr rt m1 (by have := ok1.n; omega) kind f u wh hi.h0 hi.h1 hi.h2,
      kid_b t b rt (mleafF t b kind f u m1) ok1.s1 (by have := ok1.s; show m1.s.length ≤ _; omega) (by have := ok1.top; show (topF m1.s).kids.length ≤ _; omega) m1.n.length⟩
  obtain ⟨n0, s0, e0, l0, k0⟩ := key m D iv (by omega)
  obtain ⟨n1, s1, e1, l1, k1⟩ := key _ _ (inv_wrong iv t 1 f u) (by omega)
  obtain ⟨n2, s2, e2, l2, k2⟩ := key _ _ (inv_wrong iv t 2 f u) (by omega)
  have w1 := cW 1
  have w2 := cW 2
  clear key cW hoff hdl
  unfold obT obM
  refine fnN (csTk std (nmA t) (wrA t) (lfT t b) kdA (stAn t b) (stAd t b) (stAs t b) (enAn t b) (enAd t b) (enAs t b) (rdk t.r) (rdf t.r) (rdu t.r) (rda t.r) (rdr t.r) (rde t.r)) Tryz.func121 rfl fun _ _ => ?_
  generalize hrk : rdk t.r = rk
  generalize hrf : rdf t.r = rf
  generalize hru : rdu t.r = ru
  generalize hra : rda t.r = ra
  generalize hrr : rdr t.r = rr
  generalize hre : rde t.r = re
  generalize hN : nodesA m.n = N
  generalize hD' : dgsA m.d = D'
  generalize hS : opnsA m.s = S
  generalize hB' : bytesA b = B'
  generalize hR : runesA t.r = R
  generalize hO : intsA t.off = O
  generalize hK : t.kind = K
  generalize hM : t.bom = M
  with_reducible refine cv10 (nmA t) (wrA t) (lfT t b) kdA (stAn t b) (stAd t b) (stAs t b) (enAn t b) (enAd t b) (enAs t b) ?_
  subst hrk hrf hru hra hrr hre hN hD' hS hB' hR hO hK hM
  simp only [obT, obM, mleafF, addF, wr_n, wr_s, wr_d, lk_n, lk_d, lk_s, kidF] at n0 s0 e0 l0 k0 n1 s1 e1 l1 k1 n2 s2 e2 l2 k2 w1 w2
  simp only [std, lfT_eq, wrA_eq, kdA_eq, nodes_len, stAn_eq, stAd_eq, stAs_eq, enAn_eq, enAd_eq, enAs_eq, stAn_wr, stAd_wr, stAs_wr, enAn_wr, enAd_wr, enAs_wr, beq_iff_eq, beq_eq_false_iff_ne, decide_eq_true_eq, decide_eq_false_iff_not, nm_len, rdr, Bool.not_eq_true', Bool.not_eq_false', Int.natCast_pos]
  have hne : 0 < (nameF' t f u).length → nameF' t f u ≠ [] := fun h e => by rw [e] at h; exact absurd h (by decide)
  repeat' first
    | (with_reducible apply And.intro)
    | (with_reducible intro hh)
  all_goals first
    | (exfalso; omega)
    | exact w1
    | exact w2
    | exact cR
    | exact n0
    | exact n1
    | exact n2
    | exact e0
    | exact e1
    | exact e2
    | exact l0
    | exact l1
    | exact l2
    | exact k0
    | exact k1
    | exact k2
    | exact s0 (hne (by assumption))
    | exact s1 (hne (by assumption))
    | exact s2 (hne (by assumption))
    | skip
  all_goals clear n0 s0 e0 l0 k0 n1 s1 e1 l1 k1 n2 s2 e2 l2 k2 w1 w2 cR iv ok hi hs hne
  all_goals first
    | (exfalso; simp_all; done)
    | (refine ⟨[some 0, some 1, some 2, some 3, some 4, some 5], .tup [], _, rfl, rfl, Nat.le_of_ble_eq_true rfl, rfl, ?_, trivial⟩
       simp [AllEq, tokenF, lk_n, lk_d, lk_s, wr_n, wr_s, wr_d, *])
end Go.Proofs.YtcmjijpofkoogaaGreat
