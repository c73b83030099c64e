/- Lemmas, conditions told -/
import Derived.Test.YtaklahcbeldbhaaGreatDoorZR20
import Derived.Test.YtaklahcbeldbhaaGreatDoorZR10
import Derived.Test.YtaklahcbeldbhaaGreatDoorZR13
import Derived.Test.YtaklahcbeldbhaaGreatDoorZR14
set_option linter.unusedSimpArgs false
set_option linter.unusedVariables false
namespace Go.Proofs.YtaklahcbeldbhaaGreatDoor
open Go.RowKit Go.Lib
section
variable {w w' : World} {A' : Nat → Nat → Prop}
end
def zeroE : List AV := [.opt (.val (.pointer none)), .val (.int .i64 0), .val (.int .i64 0), .val (.int .i64 0), .opt (.val (.pointer none))]
theorem Down_noE (l : List Node) (c : Cur) (k : Int) (hk : ¬ (0 ≤ k ∧ k < (kidsAt l c).length)) (hn : (kidsAt l c).length ≤ 1000000) : BCall Tryz.prog 49 [.agg (c.el (nodesA l)), .val (.int .i64 k)] [] (.tup [.agg zeroE, .val (.bool false)]) [] :=
  ((Down_no l c k hk hn).le (args := [.agg (c.el (nodesA l)), .val (.int .i64 k)]) ⟨⟨.inr (.inr (.inr rfl)), .inl rfl, .inl rfl, .inl rfl, .inl rfl, trivial⟩, .inl rfl, trivial⟩).res (res' := .tup [.agg zeroE, .val (.bool false)]) ⟨⟨.inr (.inr (.inl ⟨rfl, trivial⟩)), .inl rfl, .inl rfl, .inl rfl, .inr (.inr (.inl ⟨rfl, trivial⟩)), trivial⟩, .inl rfl, trivial⟩
def dOk (l : List Node) (c : Cur) (k : Int) : Bool := decide (0 ≤ k ∧ k < (kidsAt l c).length)
def pE (l : List Node) (c : Cur) (k : Int) : AV := if dOk l c k = true then .ref [.slc 6 (nodesA l)] else .val (.pointer none)
def nE (l : List Node) (c : Cur) (k : Int) : Int := if dOk l c k = true then (downC l c k).n else 0
def fE (l : List Node) (c : Cur) (k : Int) : Int := if dOk l c k = true then (downC l c k).f else 0
def kE (l : List Node) (c : Cur) (k : Int) : Int := if dOk l c k = true then k else 0
def uE (l : List Node) (c : Cur) (k : Int) : AV := if dOk l c k = true then upO (nodesA l) (downC l c k) else .val (.pointer none)
def dE (l : List Node) (c : Cur) (k : Int) : List AV := [.opt (pE l c k), .val (.int .i64 (nE l c k)), .val (.int .i64 (fE l c k)), .val (.int .i64 (kE l c k)), .opt (uE l c k)]
theorem dE_in {l : List Node} {c : Cur} {k : Int} (h : dOk l c k = true) : dE l c k = (downC l c k).el (nodesA l) := by
  unfold dE pE nE fE kE uE
  rw [if_pos h, if_pos h, if_pos h, if_pos h, if_pos h]; rfl
theorem dE_out {l : List Node} {c : Cur} {k : Int} (h : dOk l c k = false) : dE l c k = zeroE := by
  unfold dE pE nE fE kE uE
  rw [h]; rfl
theorem Down_E (l : List Node) (c : Cur) (k : Int) (hw : ∀ n, 0 ≤ widthN l n) (ok : CurOk l c) : BCall Tryz.prog 49 [.agg (c.el (nodesA l)), .val (.int .i64 k)] [] (.tup [.agg (dE l c k), .val (.bool (dOk l c k))]) [] := by
  by_cases h : 0 ≤ k ∧ k < (kidsAt l c).length
  · have ho : dOk l c k = true := decide_eq_true h
    rw [dE_in ho, ho]; exact Down_el l c k h.1 h.2 hw ok
  · have ho : dOk l c k = false := decide_eq_false h
    rw [dE_out ho, ho]; exact Down_noE l c k h ok.n
def csBs (q : AV) (n f k : Int) (u : AV) (ok : Bool) : Nat → List AV → List Ob → Option (AV × List Ob) := fun g args _ => match g, args with
  | 49, _ => some (.tup [.agg [.opt q, .val (.int .i64 n), .val (.int .i64 f), .val (.int .i64 k), .opt u], .val (.bool ok)], [])
  | 80, _ => some (.tup [.agg [.opt q, .val (.int .i64 n), .val (.int .i64 f), .val (.int .i64 k), .opt u], .val (.bool ok)], [])
  | _, _ => none
set_option maxRecDepth 20000 in
set_option maxHeartbeats 1000000 in
theorem Beside_b (l : List Node) (hw : ∀ n, 0 ≤ widthN l n) (n f k d : Int) (u : Cur) (ok : CurOk l u) (hk : 0 ≤ k ∧ k ≤ 1000000) (hd : -1000 ≤ d ∧ d ≤ 1000) :
    BCall Tryz.prog 80 [.agg ((Cur.kid n f k u).el (nodesA l)), .val (.int .i64 d)] [] (.tup [.agg (dE l u (k + d)), .val (.bool (dOk l u (k + d)))]) [] := by
  have cD := Down_E l u (k + d) hw ok
  unfold dE at cD ⊢
  simp only [Cur.el] at cD ⊢
  show BCall _ _ [.agg [.opt (.ref [.slc 6 (nodesA l)]), .val (.int .i64 n), .val (.int .i64 f), .val (.int .i64 k), .opt (upO (nodesA l) (Cur.kid n f k u))], _] _ _ _
  obtain ⟨U, hU⟩ : ∃ U, U = upO (nodesA l) (Cur.kid n f k u) := ⟨_, rfl⟩
  have hU1 : prfOf U = u.cs (nodesA l) := by rw [hU]; rfl
  have hU2 : isPtr U ∧ isNil U = false := by rw [hU]; exact ⟨trivial, rfl⟩
  rw [← hU]
  refine fnN (csBs (pE l u (k + d)) (nE l u (k + d)) (fE l u (k + d)) (kE l u (k + d)) (uE l u (k + d)) (dOk l u (k + d))) Tryz.func80 rfl fun _ _ => ?_
  with_reducible refine cv7 (pE l u (k + d)) (nE l u (k + d)) (fE l u (k + d)) (kE l u (k + d)) (uE l u (k + d)) (dOk l u (k + d)) (nodesA l) ?_
  refine ⟨fun h => absurd (hU2.2.symm.trans (show isNil U = true from h)) (by decide), fun _ => ?_⟩
  have hu2 : isPtr (.opt (upO (nodesA l) u)) := upO_ptr _ _
  simp only [std, hU1, Cur.cs, List.getD_cons_zero, List.getD_cons_succ, RowKit.intOf, unoA, allP]
  refine ⟨hU2, ⟨trivial, trivial, trivial, trivial, hu2, trivial⟩, ?_, cD, .pure rfl ⟨⟨.inl rfl, .inl rfl, .inl rfl, .inl rfl, .inl rfl, trivial⟩, .inl rfl, trivial⟩⟩
  show (-9223372036854775808 : Int) ≤ k + d ∧ k + d ≤ (9223372036854775807 : Int)
  omega
theorem NextC_b (l : List Node) (hw : ∀ n, 0 ≤ widthN l n) (n f k : Int) (u : Cur) (ok : CurOk l u) (hk : 0 ≤ k ∧ k ≤ 1000000) :
    BCall Tryz.prog 50 [.agg ((Cur.kid n f k u).el (nodesA l))] [] (.tup [.agg (dE l u (k + 1)), .val (.bool (dOk l u (k + 1)))]) [] := by
  have cB := Beside_b l hw n f k 1 u ok hk (by omega)
  unfold dE at cB ⊢
  simp only [Cur.el] at cB ⊢
  show BCall _ _ [.agg [.opt (.ref [.slc 6 (nodesA l)]), .val (.int .i64 n), .val (.int .i64 f), .val (.int .i64 k), .opt (upO (nodesA l) (Cur.kid n f k u))]] _ _ _
  have cB : BCall Tryz.prog 80 [.agg [.opt (.ref [.slc 6 (nodesA l)]), .val (.int .i64 n), .val (.int .i64 f), .val (.int .i64 k), .opt (upO (nodesA l) (Cur.kid n f k u))], .val (.int .i64 1)] [] (.tup [.agg [.opt (pE l u (k + 1)), .val (.int .i64 (nE l u (k + 1))), .val (.int .i64 (fE l u (k + 1))), .val (.int .i64 (kE l u (k + 1))), .opt (uE l u (k + 1))], .val (.bool (dOk l u (k + 1)))]) [] := cB
  obtain ⟨U, hU⟩ : ∃ U, U = upO (nodesA l) (Cur.kid n f k u) := ⟨_, rfl⟩
  rw [← hU] at cB ⊢
  clear hU
  refine fnN (csBs (pE l u (k + 1)) (nE l u (k + 1)) (fE l u (k + 1)) (kE l u (k + 1)) (uE l u (k + 1)) (dOk l u (k + 1))) Tryz.func50 rfl fun _ _ => ?_
  with_reducible refine cv7 (pE l u (k + 1)) (nE l u (k + 1)) (fE l u (k + 1)) (kE l u (k + 1)) (uE l u (k + 1)) (dOk l u (k + 1)) (nodesA l) ?_
  exact ⟨cB, .pure rfl ⟨⟨.inl rfl, .inl rfl, .inl rfl, .inl rfl, .inl rfl, trivial⟩, .inl rfl, trivial⟩⟩
structure Ev where
  do_ : Int
  kind : Int
  b : List UInt8
  deriving Inhabited, DecidableEq
def Ev.av (x : Ev) : AV := if x.do_ = 2 then .agg [.val (.int .i64 2), .val (.int .i64 x.kind), .slc 1 (bytesA x.b)] else .agg [.val (.int .i64 x.do_), .val (.int .i64 0), .val (.slice none 0 0)]
def nxt (k : Int) : Int := k + 1
end Go.Proofs.YtaklahcbeldbhaaGreatDoor
namespace Go.Proofs.YtaklahcbeldbhaaGreatDoor
open Go.RowKit Go.Lib
def oP (N : List AV) : Option Cur → AV
  | some _ => .ref [.slc 6 N]
  | none => .val (.pointer none)
def oN : Option Cur → Int
  | some c => c.n
  | none => 0
def oF : Option Cur → Int
  | some c => c.f
  | none => 0
def oK : Option Cur → Int
  | some c => c.k
  | none => 0
def oU (N : List AV) : Option Cur → AV
  | some c => upO N c
  | none => .val (.pointer none)
def oC (N : List AV) (o : Option Cur) : List AV := [.opt (oP N o), .val (.int .i64 (oN o)), .val (.int .i64 (oF o)), .val (.int .i64 (oK o)), .opt (oU N o)]
def isEl (l : List Node) (n : Int) : Bool := kindN l n == 21 || kindN l n == 9
def nthEl (l : List Node) : List Int → Int → Int → Option Int
  | [], _, _ => none
  | x :: r, n, i => if isEl l x = true then (if n = 0 then some i else nthEl l r (n - 1) (i + 1)) else nthEl l r n (i + 1)
def stepO (l : List Node) (c : Cur) (n : Int) : Option Cur := (nthEl l (kidsAt l c) n 0).map (downC l c)
def elemO (l : List Node) : Option Cur → List Int → Option Cur
  | o, [] => o
  | none, _ :: _ => none
  | some c, n :: r => if n < 0 then none else elemO l (stepO l c n) r
def csPaE (kd : Int → Int) : Nat → List AV → List Ob → Option (AV × List Ob) := fun f args _ => match f, args with
  | 53, [.agg [_, .val (.int .i64 n), _, _, _]] => some (.val (.int .i64 (kd n)), [])
  | _, _ => none
theorem CKind_el (l : List Node) (c : Cur) : BCall Tryz.prog 53 [.agg (c.el (nodesA l))] [] (.val (.int .i64 (kindN l c.n))) [] :=
  (CKind_b l c).le (args := [.agg (c.el (nodesA l))]) ⟨⟨.inr (.inr (.inr rfl)), .inl rfl, .inl rfl, .inl rfl, .inl rfl, trivial⟩, trivial⟩
theorem element_b (l : List Node) (c : Cur) : BCall Tryz.prog 51 [.agg (c.el (nodesA l))] [] (.val (.bool (isEl l c.n))) [] := by
  have cK := CKind_el l c
  obtain ⟨cn, hcn⟩ : ∃ x, x = c.n := ⟨_, rfl⟩
  obtain ⟨cf, hcf⟩ : ∃ x, x = c.f := ⟨_, rfl⟩
  obtain ⟨ck, hck⟩ : ∃ x, x = c.k := ⟨_, rfl⟩
  simp only [Cur.el] at cK ⊢
  rw [← hcn, ← hcf, ← hck] at cK ⊢
  obtain ⟨R, hR⟩ : ∃ R, R = isEl l cn := ⟨_, rfl⟩
  rw [← hR]
  have h1 : (kindN l cn == 21) = true → R = true := fun h => by rw [hR, isEl, h]; rfl
  have h2 : (kindN l cn == 21) = false → R = (kindN l cn == 9) := fun h => by rw [hR, isEl, h]; rfl
  clear hR
  refine fnN (csPaE (kindN l)) Tryz.func51 rfl fun _ _ => ?_
  with_reducible refine cv3 (kindN l) (upO (nodesA l) c) (nodesA l) ?_
  refine ⟨cK, fun h => ?_, fun h => ⟨cK, ?_⟩⟩
  · rw [h1 h]
    exact .pure rfl (.inl rfl)
  · rw [h2 h]
    exact .pure rfl (.inl rfl)
theorem nthEl_drop {l : List Node} {ks : List Int} {k m : Int} (h0 : 0 ≤ k) (h1 : k < ks.length) : nthEl l (ks.drop k.toNat) m k = if isEl l (ks[k.toNat]?.getD 0) = true then (if m = 0 then some k else nthEl l (ks.drop (k + 1).toNat) (m - 1) (k + 1)) else nthEl l (ks.drop (k + 1).toNat) m (k + 1) := by
  have hk : k.toNat < ks.length := by omega
  rw [List.drop_eq_getElem_cons hk, nthEl, List.getElem?_eq_getElem hk, show (k + 1).toNat = k.toNat + 1 by omega]; rfl
theorem nthEl_end {l : List Node} {ks : List Int} {k m : Int} (h : ks.length ≤ k) : nthEl l (ks.drop k.toNat) m k = none := by
  rw [List.drop_eq_nil_of_le (by omega)]; rfl
theorem oC_dE {l : List Node} {c : Cur} {k : Int} (h : dOk l c k = true) : oC (nodesA l) (some (downC l c k)) = dE l c k := by
  rw [dE_in h]; rfl
def csPaS (el : Int → Bool) (p0 : Int → AV) (n0 f0 k0 : Int → Int) (u0 : Int → AV) (ok : Int → Bool) (nx : Int → Int) : Nat → List AV → List Ob → Option (AV × List Ob) := fun g args _ => match g, args with
  | 51, [.agg [_, .val (.int .i64 n), _, _, _]] => some (.val (.bool (el n)), [])
  | 49, [.agg _, .val (.int .i64 k)] => some (.tup [.agg [.opt (p0 k), .val (.int .i64 (n0 k)), .val (.int .i64 (f0 k)), .val (.int .i64 (k0 k)), .opt (u0 k)], .val (.bool (ok k))], [])
  | 50, [.agg [_, _, _, .val (.int .i64 k), _]] => some (.tup [.agg [.opt (p0 (nx k)), .val (.int .i64 (n0 (nx k))), .val (.int .i64 (f0 (nx k))), .val (.int .i64 (k0 (nx k))), .opt (u0 (nx k))], .val (.bool (ok (nx k)))], [])
  | _, _ => none
set_option maxRecDepth 20000 in
set_option maxHeartbeats 4000000 in
theorem step_b (l : List Node) (b : List UInt8) (C : Nat) (ha : Ar l) (hb : b.length ≤ 1000000) (hC : C ≤ 1000000) (c : Cur) (hc : CurB l b C c) (n : Int) (hn0 : 0 ≤ n) (hn1 : n ≤ 9223372036854775807) :
    BCall Tryz.prog 29 [.agg (c.el (nodesA l)), .val (.int .i64 n)] [] (.tup [.agg (oC (nodesA l) (stepO l c n)), .val (.bool (stepO l c n).isSome)]) [] := by
  have hok := hc.1.ok ha (by omega) hC
  have cD := Down_E l c 0 ha.ok.w hok
  obtain ⟨z, hz⟩ := exLen (kidsAt l c)
  have hz9 : z ≤ 1000000 := by rw [hz.eq]; have := hok.n; omega
  have hin : ∀ k : Int, 0 ≤ k → k < z → dOk l c k = true := fun k h0 h1 => decide_eq_true ⟨h0, by rw [← hz.eq]; exact h1⟩
  have hout : ∀ k : Int, ¬ k < z → dOk l c k = false := fun k h1 => decide_eq_false fun h => h1 (by rw [hz.eq]; exact h.2)
  have hel : ∀ k : Int, 0 ≤ k → k < z → BCall Tryz.prog 51 [.agg (dE l c k)] [] (.val (.bool (isEl l (nE l c k)))) [] := fun k h0 h1 => by
    rw [dE_in (hin k h0 h1), nE, if_pos (hin k h0 h1)]
    exact element_b l _
  have hnext : ∀ k : Int, 0 ≤ k → k < z → BCall Tryz.prog 50 [.agg (dE l c k)] [] (.tup [.agg (dE l c (nxt (kE l c k))), .val (.bool (dOk l c (nxt (kE l c k))))]) [] := fun k h0 h1 => by
    rw [dE_in (hin k h0 h1), kE, if_pos (hin k h0 h1)]
    exact NextC_b l ha.ok.w _ _ k c hok ⟨h0, by omega⟩
  have hkE : ∀ k : Int, 0 ≤ k → k < z → nxt (kE l c k) = k + 1 := fun k h0 h1 => by rw [kE, if_pos (hin k h0 h1)]; rfl
  have hnE : ∀ k : Int, 0 ≤ k → k < z → nE l c k = (kidsAt l c)[k.toNat]?.getD 0 := fun k h0 h1 => by rw [nE, if_pos (hin k h0 h1)]; rfl
  obtain ⟨R, hR⟩ : ∃ R, R = nthEl l (kidsAt l c) n 0 := ⟨_, rfl⟩
  have hst : stepO l c n = R.map (downC l c) := by rw [hR]; rfl
  rw [hst]
  have hdrop : ∀ k m : Int, 0 ≤ k → k < z → nthEl l ((kidsAt l c).drop k.toNat) m k = if isEl l (nE l c k) = true then (if m = 0 then some k else nthEl l ((kidsAt l c).drop (k + 1).toNat) (m - 1) (k + 1)) else nthEl l ((kidsAt l c).drop (k + 1).toNat) m (k + 1) := fun k m h0 h1 => by
    rw [hnE k h0 h1]; exact nthEl_drop h0 (by rw [← hz.eq]; exact h1)
  have hdend : ∀ m : Int, nthEl l ((kidsAt l c).drop z.toNat) m z = none := fun m => nthEl_end (by rw [hz.eq]; exact Int.le_refl _)
  have hR0 : nthEl l ((kidsAt l c).drop (0 : Int).toNat) n 0 = R := by rw [hR]; rfl
  have hfit : ∀ k : Int, 0 ≤ k → k < z → R = some k → oC (nodesA l) (R.map (downC l c)) = dE l c k := fun k h0 h1 h => by rw [h]; exact oC_dE (hin k h0 h1)
  have hz0 : 0 ≤ z := by rw [hz.eq]; omega
  obtain ⟨nt, hnt⟩ : ∃ nt : Int → Int → Option Int, nt = fun k m => nthEl l ((kidsAt l c).drop k.toNat) m k := ⟨_, rfl⟩
  have hdrop : ∀ k m : Int, 0 ≤ k → k < z → nt k m = if isEl l (nE l c k) = true then (if m = 0 then some k else nt (k + 1) (m - 1)) else nt (k + 1) m := fun k m h0 h1 => by rw [hnt]; exact hdrop k m h0 h1
  have hdend : ∀ m : Int, nt z m = none := fun m => by rw [hnt]; exact hdend m
  have hR0 : nt 0 n = R := by rw [hnt]; exact hR0
  clear hR hst hnE
  obtain ⟨cn, hcn⟩ : ∃ x, x = c.n := ⟨_, rfl⟩
  obtain ⟨cf, hcf⟩ : ∃ x, x = c.f := ⟨_, rfl⟩
  obtain ⟨ck, hck⟩ : ∃ x, x = c.k := ⟨_, rfl⟩
  simp only [Cur.el, dE] at cD hel hnext hfit ⊢
  rw [← hcn, ← hcf, ← hck] at cD ⊢
  refine fnN (csPaS (isEl l) (pE l c) (nE l c) (fE l c) (kE l c) (uE l c) (dOk l c) nxt) Tryz.func29 rfl fun _ _ => ?_
  with_reducible refine cv10 (upO (nodesA l) c) (isEl l) (pE l c) (nE l c) (fE l c) (kE l c) (uE l c) (dOk l c) nxt (nodesA l) ?_
  refine ⟨cD, ?_⟩
  refine loopN (csPaS (isEl l) (pE l c) (nE l c) (fE l c) (kE l c) (uE l c) (dOk l c) nxt) (Int × Int) (fun x => ⟨[(1, .val (.int .i64 x.2)), (2, .box 0 0), (4, .box 1 0), (6, .box 2 0), (7, .val (.bool (dOk l c x.1)))], [.box [.opt (.ref [.slc 6 (nodesA l)]), .val (.int .i64 cn), .val (.int .i64 cf), .val (.int .i64 ck), .opt (upO (nodesA l) c)], .box zeroC, .box [.opt (pE l c x.1), .val (.int .i64 (nE l c x.1)), .val (.int .i64 (fE l c x.1)), .val (.int .i64 (kE l c x.1)), .opt (uE l c x.1)]]⟩) (fun x => 0 ≤ x.1 ∧ x.1 ≤ z ∧ n - x.1 ≤ x.2 ∧ x.2 ≤ n ∧ nt x.1 x.2 = R) (fun x => (z - x.1).toNat) (0, n) ?_ ?_ ?_
  · exact ⟨Int.le_refl 0, hz0, by show n - 0 ≤ n; omega, Int.le_refl n, hR0⟩
  · refine ⟨[some 0, some 1, some 2], _, rfl, ?_⟩
    exact eq0
  · rintro ⟨k, m⟩ ⟨hk0, hk1, hm0, hm1, hm⟩
    have hk0 : 0 ≤ k := hk0
    have hk1 : k ≤ z := hk1
    have hm0 : n - k ≤ m := hm0
    have hm1 : m ≤ n := hm1
    have hm : nt k m = R := hm
    with_reducible refine cv10 (upO (nodesA l) c) (isEl l) (pE l c) (nE l c) (fE l c) (kE l c) (uE l c) (dOk l c) nxt (nodesA l) ?_
    refine ⟨fun h => ?_, fun h => ?_⟩
    · have hkn : k < z := by
        by_cases h9 : k < z
        · exact h9
        · rw [hout k h9] at h; exact absurd h (by decide)
      have hx1 := hkE k hk0 hkn
      have cx := hnext k hk0 hkn
      rw [hx1] at cx
      rw [hx1]
      have hd := hdrop k m hk0 hkn
      rw [hm] at hd
      refine ⟨hel k hk0 hkn, fun h2 => ?_, fun h2 => ?_⟩
      · have h2 : (!isEl l (nE l c k)) = true := h2
        rw [if_neg (by rw [Bool.not_eq_true'] at h2; rw [h2]; decide)] at hd
        refine ⟨cx, (k + 1, m), ⟨by show 0 ≤ k + 1; omega, by show k + 1 ≤ z; omega, by show n - (k + 1) ≤ m; omega, hm1, hd.symm⟩, by show (z - (k + 1)).toNat < (z - k).toNat; omega, [some 0, some 1, some 3], _, rfl, ?_⟩
        exact eq0
      · have h2 : (!isEl l (nE l c k)) = false := h2
        rw [if_pos (by simpa using h2)] at hd
        refine ⟨fun h3 => ?_, fun h3 => ?_⟩
        · have h3 : (m == 0) = true := h3
          rw [if_pos (by simpa using h3)] at hd
          with_reducible refine cv10 (upO (nodesA l) c) (isEl l) (pE l c) (nE l c) (fE l c) (kE l c) (uE l c) (dOk l c) nxt (nodesA l) ?_
          have e9 := hfit k hk0 hkn hd
          rw [hd] at e9 ⊢
          rw [e9]
          exact .pure rfl ⟨⟨.inl rfl, .inl rfl, .inl rfl, .inl rfl, .inl rfl, trivial⟩, .inl rfl, trivial⟩
        · have h3 : (m == 0) = false := h3
          rw [if_neg (by simpa using h3)] at hd
          refine ⟨?_, cx, (k + 1, m - 1), ⟨by show 0 ≤ k + 1; omega, by show k + 1 ≤ z; omega, by show n - (k + 1) ≤ m - 1; omega, by show m - 1 ≤ n; omega, hd.symm⟩, by show (z - (k + 1)).toNat < (z - k).toNat; omega, [some 0, some 1, some 3], _, rfl, ?_⟩
          · show std.inR .i64 (m - 1)
            rw [inR64]; omega
          · exact eq0
    · have hkz : k = z := by
        by_cases h9 : k < z
        · rw [hin k hk0 h9] at h; exact absurd h (by decide)
        · omega
      have hRn : R = none := by rw [← hm, hkz]; exact hdend m
      rw [if_pos trivial]
      with_reducible refine cv10 (upO (nodesA l) c) (isEl l) (pE l c) (nE l c) (fE l c) (kE l c) (uE l c) (dOk l c) nxt (nodesA l) ?_
      rw [hRn]
      exact .pure rfl ⟨⟨.inr (.inr (.inl ⟨rfl, trivial⟩)), .inl rfl, .inl rfl, .inl rfl, .inr (.inr (.inl ⟨rfl, trivial⟩)), trivial⟩, .inl rfl, trivial⟩
end Go.Proofs.YtaklahcbeldbhaaGreatDoor
namespace Go.Proofs.YtaklahcbeldbhaaGreatDoor
open Go.RowKit Go.Lib
theorem nthEl_range {l : List Node} : ∀ (ks : List Int) (n i k : Int), nthEl l ks n i = some k → i ≤ k ∧ k < i + ks.length ∧ isEl l (ks[(k - i).toNat]?.getD 0) = true
  | [], _, _, _, h => by cases h
  | x :: r, n, i, k, h => by
    have up : ∀ m, nthEl l r m (i + 1) = some k → i ≤ k ∧ k < i + ((x :: r).length : Nat) ∧ isEl l ((x :: r)[(k - i).toNat]?.getD 0) = true := fun m h => by
      obtain ⟨h1, h2, h3⟩ := nthEl_range r m (i + 1) k h
      refine ⟨by omega, by rw [List.length_cons]; omega, ?_⟩
      rw [show (k - i).toNat = (k - (i + 1)).toNat + 1 by omega, List.getElem?_cons_succ]; exact h3
    rw [nthEl] at h
    split at h
    · rename_i he
      split at h
      · obtain rfl : i = k := by simpa using h
        exact ⟨Int.le_refl _, by rw [List.length_cons]; omega, by rw [Int.sub_self]; exact he⟩
      · exact up _ h
    · exact up _ h
theorem stepO_in {l : List Node} {b : List UInt8} {C : Nat} (ha : Ar l) (ho : ∀ x ∈ l, NodeOk x) {c c' : Cur} (hc : CurB l b C c) {n : Int} (h : stepO l c n = some c') : CurB l b C c' := by
  unfold stepO at h
  obtain ⟨k, h1, rfl⟩ := Option.map_eq_some_iff.1 h
  obtain ⟨h2, h3, _⟩ := nthEl_range _ _ _ _ h1
  have h0 : 0 ≤ k := h2
  have h3 : k < (kidsAt l c).length := by omega
  exact ⟨hc.1.down ha h0 h3, hc.2.down ha ho hc.1 h0 h3⟩
def csPaL (N : List AV) (rt : Int) (q : AV) (n f k : Int) (u : AV) (ok : Bool) : Nat → List AV → List Ob → Option (AV × List Ob) := fun g args _ => match g, args with
  | 30, [.agg _] => some (.agg [.ref [.slc 6 N], .val (.int .i64 rt), .val (.int .i64 0), .val (.int .i64 0), .opt (.val (.pointer none))], [])
  | 29, [.agg _, .val (.int .i64 _)] => some (.tup [.agg [.opt q, .val (.int .i64 n), .val (.int .i64 f), .val (.int .i64 k), .opt u], .val (.bool ok)], [])
  | _, _ => none
def nxO (l : List Node) (ls : List Int) (x : Int × Option Cur) : Option Cur := match x.2 with
  | some c => stepO l c (ls[x.1.toNat]?.getD 0)
  | none => none
def rowO (l : List Node) (o : Option Cur) : AV := oP (nodesA l) o
def uppO (l : List Node) (o : Option Cur) : AV := oU (nodesA l) o
def okO (o : Option Cur) : Bool := o.isSome
set_option maxRecDepth 20000 in
set_option maxHeartbeats 4000000 in
theorem Elem_b (t : Txt) (m : Mk) (l : List Node) (hl : (rootM m).n = l) (b : List UInt8) (C : Nat) (ha : Ar l) (ho : ∀ x ∈ l, NodeOk x) (hb : b.length ≤ 1000000) (hC : C ≤ 1000000) (hc : CurB l b C (.root m.n.length)) (ls : List Int) (hls : ls.length ≤ 1000000) (hmx : ∀ x ∈ ls, x ≤ 9223372036854775807) :
    BCall Tryz.prog 18 [treeA t m, .slc 1 (intsA ls)] [] (.tup [.agg (oC (nodesA l) (elemO l (stepO l (.root m.n.length) 0) ls)), .val (.bool (elemO l (stepO l (.root m.n.length) 0) ls).isSome)]) [] := by
  have cC := TCursor_b t m
  simp only [Cur.cs, Cur.n, Cur.f, Cur.k, upO] at cC
  have cS0 := step_b l b C ha hb hC (.root m.n.length) hc 0 (Int.le_refl 0) (by omega)
  obtain ⟨o0, ho0⟩ : ∃ o, o = stepO l (.root m.n.length) 0 := ⟨_, rfl⟩
  obtain ⟨R, hR⟩ : ∃ R, R = elemO l o0 ls := ⟨_, rfl⟩
  have hin0 : ∀ c, o0 = some c → CurB l b C c := fun c h => stepO_in ha ho hc (by rw [← ho0]; exact h)
  obtain ⟨rt, hrt⟩ : ∃ rt : Int, rt = m.n.length := ⟨_, rfl⟩
  have cS0 := cS0.le (args := [.agg ((Cur.root m.n.length).cs (nodesA l)), .val (.int .i64 0)]) ⟨⟨.inr (.inr (.inl ⟨rfl, trivial⟩)), .inl rfl, .inl rfl, .inl rfl, .inl rfl, trivial⟩, .inl rfl, trivial⟩
  rw [← ho0] at cS0 ⊢
  rw [← hR]
  rw [← hrt] at cS0
  have hstep : ∀ (j : Int) (c : Cur) (x : Int), 0 ≤ j → j < ls.length → CurB l b C c → x = ls[j.toNat]?.getD 0 → 0 ≤ x → BCall Tryz.prog 29 [.agg (c.el (nodesA l)), .val (.int .i64 x)] [] (.tup [.agg (oC (nodesA l) (nxO l ls (j, some c))), .val (.bool (okO (nxO l ls (j, some c))))]) [] := fun j c x h0 h1 h2 h3 h4 => by
    subst h3
    exact step_b l b C ha hb hC c h2 _ h4 (hmx _ (by
      have : j.toNat < ls.length := by omega
      rw [List.getElem?_eq_getElem this]; exact List.getElem_mem this))
  have hrec : ∀ (j : Int) (c : Cur), 0 ≤ j → j < ls.length → elemO l (some c) (ls.drop j.toNat) = if ls[j.toNat]?.getD 0 < 0 then none else elemO l (nxO l ls (j, some c)) (ls.drop (j + 1).toNat) := fun j c h0 h1 => by
    have hk : j.toNat < ls.length := by omega
    rw [List.drop_eq_getElem_cons hk, elemO, show (j + 1).toNat = j.toNat + 1 by omega]
    simp only [nxO, List.getElem?_eq_getElem hk]; rfl
  have hnon : ∀ (j : Int), 0 ≤ j → j < ls.length → elemO l none (ls.drop j.toNat) = none := fun j h0 h1 => by
    have hk : j.toNat < ls.length := by omega
    rw [List.drop_eq_getElem_cons hk, elemO]
  have hinx : ∀ (j : Int) (c : Cur), CurB l b C c → ∀ c', nxO l ls (j, some c) = some c' → CurB l b C c' := fun j c h c' h2 => stepO_in ha ho h h2
  obtain ⟨n, hn⟩ := exLen ls
  have hlen : std.len (intsA ls) = n := by show ((intsA ls).length : Int) = n; rw [ints_len, hn.eq]
  have hn0 : 0 ≤ n := by rw [hn.eq]; omega
  have hn9 : n ≤ 1000000 := by rw [hn.eq]; omega
  have hat : ∀ j : Int, 0 ≤ j → j < n → std.nth (std.cel (std.at_ (intsA ls) j)) 0 = .val (.int .i64 (ls[j.toNat]?.getD 0)) := fun j h0 h1 => int_cell h0 (by rw [← hn.eq]; exact h1)
  have hstep : ∀ (j : Int) (c : Cur) (x : Int), 0 ≤ j → j < n → CurB l b C c → x = ls[j.toNat]?.getD 0 → 0 ≤ x → BCall Tryz.prog 29 [.agg (c.el (nodesA l)), .val (.int .i64 x)] [] (.tup [.agg (oC (nodesA l) (nxO l ls (j, some c))), .val (.bool (okO (nxO l ls (j, some c))))]) [] := fun j c x h0 h1 => hstep j c x h0 (by rw [← hn.eq]; exact h1)
  have hrec : ∀ (j : Int) (c : Cur), 0 ≤ j → j < n → elemO l (some c) (ls.drop j.toNat) = if ls[j.toNat]?.getD 0 < 0 then none else elemO l (nxO l ls (j, some c)) (ls.drop (j + 1).toNat) := fun j c h0 h1 => hrec j c h0 (by rw [← hn.eq]; exact h1)
  have hnon : ∀ (j : Int), 0 ≤ j → j < n → elemO l none (ls.drop j.toNat) = none := fun j h0 h1 => hnon j h0 (by rw [← hn.eq]; exact h1)
  have hend : ∀ o : Option Cur, elemO l o (ls.drop n.toNat) = o := fun o => by
    rw [List.drop_eq_nil_of_le (by rw [hn.eq]; omega)]
    cases o <;> rfl
  obtain ⟨nx, hnx⟩ : ∃ nx, nx = nxO l ls := ⟨_, rfl⟩
  rw [← hnx] at hstep hrec hinx
  obtain ⟨E, hE⟩ : ∃ E : Int → Option Cur → Option Cur, E = fun j o => elemO l o (ls.drop j.toNat) := ⟨_, rfl⟩
  have hrec : ∀ (j : Int) (c : Cur), 0 ≤ j → j < n → E j (some c) = if ls[j.toNat]?.getD 0 < 0 then none else E (j + 1) (nx (j, some c)) := fun j c h0 h1 => by rw [hE]; exact hrec j c h0 h1
  have hnon : ∀ (j : Int), 0 ≤ j → j < n → E j none = none := fun j h0 h1 => by rw [hE]; exact hnon j h0 h1
  have hend : ∀ o, E n o = o := fun o => by rw [hE]; exact hend o
  have hR0 : E 0 o0 = R := by rw [hE, hR]; rfl
  clear hR hE hnx hmx
  unfold treeA at cC ⊢
  rw [← hrt, hl] at cC ⊢
  clear hl hrt
  simp only [oC, Cur.cs, Cur.n, Cur.f, Cur.k, upO] at cC cS0 ⊢
  have cS0 : BCall Tryz.prog 29 [.agg [.ref [.slc 6 (nodesA l)], .val (.int .i64 rt), .val (.int .i64 0), .val (.int .i64 0), .opt (.val (.pointer none))], .val (.int .i64 0)] [] (.tup [.agg [.opt (rowO l o0), .val (.int .i64 (oN o0)), .val (.int .i64 (oF o0)), .val (.int .i64 (oK o0)), .opt (uppO l o0)], .val (.bool (okO o0))]) [] := cS0
  refine fnN (csPaL (nodesA l) rt (rowO l o0) (oN o0) (oF o0) (oK o0) (uppO l o0) (okO o0)) Tryz.func18 rfl fun _ _ => ?_
  generalize hK : t.kind = K
  generalize hM : t.bom = M
  generalize hI : intsA ls = I
  with_reducible refine cv10 (rowO l o0) (oN o0) (oF o0) (oK o0) (uppO l o0) (okO o0) (nodesA l) (runesA t.r) (intsA t.off) (dgsA m.d) ?_
  subst hK hM hI
  refine ⟨cC, cS0, ?_⟩
  refine loop_ruleX (cs := (fun x : Int × Option Cur => csPaL (nodesA l) rt (rowO l (nx x)) (oN (nx x)) (oF (nx x)) (oK (nx x)) (uppO l (nx x)) (okO (nx x)))) (ord := fun _ => .nil) tyOk (by kernel_rfl) (by kernel_rfl) (by kernel_rfl) (X := Int × Option Cur) (fun x => ⟨[(4, .box 1 0), (6, .box 2 0), (7, .val (.bool (okO x.2))), (16, .slc 1 (intsA ls)), (17, .val (.int .i64 n)), (18, .val (.int .i64 x.1))], [.box [.val (.int .i64 t.kind), .val (.int .i64 t.bom), .slc 1 (runesA t.r), .slc 1 (intsA t.off), .ref [.slc 6 (nodesA l)], .val (.int .i64 rt), .slc 3 (dgsA m.d)], .box zeroC, .box [.opt (rowO l x.2), .val (.int .i64 (oN x.2)), .val (.int .i64 (oF x.2)), .val (.int .i64 (oK x.2)), .opt (uppO l x.2)]]⟩) (fun x => 0 ≤ x.1 ∧ x.1 ≤ n ∧ E x.1 x.2 = R ∧ ∀ c, x.2 = some c → CurB l b C c) (fun x => (n - x.1).toNat) (0, o0) ?_ ?_ ?_
  · exact ⟨Int.le_refl 0, hn0, hR0, hin0⟩
  · refine ⟨[some 0, some 1, some 2], _, rfl, ?_⟩
    exact eq1 hlen
  · rintro ⟨j, o⟩ ⟨hj0, hj1, hj, hcj⟩
    have hj0 : 0 ≤ j := hj0
    have hj1 : j ≤ n := hj1
    have hj : E j o = R := hj
    have hcj : ∀ c, o = some c → CurB l b C c := hcj
    obtain ⟨o1, ho1⟩ : ∃ o1, o1 = nx (j, o) := ⟨_, rfl⟩
    rw [← ho1]
    generalize hu0 : uppO l o = u0
    generalize hok0 : okO o = ok0
    generalize hN : nodesA l = N
    generalize hR : runesA t.r = R
    generalize hO : intsA t.off = O
    generalize hD' : dgsA m.d = D'
    generalize hK : t.kind = K
    generalize hM : t.bom = M
    generalize hI : intsA ls = I
    with_reducible refine cv10 (rowO l o1) (oN o1) (oF o1) (oK o1) (uppO l o1) (okO o1) (rowO l o) (oN o) (oF o) (oK o) ?_
    subst hu0 hok0 hN hR hO hD' hK hM hI
    refine ⟨fun h => ?_, fun h => ?_⟩
    · have hjn : j < n := of_decide_eq_true h
      have hx := hat j hj0 hjn
      have hxi := int_of hx
      refine ⟨⟨hj0, by show j < std.len (intsA ls); rw [hlen]; exact hjn⟩, ⟨has_int hx, trivial⟩, fun h2 => ?_, fun h2 => ?_⟩
      · have h2 : (!okO o) = true := h2
        have hon : o = none := by cases o with
          | none => rfl
          | some c => simp [okO] at h2
        have hRn : R = none := by rw [← hj, hon]; exact hnon j hj0 hjn
        rw [hRn]
        generalize hK : t.kind = K
        generalize hM : t.bom = M
        generalize hI : intsA ls = I
        with_reducible refine cv10 (rowO l o) (oN o) (oF o) (oK o) (uppO l o) (okO o) (nodesA l) (runesA t.r) (intsA t.off) (dgsA m.d) ?_
        subst hK hM hI
        exact .pure rfl ⟨⟨.inr (.inr (.inl ⟨rfl, trivial⟩)), .inl rfl, .inl rfl, .inl rfl, .inr (.inr (.inl ⟨rfl, trivial⟩)), trivial⟩, .inl rfl, trivial⟩
      · have h2 : (!okO o) = false := h2
        obtain ⟨c, hoc⟩ : ∃ c, o = some c := by cases o with
          | none => simp [okO] at h2
          | some c => exact ⟨c, rfl⟩
        have hr := hrec j c hj0 hjn
        rw [← hoc, hj] at hr
        refine ⟨fun h3 => ?_, fun h3 => ?_⟩
        · have h3 : std.int (std.nth (std.cel (std.at_ (intsA ls) j)) 0) < 0 := of_decide_eq_true h3
          rw [hxi] at h3
          rw [if_pos h3] at hr
          rw [hr]
          generalize hK : t.kind = K
          generalize hM : t.bom = M
          generalize hI : intsA ls = I
          with_reducible refine cv10 (rowO l o) (oN o) (oF o) (oK o) (uppO l o) (okO o) (nodesA l) (runesA t.r) (intsA t.off) (dgsA m.d) ?_
          subst hK hM hI
          exact .pure rfl ⟨⟨.inr (.inr (.inl ⟨rfl, trivial⟩)), .inl rfl, .inl rfl, .inl rfl, .inr (.inr (.inl ⟨rfl, trivial⟩)), trivial⟩, .inl rfl, trivial⟩
        · have h3 : ¬ std.int (std.nth (std.cel (std.at_ (intsA ls) j)) 0) < 0 := of_decide_eq_false h3
          rw [hxi] at h3
          rw [if_neg h3, ← ho1] at hr
          have cs := hstep j c _ hj0 hjn (hcj c hoc) rfl (Int.not_lt.1 h3)
          rw [← hoc, ← ho1, ← hxi] at cs
          refine ⟨?_, ?_, (j + 1, o1), ⟨by show 0 ≤ j + 1; omega, by show j + 1 ≤ n; omega, hr.symm, fun c' h9 => ?_⟩, by show (n - (j + 1)).toNat < (n - j).toNat; omega, [some 0, some 1, some 2], _, rfl, ?_⟩
          · rw [hoc]; exact cs
          · show std.inR .i64 (j + 1)
            rw [inR64]; omega
          · have h9 : o1 = some c' := h9
            exact hinx j c (hcj c hoc) c' (by rw [← hoc, ← ho1]; exact h9)
          · exact eq0
    · have hjn : j = n := by
        have h : ¬ j < n := of_decide_eq_false h
        omega
      have hRo : R = o := by rw [← hj, hjn]; exact hend o
      rw [hRo, if_pos trivial]
      generalize hK : t.kind = K
      generalize hM : t.bom = M
      generalize hI : intsA ls = I
      with_reducible refine cv10 (rowO l o) (oN o) (oF o) (oK o) (uppO l o) (okO o) (nodesA l) (runesA t.r) (intsA t.off) (dgsA m.d) ?_
      subst hK hM hI
      exact .pure rfl ⟨⟨.inl rfl, .inl rfl, .inl rfl, .inl rfl, .inl rfl, trivial⟩, .inl rfl, trivial⟩
end Go.Proofs.YtaklahcbeldbhaaGreatDoor
namespace Go.Proofs.YtaklahcbeldbhaaGreatDoor
open Go.RowKit Go.Lib
noncomputable def aw22_tab : List (Nat × FnI) := [
  (9, ⟨Tryz.f9, Tryz.f9.body.getD .skip, fun _ => .nil⟩),
  (19, ⟨Tryz.f19, Tryz.f19.body.getD .skip, fun id => match id with | 7 => .of [0, 1, 2, 3, 7, 4, 5, 6] | 17 => .th [0, 1, 2, 3, 4, 5, 6, 7, 8, 9, 10, 11, 12, 13, 14, 15, 16, 17, 18, 19, 20, 26, 27, 28, 29] (.fork (.th [21, 22, 23] (.fork (.th [24, 25] (.fork (.th [30, 31, 32] (.fork (.of [33, 34, 35, 36, 37, 38]) (.of [36, 33, 34, 35, 37, 38]))) (.of [36, 30, 31, 32, 33, 34, 35, 37, 38]))) (.fork (.th [30, 31, 32] (.fork (.th [24, 25] (.fork (.of [33, 34, 35, 36, 37, 38]) (.of [36, 33, 34, 35, 37, 38]))) (.fork (.th [33, 34] (.fork (.of [24, 25, 35, 36, 37, 38]) (.of [36, 24, 25, 35, 37, 38]))) (.of [36, 24, 25, 33, 34, 35, 37, 38])))) (.of [36, 24, 25, 30, 31, 32, 33, 34, 35, 37, 38])))) (.fork (.th [30, 31, 32] (.fork (.th [21, 22, 23] (.fork (.th [24, 25] (.fork (.of [33, 34, 35, 36, 37, 38]) (.of [36, 33, 34, 35, 37, 38]))) (.fork (.th [33, 34] (.fork (.of [24, 25, 35, 36, 37, 38]) (.of [36, 24, 25, 35, 37, 38]))) (.of [36, 24, 25, 33, 34, 35, 37, 38])))) (.fork (.th [33, 34] (.fork (.th [21, 22, 23] (.fork (.of [24, 25, 35, 36, 37, 38]) (.of [36, 24, 25, 35, 37, 38]))) (.of [36, 21, 22, 23, 24, 25, 35, 37, 38]))) (.of [36, 21, 22, 23, 24, 25, 33, 34, 35, 37, 38])))) (.of [36, 21, 22, 23, 24, 25, 30, 31, 32, 33, 34, 35, 37, 38]))) | _ => .nil⟩),
  (31, ⟨Tryz.f31, Tryz.f31.body.getD .skip, fun _ => .nil⟩),
  (53, ⟨Tryz.f53, Tryz.f53.body.getD .skip, fun _ => .nil⟩),
  (82, ⟨Tryz.f82, Tryz.f82.body.getD .skip, fun _ => .nil⟩),
  (83, ⟨Tryz.f83, Tryz.f83.body.getD .skip, fun _ => .nil⟩),
  (81, ⟨Tryz.f81, Tryz.f81.body.getD .skip, fun _ => .nil⟩),
  (32, ⟨Tryz.f32, Tryz.f32.body.getD .skip, fun id => match id with | 1 => .th [0, 2, 4, 5, 6, 7] (.fork (.th [1] (.fork (.of [3, 8, 9, 10, 11]) (.of [8, 3, 9, 10, 11]))) (.fork (.th [3] (.fork (.of [1, 8, 9, 10, 11]) (.of [8, 1, 9, 10, 11]))) (.of [8, 1, 3, 9, 10, 11]))) | _ => .nil⟩),
  (54, ⟨Tryz.f54, Tryz.f54.body.getD .skip, fun _ => .nil⟩),
  (34, ⟨Tryz.f34, Tryz.f34.body.getD .skip, fun _ => .nil⟩),
  (57, ⟨Tryz.f57, Tryz.f57.body.getD .skip, fun _ => .nil⟩),
  (6, ⟨Tryz.f6, Tryz.f6.body.getD .skip, fun _ => .nil⟩),
  (12, ⟨Tryz.f12, Tryz.f12.body.getD .skip, fun _ => .nil⟩),
  (13, ⟨Tryz.f13, Tryz.f13.body.getD .skip, fun _ => .nil⟩)]
theorem aw22_tab_ok : GoodL aw22_tab := by
  unfold aw22_tab
  refine ⟨⟨Nat.le_of_ble_eq_true rfl, Tryz.func9, rfl, by kernel_rfl⟩, ?_⟩
  refine ⟨⟨Nat.le_of_ble_eq_true rfl, Tryz.func19, rfl, by kernel_rfl⟩, ?_⟩
  refine ⟨⟨Nat.le_of_ble_eq_true rfl, Tryz.func31, rfl, by kernel_rfl⟩, ?_⟩
  refine ⟨⟨Nat.le_of_ble_eq_true rfl, Tryz.func53, rfl, by kernel_rfl⟩, ?_⟩
  refine ⟨⟨Nat.le_of_ble_eq_true rfl, Tryz.func82, rfl, by kernel_rfl⟩, ?_⟩
  refine ⟨⟨Nat.le_of_ble_eq_true rfl, Tryz.func83, rfl, by kernel_rfl⟩, ?_⟩
  refine ⟨⟨Nat.le_of_ble_eq_true rfl, Tryz.func81, rfl, by kernel_rfl⟩, ?_⟩
  refine ⟨⟨Nat.le_of_ble_eq_true rfl, Tryz.func32, rfl, by kernel_rfl⟩, ?_⟩
  refine ⟨⟨Nat.le_of_ble_eq_true rfl, Tryz.func54, rfl, by kernel_rfl⟩, ?_⟩
  refine ⟨⟨Nat.le_of_ble_eq_true rfl, Tryz.func34, rfl, by kernel_rfl⟩, ?_⟩
  refine ⟨⟨Nat.le_of_ble_eq_true rfl, Tryz.func57, rfl, by kernel_rfl⟩, ?_⟩
  refine ⟨⟨Nat.le_of_ble_eq_true rfl, Tryz.func6, rfl, by kernel_rfl⟩, ?_⟩
  refine ⟨⟨Nat.le_of_ble_eq_true rfl, Tryz.func12, rfl, by kernel_rfl⟩, ?_⟩
  refine ⟨⟨Nat.le_of_ble_eq_true rfl, Tryz.func13, rfl, by kernel_rfl⟩, ?_⟩
  exact trivial
def aw22_b : List UInt8 := [60, 97, 62, 60, 98, 47, 62, 60, 99, 32, 100, 61, 39, 101, 39, 47, 62, 60, 47, 97, 62]
def aw22_N : List AV := [.agg [.val (.int .i64 8), .val (.int .i64 3), .val (.int .i64 1), .val (.bool true), .slc 1 [.val (.int .u8 60), .val (.int .u8 97), .val (.int .u8 62)], .slc 1 []], .agg [.val (.int .i64 9), .val (.int .i64 4), .val (.int .i64 1), .val (.bool true), .slc 1 [.val (.int .u8 60), .val (.int .u8 98), .val (.int .u8 47), .val (.int .u8 62)], .slc 1 []], .agg [.val (.int .i64 9), .val (.int .i64 10), .val (.int .i64 1), .val (.bool true), .slc 1 [.val (.int .u8 60), .val (.int .u8 99), .val (.int .u8 32), .val (.int .u8 100), .val (.int .u8 61), .val (.int .u8 39), .val (.int .u8 101), .val (.int .u8 39), .val (.int .u8 47), .val (.int .u8 62)], .slc 1 []], .agg [.val (.int .i64 10), .val (.int .i64 4), .val (.int .i64 1), .val (.bool true), .slc 1 [.val (.int .u8 60), .val (.int .u8 47), .val (.int .u8 97), .val (.int .u8 62)], .slc 1 []], .agg [.val (.int .i64 21), .val (.int .i64 21), .val (.int .i64 5), .val (.bool false), .slc 1 [], .slc 1 [.val (.int .i64 0), .val (.int .i64 1), .val (.int .i64 2), .val (.int .i64 3)]], .agg [.val (.int .i64 20), .val (.int .i64 21), .val (.int .i64 6), .val (.bool false), .slc 1 [], .slc 1 [.val (.int .i64 4)]]]
def aw22_t : AV := .agg [.val (.int .i64 0), .val (.int .i64 0), .slc 1 [.val (.int .i32 60), .val (.int .i32 97), .val (.int .i32 62), .val (.int .i32 60), .val (.int .i32 98), .val (.int .i32 47), .val (.int .i32 62), .val (.int .i32 60), .val (.int .i32 99), .val (.int .i32 32), .val (.int .i32 100), .val (.int .i32 61), .val (.int .i32 39), .val (.int .i32 101), .val (.int .i32 39), .val (.int .i32 47), .val (.int .i32 62), .val (.int .i32 60), .val (.int .i32 47), .val (.int .i32 97), .val (.int .i32 62)], .slc 1 [.val (.int .i64 0), .val (.int .i64 1), .val (.int .i64 2), .val (.int .i64 3), .val (.int .i64 4), .val (.int .i64 5), .val (.int .i64 6), .val (.int .i64 7), .val (.int .i64 8), .val (.int .i64 9), .val (.int .i64 10), .val (.int .i64 11), .val (.int .i64 12), .val (.int .i64 13), .val (.int .i64 14), .val (.int .i64 15), .val (.int .i64 16), .val (.int .i64 17), .val (.int .i64 18), .val (.int .i64 19), .val (.int .i64 20), .val (.int .i64 21)], .ref [.slc 6 aw22_N], .val (.int .i64 5), .slc 3 []]
theorem aw22_te : treeA (textF' aw22_b) (parseM aw22_b) = aw22_t := by cbv
theorem aw22_0 : BCall Tryz.prog 17 [.slc 1 (bytesA aw22_b)] [] aw22_t [] := by
  rw [← aw22_te]; exact Parse_b aw22_b (by decide)
def aw22_er : AV := .tup [.agg [.opt (.ref [.slc 6 aw22_N]), .val (.int .i64 2), .val (.int .i64 7), .val (.int .i64 2), .opt (.ref [.ref [.slc 6 aw22_N], .val (.int .i64 4), .val (.int .i64 0), .val (.int .i64 0), .opt (.ref [.ref [.slc 6 aw22_N], .val (.int .i64 5), .val (.int .i64 0), .val (.int .i64 0), .opt (.val (.pointer none))])])], .val (.bool true)]
theorem aw22_1 : BCall Tryz.prog 18 [aw22_t, .slc 1 (intsA [1])] [] aw22_er [] := by
  have hO := parse_ok aw22_b (by decide)
  have h := Elem_b (textF' aw22_b) (parseM aw22_b) (rootM (parseM aw22_b)).n rfl aw22_b 400000 hO.ar (parse_nodes aw22_b) (by decide) (by decide) ⟨hO.root, [], [], by show aw22_b = [] ++ (pr (rootM (parseM aw22_b)).n (parseM aw22_b).n.length ++ []); rw [hO.p]; simp, rfl⟩ [1] (by decide) (by decide)
  have e2 : AV.tup [.agg (oC (nodesA (rootM (parseM aw22_b)).n) (elemO (rootM (parseM aw22_b)).n (stepO (rootM (parseM aw22_b)).n (.root (parseM aw22_b).n.length) 0) [1])), .val (.bool (elemO (rootM (parseM aw22_b)).n (stepO (rootM (parseM aw22_b)).n (.root (parseM aw22_b).n.length) 0) [1]).isSome)] = aw22_er := by cbv
  rw [e2, aw22_te] at h
  exact h
def aw22_r2 : AV := .slc 3 [.agg [.val (.int .i32 60), .val (.int .i64 0), .val (.int .i64 1)], .agg [.val (.int .i32 99), .val (.int .i64 1), .val (.int .i64 1)], .agg [.val (.int .i32 32), .val (.int .i64 2), .val (.int .i64 1)], .agg [.val (.int .i32 100), .val (.int .i64 3), .val (.int .i64 1)], .agg [.val (.int .i32 61), .val (.int .i64 4), .val (.int .i64 1)], .agg [.val (.int .i32 39), .val (.int .i64 5), .val (.int .i64 1)], .agg [.val (.int .i32 101), .val (.int .i64 6), .val (.int .i64 1)], .agg [.val (.int .i32 39), .val (.int .i64 7), .val (.int .i64 1)], .agg [.val (.int .i32 47), .val (.int .i64 8), .val (.int .i64 1)], .agg [.val (.int .i32 62), .val (.int .i64 9), .val (.int .i64 1)]]
theorem aw22_2 : BCall Tryz.prog 33 [.val (.int .i64 0), .slc 1 (bytesA [60, 99, 32, 100, 61, 39, 101, 39, 47, 62])] [] aw22_r2 [] := by
  have e : AV.slc 3 (itmsA (pcsF 0 [60, 99, 32, 100, 61, 39, 101, 39, 47, 62])) = aw22_r2 := by cbv
  rw [← e]; exact Pieces_b _ _ (by decide)
def aw22_r3 : AV := .agg [.val (.int .i64 2), .val (.int .i64 1), .val (.int .i64 2), .slc 9 [.agg [.val (.int .i64 2), .val (.int .i64 3), .val (.int .i64 4), .val (.int .i64 5), .val (.int .i64 5), .val (.int .i64 8), .val (.int .i64 7), .val (.int .i64 2), .val (.int .i64 8)]], .val (.bool true), .val (.bool true)]
theorem aw22_3 : BCall Tryz.prog 35 [.slc 1 (runesA [60, 99, 32, 100, 61, 39, 101, 39, 47, 62]), .val (.int .i64 0), .val (.int .i64 10)] [] aw22_r3 [] := by
  have e : AV.agg [.val (.int .i64 (readF [60, 99, 32, 100, 61, 39, 101, 39, 47, 62] 0 10).name.kind), .val (.int .i64 (readF [60, 99, 32, 100, 61, 39, 101, 39, 47, 62] 0 10).name.from_), .val (.int .i64 (readF [60, 99, 32, 100, 61, 39, 101, 39, 47, 62] 0 10).name.to), .slc 9 (tattrsA (readF [60, 99, 32, 100, 61, 39, 101, 39, 47, 62] 0 10).attrs), .val (.bool (readF [60, 99, 32, 100, 61, 39, 101, 39, 47, 62] 0 10).right), .val (.bool (readF [60, 99, 32, 100, 61, 39, 101, 39, 47, 62] 0 10).empty)] = aw22_r3 := by cbv
  rw [← e]; exact Read_b [60, 99, 32, 100, 61, 39, 101, 39, 47, 62] (by decide) 0 10 (by decide) (by decide) (by decide)
theorem aw22_4 : BCall Tryz.prog 36 [.agg [.val (.int .i64 0), .val (.int .i64 0), .slc 1 (runesA [60, 99, 32, 100, 61, 39, 101, 39, 47, 62]), .val (.slice none 0 0)], .val (.int .i64 3), .val (.int .i64 4)] [] (.val (.string ⟨#[100]⟩)) [] := by
  have e : AV.val (.string ⟨(strF ((([60, 99, 32, 100, 61, 39, 101, 39, 47, 62] : List Int).drop (3 : Int).toNat).take ((4 : Int) - 3).toNat)).toArray⟩) = .val (.string ⟨#[100]⟩) := by cbv
  rw [← e]; exact String_b [60, 99, 32, 100, 61, 39, 101, 39, 47, 62] (by decide) 3 4 (by decide) (by decide) (by decide) (by decide)
def aw22_bl : List BE := [
  ⟨17, [.slc 1 (bytesA aw22_b)], [], aw22_t, []⟩,
  ⟨18, [aw22_t, .slc 1 (intsA [1])], [], aw22_er, []⟩,
  ⟨33, [.val (.int .i64 0), .slc 1 (bytesA [60, 99, 32, 100, 61, 39, 101, 39, 47, 62])], [], aw22_r2, []⟩,
  ⟨35, [.slc 1 (runesA [60, 99, 32, 100, 61, 39, 101, 39, 47, 62]), .val (.int .i64 0), .val (.int .i64 10)], [], aw22_r3, []⟩,
  ⟨36, [.agg [.val (.int .i64 0), .val (.int .i64 0), .slc 1 (runesA [60, 99, 32, 100, 61, 39, 101, 39, 47, 62]), .val (.slice none 0 0)], .val (.int .i64 3), .val (.int .i64 4)], [], .val (.string ⟨#[100]⟩), []⟩]
theorem aw22_bok : GoodB aw22_bl := by
  unfold aw22_bl
  refine ⟨⟨rfl, aw22_0⟩, ?_⟩
  refine ⟨⟨rfl, aw22_1⟩, ?_⟩
  refine ⟨⟨rfl, aw22_2⟩, ?_⟩
  refine ⟨⟨rfl, aw22_3⟩, ?_⟩
  refine ⟨⟨rfl, aw22_4⟩, ?_⟩
  exact trivial
theorem eqSpan22 : EqOk Tryz.prog 52 [.int .i64, .int .i64] := EqOk.plan tyOk (by kernel_rfl) (by kernel_rfl) (by kernel_rfl) (by kernel_rfl)
def aw22_ask (T : Nat) (sh : List Srt) : Bool := match T, sh with
  | 52, [.int .i64, .int .i64] => true
  | _, _ => false
theorem keySpan22 : KeyOk Tryz.prog 52 [.int .i64, .int .i64] := KeyOk.plan tyOk (by kernel_rfl) (by kernel_rfl) (by kernel_rfl) (by kernel_rfl) (by kernel_rfl) (by kernel_rfl)
theorem aw22_asko : ∀ T sh, aw22_ask T sh = true → EqOk Tryz.prog T sh ∧ KeyOk Tryz.prog T sh := fun T sh h => by
  unfold aw22_ask at h
  split at h
  · exact ⟨eqSpan22, keySpan22⟩
  · cases h
theorem awake22_b : BCall Tryz.prog 9 [] [] (.val (.bool true)) [] :=
  run1 aw22_tab_ok aw22_bok (ask := aw22_ask) aw22_asko (lf := 100) (n := 40) (by kernel_rfl)
end Go.Proofs.YtaklahcbeldbhaaGreatDoor
namespace Go.Proofs.YtaklahcbeldbhaaGreatDoor
open Go.RowKit Go.Lib
def csPR (M : List AV) (ok : Bool) : Nat → List AV → List Ob → Option (AV × List Ob) := fun g _ _ => match g with
  | 8 => some (.tup [.slc 1 M, .val (.bool ok)], [])
  | 11 => some (.tup [.slc 1 M, .val (.bool ok)], [])
  | 10 => some (.val (.bool true), [])
  | 9 => some (.val (.bool true), [])
  | _ => none
set_option maxRecDepth 20000 in
theorem PathRead_b (s0 : List UInt8) : BCall Tryz.prog 4 [.val (.string (bsZ s0))] [] (.val (.bool true)) [] := by
  have hsz := bsZ_size s0
  have hst : std.szS (bsZ s0) = (s0.length : Int) := by show ((bsZ s0).size : Int) = _; rw [hsz]
  have hcut : std.cutS (bsZ s0) 0 60 = bsZ (s0.take 60) := by
    show (bsZ s0).extract (0 : Int).toNat (60 : Int).toNat = _
    have := Lib.extract_from_zero (bsZ s0) 60
    rw [bsZ_data] at this
    rw [← bsZ_back ((bsZ s0).extract (0 : Int).toNat (60 : Int).toNat)]
    exact congrArg bsZ this
  have c1 := PRead_b (s0.take 60) (by rw [List.length_take]; omega)
  have c2 := RRead_b (s0.take 60) (by rw [List.length_take]; omega)
  have cm := ZSame_b (zrdL (s0.take 60)) (zrdL (s0.take 60)) (zrdL_len _ (by rw [List.length_take]; omega)) (zrdL_len _ (by rw [List.length_take]; omega))
  rw [decide_eq_true rfl] at cm
  have cA := awake22_b
  have hno : ¬ 60 < s0.length → bsZ (s0.take 60) = bsZ s0 := fun h => by rw [List.take_of_length_le (by omega)]
  generalize zrdB (s0.take 60) = ok at c1 c2
  generalize intsA (zrdL (s0.take 60)) = M at c1 c2 cm
  generalize bsZ (s0.take 60) = B at c1 c2 hcut hno
  generalize hS : bsZ s0 = S at hcut hno hst
  clear hsz
  have hl : std.ltI 60 (std.szS S) = decide (60 < s0.length) := by
    rw [hst]
    exact decide_eq_decide.2 (by omega)
  refine fnN (csPR M ok) Tryz.func4 rfl fun _ _ => ?_
  with_reducible refine cv0 ?_
  have hkk : ¬ std.eqB ok ok = false := by cases ok <;> decide
  refine ⟨fun h => ?_, fun h => ?_⟩
  · have h : std.ltI 60 (std.szS S) = true := h
    rw [hst] at h
    have h : (60 : Int) < (s0.length : Int) := of_decide_eq_true h
    refine ⟨⟨Int.le_refl 0, by decide, by show (60 : Int) ≤ std.szS S; rw [hst]; omega⟩, ?_, ?_, fun _ => ⟨cm, cA, .pure rfl (.inl rfl)⟩, fun h => absurd h hkk⟩
    · show BCall _ _ [.val (.string (std.cutS S 0 60))] _ _ _
      rw [hcut]; exact c1
    · show BCall _ _ [.val (.string (std.cutS S 0 60))] _ _ _
      rw [hcut]; exact c2
  · have h : std.ltI 60 (std.szS S) = false := h
    rw [hst] at h
    have h : ¬ (60 : Int) < (s0.length : Int) := of_decide_eq_false h
    have e := hno (by omega)
    subst e
    exact ⟨c1, c2, fun _ => ⟨cm, cA, .pure rfl (.inl rfl)⟩, fun h => absurd h hkk⟩
theorem PathRead_c (b : ByteArray) : BCall Tryz.prog 4 [.val (.string b)] [] (.val (.bool true)) [] := by
  have := PathRead_b b.data.toList
  rwa [bsZ_back] at this
end Go.Proofs.YtaklahcbeldbhaaGreatDoor
