/- Lemmas, conditions told -/
import Derived.Test.YtcmjijpofkoogaaGreatG12
import Derived.Test.YtcmjijpofkoogaaGreatG15
import Derived.Test.YtcmjijpofkoogaaGreatG17
set_option linter.unusedSimpArgs false
set_option linter.unusedVariables false
namespace Go.Proofs.YtcmjijpofkoogaaGreat
open Go.RowKit Go.Lib
def nilA : AV := .val (.slice none 0 0)
def slR (l : List Int) : AV := match l with | [] => nilA | l => .slc 1 (runesA l)
def slK (l : List Int) : AV := match l with | [] => nilA | l => .slc 1 (intsA l)
structure Opn where
  name : List Int
  kids : List Int
  deriving Inhabited, DecidableEq
def Opn.av (x : Opn) : AV := .agg [slR x.name, slK x.kids]
def opnsA (l : List Opn) : List AV := l.map Opn.av
structure Dg where
  f : Int
  t : Int
  c : Int
  deriving Inhabited, DecidableEq
def Dg.av (x : Dg) : AV := .agg [.val (.int .i64 x.f), .val (.int .i64 x.t), .val (.int .i64 x.c)]
def dgsA (l : List Dg) : List AV := l.map Dg.av
def intsB (x : AV) : List Int := (lstOf x).map intOf
def opnB : AV → Opn
  | .agg [a, k] => ⟨intsB a, intsB k⟩
  | _ => ⟨[], []⟩
def dgB : AV → Dg
  | .agg [a, b, c] => ⟨intOf a, intOf b, intOf c⟩
  | _ => ⟨0, 0, 0⟩
def nodeB : AV → Node
  | .agg [k, w, c, l, b, s] => ⟨intOf k, intOf w, intOf c, booOf l, (lstOf b).map byteOf, intsB s⟩
  | _ => node0
theorem map_back {α : Type} {f : α → AV} {g : AV → α} (h : ∀ x, g (f x) = x) (l : List α) : (l.map f).map g = l := by
  induction l with
  | nil => rfl
  | cons x r ih => simp only [List.map_cons, h, ih]
theorem ints_back (l : List Int) : (intsA l).map intOf = l := map_back (fun _ => rfl) l
theorem slR_back (l : List Int) : intsB (slR l) = l := by
  cases l with
  | nil => rfl
  | cons x r => exact runes_back (x :: r)
theorem slK_back (l : List Int) : intsB (slK l) = l := by
  cases l with
  | nil => rfl
  | cons x r => exact ints_back (x :: r)
theorem opn_back (x : Opn) : opnB x.av = x := by
  show (⟨intsB (slR x.name), intsB (slK x.kids)⟩ : Opn) = x
  rw [slR_back, slK_back]
theorem dg_back (x : Dg) : dgB x.av = x := rfl
theorem node_back (x : Node) : nodeB x.av = x := by
  show (⟨x.kind, x.width, x.count, x.leaf, (bytesA x.b).map byteOf, (intsA x.kids).map intOf⟩ : Node) = x
  rw [bytes_back, ints_back]
def opnsB (l : List AV) : List Opn := l.map opnB
def dgsB (l : List AV) : List Dg := l.map dgB
def nodesB (l : List AV) : List Node := l.map nodeB
theorem opns_back (l : List Opn) : opnsB (opnsA l) = l := map_back opn_back l
theorem dgs_back (l : List Dg) : dgsB (dgsA l) = l := map_back dg_back l
theorem nodes_back (l : List Node) : nodesB (nodesA l) = l := map_back node_back l
theorem opns_len (l : List Opn) : (opnsA l).length = l.length := by simp [opnsA]
theorem dgs_len (l : List Dg) : (dgsA l).length = l.length := by simp [dgsA]
structure Mk where
  n : List Node
  d : List Dg
  s : List Opn
  deriving Inhabited
def obM (e : Nat) (b k m r o rt : AV) (N D S : List AV) : List Ob :=
  [.box [b, .box 1 0, .row 5 e], .box [k, m, r, o, .box 2 0, rt, .row 4 e], .box [.row 3 e], .row 230 6 false e N, .row 270 3 false e D, .row 158 2 false e S]
def withM (ob : List Ob) (f : AV → AV → AV → AV → AV → AV → List AV → List AV → List AV → Option (AV × List Ob)) : Option (AV × List Ob) := match ob with
  | [.box [b, .box 1 0, .row 5 0], .box [k, m, r, o, .box 2 0, rt, .row 4 0], .box [.row 3 0], .row 230 6 false 0 N, .row 270 3 false 0 D, .row 158 2 false 0 S] => f b k m r o rt N D S
  | _ => none
def obT (e : Nat) (t : Txt) (b : List UInt8) (rt : Int) (m : Mk) : List Ob :=
  obM e (.slc 1 (bytesA b)) (.val (.int .i64 t.kind)) (.val (.int .i64 t.bom)) (.slc 1 (runesA t.r)) (.slc 1 (intsA t.off)) (.val (.int .i64 rt)) (nodesA m.n) (dgsA m.d) (opnsA m.s)
def offA (t : Txt) (i : Int) : Int := t.off[i.toNat]?.getD 0
def wrongF (t : Txt) (c f u : Int) (m : Mk) : Mk := { m with d := m.d ++ [⟨offA t f, offA t u, c⟩] }
def topF (s : List Opn) : Opn := s[s.length - 1]?.getD ⟨[], []⟩
def kidS (n : Int) (s : List Opn) : List Opn := s.set (s.length - 1) ⟨(topF s).name, (topF s).kids ++ [n]⟩
def kidF (n : Int) (m : Mk) : Mk := { m with s := kidS n m.s }
def addF (x : Node) (m : Mk) : Mk := { m with n := m.n ++ [x] }
def mleafF (t : Txt) (b : List UInt8) (kind f u : Int) (m : Mk) : Mk := addF (leafF kind (sliceF t b f u)) m
def popF (m : Mk) : Mk := { m with s := m.s.take (m.s.length - 1) }
def shutF (last : Int) (m : Mk) : Mk :=
  let m1 := kidF last m
  kidF m1.n.length (addF (branchF m1.n 21 (topF m1.s).kids) (popF m1))
def missF (t : Txt) (at_ : Int) (m : Mk) : Mk :=
  let m1 := wrongF t 4 at_ at_ m
  shutF m1.n.length (addF (leafF 22 []) m1)
def nameF' (t : Txt) (f u : Int) : List Int := (t.r.drop (readF t.r f u).name.from_.toNat).take ((readF t.r f u).name.to - (readF t.r f u).name.from_).toNat
def lkF (t : Txt) (b : List UInt8) (kind f u : Int) (m : Mk) : Mk := kidF m.n.length (mleafF t b kind f u m)
def startF' (t : Txt) (b : List UInt8) (kind f u : Int) (m : Mk) : Mk :=
  if 64 < m.s.length then lkF t b kind f u (wrongF t 5 f u m)
  else lkF t b kind f u { m with s := m.s ++ [⟨nameF' t f u, []⟩] }
def opnFind (s : List Opn) (name : List Int) : Nat → Nat
  | 0 => 0
  | k + 1 => if (s[k + 1]?.getD ⟨[], []⟩).name = name then k + 1 else opnFind s name k
def missGo (t : Txt) (f : Int) (k : Nat) : Nat → Mk → Mk
  | 0, m => m
  | n + 1, m => if k < m.s.length - 1 then missGo t f k n (missF t f m) else m
def endF' (t : Txt) (b : List UInt8) (kind f u : Int) (m : Mk) : Mk :=
  let k := opnFind m.s (nameF' t f u) (m.s.length - 1)
  if k = 0 then lkF t b kind f u (wrongF t 3 f u m)
  else let m1 := missGo t f k m.s.length m
    shutF m1.n.length (mleafF t b kind f u m1)
def tokenF (t : Txt) (b : List UInt8) (kind f u : Int) (whole : Bool) (m : Mk) : Mk :=
  let tagged := kind = 8 ∨ kind = 9 ∨ kind = 10
  let m1 := if whole = false then wrongF t 1 f u m else if tagged ∧ (readF t.r f u).right = false then wrongF t 2 f u m else m
  if whole = true ∧ kind = 8 ∧ 0 < (nameF' t f u).length then startF' t b kind f u m1
  else if whole = true ∧ kind = 10 then endF' t b kind f u m1
  else lkF t b kind f u m1
end Go.Proofs.YtcmjijpofkoogaaGreat
namespace Go.Proofs.YtcmjijpofkoogaaGreat
open Go.RowKit Go.Lib
theorem BCall.see {P : Program} {f : Nat} {args : List AV} {ob ob1 ob' : List Ob} {res r' res' : AV} {l : Eqs} (h : BCall P f args ob res ob1) (ρ : List (Option Nat)) (h1 : onceR ρ = true) (h2 : headR ob ob1 ob' ρ = true) (h3 : ob.length ≤ ρ.length)
    (h4 : both (renR ob1 ob' ρ res r') (renOs ob1 ob' ρ ρ ob') = some l) (h5 : AllEq l) (h6 : leA r' res') : BCall P f args ob res' ob' := by
  refine ⟨h.1, fun w g vs M hL => (h.2 w g vs M hL).mono fun e w' ⟨v, g', k1, k2, k3, k4⟩ => ?_⟩
  obtain ⟨⟨l1, e1, a1⟩, l2, e2, a2⟩ := both_some h4 h5
  have hF : Fits ob1 ob' ρ := renOs_get _ _ _ e2 a2
  exact ⟨v, g'.ren ρ, k1, k2.ren hF h1, leA_rel (renR_rel hF h1 k3 e1 a1) h6, step_ren hF h1 h2 h3 k4⟩
theorem slK_or (l : List Int) : slK l = .slc 1 (intsA l) ∨ (slK l = .val (.slice none 0 0) ∧ intsA l = []) := by
  cases l with
  | nil => exact .inr ⟨rfl, rfl⟩
  | cons x r => exact .inl rfl
theorem slK_app (l : List Int) (n : Int) : slK (l ++ [n]) = .slc 1 (intsA l ++ [.val (.int .i64 n)]) := by
  rw [← ints_one, ← ints_app]
  cases l with
  | nil => rfl
  | cons x r => rfl
theorem opns_set (l : List Opn) (i : Nat) (x : Opn) : (opnsA l).set i x.av = opnsA (l.set i x) := by simp [opnsA, List.map_set]
theorem top_get {s : List Opn} (h : 1 ≤ s.length) : (opnsA s)[s.length - 1]? = some (topF s).av := by
  have : s.length - 1 < s.length := by omega
  simp [opnsA, topF, this]
set_option maxRecDepth 20000 in
theorem kid_b (t : Txt) (b : List UInt8) (rt : Int) (m : Mk) (hs : 1 ≤ m.s.length) (hn : m.s.length ≤ 1000000) (hk : (topF m.s).kids.length ≤ 1000000) (n : Int) :
    BCall Tryz.prog 80 [.box 0 0, .val (.int .i64 n)] (obT 0 t b rt m) (.tup []) (obT 1 t b rt (kidF n m)) := by
  obtain ⟨L, hL⟩ := exLen m.s
  have hpos : 1 ≤ L := by rw [hL.eq]; omega
  have h := kid_any (ob := obT 0 t b rt m) (k := 5) rfl rfl (i := L - 1) (n := n) ?_ (by omega) (a := slR (topF m.s).name) (u := slK (topF m.s).kids) (us := intsA (topF m.s).kids) ?_ (slK_or _) (by rw [ints_len]; exact hk)
  · have hi : (L - 1).toNat = m.s.length - 1 := by have := hL.eq; omega
    rw [hi, ← slK_app] at h
    have e : ∀ S, (obT 0 t b rt m).set 5 (.row subT 2 false 1 S) = [.box [.slc 1 (bytesA b), .box 1 0, .row 5 0], .box [.val (.int .i64 t.kind), .val (.int .i64 t.bom), .slc 1 (runesA t.r), .slc 1 (intsA t.off), .box 2 0, .val (.int .i64 rt), .row 4 0], .box [.row 3 0], .row 230 6 false 0 (nodesA m.n), .row 270 3 false 0 (dgsA m.d), .row 158 2 false 1 S] := fun _ => rfl
    have e2 := opns_set m.s (m.s.length - 1) ⟨(topF m.s).name, (topF m.s).kids ++ [n]⟩
    rw [show (AV.agg [slR (topF m.s).name, slK ((topF m.s).kids ++ [n])]) = Opn.av ⟨(topF m.s).name, (topF m.s).kids ++ [n]⟩ from rfl, e2, e] at h
    exact h.see [some 0, some 1, some 2, some 3, some 4, some 5] rfl rfl (Nat.le_refl _) (r' := .tup []) rfl (by simp [AllEq, kidF, kidS]) trivial
  · intro w0 g0
    unfold obT obM
    have hl := opns_len m.s
    with_reducible refine cv8 (nodesA m.n) (dgsA m.d) (opnsA m.s) (bytesA b) (runesA t.r) (intsA t.off) t.kind t.bom ?_
    have e : std.sub (std.len (opnsA m.s)) 1 = L - 1 := by
      show ((opnsA m.s).length : Int) - 1 = L - 1
      rw [hl, hL.eq]
    have e2 : std.len (opnsA m.s) = L := by
      show ((opnsA m.s).length : Int) = L
      rw [hl, hL.eq]
    refine ⟨?_, ?_, rfl, rfl, ?_, rfl⟩
    · show -9223372036854775808 ≤ std.sub (std.len (opnsA m.s)) 1 ∧ std.sub (std.len (opnsA m.s)) 1 ≤ 9223372036854775807
      have := hL.eq
      rw [e]
      omega
    · show 0 ≤ std.sub (std.len (opnsA m.s)) 1 ∧ std.sub (std.len (opnsA m.s)) 1 < std.len (opnsA m.s)
      rw [e, e2]; omega
    · show AV.rptr 5 0 (std.sub (std.len (opnsA m.s)) 1) 0 = _
      rw [e]
  · have hi : (L - 1).toNat = m.s.length - 1 := by have := hL.eq; omega
    rw [hi]
    exact top_get hs
def OT.then (l : List Nat) (t : OT) : OT := match l with
  | [] => t
  | i :: r => .cons i (OT.then r t)
def wrO : OT := .then [0, 1, 2, 4, 5, 6, 7, 8, 9, 10, 11, 12, 13, 14, 15, 16, 17, 18, 19, 20, 21] (.fork (.of [3, 22, 23, 24, 25, 26]) (.cons 22 (.fork (.of [3, 23, 24, 25, 26]) (.of [23, 3, 24, 25, 26]))))
set_option maxRecDepth 20000 in
theorem wrong_b (t : Txt) (b : List UInt8) (rt : Int) (m : Mk) (hd : m.d.length ≤ 1000000) (c f u : Int) (hf : 0 ≤ f ∧ f < t.off.length) (hu : 0 ≤ u ∧ u < t.off.length) :
    BCall Tryz.prog 180 [.box 0 0, .val (.int .i64 c), .val (.int .i64 f), .val (.int .i64 u)] (obT 0 t b rt m) (.tup []) (obT 1 t b rt (wrongF t c f u m)) := by
  have olen := ints_len t.off
  have af := ints_at (l := t.off) (i := f) hf.1 hf.2
  have au := ints_at (l := t.off) (i := u) hu.1 hu.2
  have dlen := dgs_len m.d
  unfold obT obM
  refine fnO false (cs0) (fun id => match id with | 1 =>  wrO | _ => .nil) Tryz.func180 rfl fun _ _ => ?_
  with_reducible refine cv8 (nodesA m.n) (dgsA m.d) (opnsA m.s) (bytesA b) (runesA t.r) (intsA t.off) t.kind t.bom ?_
  have ef : (intsA t.off).getD f.toNat .dead = .val (.int .i64 (offA t f)) := by rw [List.getD_eq_getElem?_getD]; exact af
  have eu : (intsA t.off).getD u.toNat .dead = .val (.int .i64 (offA t u)) := by rw [List.getD_eq_getElem?_getD]; exact au
  have hb : ∀ x, std.bnd (dgsA m.d) [x] := fun x => by show (dgsA m.d).length + 1 ≤ 1000000000; omega
  have fin : ∀ x, x = AV.agg [.val (.int .i64 (offA t f)), .val (.int .i64 (offA t u)), .val (.int .i64 c)] → std.app (dgsA m.d) [x] = dgsA (wrongF t c f u m).d := fun x hx => by
    rw [hx]
    show dgsA m.d ++ _ = List.map _ (_ ++ _)
    rw [List.map_append]; rfl
  have fin2 := fin _ (show AV.agg [.val (.int .i64 (std.int (std.nth (std.cel (std.at_ (intsA t.off) f)) 0))), .val (.int .i64 (std.int (std.nth (std.cel (std.at_ (intsA t.off) u)) 0))), .val (.int .i64 c)] = _ by
    show AV.agg [.val (.int .i64 (intOf ((((intsA t.off).getD f.toNat .dead).cells).getD 0 .dead))), .val (.int .i64 (intOf ((((intsA t.off).getD u.toNat .dead).cells).getD 0 .dead))), .val (.int .i64 c)] = _
    rw [ef, eu]; rfl)
  have hc : ∀ x : Int, (intsA t.off).getD x.toNat .dead = .val (.int .i64 (offA t x)) → std.all [std.hasI .i64 (std.nth (std.cel (std.at_ (intsA t.off) x)) 0)] := fun x hx => by
    show (((intsA t.off).getD x.toNat .dead).cells).getD 0 .dead = .val (.int .i64 (intOf ((((intsA t.off).getD x.toNat .dead).cells).getD 0 .dead))) ∧ True
    rw [hx]; exact ⟨rfl, trivial⟩
  have hin : ∀ x : Int, 0 ≤ x ∧ x < t.off.length → std.inb x (std.len (intsA t.off)) := fun x hx => by
    show 0 ≤ x ∧ x < ((intsA t.off).length : Int)
    rw [olen]; exact hx
  refine ⟨hin f hf, hc f ef, hin u hu, hc u eu, ⟨hb _, ?_⟩, ⟨hb _, ?_⟩, hb _, ?_⟩
  all_goals
    refine ⟨[some 0, some 1, some 2, some 3, some 4, some 5], .tup [], _, rfl, rfl, Nat.le_refl _, rfl, ?_, trivial⟩
    simp [AllEq]
    exact ⟨rfl, fin2, rfl⟩
def csLf (p : Pr) (sl : Int → Int → List AV) (lf : Int → List AV → List AV → List AV) : Nat → List AV → List Ob → Option (AV × List Ob) := fun f args ob => match f, args with
  | 255, [.agg _, .slc 1 _, .val (.int .i64 i), .val (.int .i64 j)] => some (.slc 1 (sl i j), [])
  | 81, [.box 0 0, .val (.int .i64 k), .slc 1 bs] => match ob with
    | [.box [.row 1 0], .row 230 6 false 0 N] => some (.val (.int .i64 (p.len N)), [.box [.row 1 1], .row 230 6 false 1 (lf k bs N)])
    | _ => none
  | _, _ => none
def slA (t : Txt) (b : List UInt8) (i j : Int) : List AV := bytesA (sliceF t b i j)
def lfA (k : Int) (bs N : List AV) : List AV := N ++ [(leafF k (bs.map byteOf)).av]
theorem lfA_eq (k : Int) (bs : List UInt8) (l : List Node) : lfA k (bytesA bs) (nodesA l) = nodesA (l ++ [leafF k bs]) := by
  rw [lfA, bytes_back]; simp [nodesA]
theorem slice_len (t : Txt) (b : List UInt8) (i j : Int) : (sliceF t b i j).length ≤ b.length := by
  rw [sliceF, List.length_take, List.length_drop]; omega
set_option maxRecDepth 20000 in
theorem leaf_b (t : Txt) (b : List UInt8) (hb : b.length ≤ 1000000) (ok : TxtOk t b) (hrl : t.r.length ≤ 1000000) (rt : Int) (m : Mk) (hn : m.n.length ≤ 1000000) (kind f u : Int) (wh : Bool) (hf : 0 ≤ f) (hu : f ≤ u) (hl : u ≤ t.r.length) :
    BCall Tryz.prog 184 [.box 0 0, .agg [.val (.int .i64 kind), .val (.int .i64 f), .val (.int .i64 u), .val (.bool wh)]] (obT 0 t b rt m) (.val (.int .i64 m.n.length)) (obT 1 t b rt (mleafF t b kind f u m)) := by
  have cS := Slice_b t b hb ok hrl f u hf hu hl
  have cL := Leaf_b m.n (by omega) kind (sliceF t b f u) (by have := slice_len t b f u; omega)
  rw [← lfA_eq] at cL
  have e3 : nodesA (mleafF t b kind f u m).n = lfA kind (slA t b f u) (nodesA m.n) := (lfA_eq _ _ _).symm
  unfold obT obM
  rw [e3]
  clear hl
  refine fnN (csLf std (slA t b) lfA) Tryz.func184 rfl fun _ _ => ?_
  with_reducible refine cv10 (slA t b) lfA (nodesA m.n) (dgsA m.d) (opnsA m.s) (bytesA b) (runesA t.r) (intsA t.off) t.kind t.bom ?_
  exact ⟨cS, by rw [← nodes_len] at cL; exact cL,
    [some 0, some 1, some 2, some 3, some 4, some 5], .val (.int .i64 m.n.length), _, rfl, rfl, Nat.le_of_ble_eq_true rfl, rfl, by simp [AllEq, std, nodesA, mleafF, addF], .inl rfl⟩
theorem parts_len : ∀ (n : Nat) (r : List Int) (at_ : Int) (first : Bool), r.length ≤ n → (partsGo at_ first r).length ≤ r.length := by
  intro n
  induction n with
  | zero =>
    intro r at_ first h
    have : r = [] := List.eq_nil_of_length_eq_zero (by omega)
    rw [this, partsGo, dif_pos rfl]
    exact Nat.le_refl _
  | succ n ih =>
    intro r at_ first h
    by_cases hr : r = []
    · rw [hr, partsGo, dif_pos rfl]; exact Nat.le_refl _
    · have hn := tpiece_n r first hr
      rw [partsGo, dif_neg hr, List.length_cons]
      have := ih (r.drop (tpieceF r first).2.toNat) (at_ + (tpieceF r first).2) false (by rw [List.length_drop]; omega)
      rw [List.length_drop] at this
      omega
theorem partsF_len (l : List Int) (f u : Int) : (partsF l f u).length ≤ l.length := by
  have := parts_len _ ((l.take u.toNat).drop f.toNat) f true (Nat.le_refl _)
  rw [List.length_drop, List.length_take] at this
  show (partsGo _ _ _).length ≤ _
  omega
theorem partsF_in (l : List Int) (f u : Int) (h0 : 0 ≤ f) (h1 : f ≤ u) (h2 : u ≤ l.length) : ∀ x ∈ partsF l f u, f ≤ x.from_ ∧ x.from_ < x.to ∧ x.to ≤ u := fun x hx => by
  have := partsGo_in [] _ ((l.take u.toNat).drop f.toNat) f true (Nat.le_refl _) x hx
  rw [List.length_drop, List.length_take] at this
  omega
theorem readP_name (ps : List TPart) : (readP ps).name = tpart0 ∨ (readP ps).name = ps[1]?.getD tpart0 := by
  unfold readP
  split
  · simp only
    split
    · exact .inr rfl
    · exact .inr rfl
  · exact .inl rfl
theorem name_in (l : List Int) (f u : Int) (h0 : 0 ≤ f) (h1 : f ≤ u) (h2 : u ≤ l.length) : 0 ≤ (readF l f u).name.from_ ∧ (readF l f u).name.from_ ≤ (readF l f u).name.to ∧ (readF l f u).name.to ≤ l.length := by
  rcases readP_name (partsF l f u) with h | h
  · rw [readF, h]; exact ⟨Int.le_refl _, Int.le_refl _, by show (0 : Int) ≤ _; omega⟩
  · rw [readF, h]
    cases hi : (partsF l f u)[1]? with
    | none => exact ⟨Int.le_refl _, Int.le_refl _, by show (0 : Int) ≤ _; omega⟩
    | some x =>
      have := partsF_in l f u h0 h1 h2 x (List.mem_of_getElem? hi)
      show 0 ≤ x.from_ ∧ x.from_ ≤ x.to ∧ x.to ≤ (l.length : Int)
      omega
theorem Read_b (l : List Int) (hl : l.length ≤ 1000000) (f u : Int) (h0 : 0 ≤ f) (h1 : f ≤ u) (h2 : u ≤ l.length) :
    BCall Tryz.prog 21 [.slc 1 (runesA l), .val (.int .i64 f), .val (.int .i64 u)] [] (.agg [.val (.int .i64 (readF l f u).name.kind), .val (.int .i64 (readF l f u).name.from_), .val (.int .i64 (readF l f u).name.to), .slc 9 (tattrsA (readF l f u).attrs), .val (.bool (readF l f u).right), .val (.bool (readF l f u).empty)]) [] := by
  have hpl := partsF_len l f u
  have hsm : Small (partsF l f u) := fun x hx => by have := partsF_in l f u h0 h1 h2 x hx; omega
  cases hop : takesOk (partsF l f u) 0 [1, 2] with
  | false =>
    have e : readF l f u = ⟨tpart0, [], false, false⟩ := by rw [readF, readP, if_neg (by rw [hop]; decide)]
    rw [e]
    exact Read_none l (by omega) f u h0 h1 h2 _ rfl (by omega) hop
  | true =>
    cases hcl : takesOk (partsF l f u) (tkAt (partsF l f u) (attrsGo (partsF l f u) ((partsF l f u).length + 1) 2).2 3).toNat [6] with
    | false => exact Read_miss l (by omega) f u h0 h1 h2 _ rfl (by omega) hsm hop hcl
    | true => exact Read_hit l (by omega) f u h0 h1 h2 _ rfl (by omega) hsm hop hcl
def csNm (rk rf ru : Int → Int → Int) (ra : Int → Int → List AV) (rr re : Int → Int → Bool) : Nat → List AV → List Ob → Option (AV × List Ob) := fun f args _ => match f, args with
  | 21, [.slc 1 _, .val (.int .i64 f), .val (.int .i64 u)] => some (.agg [.val (.int .i64 (rk f u)), .val (.int .i64 (rf f u)), .val (.int .i64 (ru f u)), .slc 9 (ra f u), .val (.bool (rr f u)), .val (.bool (re f u))], [])
  | _, _ => none
def rdk (l : List Int) (f u : Int) : Int := (readF l f u).name.kind
def rdf (l : List Int) (f u : Int) : Int := (readF l f u).name.from_
def rdu (l : List Int) (f u : Int) : Int := (readF l f u).name.to
def rda (l : List Int) (f u : Int) : List AV := tattrsA (readF l f u).attrs
def rdr (l : List Int) (f u : Int) : Bool := (readF l f u).right
def rde (l : List Int) (f u : Int) : Bool := (readF l f u).empty
def nmO : OT := .then [0, 1, 2, 3, 4, 5, 6, 7, 8, 9, 10, 11] (.fork (.of [12, 13, 14, 15]) (.of [14, 12, 13, 15]))
set_option maxRecDepth 20000 in
theorem name_b (t : Txt) (b : List UInt8) (hrl : t.r.length ≤ 1000000) (rt : Int) (m : Mk) (kind f u : Int) (wh : Bool) (hf : 0 ≤ f) (hu : f ≤ u) (hl : u ≤ t.r.length) :
    BCall Tryz.prog 181 [.box 0 0, .agg [.val (.int .i64 kind), .val (.int .i64 f), .val (.int .i64 u), .val (.bool wh)]] (obT 0 t b rt m) (.slc 1 (runesA (nameF' t f u))) (obT 0 t b rt m) := by
  have cR := Read_b t.r hrl f u hf hu hl
  have hin := name_in t.r f u hf hu hl
  have rlen := runes_len t.r
  unfold obT obM
  refine fnO false (csNm (rdk t.r) (rdf t.r) (rdu t.r) (rda t.r) (rdr t.r) (rde t.r)) (fun id => match id with | 1 =>  nmO | _ => .nil) Tryz.func181 rfl fun _ _ => ?_
  generalize hR : runesA t.r = R
  generalize hO : intsA t.off = O
  generalize hK : t.kind = K
  generalize hM : t.bom = M
  with_reducible refine cv10 (rdk t.r) (rdf t.r) (rdu t.r) (rda t.r) (rdr t.r) (rde t.r) (nodesA m.n) (dgsA m.d) (opnsA m.s) (bytesA b) ?_
  subst hR hO hK hM
  have hcut : std.cutok (rdf t.r f u) (rdu t.r f u) (std.len (runesA t.r)) := by
    show 0 ≤ (readF t.r f u).name.from_ ∧ (readF t.r f u).name.from_ ≤ (readF t.r f u).name.to ∧ (readF t.r f u).name.to ≤ ((runesA t.r).length : Int)
    rw [rlen]; exact hin
  have hres : std.cut (runesA t.r) (rdf t.r f u) (rdu t.r f u) = runesA (nameF' t f u) := by
    show ((runesA t.r).drop (rdf t.r f u).toNat).take _ = _
    simp only [runesA, nameF', List.map_take, List.map_drop]; rfl
  refine ⟨⟨cR, hcut, ?_⟩, cR, hcut, ?_⟩
  all_goals
    exact ⟨[some 0, some 1, some 2, some 3, some 4, some 5], .slc 1 (runesA (nameF' t f u)), _, rfl, rfl, Nat.le_of_ble_eq_true rfl, rfl, by simp [AllEq]; exact hres, .inl rfl⟩
end Go.Proofs.YtcmjijpofkoogaaGreat
namespace Go.Proofs.YtcmjijpofkoogaaGreat
open Go.RowKit Go.Lib
def kdA (n : Int) (S : List AV) : List AV := opnsA (kidS n (opnsB S))
theorem kdA_eq (n : Int) (s : List Opn) : kdA n (opnsA s) = opnsA (kidS n s) := by rw [kdA, opns_back]
def brA (k : Int) (ks N : List AV) : List AV := N ++ [(branchF (nodesB N) k (ks.map intOf)).av]
theorem brA_eq (k : Int) (ks : List Int) (l : List Node) : brA k (intsA ks) (nodesA l) = nodesA (l ++ [branchF l k ks]) := by
  rw [brA, nodes_back, ints_back]; simp [nodesA]
def csSh (p : Pr) (kd : Int → List AV → List AV) (br : Int → List AV → List AV → List AV) : Nat → List AV → List Ob → Option (AV × List Ob) := fun f args ob => match f, args with
  | 80, [.box 0 0, .val (.int .i64 n)] => withM ob fun b k m r o rt N D S => some (.tup [], obM 1 b k m r o rt N D (kd n S))
  | 123, [.box 0 0, .val (.int .i64 k), .slc 1 ks] => match ob with
    | [.box [.row 1 0], .row 230 6 false 0 N] => some (.tup [.val (.int .i64 (p.len N)), .val (.int .i64 0)], [.box [.row 1 1], .row 230 6 false 1 (br k ks N)])
    | _ => none
  | _, _ => none
theorem kidS_len (n : Int) (s : List Opn) : (kidS n s).length = s.length := by simp [kidS]
theorem top_kid (n : Int) {s : List Opn} (h : 1 ≤ s.length) : topF (kidS n s) = ⟨(topF s).name, (topF s).kids ++ [n]⟩ := by
  have h1 : s.length - 1 < (s.set (s.length - 1) ⟨(topF s).name, (topF s).kids ++ [n]⟩).length := by rw [List.length_set]; omega
  have h2 : s.length - 1 < s.length := by omega
  show ((s.set (s.length - 1) ⟨(topF s).name, (topF s).kids ++ [n]⟩)[(s.set (s.length - 1) _).length - 1]?).getD _ = _
  rw [List.length_set, List.getElem?_set_self h2]; rfl
structure ArOk (l : List Node) : Prop where
  w : ∀ n, 0 ≤ widthN l n
  c : ∀ n, 0 ≤ countN l n ∧ countN l n ≤ 2147483647
set_option maxRecDepth 20000 in
set_option maxHeartbeats 1000000 in
theorem shut_b (t : Txt) (b : List UInt8) (rt : Int) (m : Mk) (hs : 2 ≤ m.s.length) (hn : m.s.length ≤ 1000000) (hk : ∀ x ∈ m.s, x.kids.length ≤ 1000000) (hN : m.n.length ≤ 1000000) (ar : ArOk m.n) (last : Int)
    (hl : ∀ k ∈ (topF m.s).kids ++ [last], 0 ≤ k ∧ k < m.n.length) (hsum : wsum m.n ((topF m.s).kids ++ [last]) ≤ 2147483647) :
    BCall Tryz.prog 185 [.box 0 0, .val (.int .i64 last)] (obT 0 t b rt m) (.tup []) (obT 1 t b rt (shutF last m)) := by
  obtain ⟨L, hL⟩ := exLen m.s
  obtain ⟨m1, hm1⟩ : ∃ x, x = kidF last m := ⟨_, rfl⟩
  have hs1 : m1.s = kidS last m.s := by rw [hm1]; rfl
  have hl1 : m1.s.length = m.s.length := by rw [hs1, kidS_len]
  have ht1 : topF m1.s = ⟨(topF m.s).name, (topF m.s).kids ++ [last]⟩ := by rw [hs1]; exact top_kid last (by omega)
  have mem : ∀ i, i < m.s.length → (m.s[i]?.getD ⟨[], []⟩).kids.length ≤ 1000000 := fun i h => by
    have : m.s[i]?.getD ⟨[], []⟩ ∈ m.s := by
      rw [List.getElem?_eq_getElem h]; exact List.getElem_mem h
    exact hk _ this
  have c1 := kid_b t b rt m (by omega) hn (mem _ (by omega)) last
  have c2 := Branch_b m.n (by omega) 21 ((topF m.s).kids ++ [last]) (by have := mem (m.s.length - 1) (by omega); simp only [List.length_append, List.length_singleton]; show ((m.s[m.s.length - 1]?).getD ⟨[], []⟩).kids.length + 1 ≤ _; omega) hl ar.w ar.c hsum
  rw [← brA_eq, ← nodes_len] at c2
  obtain ⟨m2, hm2⟩ : ∃ x, x = addF (branchF m.n 21 ((topF m.s).kids ++ [last])) (popF m1) := ⟨_, rfl⟩
  have hE : shutF last m = kidF m.n.length m2 := by
    rw [hm2, ← (show (topF m1.s).kids = (topF m.s).kids ++ [last] by rw [ht1]), hm1]; rfl
  have hs2 : m2.s = m1.s.take (m1.s.length - 1) := by rw [hm2]; rfl
  have c3 := kid_b t b rt m2 (by rw [hs2, List.length_take]; omega) (by rw [hs2, List.length_take]; omega) (by
    have h1 : m2.s.length - 1 < m.s.length - 1 := by rw [hs2, List.length_take]; omega
    show ((m2.s[m2.s.length - 1]?).getD ⟨[], []⟩).kids.length ≤ _
    have h2 : ∀ j, j < m.s.length - 1 → m2.s[j]? = m.s[j]? := fun j hj => by
      rw [hs2, List.getElem?_take, if_pos (by omega), hs1, kidS, List.getElem?_set_ne (by omega)]
    rw [h2 _ h1]
    exact mem _ (by omega)) m.n.length
  rw [hE]
  clear hl hsum
  unfold obT obM
  refine fnN (csSh std kdA brA) Tryz.func185 rfl fun _ _ => ?_
  with_reducible refine cv10 kdA brA (nodesA m.n) (dgsA m.d) (opnsA m.s) (bytesA b) (runesA t.r) (intsA t.off) t.kind t.bom ?_
  have hi : (((opnsA m1.s).length : Int) - 1).toNat = m1.s.length - 1 := by rw [opns_len]; omega
  have he : (List.drop 1 ((opnsA m1.s).getD (((opnsA m1.s).length : Int) - 1).toNat AV.dead).cells).getD 0 AV.dead = .slc 1 (intsA ((topF m.s).kids ++ [last])) := by
    have e : (opnsA m1.s).getD (m1.s.length - 1) AV.dead = (topF m1.s).av := by rw [List.getD_eq_getElem?_getD, top_get (by rw [hl1]; omega)]; rfl
    rw [hi, e, ht1]
    show slK ((topF m.s).kids ++ [last]) = _
    rw [slK_app, ints_app]; rfl
  have hc : List.take (((opnsA m1.s).length : Int) - 1 - 0).toNat (List.drop (Int.toNat 0) (opnsA m1.s)) = opnsA m2.s := by
    rw [Int.sub_zero, hi, hs2]
    simp [opnsA, List.map_take]
  have el := opns_len m1.s
  have eN : nodesA m2.n = brA 21 (intsA ((topF m.s).kids ++ [last])) (nodesA m.n) := by rw [hm2, brA_eq]; show nodesA (m1.n ++ _) = _; rw [hm1]; rfl
  have eD : m2.d = m.d := by rw [hm2, hm1]; rfl
  have eS : (kidF (m.n.length : Int) m2).s = kidS m.n.length m2.s := rfl
  unfold obT obM at c1 c3
  rw [eS, show (kidF (m.n.length : Int) m2).n = m2.n from rfl, show (kidF (m.n.length : Int) m2).d = m2.d from rfl, eD, eN] at c3
  rw [show (kidF last m).s = m1.s by rw [hm1]] at c1
  simp only [kdA_eq, ← hs1, std, he, hc, lstOf]
  rw [nodes_len] at c2 ⊢
  refine ⟨?_, ?_, ?_, ⟨.inl trivial, trivial⟩, ?_, c2, ?_, ?_⟩
  · exact c1
  · show (-9223372036854775808 : Int) ≤ _ ∧ _ ≤ (9223372036854775807 : Int)
    omega
  · omega
  · omega
  · exact c3
  · exact ⟨[some 0, some 1, some 2, some 3, some 4, some 5], .tup [], _, rfl, rfl, Nat.le_refl _, rfl, by simp [AllEq]; exact ⟨eN.symm, congrArg _ eD.symm, rfl⟩, trivial⟩
def wrA (t : Txt) (c f u : Int) (D : List AV) : List AV := dgsA (dgsB D ++ [⟨offA t f, offA t u, c⟩])
theorem wrA_eq (t : Txt) (c f u : Int) (d : List Dg) : wrA t c f u (dgsA d) = dgsA (d ++ [⟨offA t f, offA t u, c⟩]) := by rw [wrA, dgs_back]
def mkB (N D S : List AV) : Mk := ⟨nodesB N, dgsB D, opnsB S⟩
theorem mk_back (m : Mk) : mkB (nodesA m.n) (dgsA m.d) (opnsA m.s) = m := by rw [mkB, nodes_back, dgs_back, opns_back]
def shAn (l : Int) (N D S : List AV) : List AV := nodesA (shutF l (mkB N D S)).n
def shAs (l : Int) (N D S : List AV) : List AV := opnsA (shutF l (mkB N D S)).s
theorem shut_d (l : Int) (m : Mk) : (shutF l m).d = m.d := rfl
def csMs (p : Pr) (wr : Int → Int → Int → List AV → List AV) (lf : Int → List AV → List AV → List AV) (sn ss : Int → List AV → List AV → List AV → List AV) : Nat → List AV → List Ob → Option (AV × List Ob) := fun f args ob => match f, args with
  | 180, [.box 0 0, .val (.int .i64 c), .val (.int .i64 f), .val (.int .i64 u)] => withM ob fun b k m r o rt N D S => some (.tup [], obM 1 b k m r o rt N (wr c f u D) S)
  | 185, [.box 0 0, .val (.int .i64 n)] => withM ob fun b k m r o rt N D S => some (.tup [], obM 1 b k m r o rt (sn n N D S) D (ss n N D S))
  | 81, [.box 0 0, .val (.int .i64 k), .val (.slice none 0 0)] => match ob with
    | [.box [.row 1 0], .row 230 6 false 0 N] => some (.val (.int .i64 (p.len N)), [.box [.row 1 1], .row 230 6 false 1 (lf k [] N)])
    | _ => none
  | _, _ => none
set_option maxRecDepth 20000 in
set_option maxHeartbeats 1000000 in
theorem miss_b (t : Txt) (b : List UInt8) (rt : Int) (m : Mk) (hd : m.d.length ≤ 1000000) (at_ : Int) (ha : 0 ≤ at_ ∧ at_ < t.off.length) (hs : 2 ≤ m.s.length) (hn : m.s.length ≤ 1000000) (hk : ∀ x ∈ m.s, x.kids.length ≤ 1000000) (hN : m.n.length < 1000000) (ar : ArOk (m.n ++ [leafF 22 []]))
    (hl : ∀ k ∈ (topF m.s).kids, 0 ≤ k ∧ k < m.n.length) (hsum : wsum (m.n ++ [leafF 22 []]) ((topF m.s).kids ++ [(m.n.length : Int)]) ≤ 2147483647) :
    BCall Tryz.prog 122 [.box 0 0, .val (.int .i64 at_)] (obT 0 t b rt m) (.tup []) (obT 1 t b rt (missF t at_ m)) := by
  have c1 := wrong_b t b rt m hd 4 at_ at_ ha ha
  obtain ⟨m1, hm1⟩ : ∃ x, x = wrongF t 4 at_ at_ m := ⟨_, rfl⟩
  rw [← hm1] at c1
  have c2 := (Leaf_b m1.n (by rw [hm1]; show m.n.length < _; omega) 22 [] (by simp)).le (args := [.box 0 0, .val (.int .i64 22), .val (.slice none 0 0)]) ⟨.inl rfl, .inl rfl, .inr (.inl ⟨rfl, _, rfl⟩), trivial⟩
  obtain ⟨m2, hm2⟩ : ∃ x, x = addF (leafF 22 []) m1 := ⟨_, rfl⟩
  have e2n : m2.n = m.n ++ [leafF 22 []] := by rw [hm2, hm1]; rfl
  have e2s : m2.s = m.s := by rw [hm2, hm1]; rfl
  have c3 := shut_b t b rt m2 (by rw [e2s]; exact hs) (by rw [e2s]; exact hn) (by rw [e2s]; exact hk) (by rw [e2n]; simp; omega) (by rw [e2n]; exact ar) m.n.length (by
    rw [e2n, e2s]
    intro k hk
    rw [List.length_append, List.length_singleton]
    rcases List.mem_append.1 hk with h | h
    · have := hl k h; omega
    · obtain rfl : k = (m.n.length : Int) := by simpa using h
      omega) (by rw [e2n, e2s]; exact hsum)
  have hE : missF t at_ m = shutF m.n.length m2 := by rw [hm2, hm1]; rfl
  rw [hE]
  clear hl hsum
  unfold obT obM
  refine fnN (csMs std (wrA t) lfA shAn shAs) Tryz.func122 rfl fun _ _ => ?_
  generalize hK : t.kind = K
  generalize hM : t.bom = M
  with_reducible refine cv10 (wrA t) lfA shAn shAs (nodesA m.n) (dgsA m.d) (opnsA m.s) (bytesA b) (runesA t.r) (intsA t.off) ?_
  subst hK hM
  have e2d : m2.d = m.d ++ [⟨offA t at_, offA t at_, 4⟩] := by rw [hm2, hm1]; rfl
  have eL : lfA 22 [] (nodesA m.n) = nodesA m2.n := by rw [e2n, ← lfA_eq]; rfl
  have eW : wrA t 4 at_ at_ (dgsA m.d) = dgsA m2.d := by rw [wrA_eq, e2d]
  have f1 : ∀ l, shAn l (nodesA m2.n) (dgsA m2.d) (opnsA m.s) = nodesA (shutF l m2).n := fun l => by rw [shAn, ← e2s, mk_back]
  have f2 : ∀ l, shAs l (nodesA m2.n) (dgsA m2.d) (opnsA m.s) = opnsA (shutF l m2).s := fun l => by rw [shAs, ← e2s, mk_back]
  unfold obT obM at c1 c3
  rw [show m1.n = m.n by rw [hm1]; rfl, show m1.s = m.s by rw [hm1]; rfl, show m1.d = m2.d by rw [hm2]; rfl] at c1
  rw [show m1.n = m.n by rw [hm1]; rfl, ← e2n] at c2
  rw [e2s, shut_d] at c3
  simp only [std, eL, eW, f1, f2, nodes_len]
  exact ⟨c1, c2, c3, [some 0, some 1, some 2, some 3, some 4, some 5], .tup [], _, rfl, rfl, Nat.le_refl _, rfl, by simp [AllEq]; rfl, trivial⟩
end Go.Proofs.YtcmjijpofkoogaaGreat
namespace Go.Proofs.YtcmjijpofkoogaaGreat
open Go.RowKit Go.Lib
def lfT (t : Txt) (b : List UInt8) (k f u : Int) (N : List AV) : List AV := N ++ [(leafF k (sliceF t b f u)).av]
theorem lfT_eq (t : Txt) (b : List UInt8) (k f u : Int) (l : List Node) : lfT t b k f u (nodesA l) = nodesA (l ++ [leafF k (sliceF t b f u)]) := by simp [lfT, nodesA]
def nmA (t : Txt) (f u : Int) : List AV := runesA (nameF' t f u)
def csSt (p : Pr) (nm : Int → Int → List AV) (wr : Int → Int → Int → List AV → List AV) (lf : Int → Int → Int → List AV → List AV) (kd : Int → List AV → List AV) : Nat → List AV → List Ob → Option (AV × List Ob) := fun f args ob => match f, args with
  | 181, [.box 0 0, .agg [_, .val (.int .i64 f), .val (.int .i64 u), _]] => some (.slc 1 (nm f u), ob)
  | 180, [.box 0 0, .val (.int .i64 c), .val (.int .i64 f), .val (.int .i64 u)] => withM ob fun b k m r o rt N D S => some (.tup [], obM 1 b k m r o rt N (wr c f u D) S)
  | 184, [.box 0 0, .agg [.val (.int .i64 kind), .val (.int .i64 f), .val (.int .i64 u), _]] => withM ob fun b k m r o rt N D S => some (.val (.int .i64 (p.len N)), obM 1 b k m r o rt (lf kind f u N) D S)
  | 80, [.box 0 0, .val (.int .i64 n)] => withM ob fun b k m r o rt N D S => some (.tup [], obM 1 b k m r o rt N D (kd n S))
  | _, _ => none
structure InT (t : Txt) (f u : Int) : Prop where
  h0 : 0 ≤ f
  h1 : f ≤ u
  h2 : u ≤ t.r.length
structure Sml (t : Txt) (b : List UInt8) : Prop where
  hb : b.length ≤ 1000000
  hr : t.r.length ≤ 1000000
  ok : TxtOk t b
theorem InT.off {t : Txt} {b : List UInt8} {f u : Int} (h : InT t f u) (hs : Sml t b) : (0 ≤ f ∧ f < t.off.length) ∧ 0 ≤ u ∧ u < t.off.length := by
  have := hs.ok.len
  have h0 := h.h0
  have h1 := h.h1
  have h2 := h.h2
  omega
structure MkOk (m : Mk) : Prop where
  n : m.n.length ≤ 900000
  d : m.d.length ≤ 900000
  s : m.s.length ≤ 900000
  s1 : 1 ≤ m.s.length
  k : ∀ x ∈ m.s, x.kids.length ≤ 900000
theorem MkOk.top {m : Mk} (h : MkOk m) : (topF m.s).kids.length ≤ 900000 := by
  have h1 := h.s1
  have : m.s.length - 1 < m.s.length := by omega
  show ((m.s[m.s.length - 1]?).getD ⟨[], []⟩).kids.length ≤ _
  rw [List.getElem?_eq_getElem this]
  exact h.k _ (List.getElem_mem this)
set_option maxRecDepth 20000 in
set_option maxHeartbeats 1000000 in
theorem start_b (t : Txt) (b : List UInt8) (hs : Sml t b) (rt : Int) (m : Mk) (ok : MkOk m) (kind f u : Int) (wh : Bool) (hi : InT t f u) (hne : nameF' t f u ≠ []) :
    BCall Tryz.prog 182 [.box 0 0, .agg [.val (.int .i64 kind), .val (.int .i64 f), .val (.int .i64 u), .val (.bool wh)]] (obT 0 t b rt m) (.tup []) (obT 1 t b rt (startF' t b kind f u m)) := by
  have cN := name_b t b hs.hr rt m kind f u wh hi.h0 hi.h1 hi.h2
  have hoff := hi.off hs
  have hn := ok.n
  have hd := ok.d
  have hl := ok.s
  have hl1 := ok.s1
  have cW := wrong_b t b rt m (by omega) 5 f u hoff.1 hoff.2
  obtain ⟨ma, hma⟩ : ∃ x, x = wrongF t 5 f u m := ⟨_, rfl⟩
  have cLa := leaf_b t b hs.hb hs.ok hs.hr rt ma (by rw [hma]; show m.n.length ≤ _; omega) kind f u wh hi.h0 hi.h1 hi.h2
  have cKa := kid_b t b rt (mleafF t b kind f u ma) (by rw [hma]; exact hl1) (by rw [hma]; show m.s.length ≤ _; omega) (by rw [hma]; have := ok.top; show (topF m.s).kids.length ≤ _; omega) m.n.length
  obtain ⟨mb, hmb⟩ : ∃ x : Mk, x = { m with s := m.s ++ [⟨nameF' t f u, []⟩] } := ⟨_, rfl⟩
  have hbs : mb.s = m.s ++ [⟨nameF' t f u, []⟩] := by rw [hmb]
  have cLb := leaf_b t b hs.hb hs.ok hs.hr rt mb (by rw [hmb]; show m.n.length ≤ _; omega) kind f u wh hi.h0 hi.h1 hi.h2
  have cKb := kid_b t b rt (mleafF t b kind f u mb) (by show 1 ≤ mb.s.length; rw [hbs]; simp) (by show mb.s.length ≤ _; rw [hbs]; simp; omega) (by show (topF mb.s).kids.length ≤ _; rw [hbs]; simp [topF]) m.n.length
  have hE : startF' t b kind f u m = if 64 < m.s.length then kidF m.n.length (mleafF t b kind f u ma) else kidF m.n.length (mleafF t b kind f u mb) := by rw [hma, hmb]; rfl
  rw [hE]
  clear hE hoff
  unfold obT obM
  refine fnN (csSt std (nmA t) (wrA t) (lfT t b) kdA) Tryz.func182 rfl fun _ _ => ?_
  generalize hK : t.kind = K
  generalize hM : t.bom = M
  with_reducible refine cv10 (nmA t) (wrA t) (lfT t b) kdA (nodesA m.n) (dgsA m.d) (opnsA m.s) (bytesA b) (runesA t.r) (intsA t.off) ?_
  subst hK hM
  subst hma hmb
  simp only [obT, obM, mleafF, addF, kidF, wrongF] at cN cW cLa cKa cLb cKb
  have eS : opnsA m.s ++ [AV.agg [AV.slc 1 (nmA t f u), AV.val (Value.slice none 0 0)]] = opnsA (m.s ++ [⟨nameF' t f u, []⟩]) := by
    have : slR (nameF' t f u) = .slc 1 (nmA t f u) := by
      show slR (nameF' t f u) = .slc 1 (runesA (nameF' t f u))
      cases h : nameF' t f u with
      | nil => exact absurd h hne
      | cons x r => rfl
    rw [← this]; simp [opnsA, Opn.av, slK, nilA]
  have eb : std.bnd (opnsA m.s) [AV.agg [AV.slc 1 (nmA t f u), AV.val (Value.slice none 0 0)]] := by
    show (opnsA m.s).length + 1 ≤ 1000000000
    rw [opns_len]; omega
  refine ⟨cN, fun hd => ?_, fun hd => ⟨eb, ?_⟩⟩
  · have hg : 64 < m.s.length := by
      have : (64 : Int) < ((opnsA m.s).length : Int) := of_decide_eq_true hd
      rw [opns_len] at this; omega
    simp only [std, lfT_eq, wrA_eq, kdA_eq, nodes_len, if_pos hg, mleafF, addF, kidF, wrongF]
    exact ⟨cW, cLa, cKa, [some 0, some 1, some 2, some 3, some 4, some 5], .tup [], _, rfl, rfl, Nat.le_of_ble_eq_true rfl, rfl, by simp [AllEq], trivial⟩
  · have hg : ¬ 64 < m.s.length := by
      have : ¬ (64 : Int) < ((opnsA m.s).length : Int) := of_decide_eq_false hd
      rw [opns_len] at this; omega
    simp only [std, eS, lfT_eq, wrA_eq, kdA_eq, nodes_len, if_neg hg, mleafF, addF, kidF, wrongF]
    exact ⟨cLb, cKb, [some 0, some 1, some 2, some 3, some 4, some 5], .tup [], _, rfl, rfl, Nat.le_of_ble_eq_true rfl, rfl, by simp [AllEq], trivial⟩
end Go.Proofs.YtcmjijpofkoogaaGreat
namespace Go.Proofs.YtcmjijpofkoogaaGreat
open Go.RowKit Go.Lib
theorem nodeAt_old {l : List Node} {x : Node} {n : Int} (h0 : 0 ≤ n) (h1 : n < l.length) : nodeAt (l ++ [x]) n = nodeAt l n := by
  have h2 : n.toNat < l.length := by omega
  have h3 : n < ((l ++ [x]).length : Int) := by simp only [List.length_append, List.length_singleton]; omega
  rw [nodeAt, nodeAt, if_pos ⟨h0, h3⟩, if_pos ⟨h0, h1⟩, List.getElem?_append_left h2]
theorem nodeAt_new {l : List Node} {x : Node} : nodeAt (l ++ [x]) l.length = x := by
  rw [nodeAt, if_pos ⟨by omega, by simp only [List.length_append, List.length_singleton]; omega⟩, Int.toNat_natCast]
  simp
theorem nodeAt_out {l : List Node} {n : Int} (h : ¬ (0 ≤ n ∧ n < l.length)) : nodeAt l n = node0 := by rw [nodeAt, if_neg h]
theorem at_cases {l : List Node} {x : Node} (n : Int) : (0 ≤ n ∧ n < l.length ∧ nodeAt (l ++ [x]) n = nodeAt l n) ∨ (n = l.length ∧ nodeAt (l ++ [x]) n = x) ∨ nodeAt (l ++ [x]) n = node0 := by
  by_cases h : 0 ≤ n ∧ n < l.length
  · exact .inl ⟨h.1, h.2, nodeAt_old h.1 h.2⟩
  · by_cases h2 : n = l.length
    · subst h2; exact .inr (.inl ⟨rfl, nodeAt_new⟩)
    · exact .inr (.inr (nodeAt_out (by simp; omega)))
def InR (l : List Node) (ks : List Int) : Prop := ∀ k ∈ ks, 0 ≤ k ∧ k < l.length
theorem InR.more {l : List Node} {ks : List Int} (h : InR l ks) (x : Node) : InR (l ++ [x]) ks := fun k hk => by have := h k hk; simp; omega
theorem wf_add {l : List Node} (h : Wf l) {x : Node} (hx : InR l x.kids) : Wf (l ++ [x]) := fun n h0 h1 k hk => by
  rcases at_cases (l := l) (x := x) n with ⟨h2, h3, h4⟩ | ⟨h2, h4⟩ | h4
  · rw [h4] at hk; exact h n h2 h3 k hk
  · rw [h4] at hk; rw [h2]; exact hx k hk
  · rw [h4] at hk; cases hk
theorem prF_old {l : List Node} (h : Wf l) (x : Node) : ∀ (f : Nat) (n : Int), 0 ≤ n → n < l.length → prF (l ++ [x]) f n = prF l f n
  | 0, _, _, _ => rfl
  | f + 1, n, h0, h1 => by
    simp only [prF, nodeAt_old h0 h1]
    congr 1
    refine congrArg List.flatten (List.map_congr_left fun k hk => ?_)
    have := h n h0 h1 k hk
    exact prF_old h x f k this.1 (by omega)
theorem pr_old {l : List Node} (h : Wf l) (x : Node) {n : Int} (h0 : 0 ≤ n) (h1 : n < l.length) : pr (l ++ [x]) n = pr l n := prF_old h x _ n h0 h1
theorem prs_old {l : List Node} (h : Wf l) (x : Node) {ks : List Int} (hk : InR l ks) : ks.flatMap (pr (l ++ [x])) = ks.flatMap (pr l) :=
  congrArg List.flatten (List.map_congr_left fun k hk' => pr_old h x (hk k hk').1 (hk k hk').2)
theorem pr_new {l : List Node} (h : Wf l) {x : Node} (hx : InR l x.kids) : pr (l ++ [x]) l.length = x.b ++ x.kids.flatMap (pr l) := by
  rw [pr_eq (wf_add h hx) (by omega) (by simp only [List.length_append, List.length_singleton]; omega), nodeAt_new, prs_old h x hx]
theorem wide_add {l : List Node} (h : Wf l) (hw : Wide l) {x : Node} (hx : InR l x.kids) (hxw : x.width = (x.b ++ x.kids.flatMap (pr l)).length) : Wide (l ++ [x]) := fun n h0 h1 => by
  rcases at_cases (l := l) (x := x) n with ⟨h2, h3, h4⟩ | ⟨h2, h4⟩ | h4
  · rw [h4, pr_old h x h2 h3]; exact hw n h2 h3
  · rw [h4, h2, pr_new h hx]; exact hxw
  · have h1 : n < ((l ++ [x]).length : Int) := h1
    by_cases h2 : n < l.length
    · rw [nodeAt_old h0 h2] at h4
      rw [nodeAt_old h0 h2, pr_old h x h0 h2]; exact hw n h0 h2
    · have h3 : n = l.length := by simp at h1; omega
      subst h3
      rw [nodeAt_new, pr_new h hx]; exact hxw
theorem ar_add {l : List Node} (h : ArOk l) {x : Node} (hw : 0 ≤ x.width) (hc : 0 ≤ x.count ∧ x.count ≤ 2147483647) : ArOk (l ++ [x]) := by
  refine ⟨fun n => ?_, fun n => ?_⟩
  · rw [widthN]
    rcases at_cases (l := l) (x := x) n with ⟨_, _, h4⟩ | ⟨_, h4⟩ | h4
    · rw [h4]; exact h.w n
    · rw [h4]; exact hw
    · rw [h4]; exact Int.le_refl _
  · rw [countN]
    rcases at_cases (l := l) (x := x) n with ⟨_, _, h4⟩ | ⟨_, h4⟩ | h4
    · rw [h4]; exact h.c n
    · rw [h4]; exact hc
    · rw [h4]; exact ⟨Int.le_refl _, by show (0 : Int) ≤ _; omega⟩
structure Ar (l : List Node) : Prop where
  wf : Wf l
  wide : Wide l
  ok : ArOk l
theorem ar_nil : Ar [] := ⟨fun n h0 h1 => by simp at h1; omega, fun n h0 h1 => by simp at h1; omega, ⟨fun n => by rw [widthN, nodeAt_out (fun h => by simp at h; omega)]; exact Int.le_refl _, fun n => by rw [countN, nodeAt_out (fun h => by simp at h; omega)]; exact ⟨Int.le_refl _, by show (0 : Int) ≤ _; omega⟩⟩⟩
theorem ar_leaf {l : List Node} (h : Ar l) (k : Int) (bs : List UInt8) : Ar (l ++ [leafF k bs]) ∧ pr (l ++ [leafF k bs]) l.length = bs := by
  have hx : InR l (leafF k bs).kids := fun k hk => by cases hk
  refine ⟨⟨wf_add h.wf hx, wide_add h.wf h.wide hx (by simp [leafF]), ar_add h.ok (by show (0 : Int) ≤ (bs.length : Int); omega) (by show (0 : Int) ≤ 1 ∧ (1 : Int) ≤ _; omega)⟩, ?_⟩
  rw [pr_new h.wf hx]
  simp [leafF]
theorem wsum_pr {l : List Node} (hw : Wide l) : ∀ {ks : List Int}, InR l ks → wsum l ks = (ks.flatMap (pr l)).length
  | [], _ => rfl
  | k :: r, hk => by
    have ih := wsum_pr hw (ks := r) (fun x hx => hk x (List.mem_cons_of_mem _ hx))
    have h1 := hk k (List.mem_cons_self ..)
    have h2 := hw k h1.1 h1.2
    simp only [wsum, List.map_cons, List.sum_cons, List.flatMap_cons, List.length_append] at ih ⊢
    rw [widthN, h2, ih]; omega
theorem ar_branch {l : List Node} (h : Ar l) (k : Int) {ks : List Int} (hk : InR l ks) : Ar (l ++ [branchF l k ks]) ∧ pr (l ++ [branchF l k ks]) l.length = ks.flatMap (pr l) := by
  have hx : InR l (branchF l k ks).kids := hk
  refine ⟨⟨wf_add h.wf hx, wide_add h.wf h.wide hx ?_, ar_add h.ok (wsum_pos h.ok.w ks) (cnt_range h.ok.c ks)⟩, ?_⟩
  · show wsum l ks = (([] : List UInt8) ++ ks.flatMap (pr l)).length
    rw [List.nil_append]; exact wsum_pr h.wide hk
  · rw [pr_new h.wf hx]; rfl
theorem top_app (s : List Opn) (x : Opn) : topF (s ++ [x]) = x := by simp [topF]
theorem kid_app (n : Int) (s : List Opn) (x : Opn) : kidS n (s ++ [x]) = s ++ [⟨x.name, x.kids ++ [n]⟩] := by
  rw [kidS, top_app]
  simp
theorem top_split {s : List Opn} (h : 1 ≤ s.length) : ∃ s0, s = s0 ++ [topF s] := by
  refine ⟨s.dropLast, ?_⟩
  have hne : s ≠ [] := by rintro rfl; simp at h
  have h2 : topF s = s.getLast hne := by
    rw [topF, List.getLast_eq_getElem, List.getElem?_eq_getElem (by omega)]; rfl
  rw [h2]; exact (List.dropLast_concat_getLast hne).symm
def prK (l : List Node) (s : List Opn) : List UInt8 := s.flatMap fun x => x.kids.flatMap (pr l)
def kidsLen (s : List Opn) : Nat := (s.map fun x => x.kids.length).sum
structure MkInv (m : Mk) (X : List UInt8) (B D : Nat) : Prop where
  ar : Ar m.n
  rng : ∀ x ∈ m.s, InR m.n x.kids
  p : prK m.n m.s = X
  s1 : 1 ≤ m.s.length
  n : m.n.length + 2 * m.s.length ≤ B
  d : m.d.length + 2 * m.s.length ≤ D
  k : kidsLen m.s + 2 * m.s.length ≤ B
  nm : ∀ x ∈ m.s, x.name.length ≤ 1000000
theorem kids_le {s : List Opn} {x : Opn} (h : x ∈ s) : x.kids.length ≤ kidsLen s := by
  induction s with
  | nil => cases h
  | cons y r ih =>
    simp only [kidsLen, List.map_cons, List.sum_cons] at ih ⊢
    rcases List.mem_cons.1 h with rfl | h
    · omega
    · have := ih h; omega
theorem MkInv.ok {m : Mk} {X : List UInt8} {B D : Nat} (h : MkInv m X B D) (hB : B ≤ 900000) (hD : D ≤ 900000) : MkOk m :=
  ⟨by have := h.n; omega, by have := h.d; omega, by have := h.n; omega, h.s1, fun x hx => by have := h.k; have := kids_le hx; omega⟩
theorem inv_wrong {m : Mk} {X : List UInt8} {B D : Nat} (h : MkInv m X B D) (t : Txt) (c f u : Int) : MkInv (wrongF t c f u m) X B (D + 1) :=
  ⟨h.ar, h.rng, h.p, h.s1, by have := h.n; show m.n.length + 2 * m.s.length ≤ _; omega, by have := h.d; show (m.d ++ _).length + 2 * m.s.length ≤ _; simp; omega, by have := h.k; show kidsLen m.s + 2 * m.s.length ≤ _; omega, h.nm⟩
theorem prK_old {l : List Node} (h : Wf l) (x : Node) {s : List Opn} (hs : ∀ y ∈ s, InR l y.kids) : prK (l ++ [x]) s = prK l s :=
  congrArg List.flatten (List.map_congr_left fun y hy => prs_old h x (hs y hy))
theorem prK_app (l : List Node) (s : List Opn) (x : Opn) : prK l (s ++ [x]) = prK l s ++ x.kids.flatMap (pr l) := by simp [prK]
theorem kidsLen_app (s : List Opn) (x : Opn) : kidsLen (s ++ [x]) = kidsLen s + x.kids.length := by simp [kidsLen]
theorem inv_kid {m : Mk} {X : List UInt8} {B D : Nat} (h : MkInv m X B D) {x : Node} {Y : List UInt8} (ha : Ar (m.n ++ [x])) (hp : pr (m.n ++ [x]) m.n.length = Y) : MkInv (kidF m.n.length (addF x m)) (X ++ Y) (B + 1) D := by
  obtain ⟨s0, hs0⟩ := top_split h.s1
  generalize topF m.s = y at hs0
  have e : (kidF m.n.length (addF x m)).s = s0 ++ [⟨y.name, y.kids ++ [(m.n.length : Int)]⟩] := by
    show kidS m.n.length m.s = _
    rw [hs0, kid_app]
  have en : (kidF m.n.length (addF x m)).n = m.n ++ [x] := rfl
  have hr := h.rng
  rw [hs0] at hr
  have hr0 : ∀ z ∈ s0, InR m.n z.kids := fun z hz => hr z (List.mem_append_left _ hz)
  have hry : InR m.n y.kids := hr y (by simp)
  have h1 := h.n
  have h2 := h.d
  have h3 := h.k
  have h4 := h.p
  rw [hs0] at h1 h2 h3 h4
  rw [kidsLen_app] at h3
  rw [prK_app] at h4
  simp only [List.length_append, List.length_singleton] at h1 h2 h3
  have hnm := h.nm
  rw [hs0] at hnm
  refine ⟨by rw [en]; exact ha, fun z hz => ?_, ?_, by rw [e]; simp, ?_, ?_, ?_, fun z hz => ?_⟩
  · rw [en]
    rw [e] at hz
    rcases List.mem_append.1 hz with hz | hz
    · exact (hr0 z hz).more x
    · obtain rfl : z = ⟨y.name, y.kids ++ [(m.n.length : Int)]⟩ := by simpa using hz
      intro k hk
      rcases List.mem_append.1 hk with hk | hk
      · exact hry.more x k hk
      · obtain rfl : k = (m.n.length : Int) := by simpa using hk
        simp; omega
  · rw [e, en, prK_app, prK_old h.ar.wf x hr0]
    simp only [List.flatMap_append, List.flatMap_cons, List.flatMap_nil, List.append_nil]
    rw [prs_old h.ar.wf x hry, hp, ← List.append_assoc, h4]
  · rw [e, en]; simp only [List.length_append, List.length_singleton]; omega
  · rw [e]; show m.d.length + _ ≤ _; simp only [List.length_append, List.length_singleton]; omega
  · rw [e, kidsLen_app]; simp only [List.length_append, List.length_singleton]; omega
  · rw [e] at hz
    rcases List.mem_append.1 hz with hz | hz
    · exact hnm z (List.mem_append_left _ hz)
    · obtain rfl : z = ⟨y.name, y.kids ++ [(m.n.length : Int)]⟩ := by simpa using hz
      exact hnm y (by simp)
theorem inv_lk {m : Mk} {X : List UInt8} {B D : Nat} (h : MkInv m X B D) (t : Txt) (b : List UInt8) (kind f u : Int) : MkInv (lkF t b kind f u m) (X ++ sliceF t b f u) (B + 1) D :=
  inv_kid h (ar_leaf h.ar kind _).1 (ar_leaf h.ar kind _).2
theorem inv_push {m : Mk} {X : List UInt8} {B D : Nat} (h : MkInv m X B D) (nm : List Int) (hnm : nm.length ≤ 1000000) : MkInv { m with s := m.s ++ [⟨nm, []⟩] } X (B + 2) (D + 2) := by
  have h1 := h.n
  have h2 := h.d
  have h3 := h.k
  refine ⟨h.ar, fun z hz => ?_, ?_, by simp, ?_, ?_, ?_, fun z hz => ?_⟩
  · rcases List.mem_append.1 hz with hz | hz
    · exact h.rng z hz
    · obtain rfl : z = ⟨nm, []⟩ := by simpa using hz
      intro k hk; cases hk
  · rw [prK_app]; simpa using h.p
  · simp only [List.length_append, List.length_singleton]; omega
  · simp only [List.length_append, List.length_singleton]; omega
  · rw [kidsLen_app]; simp only [List.length_append, List.length_singleton, List.length_nil]; omega
  · rcases List.mem_append.1 hz with hz | hz
    · exact h.nm z hz
    · obtain rfl : z = ⟨nm, []⟩ := by simpa using hz
      exact hnm
theorem inv_shut {m : Mk} {X : List UInt8} {B D : Nat} (h : MkInv m X B D) (hs : 2 ≤ m.s.length) (kind : Int) (bs : List UInt8) {D' : Nat} (hD : D ≤ D' + 2) : MkInv (shutF m.n.length (addF (leafF kind bs) m)) (X ++ bs) B D' ∧ (shutF m.n.length (addF (leafF kind bs) m)).s.length = m.s.length - 1 ∧
    InR (m.n ++ [leafF kind bs]) ((topF m.s).kids ++ [(m.n.length : Int)]) ∧ (((topF m.s).kids ++ [(m.n.length : Int)]).flatMap (pr (m.n ++ [leafF kind bs]))).length ≤ X.length + bs.length := by
  obtain ⟨s1, hs1⟩ := top_split h.s1
  generalize topF m.s = x at hs1
  have hl1 : 1 ≤ s1.length := by rw [hs1] at hs; simp at hs; omega
  obtain ⟨s0, hs0⟩ := top_split hl1
  generalize topF s1 = y at hs0
  subst hs0
  obtain ⟨ha1, hp1⟩ := ar_leaf h.ar kind bs
  have hr := h.rng
  rw [hs1] at hr
  have hr0 : ∀ z ∈ s0, InR m.n z.kids := fun z hz => hr z (List.mem_append_left _ (List.mem_append_left _ hz))
  have hry : InR m.n y.kids := hr y (List.mem_append_left _ (by simp))
  have hrx : InR m.n x.kids := hr x (by simp)
  have hks : InR (m.n ++ [leafF kind bs]) (x.kids ++ [(m.n.length : Int)]) := fun k hk => by
    rcases List.mem_append.1 hk with hk | hk
    · exact hrx.more _ k hk
    · obtain rfl : k = (m.n.length : Int) := by simpa using hk
      simp; omega
  obtain ⟨l1, hl⟩ : ∃ l1, l1 = m.n ++ [leafF kind bs] := ⟨_, rfl⟩
  obtain ⟨ha2, hp2⟩ := ar_branch ha1 21 hks
  obtain ⟨z, hz⟩ : ∃ z, z = branchF l1 21 (x.kids ++ [(m.n.length : Int)]) := ⟨_, rfl⟩
  have hpk : (x.kids ++ [(m.n.length : Int)]).flatMap (pr l1) = x.kids.flatMap (pr m.n) ++ bs := by
    rw [hl]
    simp only [List.flatMap_append, List.flatMap_cons, List.flatMap_nil, List.append_nil]
    rw [prs_old h.ar.wf _ hrx, hp1]
  rw [← hl] at ha1 ha2 hp2 hks ⊢
  rw [← hz] at ha2 hp2
  have eT : topF (kidF (m.n.length : Int) (addF (leafF kind bs) m)).s = ⟨x.name, x.kids ++ [(m.n.length : Int)]⟩ := by
    show topF (kidS m.n.length m.s) = _
    rw [hs1, kid_app, top_app]
  have en : (shutF m.n.length (addF (leafF kind bs) m)).n = l1 ++ [z] := by
    show (m.n ++ [leafF kind bs]) ++ [branchF (m.n ++ [leafF kind bs]) 21 (topF (kidF (m.n.length : Int) (addF (leafF kind bs) m)).s).kids] = _
    rw [eT, ← hl, ← hz]
  have es : (shutF m.n.length (addF (leafF kind bs) m)).s = s0 ++ [⟨y.name, y.kids ++ [(l1.length : Int)]⟩] := by
    show kidS ((m.n ++ [leafF kind bs]).length : Int) ((kidS m.n.length m.s).take ((kidS m.n.length m.s).length - 1)) = _
    have e2 : (kidS m.n.length m.s).take ((kidS m.n.length m.s).length - 1) = s0 ++ [y] := by
      rw [hs1, kid_app, show (s0 ++ [y] ++ [(⟨x.name, x.kids ++ [(m.n.length : Int)]⟩ : Opn)]).length - 1 = (s0 ++ [y]).length by simp]
      exact List.take_left
    rw [e2, kid_app, hl]
  have h1 := h.n
  have h2 := h.d
  have h3 := h.k
  have h4 := h.p
  rw [hs1] at h1 h2 h3 h4
  rw [kidsLen_app, kidsLen_app] at h3
  rw [prK_app, prK_app] at h4
  simp only [List.length_append, List.length_singleton] at h1 h2 h3
  have hll : l1.length = m.n.length + 1 := by rw [hl]; simp
  have hnm := h.nm
  rw [hs1] at hnm
  refine ⟨⟨by rw [en]; exact ha2, fun q hq => ?_, ?_, by rw [es]; simp, ?_, ?_, ?_, fun q hq => ?_⟩, by rw [es, hs1]; simp, hks, ?_⟩
  · rw [en]
    rw [es] at hq
    have up : ∀ {ks : List Int}, InR m.n ks → InR (l1 ++ [z]) ks := fun hk => by
      rw [hl]; exact (hk.more _).more _
    rcases List.mem_append.1 hq with hq | hq
    · exact up (hr0 q hq)
    · obtain rfl : q = ⟨y.name, y.kids ++ [(l1.length : Int)]⟩ := by simpa using hq
      intro k hk
      rcases List.mem_append.1 hk with hk | hk
      · exact up hry k hk
      · obtain rfl : k = (l1.length : Int) := by simpa using hk
        simp; omega
  · have up0 : prK (l1 ++ [z]) s0 = prK m.n s0 := by
      rw [prK_old ha1.wf z (fun q hq => by rw [hl]; exact (hr0 q hq).more _), hl, prK_old h.ar.wf _ hr0]
    have upy : y.kids.flatMap (pr (l1 ++ [z])) = y.kids.flatMap (pr m.n) := by
      rw [prs_old ha1.wf z (by rw [hl]; exact hry.more _), hl, prs_old h.ar.wf _ hry]
    rw [es, en, prK_app, up0]
    simp only [List.flatMap_append, List.flatMap_cons, List.flatMap_nil, List.append_nil]
    rw [upy, hp2, hpk, ← h4]
    simp only [List.append_assoc]
  · rw [es, en]; simp only [List.length_append, List.length_singleton]; omega
  · rw [es]; show m.d.length + _ ≤ _; simp only [List.length_append, List.length_singleton]; omega
  · rw [es, kidsLen_app]; simp only [List.length_append, List.length_singleton]; omega
  · rw [es] at hq
    rcases List.mem_append.1 hq with hq | hq
    · exact hnm q (List.mem_append_left _ (List.mem_append_left _ hq))
    · obtain rfl : q = ⟨y.name, y.kids ++ [(l1.length : Int)]⟩ := by simpa using hq
      exact hnm y (List.mem_append_left _ (by simp))
  · rw [hpk, ← h4]
    simp only [List.length_append]
    omega
theorem inv_miss {m : Mk} {X : List UInt8} {B D : Nat} (h : MkInv m X B D) (hs : 2 ≤ m.s.length) (t : Txt) (at_ : Int) : MkInv (missF t at_ m) X B D ∧ (missF t at_ m).s.length = m.s.length - 1 ∧
    InR (m.n ++ [leafF 22 []]) ((topF m.s).kids ++ [(m.n.length : Int)]) ∧ (((topF m.s).kids ++ [(m.n.length : Int)]).flatMap (pr (m.n ++ [leafF 22 []]))).length ≤ X.length := by
  have := inv_shut (inv_wrong h t 4 at_ at_) hs 22 [] (D' := D) (by omega)
  rw [List.append_nil] at this
  exact this
theorem name_len (t : Txt) (f u : Int) : (nameF' t f u).length ≤ t.r.length := by
  rw [nameF', List.length_take, List.length_drop]; omega
theorem miss_len (t : Txt) (a : Int) (m : Mk) : (missF t a m).s.length = m.s.length - 1 := by
  show (kidS _ ((kidS _ m.s).take ((kidS _ m.s).length - 1))).length = _
  rw [kidS_len, List.length_take, kidS_len]; omega
theorem missGo_step {t : Txt} {f : Int} {k : Nat} {x : Mk} (h : k < x.s.length - 1) : missGo t f k x.s.length x = missGo t f k (missF t f x).s.length (missF t f x) := by
  obtain ⟨n, hn⟩ : ∃ n, x.s.length = n + 1 := ⟨x.s.length - 1, by omega⟩
  rw [miss_len, hn]
  rw [hn] at h
  show (if k < x.s.length - 1 then _ else _) = _
  rw [hn, if_pos h]; rfl
theorem missGo_end {t : Txt} {f : Int} {k : Nat} {x : Mk} (h : ¬ k < x.s.length - 1) : missGo t f k x.s.length x = x := by
  cases hn : x.s.length with
  | zero => rfl
  | succ n =>
    show (if k < x.s.length - 1 then _ else _) = _
    rw [if_neg h]
theorem MkInv.sum {l : List Node} (h : Ar l) {ks : List Int} (hk : InR l ks) {n : Nat} (hn : (ks.flatMap (pr l)).length ≤ n) (h2 : n ≤ 2147483647) : wsum l ks ≤ 2147483647 := by
  rw [wsum_pr h.wide hk]; omega
theorem MkInv.top {m : Mk} {X : List UInt8} {B D : Nat} (h : MkInv m X B D) : InR m.n (topF m.s).kids := by
  obtain ⟨s0, hs0⟩ := top_split h.s1
  refine h.rng _ ?_
  rw [hs0, top_app]; simp
theorem miss_i (t : Txt) (b : List UInt8) (rt : Int) {m : Mk} {X : List UInt8} {B D : Nat} (h : MkInv m X B D) (hB : B ≤ 900000) (hD : D ≤ 900000) (hX : X.length ≤ 1000000) (a : Int) (ha : 0 ≤ a ∧ a < t.off.length) (hs : 2 ≤ m.s.length) :
    BCall Tryz.prog 122 [.box 0 0, .val (.int .i64 a)] (obT 0 t b rt m) (.tup []) (obT 1 t b rt (missF t a m)) := by
  have ok := h.ok hB hD
  obtain ⟨_, _, h3, h4⟩ := inv_miss h hs t a
  have ha1 := (ar_leaf h.ar 22 []).1
  exact miss_b t b rt m (by have := ok.d; omega) a ha hs (by have := ok.s; omega) (fun x hx => by have := ok.k x hx; omega) (by have := ok.n; omega) ha1.ok h.top (MkInv.sum ha1 h3 h4 (by omega))
theorem shut_i (t : Txt) (b : List UInt8) (rt : Int) {m : Mk} {X : List UInt8} {B D : Nat} (h : MkInv m X B D) (hB : B ≤ 900000) (hD : D ≤ 900000) (hX : X.length ≤ 1000000) (hs : 2 ≤ m.s.length) (kind : Int) (bs : List UInt8) (hbs : bs.length ≤ 1000000) :
    BCall Tryz.prog 185 [.box 0 0, .val (.int .i64 m.n.length)] (obT 0 t b rt (addF (leafF kind bs) m)) (.tup []) (obT 1 t b rt (shutF m.n.length (addF (leafF kind bs) m))) := by
  have ok := h.ok hB hD
  obtain ⟨_, _, h3, h4⟩ := inv_shut h hs kind bs (D' := D) (by omega)
  have ha1 := (ar_leaf h.ar kind bs).1
  exact shut_b t b rt (addF (leafF kind bs) m) hs (by have := ok.s; show m.s.length ≤ _; omega) (fun x hx => by have := ok.k x hx; omega) (by have := ok.n; show (m.n ++ _).length ≤ _; simp; omega) ha1.ok m.n.length h3 (MkInv.sum ha1 h3 h4 (by omega))
end Go.Proofs.YtcmjijpofkoogaaGreat
namespace Go.Proofs.YtcmjijpofkoogaaGreat
open Go.RowKit Go.Lib
def msAn (t : Txt) (a : Int) (N D S : List AV) : List AV := nodesA (missF t a (mkB N D S)).n
def msAd (t : Txt) (a : Int) (N D S : List AV) : List AV := dgsA (missF t a (mkB N D S)).d
def msAs (t : Txt) (a : Int) (N D S : List AV) : List AV := opnsA (missF t a (mkB N D S)).s
def csEn (p : Pr) (nm : Int → Int → List AV) (wr : Int → Int → Int → List AV → List AV) (lf : Int → Int → Int → List AV → List AV) (kd : Int → List AV → List AV) (eq : List AV → List AV → Bool) (mn md ms sn ss : Int → List AV → List AV → List AV → List AV) : Nat → List AV → List Ob → Option (AV × List Ob) := fun f args ob => match f, args with
  | 181, [.box 0 0, .agg [_, .val (.int .i64 f), .val (.int .i64 u), _]] => some (.slc 1 (nm f u), ob)
  | 180, [.box 0 0, .val (.int .i64 c), .val (.int .i64 f), .val (.int .i64 u)] => withM ob fun b k m r o rt N D S => some (.tup [], obM 1 b k m r o rt N (wr c f u D) S)
  | 184, [.box 0 0, .agg [.val (.int .i64 kind), .val (.int .i64 f), .val (.int .i64 u), _]] => withM ob fun b k m r o rt N D S => some (.val (.int .i64 (p.len N)), obM 1 b k m r o rt (lf kind f u N) D S)
  | 80, [.box 0 0, .val (.int .i64 n)] => withM ob fun b k m r o rt N D S => some (.tup [], obM 1 b k m r o rt N D (kd n S))
  | 254, [.slc 1 x, .slc 1 y] => some (.val (.bool (eq x y)), [])
  | 122, [.box 0 0, .val (.int .i64 a)] => withM ob fun b k m r o rt N D S => some (.tup [], obM 1 b k m r o rt (mn a N D S) (md a N D S) (ms a N D S))
  | 185, [.box 0 0, .val (.int .i64 n)] => withM ob fun b k m r o rt N D S => some (.tup [], obM 1 b k m r o rt (sn n N D S) D (ss n N D S))
  | _, _ => none
def eqA (x y : List AV) : Bool := decide (x.map intOf = y.map intOf)
theorem eqA_eq (x y : List Int) : eqA (runesA x) (runesA y) = decide (x = y) := by rw [eqA, runes_back, runes_back]
theorem slR_lst (l : List Int) : lstOf (slR l) = runesA l := by cases l <;> rfl
theorem slR_or (l : List Int) : slR l = .slc 1 (runesA l) ∨ slR l = .val (.slice none 0 0) := by
  cases l with
  | nil => exact .inr rfl
  | cons x r => exact .inl rfl
def opnAt (s : List Opn) (k : Int) : Opn := s[k.toNat]?.getD ⟨[], []⟩
theorem opn_at {s : List Opn} {k : Int} (h0 : 0 ≤ k) (h1 : k < s.length) : (opnsA s).getD k.toNat .dead = (opnAt s k).av := by
  have : k.toNat < s.length := by omega
  simp [opnsA, opnAt, this]
theorem opnFind_at {s : List Opn} {nm : List Int} {k : Int} (h : 0 < k) : opnFind s nm k.toNat = if (opnAt s k).name = nm then k.toNat else opnFind s nm (k - 1).toNat := by
  obtain ⟨n, hn⟩ : ∃ n : Nat, k.toNat = n + 1 := ⟨k.toNat - 1, by omega⟩
  rw [opnAt, show (k - 1).toNat = n by omega, hn]; rfl
theorem msAn_eq (t : Txt) (a : Int) (m : Mk) : msAn t a (nodesA m.n) (dgsA m.d) (opnsA m.s) = nodesA (missF t a m).n := by rw [msAn, mk_back]
theorem msAd_eq (t : Txt) (a : Int) (m : Mk) : msAd t a (nodesA m.n) (dgsA m.d) (opnsA m.s) = dgsA (missF t a m).d := by rw [msAd, mk_back]
theorem msAs_eq (t : Txt) (a : Int) (m : Mk) : msAs t a (nodesA m.n) (dgsA m.d) (opnsA m.s) = opnsA (missF t a m).s := by rw [msAs, mk_back]
theorem shAn_lf (l : Int) (y : Node) (m : Mk) : shAn l (nodesA (m.n ++ [y])) (dgsA m.d) (opnsA m.s) = nodesA (shutF l (addF y m)).n := by
  have := mk_back (addF y m)
  rw [shAn]; exact congrArg (fun z => nodesA (shutF l z).n) this
theorem shAs_lf (l : Int) (y : Node) (m : Mk) : shAs l (nodesA (m.n ++ [y])) (dgsA m.d) (opnsA m.s) = opnsA (shutF l (addF y m)).s := by
  have := mk_back (addF y m)
  rw [shAs]; exact congrArg (fun z => opnsA (shutF l z).s) this
set_option maxRecDepth 20000 in
set_option maxHeartbeats 2000000 in
theorem end_b (t : Txt) (b : List UInt8) (hs : Sml t b) (rt : Int) (m : Mk) (X : List UInt8) (B D : Nat) (iv : MkInv m X B D) (hB : B ≤ 800000) (hD : D ≤ 800000) (hX : X.length ≤ 1000000) (kind f u : Int) (wh : Bool) (hi : InT t f u) :
    BCall Tryz.prog 183 [.box 0 0, .agg [.val (.int .i64 kind), .val (.int .i64 f), .val (.int .i64 u), .val (.bool wh)]] (obT 0 t b rt m) (.tup []) (obT 1 t b rt (endF' t b kind f u m)) := by
  have cN := name_b t b hs.hr rt m kind f u wh hi.h0 hi.h1 hi.h2
  have hoff := hi.off hs
  have ok := iv.ok (by omega) (by omega)
  unfold obT obM
  obtain ⟨L, hL⟩ := exLen m.s
  have slen := opns_len m.s
  refine fnN (csEn std (nmA t) (wrA t) (lfT t b) kdA eqA (msAn t) (msAd t) (msAs t) shAn shAs) Tryz.func183 rfl fun _ _ => ?_
  generalize hN : nodesA m.n = N
  generalize hD' : dgsA m.d = D'
  generalize hS : opnsA m.s = S
  generalize hB' : bytesA b = B'
  generalize hR : runesA t.r = R
  generalize hO : intsA t.off = O
  generalize hK : t.kind = K
  generalize hM : t.bom = M
  with_reducible refine cv10 (nmA t) (wrA t) (lfT t b) kdA eqA (msAn t) (msAd t) (msAs t) shAn shAs ?_
  subst hN hD' hS hB' hR hO hK hM
  have hlen : std.len (opnsA m.s) = L := by show ((opnsA m.s).length : Int) = L; rw [slen, hL.eq]
  have hL1 : 1 ≤ L := by have := hL.eq; have := ok.s1; omega
  have hLn : L ≤ 900000 := by have := hL.eq; have := ok.s; omega
  refine ⟨cN, ?_, ?_⟩
  · show (-9223372036854775808 : Int) ≤ std.len (opnsA m.s) - 1 ∧ std.len (opnsA m.s) - 1 ≤ (9223372036854775807 : Int)
    rw [hlen]; omega
  obtain ⟨nm0, hnm⟩ : ∃ x, x = nameF' t f u := ⟨_, rfl⟩
  have hnmA : nmA t f u = runesA nm0 := by rw [hnm]; rfl
  rw [hnmA]
  refine loopN (csEn std (nmA t) (wrA t) (lfT t b) kdA eqA (msAn t) (msAd t) (msAs t) shAn shAs) (Int) (fun k => ⟨[(0, .box 0 0), (3, .box 6 0), (4, .slc 1 (runesA nm0)), (5, .val (.int .i64 k))], [.box [.slc 1 (bytesA b), .box 1 0, .row 5 0], .box [.val (.int .i64 t.kind), .val (.int .i64 t.bom), .slc 1 (runesA t.r), .slc 1 (intsA t.off), .box 2 0, .val (.int .i64 rt), .row 4 0], .box [.row 3 0], .row 230 6 false 0 (nodesA m.n), .row 270 3 false 0 (dgsA m.d), .row 158 2 false 0 (opnsA m.s), .box [.val (.int .i64 kind), .val (.int .i64 f), .val (.int .i64 u), .val (.bool wh)]]⟩) (fun k => 0 ≤ k ∧ k ≤ L - 1 ∧ opnFind m.s nm0 k.toNat = opnFind m.s nm0 (m.s.length - 1)) (fun k => k.toNat) (L - 1) ?_ ?_ ?_
  · exact ⟨by omega, Int.le_refl _, by have := hL.eq; rw [show (L - 1).toNat = m.s.length - 1 by omega]⟩
  · exact ⟨[some 0, some 1, some 2, some 3, some 4, some 5, some 6], _, rfl, by simp [AllEq, lk, std, slen, hL.eq]⟩
  · rintro k ⟨hk0, hk1, hk2⟩
    generalize hN : nodesA m.n = N
    generalize hD' : dgsA m.d = D'
    generalize hS : opnsA m.s = S
    generalize hB' : bytesA b = B'
    generalize hR : runesA t.r = R
    generalize hO : intsA t.off = O
    generalize hK : t.kind = K
    generalize hM : t.bom = M
    generalize hNM : runesA nm0 = NM
    with_reducible refine cv10 (nmA t) (wrA t) (lfT t b) kdA eqA (msAn t) (msAd t) (msAs t) shAn shAs ?_
    subst hN hD' hS hB' hR hO hK hM hNM
    have hkl : k < m.s.length := by have := hL.eq; omega
    have hat := opn_at hk0 hkl
    have hcel : std.nth (std.drp (std.cel (std.at_ (opnsA m.s) k)) 0) 0 = slR (opnAt m.s k).name := by
      show ((((opnsA m.s).getD k.toNat .dead).cells).drop 0).getD 0 .dead = _
      rw [hat]; rfl
    have hlst : std.lst (std.nth (std.drp (std.cel (std.at_ (opnsA m.s) k)) 0) 0) = runesA (opnAt m.s k).name := by
      show lstOf (std.nth (std.drp (std.cel (std.at_ (opnsA m.s) k)) 0) 0) = _
      rw [hcel, slR_lst]
    have hnl : (opnAt m.s k).name.length ≤ 1000000000 := by
      have hk3 : k.toNat < m.s.length := by omega
      have := iv.nm (opnAt m.s k) (by rw [opnAt, List.getElem?_eq_getElem hk3]; exact List.getElem_mem hk3)
      omega
    have hn0 : nm0.length ≤ 1000000000 := by
      have h3 := name_len t f u
      have h4 := hs.hr
      rw [hnm]; omega
    have cE := Equal_b (opnAt m.s k).name nm0 hnl hn0
    rw [← eqA_eq, ← hlst] at cE
    have hq : ∀ c, std.notB (eqA (std.lst (std.nth (std.drp (std.cel (std.at_ (opnsA m.s) k)) 0) 0)) (runesA nm0)) = c → decide ((opnAt m.s k).name = nm0) = !c := fun c h => by
      rw [hlst, eqA_eq] at h
      have h : (!decide ((opnAt m.s k).name = nm0)) = c := h
      rw [← h, Bool.not_not]
    refine ⟨fun hk => ⟨?_, ⟨?_, trivial⟩, cE, fun hne => ⟨?_, k - 1, ⟨?_, ?_, ?_⟩, ?_, [some 0, some 1, some 2, some 3, some 4, some 5, some 6], _, rfl, by simp [AllEq, lk, std]⟩, fun heq => ?_⟩, fun hk => ?_⟩
    · show 0 ≤ k ∧ k < std.len (opnsA m.s)
      rw [hlen]; omega
    · show std.nth (std.drp (std.cel (std.at_ (opnsA m.s) k)) 0) 0 = .slc 1 (std.lst (std.nth (std.drp (std.cel (std.at_ (opnsA m.s) k)) 0) 0)) ∨ std.nth (std.drp (std.cel (std.at_ (opnsA m.s) k)) 0) 0 = .val (.slice none 0 0)
      rw [hlst, hcel]; exact slR_or _
    · show (-9223372036854775808 : Int) ≤ k - 1 ∧ k - 1 ≤ (9223372036854775807 : Int)
      omega
    · have : 0 < k := of_decide_eq_true hk
      omega
    · omega
    · have h1 : 0 < k := of_decide_eq_true hk
      rw [← hk2, opnFind_at (nm := nm0) h1, if_neg (of_decide_eq_false (hq _ hne))]
    · have h1 : 0 < k := of_decide_eq_true hk
      omega
    · have h1 : 0 < k := of_decide_eq_true hk
      have hf : opnFind m.s nm0 (m.s.length - 1) = k.toNat := by rw [← hk2, opnFind_at (nm := nm0) h1, if_pos (of_decide_eq_true (hq _ heq))]
      clear cE hq
      have hkn : k.toNat ≠ 0 := by omega
      have hE : endF' t b kind f u m = shutF (missGo t f k.toNat m.s.length m).n.length (mleafF t b kind f u (missGo t f k.toNat m.s.length m)) := by
        show (if opnFind m.s (nameF' t f u) (m.s.length - 1) = 0 then _ else _) = _
        rw [← hnm, hf, if_neg hkn]
      obtain ⟨kn, hkn'⟩ : ∃ kn, kn = k.toNat := ⟨_, rfl⟩
      obtain ⟨M0, hM0⟩ : ∃ x, x = missGo t f kn m.s.length m := ⟨_, rfl⟩
      rw [← hkn', ← hM0] at hE
      have hkI : k = (kn : Int) := by omega
      rw [hE]
      clear hE hf hk2 hkl
      rw [if_pos trivial]
      generalize hN : nodesA m.n = N
      generalize hD' : dgsA m.d = D'
      generalize hS : opnsA m.s = S
      generalize hB' : bytesA b = B'
      generalize hR : runesA t.r = R
      generalize hO : intsA t.off = O
      generalize hK : t.kind = K
      generalize hM : t.bom = M
      generalize hNM : runesA nm0 = NM
      with_reducible refine cv10 (nmA t) (wrA t) (lfT t b) kdA eqA (msAn t) (msAd t) (msAs t) shAn shAs ?_
      subst hN hD' hS hB' hR hO hK hM hNM
      refine ⟨fun hz => ?_, fun _ => ?_⟩
      · have hz : (k == 0) = true := hz
        have : k = 0 := by simpa using hz
        omega
      refine loopN (csEn std (nmA t) (wrA t) (lfT t b) kdA eqA (msAn t) (msAd t) (msAs t) shAn shAs) (Mk) (fun x => ⟨[(0, .box 0 0), (3, .box 6 0), (5, .val (.int .i64 k))], [.box [.slc 1 (bytesA b), .box 1 0, .row 5 1], .box [.val (.int .i64 t.kind), .val (.int .i64 t.bom), .slc 1 (runesA t.r), .slc 1 (intsA t.off), .box 2 0, .val (.int .i64 rt), .row 4 1], .box [.row 3 1], .row 230 6 false 1 (nodesA x.n), .row 270 3 false 1 (dgsA x.d), .row 158 2 false 1 (opnsA x.s), .box [.val (.int .i64 kind), .val (.int .i64 f), .val (.int .i64 u), .val (.bool wh)]]⟩) (fun x => MkInv x X B D ∧ kn + 1 ≤ x.s.length ∧ missGo t f kn x.s.length x = M0) (fun x => x.s.length) m ?_ ?_ ?_
      · exact ⟨iv, by have := hL.eq; omega, hM0.symm⟩
      · exact ⟨[some 0, some 1, some 2, some 3, some 4, some 5, some 6], _, rfl, by simp [AllEq, lk, std]⟩
      · rintro x ⟨hv, hx1, hx2⟩
        have okx := hv.ok (by omega) (by omega)
        have xlen := opns_len x.s
        obtain ⟨LX, hLX⟩ := exLen x.s
        generalize hN : nodesA x.n = N
        generalize hD' : dgsA x.d = D'
        generalize hS : opnsA x.s = S
        generalize hB' : bytesA b = B'
        generalize hR : runesA t.r = R
        generalize hO : intsA t.off = O
        generalize hK : t.kind = K
        generalize hM : t.bom = M
        with_reducible refine cv10 (nmA t) (wrA t) (lfT t b) kdA eqA (msAn t) (msAd t) (msAs t) shAn shAs ?_
        subst hN hD' hS hB' hR hO hK hM
        have hlx : std.len (opnsA x.s) = LX := by show ((opnsA x.s).length : Int) = LX; rw [xlen, hLX.eq]
        have hX1 : 1 ≤ LX ∧ LX ≤ 900000 := by have := hLX.eq; have := okx.s; have := okx.s1; omega
        simp only [msAn_eq, msAd_eq, msAs_eq]
        refine ⟨?_, fun hgt => ?_, fun hle => ?_⟩
        · show (-9223372036854775808 : Int) ≤ std.len (opnsA x.s) - 1 ∧ std.len (opnsA x.s) - 1 ≤ (9223372036854775807 : Int)
          rw [hlx]; omega
        · have hgt : k < std.len (opnsA x.s) - 1 := of_decide_eq_true hgt
          rw [hlx] at hgt
          have hk1 : kn < x.s.length - 1 := by have := hLX.eq; omega
          have hxs2 : 2 ≤ x.s.length := by omega
          have c := miss_i t b rt hv (by omega) (by omega) hX f hoff.1 hxs2
          refine ⟨c, missF t f x, ⟨(inv_miss hv hxs2 t f).1, by rw [miss_len]; omega, by rw [← missGo_step hk1]; exact hx2⟩, by rw [miss_len]; omega, [some 0, some 1, some 2, some 3, some 4, some 5, some 6], _, rfl, by simp [AllEq, lk, std]⟩
        · have hle : ¬ k < std.len (opnsA x.s) - 1 := of_decide_eq_false hle
          rw [hlx] at hle
          have hk1 : ¬ kn < x.s.length - 1 := by have := hLX.eq; omega
          have hx0 : x = M0 := by rw [← hx2, missGo_end hk1]
          subst hx0
          have hxs2 : 2 ≤ x.s.length := by omega
          have cL := leaf_b t b hs.hb hs.ok hs.hr rt x (by have := okx.n; omega) kind f u wh hi.h0 hi.h1 hi.h2
          have cS := shut_i t b rt hv (by omega) (by omega) hX hxs2 kind (sliceF t b f u) (by have := slice_len t b f u; have := hs.hb; omega)
          simp only [obT, obM, mleafF] at cL cS ⊢
          clear hle hlx hX1 hk1 hxs2 hx2 hx1 hkI hkn' hlst hcel hat
          rw [if_pos trivial]
          generalize hN : nodesA x.n = N
          generalize hD' : dgsA x.d = D'
          generalize hS : opnsA x.s = S
          generalize hB' : bytesA b = B'
          generalize hR : runesA t.r = R
          generalize hO : intsA t.off = O
          generalize hK : t.kind = K
          generalize hM : t.bom = M
          with_reducible refine cv10 (nmA t) (wrA t) (lfT t b) kdA eqA (msAn t) (msAd t) (msAs t) shAn shAs ?_
          subst hN hD' hS hB' hR hO hK hM
          simp only [std, lfT_eq, nodes_len, shAn_lf, shAs_lf]
          refine ⟨cL, cS, [some 0, some 1, some 2, some 3, some 4, some 5], .tup [], _, rfl, rfl, Nat.le_of_ble_eq_true rfl, rfl, ?_, trivial⟩
          simp [AllEq]
          rfl
    · have hk : ¬ 0 < k := of_decide_eq_false hk
      have hk0' : k = 0 := by omega
      have hf : opnFind m.s nm0 (m.s.length - 1) = 0 := by rw [← hk2, hk0']; rfl
      have hE : endF' t b kind f u m = lkF t b kind f u (wrongF t 3 f u m) := by
        show (if opnFind m.s (nameF' t f u) (m.s.length - 1) = 0 then _ else _) = _
        rw [← hnm, hf, if_pos rfl]
      rw [hE]
      clear cE hq hE hf hk2 hkl hlst hcel hat hnl hn0
      rw [if_pos trivial]
      generalize hN : nodesA m.n = N
      generalize hD' : dgsA m.d = D'
      generalize hS : opnsA m.s = S
      generalize hB' : bytesA b = B'
      generalize hR : runesA t.r = R
      generalize hO : intsA t.off = O
      generalize hK : t.kind = K
      generalize hM : t.bom = M
      generalize hNM : runesA nm0 = NM
      with_reducible refine cv10 (nmA t) (wrA t) (lfT t b) kdA eqA (msAn t) (msAd t) (msAs t) shAn shAs ?_
      subst hN hD' hS hB' hR hO hK hM hNM
      refine ⟨fun _ => ?_, fun hz => ?_⟩
      · have hd := ok.d
        have cW := wrong_b t b rt m (by omega) 3 f u hoff.1 hoff.2
        have cL := leaf_b t b hs.hb hs.ok hs.hr rt (wrongF t 3 f u m) (by have := ok.n; show m.n.length ≤ _; omega) kind f u wh hi.h0 hi.h1 hi.h2
        have cK := kid_b t b rt (mleafF t b kind f u (wrongF t 3 f u m)) (by have := ok.s1; exact this) (by have := ok.s; show m.s.length ≤ _; omega) (by have := ok.top; show (topF m.s).kids.length ≤ _; omega) m.n.length
        simp only [obT, obM, mleafF, addF, kidF, wrongF, lkF] at cW cL cK ⊢
        simp only [std, lfT_eq, wrA_eq, kdA_eq, nodes_len]
        exact ⟨cW, cL, cK, [some 0, some 1, some 2, some 3, some 4, some 5], .tup [], _, rfl, rfl, Nat.le_of_ble_eq_true rfl, rfl, by simp [AllEq], trivial⟩
      · have hz : (k == 0) = false := hz
        rw [hk0'] at hz; cases hz
end Go.Proofs.YtcmjijpofkoogaaGreat
namespace Go.Proofs.YtcmjijpofkoogaaGreat
open Go.RowKit Go.Lib
theorem MkInv.mono {m : Mk} {X : List UInt8} {B D B' D' : Nat} (h : MkInv m X B D) (hB : B ≤ B') (hD : D ≤ D') : MkInv m X B' D' :=
  ⟨h.ar, h.rng, h.p, h.s1, Nat.le_trans h.n hB, Nat.le_trans h.d hD, Nat.le_trans h.k hB, h.nm⟩
theorem inv_start {m : Mk} {X : List UInt8} {B D : Nat} (h : MkInv m X B D) (t : Txt) (b : List UInt8) (hr : t.r.length ≤ 1000000) (kind f u : Int) : MkInv (startF' t b kind f u m) (X ++ sliceF t b f u) (B + 3) (D + 2) := by
  unfold startF'
  split
  · exact (inv_lk (inv_wrong h t 5 f u) t b kind f u).mono (by omega) (by omega)
  · exact inv_lk (inv_push h (nameF' t f u) (Nat.le_trans (name_len t f u) hr)) t b kind f u
theorem inv_missGo (t : Txt) (f : Int) (k : Nat) {X : List UInt8} {B D : Nat} : ∀ (n : Nat) (m : Mk), MkInv m X B D → k + 1 ≤ m.s.length → m.s.length ≤ n + k + 1 → MkInv (missGo t f k n m) X B D ∧ (missGo t f k n m).s.length = k + 1
  | 0, m, h, h1, h2 => ⟨h, by show m.s.length = _; omega⟩
  | n + 1, m, h, h1, h2 => by
    show MkInv (if _ then _ else _) X B D ∧ (if _ then _ else _ : Mk).s.length = _
    split
    · have h3 := inv_miss h (by omega) t f
      exact inv_missGo t f k n _ h3.1 (by omega) (by omega)
    · exact ⟨h, by omega⟩
theorem opnFind_le (s : List Opn) (nm : List Int) : ∀ k, opnFind s nm k ≤ k
  | 0 => Nat.le_refl _
  | k + 1 => by
    unfold opnFind
    split
    · exact Nat.le_refl _
    · exact Nat.le_succ_of_le (opnFind_le s nm k)
theorem inv_end {m : Mk} {X : List UInt8} {B D : Nat} (h : MkInv m X B D) (t : Txt) (b : List UInt8) (kind f u : Int) : MkInv (endF' t b kind f u m) (X ++ sliceF t b f u) (B + 1) (D + 1) := by
  unfold endF'
  have h1 := h.s1
  have h2 := opnFind_le m.s (nameF' t f u) (m.s.length - 1)
  simp only
  split
  · exact inv_lk (inv_wrong h t 3 f u) t b kind f u
  · obtain ⟨h3, h4⟩ := inv_missGo t f (opnFind m.s (nameF' t f u) (m.s.length - 1)) m.s.length m h (by omega) (by omega)
    exact (inv_shut h3 (by omega) kind (sliceF t b f u) (D' := D) (by omega)).1.mono (by omega) (by omega)
theorem inv_token {m : Mk} {X : List UInt8} {B D : Nat} (h : MkInv m X B D) (t : Txt) (b : List UInt8) (hr : t.r.length ≤ 1000000) (kind f u : Int) (wh : Bool) : MkInv (tokenF t b kind f u wh m) (X ++ sliceF t b f u) (B + 3) (D + 3) := by
  unfold tokenF
  simp only
  generalize hm1 : (if wh = false then wrongF t 1 f u m else if (kind = 8 ∨ kind = 9 ∨ kind = 10) ∧ (readF t.r f u).right = false then wrongF t 2 f u m else m) = m1
  have h1 : MkInv m1 X B (D + 1) := by
    rw [← hm1]
    split
    · exact inv_wrong h t 1 f u
    · split
      · exact inv_wrong h t 2 f u
      · exact h.mono (by omega) (by omega)
  split
  · exact (inv_start h1 t b hr kind f u).mono (by omega) (by omega)
  · split
    · exact (inv_end h1 t b kind f u).mono (by omega) (by omega)
    · exact (inv_lk h1 t b kind f u).mono (by omega) (by omega)
def upTo (t : Txt) (b : List UInt8) (k : Int) : List UInt8 := b.take (offA t k).toNat
theorem upTo_slice {t : Txt} {b : List UInt8} (ok : TxtOk t b) {f u : Int} (h0 : 0 ≤ f) (h1 : f ≤ u) (h2 : u ≤ t.r.length) : upTo t b f ++ sliceF t b f u = upTo t b u := by
  have hm := ok.mono f.toNat u.toNat (by omega) (by omega)
  have hlen := ok.len
  have hf : f.toNat < t.off.length := by omega
  have h3 := ok.range (t.off[f.toNat]'hf) (List.getElem_mem hf)
  have e3 : t.off[f.toNat]?.getD 0 = t.off[f.toNat] := by rw [List.getElem?_eq_getElem hf]; rfl
  rw [← e3] at h3
  show b.take (t.off[f.toNat]?.getD 0).toNat ++ (b.drop (t.off[f.toNat]?.getD 0).toNat).take _ = b.take (t.off[u.toNat]?.getD 0).toNat
  generalize t.off[f.toNat]?.getD 0 = p at *
  generalize t.off[u.toNat]?.getD 0 = q at *
  rw [show q.toNat = p.toNat + (q - p).toNat by omega, List.take_add]
theorem upTo_end {t : Txt} {b : List UInt8} (ok : TxtOk t b) : upTo t b t.r.length = b := by
  rw [upTo, offA, Int.toNat_natCast, ok.last, Int.toNat_natCast, List.take_length]
def tokM (t : Txt) (b : List UInt8) (m : Mk) (x : Tok) : Mk := tokenF t b x.kind x.from_ x.to x.whole m
theorem tok_in (l : List Int) {k : Nat} (h : k < l.length) : (tokAt l k).from_ = k ∧ (tokAt l k).to = ((nextTF l k).2.1 : Nat) ∧ k < (nextTF l k).2.1 ∧ (nextTF l k).2.1 ≤ l.length := ⟨rfl, rfl, nextTF_range l k h⟩
def allM (t : Txt) (b : List UInt8) (m : Mk) : Mk :=
  let m1 := (toksF t.r).foldl (tokM t b) m
  missGo t t.r.length 0 m1.s.length m1
def rootM (m : Mk) : Mk := addF (branchF m.n 20 (topF m.s).kids) m
end Go.Proofs.YtcmjijpofkoogaaGreat
namespace Go.Proofs.YtcmjijpofkoogaaGreat
open Go.RowKit Go.Lib
theorem coF_old {l : List Node} (h : Wf l) (x : Node) : ∀ (f : Nat) (n : Int), 0 ≤ n → n < l.length → coF (l ++ [x]) f n = coF l f n
  | 0, _, _, _ => rfl
  | f + 1, n, h0, h1 => by
    simp only [coF, nodeAt_old h0 h1]
    congr 2
    refine List.map_congr_left fun k hk => ?_
    have := h n h0 h1 k hk
    exact coF_old h x f k this.1 (by omega)
theorem co_old {l : List Node} (h : Wf l) (x : Node) {n : Int} (h0 : 0 ≤ n) (h1 : n < l.length) : co (l ++ [x]) n = co l n := coF_old h x _ n h0 h1
def coL (l : List Node) (ks : List Int) : Nat := (ks.map (co l)).sum
theorem coL_old {l : List Node} (h : Wf l) (x : Node) {ks : List Int} (hk : InR l ks) : coL (l ++ [x]) ks = coL l ks :=
  congrArg List.sum (List.map_congr_left fun k hk' => co_old h x (hk k hk').1 (hk k hk').2)
theorem co_new {l : List Node} (h : Wf l) {x : Node} (hx : InR l x.kids) : co (l ++ [x]) l.length = 1 + coL l x.kids := by
  rw [co_eq (wf_add h hx) (by omega) (by simp only [List.length_append, List.length_singleton]; omega), nodeAt_new]
  exact congrArg (1 + ·) (coL_old h x hx)
theorem coL_app (l : List Node) (a b : List Int) : coL l (a ++ b) = coL l a + coL l b := by simp [coL]
theorem coL_one (l : List Node) (k : Int) : coL l [k] = co l k := by simp [coL]
def coK (l : List Node) (s : List Opn) : Nat := (s.map fun x => coL l x.kids).sum
theorem coK_app (l : List Node) (s : List Opn) (x : Opn) : coK l (s ++ [x]) = coK l s + coL l x.kids := by simp [coK]
theorem coK_old {l : List Node} (h : Wf l) (x : Node) {s : List Opn} (hs : ∀ y ∈ s, InR l y.kids) : coK (l ++ [x]) s = coK l s :=
  congrArg List.sum (List.map_congr_left fun y hy => coL_old h x (hs y hy))
def CoInv (m : Mk) : Prop := coK m.n m.s ≤ m.n.length
theorem co_push {m : Mk} (h : CoInv m) (nm : List Int) : CoInv { m with s := m.s ++ [⟨nm, []⟩] } := by
  show coK m.n (m.s ++ [⟨nm, []⟩]) ≤ _
  have h : coK m.n m.s ≤ m.n.length := h
  rw [coK_app]
  simpa [coL] using h
theorem co_leafkid {m : Mk} {X : List UInt8} {B D : Nat} (h : MkInv m X B D) (hc : CoInv m) (kind : Int) (bs : List UInt8) : CoInv (kidF m.n.length (addF (leafF kind bs) m)) := by
  obtain ⟨s0, hs0⟩ := top_split h.s1
  generalize topF m.s = y at hs0
  have hr := h.rng
  rw [hs0] at hr
  have hr0 : ∀ z ∈ s0, InR m.n z.kids := fun z hz => hr z (List.mem_append_left _ hz)
  have hry : InR m.n y.kids := hr y (by simp)
  have hx : InR m.n (leafF kind bs).kids := fun k hk => by cases hk
  have hc : coK m.n m.s ≤ m.n.length := hc
  rw [hs0, coK_app] at hc
  show coK (m.n ++ [leafF kind bs]) (kidS m.n.length m.s) ≤ (m.n ++ [leafF kind bs]).length
  rw [hs0, kid_app, coK_app, coL_app, coL_one, coK_old h.ar.wf _ hr0, coL_old h.ar.wf _ hry, co_new h.ar.wf hx]
  have : coL m.n (leafF kind bs).kids = 0 := rfl
  rw [this]
  simp only [List.length_append, List.length_singleton]
  omega
theorem co_shut {m : Mk} {X : List UInt8} {B D : Nat} (h : MkInv m X B D) (hc : CoInv m) (hs : 2 ≤ m.s.length) (kind : Int) (bs : List UInt8) : CoInv (shutF m.n.length (addF (leafF kind bs) m)) := by
  obtain ⟨s1, hs1⟩ := top_split h.s1
  generalize topF m.s = x at hs1
  have hl1 : 1 ≤ s1.length := by rw [hs1] at hs; simp at hs; omega
  obtain ⟨s0, hs0⟩ := top_split hl1
  generalize topF s1 = y at hs0
  subst hs0
  have ha1 := (ar_leaf h.ar kind bs).1
  have hr := h.rng
  rw [hs1] at hr
  have hr0 : ∀ z ∈ s0, InR m.n z.kids := fun z hz => hr z (List.mem_append_left _ (List.mem_append_left _ hz))
  have hry : InR m.n y.kids := hr y (List.mem_append_left _ (by simp))
  have hrx : InR m.n x.kids := hr x (by simp)
  have hx : InR m.n (leafF kind bs).kids := fun k hk => by cases hk
  have hks : InR (m.n ++ [leafF kind bs]) (x.kids ++ [(m.n.length : Int)]) := fun k hk => by
    rcases List.mem_append.1 hk with hk | hk
    · exact hrx.more _ k hk
    · obtain rfl : k = (m.n.length : Int) := by simpa using hk
      simp; omega
  obtain ⟨l1, hl⟩ : ∃ l1, l1 = m.n ++ [leafF kind bs] := ⟨_, rfl⟩
  obtain ⟨z, hz⟩ : ∃ z, z = branchF l1 21 (x.kids ++ [(m.n.length : Int)]) := ⟨_, rfl⟩
  have e1 : coL l1 (x.kids ++ [(m.n.length : Int)]) = coL m.n x.kids + 1 := by
    rw [hl, coL_app, coL_one, coL_old h.ar.wf _ hrx, co_new h.ar.wf hx]; rfl
  have eT : topF (kidF (m.n.length : Int) (addF (leafF kind bs) m)).s = ⟨x.name, x.kids ++ [(m.n.length : Int)]⟩ := by
    show topF (kidS m.n.length m.s) = _
    rw [hs1, kid_app, top_app]
  have en : (shutF m.n.length (addF (leafF kind bs) m)).n = l1 ++ [z] := by
    show (m.n ++ [leafF kind bs]) ++ [branchF (m.n ++ [leafF kind bs]) 21 (topF (kidF (m.n.length : Int) (addF (leafF kind bs) m)).s).kids] = _
    rw [eT, ← hl, ← hz]
  have es : (shutF m.n.length (addF (leafF kind bs) m)).s = s0 ++ [⟨y.name, y.kids ++ [(l1.length : Int)]⟩] := by
    show kidS ((m.n ++ [leafF kind bs]).length : Int) ((kidS m.n.length m.s).take ((kidS m.n.length m.s).length - 1)) = _
    have e2 : (kidS m.n.length m.s).take ((kidS m.n.length m.s).length - 1) = s0 ++ [y] := by
      rw [hs1, kid_app, show (s0 ++ [y] ++ [(⟨x.name, x.kids ++ [(m.n.length : Int)]⟩ : Opn)]).length - 1 = (s0 ++ [y]).length by simp]
      exact List.take_left
    rw [e2, kid_app, hl]
  rw [← hl] at ha1 hks
  have hzk : InR l1 z.kids := by rw [hz]; exact hks
  have hc : coK m.n m.s ≤ m.n.length := hc
  rw [hs1, coK_app, coK_app] at hc
  have up0 : coK (l1 ++ [z]) s0 = coK m.n s0 := by
    rw [coK_old ha1.wf z (fun q hq => by rw [hl]; exact (hr0 q hq).more _), hl, coK_old h.ar.wf _ hr0]
  have upy : coL (l1 ++ [z]) y.kids = coL m.n y.kids := by
    rw [coL_old ha1.wf z (by rw [hl]; exact hry.more _), hl, coL_old h.ar.wf _ hry]
  have hll : l1.length = m.n.length + 1 := by rw [hl]; simp
  show coK (shutF m.n.length (addF (leafF kind bs) m)).n (shutF m.n.length (addF (leafF kind bs) m)).s ≤ (shutF m.n.length (addF (leafF kind bs) m)).n.length
  rw [es, en, coK_app, coL_app, coL_one, up0, upy, co_new ha1.wf hzk]
  have ez : coL l1 z.kids = coL m.n x.kids + 1 := by rw [hz]; exact e1
  rw [ez]
  simp only [List.length_append, List.length_singleton]
  omega
structure MkI (m : Mk) (X : List UInt8) (B D : Nat) : Prop where
  i : MkInv m X B D
  c : CoInv m
section
variable {m : Mk} {X : List UInt8} {B D : Nat}
theorem MkI.lk (h : MkI m X B D) (t : Txt) (b : List UInt8) (kind f u : Int) : MkI (lkF t b kind f u m) (X ++ sliceF t b f u) (B + 1) D := ⟨inv_lk h.i t b kind f u, co_leafkid h.i h.c kind _⟩
theorem MkI.wrong (h : MkI m X B D) (t : Txt) (c f u : Int) : MkI (wrongF t c f u m) X B (D + 1) := ⟨inv_wrong h.i t c f u, h.c⟩
theorem MkI.start (h : MkI m X B D) (t : Txt) (b : List UInt8) (hr : t.r.length ≤ 1000000) (kind f u : Int) : MkI (startF' t b kind f u m) (X ++ sliceF t b f u) (B + 3) (D + 2) := by
  refine ⟨inv_start h.i t b hr kind f u, ?_⟩
  unfold startF'
  split
  · exact ((h.wrong t 5 f u).lk t b kind f u).c
  · exact co_leafkid (inv_push h.i (nameF' t f u) (Nat.le_trans (name_len t f u) hr)) (co_push h.c _) kind _
theorem MkI.miss (h : MkI m X B D) (hs : 2 ≤ m.s.length) (t : Txt) (a : Int) : MkI (missF t a m) X B D := ⟨(inv_miss h.i hs t a).1, co_shut (inv_wrong h.i t 4 a a) h.c hs 22 []⟩
end
theorem MkI.missGo (t : Txt) (f : Int) (k : Nat) {X : List UInt8} {B D : Nat} : ∀ (n : Nat) (m : Mk), MkI m X B D → k + 1 ≤ m.s.length → m.s.length ≤ n + k + 1 → MkI (missGo t f k n m) X B D ∧ (Go.Proofs.YtcmjijpofkoogaaGreat.missGo t f k n m).s.length = k + 1
  | 0, m, h, h1, h2 => ⟨h, by show m.s.length = _; omega⟩
  | n + 1, m, h, h1, h2 => by
    show MkI (if _ then _ else _) X B D ∧ (if _ then _ else _ : Mk).s.length = _
    split
    · have h3 := inv_miss h.i (by omega) t f
      exact MkI.missGo t f k n _ (h.miss (by omega) t f) (by omega) (by omega)
    · exact ⟨h, by omega⟩
section
variable {m : Mk} {X : List UInt8} {B D : Nat}
theorem MkI.end_ (h : MkI m X B D) (t : Txt) (b : List UInt8) (kind f u : Int) : MkI (endF' t b kind f u m) (X ++ sliceF t b f u) (B + 1) (D + 1) := by
  refine ⟨inv_end h.i t b kind f u, ?_⟩
  unfold endF'
  have h1 := h.i.s1
  have h2 := opnFind_le m.s (nameF' t f u) (m.s.length - 1)
  simp only
  split
  · exact ((h.wrong t 3 f u).lk t b kind f u).c
  · obtain ⟨h3, h4⟩ := MkI.missGo t f (opnFind m.s (nameF' t f u) (m.s.length - 1)) m.s.length m h (by omega) (by omega)
    exact co_shut h3.i h3.c (by omega) kind _
theorem MkI.token (h : MkI m X B D) (t : Txt) (b : List UInt8) (hr : t.r.length ≤ 1000000) (kind f u : Int) (wh : Bool) : MkI (tokenF t b kind f u wh m) (X ++ sliceF t b f u) (B + 3) (D + 3) := by
  refine ⟨inv_token h.i t b hr kind f u wh, ?_⟩
  unfold tokenF
  simp only
  generalize hm1 : (if wh = false then wrongF t 1 f u m else if (kind = 8 ∨ kind = 9 ∨ kind = 10) ∧ (readF t.r f u).right = false then wrongF t 2 f u m else m) = m1
  have h1 : ∃ D', MkI m1 X B D' := by
    rw [← hm1]
    split
    · exact ⟨_, h.wrong t 1 f u⟩
    · split
      · exact ⟨_, h.wrong t 2 f u⟩
      · exact ⟨_, h⟩
  obtain ⟨D', h1⟩ := h1
  split
  · exact (h1.start t b hr kind f u).c
  · split
    · exact (h1.end_ t b kind f u).c
    · exact (h1.lk t b kind f u).c
end
end Go.Proofs.YtcmjijpofkoogaaGreat
