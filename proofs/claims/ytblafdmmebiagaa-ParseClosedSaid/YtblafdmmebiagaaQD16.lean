/-
  Parts of the proof, joined: Rd Re. Conditions: as each theorem says.
-/
import Derived.Test.YtblafdmmebiagaaQD14
import Derived.Test.YtblafdmmebiagaaQD07
namespace Go.Proofs.Ytblafdmmebiagaa
open Go.RowKit Go.Lib
inductive Cur where
  | root (n : Int)
  | kid (n f k : Int) (up : Cur)
  deriving Inhabited
def Cur.n : Cur → Int
  | .root n => n
  | .kid n _ _ _ => n
def Cur.f : Cur → Int
  | .root _ => 0
  | .kid _ f _ _ => f
def Cur.k : Cur → Int
  | .root _ => 0
  | .kid _ _ k _ => k
def upO (N : List AV) : Cur → AV
  | .root _ => .val (.pointer none)
  | .kid _ _ _ up => .ref [.ref [.slc 6 N], .val (.int .i64 up.n), .val (.int .i64 up.f), .val (.int .i64 up.k), .opt (upO N up)]
def Cur.cs (N : List AV) (c : Cur) : List AV := [.ref [.slc 6 N], .val (.int .i64 c.n), .val (.int .i64 c.f), .val (.int .i64 c.k), .opt (upO N c)]
def zeroC : List AV := [.val (.pointer none), .val (.int .i64 0), .val (.int .i64 0), .val (.int .i64 0), .val (.pointer none)]
theorem upO_ptr (N : List AV) (c : Cur) : isPtr (upO N c) := by cases c <;> trivial
def kidsAt (l : List Node) (c : Cur) : List Int := (nodeAt l c.n).kids
def downC (l : List Node) (c : Cur) (k : Int) : Cur := .kid ((kidsAt l c)[k.toNat]?.getD 0) (c.f + wsum l ((kidsAt l c).take k.toNat)) k c
def csRo (len : List AV → Int) : Nat → List AV → List Ob → Option (AV × List Ob) := fun f args _ => match f, args with
  | 53, [.ref [.slc 6 xs]] => some (.val (.int .i64 (len xs)), [])
  | _, _ => none
set_option maxRecDepth 20000 in
theorem Root_b (l : List Node) (n : Int) (h0 : 0 ≤ n) (h1 : n < l.length) : BCall Try.prog 34 [.ref [.slc 6 (nodesA l)], .val (.int .i64 n)] [] (.tup [.agg ((Cur.root n).cs (nodesA l)), .val (.int .i64 0)]) [] := by
  have cL := Len_l l
  have hlen : lenA (nodesA l) = l.length := by rw [lenA, nodes_len]
  refine bcall_of (cs := csRo lenA) (ord := fun _ => .nil) tyOk (by kernel_rfl) Try.func34 rfl (enters_of Try.func34 (by kernel_rfl) rfl) (Nat.le_of_ble_eq_true rfl) (by kernel_rfl) (by kernel_rfl) ?_
  intro w0 g0
  generalize hp : std = p
  generalize hlen : lenA = len
  generalize hN : nodesA l = N
  generalize hT : aexec p tys (csRo len) _ _ _ _ = T
  cbv at hT
  subst hT
  simp only [Tree.ok, RoundOk, Bool.false_eq_true, Bool.true_eq_false, false_implies, true_implies, and_true, true_and]
  subst hp hlen hN
  refine ⟨fun h => ?_, fun _ => ⟨cL, fun h => ?_, fun _ => .pure rfl ⟨⟨.inl rfl, .inl rfl, .inl rfl, .inl rfl, .inr (.inr (.inl ⟨rfl, trivial⟩)), trivial⟩, .inl rfl, trivial⟩⟩⟩
  · have h : n < 0 := of_decide_eq_true h
    omega
  · have h : lenA (nodesA l) ≤ n := of_decide_eq_true h
    omega
def csDn (kd : Int → List AV) (w : Int → Int) : Nat → List AV → List Ob → Option (AV × List Ob) := fun f args _ => match f, args with
  | 22, [.ref [.slc 6 _], .val (.int .i64 n)] => some (.slc 1 (kd n), [])
  | 10, [.ref [.slc 6 _], .val (.int .i64 n)] => some (.val (.int .i64 (w n)), [])
  | _, _ => none
set_option maxRecDepth 20000 in
set_option maxHeartbeats 1000000 in
theorem Down_no (l : List Node) (c : Cur) (k : Int) (hk : ¬ (0 ≤ k ∧ k < (kidsAt l c).length)) (hn : (kidsAt l c).length ≤ 1000000) : BCall Try.prog 35 [.agg (c.cs (nodesA l)), .val (.int .i64 k)] [] (.tup [.agg zeroC, .val (.bool false)]) [] := by
  have cK := Kids_b l c.n (by show (kidsAt l c).length ≤ _; omega)
  obtain ⟨m, hm⟩ := exLen (kidsAt l c)
  have hlen := ints_len (kidsAt l c)
  have hk : ¬ (0 ≤ k ∧ k < m) := by rw [hm.eq]; exact hk
  rename ¬ (0 ≤ k ∧ k < ((kidsAt l c).length : Int)) => hk0
  clear hk0
  obtain ⟨cn, hcn⟩ : ∃ x, x = c.n := ⟨_, rfl⟩
  obtain ⟨cf, hcf⟩ : ∃ x, x = c.f := ⟨_, rfl⟩
  obtain ⟨ck, hck⟩ : ∃ x, x = c.k := ⟨_, rfl⟩
  have hkN : kidsN l cn = intsA (kidsAt l c) := by rw [hcn]; rfl
  rw [Cur.cs, ← hcn, ← hcf, ← hck]
  rw [← hcn] at cK
  have cK : BCall Try.prog 22 [.ref [.slc 6 (nodesA l)], .val (.int .i64 cn)] [] (.slc 1 (kidsN l cn)) [] := cK
  refine bcall_of (cs := csDn (kidsN l) (widthN l)) (ord := fun _ => .nil) tyOk (by kernel_rfl) Try.func35 rfl (enters_of Try.func35 (by kernel_rfl) rfl) (Nat.le_of_ble_eq_true rfl) (by kernel_rfl) (by kernel_rfl) ?_
  intro w0 g0
  generalize hp : std = p
  generalize hkd : kidsN l = kd
  generalize hw : widthN l = w
  generalize hU : upO (nodesA l) c = U
  generalize hN : nodesA l = N
  generalize hT : aexec p tys (csDn kd w) _ _ _ _ = T
  cbv at hT
  subst hT
  simp only [Tree.ok, RoundOk, Bool.false_eq_true, Bool.true_eq_false, false_implies, true_implies, and_true, true_and]
  subst hp hkd hw hU hN
  have hkl : std.len (kidsN l cn) = m := by show ((kidsN l cn).length : Int) = _; rw [hkN, hlen, hm.eq]
  refine ⟨cK, fun _ => .pure rfl ⟨⟨.inl rfl, .inl rfl, .inl rfl, .inl rfl, .inl rfl, trivial⟩, .inl rfl, trivial⟩, fun h => ⟨fun _ => .pure rfl ⟨⟨.inl rfl, .inl rfl, .inl rfl, .inl rfl, .inl rfl, trivial⟩, .inl rfl, trivial⟩, fun h2 => ?_⟩⟩
  have h : ¬ k < 0 := of_decide_eq_false h
  have h2 : ¬ std.len (kidsN l cn) ≤ k := of_decide_eq_false h2
  rw [hkl] at h2
  omega
set_option maxRecDepth 20000 in
set_option maxHeartbeats 1000000 in
theorem Down_ok (l : List Node) (c : Cur) (k : Int) (h0 : 0 ≤ k) (h1 : k < (kidsAt l c).length) (hn : (kidsAt l c).length ≤ 1000000) (hw : ∀ n, 0 ≤ widthN l n) (hs : wsum l (kidsAt l c) ≤ 2147483647) (hf0 : 0 ≤ c.f) (hf1 : c.f ≤ 2147483647) :
    BCall Try.prog 35 [.agg (c.cs (nodesA l)), .val (.int .i64 k)] [] (.tup [.agg ((downC l c k).cs (nodesA l)), .val (.bool true)]) [] := by
  have cK := Kids_b l c.n (by show (kidsAt l c).length ≤ _; omega)
  have cW := fun n => Width_b l n
  obtain ⟨cn, hcn⟩ : ∃ x, x = c.n := ⟨_, rfl⟩
  obtain ⟨cf, hcf⟩ : ∃ x, x = c.f := ⟨_, rfl⟩
  obtain ⟨ck, hck⟩ : ∃ x, x = c.k := ⟨_, rfl⟩
  obtain ⟨ks, hks⟩ : ∃ x, x = kidsAt l c := ⟨_, rfl⟩
  obtain ⟨m, hm⟩ := exLen ks
  have hkN : kidsN l cn = intsA ks := by rw [hcn, hks]; rfl
  rw [← hks] at h1 hn hs
  rw [← hcf] at hf0 hf1
  have h1m : k < m := by rw [hm.eq]; exact h1
  have hlen := ints_len ks
  have hkl : std.len (kidsN l cn) = m := by show ((kidsN l cn).length : Int) = _; rw [hkN, hlen, hm.eq]
  have hE : (downC l c k).cs (nodesA l) = [.ref [.slc 6 (nodesA l)], .val (.int .i64 (ks[k.toNat]?.getD 0)), .val (.int .i64 (cf + wsum l (ks.take k.toNat))), .val (.int .i64 k), .opt (.ref [.ref [.slc 6 (nodesA l)], .val (.int .i64 cn), .val (.int .i64 cf), .val (.int .i64 ck), .opt (upO (nodesA l) c)])] := by
    rw [hks, hcf, hcn, hck]; rfl
  rw [hE, Cur.cs, ← hcn, ← hcf, ← hck]
  rw [← hcn] at cK
  have cK : BCall Try.prog 22 [.ref [.slc 6 (nodesA l)], .val (.int .i64 cn)] [] (.slc 1 (kidsN l cn)) [] := cK
  have hat := ints_at (l := ks) h0 h1
  have hcut : std.cut (intsA ks) 0 k = intsA (ks.take k.toNat) := by
    show ((intsA ks).drop (0 : Int).toNat).take (k - 0).toNat = _
    simp [intsA, List.map_take]
  clear h1 hE
  refine bcall_of (cs := csDn (kidsN l) (widthN l)) (ord := fun _ => .nil) tyOk (by kernel_rfl) Try.func35 rfl (enters_of Try.func35 (by kernel_rfl) rfl) (Nat.le_of_ble_eq_true rfl) (by kernel_rfl) (by kernel_rfl) ?_
  intro w0 g0
  generalize hp : std = p
  generalize hkd : kidsN l = kd
  generalize hw : widthN l = w
  generalize hU : upO (nodesA l) c = U
  generalize hN : nodesA l = N
  generalize hT : aexec p tys (csDn kd w) _ _ _ _ = T
  cbv at hT
  subst hT
  simp only [Tree.ok, RoundOk, Bool.false_eq_true, Bool.true_eq_false, false_implies, true_implies, and_true, true_and]
  subst hp hkd hw hU hN
  refine ⟨cK, fun h => ?_, fun _ => ⟨fun h => ?_, fun _ => ⟨?_, ?_⟩⟩⟩
  · have h : k < 0 := of_decide_eq_true h
    omega
  · have h : std.len (kidsN l cn) ≤ k := of_decide_eq_true h
    rw [hkl] at h; omega
  · show std.cutok 0 k (std.len (kidsN l cn))
    rw [hkl]; exact ⟨Int.le_refl _, h0, by omega⟩
  have hcl : std.len (intsA (ks.take k.toNat)) = k := by
    show ((intsA (ks.take k.toNat)).length : Int) = k
    have := hm.eq
    rw [ints_len, List.length_take]; omega
  rw [← hkN] at hcut
  obtain ⟨aw, haw⟩ : ∃ aw : Int → Int, aw = fun i => cf + wsum l (ks.take i.toNat) := ⟨_, rfl⟩
  have hwk : cf + wsum l (ks.take k.toNat) = aw k := by rw [haw]
  rw [hwk]
  have hcl2 : std.len (std.cut (kidsN l cn) 0 k) = k := by rw [hcut, hcl]
  refine loop_rule (cs := csDn (kidsN l) (widthN l)) (ord := fun _ => .nil) tyOk (by kernel_rfl) (by kernel_rfl) (by kernel_rfl) (X := Int) (fun i => ⟨[(1, .val (.int .i64 k)), (2, .box 0 0), (4, .box 1 0), (6, .slc 1 (intsA ks)), (7, .val (.int .i64 (aw i))), (28, .slc 1 (intsA (ks.take k.toNat))), (29, .val (.int .i64 k)), (30, .val (.int .i64 i))], [.box [.ref [.slc 6 (nodesA l)], .val (.int .i64 cn), .val (.int .i64 cf), .val (.int .i64 ck), .opt (upO (nodesA l) c)], .box zeroC]⟩) (fun i => 0 ≤ i ∧ i ≤ k) (fun i => (k - i).toNat) 0 ?_ ?_ ?_
  · exact ⟨Int.le_refl _, h0⟩
  · refine ⟨[some 0, some 1], _, rfl, ?_⟩
    have hw0 : cf = aw 0 := by rw [haw]; simp [wsum]
    repeat first
      | exact trivial
      | refine ⟨congrArg (AV.slc 1) hkN, ?_⟩
      | refine ⟨congrArg (AV.slc 1) hcut, ?_⟩
      | refine ⟨congrArg (fun n => AV.val (.int .i64 n)) hcl2, ?_⟩
      | refine ⟨congrArg (fun n => AV.val (.int .i64 n)) hw0, ?_⟩
      | refine ⟨rfl, ?_⟩
  · rintro i ⟨hi0, hi1⟩
    have hw1 := wsum_pos hw (ks.take i.toNat)
    have hw2 := wsum_le hw ks i.toNat
    rcases Int.lt_or_eq_of_le hi1 with hlt | heq
    · have hm1 := hm.eq
      have hil : i.toNat < ks.length := by omega
      have hx : (intsA (ks.take k.toNat))[i.toNat]?.getD .dead = .val (.int .i64 (ks[i.toNat]?.getD 0)) := by
        have := ints_at (l := ks.take k.toNat) (i := i) hi0 (by rw [List.length_take]; omega)
        rw [this, List.getElem?_take, if_pos (by omega)]
      have hxc := int_cell (l := ks.take k.toNat) (i := i) hi0 (by rw [List.length_take]; omega)
      rw [List.getElem?_take, if_pos (by omega)] at hxc
      have hnx : wsum l (ks.take (i + 1).toNat) = wsum l (ks.take i.toNat) + widthN l (ks[i.toNat]?.getD 0) := by
        rw [show (i + 1).toNat = i.toNat + 1 by omega, List.take_add_one, List.getElem?_eq_getElem hil]
        show (((ks.take i.toNat) ++ [ks[i.toNat]]).map (widthN l)).sum = _
        rw [List.map_append, List.sum_append]
        simp [wsum]
      have hw3 := wsum_le hw ks (i + 1).toNat
      rw [hnx] at hw3
      have hw4 := hw (ks[i.toNat]?.getD 0)
      have haw2 : aw (i + 1) = aw i + widthN l (ks[i.toNat]?.getD 0) := by rw [haw]; simp only [hnx]; omega
      have hawi : aw i = cf + wsum l (ks.take i.toNat) := by rw [haw]
      have hr1 : 0 ≤ aw i + widthN l (ks[i.toNat]?.getD 0) ∧ aw i + widthN l (ks[i.toNat]?.getD 0) ≤ 4294967294 := by omega
      obtain ⟨y, hy⟩ : ∃ y, y = ks[i.toNat]?.getD 0 := ⟨_, rfl⟩
      rw [← hy] at hx hxc haw2 hr1
      clear hm1 hw1 hw2 hw3 hnx hw4 hawi haw hwk
      have hlt' := hlt
      generalize hp : std = p
      generalize hkd : kidsN l = kd
      generalize hw : widthN l = w
      generalize hU : upO (nodesA l) c = U
      generalize hN : nodesA l = N
      generalize hKS : intsA ks = KS
      generalize hKT : intsA (ks.take k.toNat) = KT
      generalize hT : aexec p tys (csDn kd w) _ _ _ _ = T
      cbv at hT
      subst hT
      simp only [Tree.ok, RoundOk, Bool.false_eq_true, Bool.true_eq_false, false_implies, true_implies, and_true, true_and]
      subst hp hkd hw hU hN hKS hKT
      have hy3 := hxc
      have hy2 := int_of hxc
      have e1 : aw i + widthN l y = aw (i + 1) := haw2.symm
      refine ⟨fun _ => ⟨?_, ⟨?_, trivial⟩, cW _, ?_, ?_, i + 1, ⟨by omega, by omega⟩, by omega, [some 0, some 1], _, rfl, ?_⟩, fun h => ?_⟩
      · show 0 ≤ i ∧ i < std.len (intsA (ks.take k.toNat))
        rw [hcl]; omega
      · show std.nth (std.cel (std.at_ (intsA (ks.take k.toNat)) i)) 0 = .val (.int .i64 (std.int (std.nth (std.cel (std.at_ (intsA (ks.take k.toNat)) i)) 0)))
        rw [hy2, hy3]
      · show (-9223372036854775808 : Int) ≤ aw i + widthN l (std.int (std.nth (std.cel (std.at_ (intsA (ks.take k.toNat)) i)) 0)) ∧ aw i + widthN l (std.int (std.nth (std.cel (std.at_ (intsA (ks.take k.toNat)) i)) 0)) ≤ (9223372036854775807 : Int)
        rw [hy2]; omega
      · show (-9223372036854775808 : Int) ≤ i + 1 ∧ i + 1 ≤ (9223372036854775807 : Int)
        have := hm.eq
        omega
      · have e2 : std.add (aw i) (widthN l (std.int (std.nth (std.cel (std.at_ (intsA (ks.take k.toNat)) i)) 0))) = aw (i + 1) := by rw [hy2]; exact e1
        repeat first
          | exact trivial
          | refine ⟨rfl, ?_⟩
          | refine ⟨e2, ?_⟩
          | refine ⟨congrArg (fun q => AV.val (.int .i64 q)) (e2), ?_⟩
          | refine ⟨congrArg (fun q => AV.slc 1 q) (e2), ?_⟩
          | refine ⟨congrArg (fun q => AV.slc 0 q) (e2), ?_⟩
          | refine ⟨congrArg (fun q => AV.val (.bool q)) (e2), ?_⟩
          | refine ⟨congrArg (fun q => AV.val (.int .i32 q)) (e2), ?_⟩
          | refine ⟨congrArg (fun q => AV.val (.string q)) (e2), ?_⟩
      · have h : ¬ i < k := of_decide_eq_false h
        omega
    · rw [heq]
      clear hw1 hw2 haw hwk
      generalize hp : std = p
      generalize hkd : kidsN l = kd
      generalize hw : widthN l = w
      generalize hU : upO (nodesA l) c = U
      generalize hN : nodesA l = N
      generalize hKS : intsA ks = KS
      generalize hKT : intsA (ks.take k.toNat) = KT
      generalize hT : aexec p tys (csDn kd w) _ _ _ _ = T
      cbv at hT
      subst hT
      simp only [Tree.ok, RoundOk, Bool.false_eq_true, Bool.true_eq_false, false_implies, true_implies, and_true, true_and]
      subst hp hkd hw hU hN hKS hKT
      refine ⟨fun h => ?_, fun _ => ?_⟩
      · have h : k < k := of_decide_eq_true h
        omega
      rw [if_pos trivial]
      generalize hp : std = p
      generalize hkd : kidsN l = kd
      generalize hw : widthN l = w
      generalize hU : upO (nodesA l) c = U
      generalize hN : nodesA l = N
      generalize hKS : intsA ks = KS
      generalize hKT : intsA (ks.take k.toNat) = KT
      generalize hT : aexec p tys (csDn kd w) _ _ _ _ = T
      cbv at hT
      subst hT
      simp only [Tree.ok, RoundOk, Bool.false_eq_true, Bool.true_eq_false, false_implies, true_implies, and_true, true_and]
      subst hp hkd hw hU hN hKS hKT
      have hkm := hm.eq
      have hcl3 : std.len (intsA ks) = m := by show ((intsA ks).length : Int) = m; rw [ints_len, hm.eq]
      have hc := int_cell (l := ks) h0 (by omega)
      refine ⟨?_, ⟨has_int hc, trivial⟩, .pure rfl ⟨⟨.inl rfl, .inl (congrArg (fun q => AV.val (.int .i64 q)) (int_of hc)), .inl rfl, .inl rfl, .inr (.inr (.inl ⟨rfl, trivial⟩)), trivial⟩, .inl rfl, trivial⟩⟩
      show 0 ≤ k ∧ k < std.len (intsA ks)
      rw [hcl3]; omega
def csKi (k : Int → Int) : Nat → List AV → List Ob → Option (AV × List Ob) := fun f args _ => match f, args with
  | 24, [.ref [.slc 6 _], .val (.int .i64 n)] => some (.val (.int .i64 (k n)), [])
  | _, _ => none
theorem CKind_b (l : List Node) (c : Cur) : BCall Try.prog 21 [.agg (c.cs (nodesA l))] [] (.val (.int .i64 (nodeAt l c.n).kind)) [] := by
  have cK := Kind_b l c.n
  rw [Cur.cs]
  obtain ⟨cn, hcn⟩ : ∃ x, x = c.n := ⟨_, rfl⟩
  obtain ⟨cf, hcf⟩ : ∃ x, x = c.f := ⟨_, rfl⟩
  obtain ⟨ck, hck⟩ : ∃ x, x = c.k := ⟨_, rfl⟩
  rw [← hcn] at cK ⊢
  rw [← hcf, ← hck]
  refine bcall_of (cs := csKi (kindN l)) (ord := fun _ => .nil) tyOk (by kernel_rfl) Try.func21 rfl (enters_of Try.func21 (by kernel_rfl) rfl) (Nat.le_of_ble_eq_true rfl) (by kernel_rfl) (by kernel_rfl) ?_
  intro w0 g0
  generalize hp : std = p
  generalize hkd : kindN l = kd
  generalize hU : upO (nodesA l) c = U
  generalize hN : nodesA l = N
  generalize hT : aexec p tys (csKi kd) _ _ _ _ = T
  cbv at hT
  subst hT
  simp only [Tree.ok, RoundOk, Bool.false_eq_true, Bool.true_eq_false, false_implies, true_implies, and_true, true_and]
  subst hp hkd hU hN
  exact ⟨cK, .pure rfl (.inl rfl)⟩
def toC (l : List Node) : Cur → List Int → Option Cur
  | c, [] => some c
  | c, k :: r => if 0 ≤ k ∧ k < (kidsAt l c).length then toC l (downC l c k) r else none
def toCs (N : List AV) : Option Cur → List AV
  | some c => c.cs N
  | none => zeroC
def csToY (n f : Int) (k : Int) (U : List AV) : Nat → List AV → List Ob → Option (AV × List Ob) := fun g args _ => match g, args with
  | 35, [.agg [.ref [.slc 6 N], _, _, _, _], .val (.int .i64 _)] => some (.tup [.agg [.ref [.slc 6 N], .val (.int .i64 n), .val (.int .i64 f), .val (.int .i64 k), .opt (.ref U)], .val (.bool true)], [])
  | _, _ => none
def csToN : Nat → List AV → List Ob → Option (AV × List Ob) := fun g args _ => match g, args with
  | 35, [.agg [.ref [.slc 6 _], _, _, _, _], .val (.int .i64 _)] => some (.tup [.agg zeroC, .val (.bool false)], [])
  | _, _ => none
structure CurOk (l : List Node) (c : Cur) : Prop where
  n : (kidsAt l c).length ≤ 1000000
  s : wsum l (kidsAt l c) ≤ 2147483647
  f0 : 0 ≤ c.f
  f1 : c.f ≤ 2147483647
end Go.Proofs.Ytblafdmmebiagaa
namespace Go.Proofs.Ytblafdmmebiagaa
open Go.RowKit Go.Lib
theorem toC_app (l : List Node) : ∀ (p : List Int) (c : Cur) (q : List Int), toC l c (p ++ q) = (toC l c p).bind fun x => toC l x q
  | [], _, _ => rfl
  | k :: r, c, q => by
    show (if _ then _ else _) = Option.bind (if _ then _ else _) _
    split
    · exact toC_app l r _ q
    · rfl
def csTo (l : List Node) (pt : List Int) (x : Int × Cur) : Nat → List AV → List Ob → Option (AV × List Ob) :=
  if x.1.toNat < pt.length ∧ 0 ≤ pt[x.1.toNat]?.getD 0 ∧ pt[x.1.toNat]?.getD 0 < (kidsAt l x.2).length then
    csToY (downC l x.2 (pt[x.1.toNat]?.getD 0)).n (downC l x.2 (pt[x.1.toNat]?.getD 0)).f (pt[x.1.toNat]?.getD 0) (x.2.cs (nodesA l))
  else csToN
set_option maxRecDepth 20000 in
set_option maxHeartbeats 1000000 in
theorem To_b (l : List Node) (hw : ∀ n, 0 ≤ widthN l n) (c : Cur) (pt : List Int) (hp : pt.length ≤ 1000000) (hok : ∀ j x, toC l c (pt.take j) = some x → CurOk l x) :
    BCall Try.prog 33 [.agg (c.cs (nodesA l)), .slc 1 (intsA pt)] [] (.tup [.agg (toCs (nodesA l) (toC l c pt)), .val (.bool (toC l c pt).isSome)]) [] := by
  obtain ⟨m, hm⟩ := exLen pt
  have hlen : std.len (intsA pt) = m := by show ((intsA pt).length : Int) = m; rw [ints_len, hm.eq]
  obtain ⟨R, hR⟩ : ∃ R, R = toC l c pt := ⟨_, rfl⟩
  rw [← hR]
  obtain ⟨cn, hcn⟩ : ∃ x, x = c.n := ⟨_, rfl⟩
  obtain ⟨cf, hcf⟩ : ∃ x, x = c.f := ⟨_, rfl⟩
  obtain ⟨ck, hck⟩ : ∃ x, x = c.k := ⟨_, rfl⟩
  rw [Cur.cs, ← hcn, ← hcf, ← hck]
  refine bcall_of (cs := cs0) (ord := fun _ => .nil) tyOk (by kernel_rfl) Try.func33 rfl (enters_of Try.func33 (by kernel_rfl) rfl) (Nat.le_of_ble_eq_true rfl) (by kernel_rfl) (by kernel_rfl) ?_
  intro w0 g0
  generalize hp : std = p
  generalize hU : upO (nodesA l) c = U
  generalize hN : nodesA l = N
  generalize hPA : intsA pt = PA
  generalize hT : aexec p tys (cs0) _ _ _ _ = T
  cbv at hT
  subst hT
  simp only [Tree.ok, RoundOk, Bool.false_eq_true, Bool.true_eq_false, false_implies, true_implies, and_true, true_and]
  subst hp hU hN hPA
  refine loop_ruleX (cs := csTo l pt) (ord := fun _ => .nil) tyOk (by kernel_rfl) (by kernel_rfl) (by kernel_rfl) (X := Int × Cur) (fun x => ⟨[(2, .box 0 0), (4, .box 1 0), (14, .slc 1 (intsA pt)), (15, .val (.int .i64 m)), (16, .val (.int .i64 x.1))], [.box (x.2.cs (nodesA l)), .box zeroC]⟩) (fun x => 0 ≤ x.1 ∧ x.1 ≤ m ∧ toC l c (pt.take x.1.toNat) = some x.2 ∧ toC l x.2 (pt.drop x.1.toNat) = R) (fun x => (m - x.1).toNat) (0, c) ?_ ?_ ?_
  · exact ⟨Int.le_refl _, by have := hm.eq; show (0 : Int) ≤ m; omega, rfl, hR.symm⟩
  · refine ⟨[some 0, some 1], _, rfl, ?_⟩
    subst hcn hcf hck
    repeat first
      | exact trivial
      | refine ⟨rfl, ?_⟩
      | refine ⟨hlen, ?_⟩
      | refine ⟨congrArg (fun q => AV.val (.int .i64 q)) (hlen), ?_⟩
      | refine ⟨congrArg (fun q => AV.slc 1 q) (hlen), ?_⟩
      | refine ⟨congrArg (fun q => AV.slc 0 q) (hlen), ?_⟩
      | refine ⟨congrArg (fun q => AV.val (.bool q)) (hlen), ?_⟩
      | refine ⟨congrArg (fun q => AV.val (.int .i32 q)) (hlen), ?_⟩
      | refine ⟨congrArg (fun q => AV.val (.string q)) (hlen), ?_⟩
  · rintro ⟨i, x⟩ ⟨hi0, hi1, ht, hd⟩
    simp only at hi0 hi1 ht hd
    have hx := hok _ _ ht
    obtain ⟨xn, hxn⟩ : ∃ y, y = x.n := ⟨_, rfl⟩
    obtain ⟨xf, hxf⟩ : ∃ y, y = x.f := ⟨_, rfl⟩
    obtain ⟨xk, hxk⟩ : ∃ y, y = x.k := ⟨_, rfl⟩
    rcases Int.lt_or_eq_of_le hi1 with hlt | heq
    · have hil : i.toNat < pt.length := by have := hm.eq; omega
      have hpc := int_cell (l := pt) hi0 (by have := hm.eq; omega)
      obtain ⟨k, hk⟩ : ∃ k, k = pt[i.toNat]?.getD 0 := ⟨_, rfl⟩
      have hke : pt[i.toNat]? = some k := by rw [hk, List.getElem?_eq_getElem hil]; rfl
      have hdr : pt.drop i.toNat = k :: pt.drop (i + 1).toNat := by
        rw [show (i + 1).toNat = i.toNat + 1 by omega, List.drop_eq_getElem_cons hil, hk, List.getElem?_eq_getElem hil]; rfl
      have htk : pt.take (i + 1).toNat = pt.take i.toNat ++ [k] := by
        rw [show (i + 1).toNat = i.toNat + 1 by omega, List.take_add_one, hke]; rfl
      rw [← hk] at hpc
      rw [hdr] at hd
      have hbd : (m : Int) ≤ 1000000 := by have := hm.eq; omega
      by_cases hin : 0 ≤ k ∧ k < (kidsAt l x).length
      · have cD := Down_ok l x k hin.1 hin.2 hx.n hw hx.s hx.f0 hx.f1
        have ht2 : toC l c (pt.take (i + 1).toNat) = some (downC l x k) := by
          rw [htk, toC_app, ht]
          show (if _ then _ else _) = _
          rw [if_pos hin]; rfl
        have hd2 : toC l (downC l x k) (pt.drop (i + 1).toNat) = R := by
          rw [← hd]
          show _ = (if _ then _ else _)
          rw [if_pos hin]
        have hcs : csTo l pt (i, x) = csToY (downC l x k).n (downC l x k).f k (x.cs (nodesA l)) := by
          rw [hk] at hin ⊢
          exact if_pos ⟨hil, hin⟩
        rw [hcs]
        obtain ⟨d, hd'⟩ : ∃ d, d = downC l x k := ⟨_, rfl⟩
        have hdk : d.k = k := by rw [hd']; rfl
        have hdu : upO (nodesA l) d = .ref (x.cs (nodesA l)) := by rw [hd']; rfl
        rw [← hd'] at cD ht2 hd2 ⊢
        obtain ⟨dn, hdn⟩ : ∃ y, y = d.n := ⟨_, rfl⟩
        obtain ⟨df, hdf⟩ : ∃ y, y = d.f := ⟨_, rfl⟩
        rw [← hdn, ← hdf]
        simp only [Cur.cs] at cD ⊢
        rw [hdu, hdk, ← hdn, ← hdf] at cD
        simp only [Cur.cs] at cD
        rw [← hxn, ← hxf, ← hxk] at cD ⊢
        clear hin hcs hdr htk hd
        generalize hp : std = p
        generalize hU : upO (nodesA l) x = U
        generalize hN : nodesA l = N
        generalize hPA : intsA pt = PA
        generalize hT : aexec p tys (csToY dn df k [.ref [.slc 6 N], .val (.int .i64 xn), .val (.int .i64 xf), .val (.int .i64 xk), .opt U]) _ _ _ _ = T
        cbv at hT
        subst hT
        simp only [Tree.ok, RoundOk, Bool.false_eq_true, Bool.true_eq_false, false_implies, true_implies, and_true, true_and]
        subst hp hU hN hPA
        refine ⟨fun _ => ⟨?_, ⟨has_int hpc, trivial⟩, ?_, fun h => ?_, fun _ => ⟨?_, (i + 1, d), ⟨?_, ?_, ht2, hd2⟩, ?_, [some 0, some 1], _, rfl, ?_⟩⟩, fun h => ?_⟩
        · show 0 ≤ i ∧ i < std.len (intsA pt)
          rw [hlen]; omega
        · show BCall _ _ [.agg _, .val (.int .i64 (std.int (std.nth (std.cel (std.at_ (intsA pt) i)) 0)))] _ _ _
          rw [int_of hpc]; exact cD
        · exact absurd h (by decide)
        · show (-9223372036854775808 : Int) ≤ i + 1 ∧ i + 1 ≤ (9223372036854775807 : Int)
          omega
        · show 0 ≤ i + 1
          omega
        · show i + 1 ≤ m
          omega
        · show (m - (i + 1)).toNat < (m - i).toNat
          omega
        · have eu : upO (nodesA l) d = .ref [.ref [.slc 6 (nodesA l)], .val (.int .i64 xn), .val (.int .i64 xf), .val (.int .i64 xk), .opt (upO (nodesA l) x)] := by rw [hdu, hxn, hxf, hxk]; rfl
          simp only [Cur.cs]
          rw [eu, hdk, ← hdn, ← hdf]
          repeat first
            | exact trivial
            | refine ⟨rfl, ?_⟩
            | refine ⟨rfl, ?_⟩
            | refine ⟨congrArg (fun q => AV.val (.int .i64 q)) (rfl), ?_⟩
            | refine ⟨congrArg (fun q => AV.slc 1 q) (rfl), ?_⟩
            | refine ⟨congrArg (fun q => AV.slc 0 q) (rfl), ?_⟩
            | refine ⟨congrArg (fun q => AV.val (.bool q)) (rfl), ?_⟩
            | refine ⟨congrArg (fun q => AV.val (.int .i32 q)) (rfl), ?_⟩
            | refine ⟨congrArg (fun q => AV.val (.string q)) (rfl), ?_⟩
        · have h : ¬ i < m := of_decide_eq_false h
          omega
      · have cD := Down_no l x k hin hx.n
        have hRn : R = none := by
          rw [← hd]
          show (if _ then _ else _) = _
          rw [if_neg hin]
        have hcs : csTo l pt (i, x) = csToN := by
          rw [hk] at hin
          exact if_neg fun h => hin h.2
        rw [hcs, hRn]
        simp only [Cur.cs] at cD ⊢
        rw [← hxn, ← hxf, ← hxk] at cD ⊢
        clear hin hcs hdr htk hd
        generalize hp : std = p
        generalize hU : upO (nodesA l) x = U
        generalize hN : nodesA l = N
        generalize hPA : intsA pt = PA
        generalize hT : aexec p tys (csToN) _ _ _ _ = T
        cbv at hT
        subst hT
        simp only [Tree.ok, RoundOk, Bool.false_eq_true, Bool.true_eq_false, false_implies, true_implies, and_true, true_and]
        subst hp hU hN hPA
        refine ⟨fun _ => ⟨?_, ⟨has_int hpc, trivial⟩, ?_, fun h => ?_, fun h => ?_⟩, fun h => ?_⟩
        · show 0 ≤ i ∧ i < std.len (intsA pt)
          rw [hlen]; omega
        · show BCall _ _ [.agg _, .val (.int .i64 (std.int (std.nth (std.cel (std.at_ (intsA pt) i)) 0)))] _ _ _
          rw [int_of hpc]; exact cD
        · generalize hp : std = p
          generalize hU : upO (nodesA l) x = U
          generalize hN : nodesA l = N
          generalize hPA : intsA pt = PA
          generalize hT : endK p tys false _ _ _ = T
          cbv at hT
          subst hT
          simp only [Tree.ok, RoundOk, Bool.false_eq_true, Bool.true_eq_false, false_implies, true_implies, and_true, true_and]
          subst hp hU hN hPA
          exact .pure rfl ⟨⟨.inl rfl, .inl rfl, .inl rfl, .inl rfl, .inl rfl, trivial⟩, .inl rfl, trivial⟩
        · exact absurd h (by decide)
        · have h : ¬ i < m := of_decide_eq_false h
          omega
    · have hd0 : pt.drop i.toNat = [] := List.drop_eq_nil_of_le (by have := hm.eq; omega)
      rw [hd0] at hd
      have hRs : R = some x := hd.symm
      rw [hRs, heq]
      have hcs : csTo l pt (m, x) = csToN := by
        refine if_neg fun h => ?_
        have := h.1
        have := hm.eq
        omega
      simp only [Cur.cs]
      rw [← hxn, ← hxf, ← hxk, hcs]
      generalize hp : std = p
      generalize hU : upO (nodesA l) x = U
      generalize hN : nodesA l = N
      generalize hPA : intsA pt = PA
      generalize hT : aexec p tys (csToN) _ _ _ _ = T
      cbv at hT
      subst hT
      simp only [Tree.ok, RoundOk, Bool.false_eq_true, Bool.true_eq_false, false_implies, true_implies, and_true, true_and]
      subst hp hU hN hPA
      refine ⟨fun h => ?_, fun _ => ?_⟩
      · have h : m < m := of_decide_eq_true h
        omega
      rw [if_pos trivial]
      generalize hp : std = p
      generalize hU : upO (nodesA l) x = U
      generalize hN : nodesA l = N
      generalize hPA : intsA pt = PA
      generalize hT : aexec p tys cs0 _ _ _ _ = T
      cbv at hT
      subst hT
      simp only [Tree.ok, RoundOk, Bool.false_eq_true, Bool.true_eq_false, false_implies, true_implies, and_true, true_and]
      subst hp hU hN hPA
      subst hxn hxf hxk
      exact .pure rfl ⟨⟨.inl rfl, .inl rfl, .inl rfl, .inl rfl, .inl rfl, trivial⟩, .inl rfl, trivial⟩
end Go.Proofs.Ytblafdmmebiagaa
