/-
  Parts of the proof, joined: Gr. Conditions: as each theorem says.
-/
import Derived.Test.YtblafdmmebiagaaQD07
namespace Go.Proofs.Ytblafdmmebiagaa
open Go.RowKit Go.Lib
structure Node where
  kind : Int
  width : Int
  count : Int
  leaf : Bool
  b : List UInt8
  kids : List Int
  deriving Inhabited
def Node.av (x : Node) : AV := .agg [.val (.int .i64 x.kind), .val (.int .i64 x.width), .val (.int .i64 x.count), .val (.bool x.leaf), .slc 1 (bytesA x.b), .slc 1 (intsA x.kids)]
def nodesA (l : List Node) : List AV := l.map Node.av
theorem nodes_len (l : List Node) : (nodesA l).length = l.length := by simp [nodesA]
def node0 : Node := ⟨0, 0, 0, false, [], []⟩
def nodeAt (l : List Node) (n : Int) : Node := if 0 ≤ n ∧ n < l.length then l[n.toNat]?.getD node0 else node0
theorem nodes_at {l : List Node} {n : Int} (h0 : 0 ≤ n) (h1 : n < l.length) : (nodesA l)[n.toNat]?.getD .dead = (nodeAt l n).av := by
  rw [nodeAt, if_pos ⟨h0, h1⟩]
  exact getA Node.av h0 h1 node0
theorem Len_b (l : List Node) : BCall Try.prog 53 [.ref [.slc 6 (nodesA l)]] [] (.val (.int .i64 l.length)) [] := by
  refine bcall_of (cs := cs0) (ord := fun _ => .nil) tyOk (by kernel_rfl) Try.func53 rfl (enters_of Try.func53 (by kernel_rfl) rfl) (Nat.le_of_ble_eq_true rfl) (by kernel_rfl) (by kernel_rfl) ?_
  intro w0 g0
  generalize hp : std = p
  generalize hxs : nodesA l = xs
  generalize hT : aexec p tys (cs0) _ _ _ _ = T
  cbv at hT
  subst hT
  simp only [Tree.ok, RoundOk, Bool.false_eq_true, Bool.true_eq_false, false_implies, true_implies, and_true, true_and]
  subst hp hxs
  refine ⟨by simp [std, allP, lstOf], .pure rfl (.inl ?_)⟩
  simp [std, lstOf, nodesA]
def csOf (len : List AV → Int) : Nat → List AV → List Ob → Option (AV × List Ob) := fun f args _ => match f, args with
  | 53, [.ref [.slc 6 xs]] => some (.val (.int .i64 (len xs)), [])
  | _, _ => none
def lenA (xs : List AV) : Int := xs.length
theorem Len_l (l : List Node) : BCall Try.prog 53 [.ref [.slc 6 (nodesA l)]] [] (.val (.int .i64 (lenA (nodesA l)))) [] := by
  have := Len_b l
  rw [← nodes_len] at this
  exact this
theorem of_b (l : List Node) (n : Int) : BCall Try.prog 32 [.ref [.slc 6 (nodesA l)], .val (.int .i64 n)] [] (nodeAt l n).av [] := by
  refine bcall_of (cs := csOf lenA) (ord := fun _ => .nil) tyOk (by kernel_rfl) Try.func32 rfl (enters_of Try.func32 (by kernel_rfl) rfl) (Nat.le_of_ble_eq_true rfl) (by kernel_rfl) (by kernel_rfl) ?_
  intro w0 g0
  generalize hp : std = p
  generalize hlen : lenA = len
  generalize hxs : nodesA l = xs
  generalize hT : aexec p tys (csOf len) _ _ _ _ = T
  cbv at hT
  subst hT
  simp only [Tree.ok, RoundOk, Bool.false_eq_true, Bool.true_eq_false, false_implies, true_implies, and_true, true_and]
  subst hp hlen hxs
  have hlen := nodes_len l
  refine ⟨fun h1 => .pure rfl ?_, fun h1 => ⟨Len_l l, fun h2 => .pure rfl ?_, fun h2 => ⟨?_, ?_, ?_, .pure rfl ?_⟩⟩⟩
  · have h1 : n < 0 := by simpa [std] using h1
    have : ¬ (0 ≤ n ∧ n < l.length) := by omega
    simp [nodeAt, this, Node.av, node0, leA, leA1, leL, leC, bytesA, intsA]
  · have h2 : (l.length : Int) ≤ n := by simpa [std, lenA, hlen] using h2
    have : ¬ (0 ≤ n ∧ n < l.length) := by omega
    simp [nodeAt, this, Node.av, node0, leA, leA1, leL, leC, bytesA, intsA]
  · simp [std, allP, lstOf]
  all_goals
    have h1 : 0 ≤ n := by simpa [std] using h1
    have h2 : n < l.length := by simpa [std, lenA, hlen] using h2
    have hat := nodes_at h1 h2
  · simp [std, lstOf, hlen, h1, h2]
  · simp [std, allP, lstOf, hat, Node.av, AV.cells, intOf, booOf]
  · simp [std, allP, lstOf, hat, Node.av, AV.cells, intOf, booOf, leA, leA1, leL, leC]
def csAt (k w c : Int → Int) (lf : Int → Bool) (b s : Int → List AV) : Nat → List AV → List Ob → Option (AV × List Ob) := fun f args _ => match f, args with
  | 32, [.ref [.slc 6 _], .val (.int .i64 n)] => some (.agg [.val (.int .i64 (k n)), .val (.int .i64 (w n)), .val (.int .i64 (c n)), .val (.bool (lf n)), .slc 1 (b n), .slc 1 (s n)], [])
  | 40, [.slc 1 xs] => some (.slc 1 xs, [])
  | 99, [.slc 1 xs] => some (.slc 1 xs, [])
  | 48, [.slc 1 xs] => some (.slc 1 xs, [])
  | _, _ => none
def kindN (l : List Node) (n : Int) : Int := (nodeAt l n).kind
def widthN (l : List Node) (n : Int) : Int := (nodeAt l n).width
def countN (l : List Node) (n : Int) : Int := (nodeAt l n).count
def leafN (l : List Node) (n : Int) : Bool := (nodeAt l n).leaf
def bN (l : List Node) (n : Int) : List AV := bytesA (nodeAt l n).b
def kidsN (l : List Node) (n : Int) : List AV := intsA (nodeAt l n).kids
theorem Kind_b (l : List Node) (n : Int) : BCall Try.prog 24 [.ref [.slc 6 (nodesA l)], .val (.int .i64 n)] [] (.val (.int .i64 (nodeAt l n).kind)) [] := by
  refine bcall_of (cs := csAt (kindN l) (widthN l) (countN l) (leafN l) (bN l) (kidsN l)) (ord := fun _ => .nil) tyOk (by kernel_rfl) Try.func24 rfl (enters_of Try.func24 (by kernel_rfl) rfl) (Nat.le_of_ble_eq_true rfl) (by kernel_rfl) (by kernel_rfl) ?_
  intro w0 g0
  generalize hp : std = p
  generalize hk : kindN l = k
  generalize hw : widthN l = w
  generalize hc : countN l = c
  generalize hlf : leafN l = lf
  generalize hb : bN l = b
  generalize hs : kidsN l = s
  generalize hxs : nodesA l = xs
  generalize hT : aexec p tys (csAt k w c lf b s) _ _ _ _ = T
  cbv at hT
  subst hT
  simp only [Tree.ok, RoundOk, Bool.false_eq_true, Bool.true_eq_false, false_implies, true_implies, and_true, true_and]
  subst hp hk hw hc hlf hb hs hxs
  exact ⟨of_b l n, .pure rfl (.inl rfl)⟩
theorem Width_b (l : List Node) (n : Int) : BCall Try.prog 10 [.ref [.slc 6 (nodesA l)], .val (.int .i64 n)] [] (.val (.int .i64 (nodeAt l n).width)) [] := by
  refine bcall_of (cs := csAt (kindN l) (widthN l) (countN l) (leafN l) (bN l) (kidsN l)) (ord := fun _ => .nil) tyOk (by kernel_rfl) Try.func10 rfl (enters_of Try.func10 (by kernel_rfl) rfl) (Nat.le_of_ble_eq_true rfl) (by kernel_rfl) (by kernel_rfl) ?_
  intro w0 g0
  generalize hp : std = p
  generalize hk : kindN l = k
  generalize hw : widthN l = w
  generalize hc : countN l = c
  generalize hlf : leafN l = lf
  generalize hb : bN l = b
  generalize hs : kidsN l = s
  generalize hxs : nodesA l = xs
  generalize hT : aexec p tys (csAt k w c lf b s) _ _ _ _ = T
  cbv at hT
  subst hT
  simp only [Tree.ok, RoundOk, Bool.false_eq_true, Bool.true_eq_false, false_implies, true_implies, and_true, true_and]
  subst hp hk hw hc hlf hb hs hxs
  exact ⟨of_b l n, .pure rfl (.inl rfl)⟩
theorem Kids_b (l : List Node) (n : Int) (hn : (nodeAt l n).kids.length ≤ 1000000000) : BCall Try.prog 22 [.ref [.slc 6 (nodesA l)], .val (.int .i64 n)] [] (.slc 1 (intsA (nodeAt l n).kids)) [] := by
  refine bcall_of (cs := csAt (kindN l) (widthN l) (countN l) (leafN l) (bN l) (kidsN l)) (ord := fun _ => .nil) tyOk (by kernel_rfl) Try.func22 rfl (enters_of Try.func22 (by kernel_rfl) rfl) (Nat.le_of_ble_eq_true rfl) (by kernel_rfl) (by kernel_rfl) ?_
  intro w0 g0
  generalize hp : std = p
  generalize hk : kindN l = k
  generalize hw : widthN l = w
  generalize hc : countN l = c
  generalize hlf : leafN l = lf
  generalize hb : bN l = b
  generalize hs : kidsN l = s
  generalize hxs : nodesA l = xs
  generalize hT : aexec p tys (csAt k w c lf b s) _ _ _ _ = T
  cbv at hT
  subst hT
  simp only [Tree.ok, RoundOk, Bool.false_eq_true, Bool.true_eq_false, false_implies, true_implies, and_true, true_and]
  subst hp hk hw hc hlf hb hs hxs
  exact ⟨of_b l n, CloneI_b _ (by simpa [kidsN, intsA] using hn), .pure rfl (.inl rfl)⟩
theorem New_b : BCall Try.prog 27 [] [] (.box 0 0) [.box [.val (.slice none 0 0)]] := by
  refine bcall_new (cs := cs0) (ord := fun _ => .nil) tyOk (by kernel_rfl) Try.func27 rfl (enters_of Try.func27 (by kernel_rfl) rfl) (Nat.le_of_ble_eq_true rfl) (by kernel_rfl) (by kernel_rfl) ?_
  intro w0 g0
  generalize hp : std = p
  generalize hT : aexec p tys (cs0) _ _ _ _ = T
  cbv at hT
  subst hT
  simp only [Tree.ok, RoundOk, Bool.false_eq_true, Bool.true_eq_false, false_implies, true_implies, and_true, true_and]
  subst hp
  exact ⟨[some 0], .box 0 0, _, rfl, rfl, Nat.zero_le _, rfl, ⟨rfl, rfl, trivial⟩, .inl rfl⟩
theorem add_b (xs : List AV) (hn : xs.length < 1000000000) (k w c : Int) (lf : Bool) (b kids : List AV) :
    BCall Try.prog 47 [.box 0 0, .agg [.val (.int .i64 k), .val (.int .i64 w), .val (.int .i64 c), .val (.bool lf), .slc 1 b, .slc 1 kids]] [.box [.row 1 0], .row 74 6 false 0 xs] (.val (.int .i64 xs.length)) [.box [.row 1 1], .row 74 6 false 1 (xs ++ [.agg [.val (.int .i64 k), .val (.int .i64 w), .val (.int .i64 c), .val (.bool lf), .slc 1 b, .slc 1 kids]])] := by
  refine bcall_of (cs := cs0) (ord := fun _ => .nil) tyOk (by kernel_rfl) Try.func47 rfl (enters_of Try.func47 (by kernel_rfl) rfl) (Nat.le_of_ble_eq_true rfl) (by kernel_rfl) (by kernel_rfl) ?_
  intro w0 g0
  generalize hp : std = p
  generalize hT : aexec p tys (cs0) _ _ _ _ = T
  cbv at hT
  subst hT
  simp only [Tree.ok, RoundOk, Bool.false_eq_true, Bool.true_eq_false, false_implies, true_implies, and_true, true_and]
  subst hp
  refine ⟨?_, ?_, [some 0, some 1], .val (.int .i64 xs.length), _, rfl, rfl, Nat.le_refl _, rfl, ?_, .inl rfl⟩
  · simp [std]; omega
  · show (-9223372036854775808 : Int) ≤ _ ∧ _ ≤ (9223372036854775807 : Int)
    simp [std]; omega
  · simp [AllEq, std]
theorem add0_b (k w c : Int) (lf : Bool) (b kids : List AV) :
    BCall Try.prog 47 [.box 0 0, .agg [.val (.int .i64 k), .val (.int .i64 w), .val (.int .i64 c), .val (.bool lf), .slc 1 b, .slc 1 kids]] [.box [.val (.slice none 0 0)]] (.val (.int .i64 0)) [.box [.row 1 1], .row 74 6 false 1 [.agg [.val (.int .i64 k), .val (.int .i64 w), .val (.int .i64 c), .val (.bool lf), .slc 1 b, .slc 1 kids]]] := by
  refine bcall_of (cs := cs0) (ord := fun _ => .nil) tyOk (by kernel_rfl) Try.func47 rfl (enters_of Try.func47 (by kernel_rfl) rfl) (Nat.le_of_ble_eq_true rfl) (by kernel_rfl) (by kernel_rfl) ?_
  intro w0 g0
  generalize hp : std = p
  generalize hT : aexec p tys (cs0) _ _ _ _ = T
  cbv at hT
  subst hT
  simp only [Tree.ok, RoundOk, Bool.false_eq_true, Bool.true_eq_false, false_implies, true_implies, and_true, true_and]
  subst hp
  refine ⟨?_, ?_, [some 0, some 3], .val (.int .i64 0), _, rfl, rfl, Nat.le_succ _, rfl, ?_, .inl rfl⟩
  · simp [std]
  · show (-9223372036854775808 : Int) ≤ _ ∧ _ ≤ (9223372036854775807 : Int)
    simp [std]
  · simp [AllEq, std]
def leafF (kind : Int) (b : List UInt8) : Node := ⟨kind, b.length, 1, true, b, []⟩
def csAdd (p : Pr) : Nat → List AV → List Ob → Option (AV × List Ob) := fun f args ob => match f, args with
  | 47, [.box 0 0, .agg [k, w, c, l, b, s]] => match ob with
    | [.box [.row 1 0], .row 74 6 false 0 xs] => some (.val (.int .i64 (p.len xs)), [.box [.row 1 1], .row 74 6 false 1 (p.app xs [.agg [k, w, c, l, match b with | .val (.slice none 0 0) => .slc 1 [] | b => b, match s with | .val (.slice none 0 0) => .slc 1 [] | s => s]])])
    | [.box [.val (.slice none 0 0)]] => some (.val (.int .i64 0), [.box [.row 1 1], .row 74 6 false 1 [.agg [k, w, c, l, match b with | .val (.slice none 0 0) => .slc 1 [] | b => b, match s with | .val (.slice none 0 0) => .slc 1 [] | s => s]]])
    | _ => none
  | 40, [.slc 1 xs] => some (.slc 1 xs, [])
  | 48, [.slc 1 xs] => some (.slc 1 xs, [])
  | 48, [.val (.slice none 0 0)] => some (.slc 1 [], [])
  | _, _ => none
theorem Leaf_b (l : List Node) (hl : l.length < 1000000000) (kind : Int) (b : List UInt8) (hb : b.length ≤ 1000000000) :
    BCall Try.prog 29 [.box 0 0, .val (.int .i64 kind), .slc 1 (bytesA b)] [.box [.row 1 0], .row 74 6 false 0 (nodesA l)] (.val (.int .i64 l.length)) [.box [.row 1 1], .row 74 6 false 1 (nodesA (l ++ [leafF kind b]))] := by
  refine bcall_of (cs := csAdd std) (ord := fun _ => .nil) tyOk (by kernel_rfl) Try.func29 rfl (enters_of Try.func29 (by kernel_rfl) rfl) (Nat.le_of_ble_eq_true rfl) (by kernel_rfl) (by kernel_rfl) ?_
  intro w0 g0
  generalize hp : std = p
  generalize hbs : bytesA b = bs
  generalize hxs : nodesA l = xs
  generalize hT : aexec p tys (csAdd p) _ _ _ _ = T
  cbv at hT
  subst hT
  simp only [Tree.ok, RoundOk, Bool.false_eq_true, Bool.true_eq_false, false_implies, true_implies, and_true, true_and]
  subst hp hbs hxs
  refine ⟨BytesClone_b _ (by simpa [bytesA] using hb), ?_, [some 0, some 1], .val (.int .i64 l.length), _, rfl, rfl, Nat.le_refl _, rfl, ?_, .inl rfl⟩
  · exact (add_b (nodesA l) (by simpa [nodesA] using hl) kind _ 1 true (bytesA b) []).le ⟨.inl rfl, ⟨.inl rfl, .inl rfl, .inl rfl, .inl rfl, .inl rfl, .inr (.inl ⟨rfl, _, rfl⟩), trivial⟩, trivial⟩
  · simp [AllEq, std, nodesA, leafF, Node.av, bytesA, intsA]
theorem Leaf0_b (kind : Int) (b : List UInt8) (hb : b.length ≤ 1000000000) :
    BCall Try.prog 29 [.box 0 0, .val (.int .i64 kind), .slc 1 (bytesA b)] [.box [.val (.slice none 0 0)]] (.val (.int .i64 0)) [.box [.row 1 1], .row 74 6 false 1 (nodesA [leafF kind b])] := by
  refine bcall_of (cs := csAdd std) (ord := fun _ => .nil) tyOk (by kernel_rfl) Try.func29 rfl (enters_of Try.func29 (by kernel_rfl) rfl) (Nat.le_of_ble_eq_true rfl) (by kernel_rfl) (by kernel_rfl) ?_
  intro w0 g0
  generalize hp : std = p
  generalize hbs : bytesA b = bs
  generalize hT : aexec p tys (csAdd p) _ _ _ _ = T
  cbv at hT
  subst hT
  simp only [Tree.ok, RoundOk, Bool.false_eq_true, Bool.true_eq_false, false_implies, true_implies, and_true, true_and]
  subst hp hbs
  refine ⟨BytesClone_b _ (by simpa [bytesA] using hb), ?_, [some 0, some 1], .val (.int .i64 0), _, rfl, rfl, Nat.le_succ _, rfl, ?_, .inl rfl⟩
  · exact (add0_b kind _ 1 true (bytesA b) []).le ⟨.inl rfl, ⟨.inl rfl, .inl rfl, .inl rfl, .inl rfl, .inl rfl, .inr (.inl ⟨rfl, _, rfl⟩), trivial⟩, trivial⟩
  · simp [AllEq, std, nodesA, leafF, Node.av, bytesA, intsA]
def wsum (l : List Node) (ks : List Int) : Int := (ks.map (widthN l)).sum
def cnt (l : List Node) (ks : List Int) : Int := ks.foldl (fun c k => min (c + countN l k) 2147483647) 1
def branchF (l : List Node) (kind : Int) (ks : List Int) : Node := ⟨kind, wsum l ks, cnt l ks, false, [], ks⟩
theorem wsum_pos {l : List Node} (hw : ∀ n, 0 ≤ widthN l n) (ks : List Int) : 0 ≤ wsum l ks := by
  induction ks with
  | nil => simp [wsum]
  | cons k r ih => have := hw k; simp only [wsum, List.map_cons, List.sum_cons] at ih ⊢; omega
theorem wsum_le {l : List Node} (hw : ∀ n, 0 ≤ widthN l n) (ks : List Int) (n : Nat) : wsum l (ks.take n) ≤ wsum l ks := by
  have h := wsum_pos hw (ks.drop n)
  have e : wsum l ks = wsum l (ks.take n) + wsum l (ks.drop n) := by
    rw [wsum, wsum, wsum, ← List.sum_append, ← List.map_append, List.take_append_drop]
  omega
theorem cnt_range {l : List Node} (hc : ∀ n, 0 ≤ countN l n ∧ countN l n ≤ 2147483647) (ks : List Int) : 0 ≤ cnt l ks ∧ cnt l ks ≤ 2147483647 := by
  have key : ∀ (ks : List Int) (c : Int), 0 ≤ c ∧ c ≤ 2147483647 → 0 ≤ ks.foldl (fun c k => min (c + countN l k) 2147483647) c ∧ ks.foldl (fun c k => min (c + countN l k) 2147483647) c ≤ 2147483647 := by
    intro ks
    induction ks with
    | nil => intro c h; exact h
    | cons k r ih => intro c h; have := hc k; exact ih (min (c + countN l k) 2147483647) (by omega)
  exact key ks 1 (by omega)
set_option maxRecDepth 20000 in
theorem Branch_b (l : List Node) (hl : l.length < 1000000000) (kind : Int) (ks : List Int) (hks : ks.length ≤ 1000000000) (hin : ∀ k ∈ ks, 0 ≤ k ∧ k < l.length) (hw : ∀ n, 0 ≤ widthN l n) (hc : ∀ n, 0 ≤ countN l n ∧ countN l n ≤ 2147483647) (hsum : wsum l ks ≤ 2147483647) :
    BCall Try.prog 52 [.box 0 0, .val (.int .i64 kind), .slc 1 (intsA ks)] [.box [.row 1 0], .row 74 6 false 0 (nodesA l)] (.tup [.val (.int .i64 l.length), .val (.int .i64 0)]) [.box [.row 1 1], .row 74 6 false 1 (nodesA (l ++ [branchF l kind ks]))] := by
  refine bcall_of (cs := csAdd std) (ord := fun _ => .nil) tyOk (by kernel_rfl) Try.func52 rfl (enters_of Try.func52 (by kernel_rfl) rfl) (Nat.le_of_ble_eq_true rfl) (by kernel_rfl) (by kernel_rfl) ?_
  intro w0 g0
  generalize hp : std = p
  generalize hks' : intsA ks = ks'
  generalize hxs : nodesA l = xs
  generalize hT : aexec p tys (csAdd p) _ _ _ _ = T
  cbv at hT
  subst hT
  simp only [Tree.ok, RoundOk, Bool.false_eq_true, Bool.true_eq_false, false_implies, true_implies, and_true, true_and]
  subst hp hks' hxs
  refine ⟨CloneI_b _ (by simpa [intsA] using hks), ?_⟩
  obtain ⟨n, hn⟩ := exLen ks
  refine loop_rule (cs := csAdd std) (ord := fun _ => .nil) tyOk (by kernel_rfl) (by kernel_rfl) (by kernel_rfl) (X := Int) (fun i => ⟨[(0, .box 0 0), (8, .box 2 0), (9, .val (.bool false)), (18, .slc 1 (intsA ks)), (19, .val (.int .i64 n)), (20, .val (.int .i64 i))], [.box [.row 1 0], .row 74 6 false 0 (nodesA l), .box [.val (.int .i64 kind), .val (.int .i64 (wsum l (ks.take i.toNat))), .val (.int .i64 (cnt l (ks.take i.toNat))), .val (.bool false), .val (.slice none 0 0), .slc 1 (intsA ks)]]⟩) (fun i => 0 ≤ i ∧ i ≤ n) (fun i => (n - i).toNat) 0 ?_ ?_ ?_
  · have := hn.eq
    omega
  · exact ⟨[some 0, some 1, some 2], _, rfl, by simp [AllEq, lk, wsum, cnt, std, intsA, hn.eq]⟩
  · rintro i ⟨hi1, hi2⟩
    have en := hn.eq
    have hks' := ints_len ks
    have hls := nodes_len l
    rcases Int.lt_or_eq_of_le hi2 with hlt | heq
    · have hat := ints_at (l := ks) hi1 (en ▸ hlt)
      have hmem : ks[i.toNat]?.getD 0 ∈ ks := by
        have : i.toNat < ks.length := by omega
        simp [this]
      have ht : ks.take (i + 1).toNat = ks.take i.toNat ++ [ks[i.toNat]?.getD 0] := by
        have : i.toNat < ks.length := by omega
        rw [show (i + 1).toNat = i.toNat + 1 by omega, List.take_add_one]
        simp [this]
      have hW2 : wsum l (ks.take (i + 1).toNat) = wsum l (ks.take i.toNat) + widthN l (ks[i.toNat]?.getD 0) := by rw [ht]; simp [wsum]
      have hC2 : cnt l (ks.take (i + 1).toNat) = min (cnt l (ks.take i.toNat) + countN l (ks[i.toNat]?.getD 0)) 2147483647 := by rw [ht]; simp [cnt, List.foldl_append]
      obtain ⟨hk0, hk1⟩ := hin _ hmem
      obtain ⟨k, hk⟩ : ∃ k, k = ks[i.toNat]?.getD 0 := ⟨_, rfl⟩
      rw [← hk] at hat hW2 hC2 hk0 hk1
      have hnd := nodes_at hk0 hk1
      have hWl : wsum l (ks.take i.toNat) + widthN l k ≤ 2147483647 := by
        rw [← hW2]
        exact Int.le_trans (wsum_le hw _ _) hsum
      have hW0 : 0 ≤ wsum l (ks.take i.toNat) := wsum_pos hw _
      have hC0 := cnt_range hc (ks.take i.toNat)
      have hwk := hw k
      have hck := hc k
      simp only [widthN, countN] at hW2 hC2 hWl hwk hck
      obtain ⟨W, hW⟩ : ∃ W, W = wsum l (ks.take i.toNat) := ⟨_, rfl⟩
      obtain ⟨C, hC⟩ : ∃ C, C = cnt l (ks.take i.toNat) := ⟨_, rfl⟩
      rw [← hW] at hW2 hWl hW0 ⊢
      rw [← hC] at hC2 hC0 ⊢
      clear en
      generalize hp : std = p
      generalize hkv : intsA ks = kv
      generalize hxs : nodesA l = xs
      generalize hT : aexec p tys (csAdd p) _ _ _ _ = T
      cbv at hT
      subst hT
      simp only [Tree.ok, RoundOk, Bool.false_eq_true, Bool.true_eq_false, false_implies, true_implies, and_true, true_and]
      subst hp hkv hxs
      have en := hn.eq
      replace hk1 : k < (l.length : Int) := hk1
      repeat' first
        | (with_reducible refine And.intro (fun hx => absurd hx (by (first | (simp [std, allP, AV.cells, intOf, booOf, lstOf, hat, hks', hls, hnd, hk0, hk1, Node.av, hlt]; done) | (simp [std, allP, AV.cells, intOf, booOf, lstOf, hat, hks', hls, hnd, hk0, hk1, Node.av, hlt]; omega) | (refine (inR64 _).2 ?_; (try simp [std, AV.cells, intOf, hat, hks', hls, hnd, hk0, hk1, Node.av, hlt]); omega) | (refine (inR32 _).2 ?_; (try simp [std, AV.cells, intOf, hat, hks', hls, hnd, hk0, hk1, Node.av, hlt]); omega) | omega))) (fun _ => ?_))
        | (with_reducible refine And.intro (fun _ => ?_) (fun hx => absurd hx (by (first | (simp [std, allP, AV.cells, intOf, booOf, lstOf, hat, hks', hls, hnd, hk0, hk1, Node.av, hlt]; done) | (simp [std, allP, AV.cells, intOf, booOf, lstOf, hat, hks', hls, hnd, hk0, hk1, Node.av, hlt]; omega) | (refine (inR64 _).2 ?_; (try simp [std, AV.cells, intOf, hat, hks', hls, hnd, hk0, hk1, Node.av, hlt]); omega) | (refine (inR32 _).2 ?_; (try simp [std, AV.cells, intOf, hat, hks', hls, hnd, hk0, hk1, Node.av, hlt]); omega) | omega))))
        | (with_reducible refine And.intro (by (first | (simp [std, allP, AV.cells, intOf, booOf, lstOf, hat, hks', hls, hnd, hk0, hk1, Node.av, hlt]; done) | (simp [std, allP, AV.cells, intOf, booOf, lstOf, hat, hks', hls, hnd, hk0, hk1, Node.av, hlt]; omega) | (refine (inR64 _).2 ?_; (try simp [std, AV.cells, intOf, hat, hks', hls, hnd, hk0, hk1, Node.av, hlt]); omega) | (refine (inR32 _).2 ?_; (try simp [std, AV.cells, intOf, hat, hks', hls, hnd, hk0, hk1, Node.av, hlt]); omega) | omega)) ?_)
        | (with_reducible refine And.intro ?_ ?_)
        | (with_reducible intro hb)
      all_goals exact ⟨i + 1, ⟨by omega, by omega⟩, by omega, [some 0, some 1, some 2], _, rfl, by simp [AllEq, lk, std, hat, hnd, Node.av, AV.cells, intOf, hW2, hC2]; omega⟩
    · have ht : ks.take i.toNat = ks := List.take_of_length_le (by omega)
      rw [ht]
      have hW0 := wsum_pos hw ks
      have hC0 := cnt_range hc ks
      have hB : branchF l kind ks = ⟨kind, wsum l ks, cnt l ks, false, [], ks⟩ := rfl
      obtain ⟨W, hW⟩ : ∃ W, W = wsum l ks := ⟨_, rfl⟩
      obtain ⟨C, hC⟩ : ∃ C, C = cnt l ks := ⟨_, rfl⟩
      rw [← hW] at hW0 hB ⊢
      rw [← hC] at hC0 hB ⊢
      clear en
      generalize hp : std = p
      generalize hkv : intsA ks = kv
      generalize hxs : nodesA l = xs
      generalize hT : aexec p tys (csAdd p) _ _ _ _ = T
      cbv at hT
      subst hT
      simp only [Tree.ok, RoundOk, Bool.false_eq_true, Bool.true_eq_false, false_implies, true_implies, and_true, true_and]
      subst hp hkv hxs
      repeat' first
        | (with_reducible refine And.intro (fun hx => absurd hx (by (first | (simp [std, allP, AV.cells, intOf, booOf, lstOf, heq]; done) | (simp [std, allP, AV.cells, intOf, booOf, lstOf, heq]; omega) | (refine (inR64 _).2 ?_; (try simp [std, AV.cells, intOf, heq]); omega) | (refine (inR32 _).2 ?_; (try simp [std, AV.cells, intOf, heq]); omega) | omega))) (fun _ => ?_))
        | (with_reducible refine And.intro (fun _ => ?_) (fun hx => absurd hx (by (first | (simp [std, allP, AV.cells, intOf, booOf, lstOf, heq]; done) | (simp [std, allP, AV.cells, intOf, booOf, lstOf, heq]; omega) | (refine (inR64 _).2 ?_; (try simp [std, AV.cells, intOf, heq]); omega) | (refine (inR32 _).2 ?_; (try simp [std, AV.cells, intOf, heq]); omega) | omega))))
        | (with_reducible refine And.intro (by (first | (simp [std, allP, AV.cells, intOf, booOf, lstOf, heq]; done) | (simp [std, allP, AV.cells, intOf, booOf, lstOf, heq]; omega) | (refine (inR64 _).2 ?_; (try simp [std, AV.cells, intOf, heq]); omega) | (refine (inR32 _).2 ?_; (try simp [std, AV.cells, intOf, heq]); omega) | omega)) ?_)
        | (with_reducible refine And.intro ?_ ?_)
        | (with_reducible intro hb)
      rw [if_pos trivial]
      generalize hBv : branchF l kind ks = B at hB ⊢
      generalize hp : std = p
      generalize hkv : intsA ks = kv
      generalize hxs : nodesA l = xs
      generalize hT : aexec p tys (csAdd p) _ _ _ _ = T
      cbv at hT
      subst hT
      simp only [Tree.ok, RoundOk, Bool.false_eq_true, Bool.true_eq_false, false_implies, true_implies, and_true, true_and]
      subst hp hkv hxs
      refine ⟨?_, [some 0, some 1], .tup [.val (.int .i64 l.length), .val (.int .i64 0)], _, rfl, rfl, Nat.le_refl _, rfl, ?_, ?_⟩
      · exact (add_b (nodesA l) (by simpa [nodesA] using hl) kind W C false [] (intsA ks)).le ⟨.inl rfl, ⟨.inl rfl, .inl rfl, .inl rfl, .inl rfl, .inr (.inl ⟨rfl, _, rfl⟩), .inl rfl, trivial⟩, trivial⟩
      · simp [AllEq, std, hls, nodesA, hB, Node.av, bytesA, intsA]
      · exact ⟨.inl rfl, .inl rfl, trivial⟩
end Go.Proofs.Ytblafdmmebiagaa
