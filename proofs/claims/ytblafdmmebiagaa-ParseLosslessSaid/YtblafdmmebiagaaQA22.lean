/-
  Parts of the proof, joined: Bl Ls. Conditions: as each theorem says.
-/
import Derived.Test.YtblafdmmebiagaaQA21
import Derived.Test.YtblafdmmebiagaaQA10
import Derived.Test.YtblafdmmebiagaaQA01
import Derived.WideShapes
namespace Go.Proofs.Ytblafdmmebiagaa
open Go.RowKit Go.Lib
def gl (w : World) : Gh := ⟨fun b _ => b < w.heap.size, fun _ => none, fun _ => 0, fun _ => false⟩
theorem mem_law (w : World) : Mem w (gl w) [] :=
  ⟨(fun id cs h => by simp at h), (fun id cs h => by simp at h), (fun id s p h => by simp at h), (fun b id h => by cases h), (fun b o h => ⟨h, fun id h2 => by cases h2⟩), (fun id et sz fz e xs h => by simp at h), (fun b h => by cases h), (fun b b' id h => by cases h)⟩
theorem BCall.law {P : Program} {f : Nat} {vs : List Value} {args : List AV} {res : Value} (h : BCall P f args [] (.val res) []) (w : World) (hL : ARelL w (gl w) [] vs args) :
    Calls P f vs.toArray w fun e w' => e = .returned res ∧ Below w.heap.size w w' :=
  (h.2 w (gl w) vs (mem_law w) hL).mono fun e w' ⟨v, g', k1, k2, k3, k4⟩ => by
    have hv : v = res := ARel.valEq (g := g') (w := w') (ob := []) k3
    subst hv
    exact ⟨k1, k4.os, k4.tape, k4.output, k4.size, fun b hb => k4.keep b hb rfl⟩
theorem argL_nil {w : World} {g : Gh} {ob : List Ob} : ARelL w g ob [] [] := ⟨rfl, fun j v x h => by simp at h⟩
theorem argL_cons {w : World} {g : Gh} {ob : List Ob} {v : Value} {x : AV} {vs : List Value} {xs : List AV} (h : ARel1 w g ob v x) (hr : ARelL w g ob vs xs) : ARelL w g ob (v :: vs) (x :: xs) := by
  refine ⟨by simp [hr.1], fun j u y hu hy => ?_⟩
  cases j with
  | zero =>
    obtain rfl : v = u := by simpa using hu
    obtain rfl : x = y := by simpa using hy
    exact h
  | succ j => exact hr.2 j u y (by simpa using hu) (by simpa using hy)
theorem okWide_spot {P : Program} {W : World} {r : Reach} {base : Nat} {t e : TypeId} {x : Addr} {l c : Nat} (ht : P.underlying t = some (.slice e)) (h : Value.okWide P W r base t (.slice (some x) l c)) : x.spot = none := by
  simp only [Value.okWide, ht, Cell.okWide, Cell.ok] at h
  exact h.2.2.2.1
def IsRowS (k : IntKind) (w : World) (a : Option Addr) (len cap : Nat) (zs : List Int) : Prop :=
  (a = none ∧ len = 0 ∧ cap = 0 ∧ zs = []) ∨
  ∃ x, a = some x ∧ len ≤ cap ∧ cap ≤ maxLen ∧ zs.length = cap ∧ (∀ i, i < zs.length → w.cell? (x.add i) = some (.int k (zs.getD i 0))) ∧ ∀ n ∈ zs, (Lit.int k n).wf = true
theorem arg_ints {k : IntKind} {w : World} {a : Option Addr} {len cap : Nat} {zs : List Int} (h : IsRowS k w a len cap zs) (hs : ∀ x, a = some x → x.spot = none) :
    ARel1 w (gl w) [] (.slice a len cap) (.slc 1 ((zs.take len).map fun n => .val (.int k n))) := by
  have hr := (rd_of_row h).1
  have hl : len = ((zs.take len).map fun n => AV.val (.int k n)).length := by
    rcases h with ⟨_, rfl, _, rfl⟩ | ⟨x, _, h1, _, h2, _⟩
    · rfl
    · simp; omega
  refine rd_slc hr (fun b o hb => hb) hl (fun x hx => by obtain ⟨n, _, rfl⟩ := List.mem_map.1 hx; rfl) (fun x hx => ?_) ?_
  · obtain ⟨b, o, s⟩ := x
    exact ⟨b, o, by rw [show s = none from hs _ hx]⟩
  · have : flatA ((zs.take len).map fun n => AV.val (.int k n)) = ((zs.take len).map (Value.int k)).map .val := by
      generalize zs.take len = l
      induction l with
      | nil => rfl
      | cons n r ih => simp only [List.map_cons, flatA, List.flatMap_cons] at ih ⊢; rw [ih]; rfl
    rw [this]
    refine ⟨by simp, fun j y u hy hu => ?_⟩
    rw [List.getElem?_map, hy] at hu
    obtain rfl : AV.val y = u := by simpa using hu
    obtain ⟨n, _, rfl⟩ := List.mem_map.1 (List.mem_of_getElem? hy)
    exact PRel.val _ rfl
theorem lit_u8 {n : Int} (h : (Lit.int .u8 n).wf = true) : ((UInt8.ofNat n.toNat).toNat : Int) = n := by
  have h : 0 ≤ n ∧ n ≤ 255 := by simpa [Lit.wf, IntKind.min, IntKind.max, IntKind.signed, IntKind.bits] using h
  rw [UInt8.toNat_ofNat']
  omega
theorem arg_bytes {w : World} {a : Option Addr} {len cap : Nat} {zs : List Int} (h : IsRowS .u8 w a len cap zs) (hs : ∀ x, a = some x → x.spot = none) :
    ARel1 w (gl w) [] (.slice a len cap) (.slc 1 (bytesA ((zs.take len).map fun n => UInt8.ofNat n.toNat))) := by
  have h1 := arg_ints h hs
  have h2 := (rd_of_row h).2
  have e : bytesA ((zs.take len).map fun n => UInt8.ofNat n.toNat) = (zs.take len).map fun n => .val (.int .u8 n) := by
    rw [bytesA, List.map_map]
    refine List.map_congr_left fun n hn => ?_
    show AV.val (.int .u8 ((UInt8.ofNat n.toNat).toNat : Int)) = _
    rw [lit_u8 (h2 n hn)]
  rw [e]; exact h1
end Go.Proofs.Ytblafdmmebiagaa
namespace Go.Proofs.Ytblafdmmebiagaa
open Go.RowKit Go.Lib
structure CurIn (l : List Node) (W C : Nat) (c : Cur) : Prop where
  h0 : 0 ≤ c.n
  h1 : c.n < l.length
  f0 : 0 ≤ c.f
  w : c.f + (nodeAt l c.n).width ≤ W
  co : co l c.n ≤ C
theorem coL_len (l : List Node) (ks : List Int) : ks.length ≤ coL l ks := by
  induction ks with
  | nil => exact Nat.zero_le _
  | cons k r ih => have := co_pos l k; simp only [coL, List.map_cons, List.sum_cons, List.length_cons] at ih ⊢; omega
theorem coL_mem (l : List Node) {ks : List Int} {k : Int} (h : k ∈ ks) : co l k ≤ coL l ks := by
  induction ks with
  | nil => cases h
  | cons x r ih =>
    simp only [coL, List.map_cons, List.sum_cons] at ih ⊢
    rcases List.mem_cons.1 h with rfl | h
    · omega
    · have := ih h; omega
section
variable {l : List Node} {W C : Nat} {c : Cur}
theorem CurIn.kids (ha : Ar l) (h : CurIn l W C c) : InR l (kidsAt l c) := fun k hk => by
  have h1 := ha.wf c.n h.h0 h.h1 k hk
  have := h.h1
  omega
theorem CurIn.wide (ha : Ar l) (h : CurIn l W C c) : wsum l (kidsAt l c) ≤ (nodeAt l c.n).width ∧ 0 ≤ (nodeAt l c.n).width := by
  rw [ha.wide c.n h.h0 h.h1, wsum_pr ha.wide (h.kids ha), pr_eq ha.wf h.h0 h.h1, List.length_append]
  show (((kidsAt l c).flatMap (pr l)).length : Int) ≤ (((nodeAt l c.n).b.length + ((kidsAt l c).flatMap (pr l)).length : Nat) : Int) ∧ _
  omega
theorem CurIn.cos (ha : Ar l) (h : CurIn l W C c) : 1 + coL l (kidsAt l c) ≤ C := by
  have := h.co
  rw [co_eq ha.wf h.h0 h.h1] at this
  exact this
theorem CurIn.ok (ha : Ar l) (h : CurIn l W C c) (hW : W ≤ 2147483647) (hC : C ≤ 1000000) : CurOk l c := by
  have h1 := h.wide ha
  have h2 := h.cos ha
  have h3 := coL_len l (kidsAt l c)
  have h4 := h.w
  have h5 := h.f0
  exact ⟨by omega, by omega, h5, by omega⟩
theorem CurIn.down (ha : Ar l) (h : CurIn l W C c) {k : Int} (h0 : 0 ≤ k) (h1 : k < (kidsAt l c).length) : CurIn l W C (downC l c k) := by
  have hk : k.toNat < (kidsAt l c).length := by omega
  have hx : (kidsAt l c)[k.toNat]?.getD 0 = (kidsAt l c)[k.toNat] := by rw [List.getElem?_eq_getElem hk]; rfl
  have hm : (kidsAt l c)[k.toNat] ∈ kidsAt l c := List.getElem_mem hk
  have hr := h.kids ha _ hm
  have hw := h.wide ha
  have hc := h.cos ha
  have hcm := coL_mem l hm
  have hs1 := wsum_pos ha.ok.w ((kidsAt l c).take k.toNat)
  have hs2 := wsum_le ha.ok.w (kidsAt l c) (k.toNat + 1)
  have hs3 : wsum l ((kidsAt l c).take (k.toNat + 1)) = wsum l ((kidsAt l c).take k.toNat) + (nodeAt l (kidsAt l c)[k.toNat]).width := by
    rw [List.take_add_one, List.getElem?_eq_getElem hk]
    show (((kidsAt l c).take k.toNat ++ [(kidsAt l c)[k.toNat]]).map (widthN l)).sum = _
    rw [List.map_append, List.sum_append]
    simp [wsum, widthN]
  have h4 := h.w
  have h5 := h.f0
  refine ⟨?_, ?_, ?_, ?_, ?_⟩
  · show 0 ≤ (kidsAt l c)[k.toNat]?.getD 0
    rw [hx]; exact hr.1
  · show (kidsAt l c)[k.toNat]?.getD 0 < _
    rw [hx]; exact hr.2
  · show 0 ≤ c.f + wsum l ((kidsAt l c).take k.toNat)
    omega
  · show c.f + wsum l ((kidsAt l c).take k.toNat) + (nodeAt l ((kidsAt l c)[k.toNat]?.getD 0)).width ≤ W
    rw [hx]; omega
  · show Go.Proofs.Ytblafdmmebiagaa.co l ((kidsAt l c)[k.toNat]?.getD 0) ≤ C
    rw [hx]; omega
end
theorem CurIn.to {l : List Node} {W C : Nat} (ha : Ar l) : ∀ (p : List Int) (c x : Cur), CurIn l W C c → toC l c p = some x → CurIn l W C x
  | [], c, x, h, e => by
    obtain rfl : c = x := by simpa [toC] using e
    exact h
  | k :: r, c, x, h, e => by
    have e : (if 0 ≤ k ∧ k < (kidsAt l c).length then toC l (downC l c k) r else none) = some x := e
    split at e
    · rename_i hk
      exact CurIn.to ha r _ x (h.down ha hk.1 hk.2) e
    · cases e
structure TreeOk (b : List UInt8) (m : Mk) : Prop where
  ar : Ar (rootM m).n
  p : pr (rootM m).n m.n.length = b
  w : (nodeAt (rootM m).n m.n.length).width = b.length
  c : co (rootM m).n m.n.length ≤ 400000
  n : (rootM m).n.length ≤ 400000
  s : m.s.length = 1
theorem parse_ok (b : List UInt8) (hb : b.length ≤ 100000) : TreeOk b (parseM b) := by
  have hs := text_sml b hb
  have hr := (text_ok b).2.2.1
  obtain ⟨h1, h2⟩ := inv_all hs.ok hs.hr (first_inv b)
  have h1 : MkI (parseM b) b (3 + 3 * (textF' b).r.length) (2 + 3 * (textF' b).r.length) := h1
  have h2 : (parseM b).s.length = 1 := h2
  obtain ⟨k1, k2, k3, k4⟩ := root_prints h1 h2
  have hn := h1.i.n
  exact ⟨k1, k2, k3, by omega, by show ((parseM b).n ++ [_]).length ≤ _; simp only [List.length_append, List.length_singleton]; omega, h2⟩
theorem root_lt (m : Mk) : (m.n.length : Int) < ((rootM m).n.length : Int) := by
  show (m.n.length : Int) < ((m.n ++ [_]).length : Int)
  simp only [List.length_append, List.length_singleton]; omega
theorem TreeOk.pr {b : List UInt8} {m : Mk} (h : TreeOk b m) (hb : b.length ≤ 100000) : PrOk (rootM m).n m.n.length :=
  ⟨by have := h.n; omega, h.ar.wf, h.ar.wide, by omega, root_lt m, by rw [h.p]; omega, by have := h.c; omega⟩
theorem TreeOk.root {b : List UInt8} {m : Mk} (h : TreeOk b m) : CurIn (rootM m).n b.length 400000 (.root m.n.length) :=
  ⟨by show (0 : Int) ≤ m.n.length; omega, root_lt m, Int.le_refl _, by show (0 : Int) + (nodeAt (rootM m).n m.n.length).width ≤ _; rw [h.w]; omega, h.c⟩
theorem strB_bytes (l : List UInt8) : std.strB (bytesA l) = ⟨l.toArray⟩ := by
  show (⟨((bytesA l).map byteOf).toArray⟩ : ByteArray) = _
  rw [bytes_back]
theorem eqS_self (a : ByteArray) : std.eqS a a = true := by
  show (a.toList == a.toList) = true
  exact beq_self_eq_true _
def csAw (K M rt tn tf tk : Int) (R O N D PB : List AV) (U : AV) : Nat → List AV → List Ob → Option (AV × List Ob) := fun f args _ => match f, args with
  | 8, [.slc 1 _] => some (.agg [.val (.int .i64 K), .val (.int .i64 M), .slc 1 R, .slc 1 O, .ref [.slc 6 N], .val (.int .i64 rt), .slc 3 D], [])
  | 12, [.agg _] => some (.agg [.ref [.slc 6 N], .val (.int .i64 rt), .val (.int .i64 0), .val (.int .i64 0), .opt (.val (.pointer none))], [])
  | 33, [.agg _, .slc 1 _] => some (.tup [.agg [.ref [.slc 6 N], .val (.int .i64 tn), .val (.int .i64 tf), .val (.int .i64 tk), .opt U], .val (.bool true)], [])
  | 9, [.agg _] => some (.slc 1 PB, [])
  | 21, [.agg _] => some (.val (.int .i64 22), [])
  | _, _ => none
set_option maxRecDepth 20000 in
set_option maxHeartbeats 2000000 in
theorem awake_b : BCall Try.prog 11 [] [] (.val (.bool true)) [] := by
  have hb : exB.length ≤ 100000 := by decide
  have hO := parse_ok exB hb
  have cP := Parse_b exB hb
  have cC := TCursor_b (textF' exB) (parseM exB)
  have cPr := TPrint_b (textF' exB) (parseM exB) (hO.pr hb)
  rw [hO.p] at cPr
  have hd := ex_d
  have hto := ex_to
  obtain ⟨x, hx, hk⟩ := Option.map_eq_some_iff.1 hto
  have cT := To_b (rootM (parseM exB)).n hO.ar.ok.w (.root (parseM exB).n.length) [0, 1, 1] (by decide) (fun j x h => (CurIn.to hO.ar _ _ _ hO.root h).ok hO.ar (by decide) (by decide))
  rw [hx] at cT
  have cK := CKind_b (rootM (parseM exB)).n x
  rw [hk] at cK
  generalize parseM exB = m at cP cC cPr cT cK hd
  generalize textF' exB = t at cP cC cPr
  obtain ⟨rt, hrt⟩ : ∃ rt : Int, rt = m.n.length := ⟨_, rfl⟩
  unfold treeA at cP cC cPr
  simp only [toCs, Cur.cs, Option.isSome_some, hd] at cP cC cPr cT cK
  rw [← hrt] at cP cC cPr cT
  clear hO hb hto hx hk hd
  refine bcall_of (cs := csAw t.kind t.bom rt x.n x.f x.k (runesA t.r) (intsA t.off) (nodesA (rootM m).n) [.agg [.val (.int .i64 6), .val (.int .i64 6), .val (.int .i64 4)]] (bytesA exB) (upO (nodesA (rootM m).n) x)) (ord := fun _ => .nil) tyOk (by kernel_rfl) Try.func11 rfl (enters_of Try.func11 (by kernel_rfl) rfl) (Nat.le_of_ble_eq_true rfl) (by kernel_rfl) (by kernel_rfl) ?_
  intro w0 g0
  generalize hp : std = p
  generalize hU : upO (nodesA (rootM m).n) x = U
  generalize hN : nodesA (rootM m).n = N
  generalize htn : x.n = tn
  generalize htf : x.f = tf
  generalize htk : x.k = tk
  generalize hK : t.kind = K
  generalize hM : t.bom = M
  generalize hR : runesA t.r = R
  generalize hO : intsA t.off = O
  generalize hPB : bytesA exB = PB
  generalize hT : aexec p tys (csAw K M rt tn tf tk R O N [.agg [.val (.int .i64 6), .val (.int .i64 6), .val (.int .i64 4)]] PB U) _ _ _ _ = T
  cbv at hT
  subst hT
  simp only [Tree.ok, RoundOk, Bool.false_eq_true, Bool.true_eq_false, false_implies, true_implies, and_true, true_and]
  subst hp hU hN htn htf htk hK hM hR hO hPB
  have hS : std.eqS (std.strB (bytesA exB)) ⟨#[60, 97, 62, 60, 98, 62, 60, 47, 97, 62]⟩ = true := by rw [strB_bytes]; exact eqS_self _
  repeat' first
    | (with_reducible apply And.intro)
    | (with_reducible intro hh)
  all_goals first
    | exact cP
    | exact cC
    | exact cT
    | exact cPr
    | exact cK
    | exact isB_bytesA _
    | exact eqDiag
    | exact absurd (hS.symm.trans hh) (by decide)
    | exact absurd hh (by decide)
    | exact .pure rfl (.inl rfl)
    | exact List.cons_ne_nil _ _
    | exact ⟨rfl, rfl, rfl, trivial⟩
    | exact ⟨(by decide : (0 : Int) ≤ 0), (by decide : (0 : Int) < 1)⟩
def csLl (K M rt : Int) (R O N D PB SB : List AV) (w : Int → Int) : Nat → List AV → List Ob → Option (AV × List Ob) := fun f args _ => match f, args with
  | 7, [.slc 1 _] => some (.slc 1 SB, [])
  | 8, [.slc 1 _] => some (.agg [.val (.int .i64 K), .val (.int .i64 M), .slc 1 R, .slc 1 O, .ref [.slc 6 N], .val (.int .i64 rt), .slc 3 D], [])
  | 9, [.agg _] => some (.slc 1 PB, [])
  | 10, [.ref [.slc 6 _], .val (.int .i64 n)] => some (.val (.int .i64 (w n)), [])
  | 11, [] => some (.val (.bool true), [])
  | _, _ => none
def llO : OT := .then [0, 3] (.fork (.then [1] (.fork (.then [2, 4, 5, 6, 7, 9, 12, 13] (.fork (.of [8, 10, 11, 14, 15, 16, 17, 18, 19]) (.of [10, 8, 11, 14, 15, 16, 17, 18, 19]))) (.then [4, 2, 5, 6, 7, 9, 12, 13] (.fork (.of [8, 10, 11, 14, 15, 16, 17, 18, 19]) (.of [10, 8, 11, 14, 15, 16, 17, 18, 19]))))) (.then [4, 1, 2, 5, 6, 7, 9, 12, 13] (.fork (.of [8, 10, 11, 14, 15, 16, 17, 18, 19]) (.of [10, 8, 11, 14, 15, 16, 17, 18, 19]))))
set_option maxRecDepth 20000 in
set_option maxHeartbeats 2000000 in
theorem Lossless_b (b0 : List UInt8) : BCall Try.prog 3 [.slc 1 (bytesA b0)] [] (.val (.bool true)) [] := by
  have cS := Short_b b0
  obtain ⟨b, hb⟩ : ∃ b, b = b0.take 400 := ⟨_, rfl⟩
  have hl : b.length ≤ 100000 := by rw [hb, List.length_take]; omega
  rw [← hb] at cS
  have hO := parse_ok b hl
  have cP := Parse_b b hl
  have cPr := TPrint_b (textF' b) (parseM b) (hO.pr hl)
  rw [hO.p] at cPr
  have cW := Width_b (rootM (parseM b)).n (parseM b).n.length
  have hw := hO.w
  have cA := awake_b
  generalize parseM b = m at cP cPr cW hw
  generalize textF' b = t at cP cPr
  obtain ⟨rt, hrt⟩ : ∃ rt : Int, rt = m.n.length := ⟨_, rfl⟩
  have hww : widthN (rootM m).n rt = std.len (bytesA b) := by
    rw [hrt]; show (nodeAt (rootM m).n m.n.length).width = ((bytesA b).length : Int)
    rw [hw, bytes_len]
  unfold treeA at cP cPr
  rw [← hrt] at cP cPr cW
  clear hO hl hw
  refine bcall_of (cs := csLl t.kind t.bom rt (runesA t.r) (intsA t.off) (nodesA (rootM m).n) (dgsA m.d) (bytesA b) (bytesA b) (widthN (rootM m).n)) (ord := fun id => match id with | 3 =>  llO | _ => .nil) tyOk (by kernel_rfl) Try.func3 rfl (enters_of Try.func3 (by kernel_rfl) rfl) (Nat.le_of_ble_eq_true rfl) (by kernel_rfl) (by kernel_rfl) ?_
  intro w0 g0
  generalize hp : std = p
  generalize hw : widthN (rootM m).n = w
  generalize hN : nodesA (rootM m).n = N
  generalize hD : dgsA m.d = D
  generalize hK : t.kind = K
  generalize hM : t.bom = M
  generalize hR : runesA t.r = R
  generalize hO : intsA t.off = O
  generalize hPB : bytesA b = PB
  generalize hB0 : bytesA b0 = B0
  generalize hT : aexec p tys (csLl K M rt R O N D PB PB w) _ _ _ _ = T
  cbv at hT
  subst hT
  simp only [Tree.ok, RoundOk, Bool.false_eq_true, Bool.true_eq_false, false_implies, true_implies, and_true, true_and]
  subst hp hw hN hD hK hM hR hO hPB hB0
  have hS : std.eqS (std.strB (bytesA b)) (std.strB (bytesA b)) = true := eqS_self _
  have hE : std.eqI (widthN (rootM m).n rt) (std.len (bytesA b)) = true := by rw [hww]; exact beq_self_eq_true _
  repeat' first
    | (with_reducible apply And.intro)
    | (with_reducible intro hh)
  all_goals first
    | exact cS
    | exact cP
    | exact cPr
    | exact cW
    | exact cA
    | exact isB_bytesA _
    | exact absurd (hS.symm.trans hh) (by decide)
    | exact absurd (hE.symm.trans hh) (by decide)
    | exact .pure rfl (.inl rfl)
end Go.Proofs.Ytblafdmmebiagaa
