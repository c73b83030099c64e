/-
  Parts of the proof, joined: Gp. Conditions: as each theorem says.
-/
import Derived.Test.YtblafdmmebiagaaQD09
namespace Go.Proofs.Ytblafdmmebiagaa
open Go.RowKit Go.Lib
def Wf (l : List Node) : Prop := ∀ n : Int, 0 ≤ n → n < l.length → ∀ k ∈ (nodeAt l n).kids, 0 ≤ k ∧ k < n
def prF (l : List Node) : Nat → Int → List UInt8
  | 0, _ => []
  | f + 1, n => (nodeAt l n).b ++ (nodeAt l n).kids.flatMap (prF l f)
def pr (l : List Node) (n : Int) : List UInt8 := prF l (n.toNat + 1) n
def coF (l : List Node) : Nat → Int → Nat
  | 0, _ => 1
  | f + 1, n => 1 + ((nodeAt l n).kids.map (coF l f)).sum
def co (l : List Node) (n : Int) : Nat := coF l (n.toNat + 1) n
theorem prF_more {l : List Node} (hw : Wf l) : ∀ (f f' : Nat) (n : Int), 0 ≤ n → n < l.length → n.toNat < f → n.toNat < f' → prF l f n = prF l f' n
  | 0, _, _, _, _, h, _ => by omega
  | _ + 1, 0, _, _, _, _, h => by omega
  | f + 1, f' + 1, n, h0, h1, h2, h3 => by
    simp only [prF]
    congr 1
    refine congrArg List.flatten (List.map_congr_left fun k hk => ?_)
    have := hw n h0 h1 k hk
    exact prF_more hw f f' k this.1 (by omega) (by omega) (by omega)
theorem pr_eq {l : List Node} (hw : Wf l) {n : Int} (h0 : 0 ≤ n) (h1 : n < l.length) : pr l n = (nodeAt l n).b ++ (nodeAt l n).kids.flatMap (pr l) := by
  show prF l (n.toNat + 1) n = _
  simp only [prF]
  congr 1
  refine congrArg List.flatten (List.map_congr_left fun k hk => ?_)
  have := hw n h0 h1 k hk
  exact prF_more hw _ _ k this.1 (by omega) (by omega) (by omega)
theorem coF_more {l : List Node} (hw : Wf l) : ∀ (f f' : Nat) (n : Int), 0 ≤ n → n < l.length → n.toNat < f → n.toNat < f' → coF l f n = coF l f' n
  | 0, _, _, _, _, h, _ => by omega
  | _ + 1, 0, _, _, _, _, h => by omega
  | f + 1, f' + 1, n, h0, h1, h2, h3 => by
    simp only [coF]
    congr 2
    refine List.map_congr_left fun k hk => ?_
    have := hw n h0 h1 k hk
    exact coF_more hw f f' k this.1 (by omega) (by omega) (by omega)
theorem co_eq {l : List Node} (hw : Wf l) {n : Int} (h0 : 0 ≤ n) (h1 : n < l.length) : co l n = 1 + ((nodeAt l n).kids.map (co l)).sum := by
  show coF l (n.toNat + 1) n = _
  simp only [coF]
  congr 2
  refine List.map_congr_left fun k hk => ?_
  have := hw n h0 h1 k hk
  exact coF_more hw _ _ k this.1 (by omega) (by omega) (by omega)
def Wide (l : List Node) : Prop := ∀ n : Int, 0 ≤ n → n < l.length → (nodeAt l n).width = (pr l n).length
def csPr (len : List AV → Int) : Nat → List AV → List Ob → Option (AV × List Ob) := csOf len
def prS (l : List Node) (st : List Int) : List UInt8 := st.reverse.flatMap (pr l)
def coS (l : List Node) (st : List Int) : Nat := (st.map (co l)).sum
def kS (l : List Node) (ks : List Int) : List Int := (ks.filter fun k => decide (0 < widthN l k)).reverse
theorem co_pos (l : List Node) (n : Int) : 1 ≤ co l n := by
  show 1 ≤ coF l (n.toNat + 1) n
  simp only [coF]; omega
theorem coS_len {l : List Node} (st : List Int) : st.length ≤ coS l st := by
  induction st with
  | nil => simp [coS]
  | cons k r ih => have := co_pos l k; simp only [coS, List.map_cons, List.sum_cons, List.length_cons] at ih ⊢; omega
set_option maxRecDepth 20000 in
set_option maxHeartbeats 2000000 in
theorem Print_b (l : List Node) (hl : l.length ≤ 1000000000) (hw : Wf l) (hwd : Wide l) (n : Int) (h0 : 0 ≤ n) (h1 : n < l.length) (hp : (pr l n).length ≤ 1000000) (hc : co l n ≤ 1000000) :
    BCall Try.prog 31 [.ref [.slc 6 (nodesA l)], .val (.int .i64 n)] [] (.slc 1 (bytesA (pr l n))) [] := by
  obtain ⟨m, hm⟩ := exLen l
  have h1m : n < m := by rw [hm.eq]; exact h1
  refine bcall_of (cs := csPr lenA) (ord := fun _ => .nil) tyOk (by kernel_rfl) Try.func31 rfl (enters_of Try.func31 (by kernel_rfl) rfl) (Nat.le_of_ble_eq_true rfl) (by kernel_rfl) (by kernel_rfl) ?_
  intro w0 g0
  clear h1
  generalize hp : std = p
  generalize hlen : lenA = len
  generalize hxs : nodesA l = xs
  generalize hT : aexec p tys (csPr len) _ _ _ _ = T
  cbv at hT
  subst hT
  simp only [Tree.ok, RoundOk, Bool.false_eq_true, Bool.true_eq_false, false_implies, true_implies, and_true, true_and]
  subst hp hlen hxs
  have em := hm.eq
  repeat' first
    | (with_reducible refine And.intro (fun hx => absurd hx (by (first | (simp [std, allP, AV.cells, intOf, booOf, lstOf, lenA, nodes_len l, h0, Len_l l]; done) | (simp [std, allP, AV.cells, intOf, booOf, lstOf, lenA, nodes_len l, h0, Len_l l]; omega) | (refine (inR64 _).2 ?_; (try simp [std, AV.cells, intOf, booOf, lstOf, lenA, nodes_len l, h0, Len_l l]); omega) | (refine (inR32 _).2 ?_; (try simp [std, AV.cells, intOf, booOf, lstOf, lenA, nodes_len l, h0, Len_l l]); omega) | omega))) (fun _ => ?_))
    | (with_reducible refine And.intro (fun _ => ?_) (fun hx => absurd hx (by (first | (simp [std, allP, AV.cells, intOf, booOf, lstOf, lenA, nodes_len l, h0, Len_l l]; done) | (simp [std, allP, AV.cells, intOf, booOf, lstOf, lenA, nodes_len l, h0, Len_l l]; omega) | (refine (inR64 _).2 ?_; (try simp [std, AV.cells, intOf, booOf, lstOf, lenA, nodes_len l, h0, Len_l l]); omega) | (refine (inR32 _).2 ?_; (try simp [std, AV.cells, intOf, booOf, lstOf, lenA, nodes_len l, h0, Len_l l]); omega) | omega))))
    | (with_reducible refine And.intro (by (first | (simp [std, allP, AV.cells, intOf, booOf, lstOf, lenA, nodes_len l, h0, Len_l l]; done) | (simp [std, allP, AV.cells, intOf, booOf, lstOf, lenA, nodes_len l, h0, Len_l l]; omega) | (refine (inR64 _).2 ?_; (try simp [std, AV.cells, intOf, booOf, lstOf, lenA, nodes_len l, h0, Len_l l]); omega) | (refine (inR32 _).2 ?_; (try simp [std, AV.cells, intOf, booOf, lstOf, lenA, nodes_len l, h0, Len_l l]); omega) | omega)) ?_)
    | (with_reducible refine And.intro ?_ ?_)
    | (with_reducible intro hb)
  · exact Len_l l
  refine loop_rule (cs := csPr lenA) (ord := fun _ => .nil) tyOk (by kernel_rfl) (by kernel_rfl) (by kernel_rfl) (X := List UInt8 × List Int) (fun x => ⟨[(0, .ref [.slc 6 (nodesA l)]), (5, .row 0 0), (6, .row 1 0)], [.row 5 1 false 0 (bytesA x.1), .row 3 1 false 0 (intsA x.2)]⟩) (fun x => x.1 ++ prS l x.2 = pr l n ∧ (∀ k ∈ x.2, 0 ≤ k ∧ k < m) ∧ coS l x.2 ≤ 1000000) (fun x => coS l x.2) ([], [n]) ?_ ?_ ?_
  · exact ⟨by simp [prS], by simp [h0, h1m], by simpa [coS] using hc⟩
  · exact ⟨[none, some 0], _, rfl, by simp [AllEq, lk, bytesA, intsA, intA]⟩
  · rintro ⟨out, st⟩ ⟨hJ1, hJ2, hJ3⟩
    simp only at hJ1 hJ2 hJ3
    rcases List.eq_nil_or_concat st with rfl | ⟨st', k, rfl⟩
    · generalize hp : std = p
      generalize hlen : lenA = len
      generalize hxs : nodesA l = xs
      generalize ho : bytesA out = o
      generalize hT : aexec p tys (csPr len) _ _ _ _ = T
      cbv at hT
      subst hT
      simp only [Tree.ok, RoundOk, Bool.false_eq_true, Bool.true_eq_false, false_implies, true_implies, and_true, true_and]
      subst hp hlen hxs ho
      repeat' first
        | (with_reducible refine And.intro (fun hx => absurd hx (by (first | (simp [std, allP, AV.cells, intOf, booOf, lstOf, intsA]; done) | (simp [std, allP, AV.cells, intOf, booOf, lstOf, intsA]; omega) | (refine (inR64 _).2 ?_; (try simp [std, AV.cells, intOf, booOf, lstOf, intsA]); omega) | (refine (inR32 _).2 ?_; (try simp [std, AV.cells, intOf, booOf, lstOf, intsA]); omega) | omega))) (fun _ => ?_))
        | (with_reducible refine And.intro (fun _ => ?_) (fun hx => absurd hx (by (first | (simp [std, allP, AV.cells, intOf, booOf, lstOf, intsA]; done) | (simp [std, allP, AV.cells, intOf, booOf, lstOf, intsA]; omega) | (refine (inR64 _).2 ?_; (try simp [std, AV.cells, intOf, booOf, lstOf, intsA]); omega) | (refine (inR32 _).2 ?_; (try simp [std, AV.cells, intOf, booOf, lstOf, intsA]); omega) | omega))))
        | (with_reducible refine And.intro (by (first | (simp [std, allP, AV.cells, intOf, booOf, lstOf, intsA]; done) | (simp [std, allP, AV.cells, intOf, booOf, lstOf, intsA]; omega) | (refine (inR64 _).2 ?_; (try simp [std, AV.cells, intOf, booOf, lstOf, intsA]); omega) | (refine (inR32 _).2 ?_; (try simp [std, AV.cells, intOf, booOf, lstOf, intsA]); omega) | omega)) ?_)
        | (with_reducible refine And.intro ?_ ?_)
        | (with_reducible intro hb)
      rw [if_pos trivial]
      generalize hp : std = p
      generalize hxs : nodesA l = xs
      generalize ho : bytesA out = o
      generalize hT : aexec p tys (csOf _) _ _ _ _ = T
      cbv at hT
      subst hT
      simp only [Tree.ok, RoundOk, Bool.false_eq_true, Bool.true_eq_false, false_implies, true_implies, and_true, true_and]
      subst hp hxs ho
      refine .pure rfl (.inl ?_)
      rw [← hJ1]; simp [prS]
    · rw [List.concat_eq_append] at hJ1 hJ2 hJ3 ⊢
      obtain ⟨hk0, hkm⟩ := hJ2 k (by simp)
      have hk1 : k < (l.length : Int) := by omega
      have hnd := nodes_at hk0 hk1
      have hss : (intsA (st' ++ [k])).length = st'.length + 1 := by simp [intsA]
      have hat : (intsA (st' ++ [k]))[st'.length]?.getD .dead = .val (.int .i64 k) := by simp [intsA, intA]
      have hat2 : ∀ h : st'.length < (intsA (st' ++ [k])).length, (intsA (st' ++ [k]))[st'.length]'h = .val (.int .i64 k) := fun h => by simp [intsA, intA]
      have hcut : (intsA (st' ++ [k])).take st'.length = intsA st' := by
        rw [show intsA (st' ++ [k]) = intsA st' ++ [intA k] by simp [intsA]]
        exact List.take_left' (by simp [intsA])
      have hls := nodes_len l
      have hpk := pr_eq hw hk0 hk1
      have hck := co_eq hw hk0 hk1
      have hpr : pr l n = out ++ ((nodeAt l k).b ++ ((nodeAt l k).kids.flatMap (pr l) ++ prS l st')) := by
        rw [← hJ1, prS, List.reverse_append, List.flatMap_append]
        simp [hpk, prS, List.append_assoc]
      have hkin : ∀ j ∈ (nodeAt l k).kids, 0 ≤ j ∧ j < m := fun j hj => by
        have := hw k hk0 hk1 j hj
        exact ⟨this.1, by omega⟩
      have hco : coS l st' + (1 + ((nodeAt l k).kids.map (co l)).sum) ≤ 1000000 := by
        rw [coS, List.map_append, List.sum_append] at hJ3
        simpa [coS, hck] using hJ3
      have hco2 : coS l (st' ++ [k]) = coS l st' + (1 + ((nodeAt l k).kids.map (co l)).sum) := by
        rw [coS, List.map_append, List.sum_append]
        simp [coS, hck]
      have hob : out.length + (nodeAt l k).b.length ≤ 1000000 := by
        have := congrArg List.length hpr
        simp only [List.length_append] at this
        omega
      have hsl := coS_len (l := l) st'
      have hkl : (nodeAt l k).kids.length ≤ ((nodeAt l k).kids.map (co l)).sum := coS_len (nodeAt l k).kids
      obtain ⟨nd, hndE⟩ : ∃ nd, nd = nodeAt l k := ⟨_, rfl⟩
      rw [← hndE] at hnd hpr hkin hco hco2 hob hkl
      have hbl := bytes_len nd.b
      have hol := bytes_len out
      have hkid := ints_len nd.kids
      clear em
      generalize hp : std = p
      generalize hlen : lenA = len
      generalize hxs : nodesA l = xs
      generalize ho : bytesA out = o
      generalize hss : intsA (st' ++ [k]) = ss
      generalize hT : aexec p tys (csPr len) _ _ _ _ = T
      cbv at hT
      subst hT
      simp only [Tree.ok, RoundOk, Bool.false_eq_true, Bool.true_eq_false, false_implies, true_implies, and_true, true_and]
      subst hp hlen hxs ho hss
      have em := hm.eq
      repeat' first
        | (with_reducible refine And.intro (fun hx => absurd hx (by (first | (simp [std, allP, AV.cells, intOf, booOf, lstOf, hss, hat, hat2, hcut, hls, hnd, Node.av, hk0, hk1, hbl, hol, hkid]; done) | (simp [std, allP, AV.cells, intOf, booOf, lstOf, hss, hat, hat2, hcut, hls, hnd, Node.av, hk0, hk1, hbl, hol, hkid]; omega) | (refine (inR64 _).2 ?_; (try simp [std, AV.cells, intOf, booOf, lstOf, hss, hat, hat2, hcut, hls, hnd, Node.av, hk0, hk1, hbl, hol, hkid]); omega) | (refine (inR32 _).2 ?_; (try simp [std, AV.cells, intOf, booOf, lstOf, hss, hat, hat2, hcut, hls, hnd, Node.av, hk0, hk1, hbl, hol, hkid]); omega) | omega))) (fun _ => ?_))
        | (with_reducible refine And.intro (fun _ => ?_) (fun hx => absurd hx (by (first | (simp [std, allP, AV.cells, intOf, booOf, lstOf, hss, hat, hat2, hcut, hls, hnd, Node.av, hk0, hk1, hbl, hol, hkid]; done) | (simp [std, allP, AV.cells, intOf, booOf, lstOf, hss, hat, hat2, hcut, hls, hnd, Node.av, hk0, hk1, hbl, hol, hkid]; omega) | (refine (inR64 _).2 ?_; (try simp [std, AV.cells, intOf, booOf, lstOf, hss, hat, hat2, hcut, hls, hnd, Node.av, hk0, hk1, hbl, hol, hkid]); omega) | (refine (inR32 _).2 ?_; (try simp [std, AV.cells, intOf, booOf, lstOf, hss, hat, hat2, hcut, hls, hnd, Node.av, hk0, hk1, hbl, hol, hkid]); omega) | omega))))
        | (with_reducible refine And.intro (by (first | (simp [std, allP, AV.cells, intOf, booOf, lstOf, hss, hat, hat2, hcut, hls, hnd, Node.av, hk0, hk1, hbl, hol, hkid]; done) | (simp [std, allP, AV.cells, intOf, booOf, lstOf, hss, hat, hat2, hcut, hls, hnd, Node.av, hk0, hk1, hbl, hol, hkid]; omega) | (refine (inR64 _).2 ?_; (try simp [std, AV.cells, intOf, booOf, lstOf, hss, hat, hat2, hcut, hls, hnd, Node.av, hk0, hk1, hbl, hol, hkid]); omega) | (refine (inR32 _).2 ?_; (try simp [std, AV.cells, intOf, booOf, lstOf, hss, hat, hat2, hcut, hls, hnd, Node.av, hk0, hk1, hbl, hol, hkid]); omega) | omega)) ?_)
        | (with_reducible refine And.intro ?_ ?_)
        | (with_reducible intro hb)
      obtain ⟨nk, hnk⟩ := exLen nd.kids
      refine loop_rule (cs := csPr lenA) (ord := fun _ => .nil) tyOk (by kernel_rfl) (by kernel_rfl) (by kernel_rfl) (X := Int) (fun j => ⟨[(0, .ref [.slc 6 (nodesA l)]), (5, .row 0 0), (6, .row 1 0), (7, .box 2 0), (8, .val (.int .i64 j))], [.row 5 1 false 0 (bytesA (out ++ nd.b)), .row 3 1 false 0 (intsA (st' ++ kS l (nd.kids.drop (j + 1).toNat))), .box [.val (.int .i64 nd.kind), .val (.int .i64 nd.width), .val (.int .i64 nd.count), .val (.bool nd.leaf), .slc 1 (bytesA nd.b), .slc 1 (intsA nd.kids)]]⟩) (fun j => -1 ≤ j ∧ j < nk) (fun j => (j + 1).toNat) (nk - 1) ?_ ?_ ?_
      · have := hnk.eq
        omega
      · have en := hnk.eq
        refine ⟨[some 0, some 1, some 2], _, rfl, ?_⟩
        have e1 : nd.kids.drop (nk - 1 + 1).toNat = [] := List.drop_eq_nil_of_le (by omega)
        simp [AllEq, lk, std, hss, hat, hat2, hcut, hls, hnd, Node.av, AV.cells, intOf, booOf, lstOf, hk0, hk1, hkid, en, e1]
        exact ⟨by simp [bytesA], by simp [kS]⟩
      · rintro j ⟨hj1, hj2⟩
        have en := hnk.eq
        rcases Int.lt_or_eq_of_le hj1 with hlt | heq
        · have hj0 : 0 ≤ j := by omega
          have hjk : j.toNat < nd.kids.length := by omega
          have hat := ints_at (l := nd.kids) hj0 (by omega)
          have hdrop : nd.kids.drop j.toNat = nd.kids[j.toNat]?.getD 0 :: nd.kids.drop (j + 1).toNat := by
            rw [List.drop_eq_getElem_cons hjk, show (j + 1).toNat = j.toNat + 1 by omega]
            simp [hjk]
          have hq := hkin (nd.kids[j.toNat]?.getD 0) (by simp [hjk])
          obtain ⟨q, hqE⟩ : ∃ q, q = nd.kids[j.toNat]?.getD 0 := ⟨_, rfl⟩
          rw [← hqE] at hat hdrop hq
          have hq1 : q < (l.length : Int) := by omega
          have hnq := nodes_at hq.1 hq1
          have hkS : kS l (nd.kids.drop j.toNat) = kS l (nd.kids.drop (j + 1).toNat) ++ (if 0 < (nodeAt l q).width then [q] else []) := by
            rw [hdrop, kS, List.filter_cons]
            by_cases h : 0 < widthN l q
            · have h' : 0 < (nodeAt l q).width := h
              simp [h, h', kS]
            · have h' : ¬ 0 < (nodeAt l q).width := h
              simp [h, h', kS]
          have hsl2 : (st' ++ kS l (nd.kids.drop (j + 1).toNat)).length ≤ 1000000 := by
            have h1 : (kS l (nd.kids.drop (j + 1).toNat)).length ≤ nd.kids.length := by
              rw [kS, List.length_reverse]
              refine Nat.le_trans (List.length_filter_le _ _) ?_
              rw [List.length_drop]; omega
            rw [List.length_append]; omega
          have hol2 := bytes_len (out ++ nd.b)
          have hil2 := ints_len (st' ++ kS l (nd.kids.drop (j + 1).toNat))
          obtain ⟨st2, hst2⟩ : ∃ st2, st2 = st' ++ kS l (nd.kids.drop (j + 1).toNat) := ⟨_, rfl⟩
          rw [← hst2] at hsl2 hil2 ⊢
          obtain ⟨out2, hout2⟩ : ∃ out2, out2 = out ++ nd.b := ⟨_, rfl⟩
          rw [← hout2] at hol2 ⊢
          clear en em
          generalize hp : std = p
          generalize hlen : lenA = len
          generalize hxs : nodesA l = xs
          generalize ho : bytesA out2 = o
          generalize hss : intsA st2 = ss
          generalize hbb : bytesA nd.b = bb
          generalize hkk : intsA nd.kids = kk
          generalize hT : aexec p tys (csPr len) _ _ _ _ = T
          cbv at hT
          subst hT
          simp only [Tree.ok, RoundOk, Bool.false_eq_true, Bool.true_eq_false, false_implies, true_implies, and_true, true_and]
          subst hp hlen hxs ho hss hbb hkk
          have em := hm.eq
          have en := hnk.eq
          replace hq1 : q < (l.length : Int) := hq1
          repeat' first
            | (with_reducible refine And.intro (fun hx => absurd hx (by (first | (simp [std, allP, AV.cells, intOf, booOf, lstOf, hat, hls, hnq, Node.av, hq.1, hq1, hj0, hkid, hil2]; done) | (simp [std, allP, AV.cells, intOf, booOf, lstOf, hat, hls, hnq, Node.av, hq.1, hq1, hj0, hkid, hil2]; omega) | (refine (inR64 _).2 ?_; (try simp [std, AV.cells, intOf, booOf, lstOf, hat, hls, hnq, Node.av, hq.1, hq1, hj0, hkid, hil2]); omega) | (refine (inR32 _).2 ?_; (try simp [std, AV.cells, intOf, booOf, lstOf, hat, hls, hnq, Node.av, hq.1, hq1, hj0, hkid, hil2]); omega) | omega))) (fun _ => ?_))
            | (with_reducible refine And.intro (fun _ => ?_) (fun hx => absurd hx (by (first | (simp [std, allP, AV.cells, intOf, booOf, lstOf, hat, hls, hnq, Node.av, hq.1, hq1, hj0, hkid, hil2]; done) | (simp [std, allP, AV.cells, intOf, booOf, lstOf, hat, hls, hnq, Node.av, hq.1, hq1, hj0, hkid, hil2]; omega) | (refine (inR64 _).2 ?_; (try simp [std, AV.cells, intOf, booOf, lstOf, hat, hls, hnq, Node.av, hq.1, hq1, hj0, hkid, hil2]); omega) | (refine (inR32 _).2 ?_; (try simp [std, AV.cells, intOf, booOf, lstOf, hat, hls, hnq, Node.av, hq.1, hq1, hj0, hkid, hil2]); omega) | omega))))
            | (with_reducible refine And.intro (by (first | (simp [std, allP, AV.cells, intOf, booOf, lstOf, hat, hls, hnq, Node.av, hq.1, hq1, hj0, hkid, hil2]; done) | (simp [std, allP, AV.cells, intOf, booOf, lstOf, hat, hls, hnq, Node.av, hq.1, hq1, hj0, hkid, hil2]; omega) | (refine (inR64 _).2 ?_; (try simp [std, AV.cells, intOf, booOf, lstOf, hat, hls, hnq, Node.av, hq.1, hq1, hj0, hkid, hil2]); omega) | (refine (inR32 _).2 ?_; (try simp [std, AV.cells, intOf, booOf, lstOf, hat, hls, hnq, Node.av, hq.1, hq1, hj0, hkid, hil2]); omega) | omega)) ?_)
            | (with_reducible refine And.intro ?_ ?_)
            | (with_reducible intro hb)
          · have hw0 : 0 < (nodeAt l q).width := by simpa [std, AV.cells, intOf, lstOf, hat, hls, hnq, Node.av, hq.1, hq1] using hb
            rw [if_pos hw0] at hkS
            refine ⟨j - 1, ⟨by omega, by omega⟩, by omega, [some 0, some 1, some 2], _, rfl, ?_⟩
            have e2 : st' ++ kS l (nd.kids.drop (j - 1 + 1).toNat) = st2 ++ [q] := by
              rw [show j - 1 + 1 = j by omega, hkS, ← List.append_assoc, ← hst2]
            rw [e2]
            simp [AllEq, lk, std, AV.cells, intOf, lstOf, hat, hls, hnq, Node.av, hq.1, hq1, hout2, ints_app, ints_one]
          · have hw0 : ¬ 0 < (nodeAt l q).width := by simpa [std, AV.cells, intOf, lstOf, hat, hls, hnq, Node.av, hq.1, hq1] using hb
            rw [if_neg hw0, List.append_nil] at hkS
            refine ⟨j - 1, ⟨by omega, by omega⟩, by omega, [some 0, some 1, some 2], _, rfl, ?_⟩
            have e2 : st' ++ kS l (nd.kids.drop (j - 1 + 1).toNat) = st2 := by
              rw [show j - 1 + 1 = j by omega, hkS, ← hst2]
            rw [e2]
            simp [AllEq, lk, std, AV.cells, intOf, lstOf, hat, hls, hnq, Node.av, hq.1, hq1, hout2]
        · subst heq
          rw [show (-1 + 1 : Int).toNat = 0 from rfl, List.drop_zero]
          have hT1 : (out ++ nd.b) ++ prS l (st' ++ kS l nd.kids) = pr l n := by
            rw [hpr, prS, List.reverse_append, List.flatMap_append, prS]
            simp only [List.append_assoc]
            congr 2
            rw [kS, List.reverse_reverse]
            congr 1
            have key : ∀ ks : List Int, (∀ q ∈ ks, 0 ≤ q ∧ q < m) → (ks.filter fun k => decide (0 < widthN l k)).flatMap (pr l) = ks.flatMap (pr l) := by
              intro ks
              induction ks with
              | nil => intro _; rfl
              | cons q r ih =>
                intro h
                have hr := ih (fun q hq => h q (List.mem_cons_of_mem _ hq))
                rw [List.filter_cons, List.flatMap_cons, ← hr]
                by_cases hq : 0 < widthN l q
                · simp [hq]
                · have h1 := h q (List.mem_cons_self ..)
                  have h2 := hwd q h1.1 (by have := hm.eq; omega)
                  have h3 : pr l q = [] := by
                    have : (pr l q).length = 0 := by
                      have h4 : ¬ 0 < (nodeAt l q).width := hq
                      omega
                    exact List.eq_nil_of_length_eq_zero this
                  simp [hq, h3]
            exact key nd.kids hkin
          have hT2 : ∀ q ∈ st' ++ kS l nd.kids, 0 ≤ q ∧ q < m := by
            intro q hq
            rcases List.mem_append.1 hq with h | h
            · exact hJ2 q (List.mem_append_left _ h)
            · rw [kS, List.mem_reverse] at h
              exact hkin q (List.mem_filter.1 h).1
          have hT3 : coS l (st' ++ kS l nd.kids) < coS l (st' ++ [k]) := by
            rw [hco2, coS, List.map_append, List.sum_append]
            have h1 : ((kS l nd.kids).map (co l)).sum ≤ (nd.kids.map (co l)).sum := by
              rw [kS, List.map_reverse, List.sum_reverse]
              generalize nd.kids = ks
              induction ks with
              | nil => simp
              | cons q r ih =>
                rw [List.filter_cons]
                split <;> simp only [List.map_cons, List.sum_cons] <;> omega
            have h2 : (st'.map (co l)).sum = coS l st' := rfl
            omega
          obtain ⟨st2, hst2⟩ : ∃ st2, st2 = st' ++ kS l nd.kids := ⟨_, rfl⟩
          obtain ⟨out2, hout2⟩ : ∃ out2, out2 = out ++ nd.b := ⟨_, rfl⟩
          rw [← hst2] at hT1 hT2 hT3 ⊢
          rw [← hout2] at hT1 ⊢
          clear en em
          generalize hp : std = p
          generalize hlen : lenA = len
          generalize hxs : nodesA l = xs
          generalize ho : bytesA out2 = o
          generalize hss : intsA st2 = ss
          generalize hbb : bytesA nd.b = bb
          generalize hkk : intsA nd.kids = kk
          generalize hT : aexec p tys (csPr len) _ _ _ _ = T
          cbv at hT
          subst hT
          simp only [Tree.ok, RoundOk, Bool.false_eq_true, Bool.true_eq_false, false_implies, true_implies, and_true, true_and]
          subst hp hlen hxs ho hss hbb hkk
          repeat' first
            | (with_reducible refine And.intro (fun hx => absurd hx (by (first | (simp [std, allP, AV.cells, intOf, booOf, lstOf, hls]; done) | (simp [std, allP, AV.cells, intOf, booOf, lstOf, hls]; omega) | (refine (inR64 _).2 ?_; (try simp [std, AV.cells, intOf, booOf, lstOf, hls]); omega) | (refine (inR32 _).2 ?_; (try simp [std, AV.cells, intOf, booOf, lstOf, hls]); omega) | omega))) (fun _ => ?_))
            | (with_reducible refine And.intro (fun _ => ?_) (fun hx => absurd hx (by (first | (simp [std, allP, AV.cells, intOf, booOf, lstOf, hls]; done) | (simp [std, allP, AV.cells, intOf, booOf, lstOf, hls]; omega) | (refine (inR64 _).2 ?_; (try simp [std, AV.cells, intOf, booOf, lstOf, hls]); omega) | (refine (inR32 _).2 ?_; (try simp [std, AV.cells, intOf, booOf, lstOf, hls]); omega) | omega))))
            | (with_reducible refine And.intro (by (first | (simp [std, allP, AV.cells, intOf, booOf, lstOf, hls]; done) | (simp [std, allP, AV.cells, intOf, booOf, lstOf, hls]; omega) | (refine (inR64 _).2 ?_; (try simp [std, AV.cells, intOf, booOf, lstOf, hls]); omega) | (refine (inR32 _).2 ?_; (try simp [std, AV.cells, intOf, booOf, lstOf, hls]); omega) | omega)) ?_)
            | (with_reducible refine And.intro ?_ ?_)
            | (with_reducible intro hb)
          rw [if_pos trivial]
          refine ⟨(out2, st2), ⟨hT1, hT2, by simp only; omega⟩, hT3, [some 0, some 1], _, rfl, ?_⟩
          simp [AllEq, lk]
end Go.Proofs.Ytblafdmmebiagaa
