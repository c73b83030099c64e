/- Lemmas, conditions told -/
import Derived.Test.YtdmbfngenffcaaaGreatQB13
import Derived.Test.YtdmbfngenffcaaaGreatQB10
import Derived.Test.YtdmbfngenffcaaaGreatQB11
set_option linter.unusedSimpArgs false
set_option linter.unusedVariables false
namespace Go.Proofs.YtdmbfngenffcaaaGreat
open Go.RowKit Go.Lib
def RFn (l : List Int) (f : Nat) (args : List AV) (P : Int → Prop) (it : Int → Option Int) : Prop := ∃ (ik : Int → Int) (ib : Int → Bool), ∀ k, Pla l k → P k →
  BCall Tryz.prog f args [rfB l k false] (.tup []) [rfB l (ik k) (ib k)] ∧ (ib k = false → it k = some (ik k)) ∧ (ib k = true → it k = none) ∧ Pla l (ik k)
theorem rs_f (l : List Int) (k : Int) (s : ByteArray) : rsG l false k s = sdI l k s := rfl
theorem rs_t (l : List Int) (k : Int) (s : ByteArray) : rsG l true k s = false := rfl
theorem mk_y {l : List Int} {k : Int} {s : ByteArray} (h : sdI l k s = true) : mkG l false k s = nxI l k s ∧ mbG l false k s = false := by
  have e : rsG l false k s = true := h
  exact ⟨if_pos e, by rw [mbG, e]; rfl⟩
theorem mk_n {l : List Int} {k : Int} {s : ByteArray} (h : sdI l k s = false) : mkG l false k s = k ∧ mbG l false k s = true := by
  have e : rsG l false k s = false := h
  exact ⟨if_neg (by rw [e]; decide), by rw [mbG, e]; rfl⟩
theorem mk_t (l : List Int) (k : Int) (s : ByteArray) : mkG l true k s = k ∧ mbG l true k s = true := ⟨if_neg (by rw [rs_t]; decide), rfl⟩
theorem sp_f (l : List Int) (k : Int) : spG l false k = skI l k := if_neg (by decide)
theorem sp_t (l : List Int) (k : Int) : spG l true k = k := if_pos rfl
theorem oft_f (l : List Int) (k : Int) : oftG l false k = oftI l k := if_neg (by decide)
theorem oft_t (l : List Int) (k : Int) : oftG l true k = k := if_pos rfl
def csG3 (q : Bool) (o1 o2 o3 o4 : List Ob) : Nat → List AV → List Ob → Option (AV × List Ob) := fun g _ _ => match g with
  | 20 => some (.val (.bool q), o1)
  | 21 => some (.tup [], o2)
  | 17 => some (.dead, o3)
  | 43 => some (.tup [], o4)
  | _ => none
theorem ritem_b (l : List Int) (hl : l.length ≤ 1000000) (hi : I32 l) (d : Int) (hd : 0 ≤ d ∧ d ≤ 64) (gr : Int → Option Int)
    (cG : RFn l 21 [.box 0 0, .val (.int .i64 (d + 1))] (fun k => sdI l k ⟨⟨[40]⟩⟩ = true) (fun k => gr (nxI l k ⟨⟨[40]⟩⟩))) :
    RFn l 42 [.box 0 0, .val (.int .i64 d)] (fun _ => True) (fun k => if sdI l k ⟨⟨[40]⟩⟩ = true then gr (nxI l k ⟨⟨[40]⟩⟩) else if okN l k = true then some (oftI l (ncI l k)) else none) := by
  obtain ⟨gk, gb, cG⟩ := cG
  refine ⟨fun k => if sdI l k ⟨⟨[40]⟩⟩ = true then gk k else if okN l k = true then oftI l (ncI l k) else k, fun k => if sdI l k ⟨⟨[40]⟩⟩ = true then gb k else !okN l k, fun k hk _ => ?_⟩
  have c1 := is_b l hl hi false k hk ⟨⟨[40]⟩⟩ (by decide)
  rw [rs_f] at c1
  have cW := rword_b l hl hi 1 (.inl rfl) k hk
  rw [show wokG l 1 k = okN l k from if_pos rfl] at cW
  have cO := fun b k hk => roften_b l hl hi b k hk
  have hnc := hk.nc
  have hr1 : (std.inR .i64 (std.add d 1)).q := by
    show std.inR .i64 (d + 1)
    rw [inR64]; omega
  cases hb : sdI l k ⟨⟨[40]⟩⟩ with
  | true =>
    obtain ⟨a1, a2, a3, a4⟩ := cG k hk hb
    rw [hb] at c1
    simp only [if_true, hb]
    refine ⟨?_, a2, a3, a4⟩
    clear cW
    generalize gk k = k2 at *
    generalize gb k = b2 at *
    unfold rfB at *
    refine fnN (csG3 true [.box [.slc 1 (runesA l), .val (.int .i64 k), .val (.bool false)]] [.box [.slc 1 (runesA l), .val (.int .i64 k2), .val (.bool b2)]] [] []) Tryz.func42 rfl fun _ _ => ?_
    with_reducible refine cv1 (runesA l) ?_
    refine ⟨c1, hr1, a1, [some 0], _, _, rfl, rfl, Nat.le_refl _, rfl, ?_, leA_refl rfl⟩
    exact eq0
  | false =>
    rw [hb] at c1
    simp only [hb, Bool.false_eq_true, if_false]
    cases ho : okN l k with
    | true =>
      rw [ho] at cW
      simp only [if_true, Bool.not_true, Bool.false_eq_true, if_false] at cW ⊢
      have cO := cO false _ hnc
      rw [oft_f] at cO
      refine ⟨?_, fun _ => trivial, fun h => (by cases h), hnc.oft⟩
      generalize oftI l (ncI l k) = k3 at *
      generalize ncI l k = k2 at *
      generalize wtB l k = T at *
      unfold rfB at *
      refine fnN (csG3 false [.box [.slc 1 (runesA l), .val (.int .i64 k), .val (.bool false)]] [] [.box [.slc 1 (runesA l), .val (.int .i64 k2), .val (.bool false)]] [.box [.slc 1 (runesA l), .val (.int .i64 k3), .val (.bool false)]]) Tryz.func42 rfl fun _ _ => ?_
      with_reducible refine cv1 (runesA l) ?_
      refine ⟨c1, cW.forget, cO, [some 0], _, _, rfl, rfl, Nat.le_refl _, rfl, ?_, leA_refl rfl⟩
      exact eq0
    | false =>
      rw [ho] at cW
      simp only [Bool.not_false, Bool.false_eq_true, if_false] at cW ⊢
      have cO := cO true _ hk
      rw [oft_t] at cO
      refine ⟨?_, fun h => (by cases h), fun _ => trivial, hk⟩
      unfold rfB at *
      refine fnN (csG3 false [.box [.slc 1 (runesA l), .val (.int .i64 k), .val (.bool false)]] [] [.box [.slc 1 (runesA l), .val (.int .i64 k), .val (.bool true)]] [.box [.slc 1 (runesA l), .val (.int .i64 k), .val (.bool true)]]) Tryz.func42 rfl fun _ _ => ?_
      with_reducible refine cv1 (runesA l) ?_
      refine ⟨c1, cW.forget, cO, [some 0], _, _, rfl, rfl, Nat.le_refl _, rfl, ?_, leA_refl rfl⟩
      exact eq0
theorem sd_one {l : List Int} {k : Int} {c d : UInt8} (h1 : sdI l k ⟨⟨[c]⟩⟩ = true) (h2 : sdI l k ⟨⟨[d]⟩⟩ = true) : c = d := by
  unfold sdI startsF at h1 h2
  simp only [Bool.and_eq_true, beq_iff_eq] at h1 h2
  have e := h1.2.symm.trans h2.2
  simp only [bi, List.map_cons, List.map_nil, List.cons.injEq, and_true] at e
  exact UInt8.toNat_inj.1 (by omega)
def sg0 (l : List Int) (k : Int) : ByteArray := if sdI l k ⟨⟨[44]⟩⟩ = true then ⟨⟨[44]⟩⟩ else ⟨⟨[124]⟩⟩
theorem lp_sg0 (l : List Int) (it : Int → Option Int) (f : Nat) (k : Int) : lpI l it f ⟨⟨[]⟩⟩ k = lpI l it f (sg0 l k) k := by
  cases f with
  | zero => rfl
  | succ f =>
    unfold lpI
    split
    · rfl
    · have e : sgI l ⟨⟨[]⟩⟩ k = sgI l (sg0 l k) k := by
        unfold sgI sg0
        rw [if_neg (by rw [eqS_em]; decide)]
        cases h1 : sdI l k ⟨⟨[44]⟩⟩ with
        | true =>
          have h2 : sdI l k ⟨⟨[124]⟩⟩ = false := by
            cases h : sdI l k ⟨⟨[124]⟩⟩ with
            | false => rfl
            | true => exact absurd (sd_one h1 h) (by decide)
          simp only [h2, if_true, Bool.false_eq_true, if_false, eqS_sg, h1]
        | false => simp only [if_true, Bool.false_eq_true, if_false, eqS_sg]
      rw [e]
theorem RFn.of {l : List Int} {f : Nat} {args : List AV} {P : Int → Prop} {it : Int → Option Int} (h : ∀ k, Pla l k → P k → ∃ (k2 : Int) (b : Bool), BCall Tryz.prog f args [rfB l k false] (.tup []) [rfB l k2 b] ∧ (b = false → it k = some k2) ∧ (b = true → it k = none) ∧ Pla l k2) : RFn l f args P it := by
  have g : ∀ k, ∃ q : Int × Bool, Pla l k → P k → BCall Tryz.prog f args [rfB l k false] (.tup []) [rfB l q.1 q.2] ∧ (q.2 = false → it k = some q.1) ∧ (q.2 = true → it k = none) ∧ Pla l q.1 := fun k => by
    cases Classical.em (Pla l k ∧ P k) with
    | inl h1 =>
      obtain ⟨k2, b, h2⟩ := h k h1.1 h1.2
      exact ⟨(k2, b), fun _ _ => h2⟩
    | inr h1 => exact ⟨(0, false), fun h2 h3 => absurd ⟨h2, h3⟩ h1⟩
  exact ⟨fun k => (Classical.choose (g k)).1, fun k => (Classical.choose (g k)).2, fun k h1 h2 => Classical.choose_spec (g k) h1 h2⟩
def rlpE (l : List Int) (ik : Int → Int) (ib : Int → Bool) (sg : ByteArray) : Nat → Int → Int × Bool
  | 0, k => (k, true)
  | f + 1, k => if sdI l k sg = true then (if ib (skI l (nxI l k sg)) = true then (ik (skI l (nxI l k sg)), true) else rlpE l ik ib sg f (skI l (ik (skI l (nxI l k sg))))) else (k, false)
theorem rlp_law {l : List Int} {it : Int → Option Int} {ik : Int → Int} {ib : Int → Bool} (h : ∀ k, Pla l k → (ib k = false → it k = some (ik k)) ∧ (ib k = true → it k = none) ∧ Pla l (ik k)) (hit : ItOk l it) {c : UInt8} (hc : c ≠ 41) : ∀ (f : Nat) (k : Int), Pla l k → Fu l k f →
    Pla l (rlpE l ik ib ⟨⟨[c]⟩⟩ f k).1 ∧ (mbG l (rlpE l ik ib ⟨⟨[c]⟩⟩ f k).2 (rlpE l ik ib ⟨⟨[c]⟩⟩ f k).1 ⟨⟨[41]⟩⟩ = false → lpI l it f ⟨⟨[c]⟩⟩ k = some (mkG l (rlpE l ik ib ⟨⟨[c]⟩⟩ f k).2 (rlpE l ik ib ⟨⟨[c]⟩⟩ f k).1 ⟨⟨[41]⟩⟩)) ∧ (mbG l (rlpE l ik ib ⟨⟨[c]⟩⟩ f k).2 (rlpE l ik ib ⟨⟨[c]⟩⟩ f k).1 ⟨⟨[41]⟩⟩ = true → lpI l it f ⟨⟨[c]⟩⟩ k = none)
  | 0, k, hk, hf => absurd hf (by unfold Fu Pla at *; omega)
  | f + 1, k, hk, hf => by
    unfold rlpE lpI
    cases hs : sdI l k ⟨⟨[c]⟩⟩ with
    | true =>
      have hn : sdI l k ⟨⟨[41]⟩⟩ = false := by
        cases h1 : sdI l k ⟨⟨[41]⟩⟩ with
        | false => rfl
        | true => exact absurd (sd_one hs h1) hc
      have e : sgI l ⟨⟨[c]⟩⟩ k = some (⟨⟨[c]⟩⟩, nxI l k ⟨⟨[c]⟩⟩) := by rw [sgI, if_pos (eqS_sg c), if_pos hs]
      simp only [hn, e, if_true, Bool.false_eq_true, if_false]
      obtain ⟨a1, a2, a3⟩ := h _ (hk.nx (s := ⟨⟨[c]⟩⟩)).sp
      cases hb : ib (skI l (nxI l k ⟨⟨[c]⟩⟩)) with
      | true =>
        simp only [if_true, a2 hb]
        exact ⟨a3, fun h => absurd ((mk_t _ _ _).2.symm.trans h) (by decide), fun _ => trivial⟩
      | false =>
        simp only [a1 hb, Bool.false_eq_true, if_false]
        obtain ⟨b1, b2⟩ := hit _ _ (hk.nx (s := ⟨⟨[c]⟩⟩)).sp (a1 hb)
        refine rlp_law h hit hc f _ a3.sp ?_
        have := sp_ge l (nxI l k ⟨⟨[c]⟩⟩)
        have := sp_ge l (ik (skI l (nxI l k ⟨⟨[c]⟩⟩)))
        have : nxI l k ⟨⟨[c]⟩⟩ = k + 1 := by rw [nxI, if_pos hs]; rfl
        unfold Fu at *
        omega
    | false =>
      have e : sgI l ⟨⟨[c]⟩⟩ k = none := by rw [sgI, if_pos (eqS_sg c), if_neg (by rw [hs]; decide)]
      simp only [e, Bool.false_eq_true, if_false]
      refine ⟨hk, fun h => ?_, fun h => ?_⟩
      · have h1 : sdI l k ⟨⟨[41]⟩⟩ = true := by
          have h : (!sdI l k ⟨⟨[41]⟩⟩) = false := h
          simpa using h
        rw [if_pos h1, (mk_y h1).1]
      · have h1 : sdI l k ⟨⟨[41]⟩⟩ = false := by
          have h : (!sdI l k ⟨⟨[41]⟩⟩) = true := h
          simpa using h
        rw [if_neg (by rw [h1]; decide)]
end Go.Proofs.YtdmbfngenffcaaaGreat
namespace Go.Proofs.YtdmbfngenffcaaaGreat
open Go.RowKit Go.Lib
theorem rs_and {l : List Int} {b : Bool} {k : Int} {s : ByteArray} (h : rsG l b k s = true) : b = false ∧ sdI l k s = true := by
  unfold rsG at h
  rw [Bool.and_eq_true] at h
  exact ⟨by simpa using h.1, h.2⟩
theorem Pla.mk {l : List Int} {b : Bool} {k : Int} {s : ByteArray} (h : Pla l k) : Pla l (mkG l b k s) := by
  unfold mkG
  split
  · exact h.nx
  · exact h
set_option maxRecDepth 20000 in
theorem rgroup_b (l : List Int) (hl : l.length ≤ 1000000) (hi : I32 l) (d : Int) (hd : 0 ≤ d ∧ d ≤ 64) (it : Int → Option Int) (hit : ItOk l it)
    (cI : RFn l 42 [.box 0 0, .val (.int .i64 d)] (fun _ => True) it) :
    RFn l 21 [.box 0 0, .val (.int .i64 d)] (fun k => sdI l k ⟨⟨[40]⟩⟩ = true) (fun k => grI l it (nxI l k ⟨⟨[40]⟩⟩)) := by
  obtain ⟨ik, ib, cI⟩ := cI
  refine RFn.of fun k hk hp => ?_
  have cR := fun b k hk => is_b l hl hi b k hk
  have cM := fun b k hk => rmust_b l hl hi b k hk
  have cS := fun b k hk => spaces_b l hl b k hk
  have cO := fun b k hk => roften_b l hl hi b k hk
  obtain ⟨k1, hk1⟩ : ∃ k1, k1 = mkG l false k ⟨⟨[40]⟩⟩ := ⟨_, rfl⟩
  obtain ⟨b0, hb0⟩ : ∃ b0, b0 = mbG l false k ⟨⟨[40]⟩⟩ := ⟨_, rfl⟩
  have e1 : k1 = nxI l k ⟨⟨[40]⟩⟩ := hk1.trans (mk_y hp).1
  have e0 : b0 = false := hb0.trans (mk_y hp).2
  have p1 : Pla l k1 := by rw [e1]; exact hk.nx
  obtain ⟨k2, hk2⟩ : ∃ k2, k2 = spG l b0 k1 := ⟨_, rfl⟩
  have p2 : Pla l k2 := by rw [hk2, e0, sp_f]; exact p1.sp
  obtain ⟨a1, a2, a3, a4⟩ := cI k2 p2 trivial
  obtain ⟨k4, hk4⟩ : ∃ k4, k4 = spG l (ib k2) (ik k2) := ⟨_, rfl⟩
  have p4 : Pla l k4 := by
    rw [hk4]
    cases ib k2 with
    | true => rw [sp_t]; exact a4
    | false => rw [sp_f]; exact a4.sp
  obtain ⟨c, hc⟩ : ∃ c : UInt8, c = if rsG l (ib k2) k4 ⟨⟨[44]⟩⟩ = true then 44 else 124 := ⟨_, rfl⟩
  obtain ⟨E, hE⟩ : ∃ E, E = if ib k2 = true then (k4, true) else rlpE l ik ib ⟨⟨[c]⟩⟩ (l.length + 1) k4 := ⟨_, rfl⟩
  refine ⟨oftG l (mbG l E.2 E.1 ⟨⟨[41]⟩⟩) (mkG l E.2 E.1 ⟨⟨[41]⟩⟩), mbG l E.2 E.1 ⟨⟨[41]⟩⟩, ?_, ?_⟩
  · obtain ⟨sc, hsc⟩ : ∃ sc, sc = fun b k => spG l b k - k := ⟨_, rfl⟩
    obtain ⟨wt, wk, wb, wr⟩ : (Int → ByteArray) × (Bool → Int → Int → Int) × (Bool → Int → Int → Bool) × (Bool → Int → Int → ByteArray) := ⟨fun _ => ⟨⟨[]⟩⟩, fun _ k _ => k, fun b _ _ => b, fun _ _ _ => ⟨⟨[]⟩⟩⟩
    unfold rfB at *
    obtain ⟨n, hn⟩ := exLen l
    have hll : std.len (runesA l) = n := by show ((runesA l).length : Int) = n; rw [runes_len, hn.eq]
    refine fnN (csG (runesA l) (rsG l) (mkG l) (mbG l) (spG l) sc wt wk wb wr (oftG l) (fun _ => ik) (fun _ => ik) (fun _ => ib) (fun _ => ib)) Tryz.func21 rfl fun _ _ => ?_
    with_reducible refine cv6 (runesA l) (rsG l) (mkG l) (mbG l) (spG l) (oftG l) ?_
    rw [← hb0, ← hk1, ← hk2, ← hk4]
    have hle : std.ltI 64 d = false := decide_eq_false (by omega)
    refine ⟨by rw [hk1, hb0]; exact cM false k hk _ (by decide), fun h => absurd (hle.symm.trans h) Bool.noConfusion, fun _ => ⟨fun h => absurd (e0.symm.trans h) Bool.noConfusion, fun _ => ⟨by rw [hsc, hk2]; exact cS b0 k1 p1, by rw [e0]; exact a1, by rw [hsc, hk4]; exact cS _ _ a4, cR _ _ p4 _ (by decide), fun hs => ?_, fun hs => ?_⟩⟩⟩
    · obtain rfl : c = 44 := by rw [hc, if_pos hs]
      obtain ⟨sg, hsg⟩ : ∃ sg : ByteArray, sg = ⟨⟨[44]⟩⟩ := ⟨_, rfl⟩
      have hz : sg.size = 1 := by rw [hsg]; rfl
      rw [← hsg] at hE ⊢
      refine loopN (csG (runesA l) (rsG l) (mkG l) (mbG l) (spG l) sc wt wk wb wr (oftG l) (fun _ => ik) (fun _ => ik) (fun _ => ib) (fun _ => ib)) (Int × Int × Bool × Nat) (fun x => ⟨[(0, .box 0 0), (1, .val (.int .i64 d)), (4, .val (.string sg)), (5, .val (.int .i64 x.1))], [.box [.slc 1 (runesA l), .val (.int .i64 x.2.1), .val (.bool x.2.2.1)]]⟩) (fun x => (0 ≤ x.1 ∧ x.1 ≤ n + 1) ∧ Pla l x.2.1 ∧ (x.2.2.1 = false → x.1 ≤ x.2.1 ∧ Fu l x.2.1 x.2.2.2) ∧ (if x.2.2.1 = true then (x.2.1, true) else rlpE l ik ib sg x.2.2.2 x.2.1) = E) (fun x => x.2.2.2) (0, k4, ib k2, l.length + 1) ?_ ?_ ?_
      · have hn0 : 0 ≤ n := by rw [hn.eq]; omega
        exact ⟨⟨Int.le_refl 0, by show 0 ≤ n + 1; omega⟩, p4, fun _ => ⟨p4.1, by show (l.length : Int) - k4 < ((l.length + 1 : Nat) : Int); have := p4.1; omega⟩, hE.symm⟩
      · refine ⟨[some 0], _, rfl, ?_⟩
        exact eq0
      · rintro ⟨i, k3, b3, f⟩ ⟨⟨h0, h1⟩, h2, h3, h4⟩
        have h0 : 0 ≤ i := h0
        have h1 : i ≤ n + 1 := h1
        have h2 : Pla l k3 := h2
        have h3 : b3 = false → i ≤ k3 ∧ Fu l k3 f := h3
        have h4 : (if b3 = true then (k3, true) else rlpE l ik ib sg f k3) = E := h4
        simp only
        with_reducible refine cv6 (runesA l) (rsG l) (mkG l) (mbG l) (spG l) (oftG l) ?_
        have fin : E = (k3, b3) → BCall Tryz.prog 18 [.box 0 0, .val (.string ⟨⟨[41]⟩⟩)] [.box [.slc 1 (runesA l), .val (.int .i64 k3), .val (.bool b3)]] (.tup []) [.box [.slc 1 (runesA l), .val (.int .i64 (mkG l b3 k3 ⟨⟨[41]⟩⟩)), .val (.bool (mbG l b3 k3 ⟨⟨[41]⟩⟩))]] ∧ BCall Tryz.prog 43 [.box 0 0] [.box [.slc 1 (runesA l), .val (.int .i64 (mkG l b3 k3 ⟨⟨[41]⟩⟩)), .val (.bool (mbG l b3 k3 ⟨⟨[41]⟩⟩))]] (.tup []) [.box [.slc 1 (runesA l), .val (.int .i64 (oftG l (mbG l b3 k3 ⟨⟨[41]⟩⟩) (mkG l b3 k3 ⟨⟨[41]⟩⟩))), .val (.bool (mbG l b3 k3 ⟨⟨[41]⟩⟩))]] := fun _ => ⟨cM _ _ h2 _ (by decide), cO _ _ h2.mk⟩
        refine ⟨fun h => ⟨cR _ _ h2 _ (by omega), fun hq => ?_, fun hq => ?_⟩, fun h => ?_⟩
        · obtain ⟨rfl, hsd⟩ := rs_and hq
          obtain ⟨h5, h6⟩ := h3 rfl
          cases f with
          | zero => exact absurd h6 (by unfold Fu Pla at *; omega)
          | succ f =>
            obtain ⟨y1, y2⟩ := mk_y hsd
            rw [y1, y2]
            have hi1 : i ≤ n := by
              have h : decide (i ≤ std.len (runesA l)) = true := h
              rw [hll] at h; exact of_decide_eq_true h
            have hn1 : n ≤ 1000000 := by rw [hn.eq]; omega
            have e6 := sp_f l (nxI l k3 sg)
            unfold rlpE at h4
            rw [if_neg (by decide), if_pos hsd, ← e6] at h4
            have n1 : nxI l k3 sg = k3 + 1 := by rw [nxI, if_pos hsd, hz]; rfl
            have g1 := sp_ge l (nxI l k3 sg)
            rw [← e6] at g1
            have p6 : Pla l (spG l false (nxI l k3 sg)) := by rw [e6]; exact h2.nx.sp
            have c6 : BCall Tryz.prog 19 [.box 0 0] [.box [.slc 1 (runesA l), .val (.int .i64 (nxI l k3 sg)), .val (.bool false)]] (.val (.int .i64 (sc false (nxI l k3 sg)))) [.box [.slc 1 (runesA l), .val (.int .i64 (spG l false (nxI l k3 sg))), .val (.bool false)]] := by
              rw [hsc]; exact cS false (nxI l k3 sg) h2.nx
            have m6 := cM false k3 h2 sg (by omega)
            rw [y1, y2] at m6
            generalize spG l false (nxI l k3 sg) = k6 at *
            obtain ⟨a5, a6, a7, a8⟩ := cI k6 p6 trivial
            refine ⟨m6, c6, a5, by rw [hsc]; exact cS _ _ a8, ?_, (i + 1, spG l (ib k6) (ik k6), ib k6, f), ⟨⟨?_, ?_⟩, ?_, ?_, ?_⟩, Nat.lt_succ_self f, [some 0], _, rfl, ?_⟩
            · show std.inR .i64 (i + 1)
              rw [inR64]; omega
            · show 0 ≤ i + 1; omega
            · show i + 1 ≤ n + 1; omega
            · show Pla l (spG l (ib k6) (ik k6))
              cases ib k6 with
              | true => rw [sp_t]; exact a8
              | false => rw [sp_f]; exact a8.sp
            · intro hb
              have hb : ib k6 = false := hb
              show i + 1 ≤ spG l (ib k6) (ik k6) ∧ Fu l (spG l (ib k6) (ik k6)) f
              rw [hb, sp_f]
              have := (hit _ _ p6 (a6 hb)).1
              have := sp_ge l (ik k6)
              unfold Fu at *
              omega
            · show (if ib k6 = true then (spG l (ib k6) (ik k6), true) else rlpE l ik ib sg f (spG l (ib k6) (ik k6))) = E
              rw [← h4]
              cases ib k6 with
              | true => rw [if_pos rfl, if_pos rfl, sp_t]
              | false => rw [if_neg (by decide), if_neg (by decide), sp_f]
            · exact eq0
        · have eE : E = (k3, b3) := by
            cases b3 with
            | true => exact h4.symm
            | false =>
              have hsd : sdI l k3 sg = false := hq
              obtain ⟨h5, h6⟩ := h3 rfl
              cases f with
              | zero => exact absurd h6 (by unfold Fu Pla at *; omega)
              | succ f =>
                unfold rlpE at h4
                rw [if_neg (by decide), if_neg (by rw [hsd]; decide)] at h4
                exact h4.symm
          obtain ⟨f1, f2⟩ := fin eE
          rw [eE, if_pos trivial]
          clear fin eE h4 hE
          with_reducible refine cv6 (runesA l) (rsG l) (mkG l) (mbG l) (spG l) (oftG l) ?_
          refine ⟨f1, f2, [some 0], _, _, rfl, rfl, Nat.le_refl _, rfl, ?_, leA_refl rfl⟩
          exact eq0
        · have hi1 : ¬ i ≤ n := by
            have h : decide (i ≤ std.len (runesA l)) = false := h
            rw [hll] at h; exact of_decide_eq_false h
          have eE : E = (k3, b3) := by
            cases b3 with
            | true => exact h4.symm
            | false =>
              obtain ⟨h5, h6⟩ := h3 rfl
              have := hn.eq
              exact absurd (Int.le_trans h5 (this ▸ h2.2)) hi1
          obtain ⟨f1, f2⟩ := fin eE
          rw [eE, if_pos trivial]
          clear fin eE h4 hE
          with_reducible refine cv6 (runesA l) (rsG l) (mkG l) (mbG l) (spG l) (oftG l) ?_
          refine ⟨f1, f2, [some 0], _, _, rfl, rfl, Nat.le_refl _, rfl, ?_, leA_refl rfl⟩
          exact eq0
    · obtain rfl : c = 124 := by rw [hc, if_neg (by rw [show rsG l (ib k2) k4 ⟨⟨[44]⟩⟩ = false from hs]; decide)]
      obtain ⟨sg, hsg⟩ : ∃ sg : ByteArray, sg = ⟨⟨[124]⟩⟩ := ⟨_, rfl⟩
      have hz : sg.size = 1 := by rw [hsg]; rfl
      rw [← hsg] at hE ⊢
      refine loopN (csG (runesA l) (rsG l) (mkG l) (mbG l) (spG l) sc wt wk wb wr (oftG l) (fun _ => ik) (fun _ => ik) (fun _ => ib) (fun _ => ib)) (Int × Int × Bool × Nat) (fun x => ⟨[(0, .box 0 0), (1, .val (.int .i64 d)), (4, .val (.string sg)), (5, .val (.int .i64 x.1))], [.box [.slc 1 (runesA l), .val (.int .i64 x.2.1), .val (.bool x.2.2.1)]]⟩) (fun x => (0 ≤ x.1 ∧ x.1 ≤ n + 1) ∧ Pla l x.2.1 ∧ (x.2.2.1 = false → x.1 ≤ x.2.1 ∧ Fu l x.2.1 x.2.2.2) ∧ (if x.2.2.1 = true then (x.2.1, true) else rlpE l ik ib sg x.2.2.2 x.2.1) = E) (fun x => x.2.2.2) (0, k4, ib k2, l.length + 1) ?_ ?_ ?_
      · have hn0 : 0 ≤ n := by rw [hn.eq]; omega
        exact ⟨⟨Int.le_refl 0, by show 0 ≤ n + 1; omega⟩, p4, fun _ => ⟨p4.1, by show (l.length : Int) - k4 < ((l.length + 1 : Nat) : Int); have := p4.1; omega⟩, hE.symm⟩
      · refine ⟨[some 0], _, rfl, ?_⟩
        exact eq0
      · rintro ⟨i, k3, b3, f⟩ ⟨⟨h0, h1⟩, h2, h3, h4⟩
        have h0 : 0 ≤ i := h0
        have h1 : i ≤ n + 1 := h1
        have h2 : Pla l k3 := h2
        have h3 : b3 = false → i ≤ k3 ∧ Fu l k3 f := h3
        have h4 : (if b3 = true then (k3, true) else rlpE l ik ib sg f k3) = E := h4
        simp only
        with_reducible refine cv6 (runesA l) (rsG l) (mkG l) (mbG l) (spG l) (oftG l) ?_
        have fin : E = (k3, b3) → BCall Tryz.prog 18 [.box 0 0, .val (.string ⟨⟨[41]⟩⟩)] [.box [.slc 1 (runesA l), .val (.int .i64 k3), .val (.bool b3)]] (.tup []) [.box [.slc 1 (runesA l), .val (.int .i64 (mkG l b3 k3 ⟨⟨[41]⟩⟩)), .val (.bool (mbG l b3 k3 ⟨⟨[41]⟩⟩))]] ∧ BCall Tryz.prog 43 [.box 0 0] [.box [.slc 1 (runesA l), .val (.int .i64 (mkG l b3 k3 ⟨⟨[41]⟩⟩)), .val (.bool (mbG l b3 k3 ⟨⟨[41]⟩⟩))]] (.tup []) [.box [.slc 1 (runesA l), .val (.int .i64 (oftG l (mbG l b3 k3 ⟨⟨[41]⟩⟩) (mkG l b3 k3 ⟨⟨[41]⟩⟩))), .val (.bool (mbG l b3 k3 ⟨⟨[41]⟩⟩))]] := fun _ => ⟨cM _ _ h2 _ (by decide), cO _ _ h2.mk⟩
        refine ⟨fun h => ⟨cR _ _ h2 _ (by omega), fun hq => ?_, fun hq => ?_⟩, fun h => ?_⟩
        · obtain ⟨rfl, hsd⟩ := rs_and hq
          obtain ⟨h5, h6⟩ := h3 rfl
          cases f with
          | zero => exact absurd h6 (by unfold Fu Pla at *; omega)
          | succ f =>
            obtain ⟨y1, y2⟩ := mk_y hsd
            rw [y1, y2]
            have hi1 : i ≤ n := by
              have h : decide (i ≤ std.len (runesA l)) = true := h
              rw [hll] at h; exact of_decide_eq_true h
            have hn1 : n ≤ 1000000 := by rw [hn.eq]; omega
            have e6 := sp_f l (nxI l k3 sg)
            unfold rlpE at h4
            rw [if_neg (by decide), if_pos hsd, ← e6] at h4
            have n1 : nxI l k3 sg = k3 + 1 := by rw [nxI, if_pos hsd, hz]; rfl
            have g1 := sp_ge l (nxI l k3 sg)
            rw [← e6] at g1
            have p6 : Pla l (spG l false (nxI l k3 sg)) := by rw [e6]; exact h2.nx.sp
            have c6 : BCall Tryz.prog 19 [.box 0 0] [.box [.slc 1 (runesA l), .val (.int .i64 (nxI l k3 sg)), .val (.bool false)]] (.val (.int .i64 (sc false (nxI l k3 sg)))) [.box [.slc 1 (runesA l), .val (.int .i64 (spG l false (nxI l k3 sg))), .val (.bool false)]] := by
              rw [hsc]; exact cS false (nxI l k3 sg) h2.nx
            have m6 := cM false k3 h2 sg (by omega)
            rw [y1, y2] at m6
            generalize spG l false (nxI l k3 sg) = k6 at *
            obtain ⟨a5, a6, a7, a8⟩ := cI k6 p6 trivial
            refine ⟨m6, c6, a5, by rw [hsc]; exact cS _ _ a8, ?_, (i + 1, spG l (ib k6) (ik k6), ib k6, f), ⟨⟨?_, ?_⟩, ?_, ?_, ?_⟩, Nat.lt_succ_self f, [some 0], _, rfl, ?_⟩
            · show std.inR .i64 (i + 1)
              rw [inR64]; omega
            · show 0 ≤ i + 1; omega
            · show i + 1 ≤ n + 1; omega
            · show Pla l (spG l (ib k6) (ik k6))
              cases ib k6 with
              | true => rw [sp_t]; exact a8
              | false => rw [sp_f]; exact a8.sp
            · intro hb
              have hb : ib k6 = false := hb
              show i + 1 ≤ spG l (ib k6) (ik k6) ∧ Fu l (spG l (ib k6) (ik k6)) f
              rw [hb, sp_f]
              have := (hit _ _ p6 (a6 hb)).1
              have := sp_ge l (ik k6)
              unfold Fu at *
              omega
            · show (if ib k6 = true then (spG l (ib k6) (ik k6), true) else rlpE l ik ib sg f (spG l (ib k6) (ik k6))) = E
              rw [← h4]
              cases ib k6 with
              | true => rw [if_pos rfl, if_pos rfl, sp_t]
              | false => rw [if_neg (by decide), if_neg (by decide), sp_f]
            · exact eq0
        · have eE : E = (k3, b3) := by
            cases b3 with
            | true => exact h4.symm
            | false =>
              have hsd : sdI l k3 sg = false := hq
              obtain ⟨h5, h6⟩ := h3 rfl
              cases f with
              | zero => exact absurd h6 (by unfold Fu Pla at *; omega)
              | succ f =>
                unfold rlpE at h4
                rw [if_neg (by decide), if_neg (by rw [hsd]; decide)] at h4
                exact h4.symm
          obtain ⟨f1, f2⟩ := fin eE
          rw [eE, if_pos trivial]
          clear fin eE h4 hE
          with_reducible refine cv6 (runesA l) (rsG l) (mkG l) (mbG l) (spG l) (oftG l) ?_
          refine ⟨f1, f2, [some 0], _, _, rfl, rfl, Nat.le_refl _, rfl, ?_, leA_refl rfl⟩
          exact eq0
        · have hi1 : ¬ i ≤ n := by
            have h : decide (i ≤ std.len (runesA l)) = false := h
            rw [hll] at h; exact of_decide_eq_false h
          have eE : E = (k3, b3) := by
            cases b3 with
            | true => exact h4.symm
            | false =>
              obtain ⟨h5, h6⟩ := h3 rfl
              have := hn.eq
              exact absurd (Int.le_trans h5 (this ▸ h2.2)) hi1
          obtain ⟨f1, f2⟩ := fin eE
          rw [eE, if_pos trivial]
          clear fin eE h4 hE
          with_reducible refine cv6 (runesA l) (rsG l) (mkG l) (mbG l) (spG l) (oftG l) ?_
          refine ⟨f1, f2, [some 0], _, _, rfl, rfl, Nat.le_refl _, rfl, ?_, leA_refl rfl⟩
          exact eq0
  · have hgr : grI l it (nxI l k ⟨⟨[40]⟩⟩) = (match it k2 with
      | none => none
      | some k3 => (lpI l it (l.length + 1) ⟨⟨[]⟩⟩ (skI l k3)).map (oftI l)) := by
      rw [hk2, e0, sp_f, e1]; rfl
    have hc41 : c ≠ 41 := by rw [hc]; split <;> decide
    rw [hgr]
    cases hb : ib k2 with
    | true =>
      rw [hb] at hE
      simp only [if_true] at hE
      rw [a3 hb, hE]
      refine ⟨fun h => absurd ((mk_t _ _ _).2.symm.trans h) (by decide), fun _ => rfl, ?_⟩
      show Pla l (oftG l (mbG l true k4 _) (mkG l true k4 _))
      rw [(mk_t _ _ _).1, (mk_t _ _ _).2, oft_t]
      exact p4
    | false =>
      rw [hb] at hE hc hk4
      rw [sp_f] at hk4
      rw [rs_f] at hc
      simp only [Bool.false_eq_true, if_false] at hE
      have hs0 : sg0 l k4 = ⟨⟨[c]⟩⟩ := by
        unfold sg0
        rw [hc]
        split <;> rfl
      have hf : Fu l k4 (l.length + 1) := by unfold Fu Pla at *; omega
      obtain ⟨b1, b2, b3⟩ := rlp_law (fun k hk => (cI k hk trivial).2) hit hc41 (l.length + 1) k4 p4 hf
      rw [← hE] at b1 b2 b3
      rw [a2 hb]
      simp only
      rw [← hk4, lp_sg0, hs0]
      refine ⟨fun h => ?_, fun h => ?_, ?_⟩
      · rw [b2 h, h, oft_f]; rfl
      · rw [b3 h]; rfl
      · cases hm : mbG l E.2 E.1 ⟨⟨[41]⟩⟩ with
        | true =>
          rw [oft_t, mkG, if_neg]
          · exact b1
          · intro h; rw [mbG, h] at hm; cases hm
        | false =>
          rw [oft_f]
          exact Pla.oft b1.mk
end Go.Proofs.YtdmbfngenffcaaaGreat
namespace Go.Proofs.YtdmbfngenffcaaaGreat
open Go.RowKit Go.Lib
theorem rgroup_no (l : List Int) (hl : l.length ≤ 1000000) (hi : I32 l) : RFn l 21 [.box 0 0, .val (.int .i64 65)] (fun k => sdI l k ⟨⟨[40]⟩⟩ = true) (fun _ => none) := by
  refine RFn.of fun k hk hp => ⟨mkG l false k ⟨⟨[40]⟩⟩, true, ?_, fun h => (by cases h), fun _ => rfl, hk.mk⟩
  have cM := rmust_b l hl hi false k hk ⟨⟨[40]⟩⟩ (by decide)
  obtain ⟨k1, hk1⟩ : ∃ k1, k1 = mkG l false k ⟨⟨[40]⟩⟩ := ⟨_, rfl⟩
  obtain ⟨b0, hb0⟩ : ∃ b0, b0 = mbG l false k ⟨⟨[40]⟩⟩ := ⟨_, rfl⟩
  rw [← hk1, ← hb0] at cM
  rw [← hk1]
  have hle : std.ltI 64 65 = true := rfl
  unfold rfB at *
  refine fnN (csOne 18 (.tup []) [.box [.slc 1 (runesA l), .val (.int .i64 k1), .val (.bool b0)]]) Tryz.func21 rfl fun _ _ => ?_
  with_reducible refine cv1 (runesA l) ?_
  refine ⟨cM, fun _ => ?_, fun h => absurd (hle.symm.trans h) Bool.noConfusion⟩
  refine ⟨[some 0], _, _, rfl, rfl, Nat.le_refl _, rfl, ?_, leA_refl rfl⟩
  exact eq0
theorem ritemN (l : List Int) (hl : l.length ≤ 1000000) (hi : I32 l) : ∀ (n : Nat) (d : Int), d = 64 - n → 0 ≤ d → RFn l 42 [.box 0 0, .val (.int .i64 d)] (fun _ => True) (itI l n)
  | 0, d, hd, h0 => by
    obtain rfl : d = 64 := by omega
    have := ritem_b l hl hi 64 (by decide) (fun _ => none) (rgroup_no l hl hi)
    rw [show itI l 0 = _ from funext fun k => by unfold itI; rfl]
    exact this
  | n + 1, d, hd, h0 => by
    have := ritem_b l hl hi d (by omega) (grI l (itI l n)) (rgroup_b l hl hi (d + 1) (by omega) (itI l n) (it_ok l n) (ritemN l hl hi n (d + 1) (by omega) (by omega)))
    rw [show itI l (n + 1) = _ from funext fun k => by unfold itI; rfl]
    exact this
def wrG (l : List Int) (b : Bool) (k n : Int) : ByteArray := if b = true then ⟨⟨[]⟩⟩ else if wokG l n k = true then wtB l k else ⟨⟨[]⟩⟩
def wkG (l : List Int) (b : Bool) (k n : Int) : Int := if b = true then k else if wokG l n k = true then ncI l k else k
def wbG (l : List Int) (b : Bool) (k n : Int) : Bool := if b = true then true else !wokG l n k
theorem rwordG_b (l : List Int) (hl : l.length ≤ 1000000) (hi : I32 l) (n : Int) (hn : n = 1 ∨ n = 3) (b : Bool) (k : Int) (hk : Pla l k) :
    BCall Tryz.prog 17 [.box 0 0, .val (.int .i64 n)] [rfB l k b] (.val (.string (wrG l b k n))) [rfB l (wkG l b k n) (wbG l b k n)] := by
  unfold wrG wkG wbG
  cases b with
  | true => simp only [if_true]; exact word_bad l k n
  | false => simp only [Bool.false_eq_true, if_false]; exact rword_b l hl hi n hn k hk
theorem Pla.wk {l : List Int} {b : Bool} {k n : Int} (h : Pla l k) : Pla l (wkG l b k n) := by
  unfold wkG
  split
  · exact h
  · split
    · exact h.nc
    · exact h
theorem Pla.spg {l : List Int} {b : Bool} {k : Int} (h : Pla l k) : Pla l (spG l b k) := by
  unfold spG
  split
  · exact h
  · exact h.sp
def mxP (l : List Int) : Nat → Int → Int → Int × Int × Bool
  | 0, nm, k => (nm, k, true)
  | f + 1, nm, k => if sdI l k ⟨⟨[124]⟩⟩ = true then (if okN l (skI l (nxI l k ⟨⟨[124]⟩⟩)) = true then mxP l f (nm + 1) (skI l (ncI l (skI l (nxI l k ⟨⟨[124]⟩⟩)))) else (nm + 1, skI l (nxI l k ⟨⟨[124]⟩⟩), true)) else (nm, k, false)
def mxF (l : List Int) (E : Int × Int × Bool) : Int × Bool :=
  if std.ltI 0 E.1 = true ∨ rsG l (mbG l E.2.2 E.2.1 ⟨⟨[41]⟩⟩) (mkG l E.2.2 E.2.1 ⟨⟨[41]⟩⟩) ⟨⟨[42]⟩⟩ = true then (mkG l (mbG l E.2.2 E.2.1 ⟨⟨[41]⟩⟩) (mkG l E.2.2 E.2.1 ⟨⟨[41]⟩⟩) ⟨⟨[42]⟩⟩, mbG l (mbG l E.2.2 E.2.1 ⟨⟨[41]⟩⟩) (mkG l E.2.2 E.2.1 ⟨⟨[41]⟩⟩) ⟨⟨[42]⟩⟩)
  else (mkG l E.2.2 E.2.1 ⟨⟨[41]⟩⟩, mbG l E.2.2 E.2.1 ⟨⟨[41]⟩⟩)
theorem mxF_bad (l : List Int) (nm k : Int) : (mxF l (nm, k, true)).2 = true := by
  unfold mxF
  simp only [mk_t]
  split <;> rfl
theorem mx_pla {l : List Int} : ∀ (f : Nat) (nm k : Int), Pla l k → Pla l (mxP l f nm k).2.1
  | 0, nm, k, h => h
  | f + 1, nm, k, h => by
    unfold mxP
    split
    · split
      · exact mx_pla f _ _ h.nx.sp.nc.sp
      · exact h.nx.sp
    · exact h
theorem mxF_pla {l : List Int} {E : Int × Int × Bool} (h : Pla l E.2.1) : Pla l (mxF l E).1 := by
  unfold mxF
  split
  · exact h.mk.mk
  · exact h.mk
theorem mxF_law (l : List Int) (nm k : Int) (hn : 0 ≤ nm) : ((mxF l (nm, k, false)).2 = false → mxE l (nm, k) = some (mxF l (nm, k, false)).1) ∧ ((mxF l (nm, k, false)).2 = true → mxE l (nm, k) = none) := by
  unfold mxF mxE
  simp only
  cases h1 : sdI l k ⟨⟨[41]⟩⟩ with
  | false =>
    simp only [(mk_n h1).1, (mk_n h1).2, (mk_t _ _ _).1, (mk_t _ _ _).2, Bool.false_eq_true, if_false]
    split <;> exact ⟨fun h => (by cases h), fun _ => trivial⟩
  | true =>
    simp only [(mk_y h1).1, (mk_y h1).2, rs_f, if_true]
    cases h2 : sdI l (nxI l k ⟨⟨[41]⟩⟩) ⟨⟨[42]⟩⟩ with
    | true =>
      simp only [(mk_y h2).1, (mk_y h2).2, or_true, if_true]
      exact ⟨fun _ => trivial, fun h => (by cases h)⟩
    | false =>
      simp only [(mk_n h2).1, (mk_n h2).2, Bool.false_eq_true, or_false, if_false]
      cases h3 : std.ltI 0 nm with
      | true =>
        have h3 : 0 < nm := of_decide_eq_true h3
        rw [if_pos rfl, if_neg (by omega)]
        exact ⟨fun h => (by cases h), fun _ => rfl⟩
      | false =>
        have h3 : ¬ 0 < nm := of_decide_eq_false h3
        rw [if_neg (by decide), if_pos (by omega)]
        exact ⟨fun _ => rfl, fun h => (by cases h)⟩
theorem mx_law {l : List Int} : ∀ (f : Nat) (nm k : Int), 0 ≤ nm → Pla l k → Fu l k f → ((mxF l (mxP l f nm k)).2 = false → (lpM l f nm k).bind (mxE l) = some (mxF l (mxP l f nm k)).1) ∧ ((mxF l (mxP l f nm k)).2 = true → (lpM l f nm k).bind (mxE l) = none)
  | 0, nm, k, hn, hk, hf => absurd hf (by unfold Fu Pla at *; omega)
  | f + 1, nm, k, hn, hk, hf => by
    unfold mxP lpM
    cases h1 : sdI l k ⟨⟨[124]⟩⟩ with
    | true =>
      simp only [if_true]
      cases h2 : okN l (skI l (nxI l k ⟨⟨[124]⟩⟩)) with
      | true =>
        simp only [if_true]
        refine mx_law f _ _ (by omega) hk.nx.sp.nc.sp ?_
        have a1 := sp_ge l (nxI l k ⟨⟨[124]⟩⟩)
        have a2 := nc_ge l (skI l (nxI l k ⟨⟨[124]⟩⟩))
        have a3 := sp_ge l (ncI l (skI l (nxI l k ⟨⟨[124]⟩⟩)))
        have : nxI l k ⟨⟨[124]⟩⟩ = k + 1 := by rw [nxI, if_pos h1]; rfl
        unfold Fu at *
        omega
      | false =>
        simp only [Bool.false_eq_true, if_false]
        exact ⟨fun h => absurd ((mxF_bad _ _ _).symm.trans h) (by decide), fun _ => rfl⟩
    | false =>
      simp only [Bool.false_eq_true, if_false]
      exact mxF_law l nm k hn
theorem hash_it {l : List Int} {k : Int} (h : sdI l k ⟨⟨[35]⟩⟩ = true) (n : Nat) : itI l n k = none := by
  have h1 : sdI l k ⟨⟨[40]⟩⟩ = false := by
    cases h1 : sdI l k ⟨⟨[40]⟩⟩ with
    | false => rfl
    | true => exact absurd (sd_one h h1) (by decide)
  have h2 : okN l k = false := by
    have e : tkW isNameChar l k = [] := by
      unfold sdI startsF at h
      simp only [Bool.and_eq_true, beq_iff_eq] at h
      unfold tkW
      cases hd : l.drop k.toNat with
      | nil => rfl
      | cons x r =>
        have h3 := h.2
        rw [hd] at h3
        simp [bi] at h3
        rw [List.takeWhile_cons, if_neg]
        rw [h3]; decide
    rw [okN, wtB, e]; exact nameF_nil
  cases n <;> (unfold itI; rw [h1, h2]; rfl)
end Go.Proofs.YtdmbfngenffcaaaGreat
namespace Go.Proofs.YtdmbfngenffcaaaGreat
open Go.RowKit Go.Lib
theorem eqS_w {T : ByteArray} {c : UInt8} {r : List UInt8} (h : std.eqS T ⟨⟨c :: r⟩⟩ = true) : std.eqS T ⟨⟨[]⟩⟩ = false := by
  have e : T.data.toList = c :: r := by
    simp only [std, ByteArray.toList_eq] at h
    simpa using h
  simp only [std, ByteArray.toList_eq, e]
  rfl
set_option maxRecDepth 20000 in
set_option maxHeartbeats 2000000 in
theorem rcontent_b (l : List Int) (hl : l.length ≤ 1000000) (hi : I32 l) : RFn l 12 [.box 0 0] (fun _ => True) (contI l) := by
  obtain ⟨gk, gb, cG⟩ := rgroup_b l hl hi 1 (by decide) (itI l 63) (it_ok l 63) (ritemN l hl hi 63 1 (by decide) (by decide))
  refine RFn.of fun k hk _ => ?_
  have cR := fun b k hk => is_b l hl hi b k hk
  have cM := fun b k hk => rmust_b l hl hi b k hk
  have cS := fun b k hk => spaces_b l hl b k hk
  have cP := fun b k hk => peek_b l hl hi b k hk
  have cW1 := fun b k hk => rwordG_b l hl hi 1 (.inl rfl) b k hk
  have cW3 := fun b k hk => rwordG_b l hl hi 3 (.inr rfl) b k hk
  obtain ⟨k1, hk1⟩ : ∃ k1, k1 = mkG l false k ⟨⟨[40]⟩⟩ := ⟨_, rfl⟩
  obtain ⟨b1, hb1⟩ : ∃ b1, b1 = mbG l false k ⟨⟨[40]⟩⟩ := ⟨_, rfl⟩
  have p1 : Pla l k1 := by rw [hk1]; exact hk.mk
  obtain ⟨k2, hk2⟩ : ∃ k2, k2 = spG l b1 k1 := ⟨_, rfl⟩
  have p2 : Pla l k2 := by rw [hk2]; exact p1.spg
  obtain ⟨k3, hk3⟩ : ∃ k3, k3 = mkG l b1 k2 ⟨⟨[35]⟩⟩ := ⟨_, rfl⟩
  obtain ⟨b3, hb3⟩ : ∃ b3, b3 = mbG l b1 k2 ⟨⟨[35]⟩⟩ := ⟨_, rfl⟩
  have p3 : Pla l k3 := by rw [hk3]; exact p2.mk
  obtain ⟨k4, hk4⟩ : ∃ k4, k4 = wkG l b3 k3 3 := ⟨_, rfl⟩
  obtain ⟨b4, hb4⟩ : ∃ b4, b4 = wbG l b3 k3 3 := ⟨_, rfl⟩
  obtain ⟨T4, hT4⟩ : ∃ T4, T4 = wrG l b3 k3 3 := ⟨_, rfl⟩
  have p4 : Pla l k4 := by rw [hk4]; exact p3.wk
  obtain ⟨Q, hQ⟩ : ∃ Q : Int × Bool, Q = if std.eqS (wtB l k) ⟨⟨[69, 77, 80, 84, 89]⟩⟩ = true ∨ std.eqS (wtB l k) ⟨⟨[65, 78, 89]⟩⟩ = true then (wkG l false k 3, wbG l false k 3) else if rsG l b1 k2 ⟨⟨[35]⟩⟩ = false then (if b1 = true then (k2, b1) else (gk k, gb k)) else if std.eqS T4 ⟨⟨[80, 67, 68, 65, 84, 65]⟩⟩ = true then mxF l (if b4 = true then (0, spG l b4 k4, true) else mxP l (l.length + 1) 0 (spG l b4 k4)) else mxF l (0, spG l true k4, true) := ⟨_, rfl⟩
  refine ⟨Q.1, Q.2, ?_, ?_⟩
  · obtain ⟨sc, hsc⟩ : ∃ sc, sc = fun b k => spG l b k - k := ⟨_, rfl⟩
    obtain ⟨oft, ik, ib⟩ : (Bool → Int → Int) × (Bool → Int → Int) × (Bool → Int → Bool) := ⟨fun _ k => k, fun _ k => k, fun b _ => b⟩
    obtain ⟨n, hn⟩ := exLen l
    have hll : std.len (runesA l) = n := by show ((runesA l).length : Int) = n; rw [runes_len, hn.eq]
    have hn0 : 0 ≤ n := by rw [hn.eq]; omega
    have hn1 : n ≤ 1000000 := by rw [hn.eq]; omega
    unfold rfB at *
    refine fnN (csG (runesA l) (rsG l) (mkG l) (mbG l) (spG l) sc (wtB l) (wkG l) (wbG l) (wrG l) oft ik (fun _ => gk) ib (fun _ => gb)) Tryz.func12 rfl fun _ _ => ?_
    with_reducible refine cv9 (runesA l) (rsG l) (mkG l) (mbG l) (spG l) (wtB l) (wkG l) (wbG l) (wrG l) ?_
    rw [← hk1, ← hb1, ← hk2, ← hk3, ← hb3, ← hk4, ← hb4, ← hT4]
    have nt : ∀ b : Bool, std.notB b = true → b = false := fun b h => by have h : (!b) = true := h; simpa using h
    have nf : ∀ b : Bool, std.notB b = false → b = true := fun b h => by have h : (!b) = false := h; simpa using h
    refine ⟨cP _ _ hk, fun h => ⟨cW3 _ _ hk, ?_⟩, fun h => ⟨fun h2 => ⟨cW3 _ _ hk, ?_⟩, fun h2 => ⟨by rw [hk1, hb1]; exact cM false k hk _ (by decide), by rw [hsc, hk2]; exact cS b1 k1 p1, cR _ _ p2 _ (by decide), fun h3 => ⟨fun h4 => ⟨?_, ?_⟩, fun h4 => ?_⟩, fun h3 => ⟨by rw [hk3, hb3]; exact cM b1 k2 p2 _ (by decide), by rw [hT4, hk4, hb4]; exact cW3 b3 k3 p3, fun h4 => ⟨by rw [hsc]; exact cS true k4 p4, ?_⟩, fun h4 => ⟨by rw [hsc]; exact cS b4 k4 p4, ?_⟩⟩⟩⟩⟩
    · have eQ : Q = (wkG l false k 3, wbG l false k 3) := by rw [hQ, if_pos (.inl h)]
      rw [eQ]
      refine ⟨[some 0], _, _, rfl, rfl, Nat.le_refl _, rfl, ?_, leA_refl rfl⟩
      exact eq0
    · have eQ : Q = (wkG l false k 3, wbG l false k 3) := by rw [hQ, if_pos (.inr h2)]
      rw [eQ]
      refine ⟨[some 0], _, _, rfl, rfl, Nat.le_refl _, rfl, ?_, leA_refl rfl⟩
      exact eq0
    · obtain hb := nt _ h4
      cases hp : sdI l k ⟨⟨[40]⟩⟩ with
      | true =>
        rw [hb]
        exact (cG k hk hp).1
      | false => rw [(mk_n hp).2, hb] at hb1; cases hb1
    · have hq : ¬ (std.eqS (wtB l k) ⟨⟨[69, 77, 80, 84, 89]⟩⟩ = true ∨ std.eqS (wtB l k) ⟨⟨[65, 78, 89]⟩⟩ = true) := fun q => q.elim (fun q => Bool.noConfusion (q.symm.trans h)) (fun q => Bool.noConfusion (q.symm.trans h2))
      have eQ : Q = (gk k, gb k) := by rw [hQ, if_neg hq, if_pos (nt _ h3), if_neg (by rw [nt _ h4]; decide)]
      rw [eQ]
      refine ⟨[some 0], _, _, rfl, rfl, Nat.le_refl _, rfl, ?_, leA_refl rfl⟩
      exact eq0
    · have hq : ¬ (std.eqS (wtB l k) ⟨⟨[69, 77, 80, 84, 89]⟩⟩ = true ∨ std.eqS (wtB l k) ⟨⟨[65, 78, 89]⟩⟩ = true) := fun q => q.elim (fun q => Bool.noConfusion (q.symm.trans h)) (fun q => Bool.noConfusion (q.symm.trans h2))
      have eQ : Q = (k2, b1) := by rw [hQ, if_neg hq, if_pos (nt _ h3), if_pos (nf _ h4)]
      rw [eQ]
      refine ⟨[some 0], _, _, rfl, rfl, Nat.le_refl _, rfl, ?_, leA_refl rfl⟩
      exact eq0
    · have hq : ¬ (std.eqS (wtB l k) ⟨⟨[69, 77, 80, 84, 89]⟩⟩ = true ∨ std.eqS (wtB l k) ⟨⟨[65, 78, 89]⟩⟩ = true) := fun q => q.elim (fun q => Bool.noConfusion (q.symm.trans h)) (fun q => Bool.noConfusion (q.symm.trans h2))
      obtain ⟨E, hE⟩ : ∃ E : Int × Int × Bool, E = if true = true then (0, spG l true k4, true) else mxP l (l.length + 1) 0 (spG l true k4) := ⟨_, rfl⟩
      have eQ : Q = mxF l E := by rw [hQ, if_neg hq, if_neg (by rw [nf _ h3]; decide), if_neg (fun q => Bool.noConfusion (q.symm.trans (nt _ h4))), hE, if_pos rfl]
      rw [eQ]
      clear h h2 h3 h4 hq hQ eQ
      obtain ⟨k5, hk5⟩ : ∃ k5, k5 = spG l true k4 := ⟨_, rfl⟩
      have p5 : Pla l k5 := by rw [hk5]; exact p4.spg
      rw [← hk5] at hE ⊢
      refine loopN (csG (runesA l) (rsG l) (mkG l) (mbG l) (spG l) sc (wtB l) (wkG l) (wbG l) (wrG l) oft ik (fun _ => gk) ib (fun _ => gb)) (Int × Int × Int × Bool × Nat) (fun x => ⟨[(0, .box 0 0), (4, .val (.int .i64 x.2.1)), (5, .val (.int .i64 x.1))], [.box [.slc 1 (runesA l), .val (.int .i64 x.2.2.1), .val (.bool x.2.2.2.1)]]⟩) (fun x => ((0 ≤ x.1 ∧ x.1 ≤ n + 1) ∧ 0 ≤ x.2.1 ∧ x.2.1 ≤ n + 1) ∧ Pla l x.2.2.1 ∧ (x.2.2.2.1 = false → x.1 ≤ x.2.2.1 ∧ x.2.1 ≤ x.2.2.1 ∧ Fu l x.2.2.1 x.2.2.2.2) ∧ (if x.2.2.2.1 = true then (x.2.1, x.2.2.1, true) else mxP l x.2.2.2.2 x.2.1 x.2.2.1) = E) (fun x => x.2.2.2.2) (0, 0, k5, true, l.length + 1) ?_ ?_ ?_
      · exact ⟨⟨⟨Int.le_refl 0, by show 0 ≤ n + 1; omega⟩, Int.le_refl 0, by show 0 ≤ n + 1; omega⟩, p5, fun _ => ⟨p5.1, p5.1, by show (l.length : Int) - k5 < ((l.length + 1 : Nat) : Int); have := p5.1; omega⟩, hE.symm⟩
      · refine ⟨[some 0], _, rfl, ?_⟩
        exact eq0
      · rintro ⟨i, nm, kk, bb, f⟩ ⟨⟨⟨h0, h1⟩, h00, h01⟩, h2, h3, h4⟩
        have h0 : 0 ≤ i := h0
        have h1 : i ≤ n + 1 := h1
        have h00 : 0 ≤ nm := h00
        have h01 : nm ≤ n + 1 := h01
        have h2 : Pla l kk := h2
        have h3 : bb = false → i ≤ kk ∧ nm ≤ kk ∧ Fu l kk f := h3
        have h4 : (if bb = true then (nm, kk, true) else mxP l f nm kk) = E := h4
        simp only
        with_reducible refine cv9 (runesA l) (rsG l) (mkG l) (mbG l) (spG l) (wtB l) (wkG l) (wbG l) (wrG l) ?_
        have fin : E = (nm, kk, bb) → BCall Tryz.prog 18 [.box 0 0, .val (.string ⟨⟨[41]⟩⟩)] [.box [.slc 1 (runesA l), .val (.int .i64 kk), .val (.bool bb)]] (.tup []) [.box [.slc 1 (runesA l), .val (.int .i64 (mkG l bb kk ⟨⟨[41]⟩⟩)), .val (.bool (mbG l bb kk ⟨⟨[41]⟩⟩))]] := fun _ => cM _ _ h2 _ (by decide)
        have star := cM (mbG l bb kk ⟨⟨[41]⟩⟩) (mkG l bb kk ⟨⟨[41]⟩⟩) h2.mk ⟨⟨[42]⟩⟩ (by decide)
        have star2 := cR (mbG l bb kk ⟨⟨[41]⟩⟩) (mkG l bb kk ⟨⟨[41]⟩⟩) h2.mk ⟨⟨[42]⟩⟩ (by decide)
        have g1 : std.ltI 0 nm = true → mxF l (nm, kk, bb) = (mkG l (mbG l bb kk ⟨⟨[41]⟩⟩) (mkG l bb kk ⟨⟨[41]⟩⟩) ⟨⟨[42]⟩⟩, mbG l (mbG l bb kk ⟨⟨[41]⟩⟩) (mkG l bb kk ⟨⟨[41]⟩⟩) ⟨⟨[42]⟩⟩) := fun h => by
          unfold mxF; rw [if_pos (.inl h)]
        have g2 : rsG l (mbG l bb kk ⟨⟨[41]⟩⟩) (mkG l bb kk ⟨⟨[41]⟩⟩) ⟨⟨[42]⟩⟩ = true → mxF l (nm, kk, bb) = (mkG l (mbG l bb kk ⟨⟨[41]⟩⟩) (mkG l bb kk ⟨⟨[41]⟩⟩) ⟨⟨[42]⟩⟩, mbG l (mbG l bb kk ⟨⟨[41]⟩⟩) (mkG l bb kk ⟨⟨[41]⟩⟩) ⟨⟨[42]⟩⟩) := fun h => by
          unfold mxF; rw [if_pos (.inr h)]
        have g3 : std.ltI 0 nm = false → rsG l (mbG l bb kk ⟨⟨[41]⟩⟩) (mkG l bb kk ⟨⟨[41]⟩⟩) ⟨⟨[42]⟩⟩ = false → mxF l (nm, kk, bb) = (mkG l bb kk ⟨⟨[41]⟩⟩, mbG l bb kk ⟨⟨[41]⟩⟩) := fun h h2 => by
          unfold mxF; rw [if_neg (fun q => q.elim (fun q => Bool.noConfusion (q.symm.trans h)) (fun q => Bool.noConfusion (q.symm.trans h2)))]
        refine ⟨fun h => ⟨cR _ _ h2 _ (by decide), fun hq => ?_, fun hq => ?_⟩, fun h => ?_⟩
        · obtain ⟨rfl, hsd⟩ := rs_and hq
          obtain ⟨h5, h55, h6⟩ := h3 rfl
          cases f with
          | zero => exact absurd h6 (by unfold Fu Pla at *; omega)
          | succ f =>
            obtain ⟨y1, y2⟩ := mk_y hsd
            rw [y1, y2]
            have hi1 : i ≤ n := by
              have h : decide (i ≤ std.len (runesA l)) = true := h
              rw [hll] at h; exact of_decide_eq_true h
            have m6 := cM false kk h2 ⟨⟨[124]⟩⟩ (by decide)
            rw [y1, y2] at m6
            have n1 : nxI l kk ⟨⟨[124]⟩⟩ = kk + 1 := by rw [nxI, if_pos hsd]; rfl
            have p6 := (h2.nx (s := ⟨⟨[124]⟩⟩)).sp
            have e6 := sp_f l (nxI l kk ⟨⟨[124]⟩⟩)
            have q1 := sp_ge l (nxI l kk ⟨⟨[124]⟩⟩)
            have q2 := nc_ge l (skI l (nxI l kk ⟨⟨[124]⟩⟩))
            have q3 := sp_ge l (ncI l (skI l (nxI l kk ⟨⟨[124]⟩⟩)))
            unfold mxP at h4
            rw [if_neg (by decide), if_pos hsd] at h4
            refine ⟨m6, by rw [hsc]; exact cS false _ h2.nx, cW1 false _ (by rw [e6]; exact p6), by rw [hsc]; exact cS _ _ (by rw [e6]; exact p6.wk), ?_, ?_, (i + 1, nm + 1, spG l (wbG l false (spG l false (nxI l kk ⟨⟨[124]⟩⟩)) 1) (wkG l false (spG l false (nxI l kk ⟨⟨[124]⟩⟩)) 1), wbG l false (spG l false (nxI l kk ⟨⟨[124]⟩⟩)) 1, f), ⟨⟨⟨?_, ?_⟩, ?_, ?_⟩, ?_, ?_, ?_⟩, Nat.lt_succ_self f, [some 0], _, rfl, ?_⟩
            · show std.inR .i64 (nm + 1)
              rw [inR64]; omega
            · show std.inR .i64 (i + 1)
              rw [inR64]; omega
            · show 0 ≤ i + 1; omega
            · show i + 1 ≤ n + 1; omega
            · show 0 ≤ nm + 1; omega
            · show nm + 1 ≤ n + 1
              have := h2.nx (s := ⟨⟨[124]⟩⟩)
              rw [n1] at this
              have := this.2
              have := hn.eq
              omega
            · show Pla l (spG l (wbG l false (spG l false (nxI l kk ⟨⟨[124]⟩⟩)) 1) (wkG l false (spG l false (nxI l kk ⟨⟨[124]⟩⟩)) 1))
              rw [e6]; exact p6.wk.spg
            · show wbG l false (spG l false (nxI l kk ⟨⟨[124]⟩⟩)) 1 = false → i + 1 ≤ spG l (wbG l false (spG l false (nxI l kk ⟨⟨[124]⟩⟩)) 1) (wkG l false (spG l false (nxI l kk ⟨⟨[124]⟩⟩)) 1) ∧ nm + 1 ≤ spG l (wbG l false (spG l false (nxI l kk ⟨⟨[124]⟩⟩)) 1) (wkG l false (spG l false (nxI l kk ⟨⟨[124]⟩⟩)) 1) ∧ Fu l (spG l (wbG l false (spG l false (nxI l kk ⟨⟨[124]⟩⟩)) 1) (wkG l false (spG l false (nxI l kk ⟨⟨[124]⟩⟩)) 1)) f
              rw [e6]
              intro hb
              rw [hb, sp_f]
              rw [wbG, if_neg (by decide)] at hb
              have hw : wokG l 1 (skI l (nxI l kk ⟨⟨[124]⟩⟩)) = true := by simpa using hb
              rw [wkG, if_neg (by decide), if_pos hw]
              unfold Fu at *
              omega
            · show (if wbG l false (spG l false (nxI l kk ⟨⟨[124]⟩⟩)) 1 = true then (nm + 1, spG l (wbG l false (spG l false (nxI l kk ⟨⟨[124]⟩⟩)) 1) (wkG l false (spG l false (nxI l kk ⟨⟨[124]⟩⟩)) 1), true) else mxP l f (nm + 1) (spG l (wbG l false (spG l false (nxI l kk ⟨⟨[124]⟩⟩)) 1) (wkG l false (spG l false (nxI l kk ⟨⟨[124]⟩⟩)) 1))) = E
              rw [← h4, e6]
              have ew : wokG l 1 (skI l (nxI l kk ⟨⟨[124]⟩⟩)) = okN l (skI l (nxI l kk ⟨⟨[124]⟩⟩)) := if_pos rfl
              cases ho : okN l (skI l (nxI l kk ⟨⟨[124]⟩⟩)) with
              | true =>
                have eb : wbG l false (skI l (nxI l kk ⟨⟨[124]⟩⟩)) 1 = false := by rw [wbG, if_neg (by decide), ew, ho]; rfl
                have ek : wkG l false (skI l (nxI l kk ⟨⟨[124]⟩⟩)) 1 = ncI l (skI l (nxI l kk ⟨⟨[124]⟩⟩)) := by rw [wkG, if_neg (by decide), ew, ho, if_pos rfl]
                rw [eb, ek, sp_f, if_neg (by decide), if_pos rfl]
              | false =>
                have eb : wbG l false (skI l (nxI l kk ⟨⟨[124]⟩⟩)) 1 = true := by rw [wbG, if_neg (by decide), ew, ho]; rfl
                have ek : wkG l false (skI l (nxI l kk ⟨⟨[124]⟩⟩)) 1 = skI l (nxI l kk ⟨⟨[124]⟩⟩) := by rw [wkG, if_neg (by decide), ew, ho, if_neg (by decide)]
                rw [eb, ek, sp_t, if_pos rfl, if_neg (by decide)]
            · exact eq0
        · have eE : E = (nm, kk, bb) := by
            cases bb with
            | true => exact h4.symm
            | false =>
              have hsd : sdI l kk ⟨⟨[124]⟩⟩ = false := hq
              obtain ⟨h5, h55, h6⟩ := h3 rfl
              cases f with
              | zero => exact absurd h6 (by unfold Fu Pla at *; omega)
              | succ f =>
                unfold mxP at h4
                rw [if_neg (by decide), if_neg (by rw [hsd]; decide)] at h4
                exact h4.symm
          have f1 := fin eE
          rw [eE, if_pos trivial]
          clear fin eE h4 hE
          with_reducible refine cv9 (runesA l) (rsG l) (mkG l) (mbG l) (spG l) (wtB l) (wkG l) (wbG l) (wrG l) ?_
          refine ⟨f1, fun h5 => ⟨star, ?_⟩, fun h5 => ⟨star2, fun h6 => ⟨star, ?_⟩, fun h6 => ?_⟩⟩
          · rw [g1 h5]
            refine ⟨[some 0], _, _, rfl, rfl, Nat.le_refl _, rfl, ?_, leA_refl rfl⟩
            exact eq0
          · rw [g2 h6]
            refine ⟨[some 0], _, _, rfl, rfl, Nat.le_refl _, rfl, ?_, leA_refl rfl⟩
            exact eq0
          · rw [g3 h5 h6]
            refine ⟨[some 0], _, _, rfl, rfl, Nat.le_refl _, rfl, ?_, leA_refl rfl⟩
            exact eq0
        · have hi1 : ¬ i ≤ n := by
            have h : decide (i ≤ std.len (runesA l)) = false := h
            rw [hll] at h; exact of_decide_eq_false h
          have eE : E = (nm, kk, bb) := by
            cases bb with
            | true => exact h4.symm
            | false =>
              obtain ⟨h5, h55, h6⟩ := h3 rfl
              have := hn.eq
              exact absurd (Int.le_trans h5 (this ▸ h2.2)) hi1
          have f1 := fin eE
          rw [eE, if_pos trivial]
          clear fin eE h4 hE
          with_reducible refine cv9 (runesA l) (rsG l) (mkG l) (mbG l) (spG l) (wtB l) (wkG l) (wbG l) (wrG l) ?_
          refine ⟨f1, fun h5 => ⟨star, ?_⟩, fun h5 => ⟨star2, fun h6 => ⟨star, ?_⟩, fun h6 => ?_⟩⟩
          · rw [g1 h5]
            refine ⟨[some 0], _, _, rfl, rfl, Nat.le_refl _, rfl, ?_, leA_refl rfl⟩
            exact eq0
          · rw [g2 h6]
            refine ⟨[some 0], _, _, rfl, rfl, Nat.le_refl _, rfl, ?_, leA_refl rfl⟩
            exact eq0
          · rw [g3 h5 h6]
            refine ⟨[some 0], _, _, rfl, rfl, Nat.le_refl _, rfl, ?_, leA_refl rfl⟩
            exact eq0
    · have hq : ¬ (std.eqS (wtB l k) ⟨⟨[69, 77, 80, 84, 89]⟩⟩ = true ∨ std.eqS (wtB l k) ⟨⟨[65, 78, 89]⟩⟩ = true) := fun q => q.elim (fun q => Bool.noConfusion (q.symm.trans h)) (fun q => Bool.noConfusion (q.symm.trans h2))
      obtain ⟨E, hE⟩ : ∃ E : Int × Int × Bool, E = if b4 = true then (0, spG l b4 k4, true) else mxP l (l.length + 1) 0 (spG l b4 k4) := ⟨_, rfl⟩
      have eQ : Q = mxF l E := by rw [hQ, if_neg hq, if_neg (by rw [nf _ h3]; decide), if_pos (nf _ h4), hE]
      rw [eQ]
      clear h h2 h3 h4 hq hQ eQ
      obtain ⟨k5, hk5⟩ : ∃ k5, k5 = spG l b4 k4 := ⟨_, rfl⟩
      have p5 : Pla l k5 := by rw [hk5]; exact p4.spg
      rw [← hk5] at hE ⊢
      refine loopN (csG (runesA l) (rsG l) (mkG l) (mbG l) (spG l) sc (wtB l) (wkG l) (wbG l) (wrG l) oft ik (fun _ => gk) ib (fun _ => gb)) (Int × Int × Int × Bool × Nat) (fun x => ⟨[(0, .box 0 0), (4, .val (.int .i64 x.2.1)), (5, .val (.int .i64 x.1))], [.box [.slc 1 (runesA l), .val (.int .i64 x.2.2.1), .val (.bool x.2.2.2.1)]]⟩) (fun x => ((0 ≤ x.1 ∧ x.1 ≤ n + 1) ∧ 0 ≤ x.2.1 ∧ x.2.1 ≤ n + 1) ∧ Pla l x.2.2.1 ∧ (x.2.2.2.1 = false → x.1 ≤ x.2.2.1 ∧ x.2.1 ≤ x.2.2.1 ∧ Fu l x.2.2.1 x.2.2.2.2) ∧ (if x.2.2.2.1 = true then (x.2.1, x.2.2.1, true) else mxP l x.2.2.2.2 x.2.1 x.2.2.1) = E) (fun x => x.2.2.2.2) (0, 0, k5, b4, l.length + 1) ?_ ?_ ?_
      · exact ⟨⟨⟨Int.le_refl 0, by show 0 ≤ n + 1; omega⟩, Int.le_refl 0, by show 0 ≤ n + 1; omega⟩, p5, fun _ => ⟨p5.1, p5.1, by show (l.length : Int) - k5 < ((l.length + 1 : Nat) : Int); have := p5.1; omega⟩, hE.symm⟩
      · refine ⟨[some 0], _, rfl, ?_⟩
        exact eq0
      · rintro ⟨i, nm, kk, bb, f⟩ ⟨⟨⟨h0, h1⟩, h00, h01⟩, h2, h3, h4⟩
        have h0 : 0 ≤ i := h0
        have h1 : i ≤ n + 1 := h1
        have h00 : 0 ≤ nm := h00
        have h01 : nm ≤ n + 1 := h01
        have h2 : Pla l kk := h2
        have h3 : bb = false → i ≤ kk ∧ nm ≤ kk ∧ Fu l kk f := h3
        have h4 : (if bb = true then (nm, kk, true) else mxP l f nm kk) = E := h4
        simp only
        with_reducible refine cv9 (runesA l) (rsG l) (mkG l) (mbG l) (spG l) (wtB l) (wkG l) (wbG l) (wrG l) ?_
        have fin : E = (nm, kk, bb) → BCall Tryz.prog 18 [.box 0 0, .val (.string ⟨⟨[41]⟩⟩)] [.box [.slc 1 (runesA l), .val (.int .i64 kk), .val (.bool bb)]] (.tup []) [.box [.slc 1 (runesA l), .val (.int .i64 (mkG l bb kk ⟨⟨[41]⟩⟩)), .val (.bool (mbG l bb kk ⟨⟨[41]⟩⟩))]] := fun _ => cM _ _ h2 _ (by decide)
        have star := cM (mbG l bb kk ⟨⟨[41]⟩⟩) (mkG l bb kk ⟨⟨[41]⟩⟩) h2.mk ⟨⟨[42]⟩⟩ (by decide)
        have star2 := cR (mbG l bb kk ⟨⟨[41]⟩⟩) (mkG l bb kk ⟨⟨[41]⟩⟩) h2.mk ⟨⟨[42]⟩⟩ (by decide)
        have g1 : std.ltI 0 nm = true → mxF l (nm, kk, bb) = (mkG l (mbG l bb kk ⟨⟨[41]⟩⟩) (mkG l bb kk ⟨⟨[41]⟩⟩) ⟨⟨[42]⟩⟩, mbG l (mbG l bb kk ⟨⟨[41]⟩⟩) (mkG l bb kk ⟨⟨[41]⟩⟩) ⟨⟨[42]⟩⟩) := fun h => by
          unfold mxF; rw [if_pos (.inl h)]
        have g2 : rsG l (mbG l bb kk ⟨⟨[41]⟩⟩) (mkG l bb kk ⟨⟨[41]⟩⟩) ⟨⟨[42]⟩⟩ = true → mxF l (nm, kk, bb) = (mkG l (mbG l bb kk ⟨⟨[41]⟩⟩) (mkG l bb kk ⟨⟨[41]⟩⟩) ⟨⟨[42]⟩⟩, mbG l (mbG l bb kk ⟨⟨[41]⟩⟩) (mkG l bb kk ⟨⟨[41]⟩⟩) ⟨⟨[42]⟩⟩) := fun h => by
          unfold mxF; rw [if_pos (.inr h)]
        have g3 : std.ltI 0 nm = false → rsG l (mbG l bb kk ⟨⟨[41]⟩⟩) (mkG l bb kk ⟨⟨[41]⟩⟩) ⟨⟨[42]⟩⟩ = false → mxF l (nm, kk, bb) = (mkG l bb kk ⟨⟨[41]⟩⟩, mbG l bb kk ⟨⟨[41]⟩⟩) := fun h h2 => by
          unfold mxF; rw [if_neg (fun q => q.elim (fun q => Bool.noConfusion (q.symm.trans h)) (fun q => Bool.noConfusion (q.symm.trans h2)))]
        refine ⟨fun h => ⟨cR _ _ h2 _ (by decide), fun hq => ?_, fun hq => ?_⟩, fun h => ?_⟩
        · obtain ⟨rfl, hsd⟩ := rs_and hq
          obtain ⟨h5, h55, h6⟩ := h3 rfl
          cases f with
          | zero => exact absurd h6 (by unfold Fu Pla at *; omega)
          | succ f =>
            obtain ⟨y1, y2⟩ := mk_y hsd
            rw [y1, y2]
            have hi1 : i ≤ n := by
              have h : decide (i ≤ std.len (runesA l)) = true := h
              rw [hll] at h; exact of_decide_eq_true h
            have m6 := cM false kk h2 ⟨⟨[124]⟩⟩ (by decide)
            rw [y1, y2] at m6
            have n1 : nxI l kk ⟨⟨[124]⟩⟩ = kk + 1 := by rw [nxI, if_pos hsd]; rfl
            have p6 := (h2.nx (s := ⟨⟨[124]⟩⟩)).sp
            have e6 := sp_f l (nxI l kk ⟨⟨[124]⟩⟩)
            have q1 := sp_ge l (nxI l kk ⟨⟨[124]⟩⟩)
            have q2 := nc_ge l (skI l (nxI l kk ⟨⟨[124]⟩⟩))
            have q3 := sp_ge l (ncI l (skI l (nxI l kk ⟨⟨[124]⟩⟩)))
            unfold mxP at h4
            rw [if_neg (by decide), if_pos hsd] at h4
            refine ⟨m6, by rw [hsc]; exact cS false _ h2.nx, cW1 false _ (by rw [e6]; exact p6), by rw [hsc]; exact cS _ _ (by rw [e6]; exact p6.wk), ?_, ?_, (i + 1, nm + 1, spG l (wbG l false (spG l false (nxI l kk ⟨⟨[124]⟩⟩)) 1) (wkG l false (spG l false (nxI l kk ⟨⟨[124]⟩⟩)) 1), wbG l false (spG l false (nxI l kk ⟨⟨[124]⟩⟩)) 1, f), ⟨⟨⟨?_, ?_⟩, ?_, ?_⟩, ?_, ?_, ?_⟩, Nat.lt_succ_self f, [some 0], _, rfl, ?_⟩
            · show std.inR .i64 (nm + 1)
              rw [inR64]; omega
            · show std.inR .i64 (i + 1)
              rw [inR64]; omega
            · show 0 ≤ i + 1; omega
            · show i + 1 ≤ n + 1; omega
            · show 0 ≤ nm + 1; omega
            · show nm + 1 ≤ n + 1
              have := h2.nx (s := ⟨⟨[124]⟩⟩)
              rw [n1] at this
              have := this.2
              have := hn.eq
              omega
            · show Pla l (spG l (wbG l false (spG l false (nxI l kk ⟨⟨[124]⟩⟩)) 1) (wkG l false (spG l false (nxI l kk ⟨⟨[124]⟩⟩)) 1))
              rw [e6]; exact p6.wk.spg
            · show wbG l false (spG l false (nxI l kk ⟨⟨[124]⟩⟩)) 1 = false → i + 1 ≤ spG l (wbG l false (spG l false (nxI l kk ⟨⟨[124]⟩⟩)) 1) (wkG l false (spG l false (nxI l kk ⟨⟨[124]⟩⟩)) 1) ∧ nm + 1 ≤ spG l (wbG l false (spG l false (nxI l kk ⟨⟨[124]⟩⟩)) 1) (wkG l false (spG l false (nxI l kk ⟨⟨[124]⟩⟩)) 1) ∧ Fu l (spG l (wbG l false (spG l false (nxI l kk ⟨⟨[124]⟩⟩)) 1) (wkG l false (spG l false (nxI l kk ⟨⟨[124]⟩⟩)) 1)) f
              rw [e6]
              intro hb
              rw [hb, sp_f]
              rw [wbG, if_neg (by decide)] at hb
              have hw : wokG l 1 (skI l (nxI l kk ⟨⟨[124]⟩⟩)) = true := by simpa using hb
              rw [wkG, if_neg (by decide), if_pos hw]
              unfold Fu at *
              omega
            · show (if wbG l false (spG l false (nxI l kk ⟨⟨[124]⟩⟩)) 1 = true then (nm + 1, spG l (wbG l false (spG l false (nxI l kk ⟨⟨[124]⟩⟩)) 1) (wkG l false (spG l false (nxI l kk ⟨⟨[124]⟩⟩)) 1), true) else mxP l f (nm + 1) (spG l (wbG l false (spG l false (nxI l kk ⟨⟨[124]⟩⟩)) 1) (wkG l false (spG l false (nxI l kk ⟨⟨[124]⟩⟩)) 1))) = E
              rw [← h4, e6]
              have ew : wokG l 1 (skI l (nxI l kk ⟨⟨[124]⟩⟩)) = okN l (skI l (nxI l kk ⟨⟨[124]⟩⟩)) := if_pos rfl
              cases ho : okN l (skI l (nxI l kk ⟨⟨[124]⟩⟩)) with
              | true =>
                have eb : wbG l false (skI l (nxI l kk ⟨⟨[124]⟩⟩)) 1 = false := by rw [wbG, if_neg (by decide), ew, ho]; rfl
                have ek : wkG l false (skI l (nxI l kk ⟨⟨[124]⟩⟩)) 1 = ncI l (skI l (nxI l kk ⟨⟨[124]⟩⟩)) := by rw [wkG, if_neg (by decide), ew, ho, if_pos rfl]
                rw [eb, ek, sp_f, if_neg (by decide), if_pos rfl]
              | false =>
                have eb : wbG l false (skI l (nxI l kk ⟨⟨[124]⟩⟩)) 1 = true := by rw [wbG, if_neg (by decide), ew, ho]; rfl
                have ek : wkG l false (skI l (nxI l kk ⟨⟨[124]⟩⟩)) 1 = skI l (nxI l kk ⟨⟨[124]⟩⟩) := by rw [wkG, if_neg (by decide), ew, ho, if_neg (by decide)]
                rw [eb, ek, sp_t, if_pos rfl, if_neg (by decide)]
            · exact eq0
        · have eE : E = (nm, kk, bb) := by
            cases bb with
            | true => exact h4.symm
            | false =>
              have hsd : sdI l kk ⟨⟨[124]⟩⟩ = false := hq
              obtain ⟨h5, h55, h6⟩ := h3 rfl
              cases f with
              | zero => exact absurd h6 (by unfold Fu Pla at *; omega)
              | succ f =>
                unfold mxP at h4
                rw [if_neg (by decide), if_neg (by rw [hsd]; decide)] at h4
                exact h4.symm
          have f1 := fin eE
          rw [eE, if_pos trivial]
          clear fin eE h4 hE
          with_reducible refine cv9 (runesA l) (rsG l) (mkG l) (mbG l) (spG l) (wtB l) (wkG l) (wbG l) (wrG l) ?_
          refine ⟨f1, fun h5 => ⟨star, ?_⟩, fun h5 => ⟨star2, fun h6 => ⟨star, ?_⟩, fun h6 => ?_⟩⟩
          · rw [g1 h5]
            refine ⟨[some 0], _, _, rfl, rfl, Nat.le_refl _, rfl, ?_, leA_refl rfl⟩
            exact eq0
          · rw [g2 h6]
            refine ⟨[some 0], _, _, rfl, rfl, Nat.le_refl _, rfl, ?_, leA_refl rfl⟩
            exact eq0
          · rw [g3 h5 h6]
            refine ⟨[some 0], _, _, rfl, rfl, Nat.le_refl _, rfl, ?_, leA_refl rfl⟩
            exact eq0
        · have hi1 : ¬ i ≤ n := by
            have h : decide (i ≤ std.len (runesA l)) = false := h
            rw [hll] at h; exact of_decide_eq_false h
          have eE : E = (nm, kk, bb) := by
            cases bb with
            | true => exact h4.symm
            | false =>
              obtain ⟨h5, h55, h6⟩ := h3 rfl
              have := hn.eq
              exact absurd (Int.le_trans h5 (this ▸ h2.2)) hi1
          have f1 := fin eE
          rw [eE, if_pos trivial]
          clear fin eE h4 hE
          with_reducible refine cv9 (runesA l) (rsG l) (mkG l) (mbG l) (spG l) (wtB l) (wkG l) (wbG l) (wrG l) ?_
          refine ⟨f1, fun h5 => ⟨star, ?_⟩, fun h5 => ⟨star2, fun h6 => ⟨star, ?_⟩, fun h6 => ?_⟩⟩
          · rw [g1 h5]
            refine ⟨[some 0], _, _, rfl, rfl, Nat.le_refl _, rfl, ?_, leA_refl rfl⟩
            exact eq0
          · rw [g2 h6]
            refine ⟨[some 0], _, _, rfl, rfl, Nat.le_refl _, rfl, ?_, leA_refl rfl⟩
            exact eq0
          · rw [g3 h5 h6]
            refine ⟨[some 0], _, _, rfl, rfl, Nat.le_refl _, rfl, ?_, leA_refl rfl⟩
            exact eq0
  · have hw3 : ∀ k s, wokG l 3 k = true → std.eqS (wrG l false k 3) s = std.eqS (wtB l k) s := fun k s h => by rw [wrG, if_neg (by decide), if_pos h]
    have hw : ∀ (k : Int) (c : UInt8) (r : List UInt8), std.eqS (wtB l k) ⟨⟨c :: r⟩⟩ = true → wokG l 3 k = true := fun k c r h => by
      rw [wokG, if_neg (by decide), eqS_w h]; rfl
    have he : ∀ (k : Int) (c : UInt8) (r : List UInt8), std.eqS (wtB l k) ⟨⟨c :: r⟩⟩ = true → wkG l false k 3 = ncI l k ∧ wbG l false k 3 = false := fun k c r h => by
      rw [wkG, wbG, hw k c r h]; exact ⟨rfl, rfl⟩
    unfold contI
    by_cases h1 : std.eqS (wtB l k) ⟨⟨[69, 77, 80, 84, 89]⟩⟩ = true
    · rw [if_pos (.inl h1)] at hQ
      rw [if_pos h1, hQ, (he _ _ _ h1).1, (he _ _ _ h1).2]
      exact ⟨fun _ => rfl, fun h => (by cases h), hk.nc⟩
    by_cases h2 : std.eqS (wtB l k) ⟨⟨[65, 78, 89]⟩⟩ = true
    · rw [if_pos (.inr h2)] at hQ
      rw [if_neg h1, if_pos h2, hQ, (he _ _ _ h2).1, (he _ _ _ h2).2]
      exact ⟨fun _ => rfl, fun h => (by cases h), hk.nc⟩
    rw [if_neg (fun q => q.elim h1 h2)] at hQ
    rw [if_neg h1, if_neg h2]
    cases hp : sdI l k ⟨⟨[40]⟩⟩ with
    | false =>
      rw [(mk_n hp).2] at hb1
      rw [hb1, rs_t, if_pos rfl, if_pos rfl] at hQ
      rw [hQ, if_neg (by decide)]
      exact ⟨fun h => (by cases h), fun _ => rfl, p2⟩
    | true =>
      rw [(mk_y hp).2] at hb1
      rw [(mk_y hp).1] at hk1
      rw [hb1, sp_f, hk1] at hk2
      rw [hb1, rs_f, if_neg (show ¬ false = true by decide)] at hQ
      rw [hb1] at hk3 hb3
      rw [if_pos rfl, ← hk2]
      cases hs : sdI l k2 ⟨⟨[35]⟩⟩ with
      | false =>
        rw [hs, if_pos rfl] at hQ
        rw [hQ, if_neg (fun q => by cases q.1)]
        exact (cG k hk hp).2
      | true =>
        rw [hs, if_neg (by decide)] at hQ
        rw [(mk_y hs).1] at hk3
        rw [(mk_y hs).2] at hb3
        rw [hb3] at hT4 hk4 hb4
        rw [← hk3]
        by_cases h5 : std.eqS (wtB l k3) ⟨⟨[80, 67, 68, 65, 84, 65]⟩⟩ = true
        · have e4 : std.eqS T4 ⟨⟨[80, 67, 68, 65, 84, 65]⟩⟩ = true := by rw [hT4, hw3 _ _ (hw _ _ _ h5)]; exact h5
          rw [(he _ _ _ h5).2] at hb4
          rw [(he _ _ _ h5).1] at hk4
          rw [e4, if_pos rfl, hb4, if_neg (by decide), sp_f, hk4] at hQ
          rw [if_pos ⟨rfl, h5⟩, mixI, hQ]
          have hf : Fu l (skI l (ncI l k3)) (l.length + 1) := by
            have := p3.nc.sp
            unfold Fu Pla at *; omega
          obtain ⟨m1, m2⟩ := mx_law (l.length + 1) 0 (skI l (ncI l k3)) (Int.le_refl 0) p3.nc.sp hf
          exact ⟨m1, m2, mxF_pla (mx_pla _ _ _ p3.nc.sp)⟩
        · have e4 : ¬ std.eqS T4 ⟨⟨[80, 67, 68, 65, 84, 65]⟩⟩ = true := by
            rw [hT4]
            cases ho : wokG l 3 k3 with
            | true => rw [hw3 _ _ ho]; exact h5
            | false => rw [wrG, if_neg (by decide), if_neg (by rw [ho]; decide)]; simp [std, ByteArray.toList_eq]
          rw [if_neg e4] at hQ
          rw [if_neg (fun q => h5 q.2), hQ]
          refine ⟨fun h => absurd ((mxF_bad _ _ _).symm.trans h) (by decide), fun _ => ?_, mxF_pla (E := (0, spG l true k4, true)) (show Pla l (spG l true k4) from p4.spg)⟩
          rw [grI, ← hk2, hash_it hs]
end Go.Proofs.YtdmbfngenffcaaaGreat
namespace Go.Proofs.YtdmbfngenffcaaaGreat
open Go.RowKit Go.Lib
theorem RContent_b (l : List Int) (hl : l.length ≤ 1000000) (hi : I32 l) : BCall Tryz.prog 8 [.slc 1 (runesA l)] [] (.val (.bool (decide (contI l 0 = some (l.length : Int))))) [] := by
  obtain ⟨ik, ib, c⟩ := rcontent_b l hl hi
  obtain ⟨a1, a2, a3, a4⟩ := c 0 ⟨Int.le_refl 0, by omega⟩ trivial
  obtain ⟨n, hn⟩ := exLen l
  have hll : std.len (runesA l) = n := by show ((runesA l).length : Int) = n; rw [runes_len, hn.eq]
  rw [← hn.eq]
  have e : decide (contI l 0 = some n) = (!ib 0 && decide (ik 0 = n)) := by
    cases hb : ib 0 with
    | false => rw [a2 hb]; simp
    | true => rw [a3 hb]; rfl
  rw [e]
  generalize ik 0 = k2 at *
  generalize ib 0 = b2 at *
  unfold rfB at *
  refine fnN (csOne 12 (.tup []) [.box [.slc 1 (runesA l), .val (.int .i64 k2), .val (.bool b2)]]) Tryz.func8 rfl fun _ _ => ?_
  with_reducible refine cv1 (runesA l) ?_
  refine ⟨a1, fun h => ?_, fun h => ?_⟩
  · obtain rfl : b2 = false := by have h : (!b2) = true := h; simpa using h
    have e2 : (!false && decide (k2 = n)) = std.eqI k2 (std.len (runesA l)) := by
      rw [hll]
      show decide (k2 = n) = (k2 == n)
      rw [Bool.eq_iff_iff]; simp
    rw [e2]
    refine ⟨[], _, _, rfl, rfl, Nat.zero_le _, rfl, ?_, leA_refl rfl⟩
    exact eq0
  · obtain rfl : b2 = true := by have h : (!b2) = false := h; simpa using h
    refine ⟨[], _, _, rfl, rfl, Nat.zero_le _, rfl, ?_, leA_refl rfl⟩
    exact eq0
theorem few_b (l : List Int)   : BCall Tryz.prog 5 [.slc 1 (runesA l)] [] (.slc 1 (runesA (l.take 250))) [] := by
  obtain ⟨n, hn⟩ := exLen l
  have hll : std.len (runesA l) = n := by show ((runesA l).length : Int) = n; rw [runes_len, hn.eq]
  have hcut : std.cut (runesA l) 0 250 = runesA (l.take 250) := by
    show ((runesA l).drop 0).take 250 = _
    rw [runesA, runesA, List.drop_zero, List.map_take]
  have hs : 250 ≥ n → l.take 250 = l := fun h => List.take_of_length_le (by have := hn.eq; omega)
  refine fnN (csOne 0 .dead []) Tryz.func5 rfl fun _ _ => ?_
  with_reducible refine cv1 (runesA l) ?_
  refine ⟨fun h => ⟨?_, ?_⟩, fun h => ?_⟩
  · have h : decide (250 < std.len (runesA l)) = true := h
    rw [hll] at h
    have h := of_decide_eq_true h
    show 0 ≤ 0 ∧ (0 : Int) ≤ 250 ∧ 250 ≤ std.len (runesA l)
    rw [hll]; omega
  · rw [← hcut]
    refine ⟨[], _, _, rfl, rfl, Nat.le_refl _, rfl, ?_, leA_refl rfl⟩
    exact eq0
  · have h : decide (250 < std.len (runesA l)) = false := h
    rw [hll] at h
    have h := of_decide_eq_false h
    rw [hs (by omega)]
    refine ⟨[], _, _, rfl, rfl, Nat.le_refl _, rfl, ?_, leA_refl rfl⟩
    exact eq0
end Go.Proofs.YtdmbfngenffcaaaGreat
namespace Go.Proofs.YtdmbfngenffcaaaGreat
open Go.RowKit Go.Lib
structure BE where
  f : Nat
  args : List AV
  ob : List Ob
  res : AV
  ob' : List Ob
def baseT : List BE → Nat → List AV → List Ob → Option (AV × List Ob)
  | [], _, _, _ => none
  | e :: r, f, a, o => match Nat.beq f e.f && (all2 (aEq 40) e.args a && all2 oEq e.ob o) with
    | true => some (e.res, e.ob')
    | false => baseT r f a o
def GoodB : List BE → Prop
  | [] => True
  | e :: r => (Nat.ble (e.f + 1) 1000000 = true ∧ BCall Tryz.prog e.f e.args e.ob e.res e.ob') ∧ GoodB r
theorem base_ok : ∀ {L : List BE}, GoodB L → ∀ f a o r o', baseT L f a o = some (r, o') → f < 1000000 ∧ BCall Tryz.prog f a o r o'
  | [], _, _, _, _, _, _, h => by cases h
  | e :: r, hg, f, a, o, x, o', h => by
    unfold baseT at h
    split at h
    · rename_i hb
      simp only [Bool.and_eq_true] at hb
      obtain ⟨h1, h2, h3⟩ := hb
      obtain ⟨rfl, rfl⟩ : e.res = x ∧ e.ob' = o' := by simpa using h
      rw [Nat.eq_of_beq_eq_true h1, ← all2_eq (aEq_eq 40) _ _ h2, ← all2_eq (fun _ _ => oEq_eq) _ _ h3]
      exact ⟨Nat.le_of_ble_eq_true hg.1.1, hg.1.2⟩
    · exact base_ok hg.2 f a o x o' h
theorem run1 {l : List (Nat × FnI)} (h : GoodL l) {L : List BE} (hb : GoodB L) {ask : Nat → List Srt → Bool} (ha : ∀ T sh, ask T sh = true → EqOk Tryz.prog T sh) {lf n f : Nat} {args : List AV} {ob : List Ob} {r : AV} {o' : List Ob}
    (hr : runX (tabF l) (baseT L) ask lf n f args ob = some (r, o')) : BCall Tryz.prog f args ob r o' :=
  (run_ok (tab_ok h) (base_ok hb) ha n f args ob r o' hr).2
theorem ask0_ok : ∀ T sh, ask0 T sh = true → EqOk Tryz.prog T sh := fun _ _ h => by cases h
end Go.Proofs.YtdmbfngenffcaaaGreat
namespace Go.Proofs.YtdmbfngenffcaaaGreat
open Go.RowKit Go.Lib
noncomputable def Kq_tab : List (Nat × FnI) := [
  (9, ⟨Tryz.f9, Tryz.f9.body.getD .skip, fun _ => .nil⟩),
  (6, ⟨Tryz.f6, Tryz.f6.body.getD .skip, fun _ => .nil⟩),
  (7, ⟨Tryz.f7, Tryz.f7.body.getD .skip, fun _ => .nil⟩)]
theorem Kq_tab_ok : GoodL Kq_tab := by
  unfold Kq_tab
  refine ⟨⟨Nat.le_of_ble_eq_true rfl, Tryz.func9, rfl, by kernel_rfl⟩, ?_⟩
  refine ⟨⟨Nat.le_of_ble_eq_true rfl, Tryz.func6, rfl, by kernel_rfl⟩, ?_⟩
  refine ⟨⟨Nat.le_of_ble_eq_true rfl, Tryz.func7, rfl, by kernel_rfl⟩, ?_⟩
  exact trivial
def Kq_bl : List BE := [⟨11, [.slc 1 (runesA exE)], [], .tup [exR, .val (.bool true)], []⟩]
theorem Kq_bok : GoodB Kq_bl := by
  unfold Kq_bl
  exact ⟨⟨rfl, readE_b⟩, trivial⟩
theorem awake15_b : BCall Tryz.prog 9 [] [] (.val (.bool true)) [] :=
  run1 Kq_tab_ok Kq_bok (ask := ask0) ask0_ok (lf := 100) (n := 40) (by kernel_rfl)
end Go.Proofs.YtdmbfngenffcaaaGreat
namespace Go.Proofs.YtdmbfngenffcaaaGreat
open Go.RowKit Go.Lib
theorem BCall.bounded2 {P : Program} {f sz : Nat} {xs : List AV} {a : AV} {args : List AV} {ob ob' : List Ob} {res : AV} (he : ∀ vs w, (callFunc f vs).run P w = .ok (.enter f vs) w) (h : xs.length ≤ maxLen → BCall P f (a :: .slc sz xs :: args) ob res ob') : BCall P f (a :: .slc sz xs :: args) ob res ob' := by
  refine ⟨he, fun w g vs M hL => ?_⟩
  have hx : xs.length ≤ maxLen := by
    obtain ⟨v, hv⟩ : ∃ v, vs[1]? = some v := by
      have := hL.1
      match vs, this with
      | a :: b :: r, _ => exact ⟨b, rfl⟩
    have h1 : PRel w g.A v (.slc sz xs) := hL.2 1 v _ hv rfl
    cases h1 with
    | nil => exact Nat.zero_le _
    | slc b o c _ _ f hc hm _ _ _ => exact Nat.le_trans hc hm
  exact (h hx).2 w g vs M hL
def Gap (G : List Int) : Prop := G ≠ [] ∧ (∀ x ∈ G, isSpace x = true) ∧ G.length ≤ 6
def oneL (l : List Int) : List Int := lEla ++ l ++ [62]
def allL (G l : List Int) : List Int := lEle ++ G ++ [97] ++ G ++ l ++ G ++ [62]
def gapA : List AV := [.val (.int .i32 32), .val (.int .i32 9), .val (.int .i32 10), .val (.int .i32 13)]
theorem gap_at (b : UInt8) : (0 ≤ std.bits .and .u8 (b.toNat : Int) 3 ∧ std.bits .and .u8 (b.toNat : Int) 3 < 4) ∧ ∃ x, std.nth (std.cel (std.at_ gapA (std.bits .and .u8 (b.toNat : Int) 3))) 0 = .val (.int .i32 x) ∧ isSpace x = true := by
  have h0 : ((List.range 256).all fun n => decide (0 ≤ std.bits .and .u8 (n : Int) 3) && decide (std.bits .and .u8 (n : Int) 3 < 4)) = true := by kernel_rfl
  have h1 := List.all_eq_true.1 h0 b.toNat (List.mem_range.2 b.toNat_lt)
  simp only [Bool.and_eq_true, decide_eq_true_eq] at h1
  refine ⟨h1, ?_⟩
  generalize std.bits .and .u8 (b.toNat : Int) 3 = k at h1
  obtain ⟨j, rfl⟩ : ∃ j : Nat, k = j := ⟨k.toNat, by omega⟩
  match j, h1 with
  | 0, _ => exact ⟨32, rfl, rfl⟩
  | 1, _ => exact ⟨9, rfl, rfl⟩
  | 2, _ => exact ⟨10, rfl, rfl⟩
  | 3, _ => exact ⟨13, rfl, rfl⟩
  | j + 4, h => omega
def dKA (xs : List AV) : Int := dcK (xs.map intOf)
def dTA (xs : List AV) : ByteArray := dcT (xs.map intOf)
def dCA (xs : List AV) : ByteArray := dcC (xs.map intOf)
def dBA (xs : List AV) : Bool := dcB (xs.map intOf)
theorem runes_int (l : List Int) : (runesA l).map intOf = l := by
  rw [runesA, List.map_map]
  exact List.map_id' l
def csDB (X La Le : List AV) (dK : List AV → Int) (dT dC : List AV → ByteArray) (dB : List AV → Bool) (qc : Bool) : Nat → List AV → List Ob → Option (AV × List Ob) := fun g args _ => match g, args with
  | 5, _ => some (.slc 1 X, [])
  | 1000037, _ => some (.row 0 0, [.row 21 1 false 0 La])
  | 1000043, _ => some (.row 0 0, [.row 21 1 false 0 Le])
  | 7, [.slc 1 xs, _, _] => some (.tup [dcA (dK xs) (dT xs) (dC xs), .val (.bool (dB xs))], [])
  | 8, _ => some (.val (.bool qc), [])
  | 9, _ => some (.val (.bool true), [])
  | _, _ => none
theorem el_starts (r : List Int) : sdI (lEle ++ r) 0 sEnt = false ∧ sdI (lEle ++ r) 0 sAtt = false ∧ sdI (lEle ++ r) 0 sEle = true := by
  refine ⟨?_, ?_, ?_⟩ <;> simp [sdI, startsF, lEle, sEnt, sAtt, sEle, bi]
set_option maxRecDepth 100000 in
set_option maxHeartbeats 2000000 in
theorem DB_w (l : List Int) (bs : List UInt8) (hl : l.length ≤ 250) (hb : bs.length ≤ 9223372036854775807) (l0 : List Int)
    (c1 : BCall Tryz.prog 5 [.slc 1 (runesA l0)] [] (.slc 1 (runesA l)) [])
    (cR : BCall Tryz.prog 8 [.slc 1 (runesA l)] [] (.val (.bool (decide (contI l 0 = some (l.length : Int))))) [])
    (hp : ∀ G, Gap G → contI l 0 = some (l.length : Int) → ∃ C, dcI (oneL l) = some (⟨⟨[97]⟩⟩, C) ∧ dcI (allL G l) = some (⟨⟨[97]⟩⟩, C)) :
    BCall Tryz.prog 3 [.slc 1 (runesA l0), .slc 1 (bytesA bs)] [] (.val (.bool true)) [] := by
  have cA := awake15_b
  have cE1 := runes_ela
  have cE2 := runes_ele
  obtain ⟨N, hN⟩ := exLen bs
  have hNN : std.len (bytesA bs) = N := by show ((bytesA bs).length : Int) = N; rw [bytes_len, hN.eq]
  have hN2 : N ≤ 9223372036854775807 ∧ 0 ≤ N := by rw [hN.eq]; omega
  obtain ⟨qc, hqc⟩ : ∃ qc, qc = decide (contI l 0 = some (l.length : Int)) := ⟨_, rfl⟩
  rw [← hqc] at cR
  have cRd : ∀ r : List Int, r.length ≤ 1000 → BCall Tryz.prog 7 [.slc 1 (runesA (lEle ++ r)), .val (.int .i64 0), .val (.int .i64 (std.len (runesA (lEle ++ r))))] [] (.tup [dcA (dKA (runesA (lEle ++ r))) (dTA (runesA (lEle ++ r))) (dCA (runesA (lEle ++ r))), .val (.bool (dBA (runesA (lEle ++ r))))]) [] := fun r hr => by
    unfold dKA dTA dCA dBA
    rw [runes_int]
    exact Read_b (lEle ++ r) (by rw [List.length_append]; have : lEle.length = 9 := rfl; omega) (el_starts r).1 (el_starts r).2.1 (el_starts r).2.2
  refine fnN (csDB (runesA l) (runesA lEla) (runesA lEle) dKA dTA dCA dBA qc) Tryz.func3 rfl fun _ _ => ?_
  with_reducible refine cv9 (runesA l) (runesA lEla) (runesA lEle) (runesA l0) (bytesA bs) dKA dTA dCA dBA ?_
  refine ⟨c1, ?_⟩
  refine loopN (csDB (runesA l) (runesA lEla) (runesA lEle) dKA dTA dCA dBA qc) (Int × List Int) (fun x => ⟨[(0, .slc 1 (runesA l)), (5, .row 0 0), (19, .slc 1 (bytesA bs)), (20, .val (.int .i64 N)), (21, .val (.int .i64 x.1))], [.row 21 1 false 0 (runesA x.2)]⟩) (fun x => (0 ≤ x.1 ∧ x.1 ≤ N) ∧ (x.2 ≠ [] ∧ (∀ y ∈ x.2, isSpace y = true) ∧ (x.2.length : Int) ≤ x.1 + 1 ∧ x.2.length ≤ 6)) (fun x => (N - x.1).toNat) (0, [32]) ?_ ?_ ?_
  · exact ⟨⟨Int.le_refl 0, hN2.2⟩, by simp, fun y hy => by simp at hy; subst hy; rfl, by simp, by simp⟩
  · refine ⟨[some 0], _, rfl, ?_⟩
    exact eq1 hNN
  · rintro ⟨i, G⟩ ⟨⟨hi0, hi1⟩, hG0, hGs, hGl, hG6⟩
    have hi0 : 0 ≤ i := hi0
    have hi1 : i ≤ N := hi1
    have hGl : (G.length : Int) ≤ i + 1 := hGl
    have hG6 : G.length ≤ 6 := hG6
    simp only
    with_reducible refine cv9 (runesA l) (runesA lEla) (runesA lEle) (runesA G) (bytesA bs) dKA dTA dCA dBA ?_
    refine ⟨fun h => ?_, fun h => ?_⟩
    · have h : i < N := of_decide_eq_true h
      have hib : i < bs.length := by rw [← hN.eq]; exact h
      have hx := byte_cell (l := bs) hi0 hib
      obtain ⟨hg1, y, hg2, hg3⟩ := gap_at (bs[i.toNat]?.getD 0)
      have hr : (std.inR .i64 (std.add i 1)).q := by
        show std.inR .i64 (i + 1)
        rw [inR64]; omega
      have hin : (std.inb i (std.len (bytesA bs))).q := by
        rw [hNN]; exact ⟨hi0, h⟩
      have hx2 : std.int (std.nth (std.cel (std.at_ (bytesA bs) i)) 0) = ((bs[i.toNat]?.getD 0).toNat : Int) := int_of hx
      refine ⟨hin, ⟨has_int hx, trivial⟩, fun h5 => ?_, fun h5 => ?_⟩
      · have h5 : i < 5 := of_decide_eq_true h5
        rw [← hx2] at hg1 hg2
        have hy : std.int (std.nth (std.drp (std.cel (std.at_ gapA (std.bits .and .u8 (std.int (std.nth (std.cel (std.at_ (bytesA bs) i)) 0)) 3))) 0) 0) = y := int_of (show std.nth (std.drp (std.cel (std.at_ gapA (std.bits .and .u8 (std.int (std.nth (std.cel (std.at_ (bytesA bs) i)) 0)) 3))) 0) 0 = .val (.int .i32 y) from hg2)
        have e1 : runesA (G ++ [std.int (std.nth (std.drp (std.cel (std.at_ gapA (std.bits .and .u8 (std.int (std.nth (std.cel (std.at_ (bytesA bs) i)) 0)) 3))) 0) 0)]) = runesA G ++ [.val (.int .i32 (std.int (std.nth (std.drp (std.cel (std.at_ gapA (std.bits .and .u8 (std.int (std.nth (std.cel (std.at_ (bytesA bs) i)) 0)) 3))) 0) 0)))] := by
          rw [runes_app]; rfl
        refine ⟨⟨hg1.1, hg1.2⟩, ⟨has_int hg2, trivial⟩, ?_, hr, (i + 1, G ++ [std.int (std.nth (std.drp (std.cel (std.at_ gapA (std.bits .and .u8 (std.int (std.nth (std.cel (std.at_ (bytesA bs) i)) 0)) 3))) 0) 0)]), ⟨⟨?_, ?_⟩, ?_, ?_, ?_, ?_⟩, ?_, [some 0], _, rfl, ?_⟩
        · show (runesA G).length + 1 ≤ 1000000000
          rw [runes_len]; omega
        · show 0 ≤ i + 1; omega
        · show i + 1 ≤ N; omega
        · simp
        · intro z hz
          rcases List.mem_append.1 hz with hz | hz
          · exact hGs z hz
          · obtain rfl := List.mem_singleton.1 hz
            rw [hy]; exact hg3
        · show ((G ++ [_]).length : Int) ≤ i + 1 + 1
          rw [List.length_append]; simp; omega
        · show (G ++ [_]).length ≤ 6
          rw [List.length_append]; simp; omega
        · show (N - (i + 1)).toNat < (N - i).toNat; omega
        · have e2 := e1.symm
          exact eq1 e2
      · have h5 : ¬ i < 5 := of_decide_eq_false h5
        refine ⟨hr, (i + 1, G), ⟨⟨?_, ?_⟩, hG0, hGs, ?_, hG6⟩, ?_, [some 0], _, rfl, ?_⟩
        · show 0 ≤ i + 1; omega
        · show i + 1 ≤ N; omega
        · show (G.length : Int) ≤ i + 1 + 1; omega
        · show (N - (i + 1)).toNat < (N - i).toNat; omega
        · exact eq0
    · rw [if_pos trivial]
      have hG : Gap G := ⟨hG0, hGs, hG6⟩
      have hpG := hp G hG
      clear hi0 hi1 hGl h hN hNN hN2 hp
      with_reducible refine cv8 (runesA l) (runesA lEla) (runesA lEle) (runesA G) dKA dTA dCA dBA ?_
      have hO1 : std.app (std.app (runesA lEla) (runesA l)) [.val (.int .i32 62)] = runesA (lEle ++ ([32, 97, 32] ++ l ++ [62])) := by
        show runesA lEla ++ runesA l ++ runesA [62] = _
        rw [← runes_app, ← runes_app, show lEla = lEle ++ [32, 97, 32] from rfl]
        simp only [List.append_assoc]
      have hO2 : std.app (std.app (std.app (std.app (std.app (std.app (runesA lEle) (runesA G)) [.val (.int .i32 97)]) (runesA G)) (runesA l)) (runesA G)) [.val (.int .i32 62)] = runesA (lEle ++ (G ++ [97] ++ G ++ l ++ G ++ [62])) := by
        show runesA lEle ++ runesA G ++ runesA [97] ++ runesA G ++ runesA l ++ runesA G ++ runesA [62] = _
        simp only [← runes_app, List.append_assoc]
      have cR1 := cRd ([32, 97, 32] ++ l ++ [62]) (by simp; omega)
      have cR2 := cRd (G ++ [97] ++ G ++ l ++ G ++ [62]) (by simp; omega)
      have hB : ∀ r : List Int, dKA (runesA r) = dcK r ∧ dTA (runesA r) = dcT r ∧ dCA (runesA r) = dcC r ∧ dBA (runesA r) = dcB r := fun r => by
        unfold dKA dTA dCA dBA; rw [runes_int]; exact ⟨rfl, rfl, rfl, rfl⟩
      have hT1 := hB (lEle ++ ([32, 97, 32] ++ l ++ [62]))
      have hT2 := hB (lEle ++ (G ++ [97] ++ G ++ l ++ G ++ [62]))
      have hone : lEle ++ ([32, 97, 32] ++ l ++ [62]) = oneL l := by unfold oneL; rw [show lEla = lEle ++ [32, 97, 32] from rfl]; simp only [List.append_assoc]
      have hall : lEle ++ (G ++ [97] ++ G ++ l ++ G ++ [62]) = allL G l := by unfold allL; simp only [List.append_assoc]
      rw [← hO1] at cR1 hT1
      rw [← hO2] at cR2 hT2
      rw [hone] at hT1
      rw [hall] at hT2
      have bb : ∀ a b : List AV, a.length ≤ 1000 → b.length ≤ 1000 → (std.bnd a b).q := fun a b h1 h2 => by
        show a.length + b.length ≤ 1000000000
        omega
      have la : ∀ {a b : List AV} {n m : Nat}, a.length ≤ n → b.length ≤ m → (std.app a b).length ≤ n + m := fun {a b n m} h1 h2 => by
        show (a ++ b).length ≤ _
        rw [List.length_append]; omega
      have l1 : (runesA l).length ≤ 250 := by rw [runes_len]; exact hl
      have l2 : (runesA G).length ≤ 6 := by rw [runes_len]; exact hG6
      have l3 : (runesA lEla).length ≤ 12 := Nat.le_refl _
      have l4 : (runesA lEle).length ≤ 9 := Nat.le_refl _
      have l5 : ∀ x : AV, [x].length ≤ 1 := fun _ => Nat.le_refl _
      have up : ∀ {a : List AV} {n : Nat}, a.length ≤ n → n ≤ 1000 → a.length ≤ 1000 := fun h1 h2 => Nat.le_trans h1 h2
      have d1 := la (la l4 l2) (l5 (.val (.int .i32 97)))
      have d2 := la (la d1 l2) l1
      refine ⟨cE1, bb _ _ (up l3 (by decide)) (up l1 (by decide)), bb _ _ (up (la l3 l1) (by decide)) (up (l5 _) (by decide)), cE2, bb _ _ (up l4 (by decide)) (up l2 (by decide)), bb _ _ (up (la l4 l2) (by decide)) (up (l5 _) (by decide)), bb _ _ (up d1 (by decide)) (up l2 (by decide)), bb _ _ (up (la d1 l2) (by decide)) (up l1 (by decide)), bb _ _ (up d2 (by decide)) (up l2 (by decide)), bb _ _ (up (la d2 l2) (by decide)) (up (l5 _) (by decide)), cR1, cR2, cR, fun h => ⟨cA, .pure rfl (leA_refl rfl)⟩, fun h => ?_⟩
      have h : (!qc) = false := h
      have hq : qc = true := by simpa using h
      obtain ⟨C, e1, e2⟩ := hpG (of_decide_eq_true (hqc.symm.trans hq))
      rw [dcK, dcT, dcC, dcB, e1] at hT1
      rw [dcK, dcT, dcC, dcB, e2] at hT2
      obtain ⟨f1, f2, f3, f4⟩ := hT1
      obtain ⟨f5, f6, f7, f8⟩ := hT2
      obtain ⟨n, hn⟩ := exLen l
      have hnn : std.len (runesA l) = n := by show ((runesA l).length : Int) = n; rw [runes_len, hn.eq]
      have hn0 : 0 ≤ n ∧ n ≤ 250 := by rw [hn.eq]; omega
      clear cR1 cR2 hO1 hO2 hone hall
      refine loopN (csDB (runesA l) (runesA lEla) (runesA lEle) dKA dTA dCA dBA qc) (Int) (fun i => ⟨[(10, .box 0 0), (11, .val (.bool true)), (12, .box 1 0), (13, .val (.bool true)), (79, .slc 1 (runesA l)), (80, .val (.int .i64 n)), (81, .val (.int .i64 i))], [.box [.val (.int .i64 4), .val (.string ⟨⟨[97]⟩⟩), .val (.slice none 0 0), .val (.bool false), .val (.string ⟨⟨[]⟩⟩), .val (.string ⟨⟨[]⟩⟩), .val (.string ⟨⟨[]⟩⟩), .val (.string C), .val (.slice none 0 0)], .box [.val (.int .i64 4), .val (.string ⟨⟨[97]⟩⟩), .val (.slice none 0 0), .val (.bool false), .val (.string ⟨⟨[]⟩⟩), .val (.string ⟨⟨[]⟩⟩), .val (.string ⟨⟨[]⟩⟩), .val (.string C), .val (.slice none 0 0)]]⟩) (fun i => 0 ≤ i ∧ i ≤ n) (fun i => (n - i).toNat) 0 ?_ ?_ ?_
      · exact ⟨Int.le_refl 0, hn0.1⟩
      · refine ⟨[some 6, some 7], _, rfl, ?_⟩
        repeat first
          | exact trivial
          | refine ⟨rfl, ?_⟩
          | refine ⟨f1, ?_⟩
          | refine ⟨gI (f1), ?_⟩
          | refine ⟨gA (f1), ?_⟩
          | refine ⟨gB (f1), ?_⟩
          | refine ⟨gR (f1), ?_⟩
          | refine ⟨gT (f1), ?_⟩
          | refine ⟨f2, ?_⟩
          | refine ⟨gI (f2), ?_⟩
          | refine ⟨gA (f2), ?_⟩
          | refine ⟨gB (f2), ?_⟩
          | refine ⟨gR (f2), ?_⟩
          | refine ⟨gT (f2), ?_⟩
          | refine ⟨f3, ?_⟩
          | refine ⟨gI (f3), ?_⟩
          | refine ⟨gA (f3), ?_⟩
          | refine ⟨gB (f3), ?_⟩
          | refine ⟨gR (f3), ?_⟩
          | refine ⟨gT (f3), ?_⟩
          | refine ⟨f4, ?_⟩
          | refine ⟨gI (f4), ?_⟩
          | refine ⟨gA (f4), ?_⟩
          | refine ⟨gB (f4), ?_⟩
          | refine ⟨gR (f4), ?_⟩
          | refine ⟨gT (f4), ?_⟩
          | refine ⟨f5, ?_⟩
          | refine ⟨gI (f5), ?_⟩
          | refine ⟨gA (f5), ?_⟩
          | refine ⟨gB (f5), ?_⟩
          | refine ⟨gR (f5), ?_⟩
          | refine ⟨gT (f5), ?_⟩
          | refine ⟨f6, ?_⟩
          | refine ⟨gI (f6), ?_⟩
          | refine ⟨gA (f6), ?_⟩
          | refine ⟨gB (f6), ?_⟩
          | refine ⟨gR (f6), ?_⟩
          | refine ⟨gT (f6), ?_⟩
          | refine ⟨f7, ?_⟩
          | refine ⟨gI (f7), ?_⟩
          | refine ⟨gA (f7), ?_⟩
          | refine ⟨gB (f7), ?_⟩
          | refine ⟨gR (f7), ?_⟩
          | refine ⟨gT (f7), ?_⟩
          | refine ⟨f8, ?_⟩
          | refine ⟨gI (f8), ?_⟩
          | refine ⟨gA (f8), ?_⟩
          | refine ⟨gB (f8), ?_⟩
          | refine ⟨gR (f8), ?_⟩
          | refine ⟨gT (f8), ?_⟩
          | refine ⟨hnn, ?_⟩
          | refine ⟨gI (hnn), ?_⟩
          | refine ⟨gA (hnn), ?_⟩
          | refine ⟨gB (hnn), ?_⟩
          | refine ⟨gR (hnn), ?_⟩
          | refine ⟨gT (hnn), ?_⟩
      · rintro j ⟨hj0, hj1⟩
        have hj0 : 0 ≤ j := hj0
        have hj1 : j ≤ n := hj1
        with_reducible refine cv7 (runesA l) (runesA lEla) (runesA lEle) dKA dTA dCA dBA ?_
        refine ⟨fun h => ?_, fun h => ?_⟩
        · have h : j < n := of_decide_eq_true h
          have hx := rune_cell (l := l) hj0 (by rw [← hn.eq]; exact h)
          refine ⟨⟨hj0, by show j < std.len (runesA l); rw [hnn]; exact h⟩, ⟨has_int hx, trivial⟩, fun _ => ⟨cA, ?_⟩, fun _ => ⟨fun _ => ⟨cA, ?_⟩, fun _ => ⟨?_, j + 1, ⟨by omega, by omega⟩, by omega, [some 0, some 1], _, rfl, ?_⟩⟩⟩
          · with_reducible refine cv0 ?_
            exact .pure rfl (leA_refl rfl)
          · with_reducible refine cv0 ?_
            exact .pure rfl (leA_refl rfl)
          · show std.inR .i64 (j + 1)
            rw [inR64]; omega
          · exact eq0
        · rw [if_pos trivial]
          with_reducible refine cv7 (runesA l) (runesA lEla) (runesA lEle) dKA dTA dCA dBA ?_
          have hs : ∀ s : ByteArray, std.eqS s s = true := fun s => by show (s.toList == s.toList) = true; simp
          refine ⟨fun _ => ⟨fun _ => ⟨fun _ => ⟨cA, .pure rfl (leA_refl rfl)⟩, fun h => ?_⟩, fun h => ?_⟩, fun h => ?_⟩
          · exact absurd ((hs ⟨⟨[97]⟩⟩).symm.trans h) (by decide)
          · exact absurd ((show std.eqI 4 4 = true from rfl).symm.trans h) (by decide)
          · exact absurd ((hs C).symm.trans h) (by decide)
end Go.Proofs.YtdmbfngenffcaaaGreat
