/- Lemmas, conditions told -/
import Derived.Test.YtdmbfngenffcaaaGreatG12
import Derived.Test.YtdmbfngenffcaaaGreatG11
import Derived.Defers
import Derived.Recover
import Derived.WalkLawsBesides
import Derived.Laws.Pointers
set_option linter.unusedSimpArgs false
set_option linter.unusedVariables false
namespace Go.Proofs.YtdmbfngenffcaaaGreat
open Go.RowKit Go.Lib
theorem group_no (l : List Int) (k : Int) : RdF l 27 [.box 0 0, .val (.int .i64 65)] (.tup []) k none := by
  obtain ⟨sc, wq, wk, wt, io, ik⟩ : (Int → Int) × (Int → ByteArray → Bool) × (Int → ByteArray → Int) × (Int → ByteArray) × (Int → Bool) × (Int → Int) := ⟨fun k => k, fun _ _ => true, fun k _ => k, fun _ => ⟨⟨[]⟩⟩, fun _ => true, fun k => k⟩
  unfold RdF rdB
  refine fnE _ _ (csKR (runesA l) ik sc ik ik (sdI l) wk wq wk io wt io io io ik ik ik) (fun _ => .nil) Tryz.func27 rfl fun _ _ => ?_
  with_reducible refine cv2 (runesA l) (sdI l) ?_
  have hle : std.leI 65 64 = false := by decide
  refine ⟨fun h => absurd (hle.symm.trans h) Bool.noConfusion, fun h => ⟨must_p h, fun _ => .pan rfl⟩⟩
theorem item_w (l : List Int) (hl : l.length ≤ 1000000) (d : Int) (hd : 0 ≤ d ∧ d ≤ 64) (gr : Int → Option Int) (cG : ∀ k, Pla l k → RdF l 27 [.box 0 0, .val (.int .i64 (d + 1))] (.tup []) k (gr k)) (k : Int) (hk : Pla l k) :
    RdF l 50 [.box 0 0, .val (.int .i64 d)] (.tup []) k (if sdI l k ⟨⟨[40]⟩⟩ = true then gr (nxI l k ⟨⟨[40]⟩⟩) else if okN l k = true then some (oftI l (ncI l k)) else none) := by
  have cN := next_b l hl
  have cM := dname_b l hl
  have cO := often_b l hl
  have hno := @nx_no l
  obtain ⟨R, hR⟩ : ∃ R, R = (if sdI l k ⟨⟨[40]⟩⟩ = true then gr (nxI l k ⟨⟨[40]⟩⟩) else if okN l k = true then some (oftI l (ncI l k)) else none) := ⟨_, rfl⟩
  rw [← hR]
  obtain ⟨io, hio⟩ : ∃ io, io = fun k => (gr k).isSome := ⟨_, rfl⟩
  obtain ⟨ik, hik⟩ : ∃ ik, ik = fun k => (gr k).getD 0 := ⟨_, rfl⟩
  have hd1 : std.add d 1 = d + 1 := rfl
  have c1 : ∀ k, Pla l k → io k = true → BCall Tryz.prog 27 [.box 0 0, .val (.int .i64 (d + 1))] [rdB l k] (.tup []) [rdB l (ik k)] := fun k h h2 => by rw [hio] at h2; rw [hik]; exact rd_some (cG k h) h2
  have c0 : ∀ k, Pla l k → io k = false → BPan Tryz.prog 27 [.box 0 0, .val (.int .i64 (d + 1))] [rdB l k] wrongV := fun k h h2 => by rw [hio] at h2; exact rd_none (cG k h) h2
  have i1 : ∀ k, io k = true → gr k = some (ik k) := fun k h => by
    rw [hio] at h; rw [hik]
    cases hx : gr k with
    | none => simp only [hx] at h; cases h
    | some x => simp only [hx]; rfl
  have i0 : ∀ k, io k = false → gr k = none := fun k h => by
    rw [hio] at h
    cases hx : gr k with
    | none => rfl
    | some x => simp only [hx] at h; cases h
  have m1 : okN l k = true → BCall Tryz.prog 49 [.box 0 0] [rdB l k] (.val (.string (wtB l k))) [rdB l (ncI l k)] := fun h => (cM k hk).call (by rw [if_pos h]; rfl)
  have m0 : okN l k = false → BPan Tryz.prog 49 [.box 0 0] [rdB l k] wrongV := fun h => (cM k hk).pan (by rw [if_neg (by rw [h]; decide)]; rfl)
  clear cG cM hio hik
  obtain ⟨sc, wq, wk⟩ : (Int → Int) × (Int → ByteArray → Bool) × (Int → ByteArray → Int) := ⟨fun k => k, fun _ _ => true, fun k _ => k⟩
  unfold RdF rdB at *
  refine fnE _ _ (csKR (runesA l) sc sc (ncI l) (oftI l) (sdI l) (nxI l) wq wk (okN l) (wtB l) io io io ik ik ik) (fun _ => .nil) Tryz.func50 rfl fun _ _ => ?_
  with_reducible refine cv7 (runesA l) (ncI l) (oftI l) (sdI l) (nxI l) (okN l) (wtB l) ?_
  refine ⟨cN k hk _ (by decide), fun hb => ⟨?_, fun hi => ⟨c1 _ hk.nx hi, ?_⟩, fun hi => ⟨c0 _ hk.nx hi, fun _ => .pan (by rw [hR, if_pos hb, i0 _ hi]; rfl)⟩⟩, fun hb => ?_⟩
  · show std.inR .i64 (d + 1)
    rw [inR64]; omega
  · refine .ok (by rw [hR, if_pos hb, i1 _ hi]; rfl) ⟨[some 0], _, _, rfl, rfl, Nat.le_refl _, rfl, ?_, leA_refl rfl⟩
    exact eq0
  · have hb : sdI l k ⟨⟨[40]⟩⟩ = false := hb
    rw [if_neg (by rw [hb]; decide)] at hR
    rw [hno hb]
    refine ⟨fun hn => ⟨m1 hn, cO _ hk.nc, ?_⟩, fun hn => ⟨m0 hn, fun _ => .pan (by rw [hR, if_neg (by rw [hn]; decide)]; rfl)⟩⟩
    refine .ok (by rw [hR, if_pos hn]; rfl) ⟨[some 0], _, _, rfl, rfl, Nat.le_refl _, rfl, ?_, leA_refl rfl⟩
    exact eq0
theorem item_b (l : List Int) (hl : l.length ≤ 1000000) : ∀ (n : Nat) (d : Int), d = 64 - n → 0 ≤ d → ∀ k, Pla l k → RdF l 50 [.box 0 0, .val (.int .i64 d)] (.tup []) k (itI l n k)
  | 0, d, hd, h0, k, hk => by
    obtain rfl : d = 64 := by omega
    have := item_w l hl 64 (by decide) (fun _ => none) (fun k _ => group_no l k) k hk
    unfold itI
    exact this
  | n + 1, d, hd, h0, k, hk => by
    have hd1 : d + 1 = 64 - (n : Int) := by omega
    have := item_w l hl d (by omega) (grI l (itI l n)) (fun k hk => group_b l hl (d + 1) (by omega) (itI l n) (it_ok l n) (item_b l hl n (d + 1) hd1 (by omega)) k hk) k hk
    unfold itI
    exact this
def lpM (l : List Int) : Nat → Int → Int → Option (Int × Int)
  | 0, _, _ => none
  | f + 1, nm, k => if sdI l k ⟨⟨[124]⟩⟩ = true then (if okN l (skI l (nxI l k ⟨⟨[124]⟩⟩)) = true then lpM l f (nm + 1) (skI l (ncI l (skI l (nxI l k ⟨⟨[124]⟩⟩)))) else none) else some (nm, k)
def mxE (l : List Int) (q : Int × Int) : Option Int :=
  if sdI l q.2 ⟨⟨[41]⟩⟩ = true then (if sdI l (nxI l q.2 ⟨⟨[41]⟩⟩) ⟨⟨[42]⟩⟩ = true then some (nxI l (nxI l q.2 ⟨⟨[41]⟩⟩) ⟨⟨[42]⟩⟩) else if q.1 = 0 then some (nxI l q.2 ⟨⟨[41]⟩⟩) else none) else none
def mixI (l : List Int) (k : Int) : Option Int := (lpM l (l.length + 1) 0 (skI l k)).bind (mxE l)
theorem mixed_b (l : List Int) (hl : l.length ≤ 1000000) (k : Int) (hk : Pla l k) : RdF l 26 [.box 0 0] (.tup []) k (mixI l k) := by
  have cS := space_b l hl
  have cN := next_b l hl
  have cT := take_b l hl
  have cM := dname_b l hl
  have hno := @nx_no l
  have m1 : ∀ k, Pla l k → okN l k = true → BCall Tryz.prog 49 [.box 0 0] [rdB l k] (.val (.string (wtB l k))) [rdB l (ncI l k)] := fun k hk h => (cM k hk).call (by rw [if_pos h]; rfl)
  have m0 : ∀ k, Pla l k → okN l k = false → BPan Tryz.prog 49 [.box 0 0] [rdB l k] wrongV := fun k hk h => (cM k hk).pan (by rw [if_neg (by rw [h]; decide)]; rfl)
  have cTc : ∀ k s, Pla l k → s.size ≤ 1000 → sdI l k s = true → BCall Tryz.prog 23 [.box 0 0, .val (.string s)] [rdB l k] (.tup []) [rdB l (nxI l k s)] := fun k s h1 h2 h => by
    have := cT k h1 s h2
    rw [if_pos h] at this
    rw [nxI, if_pos h]; exact this
  have cTp : ∀ k s, Pla l k → s.size ≤ 1000 → sdI l k s = false → BPan Tryz.prog 23 [.box 0 0, .val (.string s)] [rdB l k] wrongV := fun k s h1 h2 h => by
    have := cT k h1 s h2
    rw [if_neg (by rw [h]; decide)] at this
    exact this
  obtain ⟨R, hR⟩ : ∃ R, R = mixI l k := ⟨_, rfl⟩
  rw [← hR]
  unfold mixI at hR
  obtain ⟨sc, hsc⟩ : ∃ sc, sc = fun k => skI l k - k := ⟨_, rfl⟩
  have cS : ∀ k, Pla l k → BCall Tryz.prog 24 [.box 0 0] [rdB l k] (.val (.int .i64 (sc k))) [rdB l (skI l k)] := fun k h => by rw [hsc]; exact cS k h
  clear cM cT hsc
  obtain ⟨wq, wk, io, ik⟩ : (Int → ByteArray → Bool) × (Int → ByteArray → Int) × (Int → Bool) × (Int → Int) := ⟨fun _ _ => true, fun k _ => k, fun _ => true, fun k => k⟩
  unfold RdF rdB at *
  have hk0 := hk.sp
  refine fnE _ _ (csKR (runesA l) (skI l) sc (ncI l) ik (sdI l) (nxI l) wq wk (okN l) (wtB l) io io io ik ik ik) (fun _ => .nil) Tryz.func26 rfl fun _ _ => ?_
  with_reducible refine cv7 (runesA l) (skI l) (ncI l) (sdI l) (nxI l) (okN l) (wtB l) ?_
  refine ⟨cS k hk, ?_⟩
  generalize skI l k = k0 at *
  refine loopN (csKR (runesA l) (skI l) sc (ncI l) ik (sdI l) (nxI l) wq wk (okN l) (wtB l) io io io ik ik ik) (Int × Int × Nat) (fun x => ⟨[(0, .box 0 0), (2, .val (.int .i64 x.1))], [.box [.slc 1 (runesA l), .val (.int .i64 x.2.1)]]⟩) (fun x => (0 ≤ x.1 ∧ x.1 ≤ x.2.1) ∧ Pla l x.2.1 ∧ Fu l x.2.1 x.2.2 ∧ (lpM l x.2.2 x.1 x.2.1).bind (mxE l) = R) (fun x => x.2.2) (0, k0, l.length + 1) ?_ ?_ ?_
  · exact ⟨⟨Int.le_refl 0, hk0.1⟩, hk0, by show (l.length : Int) - k0 < ((l.length + 1 : Nat) : Int); have := hk0.1; omega, hR.symm⟩
  · refine ⟨[some 0], _, rfl, ?_⟩
    exact eq0
  · rintro ⟨nm, k3, f⟩ ⟨⟨h00, h01⟩, h1, h2, h3⟩
    have h00 : 0 ≤ nm := h00
    have h01 : nm ≤ k3 := h01
    have h1 : Pla l k3 := h1
    have h2 : Fu l k3 f := h2
    have h3 : (lpM l f nm k3).bind (mxE l) = R := h3
    cases f with
    | zero => exact absurd h2 (by unfold Fu Pla at *; omega)
    | succ f =>
      unfold lpM at h3
      have hn1 : (std.inR .i64 (std.add nm 1)).q := by
        show std.inR .i64 (nm + 1)
        unfold Pla at h1
        rw [inR64]; omega
      have hlt : sdI l k3 ⟨⟨[124]⟩⟩ = true → k3 + 1 = nxI l k3 ⟨⟨[124]⟩⟩ := fun h => by rw [nxI, if_pos h]; rfl
      simp only
      with_reducible refine cv7 (runesA l) (skI l) (ncI l) (sdI l) (nxI l) (okN l) (wtB l) ?_
      refine ⟨cN k3 h1 _ (by decide), fun hb => ?_, fun hb => ?_⟩
      · rw [if_pos hb] at h3
        refine ⟨cS _ h1.nx, fun hn => ⟨m1 _ h1.nx.sp hn, hn1, cS _ h1.nx.sp.nc, (nm + 1, skI l (ncI l (skI l (nxI l k3 ⟨⟨[124]⟩⟩))), f), ⟨⟨?_, ?_⟩, h1.nx.sp.nc.sp, ?_, ?_⟩, Nat.lt_succ_self f, [some 0], _, rfl, ?_⟩, fun hn => ⟨m0 _ h1.nx.sp hn, fun _ => .pan (by rw [if_neg (by rw [hn]; decide)] at h3; rw [← h3]; rfl)⟩⟩
        · show 0 ≤ nm + 1; omega
        · have a1 := sp_ge l (nxI l k3 ⟨⟨[124]⟩⟩)
          have a2 := nc_ge l (skI l (nxI l k3 ⟨⟨[124]⟩⟩))
          have a3 := sp_ge l (ncI l (skI l (nxI l k3 ⟨⟨[124]⟩⟩)))
          have := hlt hb
          show nm + 1 ≤ skI l (ncI l (skI l (nxI l k3 ⟨⟨[124]⟩⟩)))
          omega
        · have a1 := sp_ge l (nxI l k3 ⟨⟨[124]⟩⟩)
          have a2 := nc_ge l (skI l (nxI l k3 ⟨⟨[124]⟩⟩))
          have a3 := sp_ge l (ncI l (skI l (nxI l k3 ⟨⟨[124]⟩⟩)))
          have := hlt hb
          show (l.length : Int) - skI l (ncI l (skI l (nxI l k3 ⟨⟨[124]⟩⟩))) < (f : Int)
          unfold Fu at h2
          omega
        · rw [if_pos hn] at h3; exact h3
        · exact eq0
      · rw [if_neg (by rw [show sdI l k3 ⟨⟨[124]⟩⟩ = false from hb]; decide)] at h3
        have h3 : mxE l (nm, k3) = R := h3
        unfold mxE at h3
        simp only at h3
        rw [hno hb, if_pos trivial]
        with_reducible refine cv7 (runesA l) (skI l) (ncI l) (sdI l) (nxI l) (okN l) (wtB l) ?_
        refine ⟨fun hc => ⟨cTc _ _ h1 (by decide) hc, cN _ h1.nx _ (by decide), fun hs => ⟨must_t, .ok (by rw [← h3, if_pos hc, if_pos hs]; rfl) ?_⟩, fun hs => ⟨fun hz => ⟨must_c hz, ?_⟩, fun hz => ⟨must_p hz, fun _ => .pan ?_⟩⟩⟩, fun hc => ⟨cTp _ _ h1 (by decide) hc, fun _ => .pan (by rw [← h3, if_neg (by rw [show sdI l k3 ⟨⟨[41]⟩⟩ = false from hc]; decide)]; rfl)⟩⟩
        · refine ⟨[some 0], _, _, rfl, rfl, Nat.le_refl _, rfl, ?_, leA_refl rfl⟩
          exact eq0
        · have hz : nm = 0 := by have h : (nm == 0) = true := hz; simpa using h
          refine .ok (by rw [← h3, if_pos hc, if_neg (by rw [show sdI l (nxI l k3 ⟨⟨[41]⟩⟩) ⟨⟨[42]⟩⟩ = false from hs]; decide), if_pos hz]; rfl) ⟨[some 0], _, _, rfl, rfl, Nat.le_refl _, rfl, ?_, leA_refl rfl⟩
          have e := hno hs
          exact eq1 e
        · have hz : ¬ nm = 0 := by have h : (nm == 0) = false := hz; simpa using h
          rw [← h3, if_pos hc, if_neg (by rw [show sdI l (nxI l k3 ⟨⟨[41]⟩⟩) ⟨⟨[42]⟩⟩ = false from hs]; decide), if_neg hz]; rfl
def contI (l : List Int) (k : Int) : Option Int :=
  if std.eqS (wtB l k) ⟨⟨[69, 77, 80, 84, 89]⟩⟩ = true then some (ncI l k)
  else if std.eqS (wtB l k) ⟨⟨[65, 78, 89]⟩⟩ = true then some (ncI l k)
  else if sdI l k ⟨⟨[40]⟩⟩ = true then
    (if sdI l (skI l (nxI l k ⟨⟨[40]⟩⟩)) ⟨⟨[35]⟩⟩ = true ∧ std.eqS (wtB l (nxI l (skI l (nxI l k ⟨⟨[40]⟩⟩)) ⟨⟨[35]⟩⟩)) ⟨⟨[80, 67, 68, 65, 84, 65]⟩⟩ = true then mixI l (ncI l (nxI l (skI l (nxI l k ⟨⟨[40]⟩⟩)) ⟨⟨[35]⟩⟩))
    else grI l (itI l 63) (nxI l k ⟨⟨[40]⟩⟩))
  else none
theorem get_some {o : Option Int} (h : o.isSome = true) : o = some (o.getD 0) := by
  cases o with
  | none => cases h
  | some x => rfl
theorem get_none {o : Option Int} (h : o.isSome = false) : o = none := by
  cases o with
  | none => rfl
  | some x => cases h
theorem content_b (l : List Int) (hl : l.length ≤ 1000000) (k : Int) (hk : Pla l k) : RdF l 14 [.box 0 0] (.tup []) k (contI l k) := by
  have cS := space_b l hl
  have cN := next_b l hl
  have cT := take_b l hl
  have cW := word_b l hl
  have hno := @nx_no l
  have cTc : ∀ k s, Pla l k → s.size ≤ 1000 → sdI l k s = true → BCall Tryz.prog 23 [.box 0 0, .val (.string s)] [rdB l k] (.tup []) [rdB l (nxI l k s)] := fun k s h1 h2 h => by
    have := cT k h1 s h2
    rw [if_pos h] at this
    rw [nxI, if_pos h]; exact this
  have cTp : ∀ k s, Pla l k → s.size ≤ 1000 → sdI l k s = false → BPan Tryz.prog 23 [.box 0 0, .val (.string s)] [rdB l k] wrongV := fun k s h1 h2 h => by
    have := cT k h1 s h2
    rw [if_neg (by rw [h]; decide)] at this
    exact this
  obtain ⟨R, hR⟩ : ∃ R, R = contI l k := ⟨_, rfl⟩
  rw [← hR]
  unfold contI at hR
  obtain ⟨sc, hsc⟩ : ∃ sc, sc = fun k => skI l k - k := ⟨_, rfl⟩
  obtain ⟨wq, hwq⟩ : ∃ wq, wq = fun k s => std.eqS (wtB l k) s := ⟨_, rfl⟩
  obtain ⟨wk, hwk⟩ : ∃ wk, wk = fun k s => if std.eqS (wtB l k) s = true then ncI l k else k := ⟨_, rfl⟩
  obtain ⟨go, hgo⟩ : ∃ go, go = fun k => (grI l (itI l 63) k).isSome := ⟨_, rfl⟩
  obtain ⟨gk, hgk⟩ : ∃ gk, gk = fun k => (grI l (itI l 63) k).getD 0 := ⟨_, rfl⟩
  obtain ⟨mo, hmo⟩ : ∃ mo, mo = fun k => (mixI l k).isSome := ⟨_, rfl⟩
  obtain ⟨mk, hmk⟩ : ∃ mk, mk = fun k => (mixI l k).getD 0 := ⟨_, rfl⟩
  have cS : ∀ k, Pla l k → BCall Tryz.prog 24 [.box 0 0] [rdB l k] (.val (.int .i64 (sc k))) [rdB l (skI l k)] := fun k h => by rw [hsc]; exact cS k h
  have cW : ∀ k, Pla l k → ∀ s, BCall Tryz.prog 22 [.box 0 0, .val (.string s)] [rdB l k] (.val (.bool (wq k s))) [rdB l (wk k s)] := fun k h s => by rw [hwq, hwk]; exact cW k h s
  have cG := fun k hk => group_b l hl 1 (by decide) (itI l 63) (it_ok l 63) (item_b l hl 63 1 (by decide) (by decide)) k hk
  have cX := fun k hk => mixed_b l hl k hk
  have g1 : ∀ k, Pla l k → go k = true → BCall Tryz.prog 27 [.box 0 0, .val (.int .i64 1)] [rdB l k] (.tup []) [rdB l (gk k)] ∧ grI l (itI l 63) k = some (gk k) := fun k h h2 => by
    rw [hgo] at h2; rw [hgk]
    exact ⟨rd_some (cG k h) h2, get_some h2⟩
  have g0 : ∀ k, Pla l k → go k = false → BPan Tryz.prog 27 [.box 0 0, .val (.int .i64 1)] [rdB l k] wrongV ∧ grI l (itI l 63) k = none := fun k h h2 => by
    rw [hgo] at h2
    exact ⟨rd_none (cG k h) h2, get_none h2⟩
  have x1 : ∀ k, Pla l k → mo k = true → BCall Tryz.prog 26 [.box 0 0] [rdB l k] (.tup []) [rdB l (mk k)] ∧ mixI l k = some (mk k) := fun k h h2 => by
    rw [hmo] at h2; rw [hmk]
    exact ⟨rd_some (cX k h) h2, get_some h2⟩
  have x0 : ∀ k, Pla l k → mo k = false → BPan Tryz.prog 26 [.box 0 0] [rdB l k] wrongV ∧ mixI l k = none := fun k h h2 => by
    rw [hmo] at h2
    exact ⟨rd_none (cX k h) h2, get_none h2⟩
  have w1 : ∀ k s, wq k s = true → std.eqS (wtB l k) s = true ∧ wk k s = ncI l k := fun k s h => by
    rw [hwq] at h; rw [hwk]; exact ⟨h, if_pos h⟩
  have w0 : ∀ k s, wq k s = false → ¬ std.eqS (wtB l k) s = true ∧ wk k s = k := fun k s h => by
    rw [hwq] at h; rw [hwk]
    have h2 : ¬ std.eqS (wtB l k) s = true := by rw [show std.eqS (wtB l k) s = false from h]; decide
    exact ⟨h2, if_neg h2⟩
  clear cG cX cT hsc hwq hwk hgo hgk hmo hmk
  obtain ⟨io, ik, wt⟩ : (Int → Bool) × (Int → Int) × (Int → ByteArray) := ⟨fun _ => true, fun k => k, fun _ => ⟨⟨[]⟩⟩⟩
  unfold RdF rdB at *
  refine fnE _ _ (csKR (runesA l) (skI l) sc (ncI l) ik (sdI l) (nxI l) wq wk io wt io go mo ik gk mk) (fun _ => .nil) Tryz.func14 rfl fun _ _ => ?_
  with_reducible refine cv5 (runesA l) (skI l) (ncI l) (sdI l) (nxI l) ?_
  have cGr : sdI l k ⟨⟨[40]⟩⟩ = true → R = grI l (itI l 63) (nxI l k ⟨⟨[40]⟩⟩) → (go (nxI l k ⟨⟨[40]⟩⟩) = true → R = some (gk (nxI l k ⟨⟨[40]⟩⟩))) ∧ (go (nxI l k ⟨⟨[40]⟩⟩) = false → R = none) := fun _ e =>
    ⟨fun h => by rw [e]; exact (g1 _ hk.nx h).2, fun h => by rw [e]; exact (g0 _ hk.nx h).2⟩
  refine ⟨cW k hk _, fun h => ?_, fun h => ?_⟩
  · obtain ⟨a, b⟩ := w1 _ _ h
    rw [b]; rw [if_pos a] at hR
    refine .ok (by rw [hR]; rfl) ⟨[some 0], _, _, rfl, rfl, Nat.le_refl _, rfl, ?_, leA_refl rfl⟩
    exact eq0
  obtain ⟨a, b⟩ := w0 _ _ h
  rw [b]; rw [if_neg a] at hR
  refine ⟨cW k hk _, fun h2 => ?_, fun h2 => ?_⟩
  · obtain ⟨a, b⟩ := w1 _ _ h2
    rw [b]; rw [if_pos a] at hR
    refine .ok (by rw [hR]; rfl) ⟨[some 0], _, _, rfl, rfl, Nat.le_refl _, rfl, ?_, leA_refl rfl⟩
    exact eq0
  obtain ⟨a2, b2⟩ := w0 _ _ h2
  rw [b2]; rw [if_neg a2] at hR
  refine ⟨fun h3 => ⟨cTc _ _ hk (by decide) h3, cS _ hk.nx, cN _ hk.nx.sp _ (by decide), fun h4 => ⟨cW _ hk.nx.sp.nx _, fun h5 => ?_, fun h5 => ?_⟩, fun h4 => ?_⟩, fun h3 => ⟨cTp _ _ hk (by decide) h3, fun _ => .pan (by rw [hR, if_neg (by rw [show sdI l k ⟨⟨[40]⟩⟩ = false from h3]; decide)]; rfl)⟩⟩
  · obtain ⟨a5, b5⟩ := w1 _ _ h5
    rw [b5]; rw [if_pos h3, if_pos ⟨h4, a5⟩] at hR
    refine ⟨fun h6 => ⟨(x1 _ hk.nx.sp.nx.nc h6).1, .ok (by rw [hR, (x1 _ hk.nx.sp.nx.nc h6).2]; rfl) ⟨[some 0], _, _, rfl, rfl, Nat.le_refl _, rfl, ?_, leA_refl rfl⟩⟩, fun h6 => ⟨(x0 _ hk.nx.sp.nx.nc h6).1, fun _ => .pan (by rw [hR, (x0 _ hk.nx.sp.nx.nc h6).2]; rfl)⟩⟩
    exact eq0
  · obtain ⟨a5, b5⟩ := w0 _ _ h5
    rw [if_pos h3, if_neg (fun q => a5 q.2)] at hR
    obtain ⟨e1, e0⟩ := cGr h3 hR
    refine ⟨fun h6 => ⟨(g1 _ hk.nx h6).1, .ok (by rw [e1 h6]; rfl) ⟨[some 0], _, _, rfl, rfl, Nat.le_refl _, rfl, ?_, leA_refl rfl⟩⟩, fun h6 => ⟨(g0 _ hk.nx h6).1, fun _ => .pan (by rw [e0 h6]; rfl)⟩⟩
    exact eq0
  · rw [if_pos h3, if_neg (fun q => by rw [show sdI l (skI l (nxI l k ⟨⟨[40]⟩⟩)) ⟨⟨[35]⟩⟩ = false from h4] at q; exact absurd q.1 (by decide))] at hR
    obtain ⟨e1, e0⟩ := cGr h3 hR
    refine ⟨fun h6 => ⟨(g1 _ hk.nx h6).1, .ok (by rw [e1 h6]; rfl) ⟨[some 0], _, _, rfl, rfl, Nat.le_refl _, rfl, ?_, leA_refl rfl⟩⟩, fun h6 => ⟨(g0 _ hk.nx h6).1, fun _ => .pan (by rw [e0 h6]; rfl)⟩⟩
    exact eq0
end Go.Proofs.YtdmbfngenffcaaaGreat
namespace Go.Proofs.YtdmbfngenffcaaaGreat
open Go.RowKit Go.Lib
section
variable {P : Program} {W : World} {g : Gh} {cur : Array Value} {T : TypeId} {cs : List AV} {f : Nat}
theorem box_start (M : Mem W g []) (hc : ARelC W g [] cur.toList cs) : Mem (W.alloc (.cells cur T)) (g.new W []) [.box cs] ∧ ARelL (W.alloc (.cells cur T)) (g.new W []) [.box cs] [.pointer (some ⟨W.heap.size, 0, none⟩)] [.box 0 0] ∧ ∀ b, b < W.heap.size → (g.new W []).G b = none := by
  have hG : ∀ b, g.G b = none := fun b => by
    cases h : g.G b with
    | none => rfl
    | some id => exact absurd (M.own b id h).2 (by simp)
  refine ⟨M.new (.cells cur T) (.box cs) (fun c h => by cases h; exact ⟨_, _, rfl, hc⟩) (fun c h => by cases h) (fun s p h => by cases h) (fun et sz fz e xs h => by cases h), argL_cons ⟨by simp [Gh.new], trivial⟩ argL_nil, fun b hb => ?_⟩
  simp only [Gh.new]
  rw [if_neg (by omega)]; exact hG b
theorem box_below {w' : World} {g' : Gh} {ob' : List Ob} (hn : ∀ b, b < W.heap.size → (g.new W []).G b = none) (S : Step (W.alloc (.cells cur T)) (g.new W []) [.box cs] w' g' ob') : Below W.heap.size W w' := by
  have hsz : (W.alloc (.cells cur T)).heap.size = W.heap.size + 1 := by simp
  refine ⟨S.os, S.tape, S.output, ?_, fun b hb => ?_⟩
  · have := S.size; omega
  · rw [S.keep b (by omega) (hn b hb)]; exact heap_old hb
theorem BCall.atBox {res : AV} {cs' : List AV} (h : BCall P f [.box 0 0] [.box cs] res [.box cs']) (M : Mem W g []) (hc : ARelC W g [] cur.toList cs) :
    Calls P f #[.pointer (some ⟨W.heap.size, 0, none⟩)] (W.alloc (.cells cur T)) fun e w' => ∃ v g' cur' T', e = .returned v ∧ Below W.heap.size W w' ∧ w'.heap[W.heap.size]? = some (.cells cur' T' (0, 0)) ∧ ARelC w' g' [.box cs'] cur'.toList cs' ∧ ARel w' g' [.box cs'] v res ∧ Mem w' g' [.box cs'] := by
  obtain ⟨M2, hL, hn⟩ := box_start (T := T) M hc
  refine (h.2 _ _ _ M2 hL).mono fun e w' ⟨v, g', k1, k2, k3, k4⟩ => ?_
  obtain ⟨_, cur', T', h1, h2⟩ := k2.box 0 cs' rfl
  have hl : g'.loc 0 = W.heap.size := by
    rw [k4.ext.loc 0 (by simp)]; simp [Gh.new]
  rw [hl] at h1
  exact ⟨v, g', cur', T', k1, box_below hn k4, h1, h2, k3, k2⟩
theorem BPan.atBox {x : Value} (h : BPan P f [.box 0 0] [.box cs] x) (M : Mem W g []) (hc : ARelC W g [] cur.toList cs) :
    Calls P f #[.pointer (some ⟨W.heap.size, 0, none⟩)] (W.alloc (.cells cur T)) fun e w' => e = .panicked [{ v := x, recovered := false }] ∧ Below W.heap.size W w' := by
  obtain ⟨M2, hL, hn⟩ := box_start (T := T) M hc
  exact (h.2 _ _ _ M2 hL).mono fun e w' ⟨g', ob', k1, _, k4⟩ => ⟨k1, box_below hn k4⟩
end
set_option maxRecDepth 100000 in
set_option maxHeartbeats 2000000 in
theorem caught_idle (p : Addr) (w : World) :
    CallsD Tryz.prog 13 #[.pointer (some p)] .returning w fun e u' w' => e = .returned (.tuple #[]) ∧ u' = .returning ∧ w' = w := by
  refine callsD_of_wpS Tryz.func13 rfl fun c₀ cs hu => ?_
  apply wpS_seq
  apply wpS_region
  simp [wpOpsS, go_sem, recoverD, hu, Tryz.ntmps13, Exit.thenS]
  refine wpS_of_wp ?_
  rw [show (#[Value.pointer (some p)] ++ ((Array.replicate 17 undef).setIfInBounds 4 Value.nilIface).setIfInBounds 1 Value.nilIface) = #[.pointer (some p), undef, .nilIface, undef, undef, .nilIface, undef, undef, undef, undef, undef, undef, undef, undef, undef, undef, undef, undef] from rfl]
  go_wp2
  cases c₀
  simp_all [bodyPostS, results, Tryz.results13]
set_option maxRecDepth 100000 in
set_option maxHeartbeats 2000000 in
theorem caught_pan (p : Addr) (w : World) (b : Bool) (hc : w.cell? p = some (.bool b)) (hz : w.frozen? p = false) :
    CallsD Tryz.prog 13 #[.pointer (some p)] (.panicking [{ v := wrongV, recovered := false }]) w fun e u' w' => e = .returned (.tuple #[]) ∧ u' = .panicking [{ v := wrongV, recovered := true }] ∧ ∃ w1, Below w.heap.size w w1 ∧ w' = w1.setCell p (.bool false) := by
  have hlt := World.block_lt_of_cell? _ _ hc
  have hc2 : ∀ o, (w.alloc o).cell? p = some (.bool b) := fun o => by rw [World.cell?_alloc_old _ _ _ (Nat.ne_of_lt hlt)]; exact hc
  have hz2 : ∀ o, (w.alloc o).frozen? p = false := fun o => by rw [← hz]; exact Below.frozen ((Below.refl w.heap.size w).alloc (Nat.le_refl _) o) hlt
  have hta : ∀ w, (Instr.typeAssert (.iface 51 (.agg #[])) 20 51 true).run Tryz.prog w = .ok (.tuple #[.agg #[], .bool true]) w := fun w => by kernel_rfl
  refine callsD_of_wpS Tryz.func13 rfl fun c₀ cs hu => ?_
  apply wpS_seq
  apply wpS_region
  simp [wpOpsS, go_sem, recoverD, hu, Tryz.ntmps13, Exit.thenS, wrongV]
  refine wpS_of_wp ?_
  rw [show (#[Value.pointer (some p)] ++ ((Array.replicate 17 undef).setIfInBounds 4 (Value.iface 51 (Value.agg #[]))).setIfInBounds 1 (Value.iface 51 (Value.agg #[]))) = #[.pointer (some p), undef, (.iface 51 (.agg #[])), undef, undef, (.iface 51 (.agg #[])), undef, undef, undef, undef, undef, undef, undef, undef, undef, undef, undef, undef] from rfl]
  go_wp2
  cases c₀
  simp_all [bodyPostS, results, Tryz.results13]
  exact ⟨_, (Below.refl w.heap.size w).alloc (Nat.le_refl _) _, rfl⟩
end Go.Proofs.YtdmbfngenffcaaaGreat
namespace Go.Proofs.YtdmbfngenffcaaaGreat
open Go.RowKit Go.Lib
set_option maxRecDepth 100000 in
set_option maxHeartbeats 2000000 in
theorem Content_b (l : List Int) (hl : l.length ≤ 1000000) : BCall Tryz.prog 10 [.slc 1 (runesA l)] [] (.val (.bool (decide (contI l 0 = some (l.length : Int))))) [] := by
  refine BCall.hand (enters_of Tryz.func10 (by kernel_rfl) rfl) fun w g vs M hL => ?_
  obtain ⟨v1, vs1, rfl, h1, hL⟩ := argsCons hL
  obtain rfl := argsNil hL
  obtain ⟨A, c, rfl, hr⟩ := runes_rd h1 M
  have hC := content_b l hl 0 ⟨Int.le_refl 0, by omega⟩
  have hb : Below w.heap.size w (w.alloc (Obj.cells #[Value.bool true] 4)) := (Below.refl w.heap.size w).alloc (Nat.le_refl _) _
  have M1 := M.below hb
  have hc0 : ARelC (w.alloc (Obj.cells #[Value.bool true] 4)) g [] #[Value.slice A l.length c, Value.int IntKind.i64 0].toList [.slc 1 (runesA l), .val (.int .i64 0)] := by
    refine ⟨rfl, fun j v x hv hx => ?_⟩
    match j, hv, hx with
    | 0, hv, hx => cases hv; cases hx; exact ⟨ARel0.ext (Ext.below M hb) h1, rfl⟩
    | 1, hv, hx => cases hv; cases hx; exact ⟨PRel.val _ rfl, rfl⟩
    | j + 2, hv, hx => simp at hv
  have hsz : (w.alloc (Obj.cells #[Value.bool true] 4)).heap.size = w.heap.size + 1 := by simp
  have hlt : w.heap.size < (w.alloc (Obj.cells #[Value.bool true] 4)).heap.size := by rw [hsz]; omega
  have hok : ∀ w', Below (w.heap.size + 1) (w.alloc (Obj.cells #[Value.bool true] 4)) w' → w'.heap[w.heap.size]? = some (Obj.cells #[Value.bool true] 4 (0, 0)) := fun w' h => by
    rw [h.block w.heap.size (by omega)]; exact heap_new _ _
  have hok2 : ∀ w', Below (w.heap.size + 1) (w.alloc (Obj.cells #[Value.bool true] 4)) w' → w'.cell? ⟨w.heap.size, 0, none⟩ = some (.bool true) ∧ w'.frozen? ⟨w.heap.size, 0, none⟩ = false := fun w' h => by
    have := hok w' h
    exact ⟨by simp [World.cell?, this], by simp [World.frozen?, this]⟩
  cases hR : contI l 0 with
  | some k =>
    have cC := (hC.call (by rw [hR]; rfl)).atBox (T := 42) M1 hc0
    rw [hsz] at cC
    go_enter_defers Tryz.func10, Tryz.ntmps10
    go_wp2_with (go_at_call 14; refine cC.mono ?_)
    rintro e w' v rfl hbe g' cur T hcur hcells _ _
    obtain ⟨hk1, hk2⟩ := hok2 w' hbe
    obtain ⟨y0, y1, hy⟩ : ∃ y0 y1, cur.toList = [y0, y1] := by
      have := hcells.1
      match cur.toList, this with
      | [y0, y1], _ => exact ⟨y0, y1, rfl⟩
    rw [hy] at hcells
    have h11 := (hcells.2 1 y1 _ rfl rfl).1
    obtain rfl : y1 = .int .i64 k := ARel.valEq (g := g') (w := w') (ob := [.box [.slc 1 (runesA l), .val (.int .i64 k)]]) h11
    have hcell : w'.cell? ⟨w.heap.size + 1, 1, none⟩ = some (.int .i64 k) := by
      have : cur[1]? = some (.int .i64 k) := by rw [← Array.getElem?_toList, hy]; rfl
      simp [World.cell?, hcur, this]
    go_wp2
    refine leaves_cons (f := 13) (args := #[.pointer (some ⟨w.heap.size, 0, none⟩)]) (by simp) (by simp [go_sem]) ?_
    refine (caught_idle ⟨w.heap.size, 0, none⟩ _).mono ?_
    rintro e u' w'' ⟨rfl, rfl, rfl⟩
    have hcs : (w'.setCell ⟨w.heap.size, 0, none⟩ (.bool (k == (l.length : Int)))).cell? ⟨w.heap.size, 0, none⟩ = some (.bool (k == (l.length : Int))) := World.cell?_setCell_same _ _ _ hk1
    simp [Leaves, settle, results, Tryz.results10, go_sem]
    rw [hcs]
    refine ⟨_, rfl, (hb.trans (hbe.mono (by omega))).setCell (p := ⟨w.heap.size, 0, none⟩) (Nat.le_refl _) _, ?_⟩
    rw [show decide (k = (l.length : Int)) = (k == (l.length : Int)) by rw [Bool.eq_iff_iff]; simp]
    exact PRel.val _ rfl
  | none =>
    have cC := (hC.pan (by rw [hR]; rfl)).atBox (T := 42) M1 hc0
    rw [hsz] at cC
    go_enter_defers Tryz.func10, Tryz.ntmps10
    go_wp2_with (go_at_call 14; refine cC.mono ?_)
    rintro e w' rfl hbe
    obtain ⟨hk1, hk2⟩ := hok2 w' hbe
    go_wp2
    refine leaves_cons (f := 13) (args := #[.pointer (some ⟨w.heap.size, 0, none⟩)]) (by simp) (by simp [go_sem]) ?_
    refine (caught_pan ⟨w.heap.size, 0, none⟩ w' true hk1 hk2).mono ?_
    rintro e u' w'' ⟨rfl, rfl, w1, hb1, rfl⟩
    simp [Leaves, settle, results, Tryz.results10, go_sem]
    have hw1 : w1.cell? ⟨w.heap.size, 0, none⟩ = some (.bool true) := by
      rw [hb1.cell (World.block_lt_of_cell? _ _ hk1)]; exact hk1
    have hcs : (w1.setCell ⟨w.heap.size, 0, none⟩ (.bool false)).cell? ⟨w.heap.size, 0, none⟩ = some (.bool false) := World.cell?_setCell_same _ _ _ hw1
    rw [hcs]
    have hs := hbe.size
    refine ⟨_, rfl, (hb.trans ((hbe.mono (by omega)).trans (hb1.mono (by omega)))).setCell (p := ⟨w.heap.size, 0, none⟩) (Nat.le_refl _) _, ?_⟩
    exact PRel.val _ rfl
end Go.Proofs.YtdmbfngenffcaaaGreat
namespace Go.Proofs.YtdmbfngenffcaaaGreat
open Go.RowKit Go.Lib
theorem bel_row {B k : Nat} {w0 w : World} (hb : Below B w0 w) (h : B ≤ k) (cs : Array Value) : Below B w0 (w.setRow k cs) :=
  hb.trans ⟨rfl, rfl, rfl, by simp [World.setRow], fun j hj => setRow_other w k j cs (by omega)⟩
theorem BCall.atBox2 {P : Program} {W : World} {g : Gh} {cur : Array Value} {T : TypeId} {cs : List AV} {f : Nat} {res : AV} {cs' : List AV} (h : BCall P f [.box 0 0] [.box cs] res [.box cs']) (M : Mem W g []) (hc : ARelC W g [] cur.toList cs) :
    Calls P f #[.pointer (some ⟨W.heap.size, 0, none⟩)] (W.alloc (.cells cur T)) fun e w' => ∃ v g', e = .returned v ∧ Below W.heap.size W w' ∧ ARel w' g' [.box cs'] v res ∧ ∀ b o, g'.A b o → (g.A b o ∧ b < W.heap.size) ∨ (W.heap.size ≤ b ∧ b < w'.heap.size) := by
  obtain ⟨M2, hL, hn⟩ := box_start (T := T) M hc
  refine (h.2 _ _ _ M2 hL).mono fun e w' ⟨v, g', k1, k2, k3, k4⟩ => ⟨v, g', k1, box_below hn k4, k3, fun b o h => ?_⟩
  have hlt := (k2.imm b o h).1
  rcases k4.imm b o h with h1 | ⟨id, h1⟩ | h1
  · by_cases hb : b < W.heap.size
    · exact .inl ⟨h1, hb⟩
    · exact .inr ⟨by omega, hlt⟩
  · by_cases hb : b < W.heap.size
    · rw [hn b hb] at h1; cases h1
    · exact .inr ⟨by omega, hlt⟩
  · have : (W.alloc (.cells cur T)).heap.size = W.heap.size + 1 := by simp
    exact .inr ⟨by omega, hlt⟩
set_option maxRecDepth 100000 in
set_option maxHeartbeats 2000000 in
theorem readE_b : BCall Tryz.prog 11 [.slc 1 (runesA exE)] [] (.tup [exR, .val (.bool true)]) [] := by
  refine BCall.hand (enters_of Tryz.func11 (by kernel_rfl) rfl) fun w g vs M hL => ?_
  obtain ⟨v1, vs1, rfl, h1, hL⟩ := argsCons hL
  obtain rfl := argsNil hL
  obtain ⟨A, c, rfl, hr⟩ := runes_rd h1 M
  obtain ⟨Z, hZ⟩ : ∃ Z, Z = #[Value.int IntKind.i64 0, Value.string ⟨#[]⟩, Value.slice none 0 0, Value.bool false, Value.string ⟨#[]⟩, Value.string ⟨#[]⟩, Value.string ⟨#[]⟩, Value.string ⟨#[]⟩, Value.slice none 0 0] := ⟨_, rfl⟩
  obtain ⟨W0, hW0⟩ : ∃ W0, W0 = (w.alloc (Obj.cells Z 28)).alloc (Obj.cells #[Value.bool true] 4) := ⟨_, rfl⟩
  have hb : Below w.heap.size w W0 := by
    rw [hW0]; exact ((Below.refl w.heap.size w).alloc (Nat.le_refl _) _).alloc (by simp) _
  have hsz : W0.heap.size = w.heap.size + 1 + 1 := by rw [hW0]; simp
  have M1 := M.below hb
  have hc0 : ARelC W0 g [] #[Value.slice A exE.length c, Value.int IntKind.i64 0].toList [.slc 1 (runesA exE), .val (.int .i64 0)] := by
    refine ⟨rfl, fun j v x hv hx => ?_⟩
    match j, hv, hx with
    | 0, hv, hx => cases hv; cases hx; exact ⟨ARel0.ext (Ext.below M hb) h1, rfl⟩
    | 1, hv, hx => cases hv; cases hx; exact ⟨PRel.val _ rfl, rfl⟩
    | j + 2, hv, hx => simp at hv
  have cC := declE_b.atBox2 (T := 42) M1 hc0
  rw [hsz] at cC
  go_enter_defers Tryz.func11, Tryz.ntmps11
  go_wp2_with (go_at_call 15; rw [← hZ, ← hW0]; refine cC.mono ?_)
  rintro e w' v rfl hbe g' hv hA
  rw [← hZ, ← hW0] at hbe
  obtain ⟨vs, rfl, hvs⟩ := (show ARel1 w' g' _ v (.agg _) from hv)
  have hz0 : w'.heap[w.heap.size]? = some (Obj.cells Z 28 (0, 0)) := by
    rw [hbe.block w.heap.size (by omega), hW0, heap_old (by simp)]; exact heap_new _ _
  have hz1 : w'.heap[w.heap.size + 1]? = some (Obj.cells #[Value.bool true] 4 (0, 0)) := by
    rw [hbe.block (w.heap.size + 1) (by omega), hW0]
    have := heap_new (w.alloc (Obj.cells Z 28)) (Obj.cells #[Value.bool true] 4)
    simpa using this
  have hk1 : w'.cell? ⟨w.heap.size + 1, 0, none⟩ = some (.bool true) := by simp [World.cell?, hz1]
  have hk2 : w'.frozen? ⟨w.heap.size + 1, 0, none⟩ = false := by simp [World.frozen?, hz1]
  have hvl : vs.size = 9 := by have := hvs.1; simpa using this
  have hv1 : ∀ v ∈ vs.toList, v.oneCell' = true := fun v hv => by
    obtain ⟨j, hj, rfl⟩ := List.mem_iff_getElem.1 hv
    exact (hvs.2 j _ _ (List.getElem?_eq_getElem hj) (List.getElem?_eq_getElem (by rw [← hvs.1]; exact hj))).2
  have hst : Sem.run Tryz.prog (storeCells ⟨w.heap.size, 0, none⟩ vs.toList) w' = .ok () (w'.setRow w.heap.size vs) := by
    have := run_storeCells_from (P := Tryz.prog) w.heap.size 28 vs.toList 0 Z w' hz0 (by rw [hZ]; simp [hvl]) hv1
    simpa using this
  have hr0 : (w'.setRow w.heap.size vs).heap[w.heap.size]? = some (Obj.cells vs 28 (0, 0)) := setRow_heap _ _ _ _ _ _ hz0
  have hr1 : (w'.setRow w.heap.size vs).heap[w.heap.size + 1]? = some (Obj.cells #[Value.bool true] 4 (0, 0)) := by
    rw [setRow_other _ _ _ _ (by omega)]; exact hz1
  have hk1 : (w'.setRow w.heap.size vs).cell? ⟨w.heap.size + 1, 0, none⟩ = some (.bool true) := by simp [World.cell?, hr1]
  have hk2 : (w'.setRow w.heap.size vs).frozen? ⟨w.heap.size + 1, 0, none⟩ = false := by simp [World.frozen?, hr1]
  go_wp2
  have eW : (w'.setRow w.heap.size vs).setCell ⟨w.heap.size + 1, 0, none⟩ (Value.bool true) = (w'.setRow w.heap.size vs).setRow (w.heap.size + 1) #[Value.bool true] :=
    setCell_eq_setRow _ _ _ _ _ _ _ hr1
  rw [eW]
  have hs0 : ((w'.setRow w.heap.size vs).setRow (w.heap.size + 1) #[Value.bool true]).heap[w.heap.size]? = some (Obj.cells vs 28 (0, 0)) := by
    rw [setRow_other _ _ _ _ (by omega)]; exact hr0
  have hs1 : ((w'.setRow w.heap.size vs).setRow (w.heap.size + 1) #[Value.bool true]).heap[w.heap.size + 1]? = some (Obj.cells #[Value.bool true] 4 (0, 0)) := setRow_heap _ _ _ _ _ _ hr1
  have hbW : Below w.heap.size w ((w'.setRow w.heap.size vs).setRow (w.heap.size + 1) #[Value.bool true]) :=
    bel_row (bel_row (hb.trans (hbe.mono (by omega))) (Nat.le_refl _) _) (by omega) _
  have hsW : ((w'.setRow w.heap.size vs).setRow (w.heap.size + 1) #[Value.bool true]).heap.size = w'.heap.size := by simp
  have hkeep : ∀ b o, g'.A b o → (g.imm w ((w'.setRow w.heap.size vs).setRow (w.heap.size + 1) #[Value.bool true])).A b o ∧ ((w'.setRow w.heap.size vs).setRow (w.heap.size + 1) #[Value.bool true]).cell? ⟨b, o, none⟩ = w'.cell? ⟨b, o, none⟩ := fun b o h => by
    have hne : b ≠ w.heap.size ∧ b ≠ w.heap.size + 1 ∧ (g.A b o ∨ (w.heap.size ≤ b ∧ b < w'.heap.size)) := by
      rcases hA b o h with ⟨h1, _⟩ | ⟨h1, h2⟩
      · have := (M.imm b o h1).1
        exact ⟨by omega, by omega, .inl h1⟩
      · exact ⟨by omega, by omega, .inr ⟨by omega, h2⟩⟩
    refine ⟨by show g.A b o ∨ _; rw [hsW]; exact hne.2.2, ?_⟩
    rw [cell_setRow_other _ _ _ _ hne.2.1, cell_setRow_other _ _ _ _ hne.1]
  generalize (w'.setRow w.heap.size vs).setRow (w.heap.size + 1) #[Value.bool true] = W2 at *
  refine leaves_cons (f := 13) (args := #[.pointer (some ⟨w.heap.size + 1, 0, none⟩)]) (by simp) (by simp [go_sem]) ?_
  refine (caught_idle ⟨w.heap.size + 1, 0, none⟩ _).mono ?_
  rintro e u' w'' ⟨rfl, rfl, rfl⟩
  have hc1 : w''.cell? ⟨w.heap.size + 1, 0, none⟩ = some (.bool true) := by simp [World.cell?, hs1]
  have hl0 : Sem.run Tryz.prog (loadVar 28 ⟨w.heap.size, 0, none⟩) w'' = .ok (.agg vs) w'' :=
    run_loadVar_row (P := Tryz.prog) w'' w.heap.size _ 28 vs (0, 0) _ hs0 rfl rfl (by rw [hvl]; rfl)
  have hl1 : Sem.run Tryz.prog (loadVar 4 ⟨w.heap.size + 1, 0, none⟩) w'' = .ok (.bool true) w'' := by
    simp [go_sem, hc1]
  have ha : ∀ q : Addr, Sem.run Tryz.prog (asAddr (Value.pointer (some q))) w'' = .ok q w'' := fun _ => rfl
  simp [Leaves, settle, results, Tryz.results11, hl0, hl1, ha]
  refine ⟨hbW, ⟨#[.agg vs, .bool true], rfl, rfl, fun j y u hy hu => ?_⟩⟩
  match j, hy, hu with
  | 0, hy, hu =>
    cases hy; cases hu
    refine ⟨vs, rfl, hvs.1, fun j y u e1 e2 => ?_⟩
    match j, e1, e2 with
    | 0, e1, e2 => cases e2; exact ⟨PRel.keep hkeep (hvs.2 0 y _ e1 rfl).1, (hvs.2 0 y _ e1 rfl).2⟩
    | 1, e1, e2 => cases e2; exact ⟨PRel.keep hkeep (hvs.2 1 y _ e1 rfl).1, (hvs.2 1 y _ e1 rfl).2⟩
    | 2, e1, e2 => cases e2; exact ⟨PRel.keep hkeep (hvs.2 2 y _ e1 rfl).1, (hvs.2 2 y _ e1 rfl).2⟩
    | 3, e1, e2 => cases e2; exact ⟨PRel.keep hkeep (hvs.2 3 y _ e1 rfl).1, (hvs.2 3 y _ e1 rfl).2⟩
    | 4, e1, e2 => cases e2; exact ⟨PRel.keep hkeep (hvs.2 4 y _ e1 rfl).1, (hvs.2 4 y _ e1 rfl).2⟩
    | 5, e1, e2 => cases e2; exact ⟨PRel.keep hkeep (hvs.2 5 y _ e1 rfl).1, (hvs.2 5 y _ e1 rfl).2⟩
    | 6, e1, e2 => cases e2; exact ⟨PRel.keep hkeep (hvs.2 6 y _ e1 rfl).1, (hvs.2 6 y _ e1 rfl).2⟩
    | 7, e1, e2 => cases e2; exact ⟨PRel.keep hkeep (hvs.2 7 y _ e1 rfl).1, (hvs.2 7 y _ e1 rfl).2⟩
    | 8, e1, e2 => cases e2; exact ⟨PRel.keep hkeep (hvs.2 8 y _ e1 rfl).1, (hvs.2 8 y _ e1 rfl).2⟩
    | j + 9, e1, e2 => simp at e2
  | 1, hy, hu => cases hy; cases hu; exact PRel.val _ rfl
  | j + 2, hy, hu => simp at hy
end Go.Proofs.YtdmbfngenffcaaaGreat
namespace Go.Proofs.YtdmbfngenffcaaaGreat
open Go.RowKit Go.Lib
theorem runes_enc {l : List Int} (h : ∀ x ∈ l, 0 < widthF x) : runesF (bytesF l) = l := by
  have h1 := congrArg (List.map Itm.r) (items_of l 0 h)
  rw [ofI_r, List.map_map] at h1
  exact h1
theorem run_len (l : List Int) (k : Int) : ((runesF (wtB l k).data.toList).length : Int) = (tkW isNameChar l k).length := by
  rw [show (wtB l k).data.toList = bytesF (tkW isNameChar l k) from by simp [wtB, txF], runes_enc fun x hx => char_wide (by
    have := List.all_takeWhile (p := isNameChar) (l := l.drop k.toNat)
    exact List.all_eq_true.1 this x hx)]
theorem nameF_nil : nameF [] = false := by decide
def rfB (l : List Int) (k : Int) (b : Bool) : Ob := .box [.slc 1 (runesA l), .val (.int .i64 k), .val (.bool b)]
def csG (L : List AV) (rs : Bool → Int → ByteArray → Bool) (mk : Bool → Int → ByteArray → Int) (mb : Bool → Int → ByteArray → Bool) (sp : Bool → Int → Int) (sc : Bool → Int → Int) (wt : Int → ByteArray) (wk : Bool → Int → Int → Int) (wb : Bool → Int → Int → Bool) (wr : Bool → Int → Int → ByteArray) (oft : Bool → Int → Int) (ik gk : Bool → Int → Int) (ib gb : Bool → Int → Bool) : Nat → List AV → List Ob → Option (AV × List Ob) := fun g args ob => match g, args, ob with
  | 20, [.box 0 0, .val (.string s)], [.box [_, .val (.int .i64 k), .val (.bool b)]] => some (.val (.bool (rs b k s)), [.box [.slc 1 L, .val (.int .i64 k), .val (.bool b)]])
  | 18, [.box 0 0, .val (.string s)], [.box [_, .val (.int .i64 k), .val (.bool b)]] => some (.tup [], [.box [.slc 1 L, .val (.int .i64 (mk b k s)), .val (.bool (mb b k s))]])
  | 19, [.box 0 0], [.box [_, .val (.int .i64 k), .val (.bool b)]] => some (.val (.int .i64 (sc b k)), [.box [.slc 1 L, .val (.int .i64 (sp b k)), .val (.bool b)]])
  | 16, [.box 0 0], [.box [_, .val (.int .i64 k), .val (.bool b)]] => some (.val (.string (wt k)), [.box [.slc 1 L, .val (.int .i64 k), .val (.bool b)]])
  | 17, [.box 0 0, .val (.int .i64 n)], [.box [_, .val (.int .i64 k), .val (.bool b)]] => some (.val (.string (wr b k n)), [.box [.slc 1 L, .val (.int .i64 (wk b k n)), .val (.bool (wb b k n))]])
  | 43, [.box 0 0], [.box [_, .val (.int .i64 k), .val (.bool b)]] => some (.tup [], [.box [.slc 1 L, .val (.int .i64 (oft b k)), .val (.bool b)]])
  | 42, [.box 0 0, .val (.int .i64 _)], [.box [_, .val (.int .i64 k), .val (.bool b)]] => some (.tup [], [.box [.slc 1 L, .val (.int .i64 (ik b k)), .val (.bool (ib b k))]])
  | 21, [.box 0 0, .val (.int .i64 _)], [.box [_, .val (.int .i64 k), .val (.bool b)]] => some (.tup [], [.box [.slc 1 L, .val (.int .i64 (gk b k)), .val (.bool (gb b k))]])
  | _, _, _ => none
def csOne (f : Nat) (r : AV) (o : List Ob) : Nat → List AV → List Ob → Option (AV × List Ob) := fun g _ _ => if g = f then some (r, o) else none
def rsG (l : List Int) (b : Bool) (k : Int) (s : ByteArray) : Bool := !b && sdI l k s
theorem is_b (l : List Int) (hl : l.length ≤ 1000000) (hi : I32 l) (b : Bool) (k : Int) (hk : Pla l k) (s : ByteArray) (hs : s.size ≤ 1000) :
    BCall Tryz.prog 20 [.box 0 0, .val (.string s)] [rfB l k b] (.val (.bool (rsG l b k s))) [rfB l k b] := by
  have c : BCall Tryz.prog 41 [.slc 1 (runesA l), .val (.int .i64 k), .val (.string s)] [] (.val (.bool (sdI l k s))) [] := RefStarts_b l (by omega) hi k hk.1 hk.2 s (by omega)
  unfold rsG
  generalize sdI l k s = q at *
  unfold rfB
  refine fnN (csOne 41 (.val (.bool q)) []) Tryz.func20 rfl fun _ _ => ?_
  with_reducible refine cv1 (runesA l) ?_
  refine ⟨fun h => ⟨c, ?_⟩, fun h => ?_⟩
  · have hb : b = false := by have h : (!b) = true := h; simpa using h
    refine ⟨[some 0], .val (.bool q), _, rfl, rfl, Nat.le_refl _, rfl, ?_, ?_⟩
    · exact eq0
    · rw [hb]; exact leA_refl rfl
  · have hb : b = true := by have h : (!b) = false := h; simpa using h
    refine ⟨[some 0], .val (.bool false), _, rfl, rfl, Nat.le_refl _, rfl, ?_, ?_⟩
    · exact eq0
    · rw [hb]; exact leA_refl rfl
def mkG (l : List Int) (b : Bool) (k : Int) (s : ByteArray) : Int := if rsG l b k s = true then nxI l k s else k
def mbG (l : List Int) (b : Bool) (k : Int) (s : ByteArray) : Bool := !rsG l b k s
theorem rmust_b (l : List Int) (hl : l.length ≤ 1000000) (hi : I32 l) (b : Bool) (k : Int) (hk : Pla l k) (s : ByteArray) (hs : s.size ≤ 1000) :
    BCall Tryz.prog 18 [.box 0 0, .val (.string s)] [rfB l k b] (.tup []) [rfB l (mkG l b k s) (mbG l b k s)] := by
  have c := is_b l hl hi b k hk s hs
  have hn : rsG l b k s = true → b = false ∧ sdI l k s = true := fun h => by
    unfold rsG at h
    rw [Bool.and_eq_true] at h
    exact ⟨by simpa using h.1, h.2⟩
  unfold mkG mbG
  have hx := hk.nx (s := s)
  have hx2 : rsG l b k s = true → nxI l k s = k + s.size := fun h => by rw [nxI, if_pos (hn h).2]
  generalize nxI l k s = k2 at *
  generalize rsG l b k s = q at *
  unfold rfB at *
  refine fnN (csOne 20 (.val (.bool q)) [.box [.slc 1 (runesA l), .val (.int .i64 k), .val (.bool b)]]) Tryz.func18 rfl fun _ _ => ?_
  with_reducible refine cv1 (runesA l) ?_
  refine ⟨c, fun h => ?_, fun h => ⟨?_, ?_⟩⟩
  · have h : q = false := by have h : (!q) = true := h; simpa using h
    rw [h]
    refine ⟨[some 0], _, _, rfl, rfl, Nat.le_refl _, rfl, ?_, leA_refl rfl⟩
    exact eq0
  · have h : q = true := by have h : (!q) = false := h; simpa using h
    show std.inR .i64 (k + s.size)
    have := hx2 h
    unfold Pla at hx hk
    rw [inR64]; omega
  · have h : q = true := by have h : (!q) = false := h; simpa using h
    have e := hx2 h
    rw [h, if_pos rfl, e, (hn h).1]
    refine ⟨[some 0], _, _, rfl, rfl, Nat.le_refl _, rfl, ?_, leA_refl rfl⟩
    exact eq0
end Go.Proofs.YtdmbfngenffcaaaGreat
namespace Go.Proofs.YtdmbfngenffcaaaGreat
open Go.RowKit Go.Lib
theorem tk_hit {p : Int → Bool} {l : List Int} {k : Int} (h0 : 0 ≤ k) (h : k.toNat < l.length) (hp : p l[k.toNat] = true) : tkW p l k = l[k.toNat] :: tkW p l (k + 1) := by
  unfold tkW
  rw [List.drop_eq_getElem_cons h, List.takeWhile_cons, if_pos hp, show (k + 1).toNat = k.toNat + 1 by omega]
theorem tk_miss {p : Int → Bool} {l : List Int} {k : Int} (h : k.toNat < l.length) (hp : p l[k.toNat] = false) : tkW p l k = [] := by
  unfold tkW
  rw [List.drop_eq_getElem_cons h, List.takeWhile_cons, if_neg (by rw [hp]; decide)]
theorem tk_end {p : Int → Bool} {l : List Int} {k : Int} (h : l.length ≤ k.toNat) : tkW p l k = [] := by
  unfold tkW
  rw [List.drop_eq_nil_of_le h]; rfl
def spG (l : List Int) (b : Bool) (k : Int) : Int := if b = true then k else skI l k
def csSp (q : Int → Bool) : Nat → List AV → List Ob → Option (AV × List Ob) := fun g args _ => match g, args with
  | 40, [.val (.int .i32 r)] => some (.val (.bool (q r)), [])
  | 35, [.val (.int .i32 r)] => some (.val (.bool (q r)), [])
  | _, _ => none
theorem at_rune {l : List Int} {k : Int} (h : k.toNat < l.length) : std.at_ (runesA l) k = .val (.int .i32 l[k.toNat]) := by
  show (runesA l).getD k.toNat .dead = _
  rw [List.getD_eq_getElem?_getD, runesA, List.getElem?_map, List.getElem?_eq_getElem h]; rfl
set_option maxRecDepth 20000 in
theorem spaces_b (l : List Int) (hl : l.length ≤ 1000000) (b : Bool) (k : Int) (hk : Pla l k) :
    BCall Tryz.prog 19 [.box 0 0] [rfB l k b] (.val (.int .i64 (spG l b k - k))) [rfB l (spG l b k) b] := by
  have c := RefSpace_b
  obtain ⟨n, hn⟩ := exLen l
  have hll : std.len (runesA l) = n := by show ((runesA l).length : Int) = n; rw [runes_len, hn.eq]
  have hkn : 0 ≤ k ∧ k ≤ n := by rw [hn.eq]; exact hk
  have hnm : n ≤ 1000000 := by rw [hn.eq]; omega
  cases b with
  | true =>
    rw [show spG l true k = k from if_pos rfl, Int.sub_self]
    unfold rfB
    refine fnN (csSp isSpace) Tryz.func19 rfl fun _ _ => ?_
    with_reducible refine cv2 isSpace (runesA l) ?_
    refine loopN (csSp isSpace) (Unit) (fun _ => ⟨[(0, .box 0 0), (3, .val (.int .i64 0))], [.box [.slc 1 (runesA l), .val (.int .i64 k), .val (.bool true)]]⟩) (fun _ => True) (fun _ => 0) () ?_ ?_ ?_
    · trivial
    · refine ⟨[some 0], _, rfl, ?_⟩
      exact eq0
    · rintro _ _
      with_reducible refine cv2 isSpace (runesA l) ?_
      refine ⟨fun h => absurd (show false = true from h) Bool.noConfusion, fun _ => ?_⟩
      rw [if_pos trivial]
      with_reducible refine cv2 isSpace (runesA l) ?_
      refine ⟨[some 0], .val (.int .i64 0), _, rfl, rfl, Nat.le_refl _, rfl, ?_, leA_refl rfl⟩
      exact eq0
  | false =>
    rw [show spG l false k = skI l k from if_neg (by decide)]
    obtain ⟨e, he⟩ : ∃ e, e = skI l k := ⟨_, rfl⟩
    rw [← he]
    unfold rfB
    refine fnN (csSp isSpace) Tryz.func19 rfl fun _ _ => ?_
    with_reducible refine cv2 isSpace (runesA l) ?_
    refine loopN (csSp isSpace) (Int × Int) (fun x => ⟨[(0, .box 0 0), (3, .val (.int .i64 x.1))], [.box [.slc 1 (runesA l), .val (.int .i64 x.2), .val (.bool false)]]⟩) (fun x => (0 ≤ x.2 ∧ x.2 ≤ n ∧ x.1 = x.2 - k ∧ k ≤ x.2) ∧ skI l x.2 = e) (fun x => (n - x.2).toNat) (0, k) ?_ ?_ ?_
    · exact ⟨⟨hkn.1, hkn.2, (Int.sub_self k).symm, Int.le_refl k⟩, he.symm⟩
    · refine ⟨[some 0], _, rfl, ?_⟩
      exact eq0
    · rintro ⟨m, k3⟩ ⟨⟨h0, h1, h2, h3⟩, h4⟩
      have h0 : 0 ≤ k3 := h0
      have h1 : k3 ≤ n := h1
      have h2 : m = k3 - k := h2
      have h3 : k ≤ k3 := h3
      have h4 : skI l k3 = e := h4
      simp only
      with_reducible refine cv2 isSpace (runesA l) ?_
      refine ⟨fun _ => ⟨fun h => ?_, fun h => ?_⟩, fun h => absurd (show true = false from h) Bool.noConfusion⟩
      · have hlt : k3 < n := by
          have h : decide (k3 < std.len (runesA l)) = true := h
          rw [hll] at h; exact of_decide_eq_true h
        have hk3 : k3.toNat < l.length := by have := hn.eq; omega
        have hat := at_rune hk3
        have eR : std.int (std.nth (std.cel (std.at_ (runesA l) k3)) 0) = l[k3.toNat] := by rw [hat]; rfl
        refine ⟨⟨h0, by show k3 < std.len (runesA l); rw [hll]; exact hlt⟩, (by rw [hat]; exact ⟨rfl, trivial⟩ : (std.all [std.hasI .i32 (std.nth (std.cel (std.at_ (runesA l) k3)) 0)]).q), c _, fun hs => ⟨?_, ?_, (m + 1, k3 + 1), ⟨⟨?_, ?_, ?_, ?_⟩, ?_⟩, ?_, [some 0], _, rfl, ?_⟩, fun hs => ?_⟩
        · show std.inR .i64 (k3 + 1)
          rw [inR64]; omega
        · show std.inR .i64 (m + 1)
          rw [inR64]; omega
        · show 0 ≤ k3 + 1; omega
        · show k3 + 1 ≤ n; omega
        · show m + 1 = k3 + 1 - k; omega
        · show k ≤ k3 + 1; omega
        · show skI l (k3 + 1) = e
          have hs : isSpace l[k3.toNat] = true := by rw [← eR]; exact hs
          rw [← h4, skI, skI, tk_hit h0 hk3 hs, List.length_cons]; omega
        · show (n - (k3 + 1)).toNat < (n - k3).toNat; omega
        · exact eq0
        · have hs : isSpace l[k3.toNat] = false := by rw [← eR]; exact hs
          have e0 : k3 = e := by rw [← h4, skI, tk_miss hk3 hs]; simp
          rw [if_pos trivial]
          with_reducible refine cv2 isSpace (runesA l) ?_
          rw [← e0, ← h2]
          refine ⟨[some 0], .val (.int .i64 m), _, rfl, rfl, Nat.le_refl _, rfl, ?_, leA_refl rfl⟩
          exact eq0
      · have hge : n ≤ k3 := by
          have h : decide (k3 < std.len (runesA l)) = false := h
          rw [hll] at h
          have h : ¬ k3 < n := of_decide_eq_false h
          omega
        have e0 : k3 = e := by rw [← h4, skI, tk_end (by have := hn.eq; omega)]; simp
        rw [if_pos trivial]
        with_reducible refine cv2 isSpace (runesA l) ?_
        rw [← e0, ← h2]
        refine ⟨[some 0], .val (.int .i64 m), _, rfl, rfl, Nat.le_refl _, rfl, ?_, leA_refl rfl⟩
        exact eq0
theorem RefNameChar_b (r : Int) : BCall Tryz.prog 35 [.val (.int .i32 r)] [] (.val (.bool (isNameChar r))) [] := by
  refine BCall.hand (enters_of Tryz.func35 (by kernel_rfl) rfl) fun w g vs M hL => ?_
  obtain ⟨v1, vs1, rfl, h1, hL⟩ := argsCons hL
  obtain rfl := argsNil hL
  obtain rfl := argVal h1
  exact (RNameChar_any r w).mono fun e w' ⟨h, hb⟩ => ⟨_, h, hb ▸ Below.refl _ _, PRel.val _ rfl⟩
def csPk (q : Int → Bool) (B : List AV) : Nat → List AV → List Ob → Option (AV × List Ob) := fun g args _ => match g, args with
  | 35, [.val (.int .i32 r)] => some (.val (.bool (q r)), [])
  | 36, [.slc 1 _] => some (.slc 1 B, [])
  | _, _ => none
set_option maxRecDepth 20000 in
theorem peek_b (l : List Int) (hl : l.length ≤ 1000000) (hi : I32 l) (b : Bool) (k : Int) (hk : Pla l k) :
    BCall Tryz.prog 16 [.box 0 0] [rfB l k b] (.val (.string (wtB l k))) [rfB l k b] := by
  have c := RefNameChar_b
  obtain ⟨n, hn⟩ := exLen l
  have hll : std.len (runesA l) = n := by show ((runesA l).length : Int) = n; rw [runes_len, hn.eq]
  have hkn : 0 ≤ k ∧ k ≤ n := by rw [hn.eq]; exact hk
  have hnm : n ≤ 1000000 := by rw [hn.eq]; omega
  have hcut : ∀ e, e = ncI l k → std.cut (runesA l) k e = runesA (tkW isNameChar l k) := fun e he => by
    unfold Pla at hk
    show ((runesA l).drop k.toNat).take (e - k).toNat = _
    rw [he, ncI, show (k + ((tkW isNameChar l k).length : Nat) - k : Int).toNat = (tkW isNameChar l k).length by omega, runesA, runesA, ← List.map_drop, ← List.map_take, tkW]
    congr 1
    exact (List.prefix_iff_eq_take.1 (List.takeWhile_prefix isNameChar)).symm
  have hxl : (tkW isNameChar l k).length ≤ 1000000 := by have := tkW_len isNameChar l hk; unfold Pla at hk; omega
  have cB := RefBytes_b (tkW isNameChar l k) (by omega) (fun x hx => hi x (List.mem_of_mem_drop ((List.takeWhile_sublist isNameChar).subset hx)))
  have hB := isB_bytesA (bytesF (tkW isNameChar l k))
  have hS : std.strB (bytesA (bytesF (tkW isNameChar l k))) = wtB l k := by simp [std, bytes_back, txF, wtB]
  obtain ⟨B, hBE⟩ : ∃ B, B = bytesA (bytesF (tkW isNameChar l k)) := ⟨_, rfl⟩
  rw [← hBE] at cB hB hS
  obtain ⟨e, he⟩ : ∃ e, e = ncI l k := ⟨_, rfl⟩
  have hcut := hcut e he
  rw [← hcut] at cB
  clear hcut
  have hke : k ≤ e ∧ e ≤ n := by
    have h1 := nc_ge l k
    have h2 := hk.nc.2
    rw [he, hn.eq]; exact ⟨h1, h2⟩
  unfold rfB
  refine fnN (csPk isNameChar B) Tryz.func16 rfl fun _ _ => ?_
  with_reducible refine cv2 isNameChar (runesA l) ?_
  refine loopN (csPk isNameChar B) (Int) (fun k3 => ⟨[(0, .box 0 0), (3, .val (.int .i64 k3))], [.box [.slc 1 (runesA l), .val (.int .i64 k), .val (.bool b)]]⟩) (fun k3 => (k ≤ k3 ∧ k3 ≤ n) ∧ ncI l k3 = e) (fun k3 => (n - k3).toNat) k ?_ ?_ ?_
  · exact ⟨⟨Int.le_refl k, hkn.2⟩, he.symm⟩
  · refine ⟨[some 0], _, rfl, ?_⟩
    exact eq0
  · rintro k3 ⟨⟨h0, h1⟩, h4⟩
    have h0 : k ≤ k3 := h0
    have h1 : k3 ≤ n := h1
    have h4 : ncI l k3 = e := h4
    with_reducible refine cv2 isNameChar (runesA l) ?_
    have fin : k3 = e → (std.cutok k k3 (std.len (runesA l))).q := fun h => by
      show 0 ≤ k ∧ k ≤ k3 ∧ k3 ≤ std.len (runesA l)
      rw [hll]; omega
    refine ⟨fun h => ?_, fun h => ?_⟩
    · have hlt : k3 < n := by
        have h : decide (k3 < std.len (runesA l)) = true := h
        rw [hll] at h; exact of_decide_eq_true h
      have hk3 : k3.toNat < l.length := by have := hn.eq; omega
      have hat := at_rune hk3
      have eR : std.int (std.nth (std.cel (std.at_ (runesA l) k3)) 0) = l[k3.toNat] := by rw [hat]; rfl
      refine ⟨⟨by omega, by show k3 < std.len (runesA l); rw [hll]; exact hlt⟩, (by rw [hat]; exact ⟨rfl, trivial⟩ : (std.all [std.hasI .i32 (std.nth (std.cel (std.at_ (runesA l) k3)) 0)]).q), c _, fun hs => ⟨?_, k3 + 1, ⟨⟨?_, ?_⟩, ?_⟩, ?_, [some 0], _, rfl, ?_⟩, fun hs => ?_⟩
      · show std.inR .i64 (k3 + 1)
        rw [inR64]; omega
      · omega
      · omega
      · have hs : isNameChar l[k3.toNat] = true := by rw [← eR]; exact hs
        rw [← h4, ncI, ncI, tk_hit (by omega) hk3 hs, List.length_cons]; omega
      · omega
      · exact eq0
      · have hs : isNameChar l[k3.toNat] = false := by rw [← eR]; exact hs
        have e0 : k3 = e := by rw [← h4, ncI, tk_miss hk3 hs]; simp
        have hq1 := fin e0
        subst e0
        rw [if_pos trivial]
        with_reducible refine cv2 isNameChar (runesA l) ?_
        rw [← hS]
        refine ⟨hq1, cB, hB, [some 0], .val (.string (std.strB B)), _, rfl, rfl, Nat.le_refl _, rfl, ?_, leA_refl rfl⟩
        exact eq0
    · have hge : n ≤ k3 := by
        have h : decide (k3 < std.len (runesA l)) = false := h
        rw [hll] at h
        have h : ¬ k3 < n := of_decide_eq_false h
        omega
      have e0 : k3 = e := by rw [← h4, ncI, tk_end (by have := hn.eq; omega)]; simp
      have hq1 := fin e0
      subst e0
      rw [if_pos trivial]
      with_reducible refine cv2 isNameChar (runesA l) ?_
      rw [← hS]
      refine ⟨hq1, cB, hB, [some 0], .val (.string (std.strB B)), _, rfl, rfl, Nat.le_refl _, rfl, ?_, leA_refl rfl⟩
      exact eq0
theorem RRunes_b (s : ByteArray) (hs : s.size ≤ 300000000) : BCall Tryz.prog 39 [.val (.string s)] [] (.slc 1 (runesA (runesF s.data.toList))) [] := by
  refine BCall.hand (enters_of Tryz.func39 (by kernel_rfl) rfl) fun w g vs M hL => ?_
  obtain ⟨v1, vs1, rfl, k1, hL⟩ := argsCons hL
  obtain rfl := argsNil hL
  obtain rfl := argVal k1
  refine (RRunes_any s w hs).mono fun e w' ⟨v, h, ⟨n', ho⟩, hbel⟩ => ⟨v, h, hbel, ?_⟩
  have hn : n' = (runesA (runesF s.data.toList)).length := by
    have := ho.1
    rw [runes_len]; simpa [rc] using this.symm
  refine own_slc (A' := (g.imm w w').A) ho (by decide) ?_ hn (fun x hx => by obtain ⟨y, _, rfl⟩ := List.mem_map.1 hx; rfl) (fun b o h1 h2 => .inr ⟨h1, h2⟩)
  have e : runesA (runesF s.data.toList) = (rc (runesF s.data.toList)).map .val := by simp [runesA, rc, runeA]
  rw [e, flatVals]
  refine vals_alike fun u hu => ?_
  obtain ⟨x, _, rfl⟩ := List.mem_map.1 hu
  rfl
theorem RName_b (s : ByteArray) (hs : s.size ≤ 300000000) : BCall Tryz.prog 37 [.val (.string s)] [] (.val (.bool (nameF s.data.toList))) [] := by
  refine BCall.hand (enters_of Tryz.func37 (by kernel_rfl) rfl) fun w g vs M hL => ?_
  obtain ⟨v1, vs1, rfl, k1, hL⟩ := argsCons hL
  obtain rfl := argsNil hL
  obtain rfl := argVal k1
  exact (RName_any s w hs).mono fun e w' ⟨h, hb⟩ => ⟨_, h, hb, .val _ rfl⟩
theorem eqS_size0 {s : ByteArray} (h : std.eqS s ⟨⟨[]⟩⟩ = true) : s.data.toList = [] := by
  simp only [std, ByteArray.toList_eq] at h
  simpa using h
theorem ok_ne {l : List Int} {k : Int} (h : okN l k = true) : std.eqS (wtB l k) ⟨⟨[]⟩⟩ = false := by
  cases he : std.eqS (wtB l k) ⟨⟨[]⟩⟩ with
  | false => rfl
  | true => rw [okN, eqS_size0 he, nameF_nil] at h; cases h
def wokG (l : List Int) (n k : Int) : Bool := if n = 1 then okN l k else !std.eqS (wtB l k) ⟨⟨[]⟩⟩
def csWd (T : ByteArray) (o : Ob) (q : Bool) (RU : List AV) : Nat → List AV → List Ob → Option (AV × List Ob) := fun g _ _ => match g with
  | 16 => some (.val (.string T), [o])
  | 37 => some (.val (.bool q), [])
  | 39 => some (.slc 1 RU, [])
  | _ => none
theorem word_bad (l : List Int) (k n : Int) : BCall Tryz.prog 17 [.box 0 0, .val (.int .i64 n)] [rfB l k true] (.val (.string ⟨⟨[]⟩⟩)) [rfB l k true] := by
  unfold rfB
  refine fnN (csWd ⟨⟨[]⟩⟩ .gone true []) Tryz.func17 rfl fun _ _ => ?_
  with_reducible refine cv1 (runesA l) ?_
  refine ⟨[some 0], _, _, rfl, rfl, Nat.le_refl _, rfl, ?_, leA_refl rfl⟩
  exact eq0
set_option maxRecDepth 20000 in
theorem rword_b (l : List Int) (hl : l.length ≤ 1000000) (hi : I32 l) (n : Int) (hn : n = 1 ∨ n = 3) (k : Int) (hk : Pla l k) :
    BCall Tryz.prog 17 [.box 0 0, .val (.int .i64 n)] [rfB l k false] (.val (.string (if wokG l n k = true then wtB l k else ⟨⟨[]⟩⟩))) [rfB l (if wokG l n k = true then ncI l k else k) (!wokG l n k)] := by
  have cP := peek_b l hl hi false k hk
  have hx : (tkW isNameChar l k).length ≤ 1000000 := by have := tkW_len isNameChar l hk; unfold Pla at hk; omega
  have hz : (wtB l k).size ≤ 300000000 := by
    have := bytesF_len (tkW isNameChar l k)
    show (bytesF _).toArray.size ≤ _
    rw [List.size_toArray]; omega
  have cN := RName_b (wtB l k) hz
  have cR := RRunes_b (wtB l k) hz
  have hrl : std.len (runesA (runesF (wtB l k).data.toList)) = ncI l k - k := by
    show ((runesA _).length : Int) = _
    rw [runes_len, run_len, ncI]; omega
  have hne := @ok_ne l k
  have hnc := hk.nc
  have hge := nc_ge l k
  unfold wokG
  change BCall _ _ _ _ (.val (.bool (okN l k))) _ at cN
  generalize okN l k = q at *
  generalize runesA (runesF (wtB l k).data.toList) = RU at *
  generalize wtB l k = T at *
  generalize ncI l k = k2 at *
  unfold Pla at hk hnc
  have q1 : (std.inR .i64 (std.add k (std.len RU))).q := by
    show std.inR .i64 (k + std.len RU)
    rw [hrl, inR64]; omega
  have e1 : std.add k (std.len RU) = k2 := by
    show k + std.len RU = k2
    rw [hrl]; omega
  unfold rfB at *
  rcases hn with rfl | rfl
  · rw [show (if (1 : Int) = 1 then q else !std.eqS T ⟨⟨[]⟩⟩) = q from if_pos rfl]
    refine fnN (csWd T (.box [.slc 1 (runesA l), .val (.int .i64 k), .val (.bool false)]) q RU) Tryz.func17 rfl fun _ _ => ?_
    with_reducible refine cv1 (runesA l) ?_
    refine ⟨cP, fun _ => ⟨cN, fun hq => ?_, fun hq => ⟨fun h => absurd (show false = true from h) Bool.noConfusion, fun _ => ⟨fun he => ?_, fun he => ⟨cR, q1, ?_⟩⟩⟩⟩, fun h => absurd (show true = false from h) Bool.noConfusion⟩
    · obtain rfl : q = false := by have h : (!q) = true := hq; simpa using h
      refine ⟨[some 0], _, _, rfl, rfl, Nat.le_refl _, rfl, ?_, leA_refl rfl⟩
      exact eq0
    · obtain rfl : q = true := by have h : (!q) = false := hq; simpa using h
      exact absurd ((hne rfl).symm.trans he) Bool.noConfusion
    · obtain rfl : q = true := by have h : (!q) = false := hq; simpa using h
      refine ⟨[some 0], _, _, rfl, rfl, Nat.le_refl _, rfl, ?_, leA_refl rfl⟩
      exact eq1 e1
  · rw [show (if (3 : Int) = 1 then q else !std.eqS T ⟨⟨[]⟩⟩) = !std.eqS T ⟨⟨[]⟩⟩ from if_neg (by decide)]
    obtain ⟨z, hz2⟩ : ∃ z, z = std.eqS T ⟨⟨[]⟩⟩ := ⟨_, rfl⟩
    rw [← hz2]
    refine fnN (csWd T (.box [.slc 1 (runesA l), .val (.int .i64 k), .val (.bool false)]) q RU) Tryz.func17 rfl fun _ _ => ?_
    with_reducible refine cv1 (runesA l) ?_
    refine ⟨cP, fun h => absurd (show false = true from h) Bool.noConfusion, fun _ => ⟨fun h => absurd (show false = true from h) Bool.noConfusion, fun _ => ⟨fun he => ?_, fun he => ⟨cR, q1, ?_⟩⟩⟩⟩
    · obtain rfl : z = true := hz2.trans he
      refine ⟨[some 0], _, _, rfl, rfl, Nat.le_refl _, rfl, ?_, leA_refl rfl⟩
      exact eq0
    · obtain rfl : z = false := hz2.trans he
      refine ⟨[some 0], _, _, rfl, rfl, Nat.le_refl _, rfl, ?_, leA_refl rfl⟩
      exact eq1 e1
def csIs (rs : ByteArray → Bool) (o : Ob) : Nat → List AV → List Ob → Option (AV × List Ob) := fun g args _ => match g, args with
  | 20, [.box 0 0, .val (.string s)] => some (.val (.bool (rs s)), [o])
  | _, _ => none
def oftG (l : List Int) (b : Bool) (k : Int) : Int := if b = true then k else oftI l k
theorem roften_b (l : List Int) (hl : l.length ≤ 1000000) (hi : I32 l) (b : Bool) (k : Int) (hk : Pla l k) : BCall Tryz.prog 43 [.box 0 0] [rfB l k b] (.tup []) [rfB l (oftG l b k) b] := by
  have c := fun s hs => is_b l hl hi b k hk s hs
  obtain ⟨rs, hrs⟩ : ∃ rs, rs = fun s => rsG l b k s := ⟨_, rfl⟩
  have c : ∀ s : ByteArray, s.size ≤ 1000 → BCall Tryz.prog 20 [.box 0 0, .val (.string s)] [rfB l k b] (.val (.bool (rs s))) [rfB l k b] := fun s h => by rw [hrs]; exact c s h
  obtain ⟨e, he⟩ : ∃ e, e = oftG l b k := ⟨_, rfl⟩
  rw [← he]
  have h1 : ∀ s : ByteArray, s.size = 1 → rs s = true → b = false ∧ sdI l k s = true ∧ nxI l k s = k + 1 := fun s hs h => by
    rw [hrs] at h
    have h : (!b && sdI l k s) = true := h
    rw [Bool.and_eq_true] at h
    exact ⟨by simpa using h.1, h.2, by rw [nxI, if_pos h.2, hs]; rfl⟩
  have h0 : ∀ s : ByteArray, rs s = false → b = true ∨ sdI l k s = false := fun s h => by
    rw [hrs] at h
    have h : (!b && sdI l k s) = false := h
    rw [Bool.and_eq_false_iff] at h
    rcases h with h | h
    · exact .inl (by simpa using h)
    · exact .inr h
  have up : k + 1 = e → (std.inR .i64 (std.add k 1)).q := fun _ => by
    show std.inR .i64 (k + 1)
    unfold Pla at hk
    rw [inR64]; omega
  clear hrs
  unfold rfB at *
  refine fnN (csIs rs (.box [.slc 1 (runesA l), .val (.int .i64 k), .val (.bool b)])) Tryz.func43 rfl fun _ _ => ?_
  with_reducible refine cv1 (runesA l) ?_
  have bf : ∀ s : ByteArray, b = false → rs s = false → sdI l k s = false := fun s hb h => by
    rcases h0 s h with h | h
    · rw [hb] at h; cases h
    · exact h
  have kx : ∀ s : ByteArray, s.size = 1 → rs s = true → k + 1 ≤ l.length := fun s hs h => by
    have h2 := hk.nx (s := s)
    rw [(h1 s hs h).2.2] at h2
    exact h2.2
  have qx : ∀ s : ByteArray, s.size = 1 → rs s = true → (std.inR .i64 (std.add k 1)).q := fun s hs h => by
    show std.inR .i64 (k + 1)
    have := kx s hs h
    unfold Pla at hk
    rw [inR64]; omega
  refine ⟨c _ (by decide), fun h => ⟨qx _ rfl h, ?_⟩, fun h => ⟨c _ (by decide), fun h2 => ⟨qx _ rfl h2, ?_⟩, fun h2 => ⟨c _ (by decide), fun h3 => ⟨qx _ rfl h3, ?_⟩, fun h3 => ?_⟩⟩⟩
  · obtain ⟨a1, a2, a3⟩ := h1 _ rfl h
    have e1 : std.add k 1 = e := by rw [he, oftG, if_neg (by rw [a1]; decide), oftI, if_pos a2, a3]; rfl
    refine ⟨[some 0], _, _, rfl, rfl, Nat.le_refl _, rfl, ?_, leA_refl rfl⟩
    exact eq1 e1
  · obtain ⟨a1, a2, a3⟩ := h1 _ rfl h2
    have e1 : std.add k 1 = e := by rw [he, oftG, if_neg (by rw [a1]; decide), oftI, if_neg (by rw [bf _ a1 h]; decide), if_pos a2, a3]; rfl
    refine ⟨[some 0], _, _, rfl, rfl, Nat.le_refl _, rfl, ?_, leA_refl rfl⟩
    exact eq1 e1
  · obtain ⟨a1, a2, a3⟩ := h1 _ rfl h3
    have e1 : std.add k 1 = e := by rw [he, oftG, if_neg (by rw [a1]; decide), oftI, if_neg (by rw [bf _ a1 h]; decide), if_neg (by rw [bf _ a1 h2]; decide), a3]; rfl
    refine ⟨[some 0], _, _, rfl, rfl, Nat.le_refl _, rfl, ?_, leA_refl rfl⟩
    exact eq1 e1
  · have e1 : k = e := by
      rw [he, oftG]
      cases b with
      | true => rfl
      | false => rw [if_neg (by decide), oftI, if_neg (by rw [bf _ rfl h]; decide), if_neg (by rw [bf _ rfl h2]; decide), nx_no (bf _ rfl h3)]
    refine ⟨[some 0], _, _, rfl, rfl, Nat.le_refl _, rfl, ?_, leA_refl rfl⟩
    exact eq1 e1
end Go.Proofs.YtdmbfngenffcaaaGreat
namespace Go.Proofs.YtdmbfngenffcaaaGreat
open Go.RowKit Go.Lib
def RFn (l : List Int) (f : Nat) (args : List AV) (P : Int → Prop) (it : Int → Option Int) : Prop := ∃ (ik : Int → Int) (ib : Int → Bool), ∀ k, Pla l k → P k →
  BCall Tryz.prog f args [rfB l k false] (.tup []) [rfB l (ik k) (ib k)] ∧ (ib k = false → it k = some (ik k)) ∧ (ib k = true → it k = none) ∧ Pla l (ik k)
theorem rs_f (l : List Int) (k : Int) (s : ByteArray) : rsG l false k s = sdI l k s := rfl
theorem rs_t (l : List Int) (k : Int) (s : ByteArray) : rsG l true k s = false := rfl
theorem mk_y {l : List Int} {k : Int} {s : ByteArray} (h : sdI l k s = true) : mkG l false k s = nxI l k s ∧ mbG l false k s = false := by
  have e : rsG l false k s = true := h
  exact ⟨if_pos e, by rw [mbG, e]; rfl⟩
theorem mk_n {l : List Int} {k : Int} {s : ByteArray} (h : sdI l k s = false) : mkG l false k s = k ∧ mbG l false k s = true := by
  have e : rsG l false k s = false := h
  exact ⟨if_neg (by rw [e]; decide), by rw [mbG, e]; rfl⟩
theorem mk_t (l : List Int) (k : Int) (s : ByteArray) : mkG l true k s = k ∧ mbG l true k s = true := ⟨if_neg (by rw [rs_t]; decide), rfl⟩
theorem sp_f (l : List Int) (k : Int) : spG l false k = skI l k := if_neg (by decide)
theorem sp_t (l : List Int) (k : Int) : spG l true k = k := if_pos rfl
theorem oft_f (l : List Int) (k : Int) : oftG l false k = oftI l k := if_neg (by decide)
theorem oft_t (l : List Int) (k : Int) : oftG l true k = k := if_pos rfl
def csG3 (q : Bool) (o1 o2 o3 o4 : List Ob) : Nat → List AV → List Ob → Option (AV × List Ob) := fun g _ _ => match g with
  | 20 => some (.val (.bool q), o1)
  | 21 => some (.tup [], o2)
  | 17 => some (.dead, o3)
  | 43 => some (.tup [], o4)
  | _ => none
theorem ritem_b (l : List Int) (hl : l.length ≤ 1000000) (hi : I32 l) (d : Int) (hd : 0 ≤ d ∧ d ≤ 64) (gr : Int → Option Int)
    (cG : RFn l 21 [.box 0 0, .val (.int .i64 (d + 1))] (fun k => sdI l k ⟨⟨[40]⟩⟩ = true) (fun k => gr (nxI l k ⟨⟨[40]⟩⟩))) :
    RFn l 42 [.box 0 0, .val (.int .i64 d)] (fun _ => True) (fun k => if sdI l k ⟨⟨[40]⟩⟩ = true then gr (nxI l k ⟨⟨[40]⟩⟩) else if okN l k = true then some (oftI l (ncI l k)) else none) := by
  obtain ⟨gk, gb, cG⟩ := cG
  refine ⟨fun k => if sdI l k ⟨⟨[40]⟩⟩ = true then gk k else if okN l k = true then oftI l (ncI l k) else k, fun k => if sdI l k ⟨⟨[40]⟩⟩ = true then gb k else !okN l k, fun k hk _ => ?_⟩
  have c1 := is_b l hl hi false k hk ⟨⟨[40]⟩⟩ (by decide)
  rw [rs_f] at c1
  have cW := rword_b l hl hi 1 (.inl rfl) k hk
  rw [show wokG l 1 k = okN l k from if_pos rfl] at cW
  have cO := fun b k hk => roften_b l hl hi b k hk
  have hnc := hk.nc
  have hr1 : (std.inR .i64 (std.add d 1)).q := by
    show std.inR .i64 (d + 1)
    rw [inR64]; omega
  cases hb : sdI l k ⟨⟨[40]⟩⟩ with
  | true =>
    obtain ⟨a1, a2, a3, a4⟩ := cG k hk hb
    rw [hb] at c1
    simp only [if_true, hb]
    refine ⟨?_, a2, a3, a4⟩
    clear cW
    generalize gk k = k2 at *
    generalize gb k = b2 at *
    unfold rfB at *
    refine fnN (csG3 true [.box [.slc 1 (runesA l), .val (.int .i64 k), .val (.bool false)]] [.box [.slc 1 (runesA l), .val (.int .i64 k2), .val (.bool b2)]] [] []) Tryz.func42 rfl fun _ _ => ?_
    with_reducible refine cv1 (runesA l) ?_
    refine ⟨c1, hr1, a1, [some 0], _, _, rfl, rfl, Nat.le_refl _, rfl, ?_, leA_refl rfl⟩
    exact eq0
  | false =>
    rw [hb] at c1
    simp only [hb, Bool.false_eq_true, if_false]
    cases ho : okN l k with
    | true =>
      rw [ho] at cW
      simp only [if_true, Bool.not_true, Bool.false_eq_true, if_false] at cW ⊢
      have cO := cO false _ hnc
      rw [oft_f] at cO
      refine ⟨?_, fun _ => trivial, fun h => (by cases h), hnc.oft⟩
      generalize oftI l (ncI l k) = k3 at *
      generalize ncI l k = k2 at *
      generalize wtB l k = T at *
      unfold rfB at *
      refine fnN (csG3 false [.box [.slc 1 (runesA l), .val (.int .i64 k), .val (.bool false)]] [] [.box [.slc 1 (runesA l), .val (.int .i64 k2), .val (.bool false)]] [.box [.slc 1 (runesA l), .val (.int .i64 k3), .val (.bool false)]]) Tryz.func42 rfl fun _ _ => ?_
      with_reducible refine cv1 (runesA l) ?_
      refine ⟨c1, cW.forget, cO, [some 0], _, _, rfl, rfl, Nat.le_refl _, rfl, ?_, leA_refl rfl⟩
      exact eq0
    | false =>
      rw [ho] at cW
      simp only [Bool.not_false, Bool.false_eq_true, if_false] at cW ⊢
      have cO := cO true _ hk
      rw [oft_t] at cO
      refine ⟨?_, fun h => (by cases h), fun _ => trivial, hk⟩
      unfold rfB at *
      refine fnN (csG3 false [.box [.slc 1 (runesA l), .val (.int .i64 k), .val (.bool false)]] [] [.box [.slc 1 (runesA l), .val (.int .i64 k), .val (.bool true)]] [.box [.slc 1 (runesA l), .val (.int .i64 k), .val (.bool true)]]) Tryz.func42 rfl fun _ _ => ?_
      with_reducible refine cv1 (runesA l) ?_
      refine ⟨c1, cW.forget, cO, [some 0], _, _, rfl, rfl, Nat.le_refl _, rfl, ?_, leA_refl rfl⟩
      exact eq0
theorem sd_one {l : List Int} {k : Int} {c d : UInt8} (h1 : sdI l k ⟨⟨[c]⟩⟩ = true) (h2 : sdI l k ⟨⟨[d]⟩⟩ = true) : c = d := by
  unfold sdI startsF at h1 h2
  simp only [Bool.and_eq_true, beq_iff_eq] at h1 h2
  have e := h1.2.symm.trans h2.2
  simp only [bi, List.map_cons, List.map_nil, List.cons.injEq, and_true] at e
  exact UInt8.toNat_inj.1 (by omega)
def sg0 (l : List Int) (k : Int) : ByteArray := if sdI l k ⟨⟨[44]⟩⟩ = true then ⟨⟨[44]⟩⟩ else ⟨⟨[124]⟩⟩
theorem lp_sg0 (l : List Int) (it : Int → Option Int) (f : Nat) (k : Int) : lpI l it f ⟨⟨[]⟩⟩ k = lpI l it f (sg0 l k) k := by
  cases f with
  | zero => rfl
  | succ f =>
    unfold lpI
    split
    · rfl
    · have e : sgI l ⟨⟨[]⟩⟩ k = sgI l (sg0 l k) k := by
        unfold sgI sg0
        rw [if_neg (by rw [eqS_em]; decide)]
        cases h1 : sdI l k ⟨⟨[44]⟩⟩ with
        | true =>
          have h2 : sdI l k ⟨⟨[124]⟩⟩ = false := by
            cases h : sdI l k ⟨⟨[124]⟩⟩ with
            | false => rfl
            | true => exact absurd (sd_one h1 h) (by decide)
          simp only [h2, if_true, Bool.false_eq_true, if_false, eqS_sg, h1]
        | false => simp only [if_true, Bool.false_eq_true, if_false, eqS_sg]
      rw [e]
theorem RFn.of {l : List Int} {f : Nat} {args : List AV} {P : Int → Prop} {it : Int → Option Int} (h : ∀ k, Pla l k → P k → ∃ (k2 : Int) (b : Bool), BCall Tryz.prog f args [rfB l k false] (.tup []) [rfB l k2 b] ∧ (b = false → it k = some k2) ∧ (b = true → it k = none) ∧ Pla l k2) : RFn l f args P it := by
  have g : ∀ k, ∃ q : Int × Bool, Pla l k → P k → BCall Tryz.prog f args [rfB l k false] (.tup []) [rfB l q.1 q.2] ∧ (q.2 = false → it k = some q.1) ∧ (q.2 = true → it k = none) ∧ Pla l q.1 := fun k => by
    cases Classical.em (Pla l k ∧ P k) with
    | inl h1 =>
      obtain ⟨k2, b, h2⟩ := h k h1.1 h1.2
      exact ⟨(k2, b), fun _ _ => h2⟩
    | inr h1 => exact ⟨(0, false), fun h2 h3 => absurd ⟨h2, h3⟩ h1⟩
  exact ⟨fun k => (Classical.choose (g k)).1, fun k => (Classical.choose (g k)).2, fun k h1 h2 => Classical.choose_spec (g k) h1 h2⟩
def rlpE (l : List Int) (ik : Int → Int) (ib : Int → Bool) (sg : ByteArray) : Nat → Int → Int × Bool
  | 0, k => (k, true)
  | f + 1, k => if sdI l k sg = true then (if ib (skI l (nxI l k sg)) = true then (ik (skI l (nxI l k sg)), true) else rlpE l ik ib sg f (skI l (ik (skI l (nxI l k sg))))) else (k, false)
theorem rlp_law {l : List Int} {it : Int → Option Int} {ik : Int → Int} {ib : Int → Bool} (h : ∀ k, Pla l k → (ib k = false → it k = some (ik k)) ∧ (ib k = true → it k = none) ∧ Pla l (ik k)) (hit : ItOk l it) {c : UInt8} (hc : c ≠ 41) : ∀ (f : Nat) (k : Int), Pla l k → Fu l k f →
    Pla l (rlpE l ik ib ⟨⟨[c]⟩⟩ f k).1 ∧ (mbG l (rlpE l ik ib ⟨⟨[c]⟩⟩ f k).2 (rlpE l ik ib ⟨⟨[c]⟩⟩ f k).1 ⟨⟨[41]⟩⟩ = false → lpI l it f ⟨⟨[c]⟩⟩ k = some (mkG l (rlpE l ik ib ⟨⟨[c]⟩⟩ f k).2 (rlpE l ik ib ⟨⟨[c]⟩⟩ f k).1 ⟨⟨[41]⟩⟩)) ∧ (mbG l (rlpE l ik ib ⟨⟨[c]⟩⟩ f k).2 (rlpE l ik ib ⟨⟨[c]⟩⟩ f k).1 ⟨⟨[41]⟩⟩ = true → lpI l it f ⟨⟨[c]⟩⟩ k = none)
  | 0, k, hk, hf => absurd hf (by unfold Fu Pla at *; omega)
  | f + 1, k, hk, hf => by
    unfold rlpE lpI
    cases hs : sdI l k ⟨⟨[c]⟩⟩ with
    | true =>
      have hn : sdI l k ⟨⟨[41]⟩⟩ = false := by
        cases h1 : sdI l k ⟨⟨[41]⟩⟩ with
        | false => rfl
        | true => exact absurd (sd_one hs h1) hc
      have e : sgI l ⟨⟨[c]⟩⟩ k = some (⟨⟨[c]⟩⟩, nxI l k ⟨⟨[c]⟩⟩) := by rw [sgI, if_pos (eqS_sg c), if_pos hs]
      simp only [hn, e, if_true, Bool.false_eq_true, if_false]
      obtain ⟨a1, a2, a3⟩ := h _ (hk.nx (s := ⟨⟨[c]⟩⟩)).sp
      cases hb : ib (skI l (nxI l k ⟨⟨[c]⟩⟩)) with
      | true =>
        simp only [if_true, a2 hb]
        exact ⟨a3, fun h => absurd ((mk_t _ _ _).2.symm.trans h) (by decide), fun _ => trivial⟩
      | false =>
        simp only [a1 hb, Bool.false_eq_true, if_false]
        obtain ⟨b1, b2⟩ := hit _ _ (hk.nx (s := ⟨⟨[c]⟩⟩)).sp (a1 hb)
        refine rlp_law h hit hc f _ a3.sp ?_
        have := sp_ge l (nxI l k ⟨⟨[c]⟩⟩)
        have := sp_ge l (ik (skI l (nxI l k ⟨⟨[c]⟩⟩)))
        have : nxI l k ⟨⟨[c]⟩⟩ = k + 1 := by rw [nxI, if_pos hs]; rfl
        unfold Fu at *
        omega
    | false =>
      have e : sgI l ⟨⟨[c]⟩⟩ k = none := by rw [sgI, if_pos (eqS_sg c), if_neg (by rw [hs]; decide)]
      simp only [e, Bool.false_eq_true, if_false]
      refine ⟨hk, fun h => ?_, fun h => ?_⟩
      · have h1 : sdI l k ⟨⟨[41]⟩⟩ = true := by
          have h : (!sdI l k ⟨⟨[41]⟩⟩) = false := h
          simpa using h
        rw [if_pos h1, (mk_y h1).1]
      · have h1 : sdI l k ⟨⟨[41]⟩⟩ = false := by
          have h : (!sdI l k ⟨⟨[41]⟩⟩) = true := h
          simpa using h
        rw [if_neg (by rw [h1]; decide)]
end Go.Proofs.YtdmbfngenffcaaaGreat
