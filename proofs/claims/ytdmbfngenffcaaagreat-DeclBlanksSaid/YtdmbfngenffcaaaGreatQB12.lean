/- Lemmas, conditions told -/
import Derived.Test.YtdmbfngenffcaaaGreatQB11
import Derived.Test.YtdmbfngenffcaaaGreatQB02
import Derived.Shelf.SlicesE.DeleteFunc
import Derived.Shelf.SlLaysH
import Derived.Test.YtdmbfngenffcaaaGreatQB10
import Derived.Test.YtdmbfngenffcaaaGreatQB04
set_option linter.unusedSimpArgs false
set_option linter.unusedVariables false
namespace Go.Proofs.YtdmbfngenffcaaaGreat
open Go.RowKit Go.Lib
def lDel_ren : Go.Shelf.Ren := ⟨fun | 10 => 60 | 6 => 82 | n => n, fun | 22 => 22 | 23 => 21 | 25 => 55 | 3 => 3 | 4 => 4 | 0 => 0 | n => n, fun | n => n⟩
theorem lDel : Go.Proofs.SlLaysH.n10 Tryz.prog lDel_ren := {
  mixed := by kernel_rfl
  f6 := ⟨Tryz.f82.name, by decide, Tryz.func82.trans (congrArg some (by kernel_rfl))⟩
  f10 := ⟨Tryz.f60.name, by decide, Tryz.func60.trans (congrArg some (by kernel_rfl))⟩
  t0 := Tryz.underlying0
  a0 := Tryz.isAgg0
  z0 := Tryz.sizeOf0
  v0 := Tryz.zeroValue0
  t3 := Tryz.underlying3
  a3 := Tryz.isAgg3
  z3 := Tryz.sizeOf3
  v3 := Tryz.zeroValue3
  t4 := Tryz.underlying4
  a4 := Tryz.isAgg4
  z4 := Tryz.sizeOf4
  v4 := Tryz.zeroValue4
  t22 := Tryz.underlying22
  a22 := Tryz.isAgg22
  z22 := Tryz.sizeOf22
  v22 := Tryz.zeroValue22
  a23 := Tryz.isAgg21
  z23 := Tryz.sizeOf21
  t25 := Tryz.underlying55
  a25 := Tryz.isAgg55
  z25 := Tryz.sizeOf55
  v25 := Tryz.zeroValue55 }
set_option maxHeartbeats 1000000 in
set_option maxRecDepth 100000 in
theorem RClone_any (S : Nat → Prop) (A : Option Addr) (n c : Nat) (l : List Int) (w : World) (hr : Rd w S 1 A n c (rc l)) (hn : 0 < n) (hl : n ≤ 1000000) :
    Calls Tryz.prog 61 #[.slice A n c] w fun e w' => ∃ v, e = .returned v ∧ w'.ownsRow w.heap.size 21 1 v n (rc l) ∧ Below w.heap.size w w' := by
  obtain ⟨a, rfl⟩ : ∃ a, A = some a := by
    obtain ⟨b, o, u, h, _⟩ := hr.one hn
    exact ⟨_, h⟩
  have hle := hr.le
  have hmx := hr.max
  have hq : ∀ W : World, (binOp .eql 22 (.slice (some a) n c) (.slice none 0 0)).run Tryz.prog W = .ok (.bool false) W := fun W => Lib.run_eql_slice_nil W _ _ (some a) n c 0 0 Tryz.underlying22
  have HR := Lib.hid hr
  have HO := Lib.hid (own_litN w _ rfl 21 #[] 1 0 rfl (by decide) (rc []) rfl)
  have HB := Lib.hid (ba w (.cells #[] 21))
  clear hr
  go_enter Tryz.func61, Tryz.ntmps61
  go_wp2_with (at_builtin; refine append_runes _ rfl (.tmp 5) (.tmp 6) rfl w.heap.size _ 0 [] rfl HO.out _ _ n c _ rfl (HR.out.alloc _) (by omega) HB.out.size ?_; intro A4 c4 w4 hown4 hg4 _ _; have HB4 := Lib.hid (below_own HB.out HB.out.size HO.out hg4); have HO4 := Lib.hid hown4; clear hown4 hg4)
  go_ret
  refine ⟨_, rfl, ?_, HB4.out⟩
  simpa using HO4.out
def Gh.row1 (g : Gh) (b0 : Option Nat) : Gh := { A := g.A, G := fun b => if b0 = some b then some 0 else none, loc := g.loc, sub := fun _ => false }
theorem RClone_row (l : List Int) (hl : l.length ≤ 1000000) (hn : l ≠ []) : BCall Tryz.prog 61 [.slc 1 (runesA l)] [] (.row 0 0) [.row 21 1 false 0 (runesA l)] := by
  refine ⟨enters_of Tryz.func61 (by kernel_rfl) rfl, fun w g vs M hL => ?_⟩
  obtain ⟨v1, vs1, rfl, h1, hL⟩ := argsCons hL
  obtain rfl := argsNil hL
  obtain ⟨A, c, rfl, hr⟩ := runes_rd h1 M
  refine (RClone_any _ A _ c l w hr (List.length_pos_iff.2 hn) hl).mono fun e w' ⟨v, h2, h3, hb⟩ => ?_
  have hG : ∀ b, g.G b = none := fun b => by
    cases h : g.G b with
    | none => rfl
    | some id => exact absurd (M.own b id h).2 (by simp)
  have hv : ∀ b, v.ownBlock = some b → w.heap.size ≤ b ∧ b < w'.heap.size := fun b hb => by
    rcases h3.2 with ⟨rfl, _⟩ | ⟨b', cap, cur, rfl, h4, h5, _⟩
    · cases hb
    · obtain rfl : b' = b := by simpa [Value.ownBlock] using hb
      exact ⟨h4, (Array.getElem?_eq_some_iff.1 h5).1⟩
  have hone : v.oneCell' = true := by
    rcases h3.2 with ⟨rfl, _⟩ | ⟨b', cap, cur, rfl, _⟩ <;> rfl
  have h30 : w'.ownsRow 0 21 1 v (runesA l).length (rc l) := by
    rw [runes_len]
    exact ⟨h3.1, h3.2.imp_right fun ⟨b', cap, cur, e, h4, h5⟩ => ⟨b', cap, cur, e, Nat.zero_le _, h5⟩⟩
  have hw : ∀ x ∈ runesA l, x.cells.length = 1 := fun x hx => by
    obtain ⟨y, _, rfl⟩ := List.mem_map.1 hx; rfl
  have E : Ext w g [] w' (g.row1 v.ownBlock) [.row 21 1 false 0 (runesA l)] :=
    ⟨fun b o h => ⟨h, World.cell?_of_block (w := w) (hb.block b (M.imm b o h).1)⟩, fun _ _ => rfl, fun id h => absurd (isBox_lt h) (by simp), fun id h => absurd (isIt_lt h) (by simp), fun id et sz fz e xs h => by simp at h, fun b id h => by rw [hG] at h; cases h⟩
  refine ⟨v, g.row1 v.ownBlock, h2, ⟨fun id cs h => ?_, fun id cs h => ?_, fun id s pos h => ?_, fun b id h => ?_, fun b o h => ?_, fun id et sz fz e xs h => ?_, fun b h => (by cases h), fun b b' id h h' _ _ => ?_⟩, ?_, ?_⟩
  · cases id <;> simp at h
  · cases id <;> simp at h
  · cases id <;> simp at h
  · simp only [Gh.row1] at h
    split at h
    · rename_i h0; cases h; exact ⟨(hv b h0).2, by simp⟩
    · cases h
  · have h1 := (M.imm b o h).1
    refine ⟨Nat.lt_of_lt_of_le h1 hb.size, fun id h2 => ?_⟩
    simp only [Gh.row1] at h2
    split at h2
    · rename_i h0; have := (hv b h0).1; omega
    · cases h2
  · cases id with
    | zero => cases h; exact ⟨Nat.zero_lt_one, hw⟩
    | succ id => simp at h
  · simp only [Gh.row1] at h h'
    split at h
    · split at h'
      · rename_i h0 h1; rw [h0] at h1; cases h1; rfl
      · cases h'
    · cases h
  · refine ⟨hone, _, _, _, _, _, rfl, Nat.le_refl _, fun _ => ⟨rc l, h30, fun b h0 => (by simp [Gh.row1, h0]), ?_, hw, fun b _ => rfl, fun he => absurd he (by decide)⟩⟩
    have e : runesA l = (rc l).map .val := by simp [runesA, rc, runeA]
    rw [e, flatVals]
    refine vals_alike fun u hu => ?_
    obtain ⟨x, _, rfl⟩ := List.mem_map.1 hu
    rfl
  · exact ⟨hb.os, hb.tape, hb.output, hb.size, fun b h1 _ => hb.block b h1, fun b id h => (by
      simp only [Gh.row1] at h
      split at h
      · rename_i h0; exact .inr (hv b h0).1
      · cases h), fun b o h => .inl h, E, Nat.zero_le _⟩
def Gh.del1 (g : Gh) (b0 n : Nat) : Gh := { A := fun b o => g.A b o ∨ (b = b0 ∧ o < n), G := g.G, loc := g.loc, sub := g.sub }
theorem Space_at (w W : World) (x : Int) : FnGives Tryz.prog 47 #[] #[.int .i32 x] (.bool (isSpace x)) W :=
  (Space_any x W).mono fun e w' ⟨h1, h2⟩ => ⟨h1, 0, h2 ▸ rfl⟩
theorem RDelete_b (l : List Int) (hl : l.length ≤ 1000000) (hn : l ≠ []) : BCall Tryz.prog 60 [.row 0 0, .val (.func (.func 47) #[] #[])] [.row 21 1 false 0 (runesA l)] (.slc 1 (runesA (l.filter fun x => !isSpace x))) [.row 21 1 true 1 (runesA l)] := by
  refine ⟨enters_of Tryz.func60 (by kernel_rfl) rfl, fun w g vs M hL => ?_⟩
  obtain ⟨v1, vs1, rfl, h1, hL⟩ := argsCons hL
  obtain ⟨v2, vs2, rfl, h2, hL⟩ := argsCons hL
  obtain rfl := argsNil hL
  obtain rfl := argVal h2
  obtain ⟨h0, et, sz, fz, e, xs, h3, h4, h5⟩ := (show ARel0 w g _ v1 (.row 0 0) from h1)
  cases h3
  obtain ⟨ys, ho, hG, hal, hw, hs⟩ := h5 rfl
  have er : ∀ l : List Int, runesA l = (rc l).map .val := fun l => by simp [runesA, rc, runeA]
  rw [er l, flatVals] at hal
  obtain rfl := alikeVals hal
  rw [runes_len] at ho
  rcases ho.2 with ⟨_, h6⟩ | ⟨b, cap, cur, rfl, _, h7, h8, h9, h10, h11⟩
  · exact absurd (List.length_eq_zero_iff.1 h6) hn
  have hGb : g.G b = some 0 := hG b rfl
  have hsb : g.sub b = false := hs.1 b rfl
  have hold : ∀ o, ¬ g.A b o := fun o h => by
    obtain ⟨et, sz, e, xs, h1, _⟩ := (M.imm b o h).2 0 hGb hsb
    cases h1
  have hcell : ∀ j, j < l.length → cur[j]? = some (.int .i32 (l[j]!)) := fun j hj => by
    have e1 : (rc l)[j]? = some (.int .i32 (l[j]!)) := by
      rw [rc, List.getElem?_map, List.getElem?_eq_getElem hj, getElem!_pos l j hj]; rfl
    rw [← h11, List.getElem?_take, if_pos (by omega), Array.getElem?_toList] at e1
    exact e1
  have hH : Sort.Holds (Value.int .i32) w b 0 l.toArray := fun j hj => by
    have hj' : j < l.length := by simpa using hj
    refine ⟨?_, by simp [World.frozen?, h7]⟩
    have e2 : l.toArray[j]! = l[j]! := by
      rw [getElem!_pos l.toArray j hj, getElem!_pos l j hj']; simp
    rw [e2]
    simp [World.cell?, h7, hcell j hj']
  have hc := AnyE.slices_DeleteFunc lDel (Value.int .i32) (fun _ => rfl) isSpace 47 #[] (enters_of Tryz.func47 (by kernel_rfl) rfl) 0 Tryz.zeroValue21 b 0 cap l.toArray w (fun W x _ => Space_at w W x) (fun n os dk x _ => Space_at w _ x) hH (by simp; omega) (by simpa using h8)
  change Calls Tryz.prog 60 _ _ _ at hc
  rw [show l.toArray.size = l.length from rfl, show l.toArray.toList = l from rfl] at hc
  obtain ⟨F, hF⟩ : ∃ F, F = l.filter fun x => !isSpace x := ⟨_, rfl⟩
  have hFl : F.length ≤ l.length := by rw [hF]; exact List.length_filter_le _ _
  rw [← hF] at hc ⊢
  refine hc.mono fun e w' ⟨h12, q, h13⟩ => ?_
  obtain ⟨D, hD⟩ : ∃ D, D = (F ++ List.replicate (l.length - F.length) 0).toArray := ⟨_, rfl⟩
  rw [← hD] at h13
  have hDs : D.size = l.length := by rw [hD]; simp; omega
  have hDF : ∀ j (hj : j < F.length), D[j]! = F[j] := fun j hj => by
    rw [getElem!_pos D j (by omega)]
    simp only [hD, List.getElem_toArray]
    rw [List.getElem_append_left hj]
  have hsz : w'.heap.size = w.heap.size := by rw [h13]; simp
  have hoth : ∀ k, k ≠ b → w'.heap[k]? = w.heap[k]? := fun k hk => by
    rw [h13]
    show ((Sort.ahead w q).heap.modify b _)[k]? = _
    rw [Array.getElem?_modify, if_neg (Ne.symm hk)]; rfl
  have hnew : ∀ j (hj : j < F.length), w'.cell? ⟨b, 0 + j, none⟩ = some (.int .i32 F[j]) := fun j hj => by
    rw [h13, Sort.cell?_putRow (Value.int .i32) (Sort.ahead w q) b 0 l.toArray D (Sort.holds_ahead _ w q b 0 _ hH) hDs j (by omega), hDF j hj]
  have hcw : ∀ b' o, g.A b' o → w'.cell? ⟨b', o, none⟩ = w.cell? ⟨b', o, none⟩ := fun b' o h => by
    refine World.cell?_of_block (w := w) (hoth b' fun he => ?_)
    subst he
    exact hold o h
  have hb0 : b < w.heap.size := (M.own b 0 hGb).1
  have E : Ext w g [.row 21 1 false 0 (runesA l)] w' (g.del1 b F.length) [.row 21 1 true 1 (runesA l)] := by
    refine ⟨fun b' o h => ⟨.inl h, hcw b' o h⟩, fun _ _ => rfl, fun id h => ?_, fun id h => ?_, fun id et sz fz e xs h => ?_, fun b' id h _ => ⟨rfl, fun h2 o h3 => ?_⟩⟩
    · cases id <;> simp [isBox] at h
    · cases id <;> simp [isIt] at h
    · cases id with
      | zero => cases h; exact ⟨true, 1, _, rfl, Nat.zero_le _, fun h => by cases h⟩
      | succ id => simp at h
    · rcases h3 with h3 | ⟨rfl, _⟩
      · exact h3
      · rw [hsb] at h2; cases h2
  refine ⟨_, g.del1 b F.length, h12, ⟨fun id cs h => ?_, fun id cs h => ?_, fun id s pos h => ?_, fun b' id h => ?_, fun b' o h => ?_, fun id et sz fz e xs h => ?_, fun b' h => ?_, M.uniq⟩, ?_, ?_⟩
  · cases id <;> simp at h
  · cases id <;> simp at h
  · cases id <;> simp at h
  · rw [hsz]; exact M.own b' id h
  · rw [hsz]
    rcases h with h | ⟨rfl, ho2⟩
    · refine ⟨(M.imm b' o h).1, fun id h1 h2 => ?_⟩
      obtain ⟨et, sz, e, xs, h3, _⟩ := (M.imm b' o h).2 id h1 h2
      cases id <;> simp at h3
    · refine ⟨hb0, fun id h1 _ => ?_⟩
      obtain rfl : 0 = id := Option.some.inj (hGb.symm.trans h1)
      exact ⟨_, _, _, _, rfl, by rw [runes_len]; omega⟩
  · cases id with
    | zero => cases h; exact ⟨Nat.zero_lt_one, hw⟩
    | succ id => simp at h
  · obtain ⟨id, et, sz, fz, e, xs, h1, h2⟩ := M.nsub b' h
    cases id with
    | zero => exact ⟨0, _, _, _, _, _, h1, rfl⟩
    | succ id => simp at h2
  · have hp : PRel w' (g.del1 b F.length).A (.slice (some ⟨b, 0, none⟩) (runesA F).length cap) (.slc 1 (runesA F)) := by
      have hfl : flatA (runesA F) = runesA F := by rw [er F, flatVals]
      refine PRel.slc b 0 cap 1 (runesA F) (fun j => .int .i32 (F[j]!)) (by rw [runes_len]; omega) h9 (fun x hx => (by obtain ⟨y, _, rfl⟩ := List.mem_map.1 hx; rfl)) (fun j u h => ?_) (fun j u h => ?_)
      · rw [hfl] at h
        have hj : j < F.length := by have := lt_of_some h; rwa [runes_len] at this
        refine ⟨.inr ⟨rfl, by omega⟩, ?_⟩
        rw [hnew j hj, getElem!_pos F j hj]
      · rw [hfl] at h
        have hj : j < F.length := by have := lt_of_some h; rwa [runes_len] at this
        rw [runesA, List.getElem?_map, List.getElem?_eq_getElem hj] at h
        cases h
        rw [getElem!_pos F j hj]
        exact PRel.val _ rfl
    rw [runes_len] at hp
    exact hp
  · exact ⟨by rw [h13]; rfl, by rw [h13]; rfl, by rw [h13]; rfl, by omega, fun b' _ h => hoth b' fun he => (by subst he; rw [hGb] at h; cases h), fun b' id h => .inl ⟨id, h⟩, fun b' o h => h.imp_right fun ⟨he, _⟩ => .inl ⟨0, he ▸ hGb⟩, E, Nat.le_refl _⟩
end Go.Proofs.YtdmbfngenffcaaaGreat
namespace Go.Proofs.YtdmbfngenffcaaaGreat
open Go.RowKit Go.Lib
def blI (l : List Int) (k : Int) : Option Int := if k < skI l k then some (skI l k) else none
theorem blank_b (l : List Int) (hl : l.length ≤ 1000000) (k : Int) (hk : Pla l k) : RdF l 53 [.box 0 0] (.tup []) k (blI l k) := by
  have c := space_b l hl k hk
  obtain ⟨R, hR⟩ : ∃ R, R = blI l k := ⟨_, rfl⟩
  rw [← hR]
  unfold blI at hR
  obtain ⟨k2, hk2⟩ : ∃ k2, k2 = skI l k := ⟨_, rfl⟩
  rw [← hk2] at hR c
  obtain ⟨n, hn⟩ : ∃ n, n = k2 - k := ⟨_, rfl⟩
  rw [← hn] at c
  unfold RdF rdB at *
  refine fnE _ _ (csL [(24, .val (.int .i64 n), [.box [.slc 1 (runesA l), .val (.int .i64 k2)]]), (28, pR (std.ltI 0 n) (.tup []), [])]) (fun _ => .nil) Tryz.func53 rfl fun _ _ => ?_
  with_reducible refine cv2 (runesA l) (std.ltI 0 n) ?_
  refine ⟨c, fun h => ⟨must_c h, .ok (by rw [hR, if_pos (by have h : 0 < n := of_decide_eq_true h; omega)]; rfl) ?_⟩, fun h => ⟨must_p h, fun _ => .pan (by rw [hR, if_neg (by have h : ¬ 0 < n := of_decide_eq_false h; omega)]; rfl)⟩⟩
  refine ⟨[some 0], _, _, rfl, rfl, Nat.le_refl _, rfl, ?_, leA_refl rfl⟩
  exact eq0
def elR (T C : ByteArray) : AV := .agg [.val (.int .i64 4), .val (.string T), .val (.slice none 0 0), .val (.bool false), .val (.string ⟨#[]⟩), .val (.string ⟨#[]⟩), .val (.string ⟨#[]⟩), .val (.string C), .val (.slice none 0 0)]
def cutI (l : List Int) (a b : Int) : List Int := (l.drop a.toNat).take (b - a).toNat
def unSp (x : List Int) : List Int := x.filter fun r => !isSpace r
def elI (l : List Int) (k : Int) : Option ((ByteArray × ByteArray) × Int) := match blI l k with
  | none => none
  | some k1 => if okN l k1 = true then (match blI l (ncI l k1) with
    | none => none
    | some k3 => match contI l k3 with
      | none => none
      | some k4 => some ((wtB l k1, txF (unSp (cutI l k3 k4))), k4)) else none
def elO (l : List Int) (R : Option ((ByteArray × ByteArray) × Int)) : Option (AV × List Ob) := R.map fun q => (elR q.1.1 q.1.2, [rdB l q.2])
theorem wt_nc {l : List Int} {k : Int} {s : ByteArray} (h : std.eqS (wtB l k) s = true) (hs : s.data.toList ≠ []) : k < ncI l k := by
  have h : (wtB l k).toList = s.toList := eq_of_beq h
  unfold ncI
  cases ht : tkW isNameChar l k with
  | nil =>
    have e : wtB l k = ⟨⟨[]⟩⟩ := by rw [wtB, ht]; rfl
    rw [e, ByteArray.toList_eq, ByteArray.toList_eq] at h
    exact absurd h.symm hs
  | cons x r => rw [List.length_cons]; omega
theorem mE_ok {l : List Int} {nm k r : Int} (hk : Pla l k) (h : mxE l (nm, k) = some r) : k ≤ r ∧ Pla l r := by
  unfold mxE at h
  simp only at h
  have hn := hk.nx (s := ⟨⟨[41]⟩⟩)
  have h1 := nx_ge l k ⟨⟨[41]⟩⟩
  split at h
  · split at h
    · cases h
      have := nx_ge l (nxI l k ⟨⟨[41]⟩⟩) ⟨⟨[42]⟩⟩
      exact ⟨by omega, hn.nx⟩
    · split at h
      · cases h; exact ⟨h1, hn⟩
      · cases h
  · cases h
theorem mx_ok {l : List Int} : ∀ (f : Nat) (nm k r : Int), Pla l k → (lpM l f nm k).bind (mxE l) = some r → k ≤ r ∧ Pla l r
  | 0, _, _, _, _, h => by cases h
  | f + 1, nm, k, r, hk, h => by
    unfold lpM at h
    split at h
    · split at h
      · have hn := hk.nx (s := ⟨⟨[124]⟩⟩)
        obtain ⟨c1, c2⟩ := mx_ok f (nm + 1) _ r hn.sp.nc.sp h
        have := nx_ge l k ⟨⟨[124]⟩⟩
        have := sp_ge l (nxI l k ⟨⟨[124]⟩⟩)
        have := nc_ge l (skI l (nxI l k ⟨⟨[124]⟩⟩))
        have := sp_ge l (ncI l (skI l (nxI l k ⟨⟨[124]⟩⟩)))
        exact ⟨by omega, c2⟩
      · cases h
    · exact mE_ok hk h
theorem mix_ok {l : List Int} {k r : Int} (hk : Pla l k) (h : mixI l k = some r) : k ≤ r ∧ Pla l r := by
  unfold mixI at h
  obtain ⟨c1, c2⟩ := mx_ok _ _ _ r hk.sp h
  have := sp_ge l k
  exact ⟨by omega, c2⟩
theorem cont_gt {l : List Int} {k r : Int} (hk : Pla l k) (h : contI l k = some r) : k < r ∧ Pla l r := by
  unfold contI at h
  split at h
  · rename_i h0
    cases h
    exact ⟨wt_nc h0 (by decide), hk.nc⟩
  split at h
  · rename_i h0
    cases h
    exact ⟨wt_nc h0 (by decide), hk.nc⟩
  split at h
  · rename_i h0
    have e : nxI l k ⟨⟨[40]⟩⟩ = k + 1 := by rw [nxI, if_pos h0]; rfl
    have hn := hk.nx (s := ⟨⟨[40]⟩⟩)
    split at h
    · have h2 := hn.sp.nx (s := ⟨⟨[35]⟩⟩)
      obtain ⟨h3, h4⟩ := mix_ok h2.nc h
      have := sp_ge l (nxI l k ⟨⟨[40]⟩⟩)
      have := nx_ge l (skI l (nxI l k ⟨⟨[40]⟩⟩)) ⟨⟨[35]⟩⟩
      have := nc_ge l (nxI l (skI l (nxI l k ⟨⟨[40]⟩⟩)) ⟨⟨[35]⟩⟩)
      exact ⟨by omega, h4⟩
    · obtain ⟨h3, h4⟩ := gr_ok (it_ok l 63) _ _ hn h
      exact ⟨by omega, h4⟩
  · cases h
theorem bl_ok {l : List Int} {k r : Int} (hk : Pla l k) (h : blI l k = some r) : k < r ∧ Pla l r := by
  unfold blI at h
  split at h
  · rename_i h0
    cases h
    exact ⟨h0, hk.sp⟩
  · cases h
theorem el_ok {l : List Int} {k : Int} {q : (ByteArray × ByteArray) × Int} (hk : Pla l k) (h : elI l k = some q) : Pla l q.2 := by
  unfold elI at h
  split at h
  · cases h
  · rename_i k1 h1
    split at h
    · split at h
      · cases h
      · rename_i k3 h3
        split at h
        · cases h
        · rename_i k4 h4
          cases h
          exact (cont_gt (bl_ok (bl_ok hk h1).2.nc h3).2 h4).2
    · cases h
theorem cut_runes (l : List Int) (a b : Int) : std.cut (runesA l) a b = runesA (cutI l a b) := by
  show ((runesA l).drop a.toNat).take (b - a).toNat = _
  rw [cutI, runesA, runesA, ← List.map_drop, ← List.map_take]
def csEl (L : List AV) (b1 b2 b3 b4 : Bool) (k1 k2 k3 k4 : Int) (T C : ByteArray) (Y Z : List AV) : Nat → List AV → List Ob → Option (AV × List Ob) := fun g _ _ => match g with
  | 1000007 => some (pR b1 (.tup []), [.box [.slc 1 L, .val (.int .i64 k1)]])
  | 49 => some (pR b2 (.val (.string T)), [.box [.slc 1 L, .val (.int .i64 k2)]])
  | 1000012 => some (pR b3 (.tup []), [.box [.slc 1 L, .val (.int .i64 k3)]])
  | 14 => some (pR b4 (.tup []), [.box [.slc 1 L, .val (.int .i64 k4)]])
  | 61 => some (.row 0 0, [.row 21 1 false 0 Z])
  | 60 => some (.slc 1 Y, [.row 21 1 true 1 Z])
  | 44 => some (.val (.string C), [])
  | _ => none
theorem element_b (l : List Int) (hl : l.length ≤ 1000000) (k : Int) (hk : Pla l k) : BEnd Tryz.prog 33 [.box 0 0] [rdB l k] wrongV (elO l (elI l k)) := by
  have cB := blank_b l hl
  have cM := dname_b l hl
  have cC := content_b l hl
  obtain ⟨R, hR⟩ : ∃ R, R = elO l (elI l k) := ⟨_, rfl⟩
  rw [← hR]
  -- what is read, step by step
  obtain ⟨b1, hb1⟩ : ∃ b1, b1 = (blI l k).isSome := ⟨_, rfl⟩
  obtain ⟨k1, hk1⟩ : ∃ k1, k1 = (blI l k).getD 0 := ⟨_, rfl⟩
  obtain ⟨b2, hb2⟩ : ∃ b2, b2 = okN l k1 := ⟨_, rfl⟩
  obtain ⟨k2, hk2⟩ : ∃ k2, k2 = ncI l k1 := ⟨_, rfl⟩
  obtain ⟨T, hT⟩ : ∃ T, T = wtB l k1 := ⟨_, rfl⟩
  obtain ⟨b3, hb3⟩ : ∃ b3, b3 = (blI l k2).isSome := ⟨_, rfl⟩
  obtain ⟨k3, hk3⟩ : ∃ k3, k3 = (blI l k2).getD 0 := ⟨_, rfl⟩
  obtain ⟨b4, hb4⟩ : ∃ b4, b4 = (contI l k3).isSome := ⟨_, rfl⟩
  obtain ⟨k4, hk4⟩ : ∃ k4, k4 = (contI l k3).getD 0 := ⟨_, rfl⟩
  obtain ⟨X, hX⟩ : ∃ X, X = cutI l k3 k4 := ⟨_, rfl⟩
  obtain ⟨C, hC⟩ : ∃ C, C = txF (unSp X) := ⟨_, rfl⟩
  have e1 : b1 = true → blI l k = some k1 ∧ k < k1 ∧ Pla l k1 := fun h => by
    have h2 : blI l k = some k1 := by rw [hk1]; exact get_some (hb1.symm.trans h)
    exact ⟨h2, bl_ok hk h2⟩
  have e3 : Pla l k2 → b3 = true → blI l k2 = some k3 ∧ k2 < k3 ∧ Pla l k3 := fun hp h => by
    have h2 : blI l k2 = some k3 := by rw [hk3]; exact get_some (hb3.symm.trans h)
    exact ⟨h2, bl_ok hp h2⟩
  have e4 : Pla l k3 → b4 = true → contI l k3 = some k4 ∧ k3 < k4 ∧ Pla l k4 := fun hp h => by
    have h2 : contI l k3 = some k4 := by rw [hk4]; exact get_some (hb4.symm.trans h)
    exact ⟨h2, cont_gt hp h2⟩
  have c1 : b1 = true → BCall Tryz.prog 53 [.box 0 0] [rdB l k] (.tup []) [rdB l k1] := fun h => (cB k hk).call (by rw [(e1 h).1]; rfl)
  have p1 : b1 = false → BPan Tryz.prog 53 [.box 0 0] [rdB l k] wrongV ∧ R = none := fun h => by
    have h2 : blI l k = none := get_none (hb1.symm.trans h)
    exact ⟨(cB k hk).pan (by rw [h2]; rfl), by rw [hR, elI, h2]; rfl⟩
  have c2 : Pla l k1 → b2 = true → BCall Tryz.prog 49 [.box 0 0] [rdB l k1] (.val (.string T)) [rdB l k2] := fun hp h => (cM k1 hp).call (by rw [if_pos (hb2.symm.trans h), hT, hk2]; rfl)
  have p2 : Pla l k1 → blI l k = some k1 → b2 = false → BPan Tryz.prog 49 [.box 0 0] [rdB l k1] wrongV ∧ R = none := fun hp h0 h => by
    have h2 : ¬ okN l k1 = true := by rw [← hb2, h]; decide
    exact ⟨(cM k1 hp).pan (by rw [if_neg h2]; rfl), by rw [hR, elI, h0]; simp only; rw [if_neg h2]; rfl⟩
  have c3 : Pla l k2 → b3 = true → BCall Tryz.prog 53 [.box 0 0] [rdB l k2] (.tup []) [rdB l k3] := fun hp h => (cB k2 hp).call (by rw [(e3 hp h).1]; rfl)
  have p3 : Pla l k2 → blI l k = some k1 → b2 = true → b3 = false → BPan Tryz.prog 53 [.box 0 0] [rdB l k2] wrongV ∧ R = none := fun hp h0 h1 h => by
    have h2 : blI l k2 = none := get_none (hb3.symm.trans h)
    exact ⟨(cB k2 hp).pan (by rw [h2]; rfl), by rw [hR, elI, h0]; simp only; rw [if_pos (hb2.symm.trans h1), ← hk2, h2]; rfl⟩
  have c4 : Pla l k3 → b4 = true → BCall Tryz.prog 14 [.box 0 0] [rdB l k3] (.tup []) [rdB l k4] := fun hp h => (cC k3 hp).call (by rw [(e4 hp h).1]; rfl)
  have p4 : Pla l k3 → blI l k = some k1 → b2 = true → blI l k2 = some k3 → b4 = false → BPan Tryz.prog 14 [.box 0 0] [rdB l k3] wrongV ∧ R = none := fun hp h0 h1 h3 h => by
    have h2 : contI l k3 = none := get_none (hb4.symm.trans h)
    exact ⟨(cC k3 hp).pan (by rw [h2]; rfl), by rw [hR, elI, h0]; simp only; rw [if_pos (hb2.symm.trans h1), ← hk2, h3]; simp only; rw [h2]; rfl⟩
  have fin : blI l k = some k1 → b2 = true → blI l k2 = some k3 → contI l k3 = some k4 → R = some (elR T C, [rdB l k4]) := fun h0 h1 h3 h4 => by
    rw [hR, elI, h0]; simp only; rw [if_pos (hb2.symm.trans h1), ← hk2, h3]; simp only; rw [h4, hC, hX, hT]; rfl
  have hXl : k3 < k4 → Pla l k3 → Pla l k4 → X ≠ [] ∧ X.length ≤ 1000000 := fun h1 h2 h3 => by
    unfold Pla at h2 h3
    have e : X.length = (k4 - k3).toNat := by rw [hX, cutI, List.length_take, List.length_drop]; omega
    exact ⟨fun h => by rw [h] at e; simp at e; omega, by omega⟩
  have cX : std.cut (runesA l) k3 k4 = runesA X := by rw [hX, cut_runes]
  have hN : Pla l k1 → Pla l k2 := fun h => by rw [hk2]; exact h.nc
  have hUl : (unSp X).length ≤ X.length := List.length_filter_le _ _
  have k5 : X ≠ [] ∧ X.length ≤ 1000000 → BCall Tryz.prog 61 [.slc 1 (std.cut (runesA l) k3 k4)] [] (.row 0 0) [.row 21 1 false 0 (runesA X)] ∧
      BCall Tryz.prog 60 [.row 0 0, .val (.func (.func 47) #[] #[])] [.row 21 1 false 0 (runesA X)] (.slc 1 (runesA (unSp X))) [.row 21 1 true 1 (runesA X)] ∧
      BCall Tryz.prog 44 [.slc 1 (runesA (unSp X))] [] (.val (.string C)) [] := fun h => by
    rw [cX]
    exact ⟨RClone_row X h.2 h.1, RDelete_b X h.2 h.1, by rw [hC]; exact dtext_b _ (by omega)⟩
  clear cB cM cC hR hb1 hk1 hb2 hk2 hT hb3 hk3 hb4 hk4 hX hC cX hUl
  obtain ⟨Y, hY⟩ : ∃ Y, Y = runesA (unSp X) := ⟨_, rfl⟩
  rw [← hY] at k5
  obtain ⟨Z, hZ⟩ : ∃ Z, Z = runesA X := ⟨_, rfl⟩
  rw [← hZ] at k5
  clear hY hZ
  unfold rdB at *
  refine fnE _ _ (csEl (runesA l) b1 b2 b3 b4 k1 k2 k3 k4 T C Y Z) (fun _ => .nil) Tryz.func33 rfl fun _ _ => ?_
  with_reducible refine cv1 (runesA l) ?_
  refine ⟨fun h1 => ?_, fun h1 => ⟨(p1 h1).1, fun _ => .pan (p1 h1).2⟩⟩
  obtain ⟨a1, _, q1⟩ := e1 h1
  have q2 := hN q1
  refine ⟨c1 h1, fun h2 => ?_, fun h2 => ⟨(p2 q1 a1 h2).1, fun _ => .pan (p2 q1 a1 h2).2⟩⟩
  refine ⟨c2 q1 h2, fun h3 => ?_, fun h3 => ⟨(p3 q2 a1 h2 h3).1, fun _ => .pan (p3 q2 a1 h2 h3).2⟩⟩
  obtain ⟨a3, _, q3⟩ := e3 q2 h3
  refine ⟨c3 q2 h3, fun h4 => ?_, fun h4 => ⟨(p4 q3 a1 h2 a3 h4).1, fun _ => .pan (p4 q3 a1 h2 a3 h4).2⟩⟩
  obtain ⟨a4, a5, q4⟩ := e4 q3 h4
  obtain ⟨k51, k52, k53⟩ := k5 (hXl a5 q3 q4)
  refine ⟨c4 q3 h4, ?_, k51, k52, k53, .ok (fin a1 h2 a3 a4) ⟨[some 0], _, _, rfl, rfl, Nat.le_refl _, rfl, ?_, leA_refl rfl⟩⟩
  · show 0 ≤ k3 ∧ k3 ≤ k4 ∧ k4 ≤ ((runesA l).length : Int)
    rw [runes_len]
    unfold Pla at q3 q4
    omega
  · exact eq0
end Go.Proofs.YtdmbfngenffcaaaGreat
namespace Go.Proofs.YtdmbfngenffcaaaGreat
open Go.RowKit Go.Lib
end Go.Proofs.YtdmbfngenffcaaaGreat
namespace Go.Proofs.YtdmbfngenffcaaaGreat
open Go.RowKit Go.Lib
theorem CurB.pr {l : List Node} {b : List UInt8} {C : Nat} {c : Cur} (ha : Ar l) (hl : l.length ≤ 1000000000) (hb : b.length ≤ 1000000) (hC : C ≤ 1000000) (h : CurB l b C c) : PrOk l c.n := by
  refine ⟨hl, ha.wf, ha.wide, h.1.h0, h.1.h1, ?_, by have := h.1.co; omega⟩
  obtain ⟨pre, post, e1, _⟩ := h.2
  have := congrArg List.length e1
  simp only [List.length_append] at this
  omega
end Go.Proofs.YtdmbfngenffcaaaGreat
namespace Go.Proofs.YtdmbfngenffcaaaGreat
open Go.RowKit Go.Lib
def runesK (kind : Int) (b : List UInt8) : List Int := (pcsF kind b).map Itm.r
end Go.Proofs.YtdmbfngenffcaaaGreat
namespace Go.Proofs.YtdmbfngenffcaaaGreat
open Go.RowKit Go.Lib
theorem firstF_wide (l : List UInt8) (h : (firstF l).1 ≠ -1) : 0 < widthF (firstF l).1 := by
  have h' : ¬ ((decodeL l).1 = 65533 ∧ (decodeL l).2 = 1) := fun hh => h (by rw [firstF, if_pos hh])
  rw [firstF, if_neg h']
  show 0 < widthF ((decodeL l).1 : Int)
  clear h
  rw [decodeL_N] at h' ⊢
  have k0 := (l.getD 0 0).toNat_lt
  have k1 := (l.getD 1 0).toNat_lt
  have k2 := (l.getD 2 0).toNat_lt
  have k3 := (l.getD 3 0).toNat_lt
  rcases decodeN_shape l.length (l.getD 0 0).toNat (l.getD 1 0).toNat (l.getD 2 0).toNat (l.getD 3 0).toNat with ⟨c, e⟩ | ⟨c1, c2, c3, cv, e⟩ | ⟨c1, c2, c3, c4, cv, cs, e⟩ | ⟨c1, c2, c3, c4, c5, cv, cw, e⟩ | e
  all_goals (rw [e] at h' ⊢; dsimp only at h' ⊢)
  all_goals (try (exact absurd ⟨rfl, rfl⟩ h'))
  all_goals (unfold widthF; repeat' split)
  all_goals omega
theorem firstF_cut (l : List UInt8) (n : Nat) (hne : l ≠ []) (hn : (firstF l).2 ≤ n) : firstF (l.take n) = firstF l := by
  by_cases h : (firstF l).1 = -1
  · have h2 : firstF l = (-1, 1) := by
      unfold firstF at h ⊢
      split
      · rfl
      · rename_i h3
        rw [if_neg h3] at h
        simp only at h
        omega
    have h1 : 1 ≤ n := by rw [h2] at hn; exact hn
    have hne2 : l.take n ≠ [] := by
      intro h3
      rcases List.take_eq_nil_iff.1 h3 with h3 | h3
      · omega
      · exact hne h3
    by_cases h3 : (firstF (l.take n)).1 = -1
    · rw [h2]
      unfold firstF at h3 ⊢
      split
      · rfl
      · rename_i h4
        rw [if_neg h4] at h3
        simp only at h3
        omega
    · have g := firstF_good _ hne2 h3
      have hle := firstF_le _ hne2
      refine absurd ⟨l.drop (firstF (l.take n)).2, ?_⟩ (firstF_bad l h _ (firstF_wide _ h3))
      rw [← g, List.take_take, Nat.min_eq_left (by rw [List.length_take] at hle; omega), List.take_append_drop]
  · have g := firstF_good _ hne h
    have hw := firstF_wide _ h
    have e : l.take n = encodeRune (firstF l).1 ++ (l.drop (firstF l).2).take (n - (firstF l).2) := by
      rw [← g, ← List.drop_take]
      conv => lhs; rw [← List.take_append_drop (firstF l).2 (l.take n), List.take_take, Nat.min_eq_left hn]
    have e2 : l = encodeRune (firstF l).1 ++ l.drop (firstF l).2 := by rw [← g, List.take_append_drop]
    rw [e, firstF_enc _ hw]
    conv => rhs; rw [e2, firstF_enc _ hw]
theorem stepW_two (big : Bool) (x y : UInt8) : (stepW big [x, y]).2 = 2 := by
  unfold stepW; simp only; split <;> rfl
theorem stepW_cut (big : Bool) (l : List UInt8) (n : Nat) (hne : l ≠ []) (h : (stepW big l).2 ≤ n) : stepW big (l.take n) = stepW big l := by
  match l, hne with
  | [x], _ =>
    have h : (1 : Int) ≤ n := h
    rw [List.take_of_length_le (by simp; omega)]
  | [x, y], _ =>
    rw [stepW_two] at h
    rw [List.take_of_length_le (by simp; omega)]
  | [x, y, z], _ =>
    have e : stepW big [x, y, z] = stepW big [x, y] := rfl
    rw [e, stepW_two] at h
    by_cases h2 : n = 2
    · subst h2; rfl
    · rw [List.take_of_length_le (by simp; omega)]
  | x :: y :: x2 :: y2 :: r, _ =>
    have e : stepW big (x :: y :: x2 :: y2 :: r) = if (55296 ≤ unitI big x y ∧ unitI big x y < 56320) ∧ (56320 ≤ unitI big x2 y2 ∧ unitI big x2 y2 < 57344) then (65536 + (unitI big x y - 55296) * 1024 + (unitI big x2 y2 - 56320), 4) else stepW big [x, y] := rfl
    by_cases hC : (55296 ≤ unitI big x y ∧ unitI big x y < 56320) ∧ (56320 ≤ unitI big x2 y2 ∧ unitI big x2 y2 < 57344)
    · rw [e, if_pos hC] at h ⊢
      have h : (4 : Int) ≤ n := h
      obtain ⟨m, rfl⟩ : ∃ m, n = m + 4 := ⟨n - 4, by omega⟩
      show stepW big (x :: y :: x2 :: y2 :: r.take m) = _
      exact if_pos hC
    · rw [e, if_neg hC] at h ⊢
      rw [stepW_two] at h
      by_cases h2 : n = 2
      · subst h2; rfl
      · by_cases h3 : n = 3
        · subst h3; rfl
        · obtain ⟨m, rfl⟩ : ∃ m, n = m + 4 := ⟨n - 4, by omega⟩
          show stepW big (x :: y :: x2 :: y2 :: r.take m) = _
          exact if_neg hC
def stepK (kind : Int) (l : List UInt8) : Int × Nat := if kind = 0 then firstF l else ((stepW (decide (kind = 1)) l).1, (stepW (decide (kind = 1)) l).2.toNat)
theorem stepK_n (kind : Int) (l : List UInt8) (hne : l ≠ []) : 1 ≤ (stepK kind l).2 ∧ (stepK kind l).2 ≤ l.length := by
  unfold stepK
  split
  · exact ⟨firstF_pos l, firstF_le l hne⟩
  · have := stepW_n (decide (kind = 1)) l hne
    simp only
    omega
theorem stepK_cut (kind : Int) (l : List UInt8) (n : Nat) (hne : l ≠ []) (h : (stepK kind l).2 ≤ n) : stepK kind (l.take n) = stepK kind l := by
  unfold stepK at h ⊢
  split
  · rename_i hk
    rw [if_pos hk] at h
    exact firstF_cut l n hne h
  · rename_i hk
    rw [if_neg hk] at h
    simp only at h
    rw [stepW_cut _ l n hne (by omega)]
def pcsN (kind : Int) (n off : Nat) (l : List UInt8) : List Itm := if kind = 0 then (itemsGo n off l).map itmOf else if kind = 1 then wideF true off l else if kind = 2 then wideF false off l else []
theorem pcsN_nil (kind : Int) (n off : Nat) : pcsN kind n off [] = [] := by
  unfold pcsN
  rw [itemsGo_nil, wideF, dif_pos rfl, wideF, dif_pos rfl]
  simp
theorem wide_cons (big : Bool) (off : Nat) {l : List UInt8} (hne : l ≠ []) : wideF big off l = ⟨(stepW big l).1, (off : Int), ((stepW big l).2.toNat : Int)⟩ :: wideF big ((off + (stepW big l).2.toNat : Nat) : Int) (l.drop (stepW big l).2.toNat) := by
  have := stepW_n big l hne
  have e1 : ((stepW big l).2.toNat : Int) = (stepW big l).2 := Int.toNat_of_nonneg (by omega)
  have e2 : ((off + (stepW big l).2.toNat : Nat) : Int) = (off : Int) + (stepW big l).2 := by rw [Int.natCast_add, e1]
  rw [e2, e1]
  conv => lhs; rw [wideF, dif_neg hne]
theorem pcsN_cons {kind : Int} (hk : kind = 0 ∨ kind = 1 ∨ kind = 2) {l : List UInt8} (hne : l ≠ []) (n off : Nat) : pcsN kind (n + 1) off l = ⟨(stepK kind l).1, off, (stepK kind l).2⟩ :: pcsN kind n (off + (stepK kind l).2) (l.drop (stepK kind l).2) := by
  rcases hk with rfl | rfl | rfl
  · obtain ⟨b, t, rfl⟩ := List.exists_cons_of_ne_nil hne
    rfl
  · exact wide_cons true off hne
  · exact wide_cons false off hne
def wdK (kind : Int) : Nat → List UInt8 → Nat
  | 0, _ => 0
  | j + 1, l => if l = [] then 0 else (stepK kind l).2 + wdK kind j (l.drop (stepK kind l).2)
def rnK (kind : Int) : Nat → List UInt8 → List Int
  | 0, _ => []
  | n + 1, l => if l = [] then [] else (stepK kind l).1 :: rnK kind n (l.drop (stepK kind l).2)
theorem wdK_nil (kind : Int) (j : Nat) : wdK kind j [] = 0 := by cases j <;> rfl
theorem rnK_nil (kind : Int) (n : Nat) : rnK kind n [] = [] := by cases n <;> rfl
theorem pcsN_r {kind : Int} (hk : kind = 0 ∨ kind = 1 ∨ kind = 2) : ∀ (n off : Nat) (l : List UInt8), l.length ≤ n → (pcsN kind n off l).map Itm.r = rnK kind n l
  | 0, off, l, h => by
    obtain rfl : l = [] := List.eq_nil_of_length_eq_zero (by omega)
    rw [pcsN_nil]; rfl
  | n + 1, off, l, h => by
    by_cases hne : l = []
    · subst hne
      rw [pcsN_nil]; rfl
    · have hs := stepK_n kind l hne
      rw [pcsN_cons hk hne, rnK, if_neg hne, List.map_cons, pcsN_r hk n _ _ (by rw [List.length_drop]; omega)]
theorem pcsN_off {kind : Int} (hk : kind = 0 ∨ kind = 1 ∨ kind = 2) : ∀ (n off : Nat) (l : List UInt8), l.length ≤ n → ∀ j, j ≤ (pcsN kind n off l).length → ((pcsN kind n off l).map Itm.off ++ [((off + l.length : Nat) : Int)])[j]? = some ((off + wdK kind j l : Nat) : Int)
  | 0, off, l, h, j, hj => by
    obtain rfl : l = [] := List.eq_nil_of_length_eq_zero (by omega)
    rw [pcsN_nil] at hj ⊢
    obtain rfl : j = 0 := by simpa using hj
    rfl
  | n + 1, off, l, h, j, hj => by
    by_cases hne : l = []
    · subst hne
      rw [pcsN_nil] at hj ⊢
      obtain rfl : j = 0 := by simpa using hj
      rfl
    · have hs := stepK_n kind l hne
      rw [pcsN_cons hk hne] at hj ⊢
      cases j with
      | zero => rfl
      | succ j =>
        have ih := pcsN_off hk n (off + (stepK kind l).2) (l.drop (stepK kind l).2) (by rw [List.length_drop]; omega) j (by simpa using hj)
        rw [List.length_drop, show off + (stepK kind l).2 + (l.length - (stepK kind l).2) = off + l.length by omega] at ih
        rw [wdK, if_neg hne, ← Nat.add_assoc, ← ih]
        rfl
theorem rnK_fuel (kind : Int) : ∀ (n m : Nat) (l : List UInt8), l.length ≤ n → l.length ≤ m → rnK kind n l = rnK kind m l
  | 0, m, l, h, _ => by
    obtain rfl : l = [] := List.eq_nil_of_length_eq_zero (by omega)
    rw [rnK_nil, rnK_nil]
  | n + 1, 0, l, _, h => by
    obtain rfl : l = [] := List.eq_nil_of_length_eq_zero (by omega)
    rw [rnK_nil, rnK_nil]
  | n + 1, m + 1, l, h1, h2 => by
    by_cases hne : l = []
    · subst hne; rfl
    · have hs := stepK_n kind l hne
      rw [rnK, rnK, if_neg hne, if_neg hne, rnK_fuel kind n m _ (by rw [List.length_drop]; omega) (by rw [List.length_drop]; omega)]
theorem rnK_take (kind : Int) : ∀ (n j : Nat) (l : List UInt8), l.length ≤ n → rnK kind n (l.take (wdK kind j l)) = (rnK kind n l).take j
  | 0, j, l, h => by
    obtain rfl : l = [] := List.eq_nil_of_length_eq_zero (by omega)
    rw [wdK_nil]; simp [rnK]
  | n + 1, j, l, h => by
    by_cases hne : l = []
    · subst hne
      rw [wdK_nil, rnK_nil]; simp [rnK_nil]
    · have hs := stepK_n kind l hne
      cases j with
      | zero => rfl
      | succ j =>
        have ih := rnK_take kind n j (l.drop (stepK kind l).2) (by rw [List.length_drop]; omega)
        rw [wdK, if_neg hne]
        have hne2 : l.take ((stepK kind l).2 + wdK kind j (l.drop (stepK kind l).2)) ≠ [] := by
          intro h3
          rcases List.take_eq_nil_iff.1 h3 with h3 | h3
          · omega
          · exact hne h3
        rw [rnK, if_neg hne2, stepK_cut kind l _ hne (by omega), List.drop_take, show (stepK kind l).2 + wdK kind j (l.drop (stepK kind l).2) - (stepK kind l).2 = wdK kind j (l.drop (stepK kind l).2) by omega, ih, rnK, if_neg hne]
        rfl
theorem rnK_drop (kind : Int) : ∀ (n j : Nat) (l : List UInt8), l.length ≤ n → rnK kind n (l.drop (wdK kind j l)) = (rnK kind n l).drop j
  | 0, j, l, h => by
    obtain rfl : l = [] := List.eq_nil_of_length_eq_zero (by omega)
    rw [wdK_nil]; simp [rnK]
  | n + 1, j, l, h => by
    by_cases hne : l = []
    · subst hne
      rw [wdK_nil, rnK_nil]; simp [rnK_nil]
    · have hs := stepK_n kind l hne
      cases j with
      | zero => rfl
      | succ j =>
        have ih := rnK_drop kind n j (l.drop (stepK kind l).2) (by rw [List.length_drop]; omega)
        rw [wdK, if_neg hne, ← List.drop_drop, rnK_fuel kind (n + 1) n _ (by rw [List.length_drop, List.length_drop]; omega) (by rw [List.length_drop, List.length_drop]; omega), ih]
        conv => rhs; rw [rnK, if_neg hne]
        rfl
theorem wdK_add (kind : Int) : ∀ (f g : Nat) (l : List UInt8), wdK kind (f + g) l = wdK kind f l + wdK kind g (l.drop (wdK kind f l))
  | 0, g, l => by rw [Nat.zero_add]; show _ = 0 + wdK kind g (l.drop 0); rw [Nat.zero_add, List.drop_zero]
  | f + 1, g, l => by
    by_cases hne : l = []
    · subst hne; simp [wdK_nil]
    · rw [show f + 1 + g = (f + g) + 1 by omega, wdK, if_neg hne, wdK, if_neg hne, wdK_add kind f g, List.drop_drop]
      omega
theorem runesK_rn {kind : Int} (hk : kind = 0 ∨ kind = 1 ∨ kind = 2) (l : List UInt8) : runesK kind l = rnK kind l.length l := pcsN_r hk l.length 0 l (Nat.le_refl _)
theorem text_wd (b : List UInt8) {j : Nat} (hj : j ≤ (textF' b).r.length) : offA (textF' b) j = ((kindF b).2.toNat + wdK (kindF b).1 j (b.drop (kindF b).2.toNat) : Nat) := by
  have hb := kind_bom b
  have hj2 : j ≤ (textI b).length := by
    have : (textF' b).r.length = (textI b).length := List.length_map _
    omega
  have h := pcsN_off (kind_012 b) (b.drop (kindF b).2.toNat).length 0 (b.drop (kindF b).2.toNat) (Nat.le_refl _) j hj2
  have h : ((textI b).map Itm.off ++ [((0 + (b.drop (kindF b).2.toNat).length : Nat) : Int)])[j]? = some ((0 + wdK (kindF b).1 j (b.drop (kindF b).2.toNat) : Nat) : Int) := h
  rw [Nat.zero_add, Nat.zero_add, List.length_drop, show ((b.length - (kindF b).2.toNat : Nat) : Int) = (b.length : Int) - (kindF b).2 by omega] at h
  show ((textF' b).off[(j : Int).toNat]?.getD 0 : Int) = _
  rw [text_off, Int.toNat_natCast, List.getElem?_map, h]
  show (_ + _ : Int) = _
  rw [Int.natCast_add, Int.toNat_of_nonneg hb.1, Int.add_comm]
theorem runes_local (b : List UInt8) {f u : Int} (h0 : 0 ≤ f) (h1 : f ≤ u) (h2 : u ≤ (textF' b).r.length) : runesK (textF' b).kind (sliceF (textF' b) b f u) = ((textF' b).r.drop f.toNat).take (u - f).toNat := by
  obtain ⟨i, rfl⟩ := Int.eq_ofNat_of_zero_le h0
  obtain ⟨g, rfl⟩ : ∃ g : Nat, u = ((i + g : Nat) : Int) := ⟨(u - i).toNat, by omega⟩
  obtain ⟨c, hc⟩ : ∃ c, c = b.drop (kindF b).2.toNat := ⟨_, rfl⟩
  have e1 : ((textF' b).off[(i : Int).toNat]?.getD 0 : Int) = _ := text_wd b (j := i) (by omega)
  have e2 : ((textF' b).off[((i + g : Nat) : Int).toNat]?.getD 0 : Int) = _ := text_wd b (j := i + g) (by omega)
  have hr : (textF' b).r = rnK (kindF b).1 c.length c := by rw [hc]; exact runesK_rn (kind_012 b) _
  have hs : sliceF (textF' b) b i ((i + g : Nat) : Int) = (c.drop (wdK (kindF b).1 i c)).take (wdK (kindF b).1 g (c.drop (wdK (kindF b).1 i c))) := by
    unfold sliceF
    rw [e1, e2, ← hc, Int.toNat_natCast, wdK_add, ← List.drop_drop, ← hc]
    congr 1
    omega
  rw [hs, hr, show (((i + g : Nat) : Int) - (i : Int)).toNat = g by omega, Int.toNat_natCast]
  show runesK (kindF b).1 _ = _
  rw [runesK_rn (kind_012 b), rnK_fuel _ _ c.length _ (Nat.le_refl _) (by rw [List.length_take, List.length_drop]; omega), rnK_take _ _ _ _ (by rw [List.length_drop]; omega), rnK_drop _ _ _ _ (Nat.le_refl _)]
def shP (d : Int) (x : TPart) : TPart := ⟨x.kind, x.from_ + d, x.to + d⟩
theorem partsGo_cons {r : List Int} (h : r ≠ []) (a : Int) (first : Bool) : partsGo a first r = ⟨(tpieceF r first).1, a, a + (tpieceF r first).2⟩ :: partsGo (a + (tpieceF r first).2) false (r.drop (tpieceF r first).2.toNat) := by
  conv => lhs; rw [partsGo, dif_neg h]
theorem partsGo_sh (d : Int) : ∀ (n : Nat) (r : List Int) (a : Int) (first : Bool), r.length ≤ n → partsGo (a + d) first r = (partsGo a first r).map (shP d)
  | 0, r, a, first, h => by
    obtain rfl : r = [] := List.eq_nil_of_length_eq_zero (by omega)
    rw [partsGo, dif_pos rfl, partsGo, dif_pos rfl]; rfl
  | n + 1, r, a, first, h => by
    by_cases hr : r = []
    · rw [partsGo, dif_pos hr, partsGo, dif_pos hr]; rfl
    · have hn := tpiece_n r first hr
      have ih := partsGo_sh d n (r.drop (tpieceF r first).2.toNat) (a + (tpieceF r first).2) false (by rw [List.length_drop]; omega)
      rw [partsGo_cons hr, partsGo_cons hr, List.map_cons, ← ih, shP, show a + d + (tpieceF r first).2 = a + (tpieceF r first).2 + d by omega]
theorem takes_sh (d : Int) (ps : List TPart) (a : Nat) (ks : List Int) : takesOk (ps.map (shP d)) a ks = takesOk ps a ks := by
  unfold takesOk
  rw [← List.map_drop, ← List.map_take, List.map_map]
  rfl
theorem readP_nm (ps : List TPart) : (readP ps).name = if takesOk ps 0 [1, 2] = true then ps[1]?.getD tpart0 else tpart0 := by
  unfold readP
  split
  · simp only
    split
    · rfl
    · rfl
  · rfl
def nameL (r : List Int) : List Int := nameF' ⟨0, 0, r, []⟩ 0 r.length
theorem name_local (t : Txt) {f u : Int} (h0 : 0 ≤ f) (h1 : f ≤ u) (h2 : u ≤ t.r.length) : nameL ((t.r.drop f.toNat).take (u - f).toNat) = nameF' t f u := by
  obtain ⟨s, hs⟩ : ∃ s, s = (t.r.drop f.toNat).take (u - f).toNat := ⟨_, rfl⟩
  have hsl : (s.length : Int) = u - f := by rw [hs, List.length_take, List.length_drop]; omega
  have hs2 : (t.r.take u.toNat).drop f.toNat = s := by rw [hs, List.drop_take]; congr 1; omega
  have e1 : partsF s 0 s.length = partsGo 0 true s := by
    unfold partsF
    rw [Int.toNat_natCast, List.take_length]; rfl
  have e2 : partsF t.r f u = (partsGo 0 true s).map (shP f) := by
    unfold partsF
    rw [hs2]
    have := partsGo_sh f s.length s 0 true (Nat.le_refl _)
    rw [Int.zero_add] at this
    exact this
  rw [← hs]
  unfold nameL nameF' readF
  rw [e1, e2, readP_nm, readP_nm, takes_sh]
  obtain ⟨ps, hps⟩ : ∃ ps, ps = partsGo 0 true s := ⟨_, rfl⟩
  rw [← hps]
  split
  · rename_i ht
    have hl := ((takes_iff (Nat.zero_le _)).1 ht).1
    have hl : 2 ≤ ps.length := by simpa using hl
    have hin : ∀ x ∈ ps, _ := fun x hx => partsGo_in s s.length s 0 true (Nat.le_refl _) x (by rw [← hps]; exact hx)
    rw [List.getElem?_map, List.getElem?_eq_getElem (show 1 < ps.length by omega)]
    have hp := hin ps[1] (List.getElem_mem _)
    show (s.drop ps[1].from_.toNat).take (ps[1].to - ps[1].from_).toNat = (t.r.drop (ps[1].from_ + f).toNat).take ((ps[1].to + f) - (ps[1].from_ + f)).toNat
    rw [hs, List.drop_take, List.drop_drop, List.take_take, show (ps[1].from_ + f).toNat = f.toNat + ps[1].from_.toNat by omega, show min (ps[1].to - ps[1].from_).toNat ((u - f).toNat - ps[1].from_.toNat) = ((ps[1].to + f) - (ps[1].from_ + f)).toNat by omega]
  · rfl
theorem start_wide {r : Int} (h : isNameStart r = true) : 0 < widthF r := by
  have key : ∀ x ∈ startSp, 0 ≤ x.1 ∧ x.2 ≤ 1114111 ∧ (x.2 < 55296 ∨ 57343 < x.1) := by decide
  obtain ⟨x, hx, hr⟩ := List.any_eq_true.1 (show startSp.any (fun x => decide (x.1 ≤ r) && decide (r ≤ x.2)) = true from h)
  have hk := key x hx
  simp only [Bool.and_eq_true, decide_eq_true_eq] at hr
  unfold widthF
  repeat' split
  all_goals omega
theorem name_lead (t : Txt) {f u : Int} (h0 : 0 ≤ f) (h1 : f ≤ u) (h2 : u ≤ t.r.length) (hne : nameF' t f u ≠ []) : f + 2 ≤ u ∧ ∃ r0 rs, nameF' t f u = r0 :: rs ∧ isNameStart r0 = true := by
  obtain ⟨s, hs⟩ : ∃ s, s = (t.r.drop f.toNat).take (u - f).toNat := ⟨_, rfl⟩
  have hsl : (s.length : Int) = u - f := by rw [hs, List.length_take, List.length_drop]; omega
  have hloc := name_local t h0 h1 h2
  rw [← hs] at hloc
  rw [← hloc] at hne ⊢
  have e1 : partsF s 0 s.length = partsGo 0 true s := by
    unfold partsF
    rw [Int.toNat_natCast, List.take_length]; rfl
  have en : nameL s = (s.drop (readP (partsGo 0 true s)).name.from_.toNat).take ((readP (partsGo 0 true s)).name.to - (readP (partsGo 0 true s)).name.from_).toNat := by
    have e2 : readF s 0 s.length = readP (partsGo 0 true s) := by rw [readF, e1]
    show (s.drop (readF s 0 s.length).name.from_.toNat).take ((readF s 0 s.length).name.to - (readF s 0 s.length).name.from_).toNat = _
    rw [e2]
  rw [readP_nm] at en
  split at en
  · rename_i ht
    have ht2 := (takes_iff (Nat.zero_le _)).1 ht
    have hl : 2 ≤ (partsGo 0 true s).length := by simpa using ht2.1
    have hk2 : ((partsGo 0 true s)[1]?.getD tpart0).kind = 2 := ht2.2 1 (by decide)
    have hs0 : s ≠ [] := by
      intro h
      rw [h, partsGo, dif_pos rfl] at hl
      simp at hl
    have hn0 := tpiece_n s true hs0
    rw [partsGo_cons hs0] at hl hk2 en
    obtain ⟨x, hx⟩ : ∃ x, x = s.drop (tpieceF s true).2.toNat := ⟨_, rfl⟩
    rw [← hx] at hl hk2 en
    have hx0 : x ≠ [] := by
      intro h
      rw [h, partsGo, dif_pos rfl] at hl
      simp at hl
    have hn1 := tpiece_n x false hx0
    rw [partsGo_cons hx0] at hk2 en
    have hk2 : (tpieceF x false).1 = 2 := hk2
    have en : nameL s = (s.drop (0 + (tpieceF s true).2).toNat).take ((0 + (tpieceF s true).2 + (tpieceF x false).2) - (0 + (tpieceF s true).2)).toNat := en
    rw [show (0 + (tpieceF s true).2).toNat = (tpieceF s true).2.toNat by omega, ← hx, show ((0 + (tpieceF s true).2 + (tpieceF x false).2) - (0 + (tpieceF s true).2)).toNat = (tpieceF x false).2.toNat by omega] at en
    have hxl : x.length = s.length - (tpieceF s true).2.toNat := by rw [hx, List.length_drop]
    have hlead : 0 < leadF x 0 := by
      unfold tpieceF at hk2
      rw [if_neg (by simp), if_neg (by simp)] at hk2
      split at hk2
      · simp at hk2
      · split at hk2
        · rename_i h; omega
        · split at hk2
          · simp at hk2
          · split at hk2
            · simp at hk2
            · split at hk2 <;> simp at hk2
    obtain ⟨r0, rs, rfl⟩ := List.exists_cons_of_ne_nil hx0
    have hst : isNameStart r0 = true := by
      by_cases hq : isNameStart r0 = true
      · exact hq
      · have : leadF (r0 :: rs) 0 = 0 := by show (if isNameStart r0 then _ else 0) = 0; rw [if_neg hq]
        omega
    refine ⟨by simp only [List.length_cons] at hxl; omega, r0, rs.take ((tpieceF (r0 :: rs) false).2.toNat - 1), ?_, hst⟩
    rw [en]
    obtain ⟨q, hq⟩ : ∃ q, (tpieceF (r0 :: rs) false).2.toNat = q + 1 := ⟨_, (Nat.sub_add_cancel (by omega)).symm⟩
    rw [hq]; rfl
  · exact absurd en (by intro h; rw [h] at hne; exact hne rfl)
end Go.Proofs.YtdmbfngenffcaaaGreat
namespace Go.Proofs.YtdmbfngenffcaaaGreat
open Go.RowKit Go.Lib
def elM (l : List Node) (x : Node) : Bool := decide (x.kind = 21) && decide (kindN l (x.kids.getLast?.getD (-1)) = 22)
def n01 (b : Bool) : Nat := if b then 1 else 0
def cmF (l : List Node) : Nat → Int → Nat
  | 0, _ => 0
  | f + 1, n => n01 (elM l (nodeAt l n)) + ((nodeAt l n).kids.map (cmF l f)).sum
def cm (l : List Node) (n : Int) : Nat := cmF l (n.toNat + 1) n
theorem cmF_more {l : List Node} (hw : Wf l) : ∀ (f f' : Nat) (n : Int), 0 ≤ n → n < l.length → n.toNat < f → n.toNat < f' → cmF l f n = cmF l f' n
  | 0, _, _, _, _, h, _ => by omega
  | _ + 1, 0, _, _, _, _, h => by omega
  | f + 1, f' + 1, n, h0, h1, h2, h3 => by
    simp only [cmF]
    congr 2
    refine List.map_congr_left fun k hk => ?_
    have := hw n h0 h1 k hk
    exact cmF_more hw f f' k this.1 (by omega) (by omega) (by omega)
theorem cm_eq {l : List Node} (hw : Wf l) {n : Int} (h0 : 0 ≤ n) (h1 : n < l.length) : cm l n = n01 (elM l (nodeAt l n)) + ((nodeAt l n).kids.map (cm l)).sum := by
  show cmF l (n.toNat + 1) n = _
  simp only [cmF]
  congr 2
  refine List.map_congr_left fun k hk => ?_
  have := hw n h0 h1 k hk
  exact cmF_more hw _ _ k this.1 (by omega) (by omega) (by omega)
theorem kind_old {l : List Node} {x : Node} {n : Int} (h0 : 0 ≤ n) (h1 : n < l.length) : kindN (l ++ [x]) n = kindN l n := by unfold kindN; rw [nodeAt_old h0 h1]
theorem kind_new {l : List Node} {x : Node} : kindN (l ++ [x]) l.length = x.kind := by unfold kindN; rw [nodeAt_new]
theorem kind_neg (l : List Node) : kindN l (-1) = 0 := by unfold kindN; rw [nodeAt_out (by omega)]; rfl
theorem elM_old {l : List Node} {x : Node} (hx : InR l x.kids) (z : Node) : elM (l ++ [z]) x = elM l x := by
  unfold elM
  cases h : x.kids.getLast? with
  | none => simp only [Option.getD_none, kind_neg]
  | some k =>
    have := hx k (List.mem_of_getLast? h)
    simp only [Option.getD_some, kind_old this.1 this.2]
theorem cmF_old {l : List Node} (h : Wf l) (x : Node) : ∀ (f : Nat) (n : Int), 0 ≤ n → n < l.length → cmF (l ++ [x]) f n = cmF l f n
  | 0, _, _, _ => rfl
  | f + 1, n, h0, h1 => by
    have hr : InR l (nodeAt l n).kids := fun k hk => by have := h n h0 h1 k hk; omega
    simp only [cmF, nodeAt_old h0 h1, elM_old hr]
    congr 2
    refine List.map_congr_left fun k hk => ?_
    have := hr k hk
    exact cmF_old h x f k this.1 this.2
theorem cm_old {l : List Node} (h : Wf l) (x : Node) {n : Int} (h0 : 0 ≤ n) (h1 : n < l.length) : cm (l ++ [x]) n = cm l n := cmF_old h x _ n h0 h1
def cmL (l : List Node) (ks : List Int) : Nat := (ks.map (cm l)).sum
theorem cmL_old {l : List Node} (h : Wf l) (x : Node) {ks : List Int} (hk : InR l ks) : cmL (l ++ [x]) ks = cmL l ks :=
  congrArg List.sum (List.map_congr_left fun k hk' => cm_old h x (hk k hk').1 (hk k hk').2)
theorem cm_new {l : List Node} (h : Wf l) {x : Node} (hx : InR l x.kids) : cm (l ++ [x]) l.length = n01 (elM l x) + cmL l x.kids := by
  rw [cm_eq (wf_add h hx) (by omega) (by simp only [List.length_append, List.length_singleton]; omega), nodeAt_new, elM_old hx]
  exact congrArg (n01 (elM l x) + ·) (cmL_old h x hx)
theorem cmL_app (l : List Node) (a b : List Int) : cmL l (a ++ b) = cmL l a + cmL l b := by simp [cmL]
theorem cmL_one (l : List Node) (k : Int) : cmL l [k] = cm l k := by simp [cmL]
def cmK (l : List Node) (s : List Opn) : Nat := (s.map fun x => cmL l x.kids).sum
theorem cmK_app (l : List Node) (s : List Opn) (x : Opn) : cmK l (s ++ [x]) = cmK l s + cmL l x.kids := by simp [cmK]
theorem cmK_old {l : List Node} (h : Wf l) (x : Node) {s : List Opn} (hs : ∀ y ∈ s, InR l y.kids) : cmK (l ++ [x]) s = cmK l s :=
  congrArg List.sum (List.map_congr_left fun y hy => cmL_old h x (hs y hy))
theorem elM_leaf (l : List Node) {kind : Int} (hk : kind ≠ 21) (bs : List UInt8) : elM l (leafF kind bs) = false := by
  unfold elM
  rw [decide_eq_false (show ¬ (leafF kind bs).kind = 21 from hk)]; rfl
theorem leaf_in (l : List Node) (kind : Int) (bs : List UInt8) : InR l (leafF kind bs).kids := fun k hk => by cases hk
theorem cm_leaf {l : List Node} (h : Wf l) {kind : Int} (hk : kind ≠ 21) (bs : List UInt8) : cm (l ++ [leafF kind bs]) l.length = 0 := by
  rw [cm_new h (leaf_in l kind bs), elM_leaf l hk]; rfl
def Lead (nm : List Int) : Prop := ∃ r0 rs, nm = r0 :: rs ∧ isNameStart r0 = true
def nmN (K : Int) (l : List Node) (n : Int) : List Int := nameL (runesK K (pr l n))
structure StOk (K : Int) (l : List Node) (y : Opn) (k0 : Int) (r : List Int) : Prop where
  k : y.kids = k0 :: r
  s : kindN l k0 = 8
  n : nmN K l k0 = y.name
  l : Lead y.name
structure ElIs (K : Int) (l : List Node) (ks : List Int) (k0 : Int) (r : List Int) (kl : Int) : Prop where
  k : ks = k0 :: (r ++ [kl])
  s : kindN l k0 = 8
  ld : Lead (nmN K l k0)
  e : kindN l kl = 22 ∨ (kindN l kl = 10 ∧ nmN K l kl = nmN K l k0)
def ElOk (K : Int) (l : List Node) (n : Int) : Prop := kindN l n = 21 → ∃ k0 r kl, ElIs K l (nodeAt l n).kids k0 r kl
theorem nm_old (K : Int) {l : List Node} (h : Wf l) (x : Node) {n : Int} (h0 : 0 ≤ n) (h1 : n < l.length) : nmN K (l ++ [x]) n = nmN K l n := by unfold nmN; rw [pr_old h x h0 h1]
theorem StOk.old {K : Int} {l : List Node} (h : Wf l) {y : Opn} {k0 : Int} {r : List Int} (hr : InR l y.kids) (hs : StOk K l y k0 r) (x : Node) : StOk K (l ++ [x]) y k0 r := by
  have := hr k0 (by rw [hs.k]; simp)
  exact ⟨hs.k, by rw [kind_old this.1 this.2]; exact hs.s, by rw [nm_old K h x this.1 this.2]; exact hs.n, hs.l⟩
theorem ElIs.old {K : Int} {l : List Node} (h : Wf l) {ks : List Int} {k0 : Int} {r : List Int} {kl : Int} (hr : InR l ks) (hs : ElIs K l ks k0 r kl) (x : Node) : ElIs K (l ++ [x]) ks k0 r kl := by
  have h1 := hr k0 (by rw [hs.k]; simp)
  have h2 := hr kl (by rw [hs.k]; simp)
  refine ⟨hs.k, ?_, ?_, ?_⟩
  · rw [kind_old h1.1 h1.2]; exact hs.s
  · rw [nm_old K h x h1.1 h1.2]; exact hs.ld
  · rw [kind_old h2.1 h2.2, nm_old K h x h1.1 h1.2, nm_old K h x h2.1 h2.2]; exact hs.e
theorem el_old {K : Int} {l : List Node} (h : Wf l) {n : Int} (h0 : 0 ≤ n) (h1 : n < l.length) (he : ElOk K l n) (x : Node) : ElOk K (l ++ [x]) n := fun hk => by
  rw [kind_old h0 h1] at hk
  obtain ⟨k0, r, kl, hs⟩ := he hk
  rw [nodeAt_old h0 h1]
  exact ⟨k0, r, kl, hs.old h (fun k hk => by have := h n h0 h1 k hk; omega) x⟩
theorem el_add {K : Int} {l : List Node} (h : Wf l) (he : ∀ n : Int, 0 ≤ n → n < l.length → ElOk K l n) {x : Node} (hx : ElOk K (l ++ [x]) l.length) : ∀ n : Int, 0 ≤ n → n < (l ++ [x]).length → ElOk K (l ++ [x]) n := fun n h0 h1 => by
  simp only [List.length_append, List.length_singleton] at h1
  by_cases h2 : n < l.length
  · exact el_old h h0 h2 (he n h0 h2) x
  · obtain rfl : n = l.length := by omega
    exact hx
theorem el_not {K : Int} {l : List Node} {x : Node} (hk : x.kind ≠ 21) : ElOk K (l ++ [x]) l.length := fun h => by
  rw [kind_new] at h; exact absurd h hk
theorem drop_one {s : List Opn} {x z : Opn} : z ∈ (s ++ [x]).drop 1 ↔ z ∈ s.drop 1 ∨ (s ≠ [] ∧ z = x) := by
  cases s <;> simp
structure CIn (K : Int) (m : Mk) (c : Nat) : Prop where
  el : ∀ n : Int, 0 ≤ n → n < m.n.length → ElOk K m.n n
  st : ∀ y ∈ m.s.drop 1, ∃ k0 r, StOk K m.n y k0 r
  cm : cmK m.n m.s = c
section
variable {K : Int} {m : Mk} {X : List UInt8} {B D c : Nat}
theorem CIn.wrong (h : CIn K m c) (t : Txt) (d f u : Int) : CIn K (wrongF t d f u m) c := ⟨h.el, h.st, h.cm⟩
theorem CIn.leaf (h : MkInv m X B D) (hc : CIn K m c) {kind : Int} (hk : kind ≠ 21) (bs : List UInt8) : CIn K (kidF m.n.length (addF (leafF kind bs) m)) c := by
  obtain ⟨s0, hs0⟩ := top_split h.s1
  generalize topF m.s = y at hs0
  have hr := h.rng
  have hst := hc.st
  have hcm := hc.cm
  rw [hs0] at hr hst hcm
  have hr0 : ∀ z ∈ s0, InR m.n z.kids := fun z hz => hr z (List.mem_append_left _ hz)
  have hry : InR m.n y.kids := hr y (by simp)
  refine ⟨?_, ?_, ?_⟩
  · exact el_add h.ar.wf hc.el (el_not hk)
  · show ∀ z ∈ (kidS m.n.length m.s).drop 1, ∃ k0 r, StOk K (m.n ++ [leafF kind bs]) z k0 r
    rw [hs0, kid_app]
    intro z hz
    rcases drop_one.1 hz with hz | ⟨hne, rfl⟩
    · obtain ⟨k0, r, hs⟩ := hst z (drop_one.2 (.inl hz))
      exact ⟨k0, r, hs.old h.ar.wf (hr0 z (List.mem_of_mem_drop hz)) _⟩
    · obtain ⟨k0, r, hs⟩ := hst y (drop_one.2 (.inr ⟨hne, rfl⟩))
      have hs := hs.old h.ar.wf hry (leafF kind bs)
      exact ⟨k0, r ++ [(m.n.length : Int)], by show y.kids ++ _ = _; rw [hs.k]; rfl, hs.s, hs.n, hs.l⟩
  · show cmK (m.n ++ [leafF kind bs]) (kidS m.n.length m.s) = c
    rw [cmK_app] at hcm
    rw [hs0, kid_app, cmK_app, cmL_app, cmL_one, cmK_old h.ar.wf _ hr0, cmL_old h.ar.wf _ hry, cm_leaf h.ar.wf hk]
    exact hcm
theorem CIn.push (h : MkInv m X B D) (hc : CIn K m c) (bs : List UInt8) {nm : List Int} (hn : nameL (runesK K bs) = nm) (hl : Lead nm) : CIn K (kidF m.n.length (addF (leafF 8 bs) { m with s := m.s ++ [⟨nm, []⟩] })) c := by
  have ha := (ar_leaf h.ar 8 bs)
  have hks : ∀ z ∈ m.s, InR m.n z.kids := h.rng
  refine ⟨?_, ?_, ?_⟩
  · exact el_add h.ar.wf hc.el (el_not (by show (8 : Int) ≠ 21; decide))
  · show ∀ z ∈ (kidS m.n.length (m.s ++ [⟨nm, []⟩])).drop 1, ∃ k0 r, StOk K (m.n ++ [leafF 8 bs]) z k0 r
    rw [kid_app]
    intro z hz
    rcases drop_one.1 hz with hz | ⟨hne, rfl⟩
    · obtain ⟨k0, r, hs⟩ := hc.st z hz
      exact ⟨k0, r, hs.old h.ar.wf (hks z (List.mem_of_mem_drop hz)) _⟩
    · refine ⟨m.n.length, [], rfl, kind_new, ?_, hl⟩
      unfold nmN
      rw [ha.2]; exact hn
  · show cmK (m.n ++ [leafF 8 bs]) (kidS m.n.length (m.s ++ [⟨nm, []⟩])) = c
    rw [kid_app, cmK_app, cmL_app, cmL_one, cmK_old h.ar.wf _ hks, cm_leaf h.ar.wf (by decide)]
    exact hc.cm
theorem shut_eq {s0 : List Opn} {y x : Opn} (hs1 : m.s = s0 ++ [y] ++ [x]) (kind : Int) (bs : List UInt8) :
    (shutF m.n.length (addF (leafF kind bs) m)).n = (m.n ++ [leafF kind bs]) ++ [branchF (m.n ++ [leafF kind bs]) 21 (x.kids ++ [(m.n.length : Int)])] ∧ (shutF m.n.length (addF (leafF kind bs) m)).s = s0 ++ [⟨y.name, y.kids ++ [((m.n ++ [leafF kind bs]).length : Int)]⟩] := by
  have eT : topF (kidF (m.n.length : Int) (addF (leafF kind bs) m)).s = ⟨x.name, x.kids ++ [(m.n.length : Int)]⟩ := by
    show topF (kidS m.n.length m.s) = _
    rw [hs1, kid_app, top_app]
  constructor
  · show (m.n ++ [leafF kind bs]) ++ [branchF (m.n ++ [leafF kind bs]) 21 (topF (kidF (m.n.length : Int) (addF (leafF kind bs) m)).s).kids] = _
    rw [eT]
  · show kidS ((m.n ++ [leafF kind bs]).length : Int) ((kidS m.n.length m.s).take ((kidS m.n.length m.s).length - 1)) = _
    have e2 : (kidS m.n.length m.s).take ((kidS m.n.length m.s).length - 1) = s0 ++ [y] := by
      rw [hs1, kid_app, show (s0 ++ [y] ++ [(⟨x.name, x.kids ++ [(m.n.length : Int)]⟩ : Opn)]).length - 1 = (s0 ++ [y]).length by simp]
      exact List.take_left
    rw [e2, kid_app]
theorem two_split {s : List Opn} (hs : 2 ≤ s.length) : ∃ s0 y, s = s0 ++ [y] ++ [topF s] := by
  obtain ⟨s1, hs1⟩ := top_split (s := s) (by omega)
  have hl1 : 1 ≤ s1.length := by rw [hs1] at hs; simp at hs; omega
  obtain ⟨s0, hs0⟩ := top_split hl1
  exact ⟨s0, topF s1, by rw [← hs0]; exact hs1⟩
theorem CIn.shut (h : MkInv m X B D) (hc : CIn K m c) (hs : 2 ≤ m.s.length) {kind : Int} (bs : List UInt8) (hk : kind = 22 ∨ (kind = 10 ∧ nameL (runesK K bs) = (topF m.s).name)) : CIn K (shutF m.n.length (addF (leafF kind bs) m)) (c + n01 (decide (kind = 22))) := by
  obtain ⟨s0, y, hs1⟩ := two_split hs
  generalize topF m.s = x at hs1 hk
  obtain ⟨en, es⟩ := shut_eq hs1 kind bs
  have hk21 : kind ≠ 21 := by omega
  obtain ⟨ha1, hp1⟩ := ar_leaf h.ar kind bs
  have hr := h.rng
  have hst := hc.st
  have hcm := hc.cm
  rw [hs1] at hr hst hcm
  have hr0 : ∀ z ∈ s0, InR m.n z.kids := fun z hz => hr z (List.mem_append_left _ (List.mem_append_left _ hz))
  have hry : InR m.n y.kids := hr y (List.mem_append_left _ (by simp))
  have hrx : InR m.n x.kids := hr x (by simp)
  have hks : InR (m.n ++ [leafF kind bs]) (x.kids ++ [(m.n.length : Int)]) := fun k hk => by
    rcases List.mem_append.1 hk with hk | hk
    · exact hrx.more _ k hk
    · obtain rfl : k = (m.n.length : Int) := by simpa using hk
      simp; omega
  obtain ⟨k0, r, hx⟩ := hst x (drop_one.2 (.inr ⟨by simp, rfl⟩))
  have hx1 := hx.old h.ar.wf hrx (leafF kind bs)
  obtain ⟨l1, hl⟩ : ∃ l1, l1 = m.n ++ [leafF kind bs] := ⟨_, rfl⟩
  have hl1 : ((m.n ++ [leafF kind bs]).length : Int) = l1.length := by rw [hl]
  have hel1 := el_add h.ar.wf hc.el (x := leafF kind bs) (el_not hk21)
  have hnew : kindN (m.n ++ [leafF kind bs]) m.n.length = kind := kind_new
  have hnmn : nmN K (m.n ++ [leafF kind bs]) m.n.length = nameL (runesK K bs) := by unfold nmN; rw [hp1]
  have up0 : ∀ z : Node, cmK (l1 ++ [z]) s0 = cmK m.n s0 := fun z => by
    rw [cmK_old (by rw [hl]; exact ha1.wf) z (fun q hq => by rw [hl]; exact (hr0 q hq).more _), hl, cmK_old h.ar.wf _ hr0]
  have upy : ∀ z : Node, cmL (l1 ++ [z]) y.kids = cmL m.n y.kids := fun z => by
    rw [cmL_old (by rw [hl]; exact ha1.wf) z (by rw [hl]; exact hry.more _), hl, cmL_old h.ar.wf _ hry]
  have e1 : cmL l1 (x.kids ++ [(m.n.length : Int)]) = cmL m.n x.kids := by
    rw [hl, cmL_app, cmL_one, cmL_old h.ar.wf _ hrx, cm_leaf h.ar.wf hk21]; rfl
  rw [← hl] at ha1 hks hx1 hel1 en es hnew hnmn
  obtain ⟨z, hz⟩ : ∃ z, z = branchF l1 21 (x.kids ++ [(m.n.length : Int)]) := ⟨_, rfl⟩
  rw [← hz] at en
  have hzk : z.kids = x.kids ++ [(m.n.length : Int)] := by rw [hz]; rfl
  have hzm : elM l1 z = decide (kind = 22) := by
    unfold elM
    rw [hzk, List.getLast?_concat, Option.getD_some, hnew, hz]; rfl
  refine ⟨?_, ?_, ?_⟩
  · rw [en]
    refine el_add ha1.wf hel1 (fun _ => ⟨k0, r, m.n.length, ?_⟩)
    rw [nodeAt_new, hzk]
    refine ElIs.old ha1.wf hks ⟨by rw [hx1.k]; rfl, hx1.s, ?_, ?_⟩ z
    · rw [hx1.n]; exact hx1.l
    · rw [hnew, hnmn, hx1.n]; exact hk
  · rw [en, es]
    intro q hq
    rcases drop_one.1 hq with hq | ⟨hne, rfl⟩
    · obtain ⟨q0, qr, hq1⟩ := hst q (drop_one.2 (.inl (drop_one.2 (.inl hq))))
      have hqr := hr0 q (List.mem_of_mem_drop hq)
      have hq2 := hq1.old h.ar.wf hqr (leafF kind bs)
      rw [← hl] at hq2
      exact ⟨q0, qr, hq2.old ha1.wf (by rw [hl]; exact hqr.more _) z⟩
    · obtain ⟨q0, qr, hq1⟩ := hst y (drop_one.2 (.inl (drop_one.2 (.inr ⟨hne, rfl⟩))))
      have hq2 := hq1.old h.ar.wf hry (leafF kind bs)
      rw [← hl] at hq2
      have hq3 := hq2.old ha1.wf (by rw [hl]; exact hry.more _) z
      exact ⟨q0, qr ++ [(l1.length : Int)], by show y.kids ++ _ = _; rw [hq3.k]; rfl, hq3.s, hq3.n, hq3.l⟩
  · rw [en, es, cmK_app, cmL_app, cmL_one, up0, upy, cm_new ha1.wf (by rw [hzk]; exact hks), hzm, hzk, e1]
    rw [cmK_app, cmK_app] at hcm
    omega
def told (d : List Dg) : Nat := (d.filter fun x => decide (x.c = 4)).length
theorem told_app (d : List Dg) (x : Dg) : told (d ++ [x]) = told d + n01 (decide (x.c = 4)) := by
  unfold told n01
  rw [List.filter_append, List.length_append]
  by_cases h : x.c = 4 <;> simp [h]
def sz (m : Mk) : Nat := m.n.length + 2 * m.s.length
structure CI (K : Int) (m : Mk) (S : Nat) : Prop where
  c : CIn K m (told m.d)
  z : 2 * sz m ≤ S
theorem CI.wrong {S : Nat} (h : CI K m S) (t : Txt) {d f u : Int} (hd : d ≠ 4) : CI K (wrongF t d f u m) S := by
  refine ⟨?_, h.z⟩
  have : told (wrongF t d f u m).d = told m.d := by
    show told (m.d ++ [_]) = _
    rw [told_app, decide_eq_false (show ¬ d = 4 from hd)]; rfl
  rw [this]
  exact h.c.wrong t d f u
theorem CI.lk {S : Nat} (h : MkI m X B D) (hc : CI K m S) (t : Txt) (b : List UInt8) {kind : Int} (hk : kind ≠ 21) (f u : Int) : CI K (lkF t b kind f u m) (S + 2) := by
  refine ⟨hc.c.leaf h.i hk _, ?_⟩
  have := hc.z
  show 2 * ((m.n ++ [_]).length + 2 * (kidS _ m.s).length) ≤ _
  unfold sz at this
  rw [kidS_len]
  simp only [List.length_append, List.length_singleton]
  omega
theorem sz_shut (last : Int) (hs : 1 ≤ m.s.length) (kind : Int) (bs : List UInt8) : sz (shutF last (addF (leafF kind bs) m)) = sz m := by
  have e1 : (shutF last (addF (leafF kind bs) m)).s.length = m.s.length - 1 := by
    show (kidS _ ((kidS _ m.s).take ((kidS _ m.s).length - 1))).length = _
    rw [kidS_len, List.length_take, kidS_len]; omega
  have e2 : (shutF last (addF (leafF kind bs) m)).n.length = m.n.length + 2 := by
    show ((m.n ++ [_]) ++ [_]).length = _
    simp
  unfold sz
  omega
theorem CI.miss {S : Nat} (h : MkI m X B D) (hc : CI K m S) (hs : 2 ≤ m.s.length) (t : Txt) (a : Int) : CI K (missF t a m) S := by
  refine ⟨?_, ?_⟩
  · have h2 := CIn.shut (h.wrong t 4 a a).i (hc.c.wrong t 4 a a) hs (kind := 22) [] (.inl rfl)
    have : told (missF t a m).d = told m.d + 1 := by
      show told (m.d ++ [_]) = _
      rw [told_app]; rfl
    rw [this]
    exact h2
  · have : sz (missF t a m) = sz m := sz_shut _ (by show 1 ≤ m.s.length; omega) 22 []
    rw [this]; exact hc.z
theorem miss_names (t : Txt) (a : Int) (hs : 2 ≤ m.s.length) : (missF t a m).s.map Opn.name <+: m.s.map Opn.name := by
  obtain ⟨s0, y, hs1⟩ := two_split hs
  have e := (shut_eq (m := wrongF t 4 a a m) (s0 := s0) (y := y) (x := topF m.s) hs1 22 []).2
  have e : (missF t a m).s = _ := e
  rw [e, hs1]
  exact ⟨[(topF m.s).name], by simp⟩
end
theorem CI.missGo {K : Int} (t : Txt) (f : Int) (k : Nat) {X : List UInt8} {B D S : Nat} : ∀ (n : Nat) (m : Mk), MkI m X B D → CI K m S → k + 1 ≤ m.s.length → m.s.length ≤ n + k + 1 → CI K (missGo t f k n m) S ∧ (Go.Proofs.YtdmbfngenffcaaaGreat.missGo t f k n m).s.map Opn.name <+: m.s.map Opn.name
  | 0, m, _, hc, _, _ => ⟨hc, List.prefix_refl _⟩
  | n + 1, m, h, hc, h1, h2 => by
    show CI K (if _ then _ else _) S ∧ (if _ then _ else _ : Mk).s.map Opn.name <+: _
    split
    · have h3 := inv_miss h.i (by omega) t f
      have ih := CI.missGo t f k n _ (h.miss (by omega) t f) (hc.miss h (by omega) t f) (by omega) (by omega)
      exact ⟨ih.1, ih.2.trans (miss_names t f (by omega))⟩
    · exact ⟨hc, List.prefix_refl _⟩
theorem opnFind_name (s : List Opn) (nm : List Int) : ∀ k, opnFind s nm k ≠ 0 → (s[opnFind s nm k]?.getD ⟨[], []⟩).name = nm
  | 0, h => absurd rfl h
  | k + 1, h => by
    unfold opnFind at h ⊢
    split at h
    · rename_i h1
      rw [if_pos h1]; exact h1
    · rename_i h1
      rw [if_neg h1]; exact opnFind_name s nm k h
theorem slice_name (b : List UInt8) {f u : Int} (h0 : 0 ≤ f) (h1 : f ≤ u) (h2 : u ≤ (textF' b).r.length) : nameL (runesK (textF' b).kind (sliceF (textF' b) b f u)) = nameF' (textF' b) f u := by
  rw [runes_local b h0 h1 h2, name_local _ h0 h1 h2]
section
variable {m : Mk} {X : List UInt8} {B D S : Nat} {b : List UInt8} {f u : Int}
theorem CI.end_ (h : MkI m X B D) (hc : CI (textF' b).kind m S) (h0 : 0 ≤ f) (h1 : f ≤ u) (h2 : u ≤ (textF' b).r.length) : CI (textF' b).kind (endF' (textF' b) b 10 f u m) (S + 2) := by
  unfold endF'
  have hs1 := h.i.s1
  have hle := opnFind_le m.s (nameF' (textF' b) f u) (m.s.length - 1)
  simp only
  split
  · exact CI.lk (h.wrong (textF' b) 3 f u) (hc.wrong (textF' b) (by decide)) (textF' b) b (by decide) f u
  · rename_i hk0
    have hnm := opnFind_name m.s (nameF' (textF' b) f u) (m.s.length - 1) hk0
    obtain ⟨k, hk⟩ : ∃ k, k = opnFind m.s (nameF' (textF' b) f u) (m.s.length - 1) := ⟨_, rfl⟩
    rw [← hk] at hk0 hle hnm ⊢
    obtain ⟨h3, h4⟩ := MkI.missGo (textF' b) f k m.s.length m h (by omega) (by omega)
    obtain ⟨h5, tl, h6⟩ := CI.missGo (textF' b) f k m.s.length m h hc (by omega) (by omega)
    obtain ⟨m1, hm1⟩ : ∃ m1, m1 = Go.Proofs.YtdmbfngenffcaaaGreat.missGo (textF' b) f k m.s.length m := ⟨_, rfl⟩
    rw [← hm1] at h3 h4 h5 h6 ⊢
    have htop : (topF m1.s).name = nameF' (textF' b) f u := by
      rw [← hnm]
      have e1 : (m.s.map Opn.name)[k]? = (m1.s.map Opn.name)[k]? := by
        rw [← h6, List.getElem?_append_left (by rw [List.length_map]; omega)]
      rw [List.getElem?_map, List.getElem?_map] at e1
      unfold topF
      rw [h4, Nat.add_sub_cancel]
      have hk1 : k < m.s.length := by omega
      have hk2 : k < m1.s.length := by omega
      rw [List.getElem?_eq_getElem hk1, List.getElem?_eq_getElem hk2] at e1 ⊢
      simp only [Option.map_some, Option.some.injEq] at e1
      exact e1.symm
    refine ⟨?_, ?_⟩
    · have := CIn.shut h3.i h5.c (by omega) (kind := 10) (sliceF (textF' b) b f u) (.inr ⟨rfl, by rw [slice_name b h0 h1 h2, htop]⟩)
      exact this
    · have e : sz (shutF m1.n.length (mleafF (textF' b) b 10 f u m1)) = sz m1 := sz_shut _ (by omega) 10 _
      rw [e]
      exact Nat.le_trans h5.z (by omega)
theorem CI.start (h : MkI m X B D) (hc : CI (textF' b).kind m S) (h0 : 0 ≤ f) (h1 : f ≤ u) (h2 : u ≤ (textF' b).r.length) (hn : nameF' (textF' b) f u ≠ []) : CI (textF' b).kind (startF' (textF' b) b 8 f u m) (S + 6) := by
  unfold startF'
  split
  · have := CI.lk (h.wrong (textF' b) 5 f u) (hc.wrong (textF' b) (by decide)) (textF' b) b (kind := 8) (by decide) f u
    exact ⟨this.c, Nat.le_trans this.z (by omega)⟩
  · refine ⟨hc.c.push h.i (sliceF (textF' b) b f u) (slice_name b h0 h1 h2) (name_lead _ h0 h1 h2 hn).2, ?_⟩
    have := hc.z
    show 2 * ((m.n ++ [_]).length + 2 * (kidS _ (m.s ++ [_])).length) ≤ _
    unfold sz at this
    rw [kidS_len]
    simp only [List.length_append, List.length_singleton]
    omega
theorem CI.token (h : MkI m X B D) (hc : CI (textF' b).kind m S) {kind : Int} (hk : kind ≠ 21) (h0 : 0 ≤ f) (h1 : f < u) (h2 : u ≤ (textF' b).r.length) (wh : Bool) : CI (textF' b).kind (tokenF (textF' b) b kind f u wh m) (S + 3 * (u - f).toNat) := by
  unfold tokenF
  simp only
  generalize hm1 : (if wh = false then wrongF (textF' b) 1 f u m else if (kind = 8 ∨ kind = 9 ∨ kind = 10) ∧ (readF (textF' b).r f u).right = false then wrongF (textF' b) 2 f u m else m) = m1
  have h3 : ∃ D', MkI m1 X B D' := by
    rw [← hm1]
    split
    · exact ⟨_, h.wrong (textF' b) 1 f u⟩
    · split
      · exact ⟨_, h.wrong (textF' b) 2 f u⟩
      · exact ⟨_, h⟩
  have hc1 : CI (textF' b).kind m1 S := by
    rw [← hm1]
    split
    · exact hc.wrong (textF' b) (by decide)
    · split
      · exact hc.wrong (textF' b) (by decide)
      · exact hc
  obtain ⟨D', h3⟩ := h3
  split
  · rename_i hs
    obtain ⟨_, rfl, hs⟩ := hs
    have hn : nameF' (textF' b) f u ≠ [] := List.length_pos_iff.1 hs
    have h4 := CI.start h3 hc1 h0 (by omega) h2 hn
    have h5 := (name_lead _ h0 (by omega) h2 hn).1
    exact ⟨h4.c, Nat.le_trans h4.z (by omega)⟩
  · split
    · rename_i hs
      obtain ⟨_, rfl⟩ := hs
      have h4 := CI.end_ h3 hc1 h0 (by omega) h2
      exact ⟨h4.c, Nat.le_trans h4.z (by omega)⟩
    · have h4 := CI.lk h3 hc1 (textF' b) b hk f u
      exact ⟨h4.c, Nat.le_trans h4.z (by omega)⟩
end
theorem refF_kind (l : List Int) (k : Nat) : (refF l k).1 ≠ 21 := by
  unfold refF
  repeat' split
  all_goals (intro h; simp at h)
theorem upToF_kind (l : List Int) (kd k skip : Nat) (bs : List UInt8) : (upToF l kd k skip bs).1 = kd := by unfold upToF; split <;> rfl
theorem nextTF_kind (l : List Int) (k : Nat) : (nextTF l k).1 ≠ 21 := by
  unfold nextTF
  split
  · unfold markupF
    split
    · rw [upToF_kind]; decide
    · split
      · rw [upToF_kind]; decide
      · split
        · rw [upToF_kind]; decide
        · split
          · exact (by decide : (7 : Nat) ≠ 21)
          · split
            · exact (by decide : (10 : Nat) ≠ 21)
            · split
              · unfold startTF
                repeat' split
                all_goals (intro h; simp at h)
              · exact (by decide : (11 : Nat) ≠ 21)
  · split
    · exact refF_kind l k
    · split
      · exact (by decide : (11 : Nat) ≠ 21)
      · exact (by decide : (1 : Nat) ≠ 21)
theorem CI.toks {b : List UInt8} (hb : b.length ≤ 1000000) : ∀ (n k : Nat) (m : Mk) (B D S : Nat), (textF' b).r.length - k ≤ n → k ≤ (textF' b).r.length → MkI m (upTo (textF' b) b k) B D → CI (textF' b).kind m S →
    CI (textF' b).kind ((toksGo (textF' b).r k).foldl (tokM (textF' b) b) m) (S + 3 * ((textF' b).r.length - k))
  | 0, k, m, B, D, S, h, hk, hi, hc => by
    rw [toksGo_nil (by omega)]
    exact ⟨hc.c, Nat.le_trans hc.z (by omega)⟩
  | n + 1, k, m, B, D, S, h, hk, hi, hc => by
    have ok := (text_ok b).1
    have hr : (textF' b).r.length ≤ 1000000 := Nat.le_trans (text_ok b).2.2.1 hb
    by_cases hlt : k < (textF' b).r.length
    · obtain ⟨h1, h2, h3, h4⟩ := tok_in (textF' b).r hlt
      rw [toksGo_cons hlt, List.foldl_cons]
      have := hi.token (textF' b) b hr (tokAt (textF' b).r k).kind (tokAt (textF' b).r k).from_ (tokAt (textF' b).r k).to (tokAt (textF' b).r k).whole
      rw [h1, h2, upTo_slice ok (by omega) (by omega) (by omega)] at this
      have hkd : (tokAt (textF' b).r k).kind ≠ 21 := by
        show (((nextTF (textF' b).r k).1 : Nat) : Int) ≠ 21
        have := nextTF_kind (textF' b).r k
        omega
      have hc2 := CI.token hi hc hkd (f := k) (u := ((nextTF (textF' b).r k).2.1 : Nat)) (by omega) (by omega) (by omega) (tokAt (textF' b).r k).whole
      have h5 := CI.toks hb n (nextTF (textF' b).r k).2.1 _ (B + 3) (D + 3) _ (by omega) h4 this hc2
      have e : tokM (textF' b) b m (tokAt (textF' b).r k) = tokenF (textF' b) b (tokAt (textF' b).r k).kind k ((nextTF (textF' b).r k).2.1 : Nat) (tokAt (textF' b).r k).whole m := rfl
      rw [e]
      exact ⟨h5.c, Nat.le_trans h5.z (by omega)⟩
    · rw [toksGo_nil hlt]
      exact ⟨hc.c, Nat.le_trans hc.z (by omega)⟩
end Go.Proofs.YtdmbfngenffcaaaGreat
namespace Go.Proofs.YtdmbfngenffcaaaGreat
open Go.RowKit Go.Lib
structure Evr where
  do_ : Int
  kind : Int
  b : Option (List UInt8)
  deriving Inhabited
def Evr.ev (x : Evr) : Ev := ⟨x.do_, x.kind, x.b.getD []⟩
def Evr.ba (x : Evr) : AV := match x.b with | some b => .slc 1 (bytesA b) | none => nilA
structure RSt where
  op : List (List Int)
  ev : List Evr
  wr : List Dg
  deriving Inhabited
def rWrong (t : Txt) (c f u : Int) (s : RSt) : RSt := ⟨s.op, s.ev, s.wr ++ [⟨offA t f, offA t u, c⟩]⟩
def rLeaf (t : Txt) (b : List UInt8) (kind f u : Int) (s : RSt) : RSt := ⟨s.op, s.ev ++ [⟨2, kind, some (sliceF t b f u)⟩], s.wr⟩
def rLack (t : Txt) (a : Int) (s : RSt) : RSt := ⟨s.op.take (s.op.length - 1), s.ev ++ [⟨2, 22, none⟩, ⟨3, 0, none⟩], s.wr ++ [⟨offA t a, offA t a, 4⟩]⟩
def rFind (op : List (List Int)) (nm : List Int) : Nat → Int
  | 0 => -1
  | k + 1 => if op[k]?.getD [] = nm then k else rFind op nm k
def rLackGo (t : Txt) (f : Int) (k : Nat) : Nat → RSt → RSt
  | 0, s => s
  | n + 1, s => if k < s.op.length then rLackGo t f k n (rLack t f s) else s
def rStart (t : Txt) (b : List UInt8) (kind f u : Int) (s : RSt) : RSt :=
  if 64 ≤ s.op.length then rLeaf t b kind f u (rWrong t 5 f u s)
  else rLeaf t b kind f u ⟨s.op ++ [nameF' t f u], s.ev ++ [⟨1, 0, none⟩], s.wr⟩
def rEnd (t : Txt) (b : List UInt8) (kind f u : Int) (s : RSt) : RSt :=
  if rFind s.op (nameF' t f u) s.op.length < 0 then rLeaf t b kind f u (rWrong t 3 f u s)
  else
    let s1 := rLeaf t b kind f u (rLackGo t f ((rFind s.op (nameF' t f u) s.op.length).toNat + 1) (s.op.length + 1) s)
    ⟨s1.op.take (rFind s.op (nameF' t f u) s.op.length).toNat, s1.ev ++ [⟨3, 0, none⟩], s1.wr⟩
def rToken (t : Txt) (b : List UInt8) (kind f u : Int) (wh : Bool) (s : RSt) : RSt :=
  let s1 := if wh = false then rWrong t 1 f u s else if (kind = 8 ∨ kind = 9 ∨ kind = 10) ∧ (readF t.r f u).right = false then rWrong t 2 f u s else s
  if wh = true ∧ kind = 8 ∧ 0 < (nameF' t f u).length then rStart t b kind f u s1
  else if wh = true ∧ kind = 10 then rEnd t b kind f u s1
  else rLeaf t b kind f u s1
def rTok (t : Txt) (b : List UInt8) (s : RSt) (x : Tok) : RSt := rToken t b x.kind x.from_ x.to x.whole s
theorem spF_old {l : List Node} (h : Wf l) (x : Node) : ∀ (f : Nat) (n : Int) (top : Bool), 0 ≤ n → n < l.length → spF (l ++ [x]) f n top = spF l f n top
  | 0, _, _, _, _ => rfl
  | f + 1, n, top, h0, h1 => by
    simp only [spF, nodeAt_old h0 h1]
    have e1 : pr (l ++ [x]) n = pr l n := pr_old h x h0 h1
    have e2 : (nodeAt l n).kids.flatMap (fun k => spF (l ++ [x]) f k false) = (nodeAt l n).kids.flatMap (fun k => spF l f k false) := by
      refine congrArg List.flatten (List.map_congr_left fun k hk => ?_)
      have := h n h0 h1 k hk
      exact spF_old h x f k false this.1 (by omega)
    rw [e1, e2]
theorem sp_old {l : List Node} (h : Wf l) (x : Node) {n : Int} (top : Bool) (h0 : 0 ≤ n) (h1 : n < l.length) : spV (l ++ [x]) n top = spV l n top := spF_old h x _ n top h0 h1
def spL (l : List Node) (ks : List Int) : List Ev := ks.flatMap fun k => spV l k false
theorem spL_old {l : List Node} (h : Wf l) (x : Node) {ks : List Int} (hk : InR l ks) : spL (l ++ [x]) ks = spL l ks :=
  congrArg List.flatten (List.map_congr_left fun k hk' => sp_old h x false (hk k hk').1 (hk k hk').2)
theorem spL_app (l : List Node) (a b : List Int) : spL l (a ++ b) = spL l a ++ spL l b := by simp [spL]
theorem spL_one (l : List Node) (k : Int) : spL l [k] = spV l k false := by simp [spL]
theorem sp_leaf {l : List Node} (h : Ar l) {kind : Int} (hk : kind ≠ 21) (bs : List UInt8) : spV (l ++ [leafF kind bs]) l.length false = [⟨2, kind, bs⟩] := by
  have ha := ar_leaf h kind bs
  rw [spN_eq ha.1.wf (by omega) (by simp only [List.length_append, List.length_singleton]; omega), nodeAt_new, if_pos ⟨hk, rfl⟩, ha.2]; rfl
theorem sp_branch {l : List Node} (h : Ar l) {ks : List Int} (hk : InR l ks) : spV (l ++ [branchF l 21 ks]) l.length false = ⟨1, 0, []⟩ :: (spL l ks ++ [⟨3, 0, []⟩]) := by
  have ha := ar_branch h 21 hk
  rw [spN_eq ha.1.wf (by omega) (by simp only [List.length_append, List.length_singleton]; omega), nodeAt_new, if_neg (fun e => e.1 rfl), if_neg (by decide), if_neg (by decide)]
  show [_] ++ spL (l ++ [branchF l 21 ks]) ks ++ _ = _
  rw [spL_old h.wf _ hk]; rfl
def evO (l : List Node) (x : Opn) : List Ev := ⟨1, 0, []⟩ :: spL l x.kids
def evS (l : List Node) (s : List Opn) : List Ev := s.flatMap (evO l)
theorem evS_app (l : List Node) (s : List Opn) (x : Opn) : evS l (s ++ [x]) = evS l s ++ evO l x := by simp [evS]
theorem evS_old {l : List Node} (h : Wf l) (x : Node) {s : List Opn} (hs : ∀ y ∈ s, InR l y.kids) : evS (l ++ [x]) s = evS l s :=
  congrArg List.flatten (List.map_congr_left fun y hy => by unfold evO; rw [spL_old h x (hs y hy)])
structure Rel (m : Mk) (s : RSt) : Prop where
  op : s.op = (m.s.drop 1).map Opn.name
  wr : s.wr = m.d
  ev : (⟨1, 0, []⟩ : Ev) :: s.ev.map Evr.ev = evS m.n m.s
theorem drop1_app {s : List Opn} (hs : s ≠ []) (x : Opn) : (s ++ [x]).drop 1 = s.drop 1 ++ [x] := by
  cases s with
  | nil => exact absurd rfl hs
  | cons a r => rfl
section
variable {m : Mk} {s : RSt} {X : List UInt8} {B D : Nat}
theorem Rel.len (h : Rel m s) : s.op.length = m.s.length - 1 := by rw [h.op]; simp
theorem Rel.wrong (h : Rel m s) (t : Txt) (c f u : Int) : Rel (wrongF t c f u m) (rWrong t c f u s) :=
  ⟨h.op, by show s.wr ++ _ = m.d ++ _; rw [h.wr], h.ev⟩
theorem Rel.leaf (hm : MkInv m X B D) (h : Rel m s) {kind : Int} (hk : kind ≠ 21) (bs : List UInt8) (q : Option (List UInt8)) (hq : q.getD [] = bs) : Rel (kidF m.n.length (addF (leafF kind bs) m)) ⟨s.op, s.ev ++ [⟨2, kind, q⟩], s.wr⟩ := by
  obtain ⟨s0, hs0⟩ := top_split hm.s1
  generalize topF m.s = y at hs0
  have hr := hm.rng
  have ho := h.op
  have he := h.ev
  rw [hs0] at hr ho he
  have hr0 : ∀ z ∈ s0, InR m.n z.kids := fun z hz => hr z (List.mem_append_left _ hz)
  have hry : InR m.n y.kids := hr y (by simp)
  refine ⟨?_, h.wr, ?_⟩
  · show s.op = ((kidS m.n.length m.s).drop 1).map Opn.name
    rw [hs0, kid_app, ho]
    cases s0 <;> simp
  · show (⟨1, 0, []⟩ : Ev) :: (s.ev ++ [(⟨2, kind, q⟩ : Evr)]).map Evr.ev = evS (m.n ++ [leafF kind bs]) (kidS m.n.length m.s)
    rw [evS_app] at he
    rw [hs0, kid_app, evS_app, evS_old hm.ar.wf _ hr0]
    unfold evO
    rw [spL_app, spL_one, spL_old hm.ar.wf _ hry, sp_leaf hm.ar hk, List.map_append, ← List.cons_append, he]
    unfold evO Evr.ev
    rw [← hq]
    simp
theorem Rel.push (hm : MkInv m X B D) (h : Rel m s) (bs : List UInt8) (nm : List Int) (k : Int) (hk : k ≠ 21) : Rel (kidF m.n.length (addF (leafF k bs) { m with s := m.s ++ [⟨nm, []⟩] })) ⟨s.op ++ [nm], (s.ev ++ [⟨1, 0, none⟩]) ++ [⟨2, k, some bs⟩], s.wr⟩ := by
  have hne : m.s ≠ [] := fun e => by have := hm.s1; rw [e] at this; simp at this
  refine ⟨?_, h.wr, ?_⟩
  · show s.op ++ [nm] = ((kidS m.n.length (m.s ++ [⟨nm, []⟩])).drop 1).map Opn.name
    rw [kid_app, drop1_app hne, List.map_append, ← h.op]; rfl
  · show (⟨1, 0, []⟩ : Ev) :: ((s.ev ++ [(⟨1, 0, none⟩ : Evr)]) ++ [(⟨2, k, some bs⟩ : Evr)]).map Evr.ev = evS (m.n ++ [leafF k bs]) (kidS m.n.length (m.s ++ [⟨nm, []⟩]))
    rw [kid_app, evS_app, evS_old hm.ar.wf _ hm.rng, ← h.ev]
    unfold evO
    rw [List.nil_append, spL_one, sp_leaf hm.ar hk]
    simp [Evr.ev]
theorem take_less (s0 : List Opn) (y x : Opn) (z : List Int) : (((s0 ++ [y] ++ [x]).drop 1).map Opn.name).take ((((s0 ++ [y] ++ [x]).drop 1).map Opn.name).length - 1) = ((s0 ++ [(⟨y.name, z⟩ : Opn)]).drop 1).map Opn.name := by
  cases s0 with
  | nil => rfl
  | cons a r =>
    have e : ((a :: r ++ [y] ++ [x]).drop 1).map Opn.name = (r.map Opn.name ++ [y.name]) ++ [x.name] := by simp
    rw [e, List.length_append, List.length_singleton, Nat.add_sub_cancel, List.take_left]
    simp
theorem Rel.shut (hm : MkInv m X B D) (h : Rel m s) (hs : 2 ≤ m.s.length) {kind : Int} (hk : kind ≠ 21) (bs : List UInt8) (q : Option (List UInt8)) (hq : q.getD [] = bs) :
    Rel (shutF m.n.length (addF (leafF kind bs) m)) ⟨s.op.take (s.op.length - 1), s.ev ++ [⟨2, kind, q⟩, ⟨3, 0, none⟩], s.wr⟩ := by
  obtain ⟨s0, y, hs1⟩ := two_split hs
  generalize topF m.s = x at hs1
  obtain ⟨en, es⟩ := shut_eq hs1 kind bs
  obtain ⟨ha1, hp1⟩ := ar_leaf hm.ar kind bs
  have hr := hm.rng
  have ho := h.op
  have he := h.ev
  rw [hs1] at hr ho he
  have hr0 : ∀ z ∈ s0, InR m.n z.kids := fun z hz => hr z (List.mem_append_left _ (List.mem_append_left _ hz))
  have hry : InR m.n y.kids := hr y (List.mem_append_left _ (by simp))
  have hrx : InR m.n x.kids := hr x (by simp)
  have hks : InR (m.n ++ [leafF kind bs]) (x.kids ++ [(m.n.length : Int)]) := fun k hk => by
    rcases List.mem_append.1 hk with hk | hk
    · exact hrx.more _ k hk
    · obtain rfl : k = (m.n.length : Int) := by simpa using hk
      simp; omega
  have hsp := sp_branch ha1 hks
  have e1 : spL (m.n ++ [leafF kind bs]) (x.kids ++ [(m.n.length : Int)]) = spL m.n x.kids ++ [⟨2, kind, bs⟩] := by
    rw [spL_app, spL_one, spL_old hm.ar.wf _ hrx, sp_leaf hm.ar hk]
  rw [e1] at hsp
  obtain ⟨l1, hl⟩ : ∃ l1, l1 = m.n ++ [leafF kind bs] := ⟨_, rfl⟩
  rw [← hl] at hsp en es ha1
  generalize branchF l1 21 (x.kids ++ [(m.n.length : Int)]) = z at hsp en
  have up0 : evS (l1 ++ [z]) s0 = evS m.n s0 := by
    rw [evS_old ha1.wf z (fun q hq => by rw [hl]; exact (hr0 q hq).more _), hl, evS_old hm.ar.wf _ hr0]
  have upy : spL (l1 ++ [z]) y.kids = spL m.n y.kids := by
    rw [spL_old ha1.wf z (by rw [hl]; exact hry.more _), hl, spL_old hm.ar.wf _ hry]
  refine ⟨?_, h.wr, ?_⟩
  · show s.op.take (s.op.length - 1) = _
    rw [es, ho, take_less]
  · show (⟨1, 0, []⟩ : Ev) :: (s.ev ++ [(⟨2, kind, q⟩ : Evr), ⟨3, 0, none⟩]).map Evr.ev = _
    rw [evS_app, evS_app] at he
    rw [en, es, evS_app, up0, List.map_append, ← List.cons_append, he]
    unfold evO
    rw [spL_app, spL_one, upy, hsp, ← hq]
    simp [Evr.ev]
theorem Rel.miss (hm : MkInv m X B D) (h : Rel m s) (hs : 2 ≤ m.s.length) (t : Txt) (a : Int) : Rel (missF t a m) (rLack t a s) :=
  Rel.shut (inv_wrong hm t 4 a a) (h.wrong t 4 a a) hs (kind := 22) (by decide) [] none rfl
end
theorem Rel.missGo (t : Txt) (f : Int) (k : Nat) {X : List UInt8} {B D : Nat} : ∀ (n : Nat) (m : Mk) (s : RSt), MkInv m X B D → Rel m s → Rel (Go.Proofs.YtdmbfngenffcaaaGreat.missGo t f k n m) (rLackGo t f k n s)
  | 0, m, s, _, h => h
  | n + 1, m, s, hm, h => by
    show Rel (if _ then _ else _) (if _ then _ else _)
    rw [h.len]
    split
    · exact Rel.missGo t f k n _ _ (inv_miss hm (by omega) t f).1 (h.miss hm (by omega) t f)
    · exact h
theorem find_eq (s : List Opn) (nm : List Int) : ∀ k, ((opnFind s nm k : Nat) : Int) = rFind ((s.drop 1).map Opn.name) nm k + 1
  | 0 => rfl
  | k + 1 => by
    unfold opnFind rFind
    have e : ((s.drop 1).map Opn.name)[k]?.getD [] = (s[k + 1]?.getD ⟨[], []⟩).name := by
      rw [List.getElem?_map, List.getElem?_drop, Nat.add_comm 1 k]
      cases s[k + 1]? <;> rfl
    rw [e]
    split
    · rfl
    · exact find_eq s nm k
section
variable {m : Mk} {s : RSt} {X : List UInt8} {B D : Nat} {t : Txt} {b : List UInt8} {f u : Int}
theorem Rel.lk (hm : MkInv m X B D) (h : Rel m s) {kind : Int} (hk : kind ≠ 21) : Rel (lkF t b kind f u m) (rLeaf t b kind f u s) :=
  Rel.leaf hm h hk (sliceF t b f u) (some (sliceF t b f u)) rfl
theorem Rel.start (hm : MkInv m X B D) (h : Rel m s) {kind : Int} (hk : kind ≠ 21) : Rel (startF' t b kind f u m) (rStart t b kind f u s) := by
  have h1 := hm.s1
  unfold startF' rStart
  rw [h.len]
  by_cases hc : 64 < m.s.length
  · rw [if_pos hc, if_pos (by omega)]
    exact Rel.lk (inv_wrong hm t 5 f u) (h.wrong t 5 f u) hk
  · rw [if_neg hc, if_neg (by omega)]
    exact Rel.push hm h (sliceF t b f u) (nameF' t f u) kind hk
theorem Rel.end_ (hm : MkInv m X B D) (h : Rel m s) {kind : Int} (hk : kind ≠ 21) : Rel (endF' t b kind f u m) (rEnd t b kind f u s) := by
  have h1 := hm.s1
  have hf := find_eq m.s (nameF' t f u) (m.s.length - 1)
  have hle := opnFind_le m.s (nameF' t f u) (m.s.length - 1)
  rw [← h.op] at hf
  unfold endF' rEnd
  rw [h.len]
  simp only
  generalize hK : opnFind m.s (nameF' t f u) (m.s.length - 1) = K at hf hle ⊢
  generalize hR : rFind s.op (nameF' t f u) (m.s.length - 1) = r at hf ⊢
  by_cases hc : K = 0
  · rw [if_pos hc, if_pos (by omega)]
    exact Rel.lk (inv_wrong hm t 3 f u) (h.wrong t 3 f u) hk
  · rw [if_neg hc, if_neg (by omega)]
    have hr : r.toNat + 1 = K := by omega
    rw [show m.s.length - 1 + 1 = m.s.length by omega, hr]
    obtain ⟨h3, h4⟩ := inv_missGo t f K m.s.length m hm (by omega) (by omega)
    have h5 := Rel.missGo t f K m.s.length m s hm h
    have h6 := h5.len
    have h7 := Rel.shut h3 h5 (by omega) hk (sliceF t b f u) (some (sliceF t b f u)) rfl
    have e : r.toNat = (rLackGo t f K m.s.length s).op.length - 1 := by omega
    show Rel _ ⟨(rLackGo t f K m.s.length s).op.take r.toNat, ((rLackGo t f K m.s.length s).ev ++ [_]) ++ [_], _⟩
    rw [e, List.append_assoc]
    exact h7
theorem Rel.token (hm : MkInv m X B D) (h : Rel m s) {kind : Int} (hk : kind ≠ 21) (wh : Bool) : Rel (tokenF t b kind f u wh m) (rToken t b kind f u wh s) := by
  unfold tokenF rToken
  simp only
  generalize hm1 : (if wh = false then wrongF t 1 f u m else if (kind = 8 ∨ kind = 9 ∨ kind = 10) ∧ (readF t.r f u).right = false then wrongF t 2 f u m else m) = m1
  generalize hs1 : (if wh = false then rWrong t 1 f u s else if (kind = 8 ∨ kind = 9 ∨ kind = 10) ∧ (readF t.r f u).right = false then rWrong t 2 f u s else s) = s1
  have h3 : ∃ D', MkInv m1 X B D' ∧ Rel m1 s1 := by
    rw [← hm1, ← hs1]
    split
    · exact ⟨_, inv_wrong hm t 1 f u, h.wrong t 1 f u⟩
    · split
      · exact ⟨_, inv_wrong hm t 2 f u, h.wrong t 2 f u⟩
      · exact ⟨_, hm, h⟩
  obtain ⟨D', h3, h4⟩ := h3
  split
  · exact Rel.start h3 h4 hk
  · split
    · exact Rel.end_ h3 h4 hk
    · exact Rel.lk h3 h4 hk
end
theorem Rel.toks {t : Txt} {b : List UInt8} (ok : TxtOk t b) (hr : t.r.length ≤ 1000000) : ∀ (n k : Nat) (m : Mk) (s : RSt) (B D : Nat), t.r.length - k ≤ n → k ≤ t.r.length → MkI m (upTo t b k) B D → Rel m s →
    Rel ((toksGo t.r k).foldl (tokM t b) m) ((toksGo t.r k).foldl (rTok t b) s)
  | 0, k, m, s, B, D, h, hk, hi, hc => by
    rw [toksGo_nil (by omega)]; exact hc
  | n + 1, k, m, s, B, D, h, hk, hi, hc => by
    by_cases hlt : k < t.r.length
    · obtain ⟨h1, h2, h3, h4⟩ := tok_in t.r hlt
      rw [toksGo_cons hlt, List.foldl_cons, List.foldl_cons]
      have := hi.token t b hr (tokAt t.r k).kind (tokAt t.r k).from_ (tokAt t.r k).to (tokAt t.r k).whole
      rw [h1, h2, upTo_slice ok (by omega) (by omega) (by omega)] at this
      have hkd : (tokAt t.r k).kind ≠ 21 := by
        show (((nextTF t.r k).1 : Nat) : Int) ≠ 21
        have := nextTF_kind t.r k
        omega
      have h5 : Rel (tokenF t b (tokAt t.r k).kind k ((nextTF t.r k).2.1 : Nat) (tokAt t.r k).whole m) (rTok t b s (tokAt t.r k)) := Rel.token hi.i hc hkd _
      exact Rel.toks ok hr n (nextTF t.r k).2.1 _ _ (B + 3) (D + 3) (by omega) h4 this h5
    · rw [toksGo_nil hlt]; exact hc
end Go.Proofs.YtdmbfngenffcaaaGreat
namespace Go.Proofs.YtdmbfngenffcaaaGreat
open Go.RowKit Go.Lib
theorem RefStarts_b (l : List Int) (hl : l.length ≤ 1000000000) (hi : I32 l) (k : Int) (h0 : 0 ≤ k) (hk : k ≤ l.length) (s : ByteArray) (hs : s.size ≤ 1000000000) : BCall Tryz.prog 41 [.slc 1 (runesA l), .val (.int .i64 k), .val (.string s)] [] (.val (.bool (startsF l k.toNat s.data.toList))) [] := by
  refine BCall.hand (enters_of Tryz.func41 (by kernel_rfl) rfl) fun w g vs M hL => ?_
  obtain ⟨v1, vs1, rfl, h1, hL⟩ := argsCons hL
  obtain ⟨v2, vs2, rfl, h2, hL⟩ := argsCons hL
  obtain ⟨v3, vs3, rfl, h3, hL⟩ := argsCons hL
  obtain rfl := argsNil hL
  obtain ⟨A, c, rfl, hr⟩ := runes_rd h1 M
  obtain rfl := argVal h2
  obtain rfl := argVal h3
  have := RStarts_any _ A _ c l k.toNat s w hr (by omega) hl hs hi
  rw [Int.toNat_of_nonneg h0] at this
  exact this.mono fun e w' ⟨h, hb⟩ => ⟨_, h, hb, PRel.val _ rfl⟩
theorem RefSpace_b (r : Int) : BCall Tryz.prog 40 [.val (.int .i32 r)] [] (.val (.bool (isSpace r))) [] := by
  refine BCall.hand (enters_of Tryz.func40 (by kernel_rfl) rfl) fun w g vs M hL => ?_
  obtain ⟨v1, vs1, rfl, h1, hL⟩ := argsCons hL
  obtain rfl := argsNil hL
  obtain rfl := argVal h1
  exact (RSpace_any r w).mono fun e w' ⟨h, hb⟩ => ⟨_, h, hb ▸ Below.refl _ _, PRel.val _ rfl⟩
end Go.Proofs.YtdmbfngenffcaaaGreat
namespace Go.Proofs.YtdmbfngenffcaaaGreat
open Go.RowKit Go.Lib
end Go.Proofs.YtdmbfngenffcaaaGreat
namespace Go.Proofs.YtdmbfngenffcaaaGreat
open Go.RowKit Go.Lib
end Go.Proofs.YtdmbfngenffcaaaGreat
namespace Go.Proofs.YtdmbfngenffcaaaGreat
open Go.RowKit Go.Lib
end Go.Proofs.YtdmbfngenffcaaaGreat
namespace Go.Proofs.YtdmbfngenffcaaaGreat
open Go.RowKit Go.Lib
end Go.Proofs.YtdmbfngenffcaaaGreat
namespace Go.Proofs.YtdmbfngenffcaaaGreat
open Go.RowKit Go.Lib
end Go.Proofs.YtdmbfngenffcaaaGreat
namespace Go.Proofs.YtdmbfngenffcaaaGreat
open Go.RowKit Go.Lib
def Un (l : List Int) : Prop := ∀ x ∈ l, -1 ≤ x ∧ x ≤ 1114111
theorem Un.i32 {l : List Int} (h : Un l) : I32 l := fun x hx => by have := h x hx; omega
theorem Un.at_ {l : List Int} (h : Un l) (i : Int) (h0 : 0 ≤ i) (h1 : i < l.length) : -1 ≤ l[i.toNat]?.getD 0 ∧ l[i.toNat]?.getD 0 ≤ 1114111 := by
  rw [List.getElem?_eq_getElem (by omega)]
  exact h _ (List.getElem_mem _)
end Go.Proofs.YtdmbfngenffcaaaGreat
