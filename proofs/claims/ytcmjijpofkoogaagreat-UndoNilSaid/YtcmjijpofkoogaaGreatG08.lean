/- Lemmas, conditions told -/
import Derived.Test.YtcmjijpofkoogaaGreatG07
import Derived.Laws.StructEq
import Derived.Maps.RangeRun
set_option linter.unusedSimpArgs false
set_option linter.unusedVariables false
namespace Go.Proofs.YtcmjijpofkoogaaGreat
open Go.RowKit Go.Lib
section
variable {P : Program} {ty : Tys} {Df : List Deferred} {w0 : World} {g0 : Gh} {o0 : List Ob} {N : Nat} {Q : Ex → St → Prop} {w w' : World} {g g' : Gh} {ob ob' : List Ob}
theorem Ext.addRow (x : Ob) : Ext w g ob w g (ob ++ [x]) :=
  ⟨fun _ _ h => ⟨h, rfl⟩, fun _ _ => rfl, fun id h => by rw [get_old (isBox_lt h)]; exact h, fun id h => by rw [get_old (isIt_lt h)]; exact h,
    fun id et sz fz e xs h => ⟨fz, e, xs, by rw [get_old (lt_of_some h)]; exact h, Nat.le_refl _, fun _ => .inl ⟨rfl, fun _ h => ⟨h, rfl⟩⟩⟩, fun _ _ _ _ => ⟨rfl, fun _ _ h => h⟩⟩
theorem Mem.addRow (M : Mem w g ob) {et sz : Nat} (hs : 0 < sz) : Mem w g (ob ++ [.row et sz false 0 []]) := by
  have E := Ext.addRow (w := w) (g := g) (ob := ob) (.row et sz false 0 [])
  have last : ∀ {id : Nat} {y : Ob}, (ob ++ [.row et sz false 0 []])[id]? = some y → id < ob.length ∧ ob[id]? = some y ∨ y = .row et sz false 0 [] := fun {id y} h => by
    by_cases hl : id < ob.length
    · rw [get_old hl] at h; exact .inl ⟨hl, h⟩
    · have hid : id = ob.length := by have := lt_of_some h; simp at this; omega
      subst hid
      rw [get_new] at h
      exact .inr (by simpa using h.symm)
  refine ⟨fun id cs h => ?_, fun id cs h j u hj => ?_, fun id y h => ?_, fun b id h => ⟨(M.own b id h).1, by have := (M.own b id h).2; simp; omega⟩, fun b o hA => ⟨(M.imm b o hA).1, fun id hG hs => ?_⟩, fun id et' sz' fz e xs h => ?_, fun b hs => ?_, M.uniq⟩
  · rcases last h with ⟨_, h⟩ | h
    · obtain ⟨h1, cur, T, h2, h3⟩ := M.box id cs h
      exact ⟨h1, cur, T, h2, h3.ext E⟩
    · cases h
  · rcases last h with ⟨_, h⟩ | h
    · exact M.fbox id cs h j u hj
    · cases h
  · rcases last h with ⟨_, h⟩ | h
    · exact ⟨(M.iter id y h).1, (M.iter id y h).2.len (by simp)⟩
    · cases h
  · obtain ⟨et', sz', e, xs, h3, h4⟩ := (M.imm b o hA).2 id hG hs
    exact ⟨et', sz', e, xs, by rw [get_old (lt_of_some h3)]; exact h3, h4⟩
  · rcases last h with ⟨_, h⟩ | h
    · exact M.roww id et' sz' fz e xs h
    · cases h; exact ⟨hs, fun x hx => by cases hx⟩
  · obtain ⟨id, et', sz', fz, e, xs, h3, h4⟩ := M.nsub b hs
    exact ⟨id, et', sz', fz, e, xs, h3, by rw [get_old (lt_of_some h4)]; exact h4⟩
theorem Step.addRow (x : Ob) : Step w g ob w g (ob ++ [x]) :=
  ⟨rfl, rfl, rfl, Nat.le_refl _, fun _ _ _ => rfl, fun _ _ h => .inl ⟨_, h⟩, fun _ _ h => .inl h, Ext.addRow x, by simp⟩
theorem src_rel (hT : TyOk P ty) {s : St} (M : Mem w g s.ob) {E U : Nat} {v : Value} {y : AV} (hv : ARel w g s.ob v y) {sz : Nat} {news : List AV} (h : srcOf std ty s E U y = some (sz, news)) (hel : (tyLook E ty).size = sz) (hsz : 0 < sz)
    (hw : ∀ x ∈ news, x.cells.length = sz) :
    ∃ d zs, P.underlying U = some d ∧ ((∃ e', d = .slice e') ∨ d = .string) ∧ zs.length = news.length * sz ∧ Alike w g.A zs (flatA news) ∧ (∀ W, (Builtin.lenOf v).run P W = .ok news.length W) ∧
      ∀ W : World, W.heap = w.heap → (Builtin.firstCells sz news.length v).run P W = .ok zs.toArray W := by
  unfold srcOf at h
  split at h
  · rename_i b
    split at h
    · rename_i hk
      obtain ⟨rfl, rfl⟩ : 1 = sz ∧ std.bytesS b = news := by simpa using h
      have hb : std.isB (std.bytesS b) := fun x hx => by
        obtain ⟨n, _, rfl⟩ := List.mem_map.1 (show x ∈ b.data.toList.map _ from hx)
        exact ⟨n, rfl⟩
      have hl : (std.bytesS b).length = b.size := by show (b.data.toList.map _).length = _; simp
      rw [hv.valEq]
      refine ⟨.string, strCells b, (ty_kd hT hk.1 (by decide)).str hk.1, .inr rfl, by rw [strCells_length, hl, Nat.mul_one], ?_, fun W => by rw [hl]; rfl, fun W _ => by rw [hl]; exact run_firstCells_string W 1 b⟩
      rw [isB_flat hb]
      refine ⟨by rw [strCells_length, hl], fun j y u hy hu => ?_⟩
      have hu : (b.data.toList.map fun x => AV.val (.int .u8 x.toNat))[j]? = some u := hu
      simp only [strCells, List.getElem?_map, Option.map_eq_some_iff] at hy hu
      obtain ⟨c, hc, rfl⟩ := hy
      obtain ⟨c', hc', rfl⟩ := hu
      rw [hc] at hc'; cases hc'
      exact PRel.val _ rfl
    · cases h
  · split at h
    · rename_i hk
      obtain ⟨_, rfl⟩ : _ ∧ [] = news := by simpa using h
      rw [hv.valEq]
      exact ⟨_, [], (ty_sl hT hk).slice hk, .inl ⟨_, rfl⟩, by simp, Alike.nil, fun W => rfl, fun W _ => rfl⟩
    · cases h
  · split at h
    · rename_i hk
      obtain ⟨A, c, ys, rfl, hr, hal⟩ := elems_rel M hv h
      refine ⟨_, ys, (ty_sl hT hk).slice hk, .inl ⟨_, rfl⟩, hr.len, hal, fun W => rfl, fun W hW => ?_⟩
      rcases Nat.eq_zero_or_pos news.length with h0 | h0
      · have hy : ys = [] := List.eq_nil_of_length_eq_zero (by rw [hr.len, h0, Nat.zero_mul])
        subst hy
        rw [h0]
        cases A <;> simp [Builtin.firstCells, loadCells, loadCellsFrom]
      · obtain ⟨b, o, rfl, _, hc⟩ := hr.at_ h0
        refine run_firstCells_some (P := P) W sz news.length _ _ _ ys hr.len (fun j u hj => ?_)
        rw [Addr.add_mid, show W.cell? ⟨b, o + j, none⟩ = w.cell? ⟨b, o + j, none⟩ from by simp only [World.cell?, hW]]
        exact hc j u hj
    · cases h
set_option maxHeartbeats 1000000 in
theorem append_core (hT : TyOk P ty) {s : St} {a : Act} {w : World} (M : Mem w g ob) {T U : Nat} {id et sz ep : Nat} {fz : Bool} {xs xs' news : List AV} (h : ob[id]? = some (.row et sz fz ep xs)) {v : Value}
    (hv : RowV w g id et sz v xs') (hfz : fz = true → xs' = xs) (hel : elOk ty T sz = true) (het : et = (tyLook T ty).elem) {d : TypeDesc} {y : Value} {zs : List Value} (hu : P.underlying U = some d) (hd : (∃ e', d = .slice e') ∨ d = .string)
    (hzl : zs.length = news.length * sz) (hal : Alike w g.A zs (flatA news)) (hlen : ∀ W, (Builtin.lenOf y).run P W = .ok news.length W)
    (hfc : ∀ W : World, W.heap = w.heap → (Builtin.firstCells sz news.length y).run P W = .ok zs.toArray W) (hw : ∀ x ∈ news, x.cells.length = sz) (hsub : subOk et news = true) (hb : xs'.length + news.length ≤ 1000000000) (tyR : TypeId) :
    ∃ v' w', (Builtin.append_ #[T, U] tyR #[v, y]).run P w = .ok v' w' ∧ Mem w' (g.grow id v'.ownBlock) (ob.set id (.row et sz fz (ep + 1) (xs' ++ news))) ∧
      Step w g ob w' (g.grow id v'.ownBlock) (ob.set id (.row et sz fz (ep + 1) (xs' ++ news))) ∧ RowV w' (g.grow id v'.ownBlock) id et sz v' (xs' ++ news) := by
  obtain ⟨e, hT1, hee, te, hes, hpos⟩ := el_facts hT hel
  obtain ⟨ie, z, hie, hies, hieb, hiz, hzc, _⟩ := te.i
  have heq : et = e := het.trans hee.symm
  subst heq
  obtain ⟨ys, ho, hG, hya, hyw, hys⟩ := hv
  have hzs : z.cells.size = sz := by
    have := congrArg List.length hzc
    rw [Array.length_toList, te.zl, hes] at this
    exact this
  obtain ⟨v', w', hr, h1, h2, h3, h4⟩ := append_any (P := P) (w := w) (ty := tyR) hT1 hu hd hie hiz (hies.trans hes) (by rw [hieb]; exact te.by_) hzs ho hzl hlen hfc hal.one hb
  have hww : ∀ x ∈ xs' ++ news, x.cells.length = sz := fun x hx => by
    rcases List.mem_append.1 hx with hx | hx
    · exact hyw x hx
    · exact hw x hx
  have hvb : ∀ b, v'.ownBlock = some b → v.ownBlock = some b ∨ (w.heap.size ≤ b ∧ b < w'.heap.size) := fun b hb => by
    rcases h3 with h5 | h5
    · exact .inl (h5 ▸ hb)
    · have hlt := (h1.lt b hb).2
      rw [hb] at h5
      cases h5
      exact .inr ⟨Nat.le_refl _, hlt⟩
  obtain ⟨E, M'⟩ := M.grow (fz' := fz) h (fun h => h) h2 (fun b hb => ⟨hG b hb, hys.1 b hb⟩) hvb (n := xs'.length) h4 (fun hf => by rw [hfz hf]; exact Nat.le_refl _) (fun hf => by rw [List.length_append, hfz hf]; omega) hww
  refine ⟨v', w', hr, M', Step.grow M h h2 (fun b hb => hG b hb) hvb E, ys ++ zs, by rw [List.length_append]; exact h1, fun b hb => ?_, ?_, hww, fun b hb => ?_, fun he j y hy hj => ?_⟩
  · exact Gh.grow_self hb
  · show Alike _ _ _ ((xs' ++ news).flatMap AV.cells)
    rw [List.flatMap_append]
    exact (hya.append hal).keep E.A
  · rcases h3 with h3 | h3
    · exact hys.1 b (h3 ▸ hb)
    · rw [hb] at h3
      obtain rfl : b = w.heap.size := by simpa using h3
      exact M.sub_new (Nat.le_refl _)
  · have hyl : ys.length = xs'.length * sz := by rw [hya.1, flat_len xs' hyw]
    have old : ∀ {j : Nat} {y : Value}, (ys ++ zs)[j]? = some y → j % sz = 1 → (ys[j]? = some y) ∨ y = .slice none 0 0 := fun {j y} hy hj => by
      by_cases hlt : j < ys.length
      · rw [List.getElem?_append_left hlt] at hy; exact .inl hy
      · rw [List.getElem?_append_right (by omega)] at hy
        refine .inr (nil_kids (g := g) (w := w) hsub hal hw he hy ?_)
        rw [hyl]
        have : j = (j - xs'.length * sz) + xs'.length * sz := by omega
        rw [this, Nat.add_mul_mod_self_right] at hj
        exact hj
    rcases old hy hj with h5 | rfl
    · obtain ⟨⟨k, us, h6, h7⟩, h8⟩ := hys.2 he j y h5 hj
      have ne : ∀ {b : Nat}, y.ownBlock = some b → some b ≠ v.ownBlock := fun {b} hb h9 => by
        have := hys.1 b h9.symm
        rw [(h7 b hb).2.1] at this; cases this
      refine ⟨⟨k, us, ownsRow_ext h6 fun b hb => ?_, fun b hb => ?_⟩, fun i z b hz hi hzb hyb => ?_⟩
      · exact h2.block b (M.own b id (h7 b hb).1).1 (ne hb)
      · obtain ⟨h9, h10, h11⟩ := h7 b hb
        exact ⟨M.grow_sub (fun b hb => ⟨hG b hb, hys.1 b hb⟩) hvb h9 h10, h10, h11⟩
      · rcases old hz hi with h9 | rfl
        · exact h8 i z b h9 hi hzb hyb
        · cases hzb
    · exact ⟨KidV.nil, fun _ _ b _ _ _ h => by cases h⟩
theorem src_w {s : St} (M : Mem w g s.ob) {E U : Nat} {v : Value} {y : AV} (hv : ARel w g s.ob v y) {sz : Nat} {news : List AV} (h : srcOf std ty s E U y = some (sz, news)) : ∀ x ∈ news, x.cells.length = sz := by
  have cutw : ∀ {xs : List AV} {k : Int}, (∀ x ∈ xs, x.cells.length = sz) → ∀ x ∈ std.cut xs 0 k, x.cells.length = sz := fun hw x hx => by
    have : x ∈ (_ : List AV) := hx
    exact hw x (List.mem_of_mem_drop (List.mem_of_mem_take hx))
  unfold srcOf at h
  split at h
  · split at h
    · obtain ⟨rfl, rfl⟩ : 1 = sz ∧ std.bytesS _ = news := by simpa using h
      intro x hx
      obtain ⟨n, _, rfl⟩ := List.mem_map.1 (show x ∈ List.map _ _ from hx)
      rfl
    · cases h
  · split at h
    · obtain ⟨_, rfl⟩ : _ ∧ [] = news := by simpa using h
      intro x hx; cases hx
    · cases h
  · split at h
    · cases y with
      | slc sz' l =>
        obtain ⟨rfl, rfl⟩ : sz' = sz ∧ l = news := by simpa [elems] using h
        cases (show PRel w g.A v (.slc sz' l) from hv) with
        | nil => intro x hx; cases hx
        | slc b o c _ _ f hc hm hw hcell hrel => exact hw
      | row id ep =>
        obtain ⟨_, et, sz', fz, e, xs', h1, h2, h3⟩ := hv
        simp only [elems, h1] at h
        split at h
        · obtain ⟨rfl, rfl⟩ : sz' = sz ∧ xs' = news := by simpa using h
          exact (M.roww _ _ _ _ _ _ h1).2
        · cases h
      | rowk id ep k =>
        obtain ⟨_, et, sz', fz, e, xs', h1, h2, h3⟩ := hv
        simp only [elems, h1] at h
        split at h
        · obtain ⟨rfl, rfl⟩ : sz' = sz ∧ std.cut xs' 0 k = news := by simpa using h
          exact cutw (M.roww _ _ _ _ _ _ h1).2
        · cases h
      | _ => simp [elems] at h
    · cases h
theorem op_append_row (hT : TyOk P ty) {K : St → Tree} {o : Oper} {s : St} {a : Act} {w : World} {R : Exit → Act → World → Prop} (hs : Sim Df w0 g0 o0 N s a w) (hd : ∀ t, o.dst = some t → t < N)
    {x y : Operand} {args : Array Operand} {tys : Array TypeId} (ho : o.op = .call { callee := .builtin .append, args := args, argTypes := tys }) (ha : args.toList = [x, y]) {T U : Nat} (ht : tys.toList = [T, U])
    {ob : List Ob} (hob : ∀ g, Mem w g s.ob → Mem w g ob ∧ Ext w g s.ob w g ob ∧ Step w g s.ob w g ob) {id et sz ep : Nat} {fz : Bool} {xs xs' news : List AV} (h : ob[id]? = some (.row et sz fz ep xs))
    (hv : ∀ g, Mem w g s.ob → Slots w g s a → RowV w g id et sz (a.eval x) xs') (hfz : fz = true → xs' = xs) (hel : elOk ty T sz = true) (het : et = (tyLook T ty).elem)
    (hsrc : srcOf std ty s et U (ev s y) = some (sz, news)) (hsub : subOk et news = true) (hb : std.bnd xs' news)
    (hok : (K (St.put ⟨s.tm, ob.set id (.row et sz fz (ep + 1) (std.app xs' news))⟩ o.dst (.row id (ep + 1)))).ok Df P w0 g0 o0 N Q) : o.wp P a w (Good Df ty P w0 g0 o0 N Q K o.op w) R := by
  obtain ⟨g, M, hS, h0⟩ := hs.rel
  obtain ⟨M1, E1, S1⟩ := hob g M
  obtain ⟨e, hT1, hee, te, hes, hpos⟩ := el_facts hT hel
  have hyr := ev_rel hS y
  have hw := src_w M hyr hsrc
  have hes' : (tyLook et ty).size = sz := by rw [het, ← hee]; exact hes
  obtain ⟨d, zs, hu, hd', hzl, hal, hlen, hfc⟩ := src_rel hT M hyr hsrc hes' hpos hw
  obtain ⟨v', w', hr, M2, S2, R2⟩ := append_core hT (a := a) (s := s) M1 h (hv g M hS) hfz hel het hu hd' hzl hal hlen hfc hw hsub hb o.type
  have hargs : args = #[x, y] := by apply Array.ext'; simpa using ha
  have htys : tys = #[T, U] := by apply Array.ext'; simpa using ht
  subst hargs htys
  have hrun : (execOp a.eval o).run P w = .ok (.value v') w' := by
    obtain ⟨cs, hc⟩ := exec_builtin (P := P) (a := a) ho w
    rw [hc]
    show (do pure (Next.value (← Builtin.append_ #[T, U] o.type (Array.map a.eval #[x, y]))) : Sem Next).run P w = _
    refine run_valW ?_
    simpa using hr
  have hS1 : Slots w g ⟨s.tm, ob⟩ a := fun t => (hS t).ext E1
  have hs1 : Sim Df w0 g0 o0 N ⟨s.tm, ob⟩ a w := ⟨hs.defers, hs.size, g, M1, hS1, h0.trans S1⟩
  refine wp_ok hrun ⟨fun h => by simp [ho, quietW] at h, _, sim_put (s := ⟨s.tm, ob⟩) hs1 hS1 (h0.trans S1) M2 S2 hd ?_, hok⟩
  refine ⟨?_, et, sz, fz, ep + 1, xs' ++ news, List.getElem?_set_self (lt_of_some h), Nat.le_refl _, fun _ => R2⟩
  obtain ⟨ys, ho2, _⟩ := R2
  rcases ho2.2 with ⟨rfl, _⟩ | ⟨b, cap, cur, rfl, _⟩ <;> rfl
end
end Go.Proofs.YtcmjijpofkoogaaGreat
namespace Go.Proofs.YtcmjijpofkoogaaGreat
open Go.RowKit Go.Lib
section
variable {P : Program} {ty : Tys} {Df : List Deferred} {w0 : World} {g0 : Gh} {o0 : List Ob} {N : Nat} {Q : Ex → St → Prop} {w w' : World} {g g' : Gh} {ob ob' : List Ob}
theorem op_bytes (hT : TyOk P ty) {K : St → Tree} {o : Oper} {s : St} {a : Act} {w : World} {R : Exit → Act → World → Prop} (hs : Sim Df w0 g0 o0 N s a w) (hd : ∀ t, o.dst = some t → t < N)
    {src dst : Nat} {x : Operand} (ho : o.op = .convert src dst x) {b : ByteArray} (hx : ev s x = .val (.string b)) (h1 : (tyLook src ty).kd = 6) (h2 : (tyLook dst ty).sl = true) (h3 : (tyLook (tyLook dst ty).elem ty).kind = some .u8) (hb : b.size ≤ 1000000000)
    (hok : (K (St.put s o.dst (.slc 1 (std.bytesS b)))).ok Df P w0 g0 o0 N Q) : o.wp P a w (Good Df ty P w0 g0 o0 N Q K o.op w) R := by
  obtain ⟨g, M, hS, h0⟩ := hs.rel
  have hxr := ev_rel hS x
  rw [hx] at hxr
  have hs1 := (ty_kd hT h1 (by decide)).str h1
  have hs2 := (ty_sl hT h2).slice h2
  have hs3 := (ty_kind hT h3).int h3
  have hge := grownCap_ge w b.size 0 (tyLook dst ty).elem
  have hmx := grownCap_le_maxLen w b.size 0 (tyLook dst ty).elem (by unfold maxLen; omega)
  have hr := run_bytes_of_string (P := P) w src dst _ b hs1 hs2 hs3
  generalize hC : bytesRow b (grownCap w b.size 0 (tyLook dst ty).elem) = C at hr
  generalize grownCap w b.size 0 (tyLook dst ty).elem = c at *
  have hbel : Below w.heap.size w (w.drew.alloc (.cells C (tyLook dst ty).elem (C.size, C.size + 1))) := (Below.refl _ w).drew.alloc (Nat.le_refl _) _
  have M' := M.immNew hbel
  have hrun : (execOp a.eval o).run P w = .ok (.value (.slice (some ⟨w.heap.size, 0, none⟩) b.size c)) (w.drew.alloc (.cells C (tyLook dst ty).elem (C.size, C.size + 1))) := by
    simp only [execOp, ho, hxr.valEq]
    exact run_valW hr
  have hl : (std.bytesS b).length = b.size := by show (b.data.toList.map _).length = _; simp
  have hbb : std.isB (std.bytesS b) := fun x hx => by
    obtain ⟨n, _, rfl⟩ := List.mem_map.1 (show x ∈ b.data.toList.map _ from hx)
    exact ⟨n, rfl⟩
  have hcell : ∀ (j : Nat) u, (flatA (std.bytesS b))[j]? = some u → ∃ n : UInt8, C[j]? = some (.int .u8 n.toNat) ∧ u = .val (.int .u8 n.toNat) := fun j u hu => by
    rw [isB_flat hbb] at hu
    have hu : (b.data.toList.map fun x => AV.val (.int .u8 x.toNat))[j]? = some u := hu
    rw [List.getElem?_map, Option.map_eq_some_iff] at hu
    obtain ⟨n, hn, rfl⟩ := hu
    have hj := lt_of_some hn
    refine ⟨n, ?_, rfl⟩
    rw [← hC, bytesRow, Array.getElem?_append_left (by simpa using hj)]
    rw [Array.getElem?_map, ← Array.getElem?_toList, hn]; rfl
  have hA : ∀ j, (g.imm w (w.drew.alloc (.cells C (tyLook dst ty).elem (C.size, C.size + 1)))).A w.heap.size j := fun j => .inr ⟨Nat.le_refl _, by simp⟩
  refine wp_ok hrun ⟨fun _ => hbel, _, sim_put hs hS h0 M' (Step.immNew M hbel) hd ?_, hok⟩
  have := PRel.slc (w := w.drew.alloc (.cells C (tyLook dst ty).elem (C.size, C.size + 1))) (A := (g.imm w (w.drew.alloc (.cells C (tyLook dst ty).elem (C.size, C.size + 1)))).A) w.heap.size 0 c 1 (std.bytesS b) (fun j => (C[j]?).getD undef) (by rw [hl]; exact hge) hmx
    (fun x hx => by obtain ⟨n, rfl⟩ := hbb x hx; rfl) (fun j u hu => by
      obtain ⟨n, h4, _⟩ := hcell j u hu
      refine ⟨hA _, ?_⟩
      rw [Nat.zero_add, h4]
      exact (World.cell?_alloc_mark w.drew C _ _ j).trans h4) (fun j u hu => by
      obtain ⟨n, h4, rfl⟩ := hcell j u hu
      simp only [h4]
      exact PRel.val _ rfl)
  rw [hl] at this
  exact this
theorem mark_heap {b b' n : Nat} (h : b' ≠ b) : (w.freeze ⟨b, n, none⟩ 1).heap[b']? = w.heap[b']? := by
  unfold World.freeze
  rw [if_neg (by decide)]
  simp only [Array.getElem?_modify]
  rw [if_neg (by omega)]
theorem mark_cell {b n : Nat} (p : Addr) : (w.freeze ⟨b, n, none⟩ 1).cell? p = w.cell? p := by
  unfold World.freeze
  rw [if_neg (by decide)]
  unfold World.cell?
  simp only [Array.getElem?_modify]
  by_cases hb : b = p.block
  · rw [if_pos hb]
    cases w.heap[p.block]? with
    | none => rfl
    | some o => cases o <;> rfl
  · rw [if_neg hb]
theorem mark_mem (M : Mem w g ob) {id et sz e b : Nat} {fz : Bool} {xs : List AV} (h : ob[id]? = some (.row et sz fz e xs)) (hG : g.G b = some id) (n : Nat) :
    Mem (w.freeze ⟨b, n, none⟩ 1) g (ob.set id (.row et sz fz (e + 1) xs)) ∧ Step w g ob (w.freeze ⟨b, n, none⟩ 1) g (ob.set id (.row et sz fz (e + 1) xs)) := by
  have hid := lt_of_some h
  have hsz : (w.freeze ⟨b, n, none⟩ 1).heap.size = w.heap.size := by
    unfold World.freeze
    rw [if_neg (by decide)]
    simp
  have E : Ext w g ob (w.freeze ⟨b, n, none⟩ 1) g (ob.set id (.row et sz fz (e + 1) xs)) := by
    refine ⟨fun b o h => ⟨h, mark_cell _⟩, fun _ _ => rfl, fun i hi => ?_, fun i hi => ?_, fun i et' sz' fz2 e2 xs2 hi => ?_, fun b' i _ _ => ⟨rfl, fun _ _ h => h⟩⟩
    · have : i ≠ id := by rintro rfl; rw [h] at hi; exact hi
      rw [List.getElem?_set_ne (Ne.symm this)]; exact hi
    · have : i ≠ id := by rintro rfl; rw [h] at hi; exact hi
      rw [List.getElem?_set_ne (Ne.symm this)]; exact hi
    · by_cases e' : i = id
      · subst e'
        rw [h] at hi
        obtain ⟨rfl, rfl, rfl, rfl, rfl⟩ : et = et' ∧ sz = sz' ∧ fz = fz2 ∧ e = e2 ∧ xs = xs2 := by simpa using hi
        exact ⟨fz, e + 1, xs, List.getElem?_set_self hid, by omega, fun he => by omega⟩
      · refine ⟨fz2, e2, xs2, by rw [List.getElem?_set_ne (Ne.symm e')]; exact hi, Nat.le_refl _, fun _ => .inl ⟨rfl, fun b' hG' => ⟨hG', mark_heap ?_⟩⟩⟩
        rintro rfl
        rw [hG] at hG'
        exact e' (by simpa using hG'.symm)
  refine ⟨⟨fun i cs hi => ?_, fun i cs hi j u hj => ?_, fun i y hi => ?_, fun b i hG => ⟨by rw [hsz]; exact (M.own b i hG).1, by rw [List.length_set]; exact (M.own b i hG).2⟩, fun b' o hA => ⟨by rw [hsz]; exact (M.imm b' o hA).1, fun i hGi hs => ?_⟩, fun i et' sz' fz2 e2 xs2 hi => ?_, fun b' hs => ?_, M.uniq⟩,
    ⟨rfl, rfl, rfl, by rw [hsz]; exact Nat.le_refl _, fun b' _ hN => mark_heap (by rintro rfl; rw [hG] at hN; cases hN), fun b' i h => .inl ⟨i, h⟩, fun b' o h => .inl h, E, by simp⟩⟩
  · have e' : i ≠ id := by rintro rfl; rw [List.getElem?_set_self hid] at hi; cases hi
    rw [List.getElem?_set_ne (Ne.symm e')] at hi
    obtain ⟨h1, cur, T, h2, h3⟩ := M.box i cs hi
    refine ⟨h1, cur, T, ?_, h3.ext E⟩
    rw [mark_heap]
    · exact h2
    · intro hb
      rw [hb, hG] at h1
      exact e' (by simpa using h1.symm)
  · have e' : i ≠ id := by rintro rfl; rw [List.getElem?_set_self hid] at hi; cases hi
    rw [List.getElem?_set_ne (Ne.symm e')] at hi
    obtain ⟨h1, y, h2, h3⟩ := M.fbox i cs hi j u hj
    exact ⟨h1, y, by rw [mark_cell]; exact h2, h3.keep E.A⟩
  · have e' : i ≠ id := by rintro rfl; rw [List.getElem?_set_self hid] at hi; cases hi
    rw [List.getElem?_set_ne (Ne.symm e')] at hi
    obtain ⟨h1, h2⟩ := M.iter i y hi
    refine ⟨h1, h2.at E.A E.loc (by simp) ?_⟩
    rw [mark_heap]
    · intro hb
      rw [hb, hG] at h1
      exact e' (by simpa using h1.symm)
  · obtain ⟨et', sz', e2, xs2, h3, h4⟩ := (M.imm b' o hA).2 i hGi hs
    by_cases e' : i = id
    · subst e'
      rw [h] at h3
      obtain ⟨rfl, rfl, rfl, rfl, rfl⟩ : et = et' ∧ sz = sz' ∧ fz = true ∧ e = e2 ∧ xs = xs2 := by simpa using h3
      exact ⟨et, sz, e + 1, xs, List.getElem?_set_self hid, h4⟩
    · exact ⟨et', sz', e2, xs2, by rw [List.getElem?_set_ne (Ne.symm e')]; exact h3, h4⟩
  · by_cases e' : i = id
    · subst e'
      rw [List.getElem?_set_self hid] at hi
      cases hi
      exact M.roww _ _ _ _ _ _ h
    · rw [List.getElem?_set_ne (Ne.symm e')] at hi
      exact M.roww i _ _ _ _ _ hi
  · obtain ⟨i, et', sz', fz2, e2, xs2, h3, h4⟩ := M.nsub b' hs
    by_cases e' : i = id
    · subst e'
      exact ⟨i, _, _, _, _, _, h3, List.getElem?_set_self hid⟩
    · exact ⟨i, et', sz', fz2, e2, xs2, h3, by rw [List.getElem?_set_ne (Ne.symm e')]; exact h4⟩
theorem op_mark (hT : TyOk P ty) {K : St → Tree} {o : Oper} {s : St} {a : Act} {w : World} {R : Exit → Act → World → Prop} (hs : Sim Df w0 g0 o0 N s a w) (hd : ∀ t, o.dst = some t → t < N)
    {src : Nat} {x : Operand} (ho : o.op = .convert src src x) {id et e : Nat} {xs : List AV} (hx : ev s x = .row id e) (hob : s.ob[id]? = some (.row et 1 false e xs)) (h2 : (tyLook src ty).sl = true) (h3 : (tyLook (tyLook src ty).elem ty).kind = some .u8) (hm : xs ≠ [])
    (hok : (K (St.put ⟨s.tm, s.ob.set id (.row et 1 true (e + 1) xs)⟩ o.dst (.slc 1 xs))).ok Df P w0 g0 o0 N Q) : o.wp P a w (Good Df ty P w0 g0 o0 N Q K o.op w) R := by
  obtain ⟨g, M, hS, h0⟩ := hs.rel
  have hxr := ev_rel hS x
  rw [hx] at hxr
  obtain ⟨_, et', sz', fz', e', xs', h4, _, h5⟩ := hxr
  rw [hob] at h4
  cases h4
  have hrow := h5 rfl
  obtain ⟨ys, hown, hG, hal, hw, hsub⟩ := h5 rfl
  have hs2 := (ty_sl hT h2).slice h2
  have hs3 := (ty_kind hT h3).int h3
  obtain ⟨g1, M1, E1, hr1, hL1⟩ := freeze_row M hob hrow (Nat.le_refl _)
  obtain ⟨hlen, hnil | ⟨b, cap, cur, hv, hle, hheap, hrest⟩⟩ := hown
  · exfalso
    apply hm
    exact List.eq_nil_of_length_eq_zero hnil.2
  have hGb : g.G b = some id := hG b (by rw [hv]; rfl)
  have hG1 : g1.G b = some id := by
    have := (E1.row id et 1 false e xs hob)
    obtain ⟨fz1, e1, xs1, k1, k2, k3⟩ := this
    rw [List.getElem?_set_self (lt_of_some hob)] at k1
    obtain ⟨rfl, rfl, rfl⟩ : true = fz1 ∧ e = e1 ∧ xs = xs1 := by simpa using k1
    exact (k3 rfl).G hGb
  have hob1 : (s.ob.set id (.row et 1 true e xs))[id]? = some (.row et 1 true e xs) := List.getElem?_set_self (lt_of_some hob)
  obtain ⟨M2, S2⟩ := mark_mem M1 hob1 hG1 cur.size
  rw [List.set_set] at M2 S2
  have hrun : (execOp a.eval o).run P w = .ok (.value (a.eval x)) (w.freeze ⟨b, cur.size, none⟩ 1) := by
    simp only [execOp, ho, hv]
    refine run_valW ?_
    have hsh : w.shape? b = some (et, cur.size) := by unfold World.shape?; rw [hheap]
    simp [convert, run_underlying hs2, run_underlying hs3, markStringish, hsh]
  have hst := (Step.ghost (ob' := s.ob.set id (.row et 1 true e xs)) E1 hL1).trans S2
  refine wp_ok hrun ⟨fun hq => ?_, _, sim_put (g' := g1) hs hS h0 M2 hst hd ?_, hok⟩
  · simp [ho, quietW, h2] at hq
  · have : PRel (w.freeze ⟨b, cur.size, none⟩ 1) g1.A (a.eval x) (.slc 1 xs) := hr1.keep fun b' o' h => ⟨h, mark_cell _⟩
    exact this
theorem op_range (hT : TyOk P ty) {K : St → Tree} {o : Oper} {s : St} {a : Act} {w : World} {R : Exit → Act → World → Prop} (hs : Sim Df w0 g0 o0 N s a w) (hd : ∀ t, o.dst = some t → t < N)
    {T : Nat} {x : Operand} (ho : o.op = .range T x) {b : ByteArray} (hx : ev s x = .val (.string b)) (h1 : (tyLook T ty).kd = 6)
    (hok : (K (St.put ⟨s.tm, s.ob ++ [.iter (.str b 0)]⟩ o.dst (.iter s.ob.length))).ok Df P w0 g0 o0 N Q) : o.wp P a w (Good Df ty P w0 g0 o0 N Q K o.op w) R := by
  obtain ⟨g, M, hS, h0⟩ := hs.rel
  have hxr := ev_rel hS x
  rw [hx] at hxr
  have hs1 := (ty_kd hT h1 (by decide)).str h1
  have hr : (execOp a.eval o).run P w = .ok (.value (.pointer (some ⟨w.heap.size, 0, none⟩))) (w.alloc (.stringIter b 0)) := by
    simp only [execOp, ho, hxr.valEq]
    refine run_valW ?_
    simp only [Instr.range, Sem.run_bind, run_underlying hs1, Result.andThen_ok, Sem.run_pure, run_newObj]
    rfl
  have M' := M.new (.stringIter b 0) (.iter (.str b 0)) (fun cs h => by cases h) (fun cs h => by cases h) (fun y h => by cases h; rfl) (fun et sz fz e xs h => by cases h)
  refine wp_ok hr ⟨fun _ => (Below.refl _ w).alloc (Nat.le_refl _) _, _, sim_put hs hS h0 M' (Step.new M _ _) hd ?_, hok⟩
  refine ⟨false, by simp [Gh.new, itVal], ?_⟩
  rw [get_new]; rfl
theorem iter_set (M : Mem w g ob) {id : Nat} {x x' : It} {o' : Obj} (h : ob[id]? = some (.iter x)) (hkk : ∀ {k : Bool}, isIt k (some (.iter x)) → isIt k (some (.iter x'))) (hI : ItRel w g.A g.loc ob.length x' (some o')) :
    Mem { w with heap := w.heap.setIfInBounds (g.loc id) o' } g (ob.set id (.iter x')) ∧ Step w g ob { w with heap := w.heap.setIfInBounds (g.loc id) o' } g (ob.set id (.iter x')) := by
  have hid := lt_of_some h
  obtain ⟨hG, hh⟩ := M.iter id x h
  have hlt := (M.own _ _ hG).1
  have other : ∀ {k : Nat}, k ≠ g.loc id → ({ w with heap := w.heap.setIfInBounds (g.loc id) o' } : World).heap[k]? = w.heap[k]? := fun hk => by
    show (w.heap.setIfInBounds _ _)[_]? = _
    rw [Array.getElem?_setIfInBounds_ne (Ne.symm hk)]
  have ne : ∀ {k i : Nat}, g.G k = some i → i ≠ id → k ≠ g.loc id := by
    rintro k i h1 h2 rfl
    rw [hG] at h1
    exact h2 (by simpa using h1.symm)
  have hA : ∀ k o, g.A k o → k ≠ g.loc id := by
    rintro k o h1 rfl
    obtain ⟨et, sz, e, xs, h2, _⟩ := (M.imm _ _ h1).2 id hG (M.nosub hG fun _ _ _ _ _ h3 => by rw [h] at h3; cases h3)
    rw [h] at h2; cases h2
  have E : Ext w g ob { w with heap := w.heap.setIfInBounds (g.loc id) o' } g (ob.set id (.iter x')) := by
    refine ⟨fun k o h1 => ⟨h1, World.cell?_of_block (w := w) (other (hA k o h1))⟩, fun _ _ => rfl, fun i hi => ?_, fun i hi => ?_, fun i et sz fz e xs hi => ?_, fun _ _ _ _ => ⟨rfl, fun _ _ h => h⟩⟩
    · have : i ≠ id := by rintro rfl; rw [h] at hi; exact hi
      rw [List.getElem?_set_ne (Ne.symm this)]; exact hi
    · by_cases e : i = id
      · subst e; rw [List.getElem?_set_self hid]; rw [h] at hi; exact hkk hi
      · rw [List.getElem?_set_ne (Ne.symm e)]; exact hi
    · have : i ≠ id := by rintro rfl; rw [h] at hi; cases hi
      exact ⟨fz, e, xs, by rw [List.getElem?_set_ne (Ne.symm this)]; exact hi, Nat.le_refl _, fun _ => .inl ⟨rfl, fun k hk => ⟨hk, other (ne hk this)⟩⟩⟩
  have hsz : ({ w with heap := w.heap.setIfInBounds (g.loc id) o' } : World).heap.size = w.heap.size := by show (w.heap.setIfInBounds _ _).size = _; simp
  refine ⟨⟨fun i cs hi => ?_, fun i cs hi j u hj => ?_, fun i y hi => ?_, fun k i hk => by rw [hsz, List.length_set]; exact M.own k i hk, fun k o h1 => ?_, fun i et sz fz e xs hi => ?_, fun b hs => ?_, M.uniq⟩,
    ⟨rfl, rfl, rfl, by rw [hsz]; exact Nat.le_refl _, fun k _ hk => other (fun e => by rw [e, hG] at hk; cases hk), fun k i hk => .inl ⟨i, hk⟩, fun _ _ h => .inl h, E, by simp⟩⟩
  · have e' : i ≠ id := by rintro rfl; rw [List.getElem?_set_self hid] at hi; cases hi
    rw [List.getElem?_set_ne (Ne.symm e')] at hi
    obtain ⟨h1, cur, T, h2, h3⟩ := M.box i cs hi
    exact ⟨h1, cur, T, (other (ne h1 e')).trans h2, h3.ext E⟩
  · have e' : i ≠ id := by rintro rfl; rw [List.getElem?_set_self hid] at hi; cases hi
    rw [List.getElem?_set_ne (Ne.symm e')] at hi
    obtain ⟨h1, y, h2, h3⟩ := M.fbox i cs hi j u hj
    exact ⟨h1, y, (E.A _ _ h1).2.trans h2, h3.keep E.A⟩
  · by_cases e' : i = id
    · subst e'
      rw [List.getElem?_set_self hid] at hi
      obtain rfl : x' = y := by simpa using hi
      exact ⟨hG, hI.at E.A (fun _ _ => rfl) (by simp) (by show (w.heap.setIfInBounds _ _)[_]? = _; rw [Array.getElem?_setIfInBounds_self, if_pos hlt])⟩
    · rw [List.getElem?_set_ne (Ne.symm e')] at hi
      obtain ⟨h1, h2⟩ := M.iter i y hi
      exact ⟨h1, h2.at E.A (fun _ _ => rfl) (by simp) (other (ne h1 e'))⟩
  · obtain ⟨h2, h3⟩ := M.imm k o h1
    refine ⟨by rw [hsz]; exact h2, fun i hk hs => ?_⟩
    obtain ⟨et, sz, e, xs, h4, h5⟩ := h3 i hk hs
    have e' : i ≠ id := by rintro rfl; rw [h] at h4; cases h4
    exact ⟨et, sz, e, xs, by rw [List.getElem?_set_ne (Ne.symm e')]; exact h4, h5⟩
  · have e' : i ≠ id := by rintro rfl; rw [List.getElem?_set_self hid] at hi; cases hi
    rw [List.getElem?_set_ne (Ne.symm e')] at hi
    exact M.roww i et sz fz e xs hi
  · obtain ⟨i, et, sz, fz, e, xs, h3, h4⟩ := M.nsub b hs
    have e' : i ≠ id := by rintro rfl; rw [h] at h4; cases h4
    exact ⟨i, et, sz, fz, e, xs, h3, by rw [List.getElem?_set_ne (Ne.symm e')]; exact h4⟩
theorem op_next {K : St → Tree} {o : Oper} {s : St} {a : Act} {w : World} {R : Exit → Act → World → Prop} (hs : Sim Df w0 g0 o0 N s a w) (hd : ∀ t, o.dst = some t → t < N)
    {it : Operand} (ho : o.op = .next it true) {id : Nat} (hi : ev s it = .iter id) {b : ByteArray} {pos : Nat} (hob : s.ob[id]? = some (.iter (.str b pos)))
    (ht : std.itmore b pos = true → (K (St.put ⟨s.tm, s.ob.set id (.iter (.str b (std.itp b pos)))⟩ o.dst (.tup [.kb true, .val (.int .i64 (std.toI pos)), .val (.int .i32 (std.itr b pos))]))).ok Df P w0 g0 o0 N Q)
    (hf : std.itmore b pos = false → (K (St.put s o.dst (.tup [.kb false]))).ok Df P w0 g0 o0 N Q) : o.wp P a w (Good Df ty P w0 g0 o0 N Q K o.op w) R := by
  obtain ⟨g, M, hS, h0⟩ := hs.rel
  have hir := ev_rel hS it
  rw [hi] at hir
  have hv : a.eval it = .pointer (some ⟨g.loc id, 0, none⟩) := by
    obtain ⟨k, h1, h2⟩ := hir
    rw [hob] at h2
    obtain rfl : k = false := h2
    exact h1
  obtain ⟨hG, hh⟩ := M.iter id _ hob
  have hh : w.heap[g.loc id]? = some (.stringIter b pos) := hh
  have hget : (getObj (g.loc id)).run P w = .ok (.stringIter b pos) w := by simp [getObj, Sem.run, hh]
  by_cases hlt : pos < b.size
  · obtain ⟨M', S'⟩ := iter_set M (x' := .str b (std.itp b pos)) (o' := .stringIter b (std.itp b pos)) hob (fun h => h) rfl
    have hr : (execOp a.eval o).run P w = .ok (.value (.tuple #[.bool true, .int .i64 pos, .int .i32 ((Utf8.decode b pos).1 : Int)])) { w with heap := w.heap.setIfInBounds (g.loc id) (.stringIter b (std.itp b pos)) } := by
      simp only [execOp, ho, hv]
      refine run_valW ?_
      have hset : (setObj (g.loc id) (.stringIter b (pos + (Utf8.decode b pos).2))).run P w = .ok () { w with heap := w.heap.setIfInBounds (g.loc id) (.stringIter b (std.itp b pos)) } := by
        simp only [setObj, Sem.run, hh]; rfl
      simp only [Instr.next, Sem.run_bind, hget, Result.andThen_ok, hlt, if_true, hset, Sem.run_pure, goInt]
    refine wp_ok hr ⟨fun h => by simp [ho, quietW] at h, _, sim_put hs hS h0 M' S' hd ?_, ht (by show decide (pos < b.size) = true; simp [hlt])⟩
    refine ⟨_, rfl, rfl, fun j y u hy hu => ?_⟩
    match j, hy, hu with
    | 0, hy, hu =>
      obtain rfl : Value.bool true = y := by simpa using hy
      obtain rfl : AV.kb true = u := by simpa using hu
      exact (rfl : Value.bool true = .bool true)
    | 1, hy, hu =>
      obtain rfl : Value.int .i64 pos = y := by simpa using hy
      obtain rfl : AV.val (.int .i64 (std.toI pos)) = u := by simpa using hu
      exact PRel.val _ rfl
    | 2, hy, hu =>
      obtain rfl : Value.int .i32 ((Utf8.decode b pos).1 : Int) = y := by simpa using hy
      obtain rfl : AV.val (.int .i32 (std.itr b pos)) = u := by simpa using hu
      exact PRel.val _ rfl
    | j + 3, hy, _ => simp at hy
  · have hr : (execOp a.eval o).run P w = .ok (.value (.tuple #[.bool false])) w := by
      simp only [execOp, ho, hv]
      refine run_valW ?_
      simp only [Instr.next, Sem.run_bind, hget, Result.andThen_ok, hlt, if_false, Sem.run_pure]
    refine wp_ok hr ⟨fun h => by simp [ho, quietW] at h, _, sim_put hs hS h0 M Step.refl hd (x := .tup [.kb false]) ?_, hf (by show decide (pos < b.size) = false; simp [hlt])⟩
    refine ⟨_, rfl, rfl, fun j y u hy hu => ?_⟩
    match j, hy, hu with
    | 0, hy, hu =>
      obtain rfl : Value.bool false = y := by simpa using hy
      obtain rfl : AV.kb false = u := by simpa using hu
      exact (rfl : Value.bool false = .bool false)
    | j + 1, hy, _ => simp at hy
end
end Go.Proofs.YtcmjijpofkoogaaGreat
namespace Go.Proofs.YtcmjijpofkoogaaGreat
open Go.RowKit Go.Lib
theorem putC_cells {x : AV} {off sz : Nat} {new : List AV} (hx : x.cells.length = sz) (hn : new.length ≠ 0) (h1 : ∀ u ∈ new, u.cells = [u]) (hl : off + new.length ≤ sz) : (putC x off new).cells = setCells x.cells off new := by
  cases x with
  | agg cs => rfl
  | _ =>
    obtain rfl : 1 = sz := hx
    obtain rfl : off = 0 := by omega
    obtain ⟨u, rfl⟩ : ∃ u, new = [u] := List.length_eq_one_iff.1 (by omega)
    exact h1 u List.mem_cons_self
theorem setCells_app {a r new : List AV} {off : Nat} (h : off + new.length ≤ a.length) : setCells (a ++ r) off new = setCells a off new ++ r := by
  unfold setCells
  rw [List.take_append_of_le_length (by omega), List.drop_append_of_le_length h]
  simp
theorem setCells_shift {a r new : List AV} {off : Nat} : setCells (a ++ r) (a.length + off) new = a ++ setCells r off new := by
  unfold setCells
  rw [List.take_length_add_append, Nat.add_assoc, List.drop_length_add_append]
  simp
theorem flat_cons (x : AV) (r : List AV) : flatA (x :: r) = x.cells ++ flatA r := List.flatMap_cons
theorem take_store (cur vs : List Value) (o n : Nat) (h : o + vs.length ≤ n) (hn : n ≤ cur.length) : (cur.take o ++ (vs ++ cur.drop (o + vs.length))).take n = (cur.take n).take o ++ vs ++ (cur.take n).drop (o + vs.length) := by
  have hx : (cur.take o).length = o := by rw [List.length_take]; omega
  rw [List.take_take, Nat.min_eq_left (by omega), List.drop_take, List.take_append, hx, List.take_append, List.take_of_length_le (l := cur.take o) (by omega), List.take_of_length_le (l := vs) (by omega), List.append_assoc, Nat.sub_sub]
theorem flat_setR {sz off : Nat} {new : List AV} (hn : new.length ≠ 0) (h1 : ∀ u ∈ new, u.cells = [u]) (hl : off + new.length ≤ sz) : ∀ (xs : List AV) (i : Nat), (∀ x ∈ xs, x.cells.length = sz) → i < xs.length →
    flatA (setxs xs i off new) = setCells (flatA xs) (i * sz + off) new
  | [], _, _, h => by cases h
  | x :: r, 0, hw, _ => by
    have hx := hw x List.mem_cons_self
    show flatA (putC x off new :: r) = _
    rw [flat_cons, flat_cons, putC_cells hx hn h1 hl, Nat.zero_mul, Nat.zero_add, setCells_app (by omega)]
  | x :: r, i + 1, hw, hi => by
    have hx := hw x List.mem_cons_self
    have ih := flat_setR hn h1 hl r i (fun y hy => hw y (List.mem_cons_of_mem _ hy)) (by simpa using hi)
    show flatA (x :: setxs r i off new) = _
    rw [flat_cons, flat_cons, show (i + 1) * sz + off = x.cells.length + (i * sz + off) by rw [hx, Nat.succ_mul]; omega, setCells_shift]
    exact congrArg _ ih
theorem setxs_len (xs : List AV) (i off : Nat) (new : List AV) : (setxs xs i off new).length = xs.length := List.length_set
theorem setxs_w {sz off i : Nat} {new xs : List AV} (hn : new.length ≠ 0) (h1 : ∀ u ∈ new, u.cells = [u]) (hl : off + new.length ≤ sz) (hw : ∀ x ∈ xs, x.cells.length = sz) (hi : i < xs.length) : ∀ x ∈ setxs xs i off new, x.cells.length = sz := by
  intro x hx
  rcases List.mem_or_eq_of_mem_set hx with h | rfl
  · exact hw x h
  · have h2 : (xs.getD i .dead).cells.length = sz := hw _ (by rw [List.getD_eq_getElem?_getD, List.getElem?_eq_getElem hi]; exact List.getElem_mem hi)
    rw [putC_cells h2 hn h1 hl]
    unfold setCells
    rw [List.length_append, List.length_append, List.length_take, List.length_drop]
    omega
section
variable {w : World} {g : Gh} {ob : List Ob}
theorem rowNot (M : Mem w g ob) {id et sz e b : Nat} {xs : List AV} (h : ob[id]? = some (.row et sz false e xs)) (hG : g.G b = some id) (hs : g.sub b = false) {b' o : Nat} (hA : g.A b' o) : b' ≠ b := by
  rintro rfl
  obtain ⟨_, _, _, _, h1, _⟩ := (M.imm _ _ hA).2 id hG hs
  rw [h] at h1; cases h1
theorem storeRow (M : Mem w g ob) {id et sz e b c i off : Nat} {xs us : List AV} {vs : List Value} (h : ob[id]? = some (.row et sz false e xs)) (he : et ≠ subT) (hv : RowV w g id et sz (.slice (some ⟨b, 0, none⟩) xs.length c) xs)
    (hi : i < xs.length) (hal : Alike w g.A vs us) (hn : us.length ≠ 0) (h1 : ∀ u ∈ us, u.cells = [u]) (hl : off + us.length ≤ sz) :
    g.G b = some id ∧ (∃ cur, w.heap[b]? = some (.cells cur et (0, 0)) ∧ i * sz + off + us.length ≤ cur.size) ∧ Ext w g ob (w.setCells b (i * sz + off) vs) g (ob.set id (.row et sz false e (setxs xs i off us))) ∧ Mem (w.setCells b (i * sz + off) vs) g (ob.set id (.row et sz false e (setxs xs i off us))) := by
  have hid := lt_of_some h
  have hw := (M.roww _ _ _ _ _ _ h).2
  obtain ⟨ys, ⟨hyl, ho⟩, hG, hal0, _, hsub⟩ := hv
  have hGb := hG b rfl
  have hsb := hsub.1 b rfl
  obtain ⟨hv, _⟩ | ⟨b', cap, cur, hv, _, hh, hcap, _, hcs, hys⟩ := ho
  · cases hv
  obtain ⟨rfl, rfl⟩ : b = b' ∧ c = cap := by simpa using hv
  have hmul : (i + 1) * sz ≤ xs.length * sz := Nat.mul_le_mul_right _ hi
  rw [Nat.succ_mul] at hmul
  have hmul2 : xs.length * sz ≤ c * sz := Nat.mul_le_mul_right _ hcap
  have hin : i * sz + off + us.length ≤ cur.size := by omega
  have hcell : ∀ b' o, g.A b' o → (w.setCells b (i * sz + off) vs).cell? ⟨b', o, none⟩ = w.cell? ⟨b', o, none⟩ := fun b' o hA => World.cell?_of_block (w := w) (cell_setCells (k := 0) (rowNot M h hGb hsb hA))
  have hA : ∀ b' o, g.A b' o → g.A b' o ∧ (w.setCells b (i * sz + off) vs).cell? ⟨b', o, none⟩ = w.cell? ⟨b', o, none⟩ := fun b' o h => ⟨h, hcell b' o h⟩
  have ne : ∀ {b' k : Nat}, g.G b' = some k → k ≠ id → b' ≠ b := by
    rintro b' k hG' hne rfl
    rw [hGb] at hG'
    exact hne (by simpa using hG'.symm)
  have st : Stored w (w.setCells b (i * sz + off) vs) g.A et sz b (setxs xs i off us) := by
    refine ⟨cur, _, hh, heap_setCells_self (W := w) vs (i * sz + off) w cur hh (by rw [hal.1]; exact hin), ?_, ?_⟩
    · simp [hal.1]; omega
    · rw [setxs_len, flat_setR hn h1 hl xs i hw hi]
      have e1 : ((cur.toList.take (i * sz + off) ++ (vs ++ cur.toList.drop (i * sz + off + vs.length))).toArray.toList.take (xs.length * sz)) = ys.take (i * sz + off) ++ vs ++ ys.drop (i * sz + off + us.length) := by
        rw [← hys, ← hal.1]
        have hcl : cur.toList.length = c * sz := (Array.length_toList).trans hcs
        exact take_store _ _ _ _ (by rw [hal.1]; omega) (by rw [hcl]; omega)
      rw [e1]
      unfold setCells
      exact (((hal0.keep hA).take _).append (hal.keep hA)).append ((hal0.keep hA).drop _)
  have E : Ext w g ob (w.setCells b (i * sz + off) vs) g (ob.set id (.row et sz false e (setxs xs i off us))) := by
    refine ⟨hA, fun _ _ => rfl, fun k hk => ?_, fun k hk => ?_, fun k et' sz' fz2 e2 xs2 hk => ?_, fun _ _ _ _ => ⟨rfl, fun _ _ h => h⟩⟩
    · have : k ≠ id := by rintro rfl; rw [h] at hk; exact hk
      rw [List.getElem?_set_ne (Ne.symm this)]; exact hk
    · have : k ≠ id := by rintro rfl; rw [h] at hk; exact hk
      rw [List.getElem?_set_ne (Ne.symm this)]; exact hk
    · by_cases e' : k = id
      · subst e'
        rw [h] at hk
        cases hk
        refine ⟨false, e, _, List.getElem?_set_self hid, Nat.le_refl _, fun _ => .inr ⟨he, setxs_len _ _ _ _, setxs_w hn h1 hl hw hi, fun b' hG' => ⟨hG', fun hs' => ?_⟩⟩⟩
        obtain rfl : b = b' := M.uniq _ _ _ hGb hG' hsb hs'
        exact st
      · exact ⟨fz2, e2, xs2, by rw [List.getElem?_set_ne (Ne.symm e')]; exact hk, Nat.le_refl _, fun _ => .inl ⟨rfl, fun b' hG' => ⟨hG', cell_setCells (k := 0) (ne hG' e')⟩⟩⟩
  refine ⟨hGb, ⟨cur, hh, hin⟩, E, fun k cs hk => ?_, fun k cs hk j u hj => ?_, fun k y hk => ?_, fun b' k hG' => ⟨by rw [size_setCells]; exact (M.own b' k hG').1, by rw [List.length_set]; exact (M.own b' k hG').2⟩, fun b' o hA' => ⟨by rw [size_setCells]; exact (M.imm b' o hA').1, fun k hGk hs => ?_⟩, fun k et' sz' fz2 e2 xs2 hk => ?_, fun b' hs => ?_, M.uniq⟩
  · have e' : k ≠ id := by rintro rfl; rw [List.getElem?_set_self hid] at hk; cases hk
    rw [List.getElem?_set_ne (Ne.symm e')] at hk
    obtain ⟨h3, cur', T, h4, h5⟩ := M.box k cs hk
    exact ⟨h3, cur', T, by rw [cell_setCells (k := 0) (ne h3 e')]; exact h4, h5.ext E⟩
  · have e' : k ≠ id := by rintro rfl; rw [List.getElem?_set_self hid] at hk; cases hk
    rw [List.getElem?_set_ne (Ne.symm e')] at hk
    obtain ⟨h3, y, h4, h5⟩ := M.fbox k cs hk j u hj
    exact ⟨h3, y, by rw [hcell _ _ h3]; exact h4, h5.keep hA⟩
  · have e' : k ≠ id := by rintro rfl; rw [List.getElem?_set_self hid] at hk; cases hk
    rw [List.getElem?_set_ne (Ne.symm e')] at hk
    obtain ⟨h3, h4⟩ := M.iter k y hk
    exact ⟨h3, h4.at E.A E.loc (by simp) (cell_setCells (k := 0) (ne h3 e'))⟩
  · obtain ⟨et', sz', e2, xs2, h3, h4⟩ := (M.imm b' o hA').2 k hGk hs
    have e' : k ≠ id := by rintro rfl; rw [h] at h3; cases h3
    exact ⟨et', sz', e2, xs2, by rw [List.getElem?_set_ne (Ne.symm e')]; exact h3, h4⟩
  · by_cases e' : k = id
    · subst e'
      rw [List.getElem?_set_self hid] at hk
      cases hk
      exact ⟨(M.roww _ _ _ _ _ _ h).1, setxs_w hn h1 hl hw hi⟩
    · rw [List.getElem?_set_ne (Ne.symm e')] at hk
      exact M.roww k _ _ _ _ _ hk
  · obtain ⟨k, et', sz', fz2, e2, xs2, h3, h4⟩ := M.nsub b' hs
    by_cases e' : k = id
    · subst e'
      exact ⟨k, _, _, _, _, _, h3, List.getElem?_set_self hid⟩
    · exact ⟨k, et', sz', fz2, e2, xs2, h3, by rw [List.getElem?_set_ne (Ne.symm e')]; exact h4⟩
end
section
variable {P : Program} {ty : Tys} {Df : List Deferred} {w0 : World} {g0 : Gh} {o0 : List Ob} {N : Nat} {Q : Ex → St → Prop}
theorem pur_cells {x : AV} (h : x.pur = true) : ∀ u ∈ x.cells, u.cells = [u] := by
  cases x with
  | agg cs =>
    intro u hu
    have := List.all_eq_true.1 h u hu
    cases u <;> first | rfl | cases this
  | _ => intro u hu; rw [List.mem_singleton.1 hu]; rfl
theorem op_storeR (hT : TyOk P ty) {K : St → Tree} {o : Oper} {s : St} {a : Act} {w : World} {R : Exit → Act → World → Prop} (hs : Sim Df w0 g0 o0 N s a w) (hd : ∀ t, o.dst = some t → t < N)
    {T : Nat} {x y : Operand} (ho : o.op = .store T x y) {id ep off et sz e : Nat} {i : Int} {xs : List AV} (hx : ev s x = .rptr id ep i off) (hb : s.ob[id]? = some (.row et sz false e xs)) (hee : e = ep) (het : et ≠ subT) (hp : (ev s y).pur = true) (hk : (tyLook T ty).ok = true)
    (hsz : (ev s y).cells.length = (tyLook T ty).size) (hn : (ev s y).cells.length ≠ 0) (hle : off + (ev s y).cells.length ≤ sz)
    (hok : (K (St.put ⟨s.tm, s.ob.set id (.row et sz false e (std.setx xs i off (ev s y).cells))⟩ o.dst .dead)).ok Df P w0 g0 o0 N Q) : o.wp P a w (Good Df ty P w0 g0 o0 N Q K o.op w) R := by
  obtain ⟨g, M, hS, h0⟩ := hs.rel
  have hl : (ev s y).live = true := by cases hh : ev s y <;> rw [hh] at hp <;> first | rfl | cases hp
  have hal := pur_alike (vs := []) ((ev_rel hS y).to1 hl) hp
  have hxr := ev_rel hS x
  rw [hx] at hxr
  obtain ⟨_, et', sz', fz', e', xs', h1', _, h3⟩ := hxr
  rw [hb] at h1'; cases h1'
  obtain ⟨b, c, hv, h4, h5, h6⟩ := h3 hee
  have hi : i.toNat < xs.length := by omega
  obtain ⟨hG, ⟨cur, hh, hin⟩, E, M'⟩ := storeRow M hb het h6 hi hal hn (pur_cells hp) hle
  have hlen : (a.eval y).cells.size = (ev s y).cells.length := by simpa using hal.1
  have hst := run_storeCells_cells (P := P) b (i.toNat * sz + off) (a.eval y).cells.toList 0 w (fun j hj => by
      have : i.toNat * sz + off + j < cur.size := by simp at hj; omega
      simp [World.cell?, hh, this]) (fun j hj => by simp [World.frozen?, hh]) hal.one
  rw [Nat.add_zero] at hst
  have hsT := (ty_ok hT hk).size w
  have hr : (execOp a.eval o).run P w = .ok .skip (w.setCells b (i.toNat * sz + off) (a.eval y).cells.toList) := by
    have hne : ¬ ((a.eval y).cells.size ≠ (tyLook T ty).size) := by omega
    simp only [execOp, ho, Instr.storeAt, hv, Instr.sureAddr, storeVar, Sem.run_bind, Sem.run_pure, Result.andThen_ok, hsT, hne, if_false, hst]
  unfold Oper.wp
  rw [hr]
  show Good Df ty P w0 g0 o0 N Q K o.op w (a.put o.dst undef) _
  refine ⟨fun h => by simp [ho, quietW] at h, _, sim_put hs hS h0 M' ⟨(setCells_rest _ _ _ _).1, (setCells_rest _ _ _ _).2.1, (setCells_rest _ _ _ _).2.2, by rw [size_setCells]; exact Nat.le_refl _, fun b' _ hG' => ?_, fun b' k hG' => .inl ⟨k, hG'⟩, fun b' o h => .inl h, E, by simp⟩ hd (v := undef) (x := .dead) trivial, hok⟩
  exact cell_setCells (k := 0) (fun e => by rw [e, hG] at hG'; cases hG')
end
end Go.Proofs.YtcmjijpofkoogaaGreat
namespace Go.Proofs.YtcmjijpofkoogaaGreat
open Go.RowKit Go.Lib
section
variable {P : Program} {ty : Tys} {Df : List Deferred} {w0 : World} {g0 : Gh} {o0 : List Ob} {N : Nat} {Q : Ex → St → Prop}
theorem op_makeMap {K : St → Tree} {o : Oper} {s : St} {a : Act} {w : World} {R : Exit → Act → World → Prop} (hs : Sim Df w0 g0 o0 N s a w) (hd : ∀ t, o.dst = some t → t < N)
    {T : Nat} (ho : o.op = .makeMap T none) (hok : (K (St.put ⟨s.tm, s.ob ++ [.iter (.map [])]⟩ o.dst (.iter s.ob.length))).ok Df P w0 g0 o0 N Q) : o.wp P a w (Good Df ty P w0 g0 o0 N Q K o.op w) R := by
  obtain ⟨g, M, hS, h0⟩ := hs.rel
  have hr : (execOp a.eval o).run P w = .ok (.value (.map (some w.heap.size))) (w.alloc (.map #[] 0)) := by
    simp only [execOp, ho]
    refine run_valW ?_
    simp only [Option.map_none, Instr.makeMap, Sem.run_bind, Sem.run_pure, Result.andThen_ok, run_newObj]
    rfl
  have M' := M.new (.map #[] 0) (.iter (.map [])) (fun cs h => by cases h) (fun cs h => by cases h) (fun y h => by cases h; exact ⟨#[], rfl, rfl, fun j e q h => by simp at h⟩) (fun et sz fz e xs h => by cases h)
  refine wp_ok hr ⟨fun _ => (Below.refl _ w).alloc (Nat.le_refl _) _, _, sim_put hs hS h0 M' (Step.new M _ _) hd ?_, hok⟩
  refine ⟨true, by simp [Gh.new, itVal], ?_⟩
  rw [get_new]; rfl
theorem allV0_rel {w : World} {g : Gh} {ob : List Ob} : ∀ {cs : List AV} {vs : List Value}, allV0 cs = some vs → ARelC w g ob vs cs
  | [], vs, h => by
    obtain rfl : [] = vs := by simpa [allV0] using h
    exact ⟨rfl, fun j v u h => by simp at h⟩
  | x :: r, vs, h => by
    cases x with
    | val v =>
      simp only [allV0] at h
      split at h
      · rename_i hv
        obtain ⟨us, hu, rfl⟩ := Option.map_eq_some_iff.1 h
        have ih := allV0_rel (w := w) (g := g) (ob := ob) hu
        refine ⟨by simp [ih.1], fun j y u hy hu' => ?_⟩
        cases j with
        | zero =>
          obtain rfl : v = y := by simpa using hy
          obtain rfl : AV.val v = u := by simpa using hu'
          exact ⟨PRel.val _ hv, hv⟩
        | succ j => exact ih.2 j y u (by simpa using hy) (by simpa using hu')
      · cases h
    | _ => simp [allV0] at h
def keyC : Value → List Value
  | .agg cs => cs.toList
  | v => [v]
theorem keyV_rel {w : World} {g : Gh} {ob : List Ob} {x : AV} {v : Value} (h : keyV x = some v) : ARelC w g ob (keyC v) x.cells ∧ (aggB x = true ↔ ∃ vs : Array Value, v = .agg vs) := by
  cases x with
  | agg cs =>
    obtain ⟨vs, h1, rfl⟩ := Option.map_eq_some_iff.1 h
    exact ⟨allV0_rel h1, by simp [aggB]⟩
  | val u =>
    simp only [keyV] at h
    split at h
    · rename_i hu
      obtain rfl : u = v := by simpa using h
      have hn : ∀ vs : Array Value, u ≠ .agg vs := fun vs e => by rw [e] at hu; cases hu
      have hc : keyC u = [u] := by
        cases u <;> first | rfl | exact absurd rfl (hn _)
      refine ⟨⟨by rw [hc]; rfl, fun j y z hy hz => ?_⟩, by simp only [aggB]; exact ⟨fun h => (by cases h), fun ⟨vs, e⟩ => absurd e (hn vs)⟩⟩
      rw [hc] at hy
      cases j with
      | zero =>
        obtain rfl : u = y := by simpa using hy
        obtain rfl : AV.val u = z := by simpa [AV.cells] using hz
        exact ⟨PRel.val _ hu, hu⟩
      | succ j => simp at hy
    · cases h
  | _ => cases h
theorem shA_srt {w : World} {g : Gh} {ob : List Ob} : ∀ {cs : List AV} {us : List Value} {sh : List Srt}, shA cs = some sh → ARelC w g ob us cs → us.map srtV = sh.map some
  | [], us, sh, h, hu => by
    obtain rfl : [] = sh := by simpa [shA] using h
    obtain rfl : us = [] := List.eq_nil_of_length_eq_zero hu.1
    rfl
  | x :: r, us, sh, h, hu => by
    simp only [shA] at h
    split at h
    · rename_i s ss h1 h2
      obtain rfl : s :: ss = sh := by simpa using h
      cases us with
      | nil => exact absurd hu.1 (by simp)
      | cons u us =>
        have ih := shA_srt (w := w) (g := g) (ob := ob) h2 (us := us) ⟨by simpa using hu.1, fun j y z hy hz => hu.2 (j + 1) y z (by simpa using hy) (by simpa using hz)⟩
        have h3 := (hu.2 0 u x rfl rfl).1
        have h4 : srtV u = some s := by
          cases x with
          | val v =>
            obtain rfl : u = v := by have h3 : PRel w g.A u (.val v) := h3; cases h3; rfl
            cases u <;> simp [srtA] at h1 <;> simp [srtV, h1]
          | _ => simp [srtA] at h1
        rw [List.map_cons, List.map_cons, h4, ih]
    · cases h
theorem vals0_of {w : World} {g : Gh} {ob : List Ob} : ∀ {cs : List AV} {us : List Value} {sh : List Srt}, shA cs = some sh → ARelC w g ob us cs → allV0 cs = some us
  | [], us, sh, h, hu => by
    obtain rfl : us = [] := List.eq_nil_of_length_eq_zero hu.1
    rfl
  | x :: r, us, sh, h, hu => by
    simp only [shA] at h
    split at h
    · rename_i s ss h1 h2
      cases us with
      | nil => exact absurd hu.1 (by simp)
      | cons u us =>
        have ih := vals0_of (w := w) (g := g) (ob := ob) h2 (us := us) ⟨by simpa using hu.1, fun j y z hy hz => hu.2 (j + 1) y z (by simpa using hy) (by simpa using hz)⟩
        have h3 := (hu.2 0 u x rfl rfl).1
        cases x with
        | val v =>
          obtain rfl : u = v := by have h3 : PRel w g.A u (.val v) := h3; cases h3; rfl
          simp only [allV0]
          rw [if_pos (hu.2 0 u _ rfl rfl).2, ih]; rfl
        | _ => simp [srtA] at h1
    · cases h
theorem someMap_inj {a b : List Srt} (h : a.map some = b.map some) : a = b := by
  have := congrArg (List.filterMap id) h
  simpa using this
theorem bytes_eq {a b : ByteArray} (h : (a.toList == b.toList) = true) : a = b := by
  have h := eq_of_beq h
  rw [ByteArray.toList_eq, ByteArray.toList_eq] at h
  exact ByteArray.ext (Array.toList_inj.1 h)
theorem bytes_self (a : ByteArray) : (a == a) = true := by rw [beq_toListBytes]; simp
theorem eqV_eq {a b : Value} {s : Srt} (ha : srtV a = some s) (hb : srtV b = some s) (h : eqV a b = true) : a = b := by
  cases a <;> simp [srtV] at ha <;> subst ha <;> cases b <;> simp [srtV] at hb
  · simp only [eqV, beq_iff_eq] at h; rw [h]
  · obtain rfl := hb
    simp only [eqV, beq_iff_eq] at h; rw [h]
  · rw [bytes_eq h]
theorem eqVs_eq : ∀ {sh : List Srt} {us vs : List Value}, us.map srtV = sh.map some → vs.map srtV = sh.map some → ((us.zip vs).all fun q => eqV q.1 q.2) = true → us = vs
  | [], us, vs, h1, h2, _ => by
    obtain rfl : us = [] := by simpa using h1
    obtain rfl : vs = [] := by simpa using h2
    rfl
  | s :: sh, us, vs, h1, h2, h3 => by
    cases us with
    | nil => cases h1
    | cons u us =>
      cases vs with
      | nil => cases h2
      | cons v vs =>
        simp only [List.map_cons, List.cons.injEq] at h1 h2
        simp only [List.zip_cons_cons, List.all_cons, Bool.and_eq_true] at h3
        rw [eqV_eq h1.1 h2.1 h3.1, eqVs_eq h1.2 h2.2 h3.2]
theorem bits_self {n : Nat} {v : Value} {s : Srt} (h : srtV v = some s) : Instr.sameBits n v v = true := by
  cases v <;> simp [srtV] at h <;> cases n <;> simp [Instr.sameBits, bytes_self]
theorem zip_self {α : Type} : ∀ {l : List α} {x y : α}, (x, y) ∈ l.zip l → x = y ∧ x ∈ l
  | a :: r, x, y, h => by
    rcases List.mem_cons.1 (by simpa using h : (x, y) ∈ (a, a) :: r.zip r) with h | h
    · cases h; exact ⟨rfl, List.mem_cons_self⟩
    · exact ⟨(zip_self h).1, List.mem_cons_of_mem _ (zip_self h).2⟩
theorem bits_agg {n : Nat} {vs : Array Value} {sh : List Srt} (h : vs.toList.map srtV = sh.map some) : Instr.sameBits (n + 1) (.agg vs) (.agg vs) = true := by
  simp only [Instr.sameBits, beq_self_eq_true, Bool.true_and, List.all_eq_true]
  rintro ⟨x, y⟩ hm
  obtain ⟨rfl, hx⟩ := zip_self hm
  have : srtV x ∈ sh.map some := h ▸ List.mem_map_of_mem hx
  obtain ⟨s, _, hs⟩ := List.mem_map.1 this
  exact bits_self hs.symm
def Fnd (Df : List Deferred) (P : Program) (w0 : World) (g0 : Gh) (o0 : List Ob) (N : Nat) (Q : Ex → St → Prop) (w : World) (A : Nat → Nat → Prop) (j : Nat) (l : List MapEntry) (kv : Value) (f : Nat → AV → Tree) (n : Tree) (r : Option (Nat × Value)) : Prop :=
  (∃ m e u, r = some (m, e.val) ∧ j ≤ m ∧ l[m - j]? = some e ∧ e.key = kv ∧ PRel1 w A e.val u ∧ (f m u).ok Df P w0 g0 o0 N Q) ∨ (r = none ∧ n.ok Df P w0 g0 o0 N Q)
theorem Fnd.up {w : World} {A : Nat → Nat → Prop} {j : Nat} {x : MapEntry} {l : List MapEntry} {kv : Value} {f : Nat → AV → Tree} {n : Tree} {r : Option (Nat × Value)} (h : Fnd Df P w0 g0 o0 N Q w A (j + 1) l kv f n r) : Fnd Df P w0 g0 o0 N Q w A j (x :: l) kv f n r := by
  rcases h with ⟨m, e, u, h1, h2, h3, h4⟩ | h
  · exact .inl ⟨m, e, u, h1, by omega, by rw [show m - j = (m - (j + 1)) + 1 by omega]; simpa using h3, h4⟩
  · exact .inr h
theorem lookA {w : World} {g : Gh} {K : Nat} {cs : List AV} {us : List Value} (hu : allV0 cs = some us) {sh : List Srt} (hsh : shA cs = some sh) (hK : KeyOk P K sh) {f : Nat → AV → Tree} {n : Tree} :
    ∀ (es : List (AV × AV)) (l : List MapEntry) (j : Nat), l.length = es.length → (∀ (i : Nat) e q, l[i]? = some e → es[i]? = some q → EntR w g.A e q) → (lookT std (.agg cs) f n j es).ok Df P w0 g0 o0 N Q →
      ∃ r, (∀ W, (Instr.findAsking K (.agg us.toArray) l j).run P W = .ok r W) ∧ Fnd Df P w0 g0 o0 N Q w g.A j l (.agg us.toArray) f n r
  | [], l, j, hl, _, hok => by
    obtain rfl : l = [] := List.eq_nil_of_length_eq_zero hl
    exact ⟨none, fun W => rfl, .inr ⟨rfl, hok⟩⟩
  | (k, v) :: r, l, j, hl, hE, hok => by
    cases l with
    | nil => cases hl
    | cons e l =>
      simp only [lookT] at hok
      split at hok
      · rename_i hg
        obtain ⟨hk, hv⟩ := hE 0 e (k, v) rfl rfl
        obtain ⟨hkr, hka⟩ := keyV_rel (w := w) (g := g) (ob := []) hk
        obtain ⟨vs, hvs⟩ := hka.1 hg
        split at hok
        · rename_i sh' b hb
          rw [hvs] at hkr
          have h0 := allV0_rel (w := w) (g := g) (ob := []) hu
          obtain ⟨e1, e2, e3⟩ := eqCs_vals _ _ us vs.toList sh' b hb h0 hkr
          have e4 := shA_srt hsh h0
          obtain rfl : sh' = sh := someMap_inj (e1.symm.trans e4)
          have hq : ∀ W, (Op.equal K (.agg us.toArray) e.key).run P W = .ok b W := fun W => by
            rw [hvs, e3, ← hK.2 us vs.toList W e1 e2]
          cases b with
          | true =>
            have hkv : e.key = .agg us.toArray := by
              have e6 := eqVs_eq e1 e2 e3.symm
              rw [hvs, e6]
            refine ⟨some (j, e.val), fun W => ?_, .inl ⟨j, e, v, rfl, Nat.le_refl _, by simp, hkv, hv, hok.1 rfl⟩⟩
            rw [Instr.findAsking, Sem.run_bind, hq W]; rfl
          | false =>
            obtain ⟨q, h1, h2⟩ := lookA hu hsh hK r l (j + 1) (by simpa using hl) (fun i e q h3 h4 => hE (i + 1) e q (by simpa using h3) (by simpa using h4)) (hok.2 rfl)
            refine ⟨q, fun W => ?_, h2.up⟩
            rw [Instr.findAsking, Sem.run_bind, hq W]
            exact h1 W
        · exact hok.elim
      · exact hok.elim
theorem eqC_now {d : TypeDesc} {v0 u : Value} {s : Srt} {b : Bool} (hd : (d = .string ∧ ∃ s, v0 = .string s) ∨ (∃ k k' m, d = .int k ∧ v0 = .int k' m)) (h : eqC std (.val v0) (.val u) = some (s, b)) : Instr.sameNow d v0 u = some b := by
  rcases hd with ⟨rfl, a, rfl⟩ | ⟨k, k', m, rfl, rfl⟩
  · cases u <;> simp [eqC] at h
    rename_i c
    rw [← h.2]
    show some (a == c) = some (a.toList == c.toList)
    rw [beq_toListBytes]
  · cases u <;> simp [eqC] at h
    rename_i k2 m2
    obtain ⟨rfl, _, h2⟩ := h
    rw [← h2]
    show (if k' = k' then some (m == m2) else none) = some (m == m2)
    rw [if_pos rfl]
theorem now_eq {d : TypeDesc} {v0 u : Value} (hd : (d = .string ∧ ∃ s, v0 = .string s) ∨ (∃ k k' m, d = .int k ∧ v0 = .int k' m)) (h : Instr.sameNow d v0 u = some true) : u = v0 := by
  rcases hd with ⟨rfl, a, rfl⟩ | ⟨k, k', m, rfl, rfl⟩
  · cases u <;> simp [Instr.sameNow] at h
    exact congrArg Value.string (bytes_eq (by rw [← beq_toListBytes]; exact h)).symm
  · cases u <;> simp [Instr.sameNow] at h
    rw [h.1, h.2]
theorem lookB {w : World} {g : Gh} {d : TypeDesc} {v0 : Value} (hv0 : v0.oneCell' = true) (hd : (d = .string ∧ ∃ s, v0 = .string s) ∨ (∃ k k' m, d = .int k ∧ v0 = .int k' m)) {f : Nat → AV → Tree} {n : Tree} :
    ∀ (es : List (AV × AV)) (l : List MapEntry) (j : Nat), l.length = es.length → (∀ (i : Nat) e q, l[i]? = some e → es[i]? = some q → EntR w g.A e q) → (lookT std (.val v0) f n j es).ok Df P w0 g0 o0 N Q →
      ∃ r, Instr.findNow d v0 l j = some r ∧ Fnd Df P w0 g0 o0 N Q w g.A j l v0 f n r
  | [], l, j, hl, _, hok => by
    obtain rfl : l = [] := List.eq_nil_of_length_eq_zero hl
    exact ⟨none, rfl, .inr ⟨rfl, hok⟩⟩
  | (k, v) :: r, l, j, hl, hE, hok => by
    cases l with
    | nil => cases hl
    | cons e l =>
      simp only [lookT] at hok
      split at hok
      · rename_i hg
        obtain ⟨hk, hv⟩ := hE 0 e (k, v) rfl rfl
        cases k with
        | val u =>
          simp only [keyV] at hk
          split at hk
          · obtain rfl : u = e.key := by simpa using hk
            split at hok
            · rename_i sh' b hb
              have hq : Instr.sameNow d v0 e.key = some b := by
                simp only [AV.cells, eqCs] at hb
                split at hb
                · rename_i s a ss a2 h1 h2
                  obtain ⟨rfl, rfl⟩ : ss = [] ∧ a2 = true := by simpa using h2.symm
                  have hb : a = b := by have := (Prod.mk.inj (Option.some.inj hb)).2; simpa [std] using this
                  rw [← hb]
                  exact eqC_now hd h1
                · cases hb
              cases b with
              | true => exact ⟨some (j, e.val), by rw [Instr.findNow, hq], .inl ⟨j, e, v, rfl, Nat.le_refl _, by simp, now_eq hd hq, hv, hok.1 rfl⟩⟩
              | false =>
                obtain ⟨q, h1, h2⟩ := lookB hv0 hd r l (j + 1) (by simpa using hl) (fun i e q h3 h4 => hE (i + 1) e q (by simpa using h3) (by simpa using h4)) (hok.2 rfl)
                exact ⟨q, by rw [Instr.findNow, hq]; exact h1, h2.up⟩
            · exact hok.elim
          · cases hk
        | agg cs => exact absurd hg (by simp [aggB])
        | _ => cases hk
      · exact hok.elim
theorem key_ok (hT : TyOk P ty) {s : St} {a : Act} {w : World} {g : Gh} (hS : Slots w g s a) {KT : Nat} (hKT : (tyLook KT ty).ok = true) {i : Operand} {f : Nat → AV → Tree} {n : Tree} {es : List (AV × AV)} {l : List MapEntry} (hl : l.length = es.length)
    (hE : ∀ (j : Nat) e q, l[j]? = some e → es[j]? = some q → EntR w g.A e q) (hok : (keyT ty KT (ev s i) (lookT std (ev s i) f n 0 es)).ok Df P w0 g0 o0 N Q) :
    ∃ kv, keyV (ev s i) = some kv ∧ a.eval i = kv ∧ (∀ b W, (Instr.checkKey b 10000 KT kv).run P W = .ok () W) ∧ (∀ m, Instr.sameBits (m + 1) kv kv = true) ∧ ∃ r, (∀ W, (Instr.findKey KT kv l).run P W = .ok r W) ∧ Fnd Df P w0 g0 o0 N Q w g.A 0 l kv f n r := by
  have hr := ev_rel hS i
  have ti := ty_ok hT hKT
  unfold keyT at hok
  split at hok
  · rename_i cs hx
    rw [hx] at hr hok
    split at hok
    · rename_i sh hsh
      split at hok
      · rename_i hkd
        obtain ⟨hK, hok⟩ := hok
        obtain ⟨us, hu, hur⟩ := hr
        obtain ⟨fs, hst, _⟩ := ti.strct hkd
        have hv0 : allV0 cs = some us.toList := vals0_of hsh hur
        have e1 := shA_srt hsh hur
        refine ⟨.agg us, by rw [hx]; simp [keyV, hv0], hu, fun b W => ?_, fun m => bits_agg e1, ?_⟩
        · exact hK.1 us.toList b W e1
        · obtain ⟨r, h1, h2⟩ := lookA hv0 hsh hK es l 0 hl hE hok
          refine ⟨r, fun W => ?_, h2⟩
          have h1 := h1 W
          cases l with
          | nil =>
            unfold Instr.findKey
            rw [Sem.run_bind, run_underlying hst]
            simp only [Result.andThen_ok, Instr.findNow]
            simpa [Instr.findAsking] using h1
          | cons e l =>
            unfold Instr.findKey
            rw [Sem.run_bind, run_underlying hst]
            simp only [Result.andThen_ok, Instr.findNow, Instr.sameNow]
            exact h1
      · exact hok.elim
    · exact hok.elim
  · rename_i b hx
    rw [hx] at hr hok
    split at hok
    · rename_i hkd
      have hst := ti.str hkd
      obtain ⟨r, h1, h2⟩ := lookB (d := .string) (v0 := .string b) rfl (.inl ⟨rfl, b, rfl⟩) es l 0 hl hE hok
      refine ⟨.string b, by rw [hx]; rfl, hr.valEq, fun c W => ?_, fun m => bits_self (s := .str) rfl, r, fun W => ?_, h2⟩
      · show (Instr.checkKey c (9999 + 1) KT _).run P W = _
        unfold Instr.checkKey
        rw [Sem.run_bind, run_underlying hst]; rfl
      · unfold Instr.findKey
        rw [Sem.run_bind, run_underlying hst]
        simp only [Result.andThen_ok, h1]; rfl
    · exact hok.elim
  · rename_i k m hx
    rw [hx] at hr hok
    split at hok
    · rename_i hkd
      obtain ⟨k2, hst⟩ : ∃ k2, P.underlying KT = some (.int k2) := by
        obtain ⟨d, h1, h2⟩ := ti.u
        cases d <;> simp [shapeOf] at h2 <;> first | (simp_all; done) | omega | exact ⟨_, h1⟩
      obtain ⟨r, h1, h2⟩ := lookB (d := .int k2) (v0 := .int k m) rfl (.inr ⟨k2, k, m, rfl, rfl⟩) es l 0 hl hE hok
      refine ⟨.int k m, by rw [hx]; rfl, hr.valEq, fun c W => ?_, fun m => bits_self (s := .int k) rfl, r, fun W => ?_, h2⟩
      · show (Instr.checkKey c (9999 + 1) KT _).run P W = _
        unfold Instr.checkKey
        rw [Sem.run_bind, run_underlying hst]; rfl
      · unfold Instr.findKey
        rw [Sem.run_bind, run_underlying hst]
        simp only [Result.andThen_ok, h1]; rfl
    · exact hok.elim
  · exact hok.elim
theorem pur_rel1 {w : World} {g : Gh} {ob : List Ob} {v : Value} {x : AV} (h : ARel w g ob v x) (hp : x.pur = true) : PRel1 w g.A v x := by
  have h0 : ∀ {y : Value} {u : AV}, u.pur0 = true → ARel0 w g ob y u → PRel w g.A y u := fun {y u} hu h => by
    cases u <;> first | exact h | cases hu
  cases x with
  | agg cs =>
    obtain ⟨vs, rfl, h1, h2⟩ := h
    exact ⟨vs, rfl, h1, fun j y u hy hu => h0 (List.all_eq_true.1 hp u (List.mem_of_getElem? hu)) (h2 j y u hy hu).1⟩
  | val a => exact h0 (u := .val a) hp h
  | slc a b => exact h0 (u := .slc a b) hp h
  | ref a => exact h0 (u := .ref a) hp h
  | opt a => exact h0 (u := .opt a) hp h
  | _ => cases hp
theorem rel1_to {w : World} {g : Gh} {ob : List Ob} {v : Value} {x : AV} (h : PRel1 w g.A v x) (hl : x.live = true) : ARel1 w g ob v x := by
  cases x with
  | agg cs => obtain ⟨vs, rfl, h1, h2⟩ := h; exact ⟨vs, rfl, h1, fun j y u hy hu => ⟨(h2 j y u hy hu).to0, (h2 j y u hy hu).one⟩⟩
  | dead => cases hl
  | tup _ => cases hl
  | val a => exact PRel.to0 (ob := ob) (x := .val a) h
  | slc a b => exact PRel.to0 (ob := ob) (x := .slc a b) h
  | ref a => exact PRel.to0 (ob := ob) (x := .ref a) h
  | opt a => exact PRel.to0 (ob := ob) (x := .opt a) h
  | box a b => exact PRel.to0 (ob := ob) (x := .box a b) h
  | row a b => exact PRel.to0 (ob := ob) (x := .row a b) h
  | rowk a b c => exact PRel.to0 (ob := ob) (x := .rowk a b c) h
  | rptr a b c d => exact PRel.to0 (ob := ob) (x := .rptr a b c d) h
  | kb a => exact PRel.to0 (ob := ob) (x := .kb a) h
  | iter a => exact PRel.to0 (ob := ob) (x := .iter a) h
  | clo a b c d => exact PRel.to0 (ob := ob) (x := .clo a b c d) h
theorem rel1_live {w : World} {A : Nat → Nat → Prop} {v : Value} {x : AV} (h : PRel1 w A v x) : x.live = true := by
  cases x <;> first | rfl | (exfalso; cases (show PRel w A v _ from h))
theorem look_rel {w : World} {g : Gh} {ob : List Ob} {v : Value} {u : AV} {c b : Bool} (h : PRel1 w g.A v u) : ARel w g ob (if c then .tuple #[v, .bool b] else v) (lookR c u b) := by
  have h1 : ARel1 w g ob v u := rel1_to h (rel1_live h)
  cases c with
  | true =>
    refine ⟨#[v, .bool b], rfl, rfl, fun j y z hy hz => ?_⟩
    match j, hy, hz with
    | 0, hy, hz => cases hy; cases hz; exact h1
    | 1, hy, hz => cases hy; cases hz; exact PRel.val _ rfl
    | j + 2, hy, hz => simp at hy
  | false => exact h1.to
def lookRest (K E : TypeId) (ents : Array MapEntry) (kv : Value) (c : Bool) : Sem Value := do
  Instr.checkKey ents.isEmpty 10000 K kv
  let (v, ok) ← match ← Instr.findKey K kv ents.toList with
    | some (_, v) => pure (v, true)
    | none => pure (← zeroValue E, false)
  pure (if c then .tuple #[v, .bool ok] else v)
theorem lookI_T (kc : AV) (f : Nat → AV → Tree) (n : Tree) : ∀ (es : List (AV × AV)) (j : Nat), (match lookI kc j es with
    | some (some (i, v)) => (f i v).ok Df P w0 g0 o0 N Q
    | some none => n.ok Df P w0 g0 o0 N Q
    | none => False) → (lookT std kc f n j es).ok Df P w0 g0 o0 N Q
  | [], j, h => h
  | (k, v) :: r, j, h => by
    rw [lookI] at h
    rw [lookT]
    split
    · rename_i hg
      rw [if_pos hg] at h
      split
      · rename_i sh b hb
        rw [hb] at h
        cases b with
        | true => exact ⟨fun _ => h, fun e => (nomatch e)⟩
        | false => exact ⟨fun e => (nomatch e), fun _ => lookI_T kc f n r (j + 1) h⟩
      · rename_i hb
        rw [hb] at h
        exact h.elim
    · rename_i hg
      rw [if_neg hg] at h
      exact h.elim
theorem look_T {kc : AV} {f : Nat → AV → Tree} {n : Tree} {es : List (AV × AV)} (h : (Tree.look kc es f n).ok Df P w0 g0 o0 N Q) : (lookT std kc f n 0 es).ok Df P w0 g0 o0 N Q := by
  unfold Tree.ok at h
  refine lookI_T kc f n es 0 ?_
  split at h
  · rename_i h1; rw [h1]; exact h
  · rename_i h1; rw [h1]; exact h
  · exact h.elim
theorem keyT_mono {KT : Nat} {k : AV} {t t' : Tree} (h : t.ok Df P w0 g0 o0 N Q → t'.ok Df P w0 g0 o0 N Q) (hk : (keyT ty KT k t).ok Df P w0 g0 o0 N Q) : (keyT ty KT k t').ok Df P w0 g0 o0 N Q := by
  unfold keyT at hk ⊢
  split
  · split
    · split
      · rename_i h1 h2
        simp only [h1] at hk
        rw [if_pos h2] at hk
        exact ⟨hk.1, h hk.2⟩
      · rename_i h1 h2
        simp only [h1] at hk
        rw [if_neg h2] at hk
        exact hk
    · rename_i h1
      simp only [h1] at hk
      exact hk
  · split
    · rename_i h2
      simp only at hk
      rw [if_pos h2] at hk
      exact h hk
    · rename_i h2
      simp only at hk
      rw [if_neg h2] at hk
      exact hk
  · split
    · rename_i h2
      simp only at hk
      rw [if_pos h2] at hk
      exact h hk
    · rename_i h2
      simp only at hk
      rw [if_neg h2] at hk
      exact hk
  · rename_i h1 h2 h3
    split at hk
    · exact absurd rfl (h1 _)
    · exact absurd rfl (h2 _)
    · exact absurd rfl (h3 _ _)
    · exact hk
theorem op_look (hT : TyOk P ty) {K : St → Tree} {o : Oper} {s : St} {a : Act} {w : World} {R : Exit → Act → World → Prop} (hs : Sim Df w0 g0 o0 N s a w) (hd : ∀ t, o.dst = some t → t < N)
    {T : Nat} {x i : Operand} {c : Bool} (ho : o.op = .lookup T x i c) (hok : (aopLook ty K o s T x i c).ok Df P w0 g0 o0 N Q) : o.wp P a w (Good Df ty P w0 g0 o0 N Q K o.op w) R := by
  obtain ⟨g, M, hS, h0⟩ := hs.rel
  unfold aopLook at hok
  split at hok
  · rename_i es hm
    split at hok
    · rename_i hk
      obtain ⟨hk1, hk2, hk3, hk4⟩ := hk
      have hok := keyT_mono look_T hok
      have hst := (ty_ok hT hk1).mapT hk2
      have hxr := ev_rel hS x
      have hmap : ∃ ents : Array MapEntry, ents.size = es.length ∧ (∀ (j : Nat) e q, ents[j]? = some e → es[j]? = some q → EntR w g.A e q) ∧
          ∀ kv V, (lookRest (mapKT ty T) (tyLook T ty).elem ents kv c).run P w = .ok V w → (Instr.lookup T (a.eval x) kv c).run P w = .ok V w := by
        unfold mapOf at hm
        split at hm
        · rename_i hx
          rw [hx] at hxr
          obtain rfl : [] = es := by simpa using hm
          refine ⟨#[], rfl, fun j e q h => by simp at h, fun kv V h => ?_⟩
          rw [hxr.valEq]
          unfold Instr.lookup
          rw [Sem.run_bind, run_underlying hst]
          simp only [Result.andThen_ok]
          rw [Sem.run_bind, Sem.run_pure]
          exact h
        · rename_i id hx
          rw [hx] at hxr
          split at hm
          · rename_i es' hob
            obtain rfl : es' = es := by simpa using hm
            obtain ⟨hG, ents, h1, h2, h3⟩ := M.iter id _ hob
            obtain ⟨k, h4, h5⟩ := hxr
            rw [hob] at h5
            obtain rfl : k = true := h5
            refine ⟨ents, h2, fun j e q he hq => (h3 j e q he hq).1, fun kv V h => ?_⟩
            have hget : (getObj (g.loc id)).run P w = .ok (.map ents es'.length) w := by simp [getObj, Sem.run, h1]
            rw [h4]
            unfold Instr.lookup itVal
            rw [Sem.run_bind, run_underlying hst]
            simp only [Result.andThen_ok]
            rw [Sem.run_bind, hget]
            simp only [Result.andThen_ok]
            rw [Sem.run_bind, Sem.run_pure]
            exact h
          · cases hm
        · cases hm
      obtain ⟨ents, e1, e2, e3⟩ := hmap
      obtain ⟨kv, q1, q2, q3, _, r, q4, hF⟩ := key_ok hT hS hk4 (l := ents.toList) (by simpa using e1) (fun j e q h1 h2 => e2 j e q (by simpa using h1) h2) hok
      have fin : ∀ (V : Value) (u : AV) (b : Bool), PRel1 w g.A V u → (Instr.lookup T (a.eval x) (a.eval i) c).run P w = .ok (if c then .tuple #[V, .bool b] else V) w → (K (St.put s o.dst (lookR c u b))).ok Df P w0 g0 o0 N Q → o.wp P a w (Good Df ty P w0 g0 o0 N Q K o.op w) R := fun V u b hV hrun hok => by
        have hr : (execOp a.eval o).run P w = .ok (.value (if c then .tuple #[V, .bool b] else V)) w := by
          simp only [execOp, ho]
          exact run_valW hrun
        exact wp_ok hr ⟨fun _ => Below.refl _ w, _, sim_put hs hS h0 M Step.refl hd (look_rel hV), hok⟩
      rcases hF with ⟨m, e, u, rfl, _, _, _, hV, hok⟩ | ⟨rfl, hok⟩
      · refine fin e.val u true hV ?_ hok
        rw [q2]
        refine e3 kv _ ?_
        unfold lookRest
        rw [Sem.run_bind, q3]
        simp only [Result.andThen_ok]
        rw [Sem.run_bind, q4]
        simp only [Result.andThen_ok, Sem.run_bind, Sem.run_pure]
      · have te := ty_ok hT hk3
        obtain ⟨z, z1, zA, z2⟩ := te.zeroV
        have fin2 : ∀ Z : AV, PRel1 w g.A z Z → (K (St.put s o.dst (lookR c Z false))).ok Df P w0 g0 o0 N Q → o.wp P a w (Good Df ty P w0 g0 o0 N Q K o.op w) R := fun Z hzr hok => by
          refine fin z Z false hzr ?_ hok
          rw [q2]
          refine e3 kv _ ?_
          unfold lookRest
          rw [Sem.run_bind, q3]
          simp only [Result.andThen_ok]
          rw [Sem.run_bind, q4]
          simp only [Result.andThen_ok]
          rw [Sem.run_bind, z2]
          simp only [Result.andThen_ok, Sem.run_bind, Sem.run_pure]
        unfold zerT at hok
        split at hok
        · rename_i hz
          have hzz : ∃ zs : Array Value, z = .agg zs := by
            have hsz : z.cells.size = (tyLook (tyLook T ty).elem ty).size := by rw [← te.zl, ← z1]; simp
            cases z <;> first | exact ⟨_, rfl⟩ | exact absurd hsz.symm hz.2
          obtain ⟨zs, rfl⟩ := hzz
          refine fin2 (.agg ((tyLook (tyLook T ty).elem ty).zero.map .val)) ⟨zs, rfl, ?_⟩ hok
          have e4 : zs.toList = (tyLook (tyLook T ty).elem ty).zero := z1
          rw [e4]
          refine ⟨by simp, fun j y u hy hu => ?_⟩
          rw [List.getElem?_map, hy] at hu
          obtain rfl : AV.val y = u := by simpa using hu
          exact PRel.val _ (List.all_eq_true.1 te.zone y (List.mem_of_getElem? hy))
        · split at hok
          · rename_i ha
            rw [ha] at zA
            have hc : z.cells = #[z] := by cases z <;> first | rfl | cases zA
            rw [hc] at z1
            have h1 : (tyLook (tyLook T ty).elem ty).zero.headD undef0 = z := by rw [← z1]; rfl
            rw [h1] at hok
            exact fin2 (.val z) (PRel.val _ (List.all_eq_true.1 te.zone z (by rw [← z1]; simp))) hok
          · exact hok.elim
    · exact hok.elim
  · exact hok.elim
def putR (b : Nat) (ents : Array MapEntry) (clock : Nat) (kv v : Value) (r : Option (Nat × Value)) : Sem Unit :=
  match r with
  | some (i, _) => do
    let key ← Instr.keyThatStays (((ents[i]?).map (·.key)).getD kv) kv
    setObj b (.map (ents.modify i fun e => { e with key, val := v }) clock)
  | none => setObj b (.map (ents.push { key := kv, val := v, born := clock }) (clock + 1))
theorem op_mapPut (hT : TyOk P ty) {K : St → Tree} {o : Oper} {s : St} {a : Act} {w : World} {R : Exit → Act → World → Prop} (hs : Sim Df w0 g0 o0 N s a w) (hd : ∀ t, o.dst = some t → t < N)
    {T : Nat} {m i x : Operand} (ho : o.op = .mapUpdate T m i x) (hok : (aopPut std ty K o s T m i x).ok Df P w0 g0 o0 N Q) : o.wp P a w (Good Df ty P w0 g0 o0 N Q K o.op w) R := by
  obtain ⟨g, M, hS, h0⟩ := hs.rel
  unfold aopPut at hok
  split at hok
  · rename_i id hm
    split at hok
    · rename_i es hob
      split at hok
      · rename_i hk
        obtain ⟨hk1, hk2, hk3, hk4⟩ := hk
        have hok := keyT_mono look_T hok
        have hst := (ty_ok hT hk1).mapT hk2
        have hmr := ev_rel hS m
        rw [hm] at hmr
        obtain ⟨hG, ents, h1, h2, h3⟩ := M.iter id _ hob
        obtain ⟨k, h4, h5⟩ := hmr
        rw [hob] at h5
        obtain rfl : k = true := h5
        obtain ⟨kv, q1, q2, q3, q5, r, q4, hF⟩ := key_ok hT hS hk3 (l := ents.toList) (by simpa using h2) (fun j e q h6 h7 => (h3 j e q (by simpa using h6) h7).1) hok
        have hget : (getObj (g.loc id)).run P w = .ok (.map ents es.length) w := by simp [getObj, Sem.run, h1]
        have fin : ∀ (es' : List (AV × AV)) (o' : Obj), ItRel w g.A g.loc s.ob.length (.map es') (some o') →
            ((putR (g.loc id) ents es.length kv (a.eval x) r).run P w = (setObj (g.loc id) o').run P w) →
            (K (St.put ⟨s.tm, s.ob.set id (.iter (.map es'))⟩ o.dst .dead)).ok Df P w0 g0 o0 N Q → o.wp P a w (Good Df ty P w0 g0 o0 N Q K o.op w) R := fun es' o' hI hrun hok => by
          have hset : (setObj (g.loc id) o').run P w = .ok () { w with heap := w.heap.setIfInBounds (g.loc id) o' } := by
            simp only [setObj, Sem.run, h1]
          obtain ⟨M', S'⟩ := iter_set M (x' := .map es') (o' := o') hob (fun h => h) hI
          have hr : (execOp a.eval o).run P w = .ok .skip { w with heap := w.heap.setIfInBounds (g.loc id) o' } := by
            simp only [execOp, ho, h4, q2]
            have hrun : (Instr.mapUpdate T (itVal true (g.loc id)) kv (a.eval x)).run P w = .ok () { w with heap := w.heap.setIfInBounds (g.loc id) o' } := by
              unfold Instr.mapUpdate itVal
              rw [Sem.run_bind, run_underlying hst]
              simp only [Result.andThen_ok]
              rw [Sem.run_bind, hget]
              simp only [Result.andThen_ok]
              rw [show (tyLook T ty).key = mapKT ty T from rfl, Sem.run_bind, q3 false w]
              simp only [Result.andThen_ok]
              rw [Sem.run_bind, q4 w]
              simp only [Result.andThen_ok]
              refine Eq.trans ?_ (hrun.trans hset)
              cases r with
              | none => rfl
              | some q => rfl
            rw [Sem.run_bind, hrun]; rfl
          unfold Oper.wp
          rw [hr]
          exact ⟨fun h => by simp [ho, quietW] at h, _, sim_put hs hS h0 M' S' hd (v := undef) (x := .dead) trivial, hok⟩
        have hpx := pur_rel1 (ev_rel hS x) hk4
        rcases hF with ⟨m, e, u, rfl, _, hm, hkey, _, hok⟩ | ⟨rfl, hok⟩
        · rw [Nat.sub_zero] at hm
          have hm : ents[m]? = some e := by simpa using hm
          have hml : m < ents.size := (Array.getElem?_eq_some_iff.1 hm).1
          refine fin (es.set m (ev s i, ev s x)) (.map (ents.modify m fun e => { e with key := kv, val := a.eval x }) es.length) ⟨_, by rw [List.length_set], by simp [h2], fun j e' q h6 h7 => ?_⟩ ?_ hok
          · rw [Array.getElem?_modify] at h6
            by_cases hj : m = j
            · subst hj
              rw [if_pos rfl, hm] at h6
              rw [List.getElem?_set_self (by omega)] at h7
              obtain rfl : ({ e with key := kv, val := a.eval x } : MapEntry) = e' := by simpa using h6
              obtain rfl : (ev s i, ev s x) = q := by simpa using h7
              obtain ⟨q', hq'⟩ : ∃ q', es[m]? = some q' := ⟨es[m], List.getElem?_eq_getElem (by omega)⟩
              exact ⟨⟨q1, hpx⟩, (h3 m e q' hm hq').2⟩
            · rw [if_neg hj] at h6
              rw [List.getElem?_set_ne hj] at h7
              exact h3 j e' q h6 h7
          · have hs2 : (Instr.keyThatStays (((ents[m]?).map (·.key)).getD kv) kv).run P w = .ok kv w := by
              rw [hm]
              simp only [Option.map_some, Option.getD_some, hkey]
              unfold Instr.keyThatStays
              rw [if_pos (q5 9999)]; rfl
            unfold putR
            simp only
            rw [Sem.run_bind, hs2]; rfl
        · refine fin (es ++ [(ev s i, ev s x)]) (.map (ents.push { key := kv, val := a.eval x, born := es.length }) (es.length + 1)) ⟨ents.push { key := kv, val := a.eval x, born := es.length }, by rw [List.length_append]; rfl, by simp [h2], fun j e q h6 h7 => ?_⟩ rfl hok
          by_cases hj : j < es.length
          · rw [Array.getElem?_push, if_neg (by omega)] at h6
            rw [List.getElem?_append_left hj] at h7
            exact h3 j e q h6 h7
          · have hje : j = es.length := by have := lt_of_some h7; simp at this; omega
            subst hje
            rw [Array.getElem?_push, if_pos h2.symm] at h6
            rw [List.getElem?_append_right (Nat.le_refl _)] at h7
            simp at h6 h7
            subst h6 h7
            exact ⟨⟨q1, hpx⟩, rfl⟩
      · exact hok.elim
    · exact hok.elim
  · exact hok.elim
theorem op_rangeM (hT : TyOk P ty) {K : St → Tree} {o : Oper} {s : St} {a : Act} {w : World} {R : Exit → Act → World → Prop} (hs : Sim Df w0 g0 o0 N s a w) (hd : ∀ t, o.dst = some t → t < N)
    {T : Nat} {x : Operand} (ho : o.op = .range T x) {id : Nat} (hx : ev s x = .iter id) {es : List (AV × AV)} (hob : s.ob[id]? = some (.iter (.map es))) (h1 : (tyLook T ty).kd = 8)
    (hok : (K (St.put ⟨s.tm, s.ob ++ [.iter (.mit id es [] none)]⟩ o.dst (.iter s.ob.length))).ok Df P w0 g0 o0 N Q) : o.wp P a w (Good Df ty P w0 g0 o0 N Q K o.op w) R := by
  obtain ⟨g, M, hS, h0⟩ := hs.rel
  have hxr := ev_rel hS x
  rw [hx] at hxr
  have hst := (ty_kd hT h1 (by decide)).mapT h1
  obtain ⟨hG, ents, h2, h3, h4⟩ := M.iter id _ hob
  obtain ⟨k, h5, h6⟩ := hxr
  rw [hob] at h6
  obtain rfl : k = true := h6
  have hr : (execOp a.eval o).run P w = .ok (.value (.pointer (some ⟨w.heap.size, 0, none⟩))) (w.alloc (.mapIter (some (g.loc id)) es.length #[] es.length)) := by
    simp only [execOp, ho, h5]
    exact run_valW (run_range_map w T _ _ _ ents es.length hst h2)
  have M' := M.new (.mapIter (some (g.loc id)) es.length #[] es.length) (.iter (.mit id es [] none)) (fun cs h => by cases h) (fun cs h => by cases h) (fun y h => by cases h; exact ⟨lt_of_some hob, #[], rfl, rfl, fun _ _ h => by cases h⟩) (fun et sz fz e xs h => by cases h)
  refine wp_ok hr ⟨fun _ => (Below.refl _ w).alloc (Nat.le_refl _) _, _, sim_put hs hS h0 M' (Step.new M _ _) hd ?_, hok⟩
  refine ⟨false, by simp [Gh.new, itVal], ?_⟩
  rw [get_new]; rfl
theorem kv_rel {w : World} {g : Gh} {ob : List Ob} {x : AV} {v : Value} (h : keyV x = some v) : ARel1 w g ob v x := by
  cases x with
  | agg cs =>
    obtain ⟨vs, h1, rfl⟩ := Option.map_eq_some_iff.1 h
    exact ⟨_, rfl, allV0_rel h1⟩
  | val u =>
    simp only [keyV] at h
    split at h
    · rename_i hu
      obtain rfl : u = v := by simpa using h
      exact PRel.val _ hu
    · cases h
  | _ => cases h
theorem op_nextM {K : St → Tree} {o : Oper} {s : St} {a : Act} {w : World} {R : Exit → Act → World → Prop} (hs : Sim Df w0 g0 o0 N s a w) (hd : ∀ t, o.dst = some t → t < N)
    {it : Operand} (ho : o.op = .next it false) {id : Nat} (hi : ev s it = .iter id) {m : Nat} {es es2 : List (AV × AV)} {seen : List Nat} {cur : Option (Nat × (AV × AV))} (hob : s.ob[id]? = some (.iter (.mit m es seen cur))) (hom : s.ob[m]? = some (.iter (.map es2)))
    (hlen : std.samE es es2)
    (ht : ∀ j q, es2[j]? = some q → j ∉ seen → (K (St.put ⟨s.tm, s.ob.set id (.iter (.mit m es (std.appN seen j) (some (j, q))))⟩ o.dst (.tup [.kb true, q.1, q.2]))).ok Df P w0 g0 o0 N Q)
    (hf : (∀ j, j < es2.length → j ∈ seen) → (K (St.put s o.dst (.tup [.kb false]))).ok Df P w0 g0 o0 N Q) : o.wp P a w (Good Df ty P w0 g0 o0 N Q K o.op w) R := by
  obtain ⟨g, M, hS, h0⟩ := hs.rel
  have hlen : es.length = es2.length := hlen
  have hir := ev_rel hS it
  rw [hi] at hir
  have hv : a.eval it = .pointer (some ⟨g.loc id, 0, none⟩) := by
    obtain ⟨k, h1, h2⟩ := hir
    rw [hob] at h2
    obtain rfl : k = false := h2
    exact h1
  obtain ⟨hG, hmn, sn, hh, hsn, _⟩ := M.iter id _ hob
  obtain ⟨hGm, ents, hm1, hm2, hm3⟩ := M.iter m _ hom
  have get : ∀ e ∈ ents.toList, ∃ j q, ents[j]? = some e ∧ es2[j]? = some q ∧ e.born = j ∧ EntR w g.A e q := fun e he => by
    obtain ⟨j, hj, rfl⟩ := List.mem_iff_getElem.1 he
    have hj2 : j < es2.length := by simpa [hm2] using hj
    have h1 : ents[j]? = some ents.toList[j] := by rw [← Array.getElem?_toList]; exact List.getElem?_eq_getElem hj
    have h2 := List.getElem?_eq_getElem hj2
    exact ⟨j, _, h1, h2, (hm3 j _ _ h1 h2).2, (hm3 j _ _ h1 h2).1⟩
  rcases Go.run_next_at (P := P) w o.type (g.loc id) (g.loc m) es.length es.length sn ents es2.length hh hm1 (fun x hx => by
      obtain ⟨j, q, _, h2, h3, _⟩ := get x hx
      have := lt_of_some h2
      omega) (Nat.le_refl _) with ⟨hl, hrun⟩ | ⟨e, he, w1, hw1, hrun⟩
  · have hr : (execOp a.eval o).run P w = .ok (.value (.tuple #[.bool false])) w := by
      simp only [execOp, ho, hv]
      exact run_valW hrun
    refine wp_ok hr ⟨fun h => by simp [ho, quietW] at h, _, sim_put hs hS h0 M Step.refl hd (x := .tup [.kb false]) ?_, hf fun j hj => ?_⟩
    · refine ⟨_, rfl, rfl, fun j y u hy hu => ?_⟩
      match j, hy, hu with
      | 0, hy, hu =>
        obtain rfl : Value.bool false = y := by simpa using hy
        obtain rfl : AV.kb false = u := by simpa using hu
        exact (rfl : Value.bool false = .bool false)
      | j + 1, hy, _ => simp at hy
    · have hj2 : j < ents.size := by omega
      have h1 := Array.getElem?_eq_getElem hj2
      have h2 := List.getElem?_eq_getElem hj
      have hb := (hm3 j _ _ h1 h2).2
      refine Classical.byContradiction fun hns => ?_
      have : ents[j] ∈ leftOf ents sn := by
        unfold leftOf
        rw [Array.mem_filter]
        refine ⟨Array.getElem_mem hj2, ?_⟩
        rw [hb]
        simp only [Bool.not_eq_true', Bool.eq_false_iff, ne_eq, Array.contains_iff_mem]
        intro h
        exact hns (by rw [← hsn]; simpa using h)
      have h0 := Array.eq_empty_of_size_eq_zero hl
      rw [h0] at this
      simp at this
  · have hef : e ∈ ents.toList ∧ e.born ∉ seen := by
      unfold leftOf at he
      rw [Array.mem_toList_iff, Array.mem_filter] at he
      refine ⟨by simpa using he.1, fun h => ?_⟩
      have := he.2
      simp only [Bool.not_eq_true', Bool.eq_false_iff, ne_eq, Array.contains_iff_mem] at this
      exact this (by rw [← hsn] at h; simpa using h)
    obtain ⟨j, q, h1, h2, h3, h4⟩ := get e hef.1
    rw [h3] at hrun hef
    have hb : Below w.heap.size w w1 := by
      rcases hw1 with rfl | rfl
      · exact Below.refl _ _
      · exact (Below.refl _ w).drew
    have M1 := M.immNew hb
    have hI : ItRel w1 (g.imm w w1).A (g.imm w w1).loc s.ob.length (.mit m es (seen ++ [j]) (some (j, q))) (some (.mapIter (some (g.loc m)) es.length (sn.push j) es2.length)) := ⟨hmn, sn.push j, by rw [hlen]; rfl, by simp [hsn], fun j' q' h => by cases h; exact ⟨sn, rfl⟩⟩
    obtain ⟨M', S'⟩ := iter_set M1 (x' := .mit m es (seen ++ [j]) (some (j, q))) (o' := .mapIter (some (g.loc m)) es.length (sn.push j) es2.length) hob (fun h => h) hI
    have S2 := (Step.immNew M hb).trans S'
    have hr : (execOp a.eval o).run P w = .ok (.value (.tuple #[.bool true, e.key, e.val])) { w1 with heap := w1.heap.setIfInBounds ((g.imm w w1).loc id) (.mapIter (some (g.loc m)) es.length (sn.push j) es2.length) } := by
      simp only [execOp, ho, hv]
      exact run_valW hrun
    refine wp_ok hr ⟨fun h => by simp [ho, quietW] at h, _, sim_put hs hS h0 M' S2 hd (x := .tup [.kb true, q.1, q.2]) ?_, ht j q h2 hef.2⟩
    refine ⟨_, rfl, rfl, fun j y u hy hu => ?_⟩
    match j, hy, hu with
    | 0, hy, hu =>
      obtain rfl : Value.bool true = y := by simpa using hy
      obtain rfl : AV.kb true = u := by simpa using hu
      exact (rfl : Value.bool true = .bool true)
    | 1, hy, hu =>
      obtain rfl : e.key = y := by simpa using hy
      obtain rfl : q.1 = u := by simpa using hu
      exact kv_rel h4.1
    | 2, hy, hu =>
      obtain rfl : e.val = y := by simpa using hy
      obtain rfl : q.2 = u := by simpa using hu
      have h5 := h4.2.keep S2.ext.A
      exact rel1_to h5 (rel1_live h5)
    | j + 3, hy, _ => simp at hy
theorem op_entryM {K : St → Tree} {o : Oper} {s : St} {a : Act} {w : World} {R : Exit → Act → World → Prop} (hs : Sim Df w0 g0 o0 N s a w) (hd : ∀ t, o.dst = some t → t < N)
    {it : Operand} (ho : o.op = .entry it) {id : Nat} (hi : ev s it = .iter id) {m : Nat} {es es2 : List (AV × AV)} {seen : List Nat} {j : Nat} {q : AV × AV} (hob : s.ob[id]? = some (.iter (.mit m es seen (some (j, q))))) (hom : s.ob[m]? = some (.iter (.map es2)))
    (hlen : std.samE es es2) (hq : std.isE es2 j q) (hok : (K (St.put s o.dst (.tup [q.1, q.2]))).ok Df P w0 g0 o0 N Q) : o.wp P a w (Good Df ty P w0 g0 o0 N Q K o.op w) R := by
  obtain ⟨g, M, hS, h0⟩ := hs.rel
  have hlen : es.length = es2.length := hlen
  have hq : es2[j]? = some q := hq
  have hir := ev_rel hS it
  rw [hi] at hir
  have hv : a.eval it = .pointer (some ⟨g.loc id, 0, none⟩) := by
    obtain ⟨k, h1, h2⟩ := hir
    rw [hob] at h2
    obtain rfl : k = false := h2
    exact h1
  obtain ⟨hG, hmn, sn, hh, hsn, hcur⟩ := M.iter id _ hob
  obtain ⟨sp, rfl⟩ := hcur j q rfl
  obtain ⟨hGm, ents, hm1, hm2, hm3⟩ := M.iter m _ hom
  have hj2 : j < es2.length := lt_of_some hq
  have hje : j < ents.size := by omega
  have he1 := Array.getElem?_eq_getElem hje
  obtain ⟨h4, hb⟩ := hm3 j _ q he1 hq
  have hn : (ents.toList.map (·.born)).Nodup := by
    have : ents.toList.map (·.born) = List.range ents.size := by
      refine List.ext_getElem (by simp) fun i h1 h2 => ?_
      have h3 : i < ents.size := by simpa using h1
      have h5 : i < es2.length := by omega
      have := (hm3 i _ _ (Array.getElem?_eq_getElem h3) (List.getElem?_eq_getElem h5)).2
      simp [this]
    rw [this]; exact List.nodup_range
  have hr : (execOp a.eval o).run P w = .ok (.value (.tuple #[ents[j].key, ents[j].val])) w := by
    simp only [execOp, ho, hv]
    rw [hlen] at hh
    rw [← hb] at hh
    exact run_valW (run_entry_at w (g.loc id) (g.loc m) es2.length sp ents es2.length ents[j] hh hm1 (by simp) hn)
  refine wp_ok hr ⟨fun _ => Below.refl _ w, _, sim_put hs hS h0 M Step.refl hd (x := .tup [q.1, q.2]) ?_, hok⟩
  refine ⟨_, rfl, rfl, fun i y u hy hu => ?_⟩
  match i, hy, hu with
  | 0, hy, hu =>
    obtain rfl : ents[j].key = y := by simpa using hy
    obtain rfl : q.1 = u := by simpa using hu
    exact kv_rel h4.1
  | 1, hy, hu =>
    obtain rfl : ents[j].val = y := by simpa using hy
    obtain rfl : q.2 = u := by simpa using hu
    exact rel1_to h4.2 (rel1_live h4.2)
  | i + 2, hy, _ => simp at hy
end
end Go.Proofs.YtcmjijpofkoogaaGreat
