/- Lemmas, conditions told -/
import Derived.Test.YtcmjijpofkoogaaGreatG05
import Derived.Lib.AppendStr
set_option linter.unusedSimpArgs false
set_option linter.unusedVariables false
namespace Go.Proofs.YtcmjijpofkoogaaGreat
open Go.RowKit Go.Lib
section
variable {P : Program} {ty : Tys} {w : World} {g : Gh} {s : St} {a : Act}
theorem yld_unOp (hS : Slots w g s a) {o : Oper} {op : UnOp} {T : Nat} {x : Operand} (ho : o.op = .unOp op T x) {q : Option DP} {z : AV}
    (h : aval std ty s o.op = some (q, z)) (hq : ∀ r, q = some r → r) : Yld P w g s a o false z := by
  rw [ho] at h
  simp only [aval] at h
  have hx := ev_rel hS x
  refine yld_of (S := Op.unary op (a.eval x)) (fun W => by simp only [execOp, ho]) ?_
  split at h
  · rename_i b hb
    rw [hb] at hx
    simp only [Option.some.injEq, Prod.mk.injEq] at h
    obtain ⟨rfl, rfl⟩ := h
    exact ⟨_, fun W _ => by rw [hx.valEq]; rfl, .val _ rfl⟩
  · rename_i k n hb
    rw [hb] at hx
    simp only [Option.some.injEq, Prod.mk.injEq] at h
    obtain ⟨rfl, rfl⟩ := h
    have h1 : k.wrap (0 - n) = 0 - n := wrap_in k _ (hq _ rfl)
    exact ⟨.int k (0 - n), fun W _ => by rw [hx.valEq]; simp only [Op.unary, Op.intArith, h1]; rfl, .val _ rfl⟩
  · cases h
theorem isB_flat {xs : List AV} (h : std.isB xs) : flatA xs = xs := by
  have h : ∀ x ∈ xs, ∃ n : UInt8, x = .val (.int .u8 n.toNat) := h
  induction xs with
  | nil => rfl
  | cons x r ih =>
    obtain ⟨n, rfl⟩ := h x List.mem_cons_self
    rw [flatA, List.flatMap_cons]
    have := ih (fun x hx => h x (List.mem_cons_of_mem _ hx)) (fun x hx => h x (List.mem_cons_of_mem _ hx))
    rw [flatA] at this
    rw [this]
    rfl
theorem isB_bytes {A : Nat → Nat → Prop} {ys : List Value} {xs : List AV} (hb : std.isB xs) (hal : Alike w A ys xs) : ys = bc (xs.map byteOf) := by
  have hb : ∀ x ∈ xs, ∃ n : UInt8, x = .val (.int .u8 n.toNat) := hb
  refine List.ext_getElem? fun j => ?_
  by_cases hj : j < xs.length
  · obtain ⟨n, hn⟩ := hb _ (List.getElem_mem hj)
    have h1 : j < ys.length := by rw [hal.1]; exact hj
    have h2 := hal.2 j _ _ (List.getElem?_eq_getElem h1) (List.getElem?_eq_getElem hj)
    rw [hn] at h2
    have h3 : ys[j] = .int .u8 n.toNat := by
      generalize ys[j] = y at h2
      cases h2; rfl
    rw [bc, List.getElem?_map, List.getElem?_map, List.getElem?_eq_getElem hj, hn, List.getElem?_eq_getElem h1, h3]
    simp only [Option.map_some, byteOf, Int.toNat_natCast, UInt8.ofNat_toNat]
  · rw [List.getElem?_eq_none (by rw [hal.1]; omega), List.getElem?_eq_none (by simp [bc]; omega)]
theorem isR_flat {xs : List AV} (h : std.isR xs) : flatA xs = xs := by
  have h : ∀ x ∈ xs, ∃ n : Int, x = .val (.int .i32 n) := h
  induction xs with
  | nil => rfl
  | cons x r ih =>
    obtain ⟨n, rfl⟩ := h x List.mem_cons_self
    rw [flatA, List.flatMap_cons]
    have := ih (fun x hx => h x (List.mem_cons_of_mem _ hx)) (fun x hx => h x (List.mem_cons_of_mem _ hx))
    rw [flatA] at this
    rw [this]
    rfl
theorem isR_runes {A : Nat → Nat → Prop} {ys : List Value} {xs : List AV} (hb : std.isR xs) (hal : Alike w A ys xs) : ys = (xs.map intOf).map (Value.int .i32) := by
  have hb : ∀ x ∈ xs, ∃ n : Int, x = .val (.int .i32 n) := hb
  refine List.ext_getElem? fun j => ?_
  by_cases hj : j < xs.length
  · obtain ⟨n, hn⟩ := hb _ (List.getElem_mem hj)
    have h1 : j < ys.length := by rw [hal.1]; exact hj
    have h2 := hal.2 j _ _ (List.getElem?_eq_getElem h1) (List.getElem?_eq_getElem hj)
    rw [hn] at h2
    have h3 : ys[j] = .int .i32 n := by
      generalize ys[j] = y at h2
      cases h2; rfl
    rw [List.getElem?_map, List.getElem?_map, List.getElem?_eq_getElem hj, hn, List.getElem?_eq_getElem h1, h3]
    rfl
  · rw [List.getElem?_eq_none (by rw [hal.1]; omega), List.getElem?_eq_none (by simp; omega)]
theorem run_runes_string' {w : World} {S : Nat → Prop} {A : Option Addr} {n c : Nat} {l : List Int} (h : Rd w S 1 A n c (l.map (Value.int .i32))) (src dst e : TypeId)
    (hs : P.underlying src = some (.slice e)) (he : P.underlying e = some (.int .i32)) (hd : P.underlying dst = some .string) :
    (convert src dst (.slice A n c)).run P w = .ok (.string (runesBytes l)) w := by
  have hl : n = l.length := by have := h.len; simpa using this.symm
  subst hl
  rcases A with _ | ad
  · have := h.nil rfl
    have := h.le
    have : l = [] := List.eq_nil_of_length_eq_zero (by omega)
    subst this
    exact run_convert_runes_nil w src dst e _ _ hs he hd
  · have := run_convert_runes w src dst e ad l.length c l (Nat.le_refl _) hs he hd fun j hj => by
      obtain ⟨b, o, ha, _, hc⟩ := h.at_ (by omega)
      injection ha with ha
      subst ha
      rw [Addr.add_lit]
      exact hc j _ (by simp [hj])
    rw [List.take_length] at this
    exact this
theorem yld_convert (hT : TyOk P ty) (hS : Slots w g s a) (M : Mem w g s.ob) {o : Oper} {src dst : Nat} {x : Operand} (ho : o.op = .convert src dst x) {q : Option DP} {z : AV}
    (h : aval std ty s o.op = some (q, z)) (hq : ∀ r, q = some r → r) : Yld P w g s a o true z := by
  rw [ho] at h
  simp only [aval] at h
  have hx := ev_rel hS x
  refine yld_of (S := convert src dst (a.eval x)) (fun W => by simp only [execOp, ho]) ?_
  split at h
  · rename_i hok
    obtain ⟨d, hd, _⟩ := (ty_ok hT hok).u
    split at h
    · rename_i k n hb
      rw [hb] at hx
      split at h
      · rename_i k' hk
        have hu := (ty_kind hT hk).int hk
        simp only [Option.some.injEq, Prod.mk.injEq] at h
        obtain ⟨rfl, rfl⟩ := h
        refine ⟨.int k' (k'.wrap n), fun W _ => ?_, .val _ rfl⟩
        rw [hx.valEq]
        simp [convert, run_underlying hd, run_underlying hu, Conv.intToInt]
      · split at h
        · rename_i hk
          have hu := (ty_kd hT hk (by decide)).str hk
          simp only [Option.some.injEq, Prod.mk.injEq] at h
          obtain ⟨rfl, rfl⟩ := h
          refine ⟨.string (Utf8.encode n), fun W _ => ?_, .val _ rfl⟩
          rw [hx.valEq]
          simp [convert, run_underlying hd, run_underlying hu, Conv.intToString]
        · cases h
    · rename_i b hb
      rw [hb] at hx
      split at h
      · rename_i hk
        have hu := (ty_kd hT hk (by decide)).str hk
        simp only [Option.some.injEq, Prod.mk.injEq] at h
        obtain ⟨rfl, rfl⟩ := h
        refine ⟨.string b, fun W _ => ?_, .val _ rfl⟩
        rw [hx.valEq]
        simp [convert, run_underlying hd, run_underlying hu]
      · cases h
    · split at h
      · rename_i xs he
        split at h
        · rename_i hk
          obtain ⟨hk1, hk2⟩ := hk
          have hu := (ty_kd hT hk1 (by decide)).str hk1
          have hs := (ty_sl hT hk2).slice hk2
          split at h
          · rename_i hk3
            have hee := (ty_kind hT hk3).int hk3
            simp only [Option.some.injEq, Prod.mk.injEq] at h
            obtain ⟨rfl, rfl⟩ := h
            have hb : std.isB xs := hq _ rfl
            obtain ⟨A, c, ys, h1, hr, hal⟩ := elems_rel M hx he
            rw [isB_flat hb] at hal
            have hys := isB_bytes hb hal
            subst hys
            refine ⟨.string ⟨(xs.map byteOf).toArray⟩, fun W hW => ?_, .val _ rfl⟩
            rw [h1]
            exact run_bytes_string (hr.below (hW rfl)) src dst _ hs hee hu
          · rename_i hk3
            have hee := (ty_kind hT hk3).int hk3
            simp only [Option.some.injEq, Prod.mk.injEq] at h
            obtain ⟨rfl, rfl⟩ := h
            have hb : std.isR xs := hq _ rfl
            obtain ⟨A, c, ys, h1, hr, hal⟩ := elems_rel M hx he
            rw [isR_flat hb] at hal
            have hys := isR_runes hb hal
            subst hys
            refine ⟨.string (runesBytes (xs.map intOf)), fun W hW => ?_, .val _ rfl⟩
            rw [h1]
            exact run_runes_string' (hr.below (hW rfl)) src dst _ hs hee hu
          · cases h
        · cases h
      · cases h
  · cases h
theorem yld_makeFunc {o : Oper} {fn : Fn} (ho : o.op = .makeFunc fn #[] #[]) : Yld P w g s a o false (.val (.func fn #[] #[])) := by
  refine yld_of (S := Instr.makeFunc fn #[] #[]) (fun W => by simp [execOp, ho]) ⟨_, fun W _ => rfl, .val _ rfl⟩
theorem yld_makeClo (hS : Slots w g s a) {o : Oper} {f : Nat} {x : Operand} {id off : Nat} (hx : ev s x = .box id off) (t : Bool) (ho : o.op = .makeFunc (.func f) (match t with | true => #[x] | false => #[]) (match t with | true => #[] | false => #[x])) :
    Yld P w g s a o false (.clo f id off t) := by
  have h := ev_rel hS x
  rw [hx] at h
  obtain ⟨h1, h2⟩ := h
  cases t with
  | true => exact yld_of (S := Instr.makeFunc (.func f) #[a.eval x] #[]) (fun W => by simp [execOp, ho]) ⟨cloV f true (g.loc id) off, fun W _ => by rw [h1]; rfl, rfl, h2⟩
  | false => exact yld_of (S := Instr.makeFunc (.func f) #[] #[a.eval x]) (fun W => by simp [execOp, ho]) ⟨cloV f false (g.loc id) off, fun W _ => by rw [h1]; rfl, rfl, h2⟩
theorem part_rel (hT : TyOk P ty) {t off : Nat} (hok : (tyLook t ty).ok = true) {vs : Array Value} {cs : List AV} (hc : ARelC w g s.ob vs.toList cs) (hl : off + (if (tyLook t ty).agg then (tyLook t ty).size else 1) ≤ cs.length) :
    ∃ v, (∀ W, (part t vs off).run P W = .ok v W) ∧ ARel w g s.ob v (mk ty t (cs.drop off)) := by
  have ti := ty_ok hT hok
  have hlen : vs.size = cs.length := by simpa using hc.1
  cases ha : (tyLook t ty).agg with
  | true =>
    rw [ha] at hl
    simp only [if_true] at hl
    refine ⟨.agg (vs.extract off (off + (tyLook t ty).size)), fun W => ?_, ?_⟩
    · have h1 := ti.isAgg W
      have h2 := ti.size W
      rw [ha] at h1
      simp [part, h1, h2]
    · rw [mk, ha]
      simp only [if_true]
      refine ⟨_, rfl, by simp; omega, fun j y u hy hu => ?_⟩
      rw [List.getElem?_take] at hu
      split at hu
      · rename_i hj
        rw [List.getElem?_drop] at hu
        refine hc.2 (off + j) y u ?_ hu
        rw [Array.toList_extract, List.getElem?_take, if_pos (by omega), List.getElem?_drop] at hy
        exact hy
      · cases hu
  | false =>
    rw [ha] at hl
    simp only [Bool.false_eq_true, if_false] at hl
    have hv : off < vs.size := by omega
    have hc' : off < cs.length := by omega
    refine ⟨vs[off], fun W => ?_, ?_⟩
    · have h1 := ti.isAgg W
      rw [ha] at h1
      simp [part, h1, hv]
    · rw [mk, ha]
      simp only [Bool.false_eq_true, if_false]
      have e : (cs.drop off).headD .dead = cs[off] := by
        rw [List.headD_eq_head?_getD, List.head?_drop, List.getElem?_eq_getElem hc']; rfl
      rw [e]
      exact (hc.2 off _ _ (by simp [hv]) (List.getElem?_eq_getElem hc')).1.to
theorem yld_field (hT : TyOk P ty) (hS : Slots w g s a) {o : Oper} {T f : Nat} {x : Operand} (ho : o.op = .field T x f) {q : Option DP} {z : AV}
    (h : aval std ty s o.op = some (q, z)) : Yld P w g s a o false z := by
  rw [ho] at h
  simp only [aval] at h
  have hx := ev_rel hS x
  refine yld_of (S := Instr.field T (a.eval x) f) (fun W => by simp only [execOp, ho]) ?_
  split at h
  · rename_i off t cs hf hb
    rw [hb] at hx
    obtain ⟨vs, hv, hc⟩ := hx
    by_cases hl : (tyLook t ty).ok = true ∧ off + (if (tyLook t ty).agg then (tyLook t ty).size else 1) ≤ cs.length
    · rw [if_pos hl] at h
      simp only [Option.some.injEq, Prod.mk.injEq] at h
      obtain ⟨rfl, rfl⟩ := h
      obtain ⟨fs, fd, h1, h2, h3⟩ := (ty_fld hT hf).strct' hf
      obtain ⟨rfl, rfl⟩ : off = fd.offset ∧ t = fd.type := by simpa using h3
      obtain ⟨v, h4, h5⟩ := part_rel hT hl.1 hc hl.2
      refine ⟨v, fun W _ => ?_, h5⟩
      rw [hv]
      simp [Instr.field, run_underlying h1, h2, asAgg, h4]
    · rw [if_neg hl] at h; cases h
  · cases h
theorem fold_set (off : Nat) : ∀ (l : List Value) (k : Nat) (c : Array Value),
    ((l.zipIdx k).foldl (fun cs (x : Value × Nat) => cs.setIfInBounds (off + x.2) x.1) c).toList = c.toList.take (off + k) ++ (l.take (c.size - (off + k)) ++ c.toList.drop (off + k + l.length)) := by
  intro l
  induction l with
  | nil => intro k c; simp
  | cons v r ih =>
    intro k c
    simp only [List.zipIdx_cons, List.foldl_cons]
    rw [ih (k + 1) (c.setIfInBounds (off + k) v)]
    by_cases h : off + k < c.size
    · have h1 : c.size - (off + k) = (c.size - (off + (k + 1))) + 1 := by omega
      simp only [Array.size_setIfInBounds, Array.toList_setIfInBounds]
      rw [h1, List.take_succ_cons, ← Nat.add_assoc, List.take_succ_eq_append_getElem (by simpa using h), List.getElem_set_self, List.take_set_of_le (by omega), List.drop_set_of_lt (by omega), List.append_assoc]
      simp only [List.singleton_append, List.length_cons, List.cons_append, List.nil_append]
      rw [show off + k + 1 + r.length = off + k + (r.length + 1) by omega]
    · simp only [Array.size_setIfInBounds, Array.toList_setIfInBounds]
      have h1 : c.size - (off + k) = 0 := by omega
      have h2 : c.size - (off + (k + 1)) = 0 := by omega
      rw [h1, h2, List.set_eq_of_length_le (by simp; omega)]
      simp only [List.take_zero, List.nil_append, List.length_cons]
      rw [List.take_of_length_le (by simp; omega), List.take_of_length_le (by simp; omega), List.drop_eq_nil_of_le (by simp; omega), List.drop_eq_nil_of_le (by simp; omega)]
theorem setCells_rel {ob : List Ob} {c : List Value} {cs : List AV} (h : ARelC w g ob c cs) {l : List Value} {us : List AV} (h' : ARelC w g ob l us) {off : Nat} (hl : off + us.length ≤ cs.length) :
    ARelC w g ob (c.take off ++ (l ++ c.drop (off + l.length))) (setCells cs off us) := by
  have e1 := h.1
  have e2 := h'.1
  refine ⟨by simp [setCells]; omega, fun j y u hy hu => ?_⟩
  unfold setCells at hu
  rw [List.append_assoc] at hu
  by_cases h1 : j < off
  · rw [List.getElem?_append_left (by simp; omega), List.getElem?_take, if_pos h1] at hy hu
    exact h.2 j y u hy hu
  · rw [List.getElem?_append_right (by simp; omega)] at hy hu
    have e3 : (c.take off).length = off := by rw [List.length_take]; omega
    have e4 : (cs.take off).length = off := by rw [List.length_take]; omega
    rw [e3] at hy
    rw [e4] at hu
    by_cases h2 : j - off < l.length
    · rw [List.getElem?_append_left h2] at hy
      rw [List.getElem?_append_left (by omega)] at hu
      exact h'.2 _ y u hy hu
    · rw [List.getElem?_append_right (by omega), List.getElem?_drop] at hy
      rw [List.getElem?_append_right (by omega), List.getElem?_drop, ← e2] at hu
      exact h.2 _ y u hy hu
theorem fill_rel {ob : List Ob} {flds : List (Nat × Nat)} {place : Nat → Option (Nat × Nat)} (hplace : ∀ (i off t : Nat), flds[i]? = some (off, t) → (tyLook t ty).ok = true → place i = some (off, (tyLook t ty).size)) :
    ∀ (parts : List (Nat × Value × AV)) (c : Array Value) (cs cs' : List AV), (∀ p ∈ parts, ARel w g ob p.2.1 p.2.2) → ARelC w g ob c.toList cs → fillA ty flds cs (parts.map fun p => (p.1, p.2.2)) = some cs' →
      ∃ c', Instr.fill place c (parts.map fun p => (p.1, p.2.1)) = some c' ∧ ARelC w g ob c'.toList cs'
  | [], c, cs, cs', _, hc, h => by
    obtain rfl : cs = cs' := by simpa [fillA] using h
    exact ⟨c, rfl, hc⟩
  | (i, v, x) :: r, c, cs, cs', hp, hc, h => by
    simp only [List.map_cons, fillA] at h
    split at h
    · rename_i off t hf
      split at h
      · rename_i hl
        obtain ⟨h1, h2, h3, h4⟩ := hl
        have hv := (hp _ List.mem_cons_self).cells h1
        have hlen : v.cells.size = x.cells.length := by simpa using hv.1
        have hcl : c.size = cs.length := by simpa using hc.1
        have hn := setCells_rel hc hv h4
        have hfo := fold_set off v.cells.toList 0 c
        have e1 : (v.cells.toList.take (c.size - (off + 0))) = v.cells.toList := List.take_of_length_le (by simp; omega)
        rw [e1, Nat.add_zero] at hfo
        rw [← hfo] at hn
        obtain ⟨c', h5, h6⟩ := fill_rel hplace r _ _ cs' (fun p hm => hp p (List.mem_cons_of_mem _ hm)) hn h
        refine ⟨c', ?_, h6⟩
        simp only [List.map_cons, Instr.fill, hplace i off t hf h2]
        rw [if_neg]
        · rw [← h5]
          congr 1
          rw [← Array.foldl_toList, Array.toList_zipIdx]
        · simp only [Bool.or_eq_true, decide_eq_true_eq, bne_iff_ne, ne_eq, not_or]
          omega
      · cases h
    · cases h
theorem zero_rel {ob : List Ob} {zs : List Value} (h : zs.all (·.oneCell') = true) : ARelC w g ob zs (zs.map .val) := by
  refine ⟨by simp, fun j y u hy hu => ?_⟩
  rw [List.getElem?_map, hy] at hu
  obtain rfl : AV.val y = u := by simpa using hu
  have h1 := List.all_eq_true.1 h y (List.mem_of_getElem? hy)
  exact ⟨PRel.val y h1, h1⟩
theorem yld_elem (hT : TyOk P ty) (hS : Slots w g s a) {o : Oper} {T : Nat} {x i : Operand} (ho : o.op = .index T x i) {cs : List AV} (hx : ev s x = .agg cs) {kn : IntKind} {k : Int} (hi : ev s i = .val (.int kn k))
    (h0 : 100 ≤ (tyLook T ty).kd) (hok : (tyLook (tyLook T ty).elem ty).ok = true) (h1 : 0 ≤ k) (h2 : k < ((tyLook T ty).kd - 100 : Nat))
    (hl : k.toNat * (tyLook (tyLook T ty).elem ty).size + (if (tyLook (tyLook T ty).elem ty).agg then (tyLook (tyLook T ty).elem ty).size else 1) ≤ cs.length) :
    Yld P w g s a o false (mk ty (tyLook T ty).elem (cs.drop (k.toNat * (tyLook (tyLook T ty).elem ty).size))) := by
  have hxr := ev_rel hS x
  have hir := ev_rel hS i
  rw [hx] at hxr
  rw [hi] at hir
  obtain ⟨vs, hv, hc⟩ := hxr
  have hu := (ty_kd hT (k := (tyLook T ty).kd) rfl (by omega)).arr h0
  obtain ⟨v, h4, h5⟩ := part_rel hT hok hc hl
  refine yld_of (S := Instr.index T (a.eval x) (a.eval i)) (fun W => by simp only [execOp, ho]) ⟨v, fun W _ => ?_, h5⟩
  rw [hv, hir.valEq]
  have hs := (ty_ok hT hok).size W
  have h6 : ((tyLook T ty).kd - 100 : Nat) = (tyLook T ty).kd - 100 := rfl
  simp [Instr.index, asIntOf, run_underlying hu, h1, h2, hs, h4]
theorem yld_build (hT : TyOk P ty) (hS : Slots w g s a) {o : Oper} {T : Nat} {parts : Array (Nat × Operand)} (ho : o.op = .build T parts) {q : Option DP} {z : AV}
    (h : aval std ty s o.op = some (q, z)) : Yld P w g s a o false z := by
  rw [ho] at h
  simp only [aval] at h
  split at h
  · rename_i hok
    obtain ⟨cs', h1, h2⟩ := Option.map_eq_some_iff.1 h
    simp only [Prod.mk.injEq] at h2
    obtain ⟨rfl, rfl⟩ := h2
    have ti := ty_ok hT hok.1
    obtain ⟨fs, hu, hfl⟩ := ti.strct hok.2
    obtain ⟨i0, z0, hi, hsz, hby, hz, hzc, _⟩ := ti.i
    have hpl : ∃ places, fs.toList.mapM (fun f => (P.info? f.type).map fun i => (f.offset, i.size)) = some places ∧ ∀ (i off t : Nat), (tyLook T ty).flds[i]? = some (off, t) → (tyLook t ty).ok = true → places[i]? = some (off, (tyLook t ty).size) := by
      have hfi := ti.fi
      rw [hfl] at hfi ⊢
      clear hfl hu h1
      generalize fs.toList = l at hfi ⊢
      induction l with
      | nil => exact ⟨[], rfl, fun i off t h => by simp at h⟩
      | cons f r ih =>
        simp only [List.map_cons, List.all_cons, Bool.and_eq_true] at hfi
        obtain ⟨places, h3, h4⟩ := ih hfi.2
        obtain ⟨fi, hfi'⟩ := Option.isSome_iff_exists.1 hfi.1
        refine ⟨(f.offset, fi.size) :: places, by simp [h3, hfi'], fun i off t h5 h6 => ?_⟩
        cases i with
        | zero =>
          obtain ⟨rfl, rfl⟩ : f.offset = off ∧ f.type = t := by simpa using h5
          obtain ⟨i1, _, h7, h8, _⟩ := (ty_ok hT h6).i
          rw [hfi'] at h7
          cases h7
          simp [h8]
        | succ i => simpa using h4 i off t (by simpa using h5) h6
    obtain ⟨places, hp1, hp2⟩ := hpl
    have hz0 : ARelC w g s.ob z0.cells.toList ((tyLook T ty).zero.map .val) := by rw [hzc]; exact zero_rel ti.zone
    obtain ⟨c', h5, h6⟩ := fill_rel (w := w) (g := g) (ob := s.ob) (place := fun i => places.toArray[i]?) (fun i off t h3 h4 => by simpa using hp2 i off t h3 h4)
      (parts.toList.map fun p => (p.1, a.eval p.2, ev s p.2)) z0.cells _ cs' (fun p hm => by obtain ⟨q, _, rfl⟩ := List.mem_map.1 hm; exact ev_rel hS q.2) hz0 (by simpa [List.map_map, Function.comp_def] using h1)
    refine yld_of (S := Instr.build T (parts.map fun (i, x) => (i, a.eval x))) (fun W => by simp only [execOp, ho]) ⟨.agg c', fun W _ => run_build W T _ c' ?_, c', rfl, h6⟩
    unfold Program.built
    rw [hi, hu]
    simp only [hz, hp1]
    rw [← h5]
    congr 1
    simp [List.map_map, Function.comp_def]
  split at h
  · rename_i _ hok
    obtain ⟨cs', h1, h2⟩ := Option.map_eq_some_iff.1 h
    simp only [Prod.mk.injEq] at h2
    obtain ⟨rfl, rfl⟩ := h2
    have ti := ty_ok hT hok.1
    have hu := ti.arr hok.2.1
    obtain ⟨i0, z0, hi, hsz, hby, hz, hzc, _⟩ := ti.i
    have hz0 : ARelC w g s.ob z0.cells.toList ((tyLook T ty).zero.map .val) := by rw [hzc]; exact zero_rel ti.zone
    cases hie : P.info? (tyLook T ty).elem with
    | none =>
      obtain ⟨ie, _, hie', _⟩ := (ty_ok hT hok.2.2).i
      rw [hie] at hie'; cases hie'
    | some ie =>
      obtain ⟨c', h5, h6⟩ := fill_rel (w := w) (g := g) (ob := s.ob) (ty := ty) (flds := (List.range ((tyLook T ty).kd - 100)).map fun i => (i * (tyLook (tyLook T ty).elem ty).size, (tyLook T ty).elem)) (place := fun i => some (i * ie.size, ie.size)) (fun i off t h3 h4 => by
          rw [List.getElem?_map, Option.map_eq_some_iff] at h3
          obtain ⟨j, h7, h8⟩ := h3
          obtain ⟨rfl, rfl⟩ : j * (tyLook (tyLook T ty).elem ty).size = off ∧ (tyLook T ty).elem = t := by simpa using h8
          obtain ⟨i1, _, h9, h10, _⟩ := (ty_ok hT h4).i
          rw [hie] at h9; cases h9
          have : j = i := by
            rw [List.getElem?_range (by have := lt_of_some h7; simpa using this)] at h7
            simpa using h7.symm
          rw [this, h10])
        (parts.toList.map fun p => (p.1, a.eval p.2, ev s p.2)) z0.cells _ cs' (fun p hm => by obtain ⟨q, _, rfl⟩ := List.mem_map.1 hm; exact ev_rel hS q.2) hz0 (by simpa [List.map_map, Function.comp_def] using h1)
      refine yld_of (S := Instr.build T (parts.map fun (i, x) => (i, a.eval x))) (fun W => by simp only [execOp, ho]) ⟨.agg c', fun W _ => run_build W T _ c' ?_, c', rfl, h6⟩
      unfold Program.built
      rw [hi, hu]
      simp only [hz, hie]
      rw [← h5]
      congr 1
      simp [List.map_map, Function.comp_def]
  · cases h
end
end Go.Proofs.YtcmjijpofkoogaaGreat
namespace Go.Proofs.YtcmjijpofkoogaaGreat
open Go.RowKit Go.Lib
section
variable {P : Program} {ty : Tys} {w : World} {g : Gh} {s : St} {a : Act}
theorem Yld.more {o : Oper} {x : AV} (h : Yld P w g s a o false x) (r : Bool) : Yld P w g s a o r x := by
  obtain ⟨v, h1, h2⟩ := h
  exact ⟨v, fun W _ => h1 W (fun h => by cases h), h2⟩
theorem strSlice_run {T : Nat} (hu : P.underlying T = some .string) (b : ByteArray) (lo hi : Option Value) {l h : Nat}
    (hlo : lo = none ∧ l = 0 ∨ ∃ k, lo = some (.int k (l : Int))) (hhi : hi = none ∧ h = b.size ∨ ∃ k, hi = some (.int k (h : Int))) (h1 : l ≤ h) (h2 : h ≤ b.size) (W : World) :
    (Instr.sliceAt T (.string b) lo hi none).run P W = .ok (.string (b.extract l h)) W := by
  have e1 : ∀ (k : IntKind), (Instr.sliceBound (.int k (h : Int)) b.size .sliceAlen).run P W = .ok h W := fun k => by
    rw [bound_run (by omega) (by omega)]; simp
  have e2 : ∀ (k : IntKind), (Instr.sliceBound (.int k (l : Int)) h .sliceB).run P W = .ok l W := fun k => by
    rw [bound_run (by omega) (by omega)]; simp
  rcases hlo with ⟨rfl, rfl⟩ | ⟨k, rfl⟩ <;> rcases hhi with ⟨rfl, rfl⟩ | ⟨k', rfl⟩ <;>
    simp [Instr.sliceAt, Instr.slice, run_underlying hu, Instr.sliceBounds, e1, e2]
theorem yld_strSlice {o : Oper} {T : Nat} {x : Operand} {lo hi : Option Operand} (ho : o.op = .slice T x lo hi none) {b : ByteArray} (hu : P.underlying T = some .string)
    (hx : a.eval x = .string b) {l h : Int} (hlo : lo.map a.eval = none ∧ l = 0 ∨ ∃ k, lo.map a.eval = some (.int k l)) (hhi : hi.map a.eval = none ∧ h = b.size ∨ ∃ k, hi.map a.eval = some (.int k h))
    (hok : 0 ≤ l ∧ l ≤ h ∧ h ≤ b.size) : Yld P w g s a o false (.val (.string (std.cutS b l h))) := by
  obtain ⟨h0, h1, h2⟩ := hok
  obtain ⟨l, rfl⟩ : ∃ l' : Nat, l = l' := ⟨l.toNat, by omega⟩
  obtain ⟨h, rfl⟩ : ∃ h' : Nat, h = h' := ⟨h.toNat, by omega⟩
  have hlo' : lo.map a.eval = none ∧ l = 0 ∨ ∃ k, lo.map a.eval = some (.int k (l : Int)) := hlo.imp (fun ⟨a, b⟩ => ⟨a, by omega⟩) id
  have hhi' : hi.map a.eval = none ∧ h = b.size ∨ ∃ k, hi.map a.eval = some (.int k (h : Int)) := hhi.imp (fun ⟨a, b⟩ => ⟨a, by omega⟩) id
  refine yld_of (S := Instr.sliceAt T (a.eval x) (lo.map a.eval) (hi.map a.eval) none) (fun W => by simp only [execOp, ho]; rfl) ⟨_, fun W _ => ?_, .val _ rfl⟩
  rw [hx, strSlice_run hu b _ _ hlo' hhi' (by omega) (by omega)]
  simp [std]
theorem bd_lo (hS : Slots w g s a) {lo : Option Operand} {k : IntKind} {l : Int} (h : lo.map (ev s) = some (.val (.int k l))) : lo.map a.eval = some (.int k l) := by
  cases lo with
  | none => cases h
  | some x =>
    have h : ev s x = .val (.int k l) := by simpa using h
    have hx := ev_rel hS x
    rw [h] at hx
    simp [hx.valEq]
theorem bd_no {lo : Option Operand} (h : lo.map (ev s) = none) : lo.map a.eval = none := by
  cases lo with
  | none => rfl
  | some x => cases h
theorem yld_slice (hT : TyOk P ty) (hS : Slots w g s a) (M : Mem w g s.ob) {o : Oper} {T : Nat} {x : Operand} {lo hi : Option Operand} (ho : o.op = .slice T x lo hi none) {q : Option DP} {z : AV}
    (h : aval std ty s o.op = some (q, z)) (hq : ∀ r, q = some r → r) : Yld P w g s a o false z := by
  have ho' := ho
  rw [ho] at h
  simp only [aval] at h
  have hx := ev_rel hS x
  split at h
  · rename_i b hb
    rw [hb] at hx
    split at h
    · rename_i hk
      have hu := (ty_kd hT hk (by decide)).str hk
      split at h <;> try (cases h; done)
      · rename_i h1 h2
        simp only [Option.some.injEq, Prod.mk.injEq] at h
        obtain ⟨rfl, rfl⟩ := h
        have := yld_strSlice (w := w) (g := g) (s := s) (l := 0) (h := b.size) ho' hu hx.valEq (.inl ⟨bd_no h1, rfl⟩) (.inl ⟨bd_no h2, rfl⟩) ⟨by omega, by omega, by omega⟩
        have e : std.cutS b 0 b.size = b := by simp [std]
        rw [e] at this
        exact this
      · rename_i h1 h2
        simp only [Option.some.injEq, Prod.mk.injEq] at h
        obtain ⟨rfl, rfl⟩ := h
        exact yld_strSlice ho' hu hx.valEq (.inr ⟨_, bd_lo hS h1⟩) (.inl ⟨bd_no h2, rfl⟩) (hq _ rfl)
      · rename_i h1 h2
        simp only [Option.some.injEq, Prod.mk.injEq] at h
        obtain ⟨rfl, rfl⟩ := h
        exact yld_strSlice ho' hu hx.valEq (.inl ⟨bd_no h1, rfl⟩) (.inr ⟨_, bd_lo hS h2⟩) (hq _ rfl)
      · rename_i h1 h2
        simp only [Option.some.injEq, Prod.mk.injEq] at h
        obtain ⟨rfl, rfl⟩ := h
        exact yld_strSlice ho' hu hx.valEq (.inr ⟨_, bd_lo hS h1⟩) (.inr ⟨_, bd_lo hS h2⟩) (hq _ rfl)
    · cases h
  · rename_i sz xs hb
    rw [hb] at hx
    split at h
    · rename_i hel
      split at h <;> try (cases h; done)
      · rename_i h1 h2
        simp only [Option.some.injEq, Prod.mk.injEq] at h
        obtain ⟨rfl, rfl⟩ := h
        have := yld_slice_slc (l := 0) (h := xs.length) hT ho' hel hx (.inl ⟨bd_no h1, rfl⟩) (.inl ⟨bd_no h2, rfl⟩) ⟨by omega, by omega, by omega⟩
        have e : std.cut xs 0 xs.length = xs := by simp [std]
        rw [e] at this
        exact this
      · rename_i h1 h2
        simp only [Option.some.injEq, Prod.mk.injEq] at h
        obtain ⟨rfl, rfl⟩ := h
        exact yld_slice_slc hT ho' hel hx (.inr ⟨_, bd_lo hS h1⟩) (.inl ⟨bd_no h2, rfl⟩) (hq _ rfl)
      · rename_i h1 h2
        simp only [Option.some.injEq, Prod.mk.injEq] at h
        obtain ⟨rfl, rfl⟩ := h
        exact yld_slice_slc hT ho' hel hx (.inl ⟨bd_no h1, rfl⟩) (.inr ⟨_, bd_lo hS h2⟩) (hq _ rfl)
      · rename_i h1 h2
        simp only [Option.some.injEq, Prod.mk.injEq] at h
        obtain ⟨rfl, rfl⟩ := h
        exact yld_slice_slc hT ho' hel hx (.inr ⟨_, bd_lo hS h1⟩) (.inr ⟨_, bd_lo hS h2⟩) (hq _ rfl)
    · cases h
  · rename_i id ep hb
    rw [hb] at hx
    obtain ⟨_, et, sz, fz, e, xs, h1, h2, h3⟩ := hx
    simp only [h1] at h
    split at h
    · rename_i hel
      split at h <;> try (cases h; done)
      rename_i k n h4 h5
      simp only [Option.some.injEq, Prod.mk.injEq] at h
      obtain ⟨rfl, rfl⟩ := h
      cases lo with
      | some _ => cases h4
      | none =>
        cases hi with
        | none => cases h5
        | some y =>
          have hy : ev s y = .val (.int k n) := by simpa using h5
          have hy' := ev_rel hS y
          rw [hy] at hy'
          have hqq : 0 ≤ (0 : Int) ∧ 0 ≤ n ∧ n ≤ (xs.length : Int) := hq _ rfl
          exact yld_slice_row hT ho' hel.2 h1 hel.1 (h3 hel.1) hy'.valEq hqq.2
    · cases h
  · cases h
theorem aval_sound (hT : TyOk P ty) (hS : Slots w g s a) (M : Mem w g s.ob) {o : Oper} {q : Option DP} {z : AV}
    (h : aval std ty s o.op = some (q, z)) (hq : ∀ r, q = some r → r) : Yld P w g s a o (readsM o.op) z := by
  cases ho : o.op with
  | move x =>
    rw [ho] at h
    obtain ⟨rfl, rfl⟩ : none = q ∧ evk s x = z := by simpa [aval] using h
    exact yld_move hS (.inl ho)
  | assign x =>
    rw [ho] at h
    obtain ⟨rfl, rfl⟩ : none = q ∧ evk s x = z := by simpa [aval] using h
    exact yld_move hS (.inr ho)
  | pick c x y =>
    rw [ho] at h
    simp only [aval] at h
    split at h
    · rename_i t hc
      simp only [Option.some.injEq, Prod.mk.injEq] at h
      obtain ⟨rfl, rfl⟩ := h
      have := yld_pick (P := P) hS ho hc
      cases t <;> exact this
    · cases h
  | build T parts => exact yld_build hT hS ho h
  | load T x =>
    rw [ho] at h
    simp only [aval] at h
    have hxr := ev_rel hS x
    split at h
    · rename_i cs he
      rw [he] at hxr
      exact yld_exp hT ho (ref_cells hxr) h hq
    · rename_i id ep i off he
      rw [he] at hxr
      split at h
      · rename_i e xs hob
        split at h
        · rename_i hee
          exact yld_exp hT ho (rptr_cells M hxr hob hee) h hq
        · cases h
      · cases h
    split at h
    · rename_i cs hcs
      by_cases hl : (tyLook T ty).ok = true ∧ (if (tyLook T ty).agg then (tyLook T ty).size else 1) ≤ cs.length
      · rw [if_pos hl] at h
        simp only [Option.some.injEq, Prod.mk.injEq] at h
        obtain ⟨rfl, rfl⟩ := h
        exact yld_load hT hS M ho hcs hl.1 hl.2
      · rw [if_neg hl] at h; cases h
    · cases h
  | nilCheck x =>
    rw [ho] at h
    simp only [aval] at h
    have hx := ev_rel hS x
    split at h
    · rename_i cs he
      obtain ⟨rfl, rfl⟩ : none = q ∧ AV.ref cs = z := by simpa using h
      rw [he] at hx
      obtain ⟨b, u, hv⟩ := ptr_form hx (.inl ⟨_, rfl⟩)
      have := yld_nilCheck hS ho hv (.inl ⟨_, rfl⟩) (P := P)
      rw [he] at this; exact this
    · rename_i id of he
      obtain ⟨rfl, rfl⟩ : none = q ∧ AV.box id of = z := by simpa using h
      rw [he] at hx
      obtain ⟨b, u, hv⟩ := ptr_form hx (.inr ⟨_, _, rfl⟩)
      have := yld_nilCheck hS ho hv (.inl ⟨_, rfl⟩) (P := P)
      rw [he] at this; exact this
    · rename_i y he
      simp only [Option.some.injEq, Prod.mk.injEq] at h
      obtain ⟨rfl, rfl⟩ := h
      exact yld_optCheck hS ho he (hq _ rfl)
    · rename_i id ep i of he
      rw [he] at hx
      split at h
      · rename_i e xs hob
        split at h
        · rename_i hk
          obtain ⟨rfl, rfl⟩ : none = q ∧ AV.rptr id ep i of = z := by simpa using h
          obtain ⟨b, u, hv⟩ := rptr_form hx hob hk
          have := yld_nilCheck hS ho hv (.inl ⟨_, rfl⟩) (P := P)
          rw [he] at this; exact this
        · cases h
      · cases h
    · rename_i f b c he
      obtain ⟨rfl, rfl⟩ : none = q ∧ AV.val (.func (.func f) b c) = z := by simpa using h
      rw [he] at hx
      have := yld_nilCheck hS ho hx.valEq (.inr ⟨_, _, _, rfl⟩) (P := P)
      rw [he] at this; exact this
    · rename_i f id o1 t he
      obtain ⟨rfl, rfl⟩ : none = q ∧ AV.clo f id o1 t = z := by simpa using h
      rw [he] at hx
      have hv : ∃ b c, a.eval x = .func (.func f) b c := by rw [hx.1]; cases t <;> exact ⟨_, _, rfl⟩
      obtain ⟨b, c, hv⟩ := hv
      have := yld_nilCheck hS ho hv (.inr ⟨_, _, _, rfl⟩) (P := P)
      rw [he] at this; exact this
    · cases h
  | binOp op T x y T' => exact yld_binOp hT hS M ho h hq
  | unOp op T x => exact yld_unOp hS ho h hq
  | convert src dst x => exact yld_convert hT hS M ho h hq
  | makeFunc fn fi ca =>
    rw [ho] at h
    simp only [aval] at h
    split at h
    · rename_i he
      obtain ⟨rfl, rfl⟩ : fi = #[] ∧ ca = #[] := by simpa using he
      obtain ⟨rfl, rfl⟩ : none = q ∧ AV.val (.func fn #[] #[]) = z := by simpa using h
      exact yld_makeFunc ho
    · split at h
      · rename_i f y h1 h2
        split at h
        · rename_i id o1 hy
          obtain ⟨rfl, rfl⟩ : none = q ∧ AV.clo f id o1 true = z := by simpa using h
          have e1 : fi = #[y] := Array.toList_inj.1 (by rw [h1])
          have e2 : ca = #[] := Array.toList_inj.1 (by rw [h2])
          rw [e1, e2] at ho
          exact yld_makeClo hS hy true ho
        · cases h
      · rename_i f y h1 h2
        split at h
        · rename_i id o1 hy
          obtain ⟨rfl, rfl⟩ : none = q ∧ AV.clo f id o1 false = z := by simpa using h
          have e1 : fi = #[] := Array.toList_inj.1 (by rw [h1])
          have e2 : ca = #[y] := Array.toList_inj.1 (by rw [h2])
          rw [e1, e2] at ho
          exact yld_makeClo hS hy false ho
        · cases h
      · cases h
  | fieldAddr T x f =>
    rw [ho] at h
    simp only [aval] at h
    have hx := ev_rel hS x
    split at h
    · rename_i off t hf
      split at h
      · rename_i cs he
        rw [he] at hx
        split at h
        · rename_i hfo
          obtain ⟨rfl, rfl⟩ : none = q ∧ AV.ref (std.drp cs off) = z := by simpa using h
          refine yld_fieldAddr hT hS ho hf hfo (fun b u hr => ?_) (ptr_form hx (.inl ⟨_, rfl⟩))
          rw [he] at hr
          exact ref_off hr off
        · cases h
      · rename_i id of he
        rw [he] at hx
        split at h
        · rename_i hfo
          obtain ⟨rfl, rfl⟩ : none = q ∧ AV.box id (of + off) = z := by simpa using h
          refine yld_fieldAddr hT hS ho hf hfo (fun b u hr => ?_) (ptr_form hx (.inr ⟨_, _, rfl⟩))
          rw [he] at hr
          obtain ⟨h1, h2⟩ := hr
          simp only [Value.pointer.injEq, Option.some.injEq, Addr.mk.injEq, and_true] at h1
          exact ⟨by rw [h1.1, h1.2], h2⟩
        · cases h
      · rename_i id ep i of he
        rw [he] at hx
        split at h
        · rename_i e xs hob
          split at h
          · rename_i hk
            obtain ⟨rfl, rfl⟩ : none = q ∧ AV.rptr id ep i (of + off) = z := by simpa using h
            refine yld_fieldAddr hT hS ho hf hk.2 (fun b u hr => ?_) (rptr_form hx hob hk.1)
            rw [he] at hr
            exact rptr_off hr hob hk.1 off
          · cases h
        · cases h
      · cases h
    · cases h
  | field T x f => exact yld_field hT hS ho h
  | indexAddr T x i => exact yld_indexAddr hT hS M ho h hq
  | index T x i =>
    rw [ho] at h
    simp only [aval] at h
    split at h
    · rename_i cs kn k h1 h2
      by_cases hk : 100 ≤ (tyLook T ty).kd ∧ (tyLook (tyLook T ty).elem ty).ok = true ∧ 0 ≤ k ∧ k < ((tyLook T ty).kd - 100 : Nat) ∧ k.toNat * (tyLook (tyLook T ty).elem ty).size + (if (tyLook (tyLook T ty).elem ty).agg then (tyLook (tyLook T ty).elem ty).size else 1) ≤ cs.length
      · rw [if_pos hk] at h
        simp only [Option.some.injEq, Prod.mk.injEq] at h
        obtain ⟨rfl, rfl⟩ := h
        exact yld_elem hT hS ho h1 h2 hk.1 hk.2.1 hk.2.2.1 hk.2.2.2.1 hk.2.2.2.2
      · rw [if_neg hk] at h; cases h
    · rename_i b k n h1 h2
      split at h
      · rename_i hk
        simp only [Option.some.injEq, Prod.mk.injEq] at h
        obtain ⟨rfl, rfl⟩ := h
        obtain ⟨h3, h4⟩ : 0 ≤ n ∧ n < (b.size : Int) := hq _ rfl
        exact yld_index hT hS ho h1 h2 hk h3 h4
      · cases h
    · cases h
  | slice T x lo hi mx =>
    cases mx with
    | none => exact yld_slice hT hS M ho h hq
    | some m => rw [ho] at h; simp [aval] at h
  | extract t i =>
    rw [ho] at h
    simp only [aval] at h
    split at h
    · rename_i vs hv
      obtain ⟨x, h1, h2⟩ := Option.map_eq_some_iff.1 h
      obtain ⟨rfl, rfl⟩ : none = q ∧ x = z := by simpa using h2
      exact yld_extract hS ho hv h1
    · cases h
  | call c =>
    obtain ⟨callee, args, r⟩ := c
    cases callee with
    | builtin b =>
      cases b with
      | len => exact yld_len hT hS M ho h
      | min => exact yld_min hS ho h
      | max => exact yld_max hS ho h
      | _ => rw [ho] at h; simp [aval] at h
    | _ => rw [ho] at h; simp [aval] at h
  | _ => rw [ho] at h; simp [aval] at h
end
end Go.Proofs.YtcmjijpofkoogaaGreat
namespace Go.Proofs.YtcmjijpofkoogaaGreat
open Go.RowKit Go.Lib
section
variable {w w' : World} {g g' : Gh} {ob ob' : List Ob}
theorem heap_new (w : World) (o : Obj) : (w.alloc o).heap[w.heap.size]? = some o := heap_alloc_new w o
theorem heap_old {w : World} {o : Obj} {b : Nat} (h : b < w.heap.size) : (w.alloc o).heap[b]? = w.heap[b]? := Below.heap_alloc w o b h
theorem cell_old {w : World} {o : Obj} {b k : Nat} (h : b < w.heap.size) : (w.alloc o).cell? ⟨b, k, none⟩ = w.cell? ⟨b, k, none⟩ := World.cell?_of_block (heap_old h)
def Gh.new (g : Gh) (w : World) (ob : List Ob) : Gh := ⟨g.A, fun b => if b = w.heap.size then some ob.length else g.G b, fun i => if i = ob.length then w.heap.size else g.loc i, g.sub⟩
theorem get_old {α : Type} {l : List α} {x : α} {i : Nat} (h : i < l.length) : (l ++ [x])[i]? = l[i]? := List.getElem?_append_left h
theorem get_new {α : Type} {l : List α} {x : α} : (l ++ [x])[l.length]? = some x := by simp
theorem Ext.new (M : Mem w g ob) (o : Obj) (x : Ob) : Ext w g ob (w.alloc o) (g.new w ob) (ob ++ [x]) := by
  have old : ∀ {b : Nat} {id : Nat}, g.G b = some id → b ≠ w.heap.size := fun h => by have := (M.own _ _ h).1; omega
  refine ⟨fun b o h => ⟨h, cell_old (M.imm b o h).1⟩, fun id h => ?_, fun id h => ?_, fun id h => ?_, fun id et sz fz e xs h => ⟨fz, e, xs, ?_, Nat.le_refl _, fun _ => .inl ⟨rfl, fun b hG => ⟨?_, heap_old (M.own _ _ hG).1⟩⟩⟩, fun _ _ _ _ => ⟨rfl, fun _ _ h => h⟩⟩
  · simp [Gh.new, Nat.ne_of_lt h]
  · rw [get_old (isBox_lt h)]; exact h
  · rw [get_old (isIt_lt h)]; exact h
  · rw [get_old (lt_of_some h)]; exact h
  · simp [Gh.new, old hG, hG]
theorem Mem.new (M : Mem w g ob) (o : Obj) (x : Ob)
    (hbox : ∀ cs, x = .box cs → ∃ cur T, o = .cells cur T (0, 0) ∧ ARelC w g ob cur.toList cs) (hfb : ∀ cs, x ≠ .fbox cs) (hit : ∀ y, x = .iter y → ItRel w g.A g.loc ob.length y (some o))
    (hrow : ∀ et sz fz e xs, x = .row et sz fz e xs → 0 < sz ∧ ∀ y ∈ xs, y.cells.length = sz) : Mem (w.alloc o) (g.new w ob) (ob ++ [x]) := by
  have E := Ext.new M o x
  have old : ∀ {b : Nat} {id : Nat}, g.G b = some id → b ≠ w.heap.size := fun h => by have := (M.own _ _ h).1; omega
  have hsz : (w.alloc o).heap.size = w.heap.size + 1 := by simp
  refine ⟨fun id cs h => ?_, fun id cs h j u hj => ?_, fun id y h => ?_, fun b id h => ?_, fun b k h => ?_, fun id et sz fz e xs h => ?_, fun b hs => ?_, fun b b' id h1 h2 hs hs' => ?_⟩
  · by_cases hl : id < ob.length
    · rw [get_old hl] at h
      obtain ⟨h1, cur, T, h2, h3⟩ := M.box id cs h
      have h4 := (M.own _ _ h1).1
      have e1 : (g.new w ob).loc id = g.loc id := by simp [Gh.new, Nat.ne_of_lt hl]
      rw [e1]
      exact ⟨by simp [Gh.new, Nat.ne_of_lt h4, h1], cur, T, by rw [heap_old h4]; exact h2, h3.ext E⟩
    · have hid : id = ob.length := by have := lt_of_some h; simp at this; omega
      subst hid
      rw [get_new] at h
      obtain ⟨cur, T, rfl, h2⟩ := hbox cs (by simpa using h)
      have e1 : (g.new w ob).loc ob.length = w.heap.size := by simp [Gh.new]
      rw [e1]
      exact ⟨by simp [Gh.new], cur, T, heap_new w _, h2.ext E⟩
  · by_cases hl : id < ob.length
    · rw [get_old hl] at h
      obtain ⟨h1, y, h2, h3⟩ := M.fbox id cs h j u hj
      have e1 : (g.new w ob).loc id = g.loc id := by simp [Gh.new, Nat.ne_of_lt hl]
      rw [e1]
      exact ⟨h1, y, by rw [cell_old (M.imm _ _ h1).1]; exact h2, h3.keep E.A⟩
    · have hid : id = ob.length := by have := lt_of_some h; simp at this; omega
      subst hid
      rw [get_new] at h
      exact absurd (by simpa using h) (hfb cs)
  · by_cases hl : id < ob.length
    · rw [get_old hl] at h
      obtain ⟨h1, h2⟩ := M.iter id y h
      have h4 := (M.own _ _ h1).1
      have e1 : (g.new w ob).loc id = g.loc id := by simp [Gh.new, Nat.ne_of_lt hl]
      rw [e1]
      exact ⟨by simp [Gh.new, Nat.ne_of_lt h4, h1], h2.at E.A E.loc (by simp) (heap_old h4)⟩
    · have hid : id = ob.length := by have := lt_of_some h; simp at this; omega
      subst hid
      rw [get_new] at h
      have hI := hit y (by simpa using h)
      have e1 : (g.new w ob).loc ob.length = w.heap.size := by simp [Gh.new]
      rw [e1]
      exact ⟨by simp [Gh.new], hI.at E.A E.loc (by simp) (heap_new w _)⟩
  · simp only [Gh.new] at h
    split at h
    · obtain rfl : ob.length = id := by simpa using h
      rename_i hb
      rw [hb, hsz]
      exact ⟨by omega, by simp⟩
    · have := M.own b id h
      rw [hsz]
      exact ⟨by omega, by simp; omega⟩
  · obtain ⟨h1, h2⟩ := M.imm b k h
    refine ⟨by rw [hsz]; omega, fun id hG hs => ?_⟩
    simp only [Gh.new, Nat.ne_of_lt h1, if_false] at hG
    obtain ⟨et, sz, e, xs, h3, h4⟩ := h2 id hG hs
    exact ⟨et, sz, e, xs, by rw [get_old (lt_of_some h3)]; exact h3, h4⟩
  · by_cases hl : id < ob.length
    · rw [get_old hl] at h; exact M.roww id et sz fz e xs h
    · have hid : id = ob.length := by have := lt_of_some h; simp at this; omega
      subst hid
      rw [get_new] at h
      exact hrow et sz fz e xs (by simpa using h)
  · obtain ⟨id, et, sz, fz, e, xs, h1, h2⟩ := M.nsub b hs
    exact ⟨id, et, sz, fz, e, xs, by simp [Gh.new, old h1, h1], by rw [get_old (lt_of_some h2)]; exact h2⟩
  · simp only [Gh.new] at h1 h2
    split at h1 <;> split at h2
    · rename_i e1 e2; exact e1.trans e2.symm
    · cases h1; exact absurd (M.own _ _ h2).2 (Nat.lt_irrefl _)
    · cases h2; exact absurd (M.own _ _ h1).2 (Nat.lt_irrefl _)
    · exact M.uniq b b' id h1 h2 hs hs'
def Gh.imm (g : Gh) (w w' : World) : Gh := ⟨fun b o => g.A b o ∨ (w.heap.size ≤ b ∧ b < w'.heap.size), g.G, g.loc, g.sub⟩
theorem Ext.immNew (M : Mem w g ob) (hb : Below w.heap.size w w') : Ext w g ob w' (g.imm w w') ob :=
  ⟨fun b o h => ⟨.inl h, World.cell?_of_block (w := w) (hb.block b (M.imm b o h).1)⟩, fun _ _ => rfl, fun _ h => h, fun _ h => h,
    fun _ _ _ fz e xs h => ⟨fz, e, xs, h, Nat.le_refl _, fun _ => .inl ⟨rfl, fun b hG => ⟨hG, hb.block b (M.own b _ hG).1⟩⟩⟩,
    fun b id hG _ => ⟨rfl, fun _ o h => h.resolve_right fun h2 => by have := (M.own b id hG).1; omega⟩⟩
theorem Mem.immNew (M : Mem w g ob) (hb : Below w.heap.size w w') : Mem w' (g.imm w w') ob := by
  have E := Ext.immNew M hb
  refine ⟨fun id cs h => ?_, fun id cs h j u hj => ?_, fun id y h => ?_, fun b id h => ⟨Nat.lt_of_lt_of_le (M.own b id h).1 hb.size, (M.own b id h).2⟩, fun b o h => ?_, M.roww, M.nsub, M.uniq⟩
  · obtain ⟨h1, cur, T, h2, h3⟩ := M.box id cs h
    exact ⟨h1, cur, T, (hb.block _ (M.own _ _ h1).1).trans h2, h3.ext E⟩
  · obtain ⟨h1, y, h2, h3⟩ := M.fbox id cs h j u hj
    exact ⟨.inl h1, y, (E.A _ _ h1).2.trans h2, h3.keep E.A⟩
  · obtain ⟨h1, h2⟩ := M.iter id y h
    exact ⟨h1, h2.at E.A E.loc (Nat.le_refl _) (hb.block _ (M.own _ _ h1).1)⟩
  · rcases h with h | ⟨h1, h2⟩
    · exact ⟨Nat.lt_of_lt_of_le (M.imm b o h).1 hb.size, (M.imm b o h).2⟩
    · exact ⟨h2, fun id hG _ => by have := (M.own b id hG).1; omega⟩
theorem cell_setCells {W : World} {b o k : Nat} {vs : List Value} {b' : Nat} (h : b' ≠ b) : (W.setCells b o vs).heap[b']? = W.heap[b']? := by
  induction vs generalizing o W with
  | nil => rfl
  | cons v r ih =>
    show ((W.setCell ⟨b, o, none⟩ v).setCells b (o + 1) r).heap[b']? = _
    rw [ih]
    exact Below.heap_setCell W _ v b' h
theorem heap_setCells_self {W : World} {b : Nat} {T : TypeId} {fr : Nat × Nat} : ∀ (vs : List Value) (o : Nat) (W : World) (cur : Array Value), W.heap[b]? = some (.cells cur T fr) → o + vs.length ≤ cur.size →
    (W.setCells b o vs).heap[b]? = some (.cells (cur.toList.take o ++ (vs ++ cur.toList.drop (o + vs.length))).toArray T fr)
  | [], o, W, cur, h, _ => by
    show W.heap[b]? = _
    rw [h]; simp
  | v :: r, o, W, cur, h, hl => by
    have h1 : (W.setCell ⟨b, o, none⟩ v).heap[b]? = some (.cells (cur.setIfInBounds o v) T fr) := by
      simp only [World.setCell, Array.getElem?_modify, if_true, h, Option.map_some]
      rfl
    have h2 := heap_setCells_self (W := W) r (o + 1) _ _ h1 (by simp at hl ⊢; omega)
    show ((W.setCell ⟨b, o, none⟩ v).setCells b (o + 1) r).heap[b]? = _
    rw [h2]
    congr 2
    have ho : o < cur.toList.length := by simp at hl ⊢; omega
    rw [Array.toList_setIfInBounds, List.take_succ_eq_append_getElem (by simpa using ho), List.getElem_set_self, List.take_set_of_le (by omega), List.drop_set_of_lt (by omega)]
    simp only [List.append_assoc, List.singleton_append, List.cons_append, List.length_cons, List.nil_append]
    rw [show o + 1 + r.length = o + (r.length + 1) by omega]
theorem size_setCells (W : World) (b o : Nat) (vs : List Value) : (W.setCells b o vs).heap.size = W.heap.size := by
  induction vs generalizing o W with
  | nil => rfl
  | cons v r ih =>
    show ((W.setCell ⟨b, o, none⟩ v).setCells b (o + 1) r).heap.size = _
    rw [ih]; simp [World.setCell]
theorem box_apart (M : Mem w g ob) {id : Nat} {cs : List AV} (h : ob[id]? = some (.box cs)) {b o : Nat} (hA : g.A b o) : b ≠ g.loc id := by
  rintro rfl
  obtain ⟨et, sz, e, xs, h1, _⟩ := (M.imm _ _ hA).2 id (M.box id cs h).1 (M.nosub (M.box id cs h).1 fun _ _ _ _ _ h2 => by rw [h] at h2; cases h2)
  rw [h] at h1; cases h1
theorem Ext.store (M : Mem w g ob) {id : Nat} {cs : List AV} (h : ob[id]? = some (.box cs)) (off : Nat) (vs : List Value) (us : List AV) :
    Ext w g ob (w.setCells (g.loc id) off vs) g (ob.set id (.box us)) := by
  have hl := lt_of_some h
  have ne : ∀ {b id' : Nat}, g.G b = some id' → id' ≠ id → b ≠ g.loc id := by
    rintro b id' hG hne rfl
    rw [(M.box id cs h).1] at hG
    exact hne (by simpa using hG.symm)
  refine ⟨fun b o hA => ⟨hA, World.cell?_of_block (w := w) (cell_setCells (k := 0) (box_apart M h hA))⟩, fun _ _ => rfl, fun i hi => ?_, fun i hi => ?_, fun i et sz fz e xs hi => ⟨fz, e, xs, ?_, Nat.le_refl _, fun _ => .inl ⟨rfl, fun b hG => ⟨hG, ?_⟩⟩⟩, fun _ _ _ _ => ⟨rfl, fun _ _ h => h⟩⟩
  · by_cases e : i = id
    · subst e; rw [List.getElem?_set_self hl]; trivial
    · rw [List.getElem?_set_ne (Ne.symm e)]; exact hi
  · by_cases e : i = id
    · subst e; rw [h] at hi; exact hi.elim
    · rw [List.getElem?_set_ne (Ne.symm e)]; exact hi
  · by_cases e : i = id
    · subst e; rw [h] at hi; cases hi
    · rw [List.getElem?_set_ne (Ne.symm e)]; exact hi
  · by_cases e : i = id
    · subst e; rw [h] at hi; cases hi
    · exact cell_setCells (k := 0) (ne hG e)
theorem Mem.store (M : Mem w g ob) {id : Nat} {cs : List AV} (h : ob[id]? = some (.box cs)) {off : Nat} {vs : List Value} {us : List AV} (hv : ARelC w g ob vs us) (hl : off + us.length ≤ cs.length) :
    Mem (w.setCells (g.loc id) off vs) g (ob.set id (.box (setCells cs off us))) := by
  have E := Ext.store M h off vs (setCells cs off us)
  have hid := lt_of_some h
  obtain ⟨h1, cur, T, h2, h3⟩ := M.box id cs h
  have ne : ∀ {b id' : Nat}, g.G b = some id' → id' ≠ id → b ≠ g.loc id := by
    rintro b id' hG hne rfl
    rw [h1] at hG
    exact hne (by simpa using hG.symm)
  have hcl : cur.size = cs.length := by simpa using h3.1
  refine ⟨fun i c hi => ?_, fun i c hi j u hj => ?_, fun i y hi => ?_, fun b i hG => by rw [size_setCells, List.length_set]; exact M.own b i hG, fun b o hA => ?_, fun i et sz fz e xs hi => ?_, fun b hs => ?_, M.uniq⟩
  · by_cases e : i = id
    · subst e
      rw [List.getElem?_set_self hid] at hi
      obtain rfl : setCells cs off us = c := by simpa using hi
      refine ⟨h1, _, T, heap_setCells_self (W := w) vs off w cur h2 (by rw [hv.1, hcl]; exact hl), ?_⟩
      have := setCells_rel h3 hv hl
      exact (ARelC.ext E this)
    · rw [List.getElem?_set_ne (Ne.symm e)] at hi
      obtain ⟨h4, cur', T', h5, h6⟩ := M.box i c hi
      exact ⟨h4, cur', T', by rw [cell_setCells (k := 0) (ne h4 e)]; exact h5, h6.ext E⟩
  · by_cases e : i = id
    · subst e; rw [List.getElem?_set_self hid] at hi; cases hi
    · rw [List.getElem?_set_ne (Ne.symm e)] at hi
      obtain ⟨h4, y, h5, h6⟩ := M.fbox i c hi j u hj
      exact ⟨h4, y, by rw [(E.A _ _ h4).2]; exact h5, h6.keep E.A⟩
  · by_cases e : i = id
    · subst e; rw [List.getElem?_set_self hid] at hi; cases hi
    · rw [List.getElem?_set_ne (Ne.symm e)] at hi
      obtain ⟨h4, h5⟩ := M.iter i y hi
      exact ⟨h4, h5.at E.A E.loc (by simp) (cell_setCells (k := 0) (ne h4 e))⟩
  · obtain ⟨h4, h5⟩ := M.imm b o hA
    refine ⟨by rw [size_setCells]; exact h4, fun i hG hs => ?_⟩
    obtain ⟨et, sz, e, xs, h6, h7⟩ := h5 i hG hs
    have hne : i ≠ id := by rintro rfl; rw [h] at h6; cases h6
    exact ⟨et, sz, e, xs, by rw [List.getElem?_set_ne (Ne.symm hne)]; exact h6, h7⟩
  · by_cases e' : i = id
    · subst e'; rw [List.getElem?_set_self hid] at hi; cases hi
    · rw [List.getElem?_set_ne (Ne.symm e')] at hi; exact M.roww i et sz fz e xs hi
  · obtain ⟨i, et, sz, fz, e, xs, h4, h5⟩ := M.nsub b hs
    have e' : i ≠ id := by rintro rfl; rw [h] at h5; cases h5
    exact ⟨i, et, sz, fz, e, xs, h4, by rw [List.getElem?_set_ne (Ne.symm e')]; exact h5⟩
end
end Go.Proofs.YtcmjijpofkoogaaGreat
namespace Go.Proofs.YtcmjijpofkoogaaGreat
open Go.RowKit Go.Lib
section
variable {P : Program} {w : World}
set_option maxHeartbeats 2000000 in
theorem append_any {t u ty e : TypeId} {i : TypeInfo} {z : Value} {d : TypeDesc} {size : Nat} (ht : P.underlying t = some (.slice e)) (hu : P.underlying u = some d) (hd : (∃ e', d = .slice e') ∨ d = .string) (hi : P.info? e = some i) (hz : i.zero = some z)
    (hsize : i.size = size) (hby : i.bytes ≤ 140000) (hzs : z.cells.size = size)
    {v : Value} {n : Nat} {xs : List Value} (hown : w.ownsRow 0 e size v n xs) {x : Value} {m : Nat} {news : List Value} (hl : news.length = m * size)
    (hlen : ∀ W, (Builtin.lenOf x).run P W = .ok m W) (hfc : ∀ W : World, W.heap = w.heap → (Builtin.firstCells size m x).run P W = .ok news.toArray W) (h1 : ∀ u ∈ news, u.oneCell' = true) (hb : n + m ≤ 1000000000) :
    ∃ v' w', (Builtin.append_ #[t, u] ty #[v, x]).run P w = .ok v' w' ∧ w'.ownsRow 0 e size v' (n + m) (xs ++ news) ∧ w.grownBy w' v.ownBlock ∧ (v'.ownBlock = v.ownBlock ∨ v'.ownBlock = some w.heap.size) ∧
      (∀ b k, b < w.heap.size → (v.ownBlock = some b → k < n * size) → w'.cell? ⟨b, k, none⟩ = w.cell? ⟨b, k, none⟩) := by
  subst hsize
  have hbyt : (n + m) * i.bytes ≤ 140737488355328 := Nat.le_trans (Nat.mul_le_mul hb hby) (by decide)
  have hlen' : (xs ++ news).length = (n + m) * i.size := by rw [List.length_append, hown.1, hl, Nat.add_mul]
  -- the arm that grows
  have grow : ∀ (old : Nat) (base : Option Addr), old < n + m → (∀ W : World, W.heap = w.heap → (Builtin.firstCells i.size n (.slice base n old)).run P W = .ok xs.toArray W) →
      (Builtin.append_ #[t, u] ty #[.slice base n old, x]).run P w = .ok (.slice (some ⟨w.heap.size, 0, none⟩) (n + m) (grownCap w (n + m) old e))
        (w.drew.alloc (.cells (xs.toArray ++ news.toArray ++ Builtin.zeroCells z.cells (grownCap w (n + m) old e - (n + m))) e)) := by
    intro old base ho hxs
    have a1 : ¬ n + m ≤ old := by omega
    have a2 : ¬ (9223372036854775807 < ((n : Int) + (m : Int))) := by omega
    have a3 : ¬ (281474976710656 < Builtin.nextslicecap (n + m) old * i.bytes) := by have := growslice_fits (old := old) (by omega) hbyt; omega
    have hf := hfc w.drew rfl
    have hf2 := hxs w.drew rfl
    rcases hd with ⟨e', rfl⟩ | rfl <;> simp [Builtin.append_, run_underlying ht, run_underlying hu, sizeOf, typeInfo, zeroValue, hi, hz, hlen, a1, a2, a3, Question.forced, hf, hf2, newRow, grownCap]
    all_goals
      congr 2
      apply Array.ext'
      simp only [Array.toList_append, List.append_assoc]
  have grown : ∀ (old : Nat), old < n + m → ∀ (row : Option Nat),
      (w.drew.alloc (.cells (xs.toArray ++ news.toArray ++ Builtin.zeroCells z.cells (grownCap w (n + m) old e - (n + m))) e)).ownsRow 0 e i.size
        (.slice (some ⟨w.heap.size, 0, none⟩) (n + m) (grownCap w (n + m) old e)) (n + m) (xs ++ news) := by
    intro old ho row
    have hge := grownCap_ge w (n + m) old e
    have hcm : grownCap w (n + m) old e ≤ maxLen := grownCap_le_maxLen w (n + m) old e (by unfold maxLen; omega)
    refine ⟨hlen', .inr ⟨w.heap.size, _, _, rfl, Nat.zero_le _, heap_new w.drew _, hge, hcm, ?_, ?_⟩⟩
    · rw [Array.size_append, size_zeroCells, hzs, Array.size_append, List.size_toArray, List.size_toArray, hown.1, hl, ← Nat.add_mul, ← Nat.add_mul]
      congr 1
      omega
    · rw [← hlen', Array.toList_append, Array.toList_append]
      exact List.take_left
  have keepG : ∀ (o : Obj) (row : Option Nat), w.grownBy (w.drew.alloc o) row := fun o row => ⟨rfl, rfl, rfl, by simp, fun k hk _ => heap_old (w := w.drew) hk⟩
  have keepC : ∀ (o : Obj) (b k : Nat), b < w.heap.size → (w.drew.alloc o).cell? ⟨b, k, none⟩ = w.cell? ⟨b, k, none⟩ := fun o b k hb => World.cell?_of_block (w := w) (heap_old (w := w.drew) hb)
  rcases hown.2 with ⟨rfl, rfl⟩ | ⟨g, cap, cur, rfl, hbg, hg, hnc, hcm, hcs, htake⟩
  · have hx : xs = [] := List.eq_nil_of_length_eq_zero (by simpa using hown.1)
    subst hx
    by_cases hm : m = 0
    · subst hm
      have hn : news = [] := List.eq_nil_of_length_eq_zero (by simpa using hl)
      subst hn
      refine ⟨.slice none 0 0, w, ?_, World.ownsRow_nil w 0 e i.size, ⟨rfl, rfl, rfl, Nat.le_refl _, fun _ _ _ => rfl⟩, .inl rfl, fun _ _ _ _ => rfl⟩
      have hf := hfc w rfl
      rcases hd with ⟨e', rfl⟩ | rfl <;> simp [Builtin.append_, run_underlying ht, run_underlying hu, sizeOf, typeInfo, hi, hlen, hf]
    · have hr := grow 0 none (by omega) (fun W _ => by simp [Builtin.firstCells])
      exact ⟨_, _, hr, grown 0 (by omega) none, keepG _ _, .inr rfl, fun b k hb _ => keepC _ b k hb⟩
  · by_cases hroom : n + m ≤ cap
    · have hfit : n * i.size + news.length ≤ cur.size := by rw [hl, hcs, ← Nat.add_mul]; exact Nat.mul_le_mul_right _ hroom
      have hst := run_storeCells_at P g (n * i.size) e news 0 cur w hg (by simpa using hfit) h1
      simp only [Nat.add_zero] at hst
      have hf := hfc w rfl
      have hr : (Builtin.append_ #[t, u] ty #[.slice (some ⟨g, 0, none⟩) n cap, x]).run P w =
          .ok (.slice (some ⟨g, 0, none⟩) (n + m) cap) (w.setRow g (cur.toList.take (n * i.size) ++ news ++ cur.toList.drop (n * i.size + news.length)).toArray) := by
        rcases hd with ⟨e', rfl⟩ | rfl <;> simp [Builtin.append_, run_underlying ht, run_underlying hu, sizeOf, typeInfo, hi, hlen, hroom, hf, Addr.add_lit, hst]
      have hrow := setRow_heap w g cur (cur.toList.take (n * i.size) ++ news ++ cur.toList.drop (n * i.size + news.length)).toArray e _ hg
      have hlt : g < w.heap.size := (Array.getElem?_eq_some_iff.1 hg).1
      refine ⟨_, _, hr, ⟨hlen', .inr ⟨g, cap, _, rfl, hbg, hrow, hroom, hcm, ?_, ?_⟩⟩, ⟨rfl, rfl, rfl, by simp, fun k _ hk => setRow_other w g k _ (fun e => hk (by simp [Value.ownBlock, e]))⟩, .inl rfl, fun b k hb hk => ?_⟩
      · simp only [List.size_toArray, List.length_append, List.length_take, List.length_drop, Array.length_toList]
        omega
      · rw [htake, ← hlen']
        exact List.take_left
      · by_cases hbg' : b = g
        · subst hbg'
          have hk' := hk rfl
          simp only [World.cell?, hrow, hg]
          have h2 : k < cur.size := by omega
          have h3 : k < (cur.toList.take (n * i.size)).length := by rw [List.length_take, Array.length_toList]; omega
          rw [List.append_assoc]
          simp only [Option.isSome_none, Bool.false_eq_true, if_false]
          rw [List.getElem?_toArray, List.getElem?_append_left h3, List.getElem?_take, if_pos hk', Array.getElem?_toList]
        · exact World.cell?_of_block (w := w) (setRow_other w g b _ hbg')
    · have hr := grow cap (some ⟨g, 0, none⟩) (by omega) (fun W hW => by
        have : ∀ j u, xs[j]? = some u → W.cell? ((⟨g, 0, none⟩ : Addr).add j) = some u := fun j u hj => by
          rw [show W.cell? ((⟨g, 0, none⟩ : Addr).add j) = w.cell? ((⟨g, 0, none⟩ : Addr).add j) from by simp only [World.cell?, hW]]
          exact hown.cells (g := g) rfl j u hj
        have h2 := run_loadCells_list (P := P) W (⟨g, 0, none⟩ : Addr) xs this
        rw [hown.1] at h2
        simpa [Builtin.firstCells] using h2)
      exact ⟨_, _, hr, grown cap (by omega) none, keepG _ _, .inr rfl, fun b k hb _ => keepC _ b k hb⟩
end
section
variable {w w' : World} {g : Gh} {ob : List Ob}
def Gh.grow (g : Gh) (id : Nat) (vb : Option Nat) : Gh := ⟨g.A, fun b => if vb = some b then some id else if g.G b = some id ∧ g.sub b = false then none else g.G b, g.loc, g.sub⟩
theorem Gh.grow_self {id : Nat} {vb : Option Nat} {b : Nat} (h : vb = some b) : (g.grow id vb).G b = some id := by
  show (if vb = some b then some id else _) = _
  rw [if_pos h]
theorem Gh.grow_of {id : Nat} {vb : Option Nat} {b i : Nat} (h : (g.grow id vb).G b = some i) : (vb = some b ∧ i = id) ∨ (g.G b = some i ∧ (i = id → g.sub b = true)) := by
  have h : (if vb = some b then some id else if g.G b = some id ∧ g.sub b = false then none else g.G b) = some i := h
  split at h
  · rename_i e; exact .inl ⟨e, (Option.some.inj h).symm⟩
  · split at h
    · cases h
    · rename_i h2
      refine .inr ⟨h, fun e => ?_⟩
      cases hs : g.sub b with
      | true => rfl
      | false => exact absurd ⟨e ▸ h, hs⟩ h2
theorem Mem.grow_sub (M : Mem w g ob) {id : Nat} {row vb : Option Nat} (hrow : ∀ b, row = some b → g.G b = some id ∧ g.sub b = false) (hvb : ∀ b, vb = some b → row = some b ∨ (w.heap.size ≤ b ∧ b < w'.heap.size))
    {b i : Nat} (h : g.G b = some i) (hs : g.sub b = true) : (g.grow id vb).G b = some i := by
  have h1 : vb ≠ some b := fun e => by
    rcases hvb b e with h2 | h2
    · rw [(hrow b h2).2] at hs; cases hs
    · have := (M.own b i h).1; omega
  show (if vb = some b then some id else if g.G b = some id ∧ g.sub b = false then none else g.G b) = _
  rw [if_neg h1, if_neg (fun h2 => by rw [h2.2] at hs; cases hs)]
  exact h
theorem Mem.grow_ne (M : Mem w g ob) {id : Nat} {row vb : Option Nat} (hrow : ∀ b, row = some b → g.G b = some id ∧ g.sub b = false) (hvb : ∀ b, vb = some b → row = some b ∨ (w.heap.size ≤ b ∧ b < w'.heap.size))
    {b i : Nat} (h : g.G b = some i) (hi : i ≠ id) : (g.grow id vb).G b = some i := by
  have h1 : vb ≠ some b := fun e => by
    rcases hvb b e with h2 | h2
    · have := (hrow b h2).1.symm.trans h
      exact hi (Option.some.inj this).symm
    · have := (M.own b i h).1; omega
  show (if vb = some b then some id else if g.G b = some id ∧ g.sub b = false then none else g.G b) = _
  rw [if_neg h1, if_neg (fun h2 => hi (Option.some.inj (h.symm.trans h2.1)))]
  exact h
theorem Mem.grow (M : Mem w g ob) {id et sz ep : Nat} {fz fz' : Bool} {xs xs' : List AV} (h : ob[id]? = some (.row et sz fz ep xs)) (hfz : fz = true → fz' = true)
    {row vb : Option Nat} {n : Nat} (hg : w.grownBy w' row) (hrow : ∀ b, row = some b → g.G b = some id ∧ g.sub b = false) (hvb : ∀ b, vb = some b → row = some b ∨ (w.heap.size ≤ b ∧ b < w'.heap.size))
    (hc : ∀ b k, b < w.heap.size → (row = some b → k < n * sz) → w'.cell? ⟨b, k, none⟩ = w.cell? ⟨b, k, none⟩)
    (hn : fz = true → xs.length ≤ n) (hlen : fz = true → xs.length ≤ xs'.length) (hw : ∀ x ∈ xs', x.cells.length = sz) :
    Ext w g ob w' (g.grow id vb) (ob.set id (.row et sz fz' (ep + 1) xs')) ∧ Mem w' (g.grow id vb) (ob.set id (.row et sz fz' (ep + 1) xs')) := by
  have hid := lt_of_some h
  have hne : ∀ {b i : Nat}, g.G b = some i → i ≠ id → (g.grow id vb).G b = some i := fun h1 h2 => M.grow_ne hrow hvb h1 h2
  have hlt2 : ∀ b, vb = some b → b < w'.heap.size := fun b hb => by
    rcases hvb b hb with h1 | h1
    · exact Nat.lt_of_lt_of_le (M.own b id (hrow b h1).1).1 hg.size
    · exact h1.2
  have ne : ∀ {b i : Nat}, g.G b = some i → i ≠ id → some b ≠ row := by
    rintro b i h1 h2 h3
    rw [(hrow b h3.symm).1] at h1
    exact h2 (by simpa using h1.symm)
  have hA : ∀ b o, g.A b o → w'.cell? ⟨b, o, none⟩ = w.cell? ⟨b, o, none⟩ := fun b o hA => by
    obtain ⟨h1, h2⟩ := M.imm b o hA
    refine hc b o h1 fun hb => ?_
    obtain ⟨et', sz', e', xs2, h3, h4⟩ := h2 id (hrow b hb).1 (hrow b hb).2
    rw [h] at h3
    obtain ⟨rfl, rfl, rfl, rfl, rfl⟩ : et = et' ∧ sz = sz' ∧ fz = true ∧ ep = e' ∧ xs = xs2 := by simpa using h3
    exact Nat.lt_of_lt_of_le h4 (Nat.mul_le_mul_right _ (hn rfl))
  have E : Ext w g ob w' (g.grow id vb) (ob.set id (.row et sz fz' (ep + 1) xs')) := by
    refine ⟨fun b o h => ⟨h, hA b o h⟩, fun _ _ => rfl, fun i hi => ?_, fun i hi => ?_, fun i et' sz' fz2 e xs2 hi => ?_, fun _ _ _ _ => ⟨rfl, fun _ _ h => h⟩⟩
    · have : i ≠ id := by rintro rfl; rw [h] at hi; exact hi
      rw [List.getElem?_set_ne (Ne.symm this)]; exact hi
    · have : i ≠ id := by rintro rfl; rw [h] at hi; exact hi
      rw [List.getElem?_set_ne (Ne.symm this)]; exact hi
    · by_cases e' : i = id
      · subst e'
        rw [h] at hi
        obtain ⟨rfl, rfl, rfl, rfl, rfl⟩ : et = et' ∧ sz = sz' ∧ fz = fz2 ∧ ep = e ∧ xs = xs2 := by simpa using hi
        exact ⟨fz', ep + 1, xs', List.getElem?_set_self hid, by omega, fun h => by omega⟩
      · refine ⟨fz2, e, xs2, by rw [List.getElem?_set_ne (Ne.symm e')]; exact hi, Nat.le_refl _, fun _ => .inl ⟨rfl, fun b hG => ?_⟩⟩
        have hlt := (M.own _ _ hG).1
        exact ⟨hne hG e', hg.block b hlt (ne hG e')⟩
  refine ⟨E, fun i cs hi => ?_, fun i cs hi j u hj => ?_, fun i y hi => ?_, fun b i hG => ?_, fun b o hA' => ?_, fun i et' sz' fz2 e xs2 hi => ?_, fun b hs => ?_, fun b b' i h1 h2 hs hs' => ?_⟩
  · have e' : i ≠ id := by rintro rfl; rw [List.getElem?_set_self hid] at hi; cases hi
    rw [List.getElem?_set_ne (Ne.symm e')] at hi
    obtain ⟨h1, cur, T, h2, h3⟩ := M.box i cs hi
    have hlt := (M.own _ _ h1).1
    exact ⟨hne h1 e', cur, T, (hg.block _ hlt (ne h1 e')).trans h2, h3.ext E⟩
  · have e' : i ≠ id := by rintro rfl; rw [List.getElem?_set_self hid] at hi; cases hi
    rw [List.getElem?_set_ne (Ne.symm e')] at hi
    obtain ⟨h1, y, h2, h3⟩ := M.fbox i cs hi j u hj
    exact ⟨h1, y, (hA _ _ h1).trans h2, h3.keep E.A⟩
  · have e' : i ≠ id := by rintro rfl; rw [List.getElem?_set_self hid] at hi; cases hi
    rw [List.getElem?_set_ne (Ne.symm e')] at hi
    obtain ⟨h1, h2⟩ := M.iter i y hi
    have hlt := (M.own _ _ h1).1
    exact ⟨hne h1 e', h2.at (fun b o h => ⟨h, hA b o h⟩) E.loc (by simp) (hg.block _ hlt (ne h1 e'))⟩
  · rw [List.length_set]
    rcases Gh.grow_of hG with ⟨h1, rfl⟩ | ⟨h1, _⟩
    · exact ⟨hlt2 b h1, hid⟩
    · exact ⟨Nat.lt_of_lt_of_le (M.own b i h1).1 hg.size, (M.own b i h1).2⟩
  · obtain ⟨h1, h2⟩ := M.imm b o hA'
    refine ⟨Nat.lt_of_lt_of_le h1 hg.size, fun i hG hs => ?_⟩
    have hG : g.G b = some i := by
      rcases Gh.grow_of hG with ⟨h3, rfl⟩ | ⟨h3, _⟩
      · rcases hvb b h3 with h4 | h4
        · exact (hrow b h4).1
        · omega
      · exact h3
    obtain ⟨et', sz', e, xs2, h3, h4⟩ := h2 i hG hs
    by_cases e' : i = id
    · subst e'
      rw [h] at h3
      obtain ⟨rfl, rfl, rfl, rfl, rfl⟩ : et = et' ∧ sz = sz' ∧ fz = true ∧ ep = e ∧ xs = xs2 := by simpa using h3
      exact ⟨et, sz, ep + 1, xs', by rw [List.getElem?_set_self hid, hfz rfl], Nat.lt_of_lt_of_le h4 (Nat.mul_le_mul_right _ (hlen rfl))⟩
    · exact ⟨et', sz', e, xs2, by rw [List.getElem?_set_ne (Ne.symm e')]; exact h3, h4⟩
  · by_cases e' : i = id
    · subst e'
      rw [List.getElem?_set_self hid] at hi
      obtain ⟨rfl, rfl, rfl, rfl, rfl⟩ : et = et' ∧ sz = sz' ∧ fz' = fz2 ∧ ep + 1 = e ∧ xs' = xs2 := by simpa using hi
      exact ⟨(M.roww _ _ _ _ _ _ h).1, hw⟩
    · rw [List.getElem?_set_ne (Ne.symm e')] at hi; exact M.roww i et' sz' fz2 e xs2 hi
  · obtain ⟨i, et', sz', fz2, e, xs2, h3, h4⟩ := M.nsub b hs
    have h5 : (g.grow id vb).G b = some i := M.grow_sub hrow hvb h3 hs
    by_cases e' : i = id
    · subst e'
      exact ⟨i, _, _, _, _, _, h5, List.getElem?_set_self hid⟩
    · exact ⟨i, et', sz', fz2, e, xs2, h5, by rw [List.getElem?_set_ne (Ne.symm e')]; exact h4⟩
  · rcases Gh.grow_of h1 with ⟨h3, rfl⟩ | ⟨h3, h4⟩
    · rcases Gh.grow_of h2 with ⟨h5, _⟩ | ⟨h5, h6⟩
      · exact Option.some.inj (h3.symm.trans h5)
      · have := h6 rfl
        rw [show g.sub b' = false from hs'] at this; cases this
    · rcases Gh.grow_of h2 with ⟨h5, rfl⟩ | ⟨h5, h6⟩
      · have := h4 rfl
        rw [show g.sub b = false from hs] at this; cases this
      · exact M.uniq b b' i h3 h5 hs hs'
end
end Go.Proofs.YtcmjijpofkoogaaGreat
namespace Go.Proofs.YtcmjijpofkoogaaGreat
open Go.RowKit Go.Lib
section
variable {w : World} {g : Gh} {ob : List Ob}
structure GhLe (g g' : Gh) (ob ob' : List Ob) : Prop where
  A : ∀ b o, g'.A b o → g.A b o ∨ ∃ id, g.G b = some id
  G : ∀ b id, g'.G b = some id → g.G b = some id
  loc : g'.loc = g.loc
  len : ob'.length = ob.length
theorem GhLe.refl : GhLe g g ob ob := ⟨fun _ _ h => .inl h, fun _ _ h => h, rfl, rfl⟩
theorem GhLe.trans {g1 g2 g3 : Gh} {o1 o2 o3 : List Ob} (h : GhLe g1 g2 o1 o2) (k : GhLe g2 g3 o2 o3) : GhLe g1 g3 o1 o3 :=
  ⟨fun b o h3 => by
    rcases k.A b o h3 with h2 | ⟨id, h2⟩
    · exact h.A b o h2
    · exact .inr ⟨id, h.G b id h2⟩, fun b id h3 => h.G b id (k.G b id h3), k.loc.trans h.loc, k.len.trans h.len⟩
theorem Ext.trans {w1 w2 w3 : World} {g1 g2 g3 : Gh} {o1 o2 o3 : List Ob} (h : Ext w1 g1 o1 w2 g2 o2) (k : Ext w2 g2 o2 w3 g3 o3) (hl : o1.length ≤ o2.length) : Ext w1 g1 o1 w3 g3 o3 := by
  refine ⟨fun b o hA => ⟨(k.A b o (h.A b o hA).1).1, (k.A b o (h.A b o hA).1).2.trans (h.A b o hA).2⟩, fun id hid => (k.loc id (by omega)).trans (h.loc id hid), fun id hi => k.isb id (h.isb id hi), fun id hi => k.isi id (h.isi id hi), fun id et sz fz e xs hr => ?_, fun b id hG hs => ?_⟩
  rotate_left
  · obtain ⟨et, sz, fz, fz', e, xs, xs', hr, hr'⟩ := hs
    obtain ⟨fz2, e2, xs2, h1, h2, h3⟩ := h.row id et sz fz e xs hr
    obtain ⟨fz3, e3, xs3, h4, h5, h6⟩ := k.row id et sz fz2 e2 xs2 h1
    rw [h4] at hr'
    obtain ⟨rfl, rfl, rfl⟩ : fz3 = fz' ∧ e3 = e ∧ xs3 = xs' := by simpa using hr'
    obtain rfl : e2 = e3 := by omega
    obtain ⟨h7, h8⟩ := h.sub b id hG ⟨_, _, _, _, _, _, _, hr, h1⟩
    obtain ⟨h9, h10⟩ := k.sub b id ((h3 rfl).G hG) ⟨_, _, _, _, _, _, _, h1, h4⟩
    exact ⟨h9.trans h7, fun hsb o hA => h8 hsb o (h10 (h7.trans hsb) o hA)⟩
  obtain ⟨fz2, e2, xs2, h1, h2, h3⟩ := h.row id et sz fz e xs hr
  obtain ⟨fz3, e3, xs3, h4, h5, h6⟩ := k.row id et sz fz2 e2 xs2 h1
  refine ⟨fz3, e3, xs3, h4, by omega, fun he => ?_⟩
  obtain rfl : e2 = e := by omega
  exact (h3 rfl).trans (h6 (by omega)) k.A fun b hG => (h.sub b id hG ⟨_, _, _, _, _, _, _, hr, h1⟩).1
def Gh.frz (g : Gh) (b n : Nat) : Gh := ⟨fun b' o => g.A b' o ∨ (b' = b ∧ o < n), g.G, g.loc, g.sub⟩
theorem freeze_row (M : Mem w g ob) {id et sz ep : Nat} {fz : Bool} {xs : List AV} (h : ob[id]? = some (.row et sz fz ep xs)) {v : Value} {ys : List AV} (hv : RowV w g id et sz v ys) (hl : ys.length ≤ xs.length) :
    ∃ g', Mem w g' (ob.set id (.row et sz true ep xs)) ∧ Ext w g ob w g' (ob.set id (.row et sz true ep xs)) ∧ PRel w g'.A v (.slc sz ys) ∧ GhLe g g' ob (ob.set id (.row et sz true ep xs)) := by
  have hid := lt_of_some h
  -- whatever the cells that are frozen: those of one block of this row
  have key : ∀ (b n : Nat), g.G b = some id → g.sub b = false → b < w.heap.size → n ≤ xs.length * sz →
      Mem w (g.frz b n) (ob.set id (.row et sz true ep xs)) ∧ Ext w g ob w (g.frz b n) (ob.set id (.row et sz true ep xs)) ∧ GhLe g (g.frz b n) ob (ob.set id (.row et sz true ep xs)) := by
    intro b n hG hsb hb hn
    have E : Ext w g ob w (g.frz b n) (ob.set id (.row et sz true ep xs)) := by
      refine ⟨fun b o h => ⟨.inl h, rfl⟩, fun _ _ => rfl, fun i hi => ?_, fun i hi => ?_, fun i et' sz' fz2 e xs2 hi => ?_, fun b' _ _ _ => ⟨rfl, fun h1 _ h2 => h2.resolve_right fun h3 => by rw [h3.1, hsb] at h1; cases h1⟩⟩
      · have : i ≠ id := by rintro rfl; rw [h] at hi; exact hi
        rw [List.getElem?_set_ne (Ne.symm this)]; exact hi
      · have : i ≠ id := by rintro rfl; rw [h] at hi; exact hi
        rw [List.getElem?_set_ne (Ne.symm this)]; exact hi
      · by_cases e' : i = id
        · subst e'
          rw [h] at hi
          obtain ⟨rfl, rfl, rfl, rfl, rfl⟩ : et = et' ∧ sz = sz' ∧ fz = fz2 ∧ ep = e ∧ xs = xs2 := by simpa using hi
          exact ⟨true, ep, xs, List.getElem?_set_self hid, Nat.le_refl _, fun _ => .inl ⟨rfl, fun b hG => ⟨hG, rfl⟩⟩⟩
        · exact ⟨fz2, e, xs2, by rw [List.getElem?_set_ne (Ne.symm e')]; exact hi, Nat.le_refl _, fun _ => .inl ⟨rfl, fun b hG => ⟨hG, rfl⟩⟩⟩
    refine ⟨⟨fun i cs hi => ?_, fun i cs hi j u hj => ?_, fun i y hi => ?_, fun b i hG => ⟨(M.own b i hG).1, by rw [List.length_set]; exact (M.own b i hG).2⟩, fun b' o hA => ?_, fun i et' sz' fz2 e xs2 hi => ?_, fun b' hs => ?_, M.uniq⟩, E,
      ⟨fun b' o hA => hA.imp_right fun ⟨h1, _⟩ => ⟨id, h1 ▸ hG⟩, fun _ _ h => h, rfl, by simp⟩⟩
    · have e' : i ≠ id := by rintro rfl; rw [List.getElem?_set_self hid] at hi; cases hi
      rw [List.getElem?_set_ne (Ne.symm e')] at hi
      obtain ⟨h1, cur, T, h2, h3⟩ := M.box i cs hi
      exact ⟨h1, cur, T, h2, h3.ext E⟩
    · have e' : i ≠ id := by rintro rfl; rw [List.getElem?_set_self hid] at hi; cases hi
      rw [List.getElem?_set_ne (Ne.symm e')] at hi
      obtain ⟨h1, y, h2, h3⟩ := M.fbox i cs hi j u hj
      exact ⟨.inl h1, y, h2, h3.keep E.A⟩
    · have e' : i ≠ id := by rintro rfl; rw [List.getElem?_set_self hid] at hi; cases hi
      rw [List.getElem?_set_ne (Ne.symm e')] at hi
      exact ⟨(M.iter i y hi).1, (M.iter i y hi).2.at (fun b o h => ⟨.inl h, rfl⟩) E.loc (by simp) rfl⟩
    · rcases hA with hA | ⟨rfl, ho⟩
      · obtain ⟨h1, h2⟩ := M.imm b' o hA
        refine ⟨h1, fun i hGi hs => ?_⟩
        obtain ⟨et', sz', e, xs2, h3, h4⟩ := h2 i hGi hs
        by_cases e' : i = id
        · subst e'
          rw [h] at h3
          obtain ⟨rfl, rfl, rfl, rfl, rfl⟩ : et = et' ∧ sz = sz' ∧ fz = true ∧ ep = e ∧ xs = xs2 := by simpa using h3
          exact ⟨et, sz, ep, xs, List.getElem?_set_self hid, h4⟩
        · exact ⟨et', sz', e, xs2, by rw [List.getElem?_set_ne (Ne.symm e')]; exact h3, h4⟩
      · refine ⟨hb, fun i hGi _ => ?_⟩
        have hGi : g.G b' = some i := hGi
        rw [hG] at hGi
        obtain rfl : id = i := by simpa using hGi
        exact ⟨et, sz, ep, xs, List.getElem?_set_self hid, by omega⟩
    · by_cases e' : i = id
      · subst e'
        rw [List.getElem?_set_self hid] at hi
        obtain ⟨rfl, rfl, rfl, rfl, rfl⟩ : et = et' ∧ sz = sz' ∧ true = fz2 ∧ ep = e ∧ xs = xs2 := by simpa using hi
        exact M.roww _ _ _ _ _ _ h
      · rw [List.getElem?_set_ne (Ne.symm e')] at hi; exact M.roww i et' sz' fz2 e xs2 hi
    · obtain ⟨i, et', sz', fz2, e, xs2, h3, h4⟩ := M.nsub b' hs
      by_cases e' : i = id
      · subst e'
        exact ⟨i, _, _, _, _, _, h3, List.getElem?_set_self hid⟩
      · exact ⟨i, et', sz', fz2, e, xs2, h3, by rw [List.getElem?_set_ne (Ne.symm e')]; exact h4⟩
  obtain ⟨zs, ho, hG, hal, hw, hsub⟩ := hv
  rcases ho.2 with ⟨rfl, h0⟩ | ⟨b, cap, cur, rfl, h3, h4, h5, h6, h7, h8⟩
  · have hys : ys = [] := List.eq_nil_of_length_eq_zero h0
    subst hys
    -- nothing is frozen: some block, no cell
    have E : Mem w g (ob.set id (.row et sz true ep xs)) ∧ Ext w g ob w g (ob.set id (.row et sz true ep xs)) ∧ GhLe g g ob (ob.set id (.row et sz true ep xs)) := by
      have E : Ext w g ob w g (ob.set id (.row et sz true ep xs)) := by
        refine ⟨fun b o h => ⟨h, rfl⟩, fun _ _ => rfl, fun i hi => ?_, fun i hi => ?_, fun i et' sz' fz2 e xs2 hi => ?_, fun _ _ _ _ => ⟨rfl, fun _ _ h => h⟩⟩
        · have : i ≠ id := by rintro rfl; rw [h] at hi; exact hi
          rw [List.getElem?_set_ne (Ne.symm this)]; exact hi
        · have : i ≠ id := by rintro rfl; rw [h] at hi; exact hi
          rw [List.getElem?_set_ne (Ne.symm this)]; exact hi
        · by_cases e' : i = id
          · subst e'
            rw [h] at hi
            obtain ⟨rfl, rfl, rfl, rfl, rfl⟩ : et = et' ∧ sz = sz' ∧ fz = fz2 ∧ ep = e ∧ xs = xs2 := by simpa using hi
            exact ⟨true, ep, xs, List.getElem?_set_self hid, Nat.le_refl _, fun _ => .inl ⟨rfl, fun b hG => ⟨hG, rfl⟩⟩⟩
          · exact ⟨fz2, e, xs2, by rw [List.getElem?_set_ne (Ne.symm e')]; exact hi, Nat.le_refl _, fun _ => .inl ⟨rfl, fun b hG => ⟨hG, rfl⟩⟩⟩
      refine ⟨⟨fun i cs hi => ?_, fun i cs hi j u hj => ?_, fun i y hi => ?_, fun b i hG => ⟨(M.own b i hG).1, by rw [List.length_set]; exact (M.own b i hG).2⟩, fun b' o hA => ?_, fun i et' sz' fz2 e xs2 hi => ?_, fun b' hs => ?_, M.uniq⟩, E, ⟨fun _ _ h => .inl h, fun _ _ h => h, rfl, by simp⟩⟩
      · have e' : i ≠ id := by rintro rfl; rw [List.getElem?_set_self hid] at hi; cases hi
        rw [List.getElem?_set_ne (Ne.symm e')] at hi
        obtain ⟨h1, cur, T, h2, h3⟩ := M.box i cs hi
        exact ⟨h1, cur, T, h2, h3.ext E⟩
      · have e' : i ≠ id := by rintro rfl; rw [List.getElem?_set_self hid] at hi; cases hi
        rw [List.getElem?_set_ne (Ne.symm e')] at hi
        exact M.fbox i cs hi j u hj
      · have e' : i ≠ id := by rintro rfl; rw [List.getElem?_set_self hid] at hi; cases hi
        rw [List.getElem?_set_ne (Ne.symm e')] at hi
        exact ⟨(M.iter i y hi).1, (M.iter i y hi).2.len (by simp)⟩
      · obtain ⟨h1, h2⟩ := M.imm b' o hA
        refine ⟨h1, fun i hGi hs => ?_⟩
        obtain ⟨et', sz', e, xs2, h3, h4⟩ := h2 i hGi hs
        by_cases e' : i = id
        · subst e'
          rw [h] at h3
          obtain ⟨rfl, rfl, rfl, rfl, rfl⟩ : et = et' ∧ sz = sz' ∧ fz = true ∧ ep = e ∧ xs = xs2 := by simpa using h3
          exact ⟨et, sz, ep, xs, List.getElem?_set_self hid, h4⟩
        · exact ⟨et', sz', e, xs2, by rw [List.getElem?_set_ne (Ne.symm e')]; exact h3, h4⟩
      · by_cases e' : i = id
        · subst e'
          rw [List.getElem?_set_self hid] at hi
          obtain ⟨rfl, rfl, rfl, rfl, rfl⟩ : et = et' ∧ sz = sz' ∧ true = fz2 ∧ ep = e ∧ xs = xs2 := by simpa using hi
          exact M.roww _ _ _ _ _ _ h
        · rw [List.getElem?_set_ne (Ne.symm e')] at hi; exact M.roww i et' sz' fz2 e xs2 hi
      · obtain ⟨i, et', sz', fz2, e, xs2, h3, h4⟩ := M.nsub b' hs
        by_cases e' : i = id
        · subst e'
          exact ⟨i, _, _, _, _, _, h3, List.getElem?_set_self hid⟩
        · exact ⟨i, et', sz', fz2, e, xs2, h3, by rw [List.getElem?_set_ne (Ne.symm e')]; exact h4⟩
    exact ⟨g, E.1, E.2.1, PRel.nil _, E.2.2⟩
  · have hb : b < w.heap.size := (Array.getElem?_eq_some_iff.1 h4).1
    have hGb := hG b rfl
    obtain ⟨M', E', L'⟩ := key b (ys.length * sz) hGb (hsub.1 b rfl) hb (Nat.mul_le_mul_right _ hl)
    refine ⟨_, M', E', ?_, L'⟩
    have hal' := hal.keep E'.A
    have hfl := flat_len ys hw
    have hzl : zs.length = ys.length * sz := by rw [hal.1, hfl]
    refine PRel.slc b 0 cap sz ys (fun j => zs.getD j undef) h5 h6 hw (fun j u hu => ?_) (fun j u hu => ?_)
    · have hj := lt_of_some hu
      rw [hfl] at hj
      refine ⟨.inr ⟨rfl, by omega⟩, ?_⟩
      have := ho.cells (g := b) rfl j zs[j] (List.getElem?_eq_getElem (by omega))
      rw [Addr.add_mid, Nat.zero_add] at this
      rw [Nat.zero_add, this, List.getD_eq_getElem?_getD, List.getElem?_eq_getElem (by omega)]; rfl
    · have hj := lt_of_some hu
      rw [hfl] at hj
      have h9 : zs[j]? = some (zs.getD j undef) := by rw [List.getD_eq_getElem?_getD, List.getElem?_eq_getElem (by omega)]; rfl
      exact hal'.2 j _ u h9 hu
end
end Go.Proofs.YtcmjijpofkoogaaGreat
