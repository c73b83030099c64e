/- Lemmas, conditions told -/
import Derived.Test.YtcmjijpofkoogaaGreatG03
import Derived.Deep.MidRow
import Derived.Lib.SliceRun
import Derived.Test.YtcmjijpofkoogaaGreatG01
import Derived.Laws.Small
set_option linter.unusedSimpArgs false
set_option linter.unusedVariables false
namespace Go.Proofs.YtcmjijpofkoogaaGreat
open Go.RowKit Go.Lib
def shapeOf : TypeDesc → Bool × Nat × List (Nat × Nat) × Option IntKind × Bool × Nat
  | .struct fs => (true, 0, fs.toList.map (fun f => (f.offset, f.type)), none, false, 1)
  | .slice e => (false, e, [], none, true, 2)
  | .int k => (false, 0, [], some k, false, 3)
  | .pointer _ => (false, 0, [], none, false, 4)
  | .bool => (false, 0, [], none, false, 5)
  | .string => (false, 0, [], none, false, 6)
  | .func _ _ _ => (false, 0, [], none, false, 7)
  | .array n e => (true, e, [], none, false, 100 + n)
  | .map _ e => (false, e, [], none, false, 8)
  | _ => (false, 0, [], none, false, 0)
def keyD : TypeDesc → Nat
  | .map k _ => k
  | _ => 0
def aggV : Value → Bool
  | .agg _ => true
  | _ => false
structure TiOk (P : Program) (t : Nat) (x : TI) : Prop where
  info : (P.info? t).map (fun i => (i.size, i.bytes, i.zero.map (·.cells.toList), i.zero.map aggV)) = some (x.size, x.bytes, some x.zero, some x.agg)
  und : (P.underlying t).map shapeOf = some (x.agg, x.elem, x.flds, x.kind, x.sl, x.kd)
  zl : x.zero.length = x.size
  one : x.agg = false → x.size = 1
  by_ : x.bytes ≤ 140000
  fi : x.flds.all (fun f => (P.info? f.2).isSome) = true
  zone : x.zero.all (·.oneCell') = true
  okk : x.ok = true
  ky : (P.underlying t).map keyD = some x.key
def TyOkL (P : Program) (l : List (Nat × TI)) : Prop := ∀ t x, (t, x) ∈ l → TiOk P t x
def TyOk (P : Program) (ty : Tys) : Prop := TyOkL P (ty ())
section
variable {P : Program} {ty : Tys}
theorem ty_ok (hT : TyOk P ty) {t : Nat} (h : (tyLook t ty).ok = true) : TiOk P t (tyLook t ty) := by
  suffices H : ∀ l : List (Nat × TI), (∀ t x, (t, x) ∈ l → TiOk P t x) → (tyFind t l).ok = true → TiOk P t (tyFind t l) from H (ty ()) hT h
  intro l
  induction l with
  | nil => intro _ h; cases h
  | cons a r ih =>
    obtain ⟨u, x⟩ := a
    intro h1 h2
    unfold tyFind at h2 ⊢
    by_cases e : t = u
    · subst e
      rw [if_pos rfl]
      exact h1 _ _ (List.mem_cons_self)
    · rw [if_neg e] at h2 ⊢
      exact ih (fun t x h => h1 t x (List.mem_cons_of_mem _ h)) h2
theorem ty_or (hT : TyOk P ty) (t : Nat) : TiOk P t (tyLook t ty) ∨ tyLook t ty = ⟨0, false, 0, [], [], none, 0, false, 0, false, 0⟩ := by
  suffices H : ∀ l : List (Nat × TI), (∀ t x, (t, x) ∈ l → TiOk P t x) → TiOk P t (tyFind t l) ∨ tyFind t l = ⟨0, false, 0, [], [], none, 0, false, 0, false, 0⟩ from H (ty ()) hT
  intro l
  induction l with
  | nil => intro _; exact .inr rfl
  | cons a r ih =>
    obtain ⟨u, x⟩ := a
    intro h1
    unfold tyFind
    by_cases e : t = u
    · subst e
      rw [if_pos rfl]
      exact .inl (h1 _ _ (List.mem_cons_self))
    · rw [if_neg e]
      exact ih (fun t x h => h1 t x (List.mem_cons_of_mem _ h))
theorem ty_kd (hT : TyOk P ty) {t k : Nat} (h : (tyLook t ty).kd = k) (hk : k ≠ 0) : TiOk P t (tyLook t ty) := by
  rcases ty_or hT t with h1 | h1
  · exact h1
  · rw [h1] at h; exact absurd h.symm hk
theorem ty_sl (hT : TyOk P ty) {t : Nat} (h : (tyLook t ty).sl = true) : TiOk P t (tyLook t ty) := by
  rcases ty_or hT t with h1 | h1
  · exact h1
  · rw [h1] at h; cases h
theorem ty_kind (hT : TyOk P ty) {t : Nat} {k : IntKind} (h : (tyLook t ty).kind = some k) : TiOk P t (tyLook t ty) := by
  rcases ty_or hT t with h1 | h1
  · exact h1
  · rw [h1] at h; cases h
theorem ty_fld (hT : TyOk P ty) {t f : Nat} {q : Nat × Nat} (h : (tyLook t ty).flds[f]? = some q) : TiOk P t (tyLook t ty) := by
  rcases ty_or hT t with h1 | h1
  · exact h1
  · rw [h1] at h; simp at h
theorem TiOk.i {t : Nat} {x : TI} (h : TiOk P t x) : ∃ i z, P.info? t = some i ∧ i.size = x.size ∧ i.bytes = x.bytes ∧ i.zero = some z ∧ z.cells.toList = x.zero ∧ aggV z = x.agg := by
  have := h.info
  cases hi : P.info? t with
  | none => simp [hi] at this
  | some i =>
    rw [hi] at this
    simp only [Option.map_some, Option.some.injEq, Prod.mk.injEq, Option.map_eq_some_iff] at this
    obtain ⟨h1, h2, ⟨z, h3, h4⟩, z', h5, h6⟩ := this
    obtain rfl : z = z' := by rw [h3] at h5; exact Option.some.inj h5
    exact ⟨i, z, rfl, h1, h2, h3, h4, h6⟩
theorem TiOk.u {t : Nat} {x : TI} (h : TiOk P t x) : ∃ d, P.underlying t = some d ∧ shapeOf d = (x.agg, x.elem, x.flds, x.kind, x.sl, x.kd) := by
  have := h.und
  cases hi : P.underlying t with
  | none => simp [hi] at this
  | some d => rw [hi] at this; exact ⟨d, rfl, by simpa using this⟩
theorem TiOk.size {t : Nat} {x : TI} (h : TiOk P t x) (W : World) : (sizeOf t).run P W = .ok x.size W := by
  obtain ⟨i, z, h1, h2, _⟩ := h.i
  simp [sizeOf, typeInfo, h1, h2]
theorem TiOk.zeroV {t : Nat} {x : TI} (h : TiOk P t x) : ∃ z, z.cells.toList = x.zero ∧ aggV z = x.agg ∧ ∀ W, (zeroValue t).run P W = .ok z W := by
  obtain ⟨i, z, h1, h2, h3, h4, h5, h6⟩ := h.i
  exact ⟨z, h5, h6, fun W => by simp [zeroValue, typeInfo, h1, h4]⟩
theorem TiOk.isAgg {t : Nat} {x : TI} (h : TiOk P t x) (W : World) : (isAgg t).run P W = .ok x.agg W := by
  obtain ⟨d, h1, h2⟩ := h.u
  unfold Go.isAgg
  rw [Sem.run_bind, run_underlying h1]
  cases d <;> simp [shapeOf] at h2 ⊢ <;> simp_all
theorem TiOk.slice {t : Nat} {x : TI} (h : TiOk P t x) (hs : x.sl = true) : P.underlying t = some (.slice x.elem) := by
  obtain ⟨d, h1, h2⟩ := h.u
  cases d <;> simp [shapeOf] at h2 <;> simp_all
theorem TiOk.str {t : Nat} {x : TI} (h : TiOk P t x) (hs : x.kd = 6) : P.underlying t = some .string := by
  obtain ⟨d, h1, h2⟩ := h.u
  cases d <;> simp [shapeOf] at h2 <;> first | (simp_all; done) | omega
theorem TiOk.bool {t : Nat} {x : TI} (h : TiOk P t x) (hs : x.kd = 5) : P.underlying t = some .bool := by
  obtain ⟨d, h1, h2⟩ := h.u
  cases d <;> simp [shapeOf] at h2 <;> first | (simp_all; done) | omega
theorem TiOk.mapT {t : Nat} {x : TI} (h : TiOk P t x) (hs : x.kd = 8) : P.underlying t = some (.map x.key x.elem) := by
  obtain ⟨d, h1, h2⟩ := h.u
  have h3 := h.ky
  rw [h1] at h3 ⊢
  cases d <;> simp [shapeOf, keyD] at h2 h3 <;> first | (simp_all; done) | omega
theorem TiOk.slk {t : Nat} {x : TI} (h : TiOk P t x) (hs : x.kd = 2) : P.underlying t = some (.slice x.elem) := by
  obtain ⟨d, h1, h2⟩ := h.u
  cases d <;> simp [shapeOf] at h2 <;> first | (simp_all; done) | omega
theorem TiOk.ptr {t : Nat} {x : TI} (h : TiOk P t x) (hs : x.kd = 4) : ∃ e, P.underlying t = some (.pointer e) := by
  obtain ⟨d, h1, h2⟩ := h.u
  cases d <;> simp [shapeOf] at h2 <;> first | (simp_all; done) | omega
theorem TiOk.fnc {t : Nat} {x : TI} (h : TiOk P t x) (hs : x.kd = 7) : ∃ a b c, P.underlying t = some (.func a b c) := by
  obtain ⟨d, h1, h2⟩ := h.u
  cases d <;> simp [shapeOf] at h2 <;> first | (simp_all; done) | omega
theorem TiOk.int {t : Nat} {x : TI} {k : IntKind} (h : TiOk P t x) (hs : x.kind = some k) : P.underlying t = some (.int k) := by
  obtain ⟨d, h1, h2⟩ := h.u
  cases d <;> simp [shapeOf] at h2 <;> simp_all
theorem TiOk.strct {t : Nat} {x : TI} (h : TiOk P t x) (hs : x.kd = 1) : ∃ fs, P.underlying t = some (.struct fs) ∧ x.flds = fs.toList.map (fun f => (f.offset, f.type)) := by
  obtain ⟨d, h1, h2⟩ := h.u
  cases d <;> simp [shapeOf] at h2 <;> first | (simp_all; done) | omega
theorem TiOk.arr {t : Nat} {x : TI} (h : TiOk P t x) (hs : 100 ≤ x.kd) : P.underlying t = some (.array (x.kd - 100) x.elem) := by
  obtain ⟨d, h1, h2⟩ := h.u
  cases d <;> simp [shapeOf] at h2 <;> try (exfalso; omega)
  obtain ⟨_, rfl, _, _, _, h3⟩ := h2
  rw [h1, ← h3]; simp
theorem TiOk.aggd {t : Nat} {x : TI} (h : TiOk P t x) (hs : x.agg = true) : ∃ d, P.underlying t = some d ∧ ((∃ fs, d = .struct fs) ∨ ∃ n e, d = .array n e) := by
  obtain ⟨d, h1, h2⟩ := h.u
  refine ⟨d, h1, ?_⟩
  cases d <;> simp [shapeOf] at h2 <;> first | exact .inl ⟨_, rfl⟩ | exact .inr ⟨_, _, rfl⟩ | (simp_all; done)
theorem TiOk.strct' {t : Nat} {x : TI} (h : TiOk P t x) {f : Nat} {q : Nat × Nat} (hs : x.flds[f]? = some q) : ∃ fs fd, P.underlying t = some (.struct fs) ∧ fs[f]? = some fd ∧ q = (fd.offset, fd.type) := by
  have ha : x.kd = 1 := by
    obtain ⟨d, h1, h2⟩ := h.u
    cases d <;> simp [shapeOf] at h2 <;> simp_all
  obtain ⟨fs, h1, h2⟩ := h.strct ha
  rw [h2, List.getElem?_map, Option.map_eq_some_iff] at hs
  obtain ⟨fd, h3, h4⟩ := hs
  exact ⟨fs, fd, h1, by simpa using h3, h4.symm⟩
end
section
variable {w : World} {g : Gh} {ob : List Ob} {v : Value} {x : AV}
theorem PRel.to0 (h : PRel w g.A v x) : ARel0 w g ob v x := by cases h <;> first | exact .val _ ‹_› | exact .nil _ | exact .slc _ _ _ _ _ _ ‹_› ‹_› ‹_› ‹_› ‹_› | exact .ref _ _ _ _ ‹_› ‹_› | exact .opt _ _ ‹_› ‹_›
theorem ARel0.to1 (h : ARel0 w g ob v x) : ARel1 w g ob v x := by cases x <;> first | exact h | exact (show False from h).elim
theorem ARel1.to (h : ARel1 w g ob v x) : ARel w g ob v x := by cases x <;> first | exact h | exact (show False from h).elim
theorem ARel0.to (h : ARel0 w g ob v x) : ARel w g ob v x := h.to1.to
theorem PRel.to (h : PRel w g.A v x) : ARel w g ob v x := (PRel.to0 h).to
theorem ARel.valEq {u : Value} (h : ARel w g ob v (.val u)) : v = u := by
  cases (show PRel w g.A v (.val u) from h); rfl
theorem ARel.mkVal {u : Value} (h : u.oneCell' = true) : ARel w g ob u (.val u) := .val u h
end
theorem ARel0.one {w : World} {g : Gh} {ob : List Ob} {v : Value} {x : AV} (h : ARel0 w g ob v x) (hl : x.live = true) : v.oneCell' = true := by
  cases x with
  | val _ => exact PRel.one h
  | slc _ _ => exact PRel.one h
  | ref _ => exact PRel.one h
  | opt _ => exact PRel.one h
  | box _ _ => rw [h.1]; rfl
  | row _ _ => exact h.1
  | rowk _ _ _ => exact h.1
  | rptr _ _ _ _ => exact h.1
  | kb _ => rw [show v = _ from h]; rfl
  | iter _ => obtain ⟨k, h1, _⟩ := h; rw [h1]; cases k <;> rfl
  | clo _ _ _ t => rw [h.1]; cases t <;> rfl
  | dead => cases hl
  | agg _ => exact h.elim
  | tup _ => exact h.elim
theorem one_cells {v : Value} (h : v.oneCell' = true) : v.cells = #[v] := by cases v <;> first | rfl | cases h
theorem ARel.cells {w : World} {g : Gh} {ob : List Ob} {v : Value} {x : AV} (h : ARel w g ob v x) (hl : x.live = true) : ARelC w g ob v.cells.toList x.cells := by
  have one : ∀ {v : Value} {x : AV}, ARel0 w g ob v x → x.live = true → x.cells = [x] → ARelC w g ob v.cells.toList x.cells := by
    intro v x h hl hx
    rw [one_cells (h.one hl), hx]
    refine ⟨rfl, fun j y u hy hu => ?_⟩
    cases j with
    | zero =>
      obtain rfl : v = y := by simpa using hy
      obtain rfl : x = u := by simpa using hu
      exact ⟨h, h.one hl⟩
    | succ j => simp at hu
  cases x with
  | agg cs => obtain ⟨vs, rfl, h⟩ := h; exact h
  | tup _ => cases hl
  | dead => cases hl
  | val a => exact one (x := .val a) h hl rfl
  | slc a b => exact one (x := .slc a b) h hl rfl
  | ref a => exact one (x := .ref a) h hl rfl
  | opt a => exact one (x := .opt a) h hl rfl
  | box a b => exact one (x := .box a b) h hl rfl
  | row a b => exact one (x := .row a b) h hl rfl
  | rowk a b c => exact one (x := .rowk a b c) h hl rfl
  | rptr a b c d => exact one (x := .rptr a b c d) h hl rfl
  | kb a => exact one (x := .kb a) h hl rfl
  | iter a => exact one (x := .iter a) h hl rfl
  | clo a b c d => exact one (x := .clo a b c d) h hl rfl
theorem oneC_eq (v : Value) : oneC v = v.oneCell' := by cases v <;> rfl
def Slots (w : World) (g : Gh) (s : St) (a : Act) : Prop := ∀ t, ARel w g s.ob (a.tmps.getD t undef) (lk t s.tm)
theorem ev_rel {w : World} {g : Gh} {s : St} {a : Act} (hS : Slots w g s a) (x : Operand) : ARel w g s.ob (a.eval x) (ev s x) := by
  cases x with
  | tmp t =>
    have h := hS t
    simp only [ev, Act.eval]
    cases hl : lk t s.tm with
    | kb b =>
      rw [hl] at h
      have h : a.tmps.getD t undef = .bool b := h
      rw [h]
      exact .val _ rfl
    | _ => rw [hl] at h; exact h
  | const v =>
    simp only [ev, Act.eval]
    split
    · rename_i h; exact .val _ (by rw [← oneC_eq]; exact h)
    · split
      · rename_i cs _
        split
        · rename_i h
          refine ⟨cs, rfl, by simp, fun j y u hy hu => ?_⟩
          rw [List.getElem?_map, hy] at hu
          obtain rfl : AV.val y = u := by simpa using hu
          have hy1 : y.oneCell' = true := by rw [← oneC_eq]; exact List.all_eq_true.1 h y (List.mem_of_getElem? hy)
          exact ⟨.val _ hy1, hy1⟩
        · trivial
      · trivial
  | global g => trivial
  | func f => exact .val _ rfl
theorem list_of {q : Nat → Value → Prop} : ∀ n, (∀ j, j < n → ∃ y, q j y) → ∃ l : List Value, l.length = n ∧ ∀ (j : Nat) y, l[j]? = some y → q j y
  | 0, _ => ⟨[], rfl, fun j y h => by simp at h⟩
  | n + 1, h => by
    obtain ⟨l, h1, h2⟩ := list_of n (fun j hj => h j (by omega))
    obtain ⟨y, hy⟩ := h n (by omega)
    refine ⟨l ++ [y], by simp [h1], fun j z hz => ?_⟩
    by_cases hj : j < l.length
    · rw [List.getElem?_append_left hj] at hz; exact h2 j z hz
    · rw [List.getElem?_append_right (by omega)] at hz
      have : j = n := by
        have := lt_of_some hz
        simp at this; omega
      subst this
      rw [h1, Nat.sub_self] at hz
      simp at hz
      subst hz; exact hy
theorem flat_get {sz : Nat} : ∀ (xs : List AV), (∀ x ∈ xs, x.cells.length = sz) → ∀ (i : Nat) x, xs[i]? = some x → ∀ k, k < sz → (flatA xs)[i * sz + k]? = x.cells[k]?
  | [], _, i, x, h, _, _ => by simp at h
  | y :: r, hw, 0, x, h, k, hk => by
    simp at h; subst h
    rw [flatA, List.flatMap_cons, List.getElem?_append_left (by rw [hw _ List.mem_cons_self]; omega)]
    simp
  | y :: r, hw, i + 1, x, h, k, hk => by
    rw [flatA, List.flatMap_cons, List.getElem?_append_right (by rw [hw _ List.mem_cons_self, Nat.succ_mul]; omega), hw _ List.mem_cons_self]
    have := flat_get r (fun x h => hw x (List.mem_cons_of_mem _ h)) i x (by simpa using h) k hk
    rw [← this]
    congr 1
    rw [Nat.succ_mul]; omega
theorem RowV.cell {w : World} {g : Gh} {id et sz : Nat} {b c n : Nat} {xs : List AV} (h : RowV w g id et sz (.slice (some ⟨b, 0, none⟩) n c) xs) :
    ∀ (j : Nat) u, (flatA xs)[j]? = some u → ∃ y, w.cell? ⟨b, j, none⟩ = some y ∧ PRel w g.A y u := by
  obtain ⟨ys, ho, hG, hal, hw⟩ := h
  intro j u hu
  have hlt : j < ys.length := by rw [hal.1]; exact lt_of_some hu
  have := ho.cells (g := b) rfl j ys[j] (List.getElem?_eq_getElem hlt)
  rw [Addr.add_mid, Nat.zero_add] at this
  exact ⟨_, this, hal.2 j _ u (List.getElem?_eq_getElem hlt) hu⟩
section
variable {w : World} {g : Gh} {s : St} {v : Value} {x : AV}
theorem cellsAt_rel (M : Mem w g s.ob) (hv : ARel w g s.ob v x) {cs : List AV} (h : cellsAt s x = some cs) :
    ∃ b o, v = .pointer (some ⟨b, o, none⟩) ∧ ∀ (j : Nat) u, cs[j]? = some u → ∃ y, w.cell? ⟨b, o + j, none⟩ = some y ∧ ARel0 w g s.ob y u ∧ y.oneCell' = true := by
  cases x <;> simp only [cellsAt] at h <;> try (cases h; done)
  case ref l =>
    obtain rfl : l = cs := by simpa using h
    cases (show PRel w g.A v (.ref l) from hv) with
    | ref b o cs f hcell hrel => exact ⟨b, o, rfl, fun j u hu => ⟨f j, (hcell j u hu).2, (hrel j u hu).to0, (hrel j u hu).one⟩⟩
  case box id off =>
    obtain ⟨rfl, _⟩ : v = .pointer (some ⟨g.loc id, off, none⟩) ∧ _ := hv
    refine ⟨_, _, rfl, ?_⟩
    cases hob : s.ob[id]? with
    | none => simp [hob] at h
    | some o =>
      cases o <;> simp [hob] at h
      case box c =>
        subst h
        intro j u hu
        obtain ⟨h1, cur, T, h2, h3, h4⟩ := M.box id c hob
        rw [List.getElem?_drop] at hu
        have hlt : off + j < cur.size := by have := lt_of_some hu; rw [← h3] at this; simpa using this
        refine ⟨cur[off + j], by simp [World.cell?, h2, hlt], h4 (off + j) _ u (by simp [hlt]) hu⟩
      case fbox c =>
        subst h
        intro j u hu
        rw [List.getElem?_drop] at hu
        obtain ⟨_, y, h2, h3⟩ := M.fbox id c hob _ u hu
        exact ⟨y, h2, h3.to0, h3.one⟩
theorem rptr_form {id ep off et sz e : Nat} {fz : Bool} {i : Int} {xs : List AV} (hv : ARel w g s.ob v (.rptr id ep i off)) (h1 : s.ob[id]? = some (.row et sz fz e xs)) (he : e = ep) : ∃ b o, v = .pointer (some ⟨b, o, none⟩) := by
  obtain ⟨_, et, sz, fz, e, xs, h1', h2, h3⟩ := hv
  rw [h1] at h1'; cases h1'
  obtain ⟨b, c, h4, _⟩ := h3 he
  exact ⟨b, _, h4⟩
theorem rptr_off {id ep off et sz e : Nat} {fz : Bool} {i : Int} {xs : List AV} {b u : Nat} (hv : ARel w g s.ob (.pointer (some ⟨b, u, none⟩)) (.rptr id ep i off)) (h1 : s.ob[id]? = some (.row et sz fz e xs)) (he : e = ep) (d : Nat) :
    ARel w g s.ob (.pointer (some ⟨b, u + d, none⟩)) (.rptr id ep i (off + d)) := by
  obtain ⟨_, et, sz, fz, e, xs, h1', h2, h3⟩ := hv
  rw [h1] at h1'; cases h1'
  obtain ⟨b', c, h4, h5, h6, h7⟩ := h3 he
  refine ⟨rfl, _, _, _, _, _, h1, h2, fun _ => ⟨b', c, ?_, h5, h6, h7⟩⟩
  simp only [Value.pointer.injEq, Option.some.injEq, Addr.mk.injEq] at h4 ⊢
  obtain ⟨rfl, rfl, _⟩ := h4
  exact ⟨rfl, by omega, trivial⟩
theorem rptr_cells (M : Mem w g s.ob) {id ep off et sz e : Nat} {fz : Bool} {i : Int} {xs : List AV} (hv : ARel w g s.ob v (.rptr id ep i off)) (h1 : s.ob[id]? = some (.row et sz fz e xs)) (he : e = ep) :
    ∃ b o, v = .pointer (some ⟨b, o, none⟩) ∧ ∀ (j : Nat) u, (std.drp (std.cel (std.at_ xs i)) off)[j]? = some u → ∃ y, w.cell? ⟨b, o + j, none⟩ = some y ∧ PRel w g.A y u := by
  obtain ⟨_, et, sz, fz, e, xs, h1', h2, h3⟩ := hv
  rw [h1] at h1'; cases h1'
  obtain ⟨b, c, rfl, h4, h5, h6⟩ := h3 he
  refine ⟨b, _, rfl, fun j u hu => ?_⟩
  have hi : xs[i.toNat]? = some (xs.getD i.toNat .dead) := by
    have : i.toNat < xs.length := by omega
    rw [List.getD_eq_getElem?_getD, List.getElem?_eq_getElem this]; rfl
  have hw := (M.roww _ _ _ _ _ _ h1).2
  have hu : ((xs.getD i.toNat .dead).cells.drop off)[j]? = some u := hu
  rw [List.getElem?_drop] at hu
  have hk : off + j < sz := by
    have := lt_of_some hu
    rw [← hw _ (List.mem_of_getElem? hi)]; exact this
  have := flat_get xs hw i.toNat _ hi (off + j) hk
  obtain ⟨y, h7, h8⟩ := h6.cell _ u (this.trans hu)
  rw [← Nat.add_assoc] at h7
  exact ⟨y, h7, h8⟩
theorem ref_cells {cs : List AV} (hv : ARel w g s.ob v (.ref cs)) : ∃ b o, v = .pointer (some ⟨b, o, none⟩) ∧ ∀ (j : Nat) u, cs[j]? = some u → ∃ y, w.cell? ⟨b, o + j, none⟩ = some y ∧ PRel w g.A y u := by
  cases (show PRel w g.A v (.ref cs) from hv) with
  | ref b o cs f hcell hrel => exact ⟨b, o, rfl, fun j u hu => ⟨f j, (hcell j u hu).2, hrel j u hu⟩⟩
theorem opt_form {A : Nat → Nat → Prop} {v : Value} {x : AV} (h : PRel w A v x) (hp : isPtr x) :
    (isNil x = true ∧ v = .pointer none) ∨ (isNil x = false ∧ ∃ b o, v = .pointer (some ⟨b, o, none⟩) ∧ PRel w A v (.ref (prfOf x))) := by
  induction h with
  | val v hv =>
    cases v with
    | pointer p =>
      cases p with
      | none => exact .inl ⟨rfl, rfl⟩
      | some _ => exact (show False from hp).elim
    | _ => exact (show False from hp).elim
  | nil sz => exact (show False from hp).elim
  | slc => exact (show False from hp).elim
  | ref b o cs f h1 h2 => exact .inr ⟨rfl, b, o, rfl, .ref b o cs f h1 h2⟩
  | opt v x h hx ih => exact ih hx
theorem PRel.ofOpt {A : Nat → Nat → Prop} {v : Value} {x : AV} (h : PRel w A v (.opt x)) : PRel w A v x ∧ isPtr x := by
  cases h with
  | opt _ _ h1 h2 => exact ⟨h1, h2⟩
theorem leaf_rel {v : Value} {c : AV} (h : PRel w g.A v c) {l : Lf} (hl : l.has std c) : PRel w g.A v (l.exp std c) := by
  cases l with
  | int k =>
    have e : c = .val (.int k (intOf c)) := hl
    show PRel w g.A v (.val (.int k (intOf c)))
    rw [← e]; exact h
  | boo =>
    have e : c = .val (.bool (booOf c)) := hl
    show PRel w g.A v (.val (.bool (booOf c)))
    rw [← e]; exact h
  | str =>
    have e : c = .val (.string (strOf c)) := hl
    show PRel w g.A v (.val (.string (strOf c)))
    rw [← e]; exact h
  | slc sz =>
    show PRel w g.A v (.slc sz (lstOf c))
    rcases (show c = .slc sz (lstOf c) ∨ c = .val (.slice none 0 0) from hl) with e | e
    · rw [← e]; exact h
    · subst e
      cases h
      exact PRel.nil sz
  | ptr =>
    show PRel w g.A v (.opt (unoA c))
    cases c <;> first | exact h | exact PRel.opt _ _ h hl
theorem expL_get {b o : Nat} {cs : List AV} (hc : ∀ (j : Nat) u, cs[j]? = some u → ∃ y, w.cell? ⟨b, o + j, none⟩ = some y ∧ PRel w g.A y u) :
    ∀ (ls : List Lf) (k : Nat), allP (hasAll std cs k ls) → ∀ (j : Nat) u, (expL std cs k ls)[j]? = some u → ∃ y, w.cell? ⟨b, o + (k + j), none⟩ = some y ∧ ARel0 w g s.ob y u ∧ y.oneCell' = true
  | [], _, _, j, u, hu => by simp [expL] at hu
  | l :: r, k, h, j, u, hu => by
    obtain ⟨h1, h2⟩ := h
    cases j with
    | zero =>
      obtain rfl : l.exp std (std.nth cs k) = u := by simpa [expL] using hu
      have hk : cs[k]? = some (std.nth cs k) := by
        show cs[k]? = some (cs.getD k .dead)
        rw [List.getD_eq_getElem?_getD]
        cases hx : cs[k]? with
        | some x => rfl
        | none =>
          exfalso
          have e : std.nth cs k = .dead := by show cs.getD k .dead = .dead; rw [List.getD_eq_getElem?_getD, hx]; rfl
          rw [e] at h1
          cases l with
          | int _ => exact AV.noConfusion (show AV.dead = _ from h1)
          | boo => exact AV.noConfusion (show AV.dead = _ from h1)
          | str => exact AV.noConfusion (show AV.dead = _ from h1)
          | slc _ => rcases (show AV.dead = _ ∨ AV.dead = _ from h1) with h | h <;> cases h
          | ptr => exact h1
      obtain ⟨y, h3, h4⟩ := hc k _ hk
      have := leaf_rel h4 h1
      exact ⟨y, h3, this.to0, this.one⟩
    | succ j =>
      obtain ⟨y, h3, h4⟩ := expL_get hc r (k + 1) h2 j u (by simpa [expL] using hu)
      exact ⟨y, by rw [show k + (j + 1) = k + 1 + j by omega]; exact h3, h4⟩
theorem expL_len (cs : List AV) : ∀ (ls : List Lf) (k : Nat), (expL std cs k ls).length = ls.length
  | [], _ => rfl
  | l :: r, k => by simp [expL, expL_len cs r]
theorem elems_rel (M : Mem w g s.ob) (hv : ARel w g s.ob v x) {sz : Nat} {xs : List AV} (h : elems std s x = some (sz, xs)) :
    ∃ A c ys, v = .slice A xs.length c ∧ Rd w (fun _ => True) sz A xs.length c ys ∧ Alike w g.A ys (flatA xs) := by
  have own : ∀ {id et : Nat} {v : Value} {xs : List AV}, RowV w g id et sz v xs → ∃ A c ys, v = .slice A xs.length c ∧ Rd w (fun _ => True) sz A xs.length c ys ∧ Alike w g.A ys (flatA xs) := by
    intro id et v xs h
    obtain ⟨ys, ho, hG, hal, hw⟩ := h
    obtain ⟨A, c, rfl, hr⟩ := own_form ho
    exact ⟨A, c, ys, rfl, hr.more fun _ _ => trivial, hal⟩
  cases x <;> simp only [elems] at h <;> try (cases h; done)
  case slc sz' l =>
    obtain ⟨rfl, rfl⟩ : sz' = sz ∧ l = xs := by simpa using h
    cases (show PRel w g.A v (.slc sz' l) from hv) with
    | nil => exact ⟨none, 0, [], rfl, ⟨by simp, Nat.le_refl _, Nat.zero_le _, fun _ => rfl, fun h => absurd h (by simp)⟩, Alike.nil⟩
    | slc b o c _ _ f hc hm hw hcell hrel =>
      obtain ⟨ys, h1, h2⟩ := list_of (q := fun j y => ∃ u, (flatA l)[j]? = some u ∧ y = f j) (flatA l).length (fun j hj => ⟨f j, _, List.getElem?_eq_getElem hj, rfl⟩)
      refine ⟨_, c, ys, rfl, ⟨by rw [h1, flat_len l hw], hc, hm, fun h => (by cases h), fun _ => ⟨b, o, rfl, trivial, fun j u hu => ?_⟩⟩, h1, fun j y u hy hu => ?_⟩
      · obtain ⟨u', hu', rfl⟩ := h2 j u hu
        exact (hcell j u' hu').2
      · obtain ⟨u', hu', rfl⟩ := h2 j y hy
        exact hrel j u hu
  case row id ep =>
    obtain ⟨_, et, sz', fz, e, xs', h1, h2, h3⟩ := hv
    simp only [h1] at h
    split at h
    · rename_i he
      obtain ⟨rfl, rfl⟩ : sz' = sz ∧ xs' = xs := by simpa using h
      exact own (h3 he)
    · cases h
  case rowk id ep k =>
    obtain ⟨_, et, sz', fz, e, xs', h1, h2, h3⟩ := hv
    simp only [h1] at h
    split at h
    · rename_i he
      obtain ⟨rfl, hx⟩ : sz' = sz ∧ std.cut xs' 0 k = xs := by simpa using h
      obtain ⟨h4, h5, h6⟩ := h3 he
      have e : std.cut xs' 0 k = xs'.take k.toNat := by simp [std]
      rw [e] at hx
      subst hx
      exact own h6
    · cases h
end
end Go.Proofs.YtcmjijpofkoogaaGreat
namespace Go.Proofs.YtcmjijpofkoogaaGreat
open Go.RowKit Go.Lib
def readsM : Op → Bool
  | .load _ _ => true
  | .convert _ _ _ => true
  | _ => false
section
variable {P : Program} {ty : Tys} {w : World} {g : Gh} {s : St} {a : Act}
def Yld (P : Program) (w : World) (g : Gh) (s : St) (a : Act) (o : Oper) (r : Bool) (x : AV) : Prop :=
  ∃ v, (∀ W, (r = true → LeB w W) → (execOp a.eval o).run P W = .ok (.value v) W) ∧ ARel w g s.ob v x
theorem run_val {S : Sem Value} {W : World} {v : Value} (h : S.run P W = .ok v W) : (do pure (Next.value (← S)) : Sem Next).run P W = .ok (.value v) W := by
  rw [Sem.run_bind, h]; rfl
theorem yld_of {o : Oper} {r : Bool} {x : AV} {S : Sem Value} (hx : ∀ W, (execOp a.eval o).run P W = (do pure (Next.value (← S)) : Sem Next).run P W)
    (h : ∃ v, (∀ W, (r = true → LeB w W) → S.run P W = .ok v W) ∧ ARel w g s.ob v x) : Yld P w g s a o r x := by
  obtain ⟨v, h1, h2⟩ := h
  exact ⟨v, fun W hW => by rw [hx, run_val (h1 W hW)], h2⟩
theorem cell_later {W : World} {b o : Nat} {y : Value} (h : w.cell? ⟨b, o, none⟩ = some y) (hW : LeB w W) : W.cell? ⟨b, o, none⟩ = some y :=
  (World.cell?_of_block (hW.block b (World.block_lt_of_cell? w _ h))).trans h
theorem load_cells (hT : TyOk P ty) {T : Nat} (hok : (tyLook T ty).ok = true) {b o : Nat} {cs : List AV}
    (hc : ∀ (j : Nat) u, cs[j]? = some u → ∃ y, w.cell? ⟨b, o + j, none⟩ = some y ∧ ARel0 w g s.ob y u ∧ y.oneCell' = true)
    (hl : (if (tyLook T ty).agg then (tyLook T ty).size else 1) ≤ cs.length) :
    ∃ v, (∀ W, LeB w W → (loadVar T ⟨b, o, none⟩).run P W = .ok v W) ∧ ARel w g s.ob v (mk ty T cs) := by
  have ti := ty_ok hT hok
  cases ha : (tyLook T ty).agg with
  | true =>
    rw [ha] at hl
    simp only [if_true] at hl
    obtain ⟨l, h1, h2⟩ := list_of (q := fun j y => w.cell? ⟨b, o + j, none⟩ = some y ∧ ∀ u, cs[j]? = some u → ARel0 w g s.ob y u ∧ y.oneCell' = true) (tyLook T ty).size (fun j hj => by
      obtain ⟨y, h1, h2⟩ := hc j _ (List.getElem?_eq_getElem (by omega))
      exact ⟨y, h1, fun u hu => by rw [List.getElem?_eq_getElem (by omega)] at hu; cases hu; exact h2⟩)
    obtain ⟨d, hu, hd⟩ := ti.aggd ha
    obtain ⟨i, z, hi, hi2, _⟩ := ti.i
    refine ⟨.agg l.toArray, fun W hW => run_loadVar_mid (P := P) W b o T l d (fun j v hv => cell_later (h2 j v hv).1 hW) hu (by rcases hd with ⟨_, rfl⟩ | ⟨_, _, rfl⟩ <;> rfl) (by rw [hi]; simp [hi2, h1]), ?_⟩
    rw [mk, ha]
    simp only [if_true]
    refine ⟨l.toArray, rfl, by simp [h1]; omega, fun j y u hy hu => ?_⟩
    rw [List.getElem?_take] at hu
    split at hu
    · exact (h2 j y (by simpa using hy)).2 u hu
    · cases hu
  | false =>
    rw [ha] at hl
    simp only [Bool.false_eq_true, if_false] at hl
    cases cs with
    | nil => simp at hl
    | cons u r =>
      obtain ⟨y, h1, h2, h3⟩ := hc 0 u rfl
      refine ⟨y, fun W hW => ?_, ?_⟩
      · have := ti.isAgg W
        rw [ha] at this
        have h4 := cell_later h1 hW
        rw [Nat.add_zero] at h4
        simp [loadVar, this, h4]
      · rw [mk, ha]
        simp only [Bool.false_eq_true, if_false, List.headD_cons]
        exact h2.to
theorem yld_load (hT : TyOk P ty) (hS : Slots w g s a) (M : Mem w g s.ob) {o : Oper} {T : Nat} {x : Operand} (ho : o.op = .load T x) {cs : List AV} (hcs : cellsAt s (ev s x) = some cs)
    (hok : (tyLook T ty).ok = true) (hl : (if (tyLook T ty).agg then (tyLook T ty).size else 1) ≤ cs.length) : Yld P w g s a o true (mk ty T cs) := by
  obtain ⟨b, of, hv, hc⟩ := cellsAt_rel M (ev_rel hS x) hcs
  obtain ⟨v, h1, h2⟩ := load_cells (g := g) hT hok hc hl
  refine yld_of (S := Instr.loadAt T (a.eval x)) (fun W => by simp only [execOp, ho]) ⟨v, fun W hW => ?_, h2⟩
  rw [hv]
  simpa [Instr.loadAt, Instr.sureAddr] using h1 W (hW rfl)
theorem yld_exp (hT : TyOk P ty) {o : Oper} {T : Nat} {x : Operand} (ho : o.op = .load T x) {cs : List AV}
    (hr : ∃ b of, a.eval x = .pointer (some ⟨b, of, none⟩) ∧ ∀ (j : Nat) u, cs[j]? = some u → ∃ y, w.cell? ⟨b, of + j, none⟩ = some y ∧ PRel w g.A y u)
    {q : Option DP} {z : AV} (h : expT std ty T cs = some (q, z)) (hq : ∀ r, q = some r → r) : Yld P w g s a o true z := by
  obtain ⟨b, of, hv, hc⟩ := hr
  have key : ∀ ls : List Lf, (if (tyLook T ty).ok = true ∧ ls.length = (tyLook T ty).size then some (some (std.all (hasAll std cs 0 ls)), mk ty T (expL std cs 0 ls)) else none) = some (q, z) → Yld P w g s a o true z := fun ls h => by
    by_cases hk : (tyLook T ty).ok = true ∧ ls.length = (tyLook T ty).size
    · rw [if_pos hk] at h
      simp only [Option.some.injEq, Prod.mk.injEq] at h
      obtain ⟨rfl, rfl⟩ := h
      have hA : allP (hasAll std cs 0 ls) := hq _ rfl
      have hl : (if (tyLook T ty).agg then (tyLook T ty).size else 1) ≤ (expL std cs 0 ls).length := by
        rw [expL_len, hk.2]
        cases hag : (tyLook T ty).agg with
        | true => exact Nat.le_refl _
        | false => have := (ty_ok hT hk.1).one hag; simp; omega
      obtain ⟨v, h1, h2⟩ := load_cells (g := g) hT hk.1 (b := b) (o := of) (cs := expL std cs 0 ls) (fun j u hu => by
        have := expL_get (s := s) hc ls 0 hA j u hu
        rw [Nat.zero_add] at this
        exact this) hl
      refine yld_of (S := Instr.loadAt T (a.eval x)) (fun W => by simp only [execOp, ho]) ⟨v, fun W hW => ?_, h2⟩
      rw [hv]
      simpa [Instr.loadAt, Instr.sureAddr] using h1 W (hW rfl)
    · rw [if_neg hk] at h; cases h
  unfold expT at h
  split at h
  · exact key _ h
  · split at h
    · exact key _ h
    · cases h
theorem yld_fieldAddr (hT : TyOk P ty) (hS : Slots w g s a) {o : Oper} {T : Nat} {x : Operand} {f off t : Nat} (ho : o.op = .fieldAddr T x f)
    (hf : (tyLook T ty).flds[f]? = some (off, t)) (hfo : fOk ty t = true) {y : AV}
    (hy : ∀ b u, ARel w g s.ob (.pointer (some ⟨b, u, none⟩)) (ev s x) → ARel w g s.ob (.pointer (some ⟨b, u + off, none⟩)) y)
    (hp : ∃ b u, a.eval x = .pointer (some ⟨b, u, none⟩)) : Yld P w g s a o false y := by
  obtain ⟨b, u, hv⟩ := hp
  have hr := ev_rel hS x
  rw [hv] at hr
  obtain ⟨fs, fd, h1, h2, h3⟩ := (ty_fld hT hf).strct' hf
  obtain ⟨rfl, rfl⟩ : off = fd.offset ∧ t = fd.type := by simpa using h3
  simp only [fOk, Bool.and_eq_true, bne_iff_ne, ne_eq] at hfo
  refine yld_of (S := Instr.fieldAt T (a.eval x) f) (fun W => by simp only [execOp, ho]) ⟨_, fun W _ => ?_, hy b u hr⟩
  have hs := (ty_ok hT hfo.1).size W
  rw [hv]
  simp [Instr.fieldAt, run_underlying h1, h2, Instr.sureAddr, fieldPlace, hs, hfo.2, Addr.add_mid]
theorem ptr_form {x : AV} {v : Value} (h : ARel w g s.ob v x) (hx : (∃ cs, x = .ref cs) ∨ (∃ i o, x = .box i o)) : ∃ b u, v = .pointer (some ⟨b, u, none⟩) := by
  rcases hx with ⟨cs, rfl⟩ | ⟨i, o, rfl⟩
  · cases (show PRel w g.A v (.ref cs) from h) with
    | ref b u cs f h1 h2 => exact ⟨b, u, rfl⟩
  · exact ⟨_, _, h.1⟩
theorem ref_off {cs : List AV} {b u : Nat} (h : ARel w g s.ob (.pointer (some ⟨b, u, none⟩)) (.ref cs)) (off : Nat) : ARel w g s.ob (.pointer (some ⟨b, u + off, none⟩)) (.ref (cs.drop off)) := by
  cases (show PRel w g.A _ (.ref cs) from h) with
  | ref b u cs f h1 h2 =>
    refine PRel.ref _ _ _ (fun j => f (off + j)) (fun j x hx => ?_) (fun j x hx => ?_)
    · rw [List.getElem?_drop] at hx
      rw [Nat.add_assoc]
      exact h1 _ x hx
    · rw [List.getElem?_drop] at hx
      exact h2 _ x hx
theorem index_ptr (hT : TyOk P ty) {T sz : Nat} (hel : elOk ty T sz = true) {A : Option Addr} {n c : Nat} {k : IntKind} {i : Int} {b o : Nat} (hA : A = some ⟨b, o, none⟩) (h0 : 0 ≤ i) (h1 : i < n) (W : World) :
    (Instr.indexAt T (.slice A n c) (.int k i)).run P W = .ok (.pointer (some ⟨b, o + i.toNat * sz, none⟩)) W := by
  simp only [elOk, Bool.and_eq_true, beq_iff_eq, bne_iff_ne, ne_eq] at hel
  obtain ⟨⟨⟨⟨h2, h3⟩, h4⟩, h5⟩, h6⟩ := hel
  have hu := (ty_ok hT h2).slice h3
  have hs := (ty_ok hT h4).size W
  subst hA
  have h7 : (0 ≤ i ∧ i < (n : Int)) = True := by simp [h0, h1]
  simp [Instr.indexAt, asIntOf, run_underlying hu, h0, h1, hs, Addr.add_mid, h5]
theorem arr_addr (hT : TyOk P ty) {T : Nat} {x y : AV} {vx : Value} {kn : IntKind} {k : Int} (hk : arOk ty T k = true) (hr : ARel w g s.ob vx x)
    (hy : ∀ b u, ARel w g s.ob (.pointer (some ⟨b, u, none⟩)) x → ARel w g s.ob (.pointer (some ⟨b, u + k.toNat * (tyLook (tyLook T ty).elem ty).size, none⟩)) y)
    (hp : ∃ b u, vx = .pointer (some ⟨b, u, none⟩)) : ∃ v, (∀ W, (false = true → LeB w W) → (Instr.indexAt T vx (.int kn k)).run P W = .ok v W) ∧ ARel w g s.ob v y := by
  obtain ⟨b, u, rfl⟩ := hp
  simp only [arOk, Bool.and_eq_true, decide_eq_true_eq] at hk
  obtain ⟨h0, h1, h2, h3⟩ := hk
  have h0 := Nat.le_of_ble_eq_true h0
  have hu := (ty_kd hT (k := (tyLook T ty).kd) rfl (by omega)).arr h0
  refine ⟨_, fun W _ => ?_, hy b u hr⟩
  have hs := (ty_ok hT h1).size W
  simp [Instr.indexAt, asIntOf, Instr.sureAddr, run_underlying hu, h2, h3, hs, Addr.add_mid]
theorem at_get {xs : List AV} {i : Int} (h0 : 0 ≤ i) (h1 : i < xs.length) : xs[i.toNat]? = some (std.at_ xs i) := by
  have h : i.toNat < xs.length := by omega
  show xs[i.toNat]? = some (xs.getD i.toNat .dead)
  rw [List.getD_eq_getElem?_getD, List.getElem?_eq_getElem h]; rfl
theorem yld_indexAddr (hT : TyOk P ty) (hS : Slots w g s a) (M : Mem w g s.ob) {o : Oper} {T : Nat} {x i : Operand} {q : Option DP} {y : AV} (ho : o.op = .indexAddr T x i)
    (h : aval std ty s o.op = some (q, y)) (hq : ∀ r, q = some r → r) : Yld P w g s a o false y := by
  rw [ho] at h
  simp only [aval] at h
  have hx := ev_rel hS x
  have hi := ev_rel hS i
  refine yld_of (S := Instr.indexAt T (a.eval x) (a.eval i)) (fun W => by simp only [execOp, ho]) ?_
  split at h
  · rename_i k n hei
    rw [hei] at hi
    rw [hi.valEq]
    split at h
    · rename_i sz xs hex
      rw [hex] at hx
      split at h
      · rename_i hel
        simp only [Option.some.injEq, Prod.mk.injEq] at h
        obtain ⟨rfl, rfl⟩ := h
        obtain ⟨h0, h1⟩ : 0 ≤ n ∧ n < (xs.length : Int) := hq _ rfl
        generalize a.eval x = vx at hx
        cases (show PRel w g.A _ (.slc sz xs) from hx) with
        | nil => simp at h1; omega
        | slc b o c _ _ f hc hm hw hcell hrel =>
          refine ⟨_, fun W _ => index_ptr hT hel rfl h0 h1 W, ?_⟩
          have hg := at_get h0 h1
          have hwx := hw _ (List.mem_of_getElem? hg)
          refine PRel.ref _ _ _ (fun j => f (n.toNat * sz + j)) (fun j u hu => ?_) (fun j u hu => ?_)
          · have := flat_get xs hw _ _ hg j (by rw [← hwx]; exact lt_of_some hu)
            rw [Nat.add_assoc]
            exact hcell _ u (this.trans hu)
          · have := flat_get xs hw _ _ hg j (by rw [← hwx]; exact lt_of_some hu)
            exact hrel _ u (this.trans hu)
      · cases h
    · rename_i id ep hex
      rw [hex] at hx
      obtain ⟨_, et, sz, fz, e, xs, h1, h2, h3⟩ := hx
      simp only [h1] at h
      split at h
      · rename_i hel
        simp only [Option.some.injEq, Prod.mk.injEq] at h
        obtain ⟨rfl, rfl⟩ := h
        obtain ⟨h4, h5⟩ : 0 ≤ n ∧ n < (xs.length : Int) := hq _ rfl
        obtain ⟨ys, ho1, h6, h7, h8⟩ := h3 hel.1
        rcases ho1.2 with ⟨h9, h10⟩ | ⟨b, cap, cur, hv, h9⟩
        · omega
        · rw [hv]
          refine ⟨_, fun W _ => index_ptr hT hel.2 rfl h4 h5 W, rfl, et, sz, fz, e, xs, h1, h2, fun _ => ⟨b, cap, by simp, h4, h5, ?_⟩⟩
          exact ⟨ys, hv ▸ ho1, by rw [← hv]; exact h6, h7, by rw [← hv]; exact h8⟩
      · cases h
    · rename_i id of hex
      rw [hex] at hx
      split at h
      · rename_i hk
        obtain ⟨rfl, rfl⟩ := (by simpa using h : none = q ∧ AV.box id (of + n.toNat * (tyLook (tyLook T ty).elem ty).size) = y)
        refine arr_addr hT hk hx (fun b u hr => ?_) (ptr_form hx (.inr ⟨_, _, rfl⟩))
        obtain ⟨h1, h2⟩ := hr
        simp only [Value.pointer.injEq, Option.some.injEq, Addr.mk.injEq, and_true] at h1
        exact ⟨by rw [h1.1, h1.2], h2⟩
      · cases h
    · rename_i cs hex
      rw [hex] at hx
      split at h
      · rename_i hk
        obtain ⟨rfl, rfl⟩ := (by simpa using h : none = q ∧ AV.ref (std.drp cs (n.toNat * (tyLook (tyLook T ty).elem ty).size)) = y)
        exact arr_addr hT hk hx (fun b u hr => ref_off hr _) (ptr_form hx (.inl ⟨_, rfl⟩))
      · cases h
    · cases h
  · cases h
theorem PRel.cut {b o c n sz : Nat} {xs : List AV} {A : Nat → Nat → Prop} (h : PRel w A (.slice (some ⟨b, o, none⟩) n c) (.slc sz xs)) {l k : Nat} (hl : l ≤ k) (hk : k ≤ xs.length) (c' : Nat) (hc' : k - l ≤ c') (hm' : c' ≤ maxLen) :
    PRel w A (.slice (some ⟨b, o + l * sz, none⟩) (k - l) c') (.slc sz ((xs.drop l).take (k - l))) := by
  cases h with
  | slc b o c _ _ f hc hm hw hcell hrel =>
    have hlen : ((xs.drop l).take (k - l)).length = k - l := by simp; omega
    have hfl : ∀ j u, (flatA ((xs.drop l).take (k - l)))[j]? = some u → (flatA xs)[l * sz + j]? = some u := by
      intro j u hu
      have hw' : ∀ x ∈ (xs.drop l).take (k - l), x.cells.length = sz := fun x hx => hw x (List.mem_of_mem_drop (List.mem_of_mem_take hx))
      have e : flatA xs = flatA (xs.take l) ++ (flatA ((xs.drop l).take (k - l)) ++ flatA ((xs.drop l).drop (k - l))) := by
        rw [← List.flatMap_append, List.take_append_drop, ← List.flatMap_append, List.take_append_drop]
      have h1 : (flatA (xs.take l)).length = l * sz := by
        rw [flat_len _ (fun x hx => hw x (List.mem_of_mem_take hx)), List.length_take, Nat.min_eq_left (by omega)]
      rw [e, List.getElem?_append_right (by omega), h1, Nat.add_sub_cancel_left, List.getElem?_append_left (lt_of_some hu)]
      exact hu
    have := PRel.slc (w := w) (A := A) b (o + l * sz) c' sz ((xs.drop l).take (k - l)) (fun j => f (l * sz + j)) (by omega) hm' (fun x hx => hw x (List.mem_of_mem_drop (List.mem_of_mem_take hx)))
      (fun j u hu => by rw [Nat.add_assoc]; exact hcell _ u (hfl j u hu)) (fun j u hu => hrel _ u (hfl j u hu))
    rw [hlen] at this
    exact this
end
end Go.Proofs.YtcmjijpofkoogaaGreat
namespace Go.Proofs.YtcmjijpofkoogaaGreat
open Go.RowKit Go.Lib
section
variable {P : Program} {ty : Tys} {w : World} {g : Gh} {s : St} {a : Act}
theorem el_facts (hT : TyOk P ty) {T sz : Nat} (hel : elOk ty T sz = true) : ∃ e, P.underlying T = some (.slice e) ∧ e = (tyLook T ty).elem ∧ TiOk P e (tyLook e ty) ∧ (tyLook e ty).size = sz ∧ 0 < sz := by
  simp only [elOk, Bool.and_eq_true, beq_iff_eq, bne_iff_ne, ne_eq] at hel
  obtain ⟨⟨⟨⟨h2, h3⟩, h4⟩, h5⟩, h6⟩ := hel
  exact ⟨_, (ty_ok hT h2).slice h3, rfl, ty_ok hT h4, h5.symm, by omega⟩
theorem bound_run {W : World} {k : IntKind} {i : Int} {y : Nat} {code : BoundsCode} (h0 : 0 ≤ i) (h1 : i ≤ y) : (Instr.sliceBound (.int k i) y code).run P W = .ok i.toNat W := by
  simp [Instr.sliceBound, asIntOf, h0, h1]
theorem slice_run (hT : TyOk P ty) {T sz : Nat} (hel : elOk ty T sz = true) (A : Option Addr) (n c : Nat) (lo hi : Option Value) {l h : Nat}
    (hlo : lo = none ∧ l = 0 ∨ ∃ k, lo = some (.int k (l : Int))) (hhi : hi = none ∧ h = n ∨ ∃ k, hi = some (.int k (h : Int))) (h1 : l ≤ h) (h2 : h ≤ c) (W : World) :
    (Instr.slice T (.slice A n c) lo hi none).run P W = .ok (.slice (if c = l then A else A.map (·.add (l * sz))) (h - l) (c - l)) W := by
  obtain ⟨e, hu, he, ti, hsz, _⟩ := el_facts hT hel
  have hs := ti.size W
  rw [hsz] at hs
  have e1 : ∀ (k : IntKind), (Instr.sliceBound (.int k (h : Int)) c .sliceAcap).run P W = .ok h W := fun k => by
    rw [bound_run (by omega) (by omega)]; simp
  have e2 : ∀ (k : IntKind), (Instr.sliceBound (.int k (l : Int)) h .sliceB).run P W = .ok l W := fun k => by
    rw [bound_run (by omega) (by omega)]; simp
  rcases hlo with ⟨rfl, rfl⟩ | ⟨k, rfl⟩ <;> rcases hhi with ⟨rfl, rfl⟩ | ⟨k', rfl⟩ <;>
    simp [Instr.slice, run_underlying hu, Instr.sliceBounds, e1, e2, hs]
theorem sliceAt_run (hT : TyOk P ty) {T sz : Nat} (hel : elOk ty T sz = true) (x : Value) (lo hi mx : Option Value) (W : World) :
    (Instr.sliceAt T x lo hi mx).run P W = (Instr.slice T x lo hi mx).run P W := by
  obtain ⟨e, hu, _⟩ := el_facts hT hel
  simp [Instr.sliceAt, run_underlying hu]
theorem yld_slice_slc (hT : TyOk P ty) {o : Oper} {T : Nat} {x : Operand} {lo hi : Option Operand} (ho : o.op = .slice T x lo hi none) {sz : Nat} {xs : List AV} (hel : elOk ty T sz = true)
    (hx : ARel w g s.ob (a.eval x) (.slc sz xs)) {l h : Int} (hlo : lo.map a.eval = none ∧ l = 0 ∨ ∃ k, lo.map a.eval = some (.int k l)) (hhi : hi.map a.eval = none ∧ h = xs.length ∨ ∃ k, hi.map a.eval = some (.int k h))
    (hok : 0 ≤ l ∧ l ≤ h ∧ h ≤ xs.length) : Yld P w g s a o false (.slc sz (std.cut xs l h)) := by
  obtain ⟨h0, h1, h2⟩ := hok
  obtain ⟨l, rfl⟩ : ∃ l' : Nat, l = l' := ⟨l.toNat, by omega⟩
  obtain ⟨h, rfl⟩ : ∃ h' : Nat, h = h' := ⟨h.toNat, by omega⟩
  have ec : std.cut xs l h = (xs.drop l).take (h - l) := by
    show (xs.drop (l : Int).toNat).take ((h : Int) - l).toNat = _
    rw [Int.toNat_natCast, show ((h : Int) - l).toNat = h - l by omega]
  rw [ec]
  have hlo' : lo.map a.eval = none ∧ l = 0 ∨ ∃ k, lo.map a.eval = some (.int k (l : Int)) := hlo.imp (fun ⟨a, b⟩ => ⟨a, by omega⟩) id
  have hhi' : hi.map a.eval = none ∧ h = xs.length ∨ ∃ k, hi.map a.eval = some (.int k (h : Int)) := hhi.imp (fun ⟨a, b⟩ => ⟨a, by omega⟩) id
  refine yld_of (S := Instr.sliceAt T (a.eval x) (lo.map a.eval) (hi.map a.eval) none) (fun W => by simp only [execOp, ho]; rfl) ?_
  generalize a.eval x = v at hx
  cases (show PRel w g.A v (.slc sz xs) from hx) with
  | nil =>
    simp at h2
    refine ⟨.slice none 0 0, fun W _ => ?_, ?_⟩
    · rw [sliceAt_run hT hel, slice_run hT hel none 0 0 _ _ hlo' (by simpa using hhi') (by omega) (by omega)]
      have : l = 0 ∧ h = 0 := by omega
      obtain ⟨rfl, rfl⟩ := this
      simp
    · simp only [List.drop_nil, List.take_nil]; exact PRel.nil _
  | slc b of c _ _ f hc hm hw hcell hrel =>
    have hle : h ≤ c := by omega
    refine ⟨_, fun W _ => by rw [sliceAt_run hT hel, slice_run hT hel _ _ _ _ _ hlo' hhi' (by omega) hle], ?_⟩
    by_cases e : c = l
    · rw [if_pos e]
      have hh : h - l = 0 := by omega
      rw [hh]
      simp only [List.take_zero]
      exact PRel.slc (w := w) (A := g.A) b of (c - l) sz [] f (by simp) (by omega) (by simp) (fun j u hu => by simp [flatA] at hu) (fun j u hu => by simp [flatA] at hu)
    · rw [if_neg e]
      have := PRel.cut (PRel.slc (w := w) (A := g.A) b of c sz xs f hc hm hw hcell hrel) (l := l) (k := h) (by omega) (by omega) (c - l) (by omega) (by omega)
      have e2 : ((some (⟨b, of, none⟩ : Addr)).map (·.add (l * sz))) = some ⟨b, of + l * sz, none⟩ := by simp [Addr.add_mid]
      rw [e2]
      exact this
theorem take_own {et sz : Nat} {b c n k : Nat} {ys : List Value} (h : w.ownsRow 0 et sz (.slice (some ⟨b, 0, none⟩) n c) n ys) (hk : k ≤ n) : w.ownsRow 0 et sz (.slice (some ⟨b, 0, none⟩) k c) k (ys.take (k * sz)) := by
  obtain ⟨h1, h2⟩ := h
  rcases h2 with ⟨h2, _⟩ | ⟨b', cap, cur, hv, h3, h4, h5, h6, h7, h8⟩
  · cases h2
  · obtain ⟨rfl, rfl⟩ : b = b' ∧ c = cap := by simpa using hv
    have hmul : k * sz ≤ n * sz := Nat.mul_le_mul_right _ hk
    refine ⟨by rw [List.length_take, h1]; omega, .inr ⟨b, c, cur, rfl, h3, h4, by omega, h6, h7, ?_⟩⟩
    rw [← h8, List.take_take, Nat.min_eq_left hmul]
theorem RowV.take {id et sz : Nat} {v : Value} {xs : List AV} (h : RowV w g id et sz v xs) {b c : Nat} (hv : v = .slice (some ⟨b, 0, none⟩) xs.length c) {k : Nat} (hk : k ≤ xs.length) :
    RowV w g id et sz (.slice (some ⟨b, 0, none⟩) k c) (xs.take k) := by
  subst hv
  obtain ⟨ys, ho, hG, hal, hw, hsub⟩ := h
  have hl : (xs.take k).length = k := by rw [List.length_take]; omega
  refine ⟨ys.take (k * sz), by rw [hl]; exact take_own ho hk, fun b' h => hG b' h, ?_, fun x hx => hw x (List.mem_of_mem_take hx), fun b' h => hsub.1 b' h, fun he j y hy hj => ?_⟩
  · rw [flat_take hw hk]
    exact hal.take _
  · have old : ∀ {j : Nat} {y : Value}, (ys.take (k * sz))[j]? = some y → ys[j]? = some y := fun {j y} h => by
      rw [List.getElem?_take] at h
      split at h
      · exact h
      · cases h
    obtain ⟨h1, h2⟩ := hsub.2 he j y (old hy) hj
    exact ⟨h1, fun i z b hz hi => h2 i z b (old hz) hi⟩
theorem yld_slice_row (hT : TyOk P ty) {o : Oper} {T : Nat} {x : Operand} {hi : Operand} (ho : o.op = .slice T x none (some hi) none) {id ep et sz : Nat} {fz : Bool} {e : Nat} {xs : List AV} (hel : elOk ty T sz = true)
    (h1 : s.ob[id]? = some (.row et sz fz e xs)) (he : e = ep) (hx : RowV w g id et sz (a.eval x) xs) {k : IntKind} {h : Int} (hhi : a.eval hi = .int k h)
    (hok : 0 ≤ h ∧ h ≤ xs.length) : Yld P w g s a o false (.rowk id ep h) := by
  obtain ⟨h, rfl⟩ : ∃ h' : Nat, h = h' := ⟨h.toNat, by omega⟩
  have hle : h ≤ xs.length := by omega
  refine yld_of (S := Instr.sliceAt T (a.eval x) none (some (a.eval hi)) none) (fun W => by simp only [execOp, ho]; rfl) ?_
  have hx0 := hx
  obtain ⟨ys, hown, hG, hal, hw⟩ := hx
  rcases hown.2 with ⟨h2, h3⟩ | ⟨b, cap, cur, hv, h3, h4, h5, h6, h7, h8⟩
  · have hxs : xs = [] := List.eq_nil_of_length_eq_zero h3
    subst hxs
    obtain rfl : h = 0 := by simpa using hle
    refine ⟨.slice none 0 0, fun W _ => ?_, rfl, et, sz, fz, e, [], h1, by omega, fun _ => ⟨by omega, by simp, ?_⟩⟩
    · rw [h2, sliceAt_run hT hel, slice_run hT hel none 0 0 none _ (.inl ⟨rfl, rfl⟩) (.inr ⟨k, by rw [hhi]⟩) (by omega) (by omega)]
      simp
    · simp only [List.take_nil]
      rw [h2] at hx0
      exact hx0
  · have hc : h ≤ cap := by omega
    refine ⟨.slice (some ⟨b, 0, none⟩) h cap, fun W _ => ?_, rfl, et, sz, fz, e, xs, h1, by omega, fun _ => ⟨by omega, hok.2, ?_⟩⟩
    · rw [hv, sliceAt_run hT hel, slice_run hT hel _ _ _ none _ (.inl ⟨rfl, rfl⟩) (.inr ⟨k, by rw [hhi]⟩) (by omega) hc]
      simp [Addr.add_mid]
    · rw [Int.toNat_natCast]
      exact hx0.take hv hle
theorem yld_still {o : Oper} {x : AV} {v : Value} (h : ∀ W, (execOp a.eval o).run P W = .ok (.value v) W) (hr : ARel w g s.ob v x) (r : Bool) : Yld P w g s a o r x := ⟨v, fun W _ => h W, hr⟩
theorem evk_rel (hS : Slots w g s a) (x : Operand) : ARel w g s.ob (a.eval x) (evk s x) := by
  cases x with
  | tmp t => exact hS t
  | const v => cases v <;> first | exact ev_rel hS (.const _) | rfl
  | global _ => exact ev_rel hS (.global _)
  | func _ => exact ev_rel hS (.func _)
theorem yld_move (hS : Slots w g s a) {o : Oper} {x : Operand} (ho : o.op = .move x ∨ o.op = .assign x) : Yld P w g s a o false (evk s x) := by
  refine yld_still (v := a.eval x) (fun W => ?_) (evk_rel hS x) false
  rcases ho with ho | ho <;> simp only [execOp, ho] <;> rfl
theorem yld_pick (hS : Slots w g s a) {o : Oper} {c x y : Operand} (ho : o.op = .pick c x y) {t : Bool} (hc : ev s c = .val (.bool t)) :
    Yld P w g s a o false (match t with | true => evk s x | false => evk s y) := by
  have h := ev_rel hS c
  rw [hc] at h
  have h := h.valEq
  cases t with
  | true => exact yld_still (v := a.eval x) (fun W => by simp [execOp, ho, h, asBool]) (evk_rel hS x) false
  | false => exact yld_still (v := a.eval y) (fun W => by simp [execOp, ho, h, asBool]) (evk_rel hS y) false
theorem yld_nilCheck (hS : Slots w g s a) {o : Oper} {x : Operand} (ho : o.op = .nilCheck x) {v : Value} (hv : a.eval x = v) (hn : (∃ ad, v = .pointer (some ad)) ∨ ∃ f b c, v = .func (.func f) b c) : Yld P w g s a o false (ev s x) := by
  refine yld_still (v := a.eval x) (fun W => ?_) (ev_rel hS x) false
  rw [hv]
  rcases hn with ⟨ad, rfl⟩ | ⟨f, b, c, rfl⟩ <;> simp only [execOp, ho, hv] <;> rfl
theorem yld_optCheck (hS : Slots w g s a) {o : Oper} {x : Operand} (ho : o.op = .nilCheck x) {y : AV} (hx : ev s x = .opt y) (hq : isPtr y ∧ isNil y = false) : Yld P w g s a o false (.ref (prfOf y)) := by
  have hr := ev_rel hS x
  rw [hx] at hr
  have hp : PRel w g.A (a.eval x) y := (PRel.ofOpt (show PRel w g.A _ (.opt _) from hr)).1
  rcases opt_form hp hq.1 with ⟨h1, _⟩ | ⟨_, b, o', hv, hrel⟩
  · rw [h1] at hq; cases hq.2
  · refine yld_still (v := a.eval x) (fun W => ?_) hrel.to false
    rw [hv]
    simp only [execOp, ho, hv]; rfl
theorem yld_extract (hS : Slots w g s a) {o : Oper} {t : Operand} {i : Nat} (ho : o.op = .extract t i) {vs : List AV} (ht : ev s t = .tup vs) {x : AV} (hx : vs[i]? = some x) : Yld P w g s a o false x := by
  have h := ev_rel hS t
  rw [ht] at h
  obtain ⟨ys, h1, h2, h3⟩ := h
  have hi : i < ys.size := by rw [h2]; exact lt_of_some hx
  refine yld_of (S := Instr.extract (a.eval t) i) (fun W => by simp only [execOp, ho]) ⟨ys[i], fun W _ => ?_, (h3 i _ x (Array.getElem?_eq_getElem hi) hx).to⟩
  rw [h1]
  simp [Instr.extract, hi]
theorem exec_builtin {o : Oper} {b : Builtin} {args : Array Operand} {r : Array TypeId} (ho : o.op = .call { callee := .builtin b, args := args, argTypes := r }) (W : World) :
    ∃ cs, (execOp a.eval o).run P W = (builtin b r o.type cs (args.map a.eval)).run P W := by
  refine ⟨args.map fun | .const _ => true | _ => false, ?_⟩
  simp only [execOp, ho, resolve, Sem.run_bind, Sem.run_pure, Result.andThen_ok, invoke]
  rfl
theorem yld_index (hT : TyOk P ty) (hS : Slots w g s a) {o : Oper} {T : Nat} {x i : Operand} (ho : o.op = .index T x i) {b : ByteArray} {k : IntKind} {n : Int} (hx : ev s x = .val (.string b)) (hi : ev s i = .val (.int k n))
    (hk : (tyLook T ty).kd = 6) (h0 : 0 ≤ n) (h1 : n < b.size) : Yld P w g s a o false (.val (.int .u8 (std.idxS b n))) := by
  have hu := (ty_kd hT hk (by decide)).str hk
  have h2 := ev_rel hS x
  have h3 := ev_rel hS i
  rw [hx] at h2
  rw [hi] at h3
  have hlt : n.toNat < b.size := by omega
  refine yld_of (S := Instr.index T (a.eval x) (a.eval i)) (fun W => by simp only [execOp, ho]) ⟨.int .u8 (b[n.toNat]).toNat, fun W _ => ?_, ?_⟩
  · rw [h2.valEq, h3.valEq]
    simp [Instr.index, asIntOf, run_underlying hu, h0, hlt]
  · have e : std.idxS b n = ((b[n.toNat]).toNat : Int) := by
      show ((b.data.getD n.toNat 0).toNat : Int) = _
      rw [Array.getD_eq_getD_getElem?, Array.getElem?_eq_getElem (by simpa using hlt)]
      rfl
    rw [e]
    exact .val _ rfl
theorem yld_builtin {o : Oper} {b : Builtin} {args : Array Operand} {r : Array TypeId} (ho : o.op = .call { callee := .builtin b, args := args, argTypes := r }) {F : Array TypeId → TypeId → Array Value → Sem Value}
    (hF : ∀ cs vs, builtin b r o.type cs vs = (do pure (Next.value (← F r o.type vs)))) {rd : Bool} {x : AV}
    (h : ∃ v, (∀ W, (rd = true → LeB w W) → (F r o.type (args.map a.eval)).run P W = .ok v W) ∧ ARel w g s.ob v x) : Yld P w g s a o rd x := by
  obtain ⟨v, h1, h2⟩ := h
  refine ⟨v, fun W hW => ?_, h2⟩
  obtain ⟨cs, hc⟩ := exec_builtin (P := P) (a := a) ho W
  rw [hc, hF, run_val (h1 W hW)]
theorem yld_len (hT : TyOk P ty) (hS : Slots w g s a) (M : Mem w g s.ob) {o : Oper} {args : Array Operand} {r : Array TypeId} (ho : o.op = .call { callee := .builtin .len, args := args, argTypes := r }) {q : Option DP} {y : AV}
    (h : aval std ty s o.op = some (q, y)) : Yld P w g s a o false y := by
  rw [ho] at h
  simp only [aval] at h
  refine yld_builtin (F := Builtin.len_) ho (fun _ _ => rfl) ?_
  split at h
  · rename_i x T rest hargs hr
    have hargs' : args = #[x] := by
      apply Array.ext'; simpa using hargs
    have hr' : r[0]? = some T := by
      rw [← Array.getElem?_toList, hr]; rfl
    subst hargs'
    have hv := ev_rel hS x
    have hm : (#[x] : Array Operand).map a.eval = #[a.eval x] := by simp
    rw [hm]
    split at h
    · rename_i b hb
      split at h
      · rename_i hk
        simp only [Option.some.injEq, Prod.mk.injEq] at h
        obtain ⟨rfl, rfl⟩ := h
        rw [hb] at hv
        have hu := (ty_kd hT hk (by decide)).str hk
        refine ⟨_, fun W _ => ?_, .val _ rfl⟩
        rw [hv.valEq]
        simp [Builtin.len_, hr', run_underlying hu, goInt, std]
      · cases h
    · rename_i hb
      split at h
      · rename_i hk
        simp only [Option.some.injEq, Prod.mk.injEq] at h
        obtain ⟨rfl, rfl⟩ := h
        rw [hb] at hv
        have hu := (ty_sl hT hk).slice hk
        refine ⟨_, fun W _ => ?_, .val _ rfl⟩
        rw [hv.valEq]
        simp [Builtin.len_, hr', run_underlying hu, goInt]
      · cases h
    · split at h
      · rename_i sz xs he
        split at h
        · rename_i hk
          simp only [Option.some.injEq, Prod.mk.injEq] at h
          obtain ⟨rfl, rfl⟩ := h
          obtain ⟨A, c, ys, h1, _, _⟩ := elems_rel M hv he
          have hu := (ty_sl hT hk).slice hk
          refine ⟨_, fun W _ => ?_, .val _ rfl⟩
          rw [h1]
          simp [Builtin.len_, hr', run_underlying hu, goInt, std]
        · cases h
      · cases h
  · cases h
theorem yld_min (hS : Slots w g s a) {o : Oper} {args : Array Operand} {r : Array TypeId} (ho : o.op = .call { callee := .builtin .min, args := args, argTypes := r }) {q : Option DP} {y : AV}
    (h : aval std ty s o.op = some (q, y)) : Yld P w g s a o false y := by
  rw [ho] at h
  simp only [aval] at h
  refine yld_builtin (F := Builtin.min_) ho (fun _ _ => rfl) ?_
  split at h
  · rename_i k n k' m he
    simp only [Option.some.injEq, Prod.mk.injEq] at h
    obtain ⟨rfl, rfl⟩ := h
    obtain ⟨x, y, rfl⟩ : ∃ x y, args = #[x, y] := by
      have := congrArg List.length he
      simp at this
      match args, this with
      | ⟨[x, y]⟩, _ => exact ⟨x, y, rfl⟩
    simp only [List.map_cons, List.map_nil, List.cons.injEq, and_true] at he
    have h1 := ev_rel hS x
    have h2 := ev_rel hS y
    rw [he.1] at h1
    rw [he.2] at h2
    refine ⟨_, fun W _ => ?_, .val _ rfl⟩
    simp [Builtin.min_, h1.valEq, h2.valEq, Builtin.min2, std]
  · cases h
theorem yld_max (hS : Slots w g s a) {o : Oper} {args : Array Operand} {r : Array TypeId} (ho : o.op = .call { callee := .builtin .max, args := args, argTypes := r }) {q : Option DP} {y : AV}
    (h : aval std ty s o.op = some (q, y)) : Yld P w g s a o false y := by
  rw [ho] at h
  simp only [aval] at h
  refine yld_builtin (F := Builtin.max_) ho (fun _ _ => rfl) ?_
  split at h
  · rename_i k n k' m he
    simp only [Option.some.injEq, Prod.mk.injEq] at h
    obtain ⟨rfl, rfl⟩ := h
    obtain ⟨x, y, rfl⟩ : ∃ x y, args = #[x, y] := by
      have := congrArg List.length he
      simp at this
      match args, this with
      | ⟨[x, y]⟩, _ => exact ⟨x, y, rfl⟩
    simp only [List.map_cons, List.map_nil, List.cons.injEq, and_true] at he
    have h1 := ev_rel hS x
    have h2 := ev_rel hS y
    rw [he.1] at h1
    rw [he.2] at h2
    refine ⟨_, fun W _ => ?_, .val _ rfl⟩
    simp [Builtin.max_, h1.valEq, h2.valEq, Builtin.max2, std]
  · cases h
end
end Go.Proofs.YtcmjijpofkoogaaGreat
namespace Go.Proofs.YtcmjijpofkoogaaGreat
open Go.RowKit Go.Lib
theorem wrap_in (k : IntKind) (n : Int) (h : k.min ≤ n ∧ n ≤ k.max) : k.wrap n = n := by
  cases k <;> simp [IntKind.wrap, IntKind.min, IntKind.max, IntKind.signed, IntKind.bits] at h ⊢ <;> omega
section
variable {P : Program} {ty : Tys} {w : World} {g : Gh} {s : St} {a : Act}
theorem eqGuard_ok {op : BinOp} {t : TypeId} {x y : Operand} {u v : Value} (W : World) (h1 : u ≠ .nilIface) (h2 : ∀ cs, u ≠ .agg cs) : (eqGuard op t x y u v).run P W = .ok () W := by
  unfold eqGuard
  cases u <;> first | exact absurd rfl h1 | exact absurd rfl (h2 _) | (cases op <;> rfl)
theorem yld_bin {o : Oper} {op : BinOp} {T T' : Nat} {x y : Operand} (ho : o.op = .binOp op T x y T') {u v r : Value} {rd : Bool} (hx : a.eval x = u) (hy : a.eval y = v)
    (h1 : u ≠ .nilIface) (h2 : ∀ cs, u ≠ .agg cs) (hr : ∀ W, (binOp op T u v).run P W = .ok r W) (hr1 : r.oneCell' = true) : Yld P w g s a o rd (.val r) := by
  refine yld_of (S := do eqGuard op T x y (a.eval x) (a.eval y); binOp op T (a.eval x) (a.eval y)) (fun W => by simp only [execOp, ho]) ⟨r, fun W _ => ?_, .val _ hr1⟩
  rw [Sem.run_bind, hx, hy, eqGuard_ok W h1 h2]
  exact hr W
theorem aint_run {op : BinOp} {T : Nat} {k : IntKind} {m n : Int} {q : Option DP} {v : Value} (h : aint std op k m n = some (q, v)) (hq : ∀ r, q = some r → r) (W : World) :
    (binOp op T (.int k m) (.int k n)).run P W = .ok v W ∧ v.oneCell' = true := by
  cases op <;> simp only [aint, Option.some.injEq, Prod.mk.injEq] at h <;> try (cases h; done)
  all_goals obtain ⟨rfl, rfl⟩ := h
  case add =>
    have h1 : k.wrap (m + n) = m + n := wrap_in k _ (hq _ rfl)
    exact ⟨by simp [binOp, Op.intArith, std, h1], rfl⟩
  case sub =>
    have h1 : k.wrap (m - n) = m - n := wrap_in k _ (hq _ rfl)
    exact ⟨by simp [binOp, Op.intArith, std, h1], rfl⟩
  case mul =>
    have h1 : k.wrap (m * n) = m * n := wrap_in k _ (hq _ rfl)
    exact ⟨by simp [binOp, Op.intArith, std, h1], rfl⟩
  case quo =>
    obtain ⟨h0, h1, _⟩ := hq _ rfl
    have h0 : n ≠ 0 := h0
    have h1 : k.wrap (m.tdiv n) = m.tdiv n := wrap_in k _ h1
    exact ⟨by simp [binOp, Op.intDiv, std, h0, h1], rfl⟩
  case rem =>
    obtain ⟨h0, h1, _⟩ := hq _ rfl
    have h0 : n ≠ 0 := h0
    have h1 : k.wrap (m.tmod n) = m.tmod n := wrap_in k _ h1
    exact ⟨by simp [binOp, Op.intDiv, std, h0, h1], rfl⟩
  case and => exact ⟨by simp [binOp, Op.intBits, std, bitsI], rfl⟩
  case or => exact ⟨by simp [binOp, Op.intBits, std, bitsI], rfl⟩
  case xor => exact ⟨by simp [binOp, Op.intBits, std, bitsI], rfl⟩
  case andNot => exact ⟨by simp [binOp, Op.intBits, std, bitsI], rfl⟩
  all_goals exact ⟨by simp [binOp, Op.intCmp, std, bne], rfl⟩
theorem eq_slice_nil {T : Nat} (hT : TyOk P ty) (hk : (tyLook T ty).kd = 2) (A : Option Addr) (n c n' c' : Nat) (W : World) :
    (binOp .eql T (.slice A n c) (.slice none n' c')).run P W = .ok (.bool A.isNone) W ∧ (binOp .neq T (.slice A n c) (.slice none n' c')).run P W = .ok (.bool !A.isNone) W := by
  have hu := (ty_kd hT hk (by decide)).slk hk
  have h : (Op.equal T (.slice A n c) (.slice none n' c')).run P W = .ok A.isNone W := by
    unfold Op.equal Op.maxDepth
    rw [Op.equalIn]
    cases A <;> simp [run_underlying hu]
  constructor
  · simp only [binOp]; simp [h]
  · simp only [binOp]; simp [h]
theorem eq_ptr_nil {T : Nat} (hT : TyOk P ty) (hk : (tyLook T ty).kd = 4) (A : Option Addr) (W : World) :
    (binOp .eql T (.pointer A) (.pointer none)).run P W = .ok (.bool A.isNone) W ∧ (binOp .neq T (.pointer A) (.pointer none)).run P W = .ok (.bool !A.isNone) W := by
  obtain ⟨e, hu⟩ := (ty_kd hT hk (by decide)).ptr hk
  have h : (Op.equal T (.pointer A) (.pointer none)).run P W = .ok A.isNone W := by
    unfold Op.equal Op.maxDepth
    rw [Op.equalIn]
    cases A <;> simp [run_underlying hu]
  constructor
  · simp only [binOp]; simp [h]
  · simp only [binOp]; simp [h]
theorem eq_fnc_nil {T : Nat} (hT : TyOk P ty) (hk : (tyLook T ty).kd = 7) (W : World) :
    (∀ f a c, (binOp .eql T (.func f a c) .nilFunc).run P W = .ok (.bool false) W ∧ (binOp .neq T (.func f a c) .nilFunc).run P W = .ok (.bool true) W) ∧
    (binOp .eql T .nilFunc .nilFunc).run P W = .ok (.bool true) W ∧ (binOp .neq T .nilFunc .nilFunc).run P W = .ok (.bool false) W := by
  obtain ⟨x, y, z, hu⟩ := (ty_kd hT hk (by decide)).fnc hk
  have h1 : ∀ f a c, (Op.equal T (.func f a c) .nilFunc).run P W = .ok false W := fun f a c => by
    unfold Op.equal Op.maxDepth
    rw [Op.equalIn]
    simp [run_underlying hu]
  have h2 : (Op.equal T .nilFunc .nilFunc).run P W = .ok true W := by
    unfold Op.equal Op.maxDepth
    rw [Op.equalIn]
    simp [run_underlying hu]
  refine ⟨fun f a c => ⟨?_, ?_⟩, ?_, ?_⟩
  · simp only [binOp]; simp [h1]
  · simp only [binOp]; simp [h1]
  · simp only [binOp]; simp [h2]
  · simp only [binOp]; simp [h2]
theorem fnc_form {v : Value} {f id o : Nat} {t : Bool} (h : ARel w g s.ob v (.clo f id o t)) : ∃ k a c, v = .func k a c := by
  rw [h.1]; cases t <;> exact ⟨_, _, _, rfl⟩
theorem yld_binOp (hT : TyOk P ty) (hS : Slots w g s a) (M : Mem w g s.ob) {o : Oper} {op : BinOp} {T T' : Nat} {x y : Operand} (ho : o.op = .binOp op T x y T') {q : Option DP} {z : AV}
    (h : aval std ty s o.op = some (q, z)) (hq : ∀ r, q = some r → r) : Yld P w g s a o false z := by
  rw [ho] at h
  simp only [aval] at h
  have hx := ev_rel hS x
  have hy := ev_rel hS y
  generalize hX : ev s x = X at h hx
  generalize hY : ev s y = Y at h hy
  unfold abin at h
  split at h
  · -- integers
    rename_i k m k' n
    split at h
    · simp only [Option.some.injEq, Prod.mk.injEq] at h
      obtain ⟨rfl, rfl⟩ := h
      have h0 : ¬ n < 0 := Int.not_lt.2 (hq _ rfl)
      exact yld_bin ho hx.valEq hy.valEq (by simp) (by simp) (fun W => by simp [binOp, Op.shift, std, shlI, h0]) rfl
    · simp only [Option.some.injEq, Prod.mk.injEq] at h
      obtain ⟨rfl, rfl⟩ := h
      have h0 : ¬ n < 0 := Int.not_lt.2 (hq _ rfl)
      have h1 : (if n < (k.bits : Int) then n else (k.bits : Int)).toNat = min n.toNat k.bits := by split <;> omega
      exact yld_bin ho hx.valEq hy.valEq (by simp) (by simp) (fun W => by simp [binOp, Op.shift, std, shrI, h0, h1]) rfl
    split at h
    · rename_i hk
      subst hk
      obtain ⟨⟨q', v⟩, h1, h2⟩ := Option.map_eq_some_iff.1 h
      simp only [Prod.mk.injEq] at h2
      obtain ⟨rfl, rfl⟩ := h2
      exact yld_bin ho hx.valEq hy.valEq (by simp) (by simp) (fun W => (aint_run h1 hq W).1) (aint_run (P := P) (T := T) h1 hq w).2
    · cases h
  · -- texts
    rename_i b c
    cases op <;> simp only at h <;> try (cases h; done)
    all_goals
      simp only [Option.some.injEq, Prod.mk.injEq] at h
      obtain ⟨rfl, rfl⟩ := h
    case add =>
      have hc : ((b.size + c.size : Nat) : Int) ≤ IntKind.i64.max := hq _ rfl
      have hc' : ((b.size + c.size : Nat) : Int) ≤ 9223372036854775807 := hc
      have hc2 : (b.size : Int) + c.size ≤ 9223372036854775807 := by omega
      exact yld_bin ho hx.valEq hy.valEq (by simp) (by simp) (fun W => by simp [binOp, Op.stringOp, std, hc2]) rfl
    all_goals exact yld_bin ho hx.valEq hy.valEq (by simp) (by simp) (fun W => by simp [binOp, Op.stringOp, std]) rfl
  · -- bools
    rename_i b c
    split at h
    · rename_i hk
      have hu := (ty_kd hT hk (by decide)).bool hk
      cases op <;> simp only at h <;> try (cases h; done)
      all_goals
        simp only [Option.some.injEq, Prod.mk.injEq] at h
        obtain ⟨rfl, rfl⟩ := h
      · exact yld_bin ho hx.valEq hy.valEq (by simp) (by simp) (fun W => run_eql_bool W T b c hu) rfl
      · exact yld_bin ho hx.valEq hy.valEq (by simp) (by simp) (fun W => run_neq_bool W T b c hu) rfl
    · cases h
  · -- nil slices
    split at h
    · rename_i hk
      cases op <;> simp only at h <;> try (cases h; done)
      all_goals
        simp only [Option.some.injEq, Prod.mk.injEq] at h
        obtain ⟨rfl, rfl⟩ := h
      · exact yld_bin ho hx.valEq hy.valEq (by simp) (by simp) (fun W => (eq_slice_nil hT hk _ _ _ _ _ W).1) rfl
      · exact yld_bin ho hx.valEq hy.valEq (by simp) (by simp) (fun W => (eq_slice_nil hT hk _ _ _ _ _ W).2) rfl
    · cases h
  · split at h
    · rename_i hk
      cases op <;> simp only at h <;> try (cases h; done)
      all_goals
        simp only [Option.some.injEq, Prod.mk.injEq] at h
        obtain ⟨rfl, rfl⟩ := h
      · exact yld_bin ho hx.valEq hy.valEq (by simp) (by simp) (fun W => (eq_ptr_nil hT hk none W).1) rfl
      · exact yld_bin ho hx.valEq hy.valEq (by simp) (by simp) (fun W => (eq_ptr_nil hT hk none W).2) rfl
    · cases h
  · -- an address that is there
    obtain ⟨b, u, hv⟩ := ptr_form hx (.inl ⟨_, rfl⟩)
    split at h
    · rename_i hk
      cases op <;> simp only at h <;> try (cases h; done)
      all_goals
        simp only [Option.some.injEq, Prod.mk.injEq] at h
        obtain ⟨rfl, rfl⟩ := h
      · exact yld_bin ho hv hy.valEq (by simp) (by simp) (fun W => (eq_ptr_nil hT hk _ W).1) rfl
      · exact yld_bin ho hv hy.valEq (by simp) (by simp) (fun W => (eq_ptr_nil hT hk _ W).2) rfl
    · cases h
  · obtain ⟨b, u, hv⟩ := ptr_form hx (.inr ⟨_, _, rfl⟩)
    split at h
    · rename_i hk
      cases op <;> simp only at h <;> try (cases h; done)
      all_goals
        simp only [Option.some.injEq, Prod.mk.injEq] at h
        obtain ⟨rfl, rfl⟩ := h
      · exact yld_bin ho hv hy.valEq (by simp) (by simp) (fun W => (eq_ptr_nil hT hk _ W).1) rfl
      · exact yld_bin ho hv hy.valEq (by simp) (by simp) (fun W => (eq_ptr_nil hT hk _ W).2) rfl
    · cases h
  · -- a pointer by content
    rename_i y0
    obtain ⟨hp, hpt⟩ : PRel w g.A _ _ ∧ isPtr _ := PRel.ofOpt (show PRel w g.A _ (.opt _) from hx)
    have key : ∃ A, a.eval x = .pointer A ∧ A.isNone = isNil y0 := by
      rcases opt_form hp hpt with ⟨h1, h2⟩ | ⟨h1, b, o, h2, _⟩
      · exact ⟨none, h2, h1.symm⟩
      · exact ⟨_, h2, h1.symm⟩
    obtain ⟨A, hv, hA⟩ := key
    split at h
    · rename_i hk
      cases op <;> simp only at h <;> try (cases h; done)
      all_goals
        simp only [Option.some.injEq, Prod.mk.injEq] at h
        obtain ⟨rfl, rfl⟩ := h
      · exact yld_bin ho hv hy.valEq (by simp) (by simp) (fun W => by rw [(eq_ptr_nil hT hk A W).1, hA]; rfl) rfl
      · exact yld_bin ho hv hy.valEq (by simp) (by simp) (fun W => by rw [(eq_ptr_nil hT hk A W).2, hA]; rfl) rfl
    · cases h
  · -- functions and nil
    obtain ⟨k, b, c, hv⟩ := fnc_form hx
    split at h
    · rename_i hk
      cases op <;> simp only at h <;> try (cases h; done)
      all_goals
        simp only [Option.some.injEq, Prod.mk.injEq] at h
        obtain ⟨rfl, rfl⟩ := h
      · exact yld_bin ho hv hy.valEq (by simp) (by simp) (fun W => ((eq_fnc_nil hT hk W).1 k b c).1) rfl
      · exact yld_bin ho hv hy.valEq (by simp) (by simp) (fun W => ((eq_fnc_nil hT hk W).1 k b c).2) rfl
    · cases h
  · split at h
    · rename_i hk
      cases op <;> simp only at h <;> try (cases h; done)
      all_goals
        simp only [Option.some.injEq, Prod.mk.injEq] at h
        obtain ⟨rfl, rfl⟩ := h
      · exact yld_bin ho hx.valEq hy.valEq (by simp) (by simp) (fun W => ((eq_fnc_nil hT hk W).1 _ _ _).1) rfl
      · exact yld_bin ho hx.valEq hy.valEq (by simp) (by simp) (fun W => ((eq_fnc_nil hT hk W).1 _ _ _).2) rfl
    · cases h
  · split at h
    · rename_i hk
      cases op <;> simp only at h <;> try (cases h; done)
      all_goals
        simp only [Option.some.injEq, Prod.mk.injEq] at h
        obtain ⟨rfl, rfl⟩ := h
      · exact yld_bin ho hx.valEq hy.valEq (by simp) (by simp) (fun W => (eq_fnc_nil hT hk W).2.1) rfl
      · exact yld_bin ho hx.valEq hy.valEq (by simp) (by simp) (fun W => (eq_fnc_nil hT hk W).2.2) rfl
    · cases h
  · -- a slice that is not empty
    split at h
    · rename_i sz xs he
      split at h
      · rename_i hk
        obtain ⟨A, c, ys, h1, hr, _⟩ := elems_rel M hx he
        have hne : xs ≠ [] → A.isNone = false := fun hn => by
          have : 0 < xs.length := List.length_pos_iff.2 hn
          cases A with
          | none => have := hr.nil rfl; have := hr.le; omega
          | some _ => rfl
        cases op <;> simp only at h <;> try (cases h; done)
        all_goals
          simp only [Option.some.injEq, Prod.mk.injEq] at h
          obtain ⟨rfl, rfl⟩ := h
        · exact yld_bin ho h1 hy.valEq (by simp) (by simp) (fun W => by rw [(eq_slice_nil hT hk A _ _ _ _ W).1, hne (hq _ rfl)]) rfl
        · exact yld_bin ho h1 hy.valEq (by simp) (by simp) (fun W => by rw [(eq_slice_nil hT hk A _ _ _ _ W).2, hne (hq _ rfl)]; rfl) rfl
      · cases h
    · cases h
  · cases h
end
end Go.Proofs.YtcmjijpofkoogaaGreat
