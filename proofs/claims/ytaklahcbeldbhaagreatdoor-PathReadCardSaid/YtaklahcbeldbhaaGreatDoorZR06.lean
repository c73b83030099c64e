/- Lemmas, conditions told -/
import Derived.Test.YtaklahcbeldbhaaGreatDoorZR05
import Derived.Lib.AppendStr
set_option linter.unusedSimpArgs false
set_option linter.unusedVariables false
namespace Go.Proofs.YtaklahcbeldbhaaGreatDoor
open Go.RowKit Go.Lib
section
variable {P : Program} {ty : Tys} {w : World} {g : Gh} {s : St} {a : Act}
theorem Yld.more {o : Oper} {x : AV} (h : Yld P w g s a o false x) (r : Bool) : Yld P w g s a o r x := by
  obtain ⟨v, h1, h2⟩ := h
  exact ⟨v, fun W _ => h1 W (fun h => by cases h), h2⟩
theorem strSlice_run {T : Nat} (hu : P.underlying T = some .string) (b : ByteArray) (lo hi : Option Value) {l h : Nat}
    (hlo : lo = none ∧ l = 0 ∨ ∃ k, lo = some (.int k (l : Int))) (hhi : hi = none ∧ h = b.size ∨ ∃ k, hi = some (.int k (h : Int))) (h1 : l ≤ h) (h2 : h ≤ b.size) (W : World) :
    (Instr.sliceAt T (.string b) lo hi none).run P W = .ok (.string (b.extract l h)) W := by
  have e1 : ∀ (k : IntKind), (Instr.sliceBound (.int k (h : Int)) b.size .sliceAlen).run P W = .ok h W := fun k => by
    rw [bound_run (by omega) (by omega)]; simp
  have e2 : ∀ (k : IntKind), (Instr.sliceBound (.int k (l : Int)) h .sliceB).run P W = .ok l W := fun k => by
    rw [bound_run (by omega) (by omega)]; simp
  rcases hlo with ⟨rfl, rfl⟩ | ⟨k, rfl⟩ <;> rcases hhi with ⟨rfl, rfl⟩ | ⟨k', rfl⟩ <;>
    simp [Instr.sliceAt, Instr.slice, run_underlying hu, Instr.sliceBounds, e1, e2]
theorem yld_strSlice {o : Oper} {T : Nat} {x : Operand} {lo hi : Option Operand} (ho : o.op = .slice T x lo hi none) {b : ByteArray} (hu : P.underlying T = some .string)
    (hx : a.eval x = .string b) {l h : Int} (hlo : lo.map a.eval = none ∧ l = 0 ∨ ∃ k, lo.map a.eval = some (.int k l)) (hhi : hi.map a.eval = none ∧ h = b.size ∨ ∃ k, hi.map a.eval = some (.int k h))
    (hok : 0 ≤ l ∧ l ≤ h ∧ h ≤ b.size) : Yld P w g s a o false (.val (.string (std.cutS b l h))) := by
  obtain ⟨h0, h1, h2⟩ := hok
  obtain ⟨l, rfl⟩ : ∃ l' : Nat, l = l' := ⟨l.toNat, by omega⟩
  obtain ⟨h, rfl⟩ : ∃ h' : Nat, h = h' := ⟨h.toNat, by omega⟩
  have hlo' : lo.map a.eval = none ∧ l = 0 ∨ ∃ k, lo.map a.eval = some (.int k (l : Int)) := hlo.imp (fun ⟨a, b⟩ => ⟨a, by omega⟩) id
  have hhi' : hi.map a.eval = none ∧ h = b.size ∨ ∃ k, hi.map a.eval = some (.int k (h : Int)) := hhi.imp (fun ⟨a, b⟩ => ⟨a, by omega⟩) id
  refine yld_of (S := Instr.sliceAt T (a.eval x) (lo.map a.eval) (hi.map a.eval) none) (fun W => by simp only [execOp, ho]; rfl) ⟨_, fun W _ => ?_, .val _ rfl⟩
  rw [hx, strSlice_run hu b _ _ hlo' hhi' (by omega) (by omega)]
  simp [std]
theorem bd_lo (hS : Slots w g s a) {lo : Option Operand} {k : IntKind} {l : Int} (h : lo.map (ev s) = some (.val (.int k l))) : lo.map a.eval = some (.int k l) := by
  cases lo with
  | none => cases h
  | some x =>
    have h : ev s x = .val (.int k l) := by simpa using h
    have hx := ev_rel hS x
    rw [h] at hx
    simp [hx.valEq]
theorem bd_no {lo : Option Operand} (h : lo.map (ev s) = none) : lo.map a.eval = none := by
  cases lo with
  | none => rfl
  | some x => cases h
theorem yld_slice (hT : TyOk P ty) (hS : Slots w g s a) (M : Mem w g s.ob) {o : Oper} {T : Nat} {x : Operand} {lo hi : Option Operand} (ho : o.op = .slice T x lo hi none) {q : Option DP} {z : AV}
    (h : aval std ty s o.op = some (q, z)) (hq : ∀ r, q = some r → r) : Yld P w g s a o false z := by
  have ho' := ho
  rw [ho] at h
  simp only [aval] at h
  have hx := ev_rel hS x
  split at h
  · rename_i b hb
    rw [hb] at hx
    split at h
    · rename_i hk
      have hu := (ty_kd hT hk (by decide)).str hk
      split at h <;> try (cases h; done)
      · rename_i h1 h2
        simp only [Option.some.injEq, Prod.mk.injEq] at h
        obtain ⟨rfl, rfl⟩ := h
        have := yld_strSlice (w := w) (g := g) (s := s) (l := 0) (h := b.size) ho' hu hx.valEq (.inl ⟨bd_no h1, rfl⟩) (.inl ⟨bd_no h2, rfl⟩) ⟨by omega, by omega, by omega⟩
        have e : std.cutS b 0 b.size = b := by simp [std]
        rw [e] at this
        exact this
      · rename_i h1 h2
        simp only [Option.some.injEq, Prod.mk.injEq] at h
        obtain ⟨rfl, rfl⟩ := h
        exact yld_strSlice ho' hu hx.valEq (.inr ⟨_, bd_lo hS h1⟩) (.inl ⟨bd_no h2, rfl⟩) (hq _ rfl)
      · rename_i h1 h2
        simp only [Option.some.injEq, Prod.mk.injEq] at h
        obtain ⟨rfl, rfl⟩ := h
        exact yld_strSlice ho' hu hx.valEq (.inl ⟨bd_no h1, rfl⟩) (.inr ⟨_, bd_lo hS h2⟩) (hq _ rfl)
      · rename_i h1 h2
        simp only [Option.some.injEq, Prod.mk.injEq] at h
        obtain ⟨rfl, rfl⟩ := h
        exact yld_strSlice ho' hu hx.valEq (.inr ⟨_, bd_lo hS h1⟩) (.inr ⟨_, bd_lo hS h2⟩) (hq _ rfl)
    · cases h
  · rename_i sz xs hb
    rw [hb] at hx
    split at h
    · rename_i hel
      split at h <;> try (cases h; done)
      · rename_i h1 h2
        simp only [Option.some.injEq, Prod.mk.injEq] at h
        obtain ⟨rfl, rfl⟩ := h
        have := yld_slice_slc (l := 0) (h := xs.length) hT ho' hel hx (.inl ⟨bd_no h1, rfl⟩) (.inl ⟨bd_no h2, rfl⟩) ⟨by omega, by omega, by omega⟩
        have e : std.cut xs 0 xs.length = xs := by simp [std]
        rw [e] at this
        exact this
      · rename_i h1 h2
        simp only [Option.some.injEq, Prod.mk.injEq] at h
        obtain ⟨rfl, rfl⟩ := h
        exact yld_slice_slc hT ho' hel hx (.inr ⟨_, bd_lo hS h1⟩) (.inl ⟨bd_no h2, rfl⟩) (hq _ rfl)
      · rename_i h1 h2
        simp only [Option.some.injEq, Prod.mk.injEq] at h
        obtain ⟨rfl, rfl⟩ := h
        exact yld_slice_slc hT ho' hel hx (.inl ⟨bd_no h1, rfl⟩) (.inr ⟨_, bd_lo hS h2⟩) (hq _ rfl)
      · rename_i h1 h2
        simp only [Option.some.injEq, Prod.mk.injEq] at h
        obtain ⟨rfl, rfl⟩ := h
        exact yld_slice_slc hT ho' hel hx (.inr ⟨_, bd_lo hS h1⟩) (.inr ⟨_, bd_lo hS h2⟩) (hq _ rfl)
    · cases h
  · rename_i id ep hb
    rw [hb] at hx
    obtain ⟨_, et, sz, fz, e, xs, h1, h2, h3⟩ := hx
    simp only [h1] at h
    split at h
    · rename_i hel
      split at h <;> try (cases h; done)
      rename_i k n h4 h5
      simp only [Option.some.injEq, Prod.mk.injEq] at h
      obtain ⟨rfl, rfl⟩ := h
      cases lo with
      | some _ => cases h4
      | none =>
        cases hi with
        | none => cases h5
        | some y =>
          have hy : ev s y = .val (.int k n) := by simpa using h5
          have hy' := ev_rel hS y
          rw [hy] at hy'
          have hqq : 0 ≤ (0 : Int) ∧ 0 ≤ n ∧ n ≤ (xs.length : Int) := hq _ rfl
          exact yld_slice_row hT ho' hel.2 h1 hel.1 (h3 hel.1) hy'.valEq hqq.2
    · cases h
  · cases h
theorem aval_sound (hT : TyOk P ty) (hS : Slots w g s a) (M : Mem w g s.ob) {o : Oper} {q : Option DP} {z : AV}
    (h : aval std ty s o.op = some (q, z)) (hq : ∀ r, q = some r → r) : Yld P w g s a o (readsM o.op) z := by
  cases ho : o.op with
  | move x =>
    rw [ho] at h
    obtain ⟨rfl, rfl⟩ : none = q ∧ evk s x = z := by simpa [aval] using h
    exact yld_move hS (.inl ho)
  | assign x =>
    rw [ho] at h
    obtain ⟨rfl, rfl⟩ : none = q ∧ evk s x = z := by simpa [aval] using h
    exact yld_move hS (.inr ho)
  | pick c x y =>
    rw [ho] at h
    simp only [aval] at h
    split at h
    · rename_i t hc
      simp only [Option.some.injEq, Prod.mk.injEq] at h
      obtain ⟨rfl, rfl⟩ := h
      have := yld_pick (P := P) hS ho hc
      cases t <;> exact this
    · cases h
  | build T parts => exact yld_build hT hS ho h
  | load T x =>
    rw [ho] at h
    simp only [aval] at h
    have hxr := ev_rel hS x
    split at h
    · rename_i cs he
      rw [he] at hxr
      exact yld_exp hT ho (ref_cells hxr) h hq
    · rename_i id ep i off he
      rw [he] at hxr
      split at h
      · rename_i e xs hob
        split at h
        · rename_i hee
          exact yld_exp hT ho (rptr_cells M hxr hob hee) h hq
        · cases h
      · cases h
    split at h
    · rename_i cs hcs
      by_cases hl : (tyLook T ty).ok = true ∧ (if (tyLook T ty).agg then (tyLook T ty).size else 1) ≤ cs.length
      · rw [if_pos hl] at h
        simp only [Option.some.injEq, Prod.mk.injEq] at h
        obtain ⟨rfl, rfl⟩ := h
        exact yld_load hT hS M ho hcs hl.1 hl.2
      · rw [if_neg hl] at h; cases h
    · cases h
  | nilCheck x =>
    rw [ho] at h
    simp only [aval] at h
    have hx := ev_rel hS x
    split at h
    · rename_i cs he
      obtain ⟨rfl, rfl⟩ : none = q ∧ AV.ref cs = z := by simpa using h
      rw [he] at hx
      obtain ⟨b, u, hv⟩ := ptr_form hx (.inl ⟨_, rfl⟩)
      have := yld_nilCheck hS ho hv (.inl ⟨_, rfl⟩) (P := P)
      rw [he] at this; exact this
    · rename_i id of he
      obtain ⟨rfl, rfl⟩ : none = q ∧ AV.box id of = z := by simpa using h
      rw [he] at hx
      obtain ⟨b, u, hv⟩ := ptr_form hx (.inr ⟨_, _, rfl⟩)
      have := yld_nilCheck hS ho hv (.inl ⟨_, rfl⟩) (P := P)
      rw [he] at this; exact this
    · rename_i y he
      simp only [Option.some.injEq, Prod.mk.injEq] at h
      obtain ⟨rfl, rfl⟩ := h
      exact yld_optCheck hS ho he (hq _ rfl)
    · rename_i id ep i of he
      rw [he] at hx
      split at h
      · rename_i e xs hob
        split at h
        · rename_i hk
          obtain ⟨rfl, rfl⟩ : none = q ∧ AV.rptr id ep i of = z := by simpa using h
          obtain ⟨b, u, hv⟩ := rptr_form hx hob hk
          have := yld_nilCheck hS ho hv (.inl ⟨_, rfl⟩) (P := P)
          rw [he] at this; exact this
        · cases h
      · cases h
    · rename_i f b c he
      obtain ⟨rfl, rfl⟩ : none = q ∧ AV.val (.func (.func f) b c) = z := by simpa using h
      rw [he] at hx
      have := yld_nilCheck hS ho hx.valEq (.inr ⟨_, _, _, rfl⟩) (P := P)
      rw [he] at this; exact this
    · cases h
  | binOp op T x y T' => exact yld_binOp hT hS M ho h hq
  | unOp op T x => exact yld_unOp hS ho h hq
  | convert src dst x => exact yld_convert hT hS M ho h hq
  | makeFunc fn fi ca =>
    rw [ho] at h
    simp only [aval] at h
    split at h
    · rename_i he
      obtain ⟨rfl, rfl⟩ : fi = #[] ∧ ca = #[] := by simpa using he
      obtain ⟨rfl, rfl⟩ : none = q ∧ AV.val (.func fn #[] #[]) = z := by simpa using h
      exact yld_makeFunc ho
    · cases h
  | fieldAddr T x f =>
    rw [ho] at h
    simp only [aval] at h
    have hx := ev_rel hS x
    split at h
    · rename_i off t hf
      split at h
      · rename_i cs he
        rw [he] at hx
        split at h
        · rename_i hfo
          obtain ⟨rfl, rfl⟩ : none = q ∧ AV.ref (std.drp cs off) = z := by simpa using h
          refine yld_fieldAddr hT hS ho hf hfo (fun b u hr => ?_) (ptr_form hx (.inl ⟨_, rfl⟩))
          rw [he] at hr
          exact ref_off hr off
        · cases h
      · rename_i id of he
        rw [he] at hx
        split at h
        · rename_i hfo
          obtain ⟨rfl, rfl⟩ : none = q ∧ AV.box id (of + off) = z := by simpa using h
          refine yld_fieldAddr hT hS ho hf hfo (fun b u hr => ?_) (ptr_form hx (.inr ⟨_, _, rfl⟩))
          rw [he] at hr
          obtain ⟨h1, h2⟩ := hr
          simp only [Value.pointer.injEq, Option.some.injEq, Addr.mk.injEq, and_true] at h1
          exact ⟨by rw [h1.1, h1.2], h2⟩
        · cases h
      · rename_i id ep i of he
        rw [he] at hx
        split at h
        · rename_i e xs hob
          split at h
          · rename_i hk
            obtain ⟨rfl, rfl⟩ : none = q ∧ AV.rptr id ep i (of + off) = z := by simpa using h
            refine yld_fieldAddr hT hS ho hf hk.2 (fun b u hr => ?_) (rptr_form hx hob hk.1)
            rw [he] at hr
            exact rptr_off hr hob hk.1 off
          · cases h
        · cases h
      · cases h
    · cases h
  | field T x f => exact yld_field hT hS ho h
  | indexAddr T x i => exact yld_indexAddr hT hS M ho h hq
  | index T x i =>
    rw [ho] at h
    simp only [aval] at h
    split at h
    · rename_i cs kn k h1 h2
      by_cases hk : 100 ≤ (tyLook T ty).kd ∧ (tyLook (tyLook T ty).elem ty).ok = true ∧ 0 ≤ k ∧ k < ((tyLook T ty).kd - 100 : Nat) ∧ k.toNat * (tyLook (tyLook T ty).elem ty).size + (if (tyLook (tyLook T ty).elem ty).agg then (tyLook (tyLook T ty).elem ty).size else 1) ≤ cs.length
      · rw [if_pos hk] at h
        simp only [Option.some.injEq, Prod.mk.injEq] at h
        obtain ⟨rfl, rfl⟩ := h
        exact yld_elem hT hS ho h1 h2 hk.1 hk.2.1 hk.2.2.1 hk.2.2.2.1 hk.2.2.2.2
      · rw [if_neg hk] at h; cases h
    · rename_i b k n h1 h2
      split at h
      · rename_i hk
        simp only [Option.some.injEq, Prod.mk.injEq] at h
        obtain ⟨rfl, rfl⟩ := h
        obtain ⟨h3, h4⟩ : 0 ≤ n ∧ n < (b.size : Int) := hq _ rfl
        exact yld_index hT hS ho h1 h2 hk h3 h4
      · cases h
    · cases h
  | slice T x lo hi mx =>
    cases mx with
    | none => exact yld_slice hT hS M ho h hq
    | some m => rw [ho] at h; simp [aval] at h
  | extract t i =>
    rw [ho] at h
    simp only [aval] at h
    split at h
    · rename_i vs hv
      obtain ⟨x, h1, h2⟩ := Option.map_eq_some_iff.1 h
      obtain ⟨rfl, rfl⟩ : none = q ∧ x = z := by simpa using h2
      exact yld_extract hS ho hv h1
    · cases h
  | call c =>
    obtain ⟨callee, args, r⟩ := c
    cases callee with
    | builtin b =>
      cases b with
      | len => exact yld_len hT hS M ho h
      | min => exact yld_min hS ho h
      | max => exact yld_max hS ho h
      | _ => rw [ho] at h; simp [aval] at h
    | _ => rw [ho] at h; simp [aval] at h
  | _ => rw [ho] at h; simp [aval] at h
end
end Go.Proofs.YtaklahcbeldbhaaGreatDoor
namespace Go.Proofs.YtaklahcbeldbhaaGreatDoor
open Go.RowKit Go.Lib
section
variable {w w' : World} {g g' : Gh} {ob ob' : List Ob}
theorem heap_new (w : World) (o : Obj) : (w.alloc o).heap[w.heap.size]? = some o := heap_alloc_new w o
theorem heap_old {w : World} {o : Obj} {b : Nat} (h : b < w.heap.size) : (w.alloc o).heap[b]? = w.heap[b]? := Below.heap_alloc w o b h
theorem cell_old {w : World} {o : Obj} {b k : Nat} (h : b < w.heap.size) : (w.alloc o).cell? ⟨b, k, none⟩ = w.cell? ⟨b, k, none⟩ := World.cell?_of_block (heap_old h)
def Gh.new (g : Gh) (w : World) (ob : List Ob) : Gh := ⟨g.A, fun b => if b = w.heap.size then some ob.length else g.G b, fun i => if i = ob.length then w.heap.size else g.loc i, g.sub⟩
theorem get_old {α : Type} {l : List α} {x : α} {i : Nat} (h : i < l.length) : (l ++ [x])[i]? = l[i]? := List.getElem?_append_left h
theorem get_new {α : Type} {l : List α} {x : α} : (l ++ [x])[l.length]? = some x := by simp
theorem Ext.new (M : Mem w g ob) (o : Obj) (x : Ob) : Ext w g ob (w.alloc o) (g.new w ob) (ob ++ [x]) := by
  have old : ∀ {b : Nat} {id : Nat}, g.G b = some id → b ≠ w.heap.size := fun h => by have := (M.own _ _ h).1; omega
  refine ⟨fun b o h => ⟨h, cell_old (M.imm b o h).1⟩, fun id h => ?_, fun id h => ?_, fun id h => ?_, fun id et sz fz e xs h => ⟨fz, e, xs, ?_, Nat.le_refl _, fun _ => .inl ⟨rfl, fun b hG => ⟨?_, heap_old (M.own _ _ hG).1⟩⟩⟩, fun _ _ _ _ => ⟨rfl, fun _ _ h => h⟩⟩
  · simp [Gh.new, Nat.ne_of_lt h]
  · rw [get_old (isBox_lt h)]; exact h
  · rw [get_old (isIt_lt h)]; exact h
  · rw [get_old (lt_of_some h)]; exact h
  · simp [Gh.new, old hG, hG]
theorem Mem.new (M : Mem w g ob) (o : Obj) (x : Ob)
    (hbox : ∀ cs, x = .box cs → ∃ cur T, o = .cells cur T (0, 0) ∧ ARelC w g ob cur.toList cs) (hfb : ∀ cs, x ≠ .fbox cs) (hit : ∀ y, x = .iter y → ItRel w g.A y (some o))
    (hrow : ∀ et sz fz e xs, x = .row et sz fz e xs → 0 < sz ∧ ∀ y ∈ xs, y.cells.length = sz) : Mem (w.alloc o) (g.new w ob) (ob ++ [x]) := by
  have E := Ext.new M o x
  have old : ∀ {b : Nat} {id : Nat}, g.G b = some id → b ≠ w.heap.size := fun h => by have := (M.own _ _ h).1; omega
  have hsz : (w.alloc o).heap.size = w.heap.size + 1 := by simp
  refine ⟨fun id cs h => ?_, fun id cs h j u hj => ?_, fun id y h => ?_, fun b id h => ?_, fun b k h => ?_, fun id et sz fz e xs h => ?_, fun b hs => ?_, fun b b' id h1 h2 hs hs' => ?_⟩
  · by_cases hl : id < ob.length
    · rw [get_old hl] at h
      obtain ⟨h1, cur, T, h2, h3⟩ := M.box id cs h
      have h4 := (M.own _ _ h1).1
      have e1 : (g.new w ob).loc id = g.loc id := by simp [Gh.new, Nat.ne_of_lt hl]
      rw [e1]
      exact ⟨by simp [Gh.new, Nat.ne_of_lt h4, h1], cur, T, by rw [heap_old h4]; exact h2, h3.ext E⟩
    · have hid : id = ob.length := by have := lt_of_some h; simp at this; omega
      subst hid
      rw [get_new] at h
      obtain ⟨cur, T, rfl, h2⟩ := hbox cs (by simpa using h)
      have e1 : (g.new w ob).loc ob.length = w.heap.size := by simp [Gh.new]
      rw [e1]
      exact ⟨by simp [Gh.new], cur, T, heap_new w _, h2.ext E⟩
  · by_cases hl : id < ob.length
    · rw [get_old hl] at h
      obtain ⟨h1, y, h2, h3⟩ := M.fbox id cs h j u hj
      have e1 : (g.new w ob).loc id = g.loc id := by simp [Gh.new, Nat.ne_of_lt hl]
      rw [e1]
      exact ⟨h1, y, by rw [cell_old (M.imm _ _ h1).1]; exact h2, h3.keep E.A⟩
    · have hid : id = ob.length := by have := lt_of_some h; simp at this; omega
      subst hid
      rw [get_new] at h
      exact absurd (by simpa using h) (hfb cs)
  · by_cases hl : id < ob.length
    · rw [get_old hl] at h
      obtain ⟨h1, h2⟩ := M.iter id y h
      have h4 := (M.own _ _ h1).1
      have e1 : (g.new w ob).loc id = g.loc id := by simp [Gh.new, Nat.ne_of_lt hl]
      rw [e1]
      exact ⟨by simp [Gh.new, Nat.ne_of_lt h4, h1], h2.at E.A (heap_old h4)⟩
    · have hid : id = ob.length := by have := lt_of_some h; simp at this; omega
      subst hid
      rw [get_new] at h
      have hI := hit y (by simpa using h)
      have e1 : (g.new w ob).loc ob.length = w.heap.size := by simp [Gh.new]
      rw [e1]
      exact ⟨by simp [Gh.new], hI.at E.A (heap_new w _)⟩
  · simp only [Gh.new] at h
    split at h
    · obtain rfl : ob.length = id := by simpa using h
      rename_i hb
      rw [hb, hsz]
      exact ⟨by omega, by simp⟩
    · have := M.own b id h
      rw [hsz]
      exact ⟨by omega, by simp; omega⟩
  · obtain ⟨h1, h2⟩ := M.imm b k h
    refine ⟨by rw [hsz]; omega, fun id hG hs => ?_⟩
    simp only [Gh.new, Nat.ne_of_lt h1, if_false] at hG
    obtain ⟨et, sz, e, xs, h3, h4⟩ := h2 id hG hs
    exact ⟨et, sz, e, xs, by rw [get_old (lt_of_some h3)]; exact h3, h4⟩
  · by_cases hl : id < ob.length
    · rw [get_old hl] at h; exact M.roww id et sz fz e xs h
    · have hid : id = ob.length := by have := lt_of_some h; simp at this; omega
      subst hid
      rw [get_new] at h
      exact hrow et sz fz e xs (by simpa using h)
  · obtain ⟨id, et, sz, fz, e, xs, h1, h2⟩ := M.nsub b hs
    exact ⟨id, et, sz, fz, e, xs, by simp [Gh.new, old h1, h1], by rw [get_old (lt_of_some h2)]; exact h2⟩
  · simp only [Gh.new] at h1 h2
    split at h1 <;> split at h2
    · rename_i e1 e2; exact e1.trans e2.symm
    · cases h1; exact absurd (M.own _ _ h2).2 (Nat.lt_irrefl _)
    · cases h2; exact absurd (M.own _ _ h1).2 (Nat.lt_irrefl _)
    · exact M.uniq b b' id h1 h2 hs hs'
def Gh.imm (g : Gh) (w w' : World) : Gh := ⟨fun b o => g.A b o ∨ (w.heap.size ≤ b ∧ b < w'.heap.size), g.G, g.loc, g.sub⟩
theorem Ext.immNew (M : Mem w g ob) (hb : Below w.heap.size w w') : Ext w g ob w' (g.imm w w') ob :=
  ⟨fun b o h => ⟨.inl h, World.cell?_of_block (w := w) (hb.block b (M.imm b o h).1)⟩, fun _ _ => rfl, fun _ h => h, fun _ h => h,
    fun _ _ _ fz e xs h => ⟨fz, e, xs, h, Nat.le_refl _, fun _ => .inl ⟨rfl, fun b hG => ⟨hG, hb.block b (M.own b _ hG).1⟩⟩⟩,
    fun b id hG _ => ⟨rfl, fun _ o h => h.resolve_right fun h2 => by have := (M.own b id hG).1; omega⟩⟩
theorem Mem.immNew (M : Mem w g ob) (hb : Below w.heap.size w w') : Mem w' (g.imm w w') ob := by
  have E := Ext.immNew M hb
  refine ⟨fun id cs h => ?_, fun id cs h j u hj => ?_, fun id y h => ?_, fun b id h => ⟨Nat.lt_of_lt_of_le (M.own b id h).1 hb.size, (M.own b id h).2⟩, fun b o h => ?_, M.roww, M.nsub, M.uniq⟩
  · obtain ⟨h1, cur, T, h2, h3⟩ := M.box id cs h
    exact ⟨h1, cur, T, (hb.block _ (M.own _ _ h1).1).trans h2, h3.ext E⟩
  · obtain ⟨h1, y, h2, h3⟩ := M.fbox id cs h j u hj
    exact ⟨.inl h1, y, (E.A _ _ h1).2.trans h2, h3.keep E.A⟩
  · obtain ⟨h1, h2⟩ := M.iter id y h
    exact ⟨h1, h2.at E.A (hb.block _ (M.own _ _ h1).1)⟩
  · rcases h with h | ⟨h1, h2⟩
    · exact ⟨Nat.lt_of_lt_of_le (M.imm b o h).1 hb.size, (M.imm b o h).2⟩
    · exact ⟨h2, fun id hG _ => by have := (M.own b id hG).1; omega⟩
theorem cell_setCells {W : World} {b o k : Nat} {vs : List Value} {b' : Nat} (h : b' ≠ b) : (W.setCells b o vs).heap[b']? = W.heap[b']? := by
  induction vs generalizing o W with
  | nil => rfl
  | cons v r ih =>
    show ((W.setCell ⟨b, o, none⟩ v).setCells b (o + 1) r).heap[b']? = _
    rw [ih]
    exact Below.heap_setCell W _ v b' h
theorem heap_setCells_self {W : World} {b : Nat} {T : TypeId} {fr : Nat × Nat} : ∀ (vs : List Value) (o : Nat) (W : World) (cur : Array Value), W.heap[b]? = some (.cells cur T fr) → o + vs.length ≤ cur.size →
    (W.setCells b o vs).heap[b]? = some (.cells (cur.toList.take o ++ (vs ++ cur.toList.drop (o + vs.length))).toArray T fr)
  | [], o, W, cur, h, _ => by
    show W.heap[b]? = _
    rw [h]; simp
  | v :: r, o, W, cur, h, hl => by
    have h1 : (W.setCell ⟨b, o, none⟩ v).heap[b]? = some (.cells (cur.setIfInBounds o v) T fr) := by
      simp only [World.setCell, Array.getElem?_modify, if_true, h, Option.map_some]
      rfl
    have h2 := heap_setCells_self (W := W) r (o + 1) _ _ h1 (by simp at hl ⊢; omega)
    show ((W.setCell ⟨b, o, none⟩ v).setCells b (o + 1) r).heap[b]? = _
    rw [h2]
    congr 2
    have ho : o < cur.toList.length := by simp at hl ⊢; omega
    rw [Array.toList_setIfInBounds, List.take_succ_eq_append_getElem (by simpa using ho), List.getElem_set_self, List.take_set_of_le (by omega), List.drop_set_of_lt (by omega)]
    simp only [List.append_assoc, List.singleton_append, List.cons_append, List.length_cons, List.nil_append]
    rw [show o + 1 + r.length = o + (r.length + 1) by omega]
theorem size_setCells (W : World) (b o : Nat) (vs : List Value) : (W.setCells b o vs).heap.size = W.heap.size := by
  induction vs generalizing o W with
  | nil => rfl
  | cons v r ih =>
    show ((W.setCell ⟨b, o, none⟩ v).setCells b (o + 1) r).heap.size = _
    rw [ih]; simp [World.setCell]
theorem box_apart (M : Mem w g ob) {id : Nat} {cs : List AV} (h : ob[id]? = some (.box cs)) {b o : Nat} (hA : g.A b o) : b ≠ g.loc id := by
  rintro rfl
  obtain ⟨et, sz, e, xs, h1, _⟩ := (M.imm _ _ hA).2 id (M.box id cs h).1 (M.nosub (M.box id cs h).1 fun _ _ _ _ _ h2 => by rw [h] at h2; cases h2)
  rw [h] at h1; cases h1
theorem Ext.store (M : Mem w g ob) {id : Nat} {cs : List AV} (h : ob[id]? = some (.box cs)) (off : Nat) (vs : List Value) (us : List AV) :
    Ext w g ob (w.setCells (g.loc id) off vs) g (ob.set id (.box us)) := by
  have hl := lt_of_some h
  have ne : ∀ {b id' : Nat}, g.G b = some id' → id' ≠ id → b ≠ g.loc id := by
    rintro b id' hG hne rfl
    rw [(M.box id cs h).1] at hG
    exact hne (by simpa using hG.symm)
  refine ⟨fun b o hA => ⟨hA, World.cell?_of_block (w := w) (cell_setCells (k := 0) (box_apart M h hA))⟩, fun _ _ => rfl, fun i hi => ?_, fun i hi => ?_, fun i et sz fz e xs hi => ⟨fz, e, xs, ?_, Nat.le_refl _, fun _ => .inl ⟨rfl, fun b hG => ⟨hG, ?_⟩⟩⟩, fun _ _ _ _ => ⟨rfl, fun _ _ h => h⟩⟩
  · by_cases e : i = id
    · subst e; rw [List.getElem?_set_self hl]; trivial
    · rw [List.getElem?_set_ne (Ne.symm e)]; exact hi
  · by_cases e : i = id
    · subst e; rw [h] at hi; exact hi.elim
    · rw [List.getElem?_set_ne (Ne.symm e)]; exact hi
  · by_cases e : i = id
    · subst e; rw [h] at hi; cases hi
    · rw [List.getElem?_set_ne (Ne.symm e)]; exact hi
  · by_cases e : i = id
    · subst e; rw [h] at hi; cases hi
    · exact cell_setCells (k := 0) (ne hG e)
theorem Mem.store (M : Mem w g ob) {id : Nat} {cs : List AV} (h : ob[id]? = some (.box cs)) {off : Nat} {vs : List Value} {us : List AV} (hv : ARelC w g ob vs us) (hl : off + us.length ≤ cs.length) :
    Mem (w.setCells (g.loc id) off vs) g (ob.set id (.box (setCells cs off us))) := by
  have E := Ext.store M h off vs (setCells cs off us)
  have hid := lt_of_some h
  obtain ⟨h1, cur, T, h2, h3⟩ := M.box id cs h
  have ne : ∀ {b id' : Nat}, g.G b = some id' → id' ≠ id → b ≠ g.loc id := by
    rintro b id' hG hne rfl
    rw [h1] at hG
    exact hne (by simpa using hG.symm)
  have hcl : cur.size = cs.length := by simpa using h3.1
  refine ⟨fun i c hi => ?_, fun i c hi j u hj => ?_, fun i y hi => ?_, fun b i hG => by rw [size_setCells, List.length_set]; exact M.own b i hG, fun b o hA => ?_, fun i et sz fz e xs hi => ?_, fun b hs => ?_, M.uniq⟩
  · by_cases e : i = id
    · subst e
      rw [List.getElem?_set_self hid] at hi
      obtain rfl : setCells cs off us = c := by simpa using hi
      refine ⟨h1, _, T, heap_setCells_self (W := w) vs off w cur h2 (by rw [hv.1, hcl]; exact hl), ?_⟩
      have := setCells_rel h3 hv hl
      exact (ARelC.ext E this)
    · rw [List.getElem?_set_ne (Ne.symm e)] at hi
      obtain ⟨h4, cur', T', h5, h6⟩ := M.box i c hi
      exact ⟨h4, cur', T', by rw [cell_setCells (k := 0) (ne h4 e)]; exact h5, h6.ext E⟩
  · by_cases e : i = id
    · subst e; rw [List.getElem?_set_self hid] at hi; cases hi
    · rw [List.getElem?_set_ne (Ne.symm e)] at hi
      obtain ⟨h4, y, h5, h6⟩ := M.fbox i c hi j u hj
      exact ⟨h4, y, by rw [(E.A _ _ h4).2]; exact h5, h6.keep E.A⟩
  · by_cases e : i = id
    · subst e; rw [List.getElem?_set_self hid] at hi; cases hi
    · rw [List.getElem?_set_ne (Ne.symm e)] at hi
      obtain ⟨h4, h5⟩ := M.iter i y hi
      exact ⟨h4, h5.at E.A (cell_setCells (k := 0) (ne h4 e))⟩
  · obtain ⟨h4, h5⟩ := M.imm b o hA
    refine ⟨by rw [size_setCells]; exact h4, fun i hG hs => ?_⟩
    obtain ⟨et, sz, e, xs, h6, h7⟩ := h5 i hG hs
    have hne : i ≠ id := by rintro rfl; rw [h] at h6; cases h6
    exact ⟨et, sz, e, xs, by rw [List.getElem?_set_ne (Ne.symm hne)]; exact h6, h7⟩
  · by_cases e' : i = id
    · subst e'; rw [List.getElem?_set_self hid] at hi; cases hi
    · rw [List.getElem?_set_ne (Ne.symm e')] at hi; exact M.roww i et sz fz e xs hi
  · obtain ⟨i, et, sz, fz, e, xs, h4, h5⟩ := M.nsub b hs
    have e' : i ≠ id := by rintro rfl; rw [h] at h5; cases h5
    exact ⟨i, et, sz, fz, e, xs, h4, by rw [List.getElem?_set_ne (Ne.symm e')]; exact h5⟩
end
end Go.Proofs.YtaklahcbeldbhaaGreatDoor
namespace Go.Proofs.YtaklahcbeldbhaaGreatDoor
open Go.RowKit Go.Lib
section
variable {P : Program} {w : World}
set_option maxHeartbeats 2000000 in
theorem append_any {t u ty e : TypeId} {i : TypeInfo} {z : Value} {d : TypeDesc} {size : Nat} (ht : P.underlying t = some (.slice e)) (hu : P.underlying u = some d) (hd : (∃ e', d = .slice e') ∨ d = .string) (hi : P.info? e = some i) (hz : i.zero = some z)
    (hsize : i.size = size) (hby : i.bytes ≤ 140000) (hzs : z.cells.size = size)
    {v : Value} {n : Nat} {xs : List Value} (hown : w.ownsRow 0 e size v n xs) {x : Value} {m : Nat} {news : List Value} (hl : news.length = m * size)
    (hlen : ∀ W, (Builtin.lenOf x).run P W = .ok m W) (hfc : ∀ W : World, W.heap = w.heap → (Builtin.firstCells size m x).run P W = .ok news.toArray W) (h1 : ∀ u ∈ news, u.oneCell' = true) (hb : n + m ≤ 1000000000) :
    ∃ v' w', (Builtin.append_ #[t, u] ty #[v, x]).run P w = .ok v' w' ∧ w'.ownsRow 0 e size v' (n + m) (xs ++ news) ∧ w.grownBy w' v.ownBlock ∧ (v'.ownBlock = v.ownBlock ∨ v'.ownBlock = some w.heap.size) ∧
      (∀ b k, b < w.heap.size → (v.ownBlock = some b → k < n * size) → w'.cell? ⟨b, k, none⟩ = w.cell? ⟨b, k, none⟩) := by
  subst hsize
  have hbyt : (n + m) * i.bytes ≤ 140737488355328 := Nat.le_trans (Nat.mul_le_mul hb hby) (by decide)
  have hlen' : (xs ++ news).length = (n + m) * i.size := by rw [List.length_append, hown.1, hl, Nat.add_mul]
  -- the arm that grows
  have grow : ∀ (old : Nat) (base : Option Addr), old < n + m → (∀ W : World, W.heap = w.heap → (Builtin.firstCells i.size n (.slice base n old)).run P W = .ok xs.toArray W) →
      (Builtin.append_ #[t, u] ty #[.slice base n old, x]).run P w = .ok (.slice (some ⟨w.heap.size, 0, none⟩) (n + m) (grownCap w (n + m) old e))
        (w.drew.alloc (.cells (xs.toArray ++ news.toArray ++ Builtin.zeroCells z.cells (grownCap w (n + m) old e - (n + m))) e)) := by
    intro old base ho hxs
    have a1 : ¬ n + m ≤ old := by omega
    have a2 : ¬ (9223372036854775807 < ((n : Int) + (m : Int))) := by omega
    have a3 : ¬ (281474976710656 < Builtin.nextslicecap (n + m) old * i.bytes) := by have := growslice_fits (old := old) (by omega) hbyt; omega
    have hf := hfc w.drew rfl
    have hf2 := hxs w.drew rfl
    rcases hd with ⟨e', rfl⟩ | rfl <;> simp [Builtin.append_, run_underlying ht, run_underlying hu, sizeOf, typeInfo, zeroValue, hi, hz, hlen, a1, a2, a3, Question.forced, hf, hf2, newRow, grownCap]
    all_goals
      congr 2
      apply Array.ext'
      simp only [Array.toList_append, List.append_assoc]
  have grown : ∀ (old : Nat), old < n + m → ∀ (row : Option Nat),
      (w.drew.alloc (.cells (xs.toArray ++ news.toArray ++ Builtin.zeroCells z.cells (grownCap w (n + m) old e - (n + m))) e)).ownsRow 0 e i.size
        (.slice (some ⟨w.heap.size, 0, none⟩) (n + m) (grownCap w (n + m) old e)) (n + m) (xs ++ news) := by
    intro old ho row
    have hge := grownCap_ge w (n + m) old e
    have hcm : grownCap w (n + m) old e ≤ maxLen := grownCap_le_maxLen w (n + m) old e (by unfold maxLen; omega)
    refine ⟨hlen', .inr ⟨w.heap.size, _, _, rfl, Nat.zero_le _, heap_new w.drew _, hge, hcm, ?_, ?_⟩⟩
    · rw [Array.size_append, size_zeroCells, hzs, Array.size_append, List.size_toArray, List.size_toArray, hown.1, hl, ← Nat.add_mul, ← Nat.add_mul]
      congr 1
      omega
    · rw [← hlen', Array.toList_append, Array.toList_append]
      exact List.take_left
  have keepG : ∀ (o : Obj) (row : Option Nat), w.grownBy (w.drew.alloc o) row := fun o row => ⟨rfl, rfl, rfl, by simp, fun k hk _ => heap_old (w := w.drew) hk⟩
  have keepC : ∀ (o : Obj) (b k : Nat), b < w.heap.size → (w.drew.alloc o).cell? ⟨b, k, none⟩ = w.cell? ⟨b, k, none⟩ := fun o b k hb => World.cell?_of_block (w := w) (heap_old (w := w.drew) hb)
  rcases hown.2 with ⟨rfl, rfl⟩ | ⟨g, cap, cur, rfl, hbg, hg, hnc, hcm, hcs, htake⟩
  · have hx : xs = [] := List.eq_nil_of_length_eq_zero (by simpa using hown.1)
    subst hx
    by_cases hm : m = 0
    · subst hm
      have hn : news = [] := List.eq_nil_of_length_eq_zero (by simpa using hl)
      subst hn
      refine ⟨.slice none 0 0, w, ?_, World.ownsRow_nil w 0 e i.size, ⟨rfl, rfl, rfl, Nat.le_refl _, fun _ _ _ => rfl⟩, .inl rfl, fun _ _ _ _ => rfl⟩
      have hf := hfc w rfl
      rcases hd with ⟨e', rfl⟩ | rfl <;> simp [Builtin.append_, run_underlying ht, run_underlying hu, sizeOf, typeInfo, hi, hlen, hf]
    · have hr := grow 0 none (by omega) (fun W _ => by simp [Builtin.firstCells])
      exact ⟨_, _, hr, grown 0 (by omega) none, keepG _ _, .inr rfl, fun b k hb _ => keepC _ b k hb⟩
  · by_cases hroom : n + m ≤ cap
    · have hfit : n * i.size + news.length ≤ cur.size := by rw [hl, hcs, ← Nat.add_mul]; exact Nat.mul_le_mul_right _ hroom
      have hst := run_storeCells_at P g (n * i.size) e news 0 cur w hg (by simpa using hfit) h1
      simp only [Nat.add_zero] at hst
      have hf := hfc w rfl
      have hr : (Builtin.append_ #[t, u] ty #[.slice (some ⟨g, 0, none⟩) n cap, x]).run P w =
          .ok (.slice (some ⟨g, 0, none⟩) (n + m) cap) (w.setRow g (cur.toList.take (n * i.size) ++ news ++ cur.toList.drop (n * i.size + news.length)).toArray) := by
        rcases hd with ⟨e', rfl⟩ | rfl <;> simp [Builtin.append_, run_underlying ht, run_underlying hu, sizeOf, typeInfo, hi, hlen, hroom, hf, Addr.add_lit, hst]
      have hrow := setRow_heap w g cur (cur.toList.take (n * i.size) ++ news ++ cur.toList.drop (n * i.size + news.length)).toArray e _ hg
      have hlt : g < w.heap.size := (Array.getElem?_eq_some_iff.1 hg).1
      refine ⟨_, _, hr, ⟨hlen', .inr ⟨g, cap, _, rfl, hbg, hrow, hroom, hcm, ?_, ?_⟩⟩, ⟨rfl, rfl, rfl, by simp, fun k _ hk => setRow_other w g k _ (fun e => hk (by simp [Value.ownBlock, e]))⟩, .inl rfl, fun b k hb hk => ?_⟩
      · simp only [List.size_toArray, List.length_append, List.length_take, List.length_drop, Array.length_toList]
        omega
      · rw [htake, ← hlen']
        exact List.take_left
      · by_cases hbg' : b = g
        · subst hbg'
          have hk' := hk rfl
          simp only [World.cell?, hrow, hg]
          have h2 : k < cur.size := by omega
          have h3 : k < (cur.toList.take (n * i.size)).length := by rw [List.length_take, Array.length_toList]; omega
          rw [List.append_assoc]
          simp only [Option.isSome_none, Bool.false_eq_true, if_false]
          rw [List.getElem?_toArray, List.getElem?_append_left h3, List.getElem?_take, if_pos hk', Array.getElem?_toList]
        · exact World.cell?_of_block (w := w) (setRow_other w g b _ hbg')
    · have hr := grow cap (some ⟨g, 0, none⟩) (by omega) (fun W hW => by
        have : ∀ j u, xs[j]? = some u → W.cell? ((⟨g, 0, none⟩ : Addr).add j) = some u := fun j u hj => by
          rw [show W.cell? ((⟨g, 0, none⟩ : Addr).add j) = w.cell? ((⟨g, 0, none⟩ : Addr).add j) from by simp only [World.cell?, hW]]
          exact hown.cells (g := g) rfl j u hj
        have h2 := run_loadCells_list (P := P) W (⟨g, 0, none⟩ : Addr) xs this
        rw [hown.1] at h2
        simpa [Builtin.firstCells] using h2)
      exact ⟨_, _, hr, grown cap (by omega) none, keepG _ _, .inr rfl, fun b k hb _ => keepC _ b k hb⟩
end
section
variable {w w' : World} {g : Gh} {ob : List Ob}
def Gh.grow (g : Gh) (id : Nat) (vb : Option Nat) : Gh := ⟨g.A, fun b => if vb = some b then some id else if g.G b = some id ∧ g.sub b = false then none else g.G b, g.loc, g.sub⟩
theorem Gh.grow_self {id : Nat} {vb : Option Nat} {b : Nat} (h : vb = some b) : (g.grow id vb).G b = some id := by
  show (if vb = some b then some id else _) = _
  rw [if_pos h]
theorem Gh.grow_of {id : Nat} {vb : Option Nat} {b i : Nat} (h : (g.grow id vb).G b = some i) : (vb = some b ∧ i = id) ∨ (g.G b = some i ∧ (i = id → g.sub b = true)) := by
  have h : (if vb = some b then some id else if g.G b = some id ∧ g.sub b = false then none else g.G b) = some i := h
  split at h
  · rename_i e; exact .inl ⟨e, (Option.some.inj h).symm⟩
  · split at h
    · cases h
    · rename_i h2
      refine .inr ⟨h, fun e => ?_⟩
      cases hs : g.sub b with
      | true => rfl
      | false => exact absurd ⟨e ▸ h, hs⟩ h2
theorem Mem.grow_sub (M : Mem w g ob) {id : Nat} {row vb : Option Nat} (hrow : ∀ b, row = some b → g.G b = some id ∧ g.sub b = false) (hvb : ∀ b, vb = some b → row = some b ∨ (w.heap.size ≤ b ∧ b < w'.heap.size))
    {b i : Nat} (h : g.G b = some i) (hs : g.sub b = true) : (g.grow id vb).G b = some i := by
  have h1 : vb ≠ some b := fun e => by
    rcases hvb b e with h2 | h2
    · rw [(hrow b h2).2] at hs; cases hs
    · have := (M.own b i h).1; omega
  show (if vb = some b then some id else if g.G b = some id ∧ g.sub b = false then none else g.G b) = _
  rw [if_neg h1, if_neg (fun h2 => by rw [h2.2] at hs; cases hs)]
  exact h
theorem Mem.grow_ne (M : Mem w g ob) {id : Nat} {row vb : Option Nat} (hrow : ∀ b, row = some b → g.G b = some id ∧ g.sub b = false) (hvb : ∀ b, vb = some b → row = some b ∨ (w.heap.size ≤ b ∧ b < w'.heap.size))
    {b i : Nat} (h : g.G b = some i) (hi : i ≠ id) : (g.grow id vb).G b = some i := by
  have h1 : vb ≠ some b := fun e => by
    rcases hvb b e with h2 | h2
    · have := (hrow b h2).1.symm.trans h
      exact hi (Option.some.inj this).symm
    · have := (M.own b i h).1; omega
  show (if vb = some b then some id else if g.G b = some id ∧ g.sub b = false then none else g.G b) = _
  rw [if_neg h1, if_neg (fun h2 => hi (Option.some.inj (h.symm.trans h2.1)))]
  exact h
theorem Mem.grow (M : Mem w g ob) {id et sz ep : Nat} {fz fz' : Bool} {xs xs' : List AV} (h : ob[id]? = some (.row et sz fz ep xs)) (hfz : fz = true → fz' = true)
    {row vb : Option Nat} {n : Nat} (hg : w.grownBy w' row) (hrow : ∀ b, row = some b → g.G b = some id ∧ g.sub b = false) (hvb : ∀ b, vb = some b → row = some b ∨ (w.heap.size ≤ b ∧ b < w'.heap.size))
    (hc : ∀ b k, b < w.heap.size → (row = some b → k < n * sz) → w'.cell? ⟨b, k, none⟩ = w.cell? ⟨b, k, none⟩)
    (hn : fz = true → xs.length ≤ n) (hlen : fz = true → xs.length ≤ xs'.length) (hw : ∀ x ∈ xs', x.cells.length = sz) :
    Ext w g ob w' (g.grow id vb) (ob.set id (.row et sz fz' (ep + 1) xs')) ∧ Mem w' (g.grow id vb) (ob.set id (.row et sz fz' (ep + 1) xs')) := by
  have hid := lt_of_some h
  have hne : ∀ {b i : Nat}, g.G b = some i → i ≠ id → (g.grow id vb).G b = some i := fun h1 h2 => M.grow_ne hrow hvb h1 h2
  have hlt2 : ∀ b, vb = some b → b < w'.heap.size := fun b hb => by
    rcases hvb b hb with h1 | h1
    · exact Nat.lt_of_lt_of_le (M.own b id (hrow b h1).1).1 hg.size
    · exact h1.2
  have ne : ∀ {b i : Nat}, g.G b = some i → i ≠ id → some b ≠ row := by
    rintro b i h1 h2 h3
    rw [(hrow b h3.symm).1] at h1
    exact h2 (by simpa using h1.symm)
  have hA : ∀ b o, g.A b o → w'.cell? ⟨b, o, none⟩ = w.cell? ⟨b, o, none⟩ := fun b o hA => by
    obtain ⟨h1, h2⟩ := M.imm b o hA
    refine hc b o h1 fun hb => ?_
    obtain ⟨et', sz', e', xs2, h3, h4⟩ := h2 id (hrow b hb).1 (hrow b hb).2
    rw [h] at h3
    obtain ⟨rfl, rfl, rfl, rfl, rfl⟩ : et = et' ∧ sz = sz' ∧ fz = true ∧ ep = e' ∧ xs = xs2 := by simpa using h3
    exact Nat.lt_of_lt_of_le h4 (Nat.mul_le_mul_right _ (hn rfl))
  have E : Ext w g ob w' (g.grow id vb) (ob.set id (.row et sz fz' (ep + 1) xs')) := by
    refine ⟨fun b o h => ⟨h, hA b o h⟩, fun _ _ => rfl, fun i hi => ?_, fun i hi => ?_, fun i et' sz' fz2 e xs2 hi => ?_, fun _ _ _ _ => ⟨rfl, fun _ _ h => h⟩⟩
    · have : i ≠ id := by rintro rfl; rw [h] at hi; exact hi
      rw [List.getElem?_set_ne (Ne.symm this)]; exact hi
    · have : i ≠ id := by rintro rfl; rw [h] at hi; exact hi
      rw [List.getElem?_set_ne (Ne.symm this)]; exact hi
    · by_cases e' : i = id
      · subst e'
        rw [h] at hi
        obtain ⟨rfl, rfl, rfl, rfl, rfl⟩ : et = et' ∧ sz = sz' ∧ fz = fz2 ∧ ep = e ∧ xs = xs2 := by simpa using hi
        exact ⟨fz', ep + 1, xs', List.getElem?_set_self hid, by omega, fun h => by omega⟩
      · refine ⟨fz2, e, xs2, by rw [List.getElem?_set_ne (Ne.symm e')]; exact hi, Nat.le_refl _, fun _ => .inl ⟨rfl, fun b hG => ?_⟩⟩
        have hlt := (M.own _ _ hG).1
        exact ⟨hne hG e', hg.block b hlt (ne hG e')⟩
  refine ⟨E, fun i cs hi => ?_, fun i cs hi j u hj => ?_, fun i y hi => ?_, fun b i hG => ?_, fun b o hA' => ?_, fun i et' sz' fz2 e xs2 hi => ?_, fun b hs => ?_, fun b b' i h1 h2 hs hs' => ?_⟩
  · have e' : i ≠ id := by rintro rfl; rw [List.getElem?_set_self hid] at hi; cases hi
    rw [List.getElem?_set_ne (Ne.symm e')] at hi
    obtain ⟨h1, cur, T, h2, h3⟩ := M.box i cs hi
    have hlt := (M.own _ _ h1).1
    exact ⟨hne h1 e', cur, T, (hg.block _ hlt (ne h1 e')).trans h2, h3.ext E⟩
  · have e' : i ≠ id := by rintro rfl; rw [List.getElem?_set_self hid] at hi; cases hi
    rw [List.getElem?_set_ne (Ne.symm e')] at hi
    obtain ⟨h1, y, h2, h3⟩ := M.fbox i cs hi j u hj
    exact ⟨h1, y, (hA _ _ h1).trans h2, h3.keep E.A⟩
  · have e' : i ≠ id := by rintro rfl; rw [List.getElem?_set_self hid] at hi; cases hi
    rw [List.getElem?_set_ne (Ne.symm e')] at hi
    obtain ⟨h1, h2⟩ := M.iter i y hi
    have hlt := (M.own _ _ h1).1
    exact ⟨hne h1 e', h2.at (fun b o h => ⟨h, hA b o h⟩) (hg.block _ hlt (ne h1 e'))⟩
  · rw [List.length_set]
    rcases Gh.grow_of hG with ⟨h1, rfl⟩ | ⟨h1, _⟩
    · exact ⟨hlt2 b h1, hid⟩
    · exact ⟨Nat.lt_of_lt_of_le (M.own b i h1).1 hg.size, (M.own b i h1).2⟩
  · obtain ⟨h1, h2⟩ := M.imm b o hA'
    refine ⟨Nat.lt_of_lt_of_le h1 hg.size, fun i hG hs => ?_⟩
    have hG : g.G b = some i := by
      rcases Gh.grow_of hG with ⟨h3, rfl⟩ | ⟨h3, _⟩
      · rcases hvb b h3 with h4 | h4
        · exact (hrow b h4).1
        · omega
      · exact h3
    obtain ⟨et', sz', e, xs2, h3, h4⟩ := h2 i hG hs
    by_cases e' : i = id
    · subst e'
      rw [h] at h3
      obtain ⟨rfl, rfl, rfl, rfl, rfl⟩ : et = et' ∧ sz = sz' ∧ fz = true ∧ ep = e ∧ xs = xs2 := by simpa using h3
      exact ⟨et, sz, ep + 1, xs', by rw [List.getElem?_set_self hid, hfz rfl], Nat.lt_of_lt_of_le h4 (Nat.mul_le_mul_right _ (hlen rfl))⟩
    · exact ⟨et', sz', e, xs2, by rw [List.getElem?_set_ne (Ne.symm e')]; exact h3, h4⟩
  · by_cases e' : i = id
    · subst e'
      rw [List.getElem?_set_self hid] at hi
      obtain ⟨rfl, rfl, rfl, rfl, rfl⟩ : et = et' ∧ sz = sz' ∧ fz' = fz2 ∧ ep + 1 = e ∧ xs' = xs2 := by simpa using hi
      exact ⟨(M.roww _ _ _ _ _ _ h).1, hw⟩
    · rw [List.getElem?_set_ne (Ne.symm e')] at hi; exact M.roww i et' sz' fz2 e xs2 hi
  · obtain ⟨i, et', sz', fz2, e, xs2, h3, h4⟩ := M.nsub b hs
    have h5 : (g.grow id vb).G b = some i := M.grow_sub hrow hvb h3 hs
    by_cases e' : i = id
    · subst e'
      exact ⟨i, _, _, _, _, _, h5, List.getElem?_set_self hid⟩
    · exact ⟨i, et', sz', fz2, e, xs2, h5, by rw [List.getElem?_set_ne (Ne.symm e')]; exact h4⟩
  · rcases Gh.grow_of h1 with ⟨h3, rfl⟩ | ⟨h3, h4⟩
    · rcases Gh.grow_of h2 with ⟨h5, _⟩ | ⟨h5, h6⟩
      · exact Option.some.inj (h3.symm.trans h5)
      · have := h6 rfl
        rw [show g.sub b' = false from hs'] at this; cases this
    · rcases Gh.grow_of h2 with ⟨h5, rfl⟩ | ⟨h5, h6⟩
      · have := h4 rfl
        rw [show g.sub b = false from hs] at this; cases this
      · exact M.uniq b b' i h3 h5 hs hs'
end
end Go.Proofs.YtaklahcbeldbhaaGreatDoor
namespace Go.Proofs.YtaklahcbeldbhaaGreatDoor
open Go.RowKit Go.Lib
section
variable {w : World} {g : Gh} {ob : List Ob}
structure GhLe (g g' : Gh) (ob ob' : List Ob) : Prop where
  A : ∀ b o, g'.A b o → g.A b o ∨ ∃ id, g.G b = some id
  G : ∀ b id, g'.G b = some id → g.G b = some id
  loc : g'.loc = g.loc
  len : ob'.length = ob.length
theorem GhLe.refl : GhLe g g ob ob := ⟨fun _ _ h => .inl h, fun _ _ h => h, rfl, rfl⟩
theorem GhLe.trans {g1 g2 g3 : Gh} {o1 o2 o3 : List Ob} (h : GhLe g1 g2 o1 o2) (k : GhLe g2 g3 o2 o3) : GhLe g1 g3 o1 o3 :=
  ⟨fun b o h3 => by
    rcases k.A b o h3 with h2 | ⟨id, h2⟩
    · exact h.A b o h2
    · exact .inr ⟨id, h.G b id h2⟩, fun b id h3 => h.G b id (k.G b id h3), k.loc.trans h.loc, k.len.trans h.len⟩
theorem Ext.trans {w1 w2 w3 : World} {g1 g2 g3 : Gh} {o1 o2 o3 : List Ob} (h : Ext w1 g1 o1 w2 g2 o2) (k : Ext w2 g2 o2 w3 g3 o3) (hl : o1.length ≤ o2.length) : Ext w1 g1 o1 w3 g3 o3 := by
  refine ⟨fun b o hA => ⟨(k.A b o (h.A b o hA).1).1, (k.A b o (h.A b o hA).1).2.trans (h.A b o hA).2⟩, fun id hid => (k.loc id (by omega)).trans (h.loc id hid), fun id hi => k.isb id (h.isb id hi), fun id hi => k.isi id (h.isi id hi), fun id et sz fz e xs hr => ?_, fun b id hG hs => ?_⟩
  rotate_left
  · obtain ⟨et, sz, fz, fz', e, xs, xs', hr, hr'⟩ := hs
    obtain ⟨fz2, e2, xs2, h1, h2, h3⟩ := h.row id et sz fz e xs hr
    obtain ⟨fz3, e3, xs3, h4, h5, h6⟩ := k.row id et sz fz2 e2 xs2 h1
    rw [h4] at hr'
    obtain ⟨rfl, rfl, rfl⟩ : fz3 = fz' ∧ e3 = e ∧ xs3 = xs' := by simpa using hr'
    obtain rfl : e2 = e3 := by omega
    obtain ⟨h7, h8⟩ := h.sub b id hG ⟨_, _, _, _, _, _, _, hr, h1⟩
    obtain ⟨h9, h10⟩ := k.sub b id ((h3 rfl).G hG) ⟨_, _, _, _, _, _, _, h1, h4⟩
    exact ⟨h9.trans h7, fun hsb o hA => h8 hsb o (h10 (h7.trans hsb) o hA)⟩
  obtain ⟨fz2, e2, xs2, h1, h2, h3⟩ := h.row id et sz fz e xs hr
  obtain ⟨fz3, e3, xs3, h4, h5, h6⟩ := k.row id et sz fz2 e2 xs2 h1
  refine ⟨fz3, e3, xs3, h4, by omega, fun he => ?_⟩
  obtain rfl : e2 = e := by omega
  exact (h3 rfl).trans (h6 (by omega)) k.A fun b hG => (h.sub b id hG ⟨_, _, _, _, _, _, _, hr, h1⟩).1
def Gh.frz (g : Gh) (b n : Nat) : Gh := ⟨fun b' o => g.A b' o ∨ (b' = b ∧ o < n), g.G, g.loc, g.sub⟩
theorem freeze_row (M : Mem w g ob) {id et sz ep : Nat} {fz : Bool} {xs : List AV} (h : ob[id]? = some (.row et sz fz ep xs)) {v : Value} {ys : List AV} (hv : RowV w g id et sz v ys) (hl : ys.length ≤ xs.length) :
    ∃ g', Mem w g' (ob.set id (.row et sz true ep xs)) ∧ Ext w g ob w g' (ob.set id (.row et sz true ep xs)) ∧ PRel w g'.A v (.slc sz ys) ∧ GhLe g g' ob (ob.set id (.row et sz true ep xs)) := by
  have hid := lt_of_some h
  -- whatever the cells that are frozen: those of one block of this row
  have key : ∀ (b n : Nat), g.G b = some id → g.sub b = false → b < w.heap.size → n ≤ xs.length * sz →
      Mem w (g.frz b n) (ob.set id (.row et sz true ep xs)) ∧ Ext w g ob w (g.frz b n) (ob.set id (.row et sz true ep xs)) ∧ GhLe g (g.frz b n) ob (ob.set id (.row et sz true ep xs)) := by
    intro b n hG hsb hb hn
    have E : Ext w g ob w (g.frz b n) (ob.set id (.row et sz true ep xs)) := by
      refine ⟨fun b o h => ⟨.inl h, rfl⟩, fun _ _ => rfl, fun i hi => ?_, fun i hi => ?_, fun i et' sz' fz2 e xs2 hi => ?_, fun b' _ _ _ => ⟨rfl, fun h1 _ h2 => h2.resolve_right fun h3 => by rw [h3.1, hsb] at h1; cases h1⟩⟩
      · have : i ≠ id := by rintro rfl; rw [h] at hi; exact hi
        rw [List.getElem?_set_ne (Ne.symm this)]; exact hi
      · have : i ≠ id := by rintro rfl; rw [h] at hi; exact hi
        rw [List.getElem?_set_ne (Ne.symm this)]; exact hi
      · by_cases e' : i = id
        · subst e'
          rw [h] at hi
          obtain ⟨rfl, rfl, rfl, rfl, rfl⟩ : et = et' ∧ sz = sz' ∧ fz = fz2 ∧ ep = e ∧ xs = xs2 := by simpa using hi
          exact ⟨true, ep, xs, List.getElem?_set_self hid, Nat.le_refl _, fun _ => .inl ⟨rfl, fun b hG => ⟨hG, rfl⟩⟩⟩
        · exact ⟨fz2, e, xs2, by rw [List.getElem?_set_ne (Ne.symm e')]; exact hi, Nat.le_refl _, fun _ => .inl ⟨rfl, fun b hG => ⟨hG, rfl⟩⟩⟩
    refine ⟨⟨fun i cs hi => ?_, fun i cs hi j u hj => ?_, fun i y hi => ?_, fun b i hG => ⟨(M.own b i hG).1, by rw [List.length_set]; exact (M.own b i hG).2⟩, fun b' o hA => ?_, fun i et' sz' fz2 e xs2 hi => ?_, fun b' hs => ?_, M.uniq⟩, E,
      ⟨fun b' o hA => hA.imp_right fun ⟨h1, _⟩ => ⟨id, h1 ▸ hG⟩, fun _ _ h => h, rfl, by simp⟩⟩
    · have e' : i ≠ id := by rintro rfl; rw [List.getElem?_set_self hid] at hi; cases hi
      rw [List.getElem?_set_ne (Ne.symm e')] at hi
      obtain ⟨h1, cur, T, h2, h3⟩ := M.box i cs hi
      exact ⟨h1, cur, T, h2, h3.ext E⟩
    · have e' : i ≠ id := by rintro rfl; rw [List.getElem?_set_self hid] at hi; cases hi
      rw [List.getElem?_set_ne (Ne.symm e')] at hi
      obtain ⟨h1, y, h2, h3⟩ := M.fbox i cs hi j u hj
      exact ⟨.inl h1, y, h2, h3.keep E.A⟩
    · have e' : i ≠ id := by rintro rfl; rw [List.getElem?_set_self hid] at hi; cases hi
      rw [List.getElem?_set_ne (Ne.symm e')] at hi
      exact ⟨(M.iter i y hi).1, (M.iter i y hi).2.at (fun b o h => ⟨.inl h, rfl⟩) rfl⟩
    · rcases hA with hA | ⟨rfl, ho⟩
      · obtain ⟨h1, h2⟩ := M.imm b' o hA
        refine ⟨h1, fun i hGi hs => ?_⟩
        obtain ⟨et', sz', e, xs2, h3, h4⟩ := h2 i hGi hs
        by_cases e' : i = id
        · subst e'
          rw [h] at h3
          obtain ⟨rfl, rfl, rfl, rfl, rfl⟩ : et = et' ∧ sz = sz' ∧ fz = true ∧ ep = e ∧ xs = xs2 := by simpa using h3
          exact ⟨et, sz, ep, xs, List.getElem?_set_self hid, h4⟩
        · exact ⟨et', sz', e, xs2, by rw [List.getElem?_set_ne (Ne.symm e')]; exact h3, h4⟩
      · refine ⟨hb, fun i hGi _ => ?_⟩
        have hGi : g.G b' = some i := hGi
        rw [hG] at hGi
        obtain rfl : id = i := by simpa using hGi
        exact ⟨et, sz, ep, xs, List.getElem?_set_self hid, by omega⟩
    · by_cases e' : i = id
      · subst e'
        rw [List.getElem?_set_self hid] at hi
        obtain ⟨rfl, rfl, rfl, rfl, rfl⟩ : et = et' ∧ sz = sz' ∧ true = fz2 ∧ ep = e ∧ xs = xs2 := by simpa using hi
        exact M.roww _ _ _ _ _ _ h
      · rw [List.getElem?_set_ne (Ne.symm e')] at hi; exact M.roww i et' sz' fz2 e xs2 hi
    · obtain ⟨i, et', sz', fz2, e, xs2, h3, h4⟩ := M.nsub b' hs
      by_cases e' : i = id
      · subst e'
        exact ⟨i, _, _, _, _, _, h3, List.getElem?_set_self hid⟩
      · exact ⟨i, et', sz', fz2, e, xs2, h3, by rw [List.getElem?_set_ne (Ne.symm e')]; exact h4⟩
  obtain ⟨zs, ho, hG, hal, hw, hsub⟩ := hv
  rcases ho.2 with ⟨rfl, h0⟩ | ⟨b, cap, cur, rfl, h3, h4, h5, h6, h7, h8⟩
  · have hys : ys = [] := List.eq_nil_of_length_eq_zero h0
    subst hys
    -- nothing is frozen: some block, no cell
    have E : Mem w g (ob.set id (.row et sz true ep xs)) ∧ Ext w g ob w g (ob.set id (.row et sz true ep xs)) ∧ GhLe g g ob (ob.set id (.row et sz true ep xs)) := by
      have E : Ext w g ob w g (ob.set id (.row et sz true ep xs)) := by
        refine ⟨fun b o h => ⟨h, rfl⟩, fun _ _ => rfl, fun i hi => ?_, fun i hi => ?_, fun i et' sz' fz2 e xs2 hi => ?_, fun _ _ _ _ => ⟨rfl, fun _ _ h => h⟩⟩
        · have : i ≠ id := by rintro rfl; rw [h] at hi; exact hi
          rw [List.getElem?_set_ne (Ne.symm this)]; exact hi
        · have : i ≠ id := by rintro rfl; rw [h] at hi; exact hi
          rw [List.getElem?_set_ne (Ne.symm this)]; exact hi
        · by_cases e' : i = id
          · subst e'
            rw [h] at hi
            obtain ⟨rfl, rfl, rfl, rfl, rfl⟩ : et = et' ∧ sz = sz' ∧ fz = fz2 ∧ ep = e ∧ xs = xs2 := by simpa using hi
            exact ⟨true, ep, xs, List.getElem?_set_self hid, Nat.le_refl _, fun _ => .inl ⟨rfl, fun b hG => ⟨hG, rfl⟩⟩⟩
          · exact ⟨fz2, e, xs2, by rw [List.getElem?_set_ne (Ne.symm e')]; exact hi, Nat.le_refl _, fun _ => .inl ⟨rfl, fun b hG => ⟨hG, rfl⟩⟩⟩
      refine ⟨⟨fun i cs hi => ?_, fun i cs hi j u hj => ?_, fun i y hi => ?_, fun b i hG => ⟨(M.own b i hG).1, by rw [List.length_set]; exact (M.own b i hG).2⟩, fun b' o hA => ?_, fun i et' sz' fz2 e xs2 hi => ?_, fun b' hs => ?_, M.uniq⟩, E, ⟨fun _ _ h => .inl h, fun _ _ h => h, rfl, by simp⟩⟩
      · have e' : i ≠ id := by rintro rfl; rw [List.getElem?_set_self hid] at hi; cases hi
        rw [List.getElem?_set_ne (Ne.symm e')] at hi
        obtain ⟨h1, cur, T, h2, h3⟩ := M.box i cs hi
        exact ⟨h1, cur, T, h2, h3.ext E⟩
      · have e' : i ≠ id := by rintro rfl; rw [List.getElem?_set_self hid] at hi; cases hi
        rw [List.getElem?_set_ne (Ne.symm e')] at hi
        exact M.fbox i cs hi j u hj
      · have e' : i ≠ id := by rintro rfl; rw [List.getElem?_set_self hid] at hi; cases hi
        rw [List.getElem?_set_ne (Ne.symm e')] at hi
        exact M.iter i y hi
      · obtain ⟨h1, h2⟩ := M.imm b' o hA
        refine ⟨h1, fun i hGi hs => ?_⟩
        obtain ⟨et', sz', e, xs2, h3, h4⟩ := h2 i hGi hs
        by_cases e' : i = id
        · subst e'
          rw [h] at h3
          obtain ⟨rfl, rfl, rfl, rfl, rfl⟩ : et = et' ∧ sz = sz' ∧ fz = true ∧ ep = e ∧ xs = xs2 := by simpa using h3
          exact ⟨et, sz, ep, xs, List.getElem?_set_self hid, h4⟩
        · exact ⟨et', sz', e, xs2, by rw [List.getElem?_set_ne (Ne.symm e')]; exact h3, h4⟩
      · by_cases e' : i = id
        · subst e'
          rw [List.getElem?_set_self hid] at hi
          obtain ⟨rfl, rfl, rfl, rfl, rfl⟩ : et = et' ∧ sz = sz' ∧ true = fz2 ∧ ep = e ∧ xs = xs2 := by simpa using hi
          exact M.roww _ _ _ _ _ _ h
        · rw [List.getElem?_set_ne (Ne.symm e')] at hi; exact M.roww i et' sz' fz2 e xs2 hi
      · obtain ⟨i, et', sz', fz2, e, xs2, h3, h4⟩ := M.nsub b' hs
        by_cases e' : i = id
        · subst e'
          exact ⟨i, _, _, _, _, _, h3, List.getElem?_set_self hid⟩
        · exact ⟨i, et', sz', fz2, e, xs2, h3, by rw [List.getElem?_set_ne (Ne.symm e')]; exact h4⟩
    exact ⟨g, E.1, E.2.1, PRel.nil _, E.2.2⟩
  · have hb : b < w.heap.size := (Array.getElem?_eq_some_iff.1 h4).1
    have hGb := hG b rfl
    obtain ⟨M', E', L'⟩ := key b (ys.length * sz) hGb (hsub.1 b rfl) hb (Nat.mul_le_mul_right _ hl)
    refine ⟨_, M', E', ?_, L'⟩
    have hal' := hal.keep E'.A
    have hfl := flat_len ys hw
    have hzl : zs.length = ys.length * sz := by rw [hal.1, hfl]
    refine PRel.slc b 0 cap sz ys (fun j => zs.getD j undef) h5 h6 hw (fun j u hu => ?_) (fun j u hu => ?_)
    · have hj := lt_of_some hu
      rw [hfl] at hj
      refine ⟨.inr ⟨rfl, by omega⟩, ?_⟩
      have := ho.cells (g := b) rfl j zs[j] (List.getElem?_eq_getElem (by omega))
      rw [Addr.add_mid, Nat.zero_add] at this
      rw [Nat.zero_add, this, List.getD_eq_getElem?_getD, List.getElem?_eq_getElem (by omega)]; rfl
    · have hj := lt_of_some hu
      rw [hfl] at hj
      have h9 : zs[j]? = some (zs.getD j undef) := by rw [List.getD_eq_getElem?_getD, List.getElem?_eq_getElem (by omega)]; rfl
      exact hal'.2 j _ u h9 hu
end
end Go.Proofs.YtaklahcbeldbhaaGreatDoor
namespace Go.Proofs.YtaklahcbeldbhaaGreatDoor
open Go.RowKit Go.Lib
section
variable {w : World} {g : Gh} {ob : List Ob}
def Gh.frzBox (g : Gh) (b n : Nat) : Gh := ⟨fun b' o => g.A b' o ∨ (b' = b ∧ o < n), fun b' => if b' = b then none else g.G b', g.loc, g.sub⟩
theorem freeze_box (M : Mem w g ob) {id : Nat} {cs us : List AV} (h : ob[id]? = some (.box cs)) (hu : ∀ (j : Nat) u, us[j]? = some u → ∃ y, w.cell? ⟨g.loc id, j, none⟩ = some y ∧ PRel w g.A y u) :
    ∃ g', Mem w g' (ob.set id (.fbox us)) ∧ Ext w g ob w g' (ob.set id (.fbox us)) ∧ GhLe g g' ob (ob.set id (.fbox us)) ∧
      ∀ (j : Nat) u, us[j]? = some u → g'.A (g.loc id) j ∧ ∃ y, w.cell? ⟨g.loc id, j, none⟩ = some y ∧ PRel w g'.A y u := by
  have hid := lt_of_some h
  obtain ⟨hG, cur, T, hh, hc⟩ := M.box id cs h
  have hb := (M.own _ _ hG).1
  have ne : ∀ {b i : Nat}, g.G b = some i → i ≠ id → b ≠ g.loc id := by
    rintro b i h1 h2 rfl
    rw [hG] at h1
    exact h2 (by simpa using h1.symm)
  have G' : ∀ {b i : Nat}, g.G b = some i → i ≠ id → (g.frzBox (g.loc id) us.length).G b = some i := fun h1 h2 => by simp only [Gh.frzBox]; rw [if_neg (ne h1 h2)]; exact h1
  have Gof : ∀ {b i : Nat}, (g.frzBox (g.loc id) us.length).G b = some i → g.G b = some i := fun {b i} h1 => by
    have h1 : (if b = g.loc id then none else g.G b) = some i := h1
    split at h1
    · cases h1
    · exact h1
  have E : Ext w g ob w (g.frzBox (g.loc id) us.length) (ob.set id (.fbox us)) := by
    refine ⟨fun b o h => ⟨.inl h, rfl⟩, fun _ _ => rfl, fun i hi => ?_, fun i hi => ?_, fun i et sz fz e xs hi => ?_, fun b i hGb hs => ⟨rfl, fun _ o h1 => h1.resolve_right fun h2 => ?_⟩⟩
    rotate_right
    · obtain ⟨et, sz, fz, fz', e, xs, xs', h3, _⟩ := hs
      rw [h2.1, hG] at hGb
      obtain rfl : id = i := by simpa using hGb
      rw [h] at h3; cases h3
    · by_cases e : i = id
      · subst e; rw [List.getElem?_set_self hid]; trivial
      · rw [List.getElem?_set_ne (Ne.symm e)]; exact hi
    · have : i ≠ id := by rintro rfl; rw [h] at hi; exact hi
      rw [List.getElem?_set_ne (Ne.symm this)]; exact hi
    · have : i ≠ id := by rintro rfl; rw [h] at hi; cases hi
      exact ⟨fz, e, xs, by rw [List.getElem?_set_ne (Ne.symm this)]; exact hi, Nat.le_refl _, fun _ => .inl ⟨rfl, fun b hGb => ⟨G' hGb this, rfl⟩⟩⟩
  have new : ∀ (j : Nat) u, us[j]? = some u → (g.frzBox (g.loc id) us.length).A (g.loc id) j ∧ ∃ y, w.cell? ⟨g.loc id, j, none⟩ = some y ∧ PRel w (g.frzBox (g.loc id) us.length).A y u := fun j u hj => by
    obtain ⟨y, h1, h2⟩ := hu j u hj
    exact ⟨.inr ⟨rfl, lt_of_some hj⟩, y, h1, h2.keep E.A⟩
  refine ⟨_, ⟨fun i c hi => ?_, fun i c hi j u hj => ?_, fun i y hi => ?_, fun b i hGb => ?_, fun b o hA => ?_, fun i et sz fz e xs hi => ?_, fun b hs => ?_, fun b b' i h1 h2 hs hs' => ?_⟩, E, ⟨fun b o hA => ?_, fun b i hGb => ?_, rfl, by simp⟩, new⟩
  · have e' : i ≠ id := by rintro rfl; rw [List.getElem?_set_self hid] at hi; cases hi
    rw [List.getElem?_set_ne (Ne.symm e')] at hi
    obtain ⟨h1, cur', T', h2, h3⟩ := M.box i c hi
    exact ⟨G' h1 e', cur', T', h2, h3.ext E⟩
  · by_cases e' : i = id
    · subst e'
      rw [List.getElem?_set_self hid] at hi
      obtain rfl : us = c := by simpa using hi
      exact new j u hj
    · rw [List.getElem?_set_ne (Ne.symm e')] at hi
      obtain ⟨h1, y, h2, h3⟩ := M.fbox i c hi j u hj
      exact ⟨.inl h1, y, h2, h3.keep E.A⟩
  · have e' : i ≠ id := by rintro rfl; rw [List.getElem?_set_self hid] at hi; cases hi
    rw [List.getElem?_set_ne (Ne.symm e')] at hi
    obtain ⟨h1, h2⟩ := M.iter i y hi
    exact ⟨G' h1 e', h2.at (fun b o h => ⟨.inl h, rfl⟩) rfl⟩
  · simp only [Gh.frzBox] at hGb
    split at hGb
    · cases hGb
    · rw [List.length_set]; exact M.own b i hGb
  · rcases hA with hA | ⟨rfl, ho⟩
    · obtain ⟨h1, h2⟩ := M.imm b o hA
      refine ⟨h1, fun i hGi hs => ?_⟩
      have hne := box_apart M h hA
      simp only [Gh.frzBox] at hGi
      rw [if_neg hne] at hGi
      obtain ⟨et, sz, e, xs, h3, h4⟩ := h2 i hGi hs
      have e' : i ≠ id := by rintro rfl; rw [h] at h3; cases h3
      exact ⟨et, sz, e, xs, by rw [List.getElem?_set_ne (Ne.symm e')]; exact h3, h4⟩
    · refine ⟨hb, fun i hGi _ => ?_⟩
      simp only [Gh.frzBox, if_true] at hGi
      cases hGi
  · have e' : i ≠ id := by rintro rfl; rw [List.getElem?_set_self hid] at hi; cases hi
    rw [List.getElem?_set_ne (Ne.symm e')] at hi
    exact M.roww i et sz fz e xs hi
  · obtain ⟨i, et, sz, fz, e, xs, h3, h4⟩ := M.nsub b hs
    have e' : i ≠ id := by rintro rfl; rw [h] at h4; cases h4
    exact ⟨i, et, sz, fz, e, xs, G' h3 e', by rw [List.getElem?_set_ne (Ne.symm e')]; exact h4⟩
  · exact M.uniq b b' i (Gof h1) (Gof h2) hs hs'
  · rcases hA with hA | ⟨rfl, _⟩
    · exact .inl hA
    · exact .inr ⟨id, hG⟩
  · simp only [Gh.frzBox] at hGb
    split at hGb
    · cases hGb
    · exact hGb
def FrzOk (keep : Bool) (n : Nat) : Prop := ∀ (w : World) (g : Gh) (ob : List Ob) (v : Value) (x y : AV) (ob' : List Ob), Mem w g ob → ARel0 w g ob v x → v.oneCell' = true → frz std keep n ob x = some (y, ob') →
  ∃ g', Mem w g' ob' ∧ Ext w g ob w g' ob' ∧ ARel0 w g' ob' v y ∧ GhLe g g' ob ob' ∧ (keep = false → PRel w g'.A v y)
theorem each_sound {keep : Bool} {n : Nat} (hn : FrzOk keep n) : ∀ (cs : List AV) (vs : List Value) (w : World) (g : Gh) (ob : List Ob) (us : List AV) (ob' : List Ob), Mem w g ob → ARelC w g ob vs cs → eachM (frz std keep n) ob cs = some (us, ob') →
    ∃ g', Mem w g' ob' ∧ Ext w g ob w g' ob' ∧ ARelC w g' ob' vs us ∧ GhLe g g' ob ob' ∧ (keep = false → ∀ (j : Nat) y u, vs[j]? = some y → us[j]? = some u → PRel w g'.A y u)
  | [], vs, w, g, ob, us, ob', M, h, he => by
    obtain ⟨rfl, rfl⟩ : [] = us ∧ ob = ob' := by simpa [eachM] using he
    have hvs : vs = [] := List.eq_nil_of_length_eq_zero h.1
    subst hvs
    exact ⟨g, M, Ext.refl, h, GhLe.refl, fun _ j y u h => by simp at h⟩
  | x :: xs, vs, w, g, ob, us, ob', M, h, he => by
    cases vs with
    | nil => exact absurd h.1 (by simp)
    | cons v vs =>
      simp only [eachM] at he
      split at he
      · rename_i y ob1 h1
        split at he
        · rename_i ys ob2 h2
          obtain ⟨rfl, rfl⟩ : y :: ys = us ∧ ob2 = ob' := by simpa using he
          have hv := h.2 0 v x rfl rfl
          obtain ⟨g1, M1, E1, R1, L1, P1⟩ := hn w g ob v x y ob1 M hv.1 hv.2 h1
          have hr : ARelC w g1 ob1 vs xs := ⟨by simpa using h.1, fun j y u hy hu => ⟨(h.2 (j + 1) y u (by simpa using hy) (by simpa using hu)).1.ext E1, (h.2 (j + 1) y u (by simpa using hy) (by simpa using hu)).2⟩⟩
          obtain ⟨g2, M2, E2, R2, L2, P2⟩ := each_sound hn xs vs w g1 ob1 ys ob2 M1 hr h2
          refine ⟨g2, M2, E1.trans E2 (by rw [L1.len]; exact Nat.le_refl _), ⟨by simp [R2.1], fun j y' u hy hu => ?_⟩, L1.trans L2, fun hk j y' u hy hu => ?_⟩
          · cases j with
            | zero =>
              obtain rfl : v = y' := by simpa using hy
              obtain rfl : y = u := by simpa using hu
              exact ⟨R1.ext E2, hv.2⟩
            | succ j => exact R2.2 j y' u (by simpa using hy) (by simpa using hu)
          · cases j with
            | zero =>
              obtain rfl : v = y' := by simpa using hy
              obtain rfl : y = u := by simpa using hu
              exact (P1 hk).keep E2.A
            | succ j => exact P2 hk j y' u (by simpa using hy) (by simpa using hu)
        · cases he
      · cases he
theorem frz_ok (keep : Bool) : ∀ n, FrzOk keep n
  | 0 => fun w g ob v x y ob' M h ho he => by simp [frz] at he
  | n + 1 => fun w g ob v x y ob' M h ho he => by
    have ih := frz_ok keep n
    cases x with
    | val a =>
      obtain ⟨rfl, rfl⟩ : AV.val a = y ∧ ob = ob' := by simpa [frz] using he
      exact ⟨g, M, Ext.refl, h, GhLe.refl, fun _ => h⟩
    | kb t =>
      obtain ⟨rfl, rfl⟩ : AV.val (.bool t) = y ∧ ob = ob' := by simpa [frz] using he
      obtain rfl : v = .bool t := h
      exact ⟨g, M, Ext.refl, PRel.val _ rfl, GhLe.refl, fun _ => PRel.val _ rfl⟩
    | slc a b =>
      obtain ⟨rfl, rfl⟩ : AV.slc a b = y ∧ ob = ob' := by simpa [frz] using he
      exact ⟨g, M, Ext.refl, h, GhLe.refl, fun _ => h⟩
    | opt a =>
      obtain ⟨rfl, rfl⟩ : AV.opt a = y ∧ ob = ob' := by simpa [frz] using he
      exact ⟨g, M, Ext.refl, h, GhLe.refl, fun _ => h⟩
    | ref a =>
      obtain ⟨rfl, rfl⟩ : AV.ref a = y ∧ ob = ob' := by simpa [frz] using he
      exact ⟨g, M, Ext.refl, h, GhLe.refl, fun _ => h⟩
    | agg cs => exact h.elim
    | tup cs => exact h.elim
    | dead => simp [frz] at he
    | rptr a b c d => simp [frz] at he
    | iter a =>
      simp only [frz] at he
      split at he
      · rename_i hk; cases he; exact ⟨g, M, Ext.refl, h, GhLe.refl, fun hf => by rw [hf] at hk; cases hk⟩
      · cases he
    | row id ep =>
      obtain ⟨_, et, sz, fz, e, xs, h1, h2, h3⟩ := h
      simp only [frz, h1] at he
      split at he
      · rename_i hep
        obtain ⟨rfl, rfl⟩ : AV.slc sz xs = y ∧ ob.set id (.row et sz true e xs) = ob' := by simpa using he
        obtain ⟨g', M', E', R', L'⟩ := freeze_row M h1 (h3 hep) (Nat.le_refl _)
        exact ⟨g', M', E', R'.to0, L', fun _ => R'⟩
      · cases he
    | rowk id ep k =>
      obtain ⟨_, et, sz, fz, e, xs, h1, h2, h3⟩ := h
      simp only [frz, h1] at he
      split at he
      · rename_i hep
        have hcut : std.cut xs 0 k = xs.take k.toNat := by simp [std]
        rw [hcut] at he
        obtain ⟨rfl, rfl⟩ : AV.slc sz (xs.take k.toNat) = y ∧ ob.set id (.row et sz true e xs) = ob' := by simpa using he
        obtain ⟨g', M', E', R', L'⟩ := freeze_row M h1 (h3 hep).2.2 (by rw [List.length_take]; omega)
        exact ⟨g', M', E', R'.to0, L', fun _ => R'⟩
      · cases he
    | box id off =>
      simp only [frz] at he
      cases keep with
      | true =>
        obtain ⟨rfl, rfl⟩ : AV.box id off = y ∧ ob = ob' := by simpa using he
        exact ⟨g, M, Ext.refl, h, GhLe.refl, fun hk => by cases hk⟩
      | false =>
        simp only [Bool.false_eq_true, if_false] at he
        obtain ⟨rfl, _⟩ := h
        split at he
        · rename_i cs hb
          obtain ⟨hG, cur, T, hh, hc⟩ := M.box id cs hb
          split at he
          · rename_i us ob1 hes
            obtain ⟨g1, M1, E1, R1, L1, P1⟩ := each_sound ih cs cur.toList w g ob us ob1 M hc hes
            split at he
            · rename_i c1 hb1
              obtain ⟨rfl, rfl⟩ : AV.ref (us.drop off) = y ∧ ob1.set id (.fbox us) = ob' := by simpa using he
              have hul : us.length = cs.length := by rw [← R1.1, hc.1]
              have hcell : ∀ (j : Nat) u, us[j]? = some u → ∃ y, w.cell? ⟨g1.loc id, j, none⟩ = some y ∧ PRel w g1.A y u := fun j u hj => by
                have hjl : j < cur.size := by have := lt_of_some hj; rw [← R1.1] at this; simpa using this
                refine ⟨cur[j], by rw [L1.loc]; simp [World.cell?, hh, hjl], P1 rfl j _ u (by simp [hjl]) hj⟩
              obtain ⟨g2, M2, E2, L2, N2⟩ := freeze_box M1 hb1 hcell
              have R : PRel w g2.A (.pointer (some ⟨g.loc id, off, none⟩)) (.ref (us.drop off)) := by
                have e1 : g1.loc id = g.loc id := by rw [L1.loc]
                refine PRel.ref _ _ _ (fun j => cur.getD (off + j) undef) (fun j u hj => ?_) (fun j u hj => ?_)
                · rw [List.getElem?_drop] at hj
                  obtain ⟨h4, y, h5, h6⟩ := N2 _ u hj
                  rw [e1] at h4 h5
                  have hjl : off + j < cur.size := by have := lt_of_some hj; rw [← R1.1] at this; simpa using this
                  refine ⟨h4, ?_⟩
                  simp [World.cell?, hh, hjl]
                · rw [List.getElem?_drop] at hj
                  obtain ⟨h4, y, h5, h6⟩ := N2 _ u hj
                  rw [e1] at h5
                  have hjl : off + j < cur.size := by have := lt_of_some hj; rw [← R1.1] at this; simpa using this
                  have h7 : cur.getD (off + j) undef = y := by
                    simp only [World.cell?, hh, Option.isSome_none, Bool.false_eq_true, if_false, Array.getElem?_eq_getElem hjl, Option.some.injEq] at h5
                    rw [Array.getD_eq_getD_getElem?, Array.getElem?_eq_getElem hjl]
                    exact h5
                  rw [h7]; exact h6
              exact ⟨g2, M2, E1.trans E2 (by rw [L1.len]; exact Nat.le_refl _), R.to0, L1.trans L2, fun _ => R⟩
            · cases he
          · cases he
        · rename_i cs hb
          obtain ⟨rfl, rfl⟩ : AV.ref (cs.drop off) = y ∧ ob = ob' := by simpa using he
          have R : PRel w g.A (.pointer (some ⟨g.loc id, off, none⟩)) (.ref (cs.drop off)) := by
            obtain ⟨l, h1, h2⟩ := list_of (q := fun j y => ∀ u, (cs.drop off)[j]? = some u → g.A (g.loc id) (off + j) ∧ w.cell? ⟨g.loc id, off + j, none⟩ = some y ∧ PRel w g.A y u) (cs.drop off).length (fun j hj => by
              have hj2 := List.getElem?_eq_getElem hj
              have hj3 := hj2
              rw [List.getElem?_drop] at hj3
              obtain ⟨h4, y, h5, h6⟩ := M.fbox id cs hb _ _ hj3
              exact ⟨y, fun u hu => by rw [hj2] at hu; cases hu; exact ⟨h4, h5, h6⟩⟩)
            have hget : ∀ (j : Nat) u, (cs.drop off)[j]? = some u → l[j]? = some (l.getD j undef) := fun j u hu => by
              have := lt_of_some hu
              rw [List.getD_eq_getElem?_getD, List.getElem?_eq_getElem (by omega)]; rfl
            exact PRel.ref _ _ _ (fun j => l.getD j undef) (fun j u hu => ⟨(h2 j _ (hget j u hu) u hu).1, (h2 j _ (hget j u hu) u hu).2.1⟩) (fun j u hu => (h2 j _ (hget j u hu) u hu).2.2)
          exact ⟨g, M, Ext.refl, R.to0, GhLe.refl, fun _ => R⟩
        · cases he
end
end Go.Proofs.YtaklahcbeldbhaaGreatDoor
namespace Go.Proofs.YtaklahcbeldbhaaGreatDoor
open Go.RowKit Go.Lib
section
variable {w w' : World} {g g' : Gh} {ob ob' : List Ob}
theorem frz1 {keep : Bool} {n : Nat} {v : Value} {x y : AV} (M : Mem w g ob) (h : ARel1 w g ob v x) (hl : x.live = true) (he : frz std keep n ob x = some (y, ob')) :
    ∃ g', Mem w g' ob' ∧ Ext w g ob w g' ob' ∧ ARel1 w g' ob' v y ∧ GhLe g g' ob ob' := by
  have go : ∀ {x : AV}, ARel0 w g ob v x → x.live = true → frz std keep n ob x = some (y, ob') → ∃ g', Mem w g' ob' ∧ Ext w g ob w g' ob' ∧ ARel1 w g' ob' v y ∧ GhLe g g' ob ob' := fun h hl he => by
    obtain ⟨g', h1, h2, h3, h4, _⟩ := frz_ok keep n w g ob v _ y ob' M h (h.one hl) he
    exact ⟨g', h1, h2, h3.to1, h4⟩
  cases x with
  | agg cs =>
    obtain ⟨vs, rfl, hc⟩ := h
    cases n with
    | zero => simp [frz] at he
    | succ n =>
      simp only [frz] at he
      obtain ⟨⟨us, ob1⟩, h1, h2⟩ := Option.map_eq_some_iff.1 he
      obtain ⟨rfl, rfl⟩ : AV.agg us = y ∧ ob1 = ob' := by simpa using h2
      obtain ⟨g', M', E', R', L', _⟩ := each_sound (frz_ok keep n) cs vs.toList w g ob us ob1 M hc h1
      exact ⟨g', M', E', ⟨vs, rfl, R'⟩, L'⟩
  | val a => exact go (x := .val a) h hl he
  | slc a b => exact go (x := .slc a b) h hl he
  | ref a => exact go (x := .ref a) h hl he
  | opt a => exact go (x := .opt a) h hl he
  | tup a => cases hl
  | box a b => exact go (x := .box a b) h hl he
  | row a b => exact go (x := .row a b) h hl he
  | rowk a b c => exact go (x := .rowk a b c) h hl he
  | rptr a b c d => exact go (x := .rptr a b c d) h hl he
  | kb a => exact go (x := .kb a) h hl he
  | iter a => exact go (x := .iter a) h hl he
  | dead => cases hl
def ARelL (w : World) (g : Gh) (ob : List Ob) (vs : List Value) (xs : List AV) : Prop := vs.length = xs.length ∧ ∀ (j : Nat) v x, vs[j]? = some v → xs[j]? = some x → ARel1 w g ob v x
theorem frz_live {keep : Bool} {n : Nat} {x y : AV} (he : frz std keep n ob x = some (y, ob')) : x.live = true := by
  cases n with
  | zero => simp [frz] at he
  | succ n => cases x <;> first | rfl | (simp [frz] at he; done)
theorem ARel.to1 {v : Value} {x : AV} (h : ARel w g ob v x) (hl : x.live = true) : ARel1 w g ob v x := by cases x <;> first | exact h | cases hl
theorem each_live {keep : Bool} {n : Nat} : ∀ (xs : List AV) (ob : List Ob) (ys : List AV) (ob' : List Ob), eachM (frz std keep n) ob xs = some (ys, ob') → ∀ x ∈ xs, x.live = true
  | [], _, _, _, _ => fun x h => by cases h
  | x :: xs, ob, ys, ob', he => by
    simp only [eachM] at he
    split at he
    · rename_i y ob1 h1
      split at he
      · rename_i ys' ob2 h2
        intro z hz
        cases hz with
        | head => exact frz_live h1
        | tail _ hz => exact each_live xs ob1 ys' ob2 h2 z hz
      · cases he
    · cases he
theorem frzL {keep : Bool} {n : Nat} : ∀ (xs : List AV) (vs : List Value) (g : Gh) (ob : List Ob) (ys : List AV) (ob' : List Ob), Mem w g ob → ARelL w g ob vs xs → eachM (frz std keep n) ob xs = some (ys, ob') →
    ∃ g', Mem w g' ob' ∧ Ext w g ob w g' ob' ∧ ARelL w g' ob' vs ys ∧ GhLe g g' ob ob'
  | [], vs, g, ob, ys, ob', M, h, he => by
    obtain ⟨rfl, rfl⟩ : [] = ys ∧ ob = ob' := by simpa [eachM] using he
    exact ⟨g, M, Ext.refl, h, GhLe.refl⟩
  | x :: xs, vs, g, ob, ys, ob', M, h, he => by
    cases vs with
    | nil => exact absurd h.1 (by simp)
    | cons v vs =>
      simp only [eachM] at he
      split at he
      · rename_i y ob1 h1
        split at he
        · rename_i ys' ob2 h2
          obtain ⟨rfl, rfl⟩ : y :: ys' = ys ∧ ob2 = ob' := by simpa using he
          have hv := h.2 0 v x rfl rfl
          have hl : x.live = true := frz_live h1
          obtain ⟨g1, M1, E1, R1, L1⟩ := frz1 M hv hl h1
          have hr : ARelL w g1 ob1 vs xs := ⟨by simpa using h.1, fun j y u hy hu => (h.2 (j + 1) y u (by simpa using hy) (by simpa using hu)).ext E1⟩
          obtain ⟨g2, M2, E2, R2, L2⟩ := frzL xs vs g1 ob1 ys' ob2 M1 hr h2
          refine ⟨g2, M2, E1.trans E2 (by rw [L1.len]; exact Nat.le_refl _), ⟨by simp [R2.1], fun j y' u hy hu => ?_⟩, L1.trans L2⟩
          cases j with
          | zero =>
            obtain rfl : v = y' := by simpa using hy
            obtain rfl : y = u := by simpa using hu
            exact R1.ext E2
          | succ j => exact R2.2 j y' u (by simpa using hy) (by simpa using hu)
        · cases he
      · cases he
theorem frzTop {keep : Bool} {n : Nat} {v : Value} {x y : AV} (M : Mem w g ob) (h : ARel w g ob v x) (he : frz std keep n ob x = some (y, ob')) :
    ∃ g', Mem w g' ob' ∧ Ext w g ob w g' ob' ∧ ARel w g' ob' v y ∧ GhLe g g' ob ob' := by
  obtain ⟨g', h1, h2, h3, h4⟩ := frz1 M (h.to1 (frz_live he)) (frz_live he) he
  exact ⟨g', h1, h2, h3.to, h4⟩
structure Step (w : World) (g : Gh) (ob : List Ob) (w' : World) (g' : Gh) (ob' : List Ob) : Prop where
  os : w'.os = w.os
  tape : w'.tape = w.tape
  output : w'.output = w.output
  size : w.heap.size ≤ w'.heap.size
  keep : ∀ b, b < w.heap.size → g.G b = none → w'.heap[b]? = w.heap[b]?
  own : ∀ b id, g'.G b = some id → (∃ id', g.G b = some id') ∨ w.heap.size ≤ b
  imm : ∀ b o, g'.A b o → g.A b o ∨ (∃ id, g.G b = some id) ∨ w.heap.size ≤ b
  ext : Ext w g ob w' g' ob'
  len : ob.length ≤ ob'.length
theorem Step.refl : Step w g ob w g ob := ⟨rfl, rfl, rfl, Nat.le_refl _, fun _ _ _ => rfl, fun _ _ h => .inl ⟨_, h⟩, fun _ _ h => .inl h, Ext.refl, Nat.le_refl _⟩
theorem Step.trans {w1 w2 w3 : World} {g1 g2 g3 : Gh} {o1 o2 o3 : List Ob} (h : Step w1 g1 o1 w2 g2 o2) (k : Step w2 g2 o2 w3 g3 o3) : Step w1 g1 o1 w3 g3 o3 := by
  have none2 : ∀ b, b < w1.heap.size → g1.G b = none → g2.G b = none := fun b hb hG => by
    cases h2 : g2.G b with
    | none => rfl
    | some id =>
      rcases h.own b id h2 with ⟨id', h3⟩ | h3
      · rw [hG] at h3; cases h3
      · omega
  refine ⟨k.os.trans h.os, k.tape.trans h.tape, k.output.trans h.output, Nat.le_trans h.size k.size, fun b hb hG => ?_, fun b id hG => ?_, fun b o hA => ?_, h.ext.trans k.ext h.len, Nat.le_trans h.len k.len⟩
  · exact (k.keep b (Nat.lt_of_lt_of_le hb h.size) (none2 b hb hG)).trans (h.keep b hb hG)
  · rcases k.own b id hG with ⟨id', h2⟩ | h2
    · exact h.own b id' h2
    · exact .inr (Nat.le_trans h.size h2)
  · rcases k.imm b o hA with h2 | ⟨id, h2⟩ | h2
    · exact h.imm b o h2
    · rcases h.own b id h2 with h3 | h3
      · exact .inr (.inl h3)
      · exact .inr (.inr h3)
    · exact .inr (.inr (Nat.le_trans h.size h2))
theorem Step.ghost (E : Ext w g ob w g' ob') (L : GhLe g g' ob ob') : Step w g ob w g' ob' :=
  ⟨rfl, rfl, rfl, Nat.le_refl _, fun _ _ _ => rfl, fun b id h => .inl ⟨id, L.G b id h⟩, fun b o h => (L.A b o h).imp_right .inl, E, by rw [L.len]; exact Nat.le_refl _⟩
def BCall (P : Program) (f : Nat) (args : List AV) (ob : List Ob) (res : AV) (ob' : List Ob) : Prop :=
  (∀ vs w, (callFunc f vs).run P w = .ok (.enter f vs) w) ∧
  ∀ (w : World) (g : Gh) (vs : List Value), Mem w g ob → ARelL w g ob vs args →
    Calls P f vs.toArray w fun e w' => ∃ v g', e = .returned v ∧ Mem w' g' ob' ∧ ARel w' g' ob' v res ∧ Step w g ob w' g' ob'
structure Sim (w0 : World) (g0 : Gh) (o0 : List Ob) (N : Nat) (s : St) (a : Act) (w : World) : Prop where
  defers : a.defers = []
  size : a.tmps.size = N
  rel : ∃ g, Mem w g s.ob ∧ Slots w g s a ∧ Step w0 g0 o0 w g s.ob
def Ex.conv : Ex → Exit
  | .normal => .normal
  | .exit i => .exit i
  | .ret => .ret
  | .pan v => .panic [{ v, recovered := false }]
def BPan (P : Program) (f : Nat) (args : List AV) (ob : List Ob) (x : Value) : Prop :=
  (∀ vs w, (callFunc f vs).run P w = .ok (.enter f vs) w) ∧
  ∀ (w : World) (g : Gh) (vs : List Value), Mem w g ob → ARelL w g ob vs args →
    Calls P f vs.toArray w fun e w' => ∃ g' ob', e = .panicked [{ v := x, recovered := false }] ∧ Mem w' g' ob' ∧ Step w g ob w' g' ob'
def WP (P : Program) (w0 : World) (g0 : Gh) (o0 : List Ob) (N : Nat) (c : Code) (Q : Ex → St → Prop) (s : St) : Prop :=
  ∀ a w, Sim w0 g0 o0 N s a w → c.wp P (fun e a' w' => ∃ e' s', e = e'.conv ∧ (∀ v, e' = .pan v → s'.tm = []) ∧ Sim w0 g0 o0 N s' a' w' ∧ Q e' s') a w
def srtV : Value → Option Srt
  | .int k _ => some (.int k)
  | .bool _ => some .boo
  | .string _ => some .str
  | _ => none
def eqV : Value → Value → Bool
  | .int _ a, .int _ b => a == b
  | .bool a, .bool b => a == b
  | .string a, .string b => a.toList == b.toList
  | _, _ => false
def EqOk (P : Program) (T : Nat) (sh : List Srt) : Prop := ∀ (xs ys : List Value) (x y : Operand) (W : World), xs.map srtV = sh.map some → ys.map srtV = sh.map some →
  (eqGuard .eql T x y (.agg xs.toArray) (.agg ys.toArray)).run P W = .ok () W ∧ (eqGuard .neq T x y (.agg xs.toArray) (.agg ys.toArray)).run P W = .ok () W ∧
  (binOp .eql T (.agg xs.toArray) (.agg ys.toArray)).run P W = .ok (.bool ((xs.zip ys).all fun q => eqV q.1 q.2)) W ∧
  (binOp .neq T (.agg xs.toArray) (.agg ys.toArray)).run P W = .ok (.bool !((xs.zip ys).all fun q => eqV q.1 q.2)) W
def KeyOk (P : Program) (T : Nat) (sh : List Srt) : Prop := (∀ (xs : List Value) (b : Bool) (W : World), xs.map srtV = sh.map some → (Instr.checkKey b 10000 T (.agg xs.toArray)).run P W = .ok () W) ∧
  ∀ (xs ys : List Value) (W : World), xs.map srtV = sh.map some → ys.map srtV = sh.map some → (Op.equal T (.agg xs.toArray) (.agg ys.toArray)).run P W = .ok ((xs.zip ys).all fun q => eqV q.1 q.2) W
def Tree.ok (P : Program) (w0 : World) (g0 : Gh) (o0 : List Ob) (N : Nat) (Q : Ex → St → Prop) : Tree → Prop
  | .leaf e s => Q e s
  | .br c t f => (c = true → t.ok P w0 g0 o0 N Q) ∧ (c = false → f.ok P w0 g0 o0 N Q)
  | .need q t => q ∧ t.ok P w0 g0 o0 N Q
  | .call f args ob res ob' t => BCall P f args ob res ob' ∧ t.ok P w0 g0 o0 N Q
  | .pan f args ob v => BPan P f args ob v ∧ ∀ ob', Q (.pan v) ⟨[], ob'⟩
  | .loop body s K => WP P w0 g0 o0 N (.loop body) (fun e s' => (K e s').ok P w0 g0 o0 N Q) s
  | .both a b => a.ok P w0 g0 o0 N Q ∧ b.ok P w0 g0 o0 N Q
  | .either q a b => (q → a.ok P w0 g0 o0 N Q) ∧ b.ok P w0 g0 o0 N Q
  | .ask T sh t => EqOk P T sh ∧ t.ok P w0 g0 o0 N Q
  | .askK T sh t => KeyOk P T sh ∧ t.ok P w0 g0 o0 N Q
  | .stuck _ => False
end
end Go.Proofs.YtaklahcbeldbhaaGreatDoor
