/-
  Parts of the proof, joined: Ah Ai Aj Ak Al Am An Ao Ap Aq. Conditions: as each theorem says.
-/
import Derived.Test.YtblafdmmebiagaaQA07
import Derived.Lib.AppendStr
import Derived.Great.BuildSlice
namespace Go.Proofs.Ytblafdmmebiagaa
open Go.RowKit Go.Lib
section
variable {P : Program} {ty : Tys} {w : World} {g : Gh} {s : St} {a : Act}
theorem Yld.more {o : Oper} {x : AV} (h : Yld P w g s a o false x) (r : Bool) : Yld P w g s a o r x := by
  obtain ⟨v, h1, h2⟩ := h
  exact ⟨v, fun W _ => h1 W (fun h => by cases h), h2⟩
theorem strSlice_run {T : Nat} (hu : P.underlying T = some .string) (b : ByteArray) (lo hi : Option Value) {l h : Nat}
    (hlo : lo = none ∧ l = 0 ∨ ∃ k, lo = some (.int k (l : Int))) (hhi : hi = none ∧ h = b.size ∨ ∃ k, hi = some (.int k (h : Int))) (h1 : l ≤ h) (h2 : h ≤ b.size) (W : World) :
    (Instr.sliceAt T (.string b) lo hi none).run P W = .ok (.string (b.extract l h)) W := by
  have e1 : ∀ (k : IntKind), (Instr.sliceBound (.int k (h : Int)) b.size .sliceAlen).run P W = .ok h W := fun k => by
    rw [bound_run (by omega) (by omega)]; simp
  have e2 : ∀ (k : IntKind), (Instr.sliceBound (.int k (l : Int)) h .sliceB).run P W = .ok l W := fun k => by
    rw [bound_run (by omega) (by omega)]; simp
  rcases hlo with ⟨rfl, rfl⟩ | ⟨k, rfl⟩ <;> rcases hhi with ⟨rfl, rfl⟩ | ⟨k', rfl⟩ <;>
    simp [Instr.sliceAt, Instr.slice, run_underlying hu, Instr.sliceBounds, e1, e2]
theorem yld_strSlice {o : Oper} {T : Nat} {x : Operand} {lo hi : Option Operand} (ho : o.op = .slice T x lo hi none) {b : ByteArray} (hu : P.underlying T = some .string)
    (hx : a.eval x = .string b) {l h : Int} (hlo : lo.map a.eval = none ∧ l = 0 ∨ ∃ k, lo.map a.eval = some (.int k l)) (hhi : hi.map a.eval = none ∧ h = b.size ∨ ∃ k, hi.map a.eval = some (.int k h))
    (hok : 0 ≤ l ∧ l ≤ h ∧ h ≤ b.size) : Yld P w g s a o false (.val (.string (std.cutS b l h))) := by
  obtain ⟨h0, h1, h2⟩ := hok
  obtain ⟨l, rfl⟩ : ∃ l' : Nat, l = l' := ⟨l.toNat, by omega⟩
  obtain ⟨h, rfl⟩ : ∃ h' : Nat, h = h' := ⟨h.toNat, by omega⟩
  have hlo' : lo.map a.eval = none ∧ l = 0 ∨ ∃ k, lo.map a.eval = some (.int k (l : Int)) := hlo.imp (fun ⟨a, b⟩ => ⟨a, by omega⟩) id
  have hhi' : hi.map a.eval = none ∧ h = b.size ∨ ∃ k, hi.map a.eval = some (.int k (h : Int)) := hhi.imp (fun ⟨a, b⟩ => ⟨a, by omega⟩) id
  refine yld_of (S := Instr.sliceAt T (a.eval x) (lo.map a.eval) (hi.map a.eval) none) (fun W => by simp only [execOp, ho]; rfl) ⟨_, fun W _ => ?_, .val _ rfl⟩
  rw [hx, strSlice_run hu b _ _ hlo' hhi' (by omega) (by omega)]
  simp [std]
theorem bd_lo (hS : Slots w g s a) {lo : Option Operand} {k : IntKind} {l : Int} (h : lo.map (ev s) = some (.val (.int k l))) : lo.map a.eval = some (.int k l) := by
  cases lo with
  | none => cases h
  | some x =>
    have h : ev s x = .val (.int k l) := by simpa using h
    have hx := ev_rel hS x
    rw [h] at hx
    simp [hx.valEq]
theorem bd_no {lo : Option Operand} (h : lo.map (ev s) = none) : lo.map a.eval = none := by
  cases lo with
  | none => rfl
  | some x => cases h
theorem yld_slice (hT : TyOk P ty) (hS : Slots w g s a) (M : Mem w g s.ob) {o : Oper} {T : Nat} {x : Operand} {lo hi : Option Operand} (ho : o.op = .slice T x lo hi none) {q : Option Prop} {z : AV}
    (h : aval std ty s o.op = some (q, z)) (hq : ∀ r, q = some r → r) : Yld P w g s a o false z := by
  have ho' := ho
  rw [ho] at h
  simp only [aval] at h
  have hx := ev_rel hS x
  split at h
  · rename_i b hb
    rw [hb] at hx
    split at h
    · rename_i hk
      have hu := (ty_kd hT hk (by decide)).str hk
      split at h <;> try (cases h; done)
      · rename_i h1 h2
        simp only [Option.some.injEq, Prod.mk.injEq] at h
        obtain ⟨rfl, rfl⟩ := h
        have := yld_strSlice (w := w) (g := g) (s := s) (l := 0) (h := b.size) ho' hu hx.valEq (.inl ⟨bd_no h1, rfl⟩) (.inl ⟨bd_no h2, rfl⟩) ⟨by omega, by omega, by omega⟩
        have e : std.cutS b 0 b.size = b := by simp [std]
        rw [e] at this
        exact this
      · rename_i h1 h2
        simp only [Option.some.injEq, Prod.mk.injEq] at h
        obtain ⟨rfl, rfl⟩ := h
        exact yld_strSlice ho' hu hx.valEq (.inr ⟨_, bd_lo hS h1⟩) (.inl ⟨bd_no h2, rfl⟩) (hq _ rfl)
      · rename_i h1 h2
        simp only [Option.some.injEq, Prod.mk.injEq] at h
        obtain ⟨rfl, rfl⟩ := h
        exact yld_strSlice ho' hu hx.valEq (.inl ⟨bd_no h1, rfl⟩) (.inr ⟨_, bd_lo hS h2⟩) (hq _ rfl)
      · rename_i h1 h2
        simp only [Option.some.injEq, Prod.mk.injEq] at h
        obtain ⟨rfl, rfl⟩ := h
        exact yld_strSlice ho' hu hx.valEq (.inr ⟨_, bd_lo hS h1⟩) (.inr ⟨_, bd_lo hS h2⟩) (hq _ rfl)
    · cases h
  · rename_i sz xs hb
    rw [hb] at hx
    split at h
    · rename_i hel
      split at h <;> try (cases h; done)
      · rename_i h1 h2
        simp only [Option.some.injEq, Prod.mk.injEq] at h
        obtain ⟨rfl, rfl⟩ := h
        have := yld_slice_slc (l := 0) (h := xs.length) hT ho' hel hx (.inl ⟨bd_no h1, rfl⟩) (.inl ⟨bd_no h2, rfl⟩) ⟨by omega, by omega, by omega⟩
        have e : std.cut xs 0 xs.length = xs := by simp [std]
        rw [e] at this
        exact this
      · rename_i h1 h2
        simp only [Option.some.injEq, Prod.mk.injEq] at h
        obtain ⟨rfl, rfl⟩ := h
        exact yld_slice_slc hT ho' hel hx (.inr ⟨_, bd_lo hS h1⟩) (.inl ⟨bd_no h2, rfl⟩) (hq _ rfl)
      · rename_i h1 h2
        simp only [Option.some.injEq, Prod.mk.injEq] at h
        obtain ⟨rfl, rfl⟩ := h
        exact yld_slice_slc hT ho' hel hx (.inl ⟨bd_no h1, rfl⟩) (.inr ⟨_, bd_lo hS h2⟩) (hq _ rfl)
      · rename_i h1 h2
        simp only [Option.some.injEq, Prod.mk.injEq] at h
        obtain ⟨rfl, rfl⟩ := h
        exact yld_slice_slc hT ho' hel hx (.inr ⟨_, bd_lo hS h1⟩) (.inr ⟨_, bd_lo hS h2⟩) (hq _ rfl)
    · cases h
  · rename_i id ep hb
    rw [hb] at hx
    obtain ⟨_, et, sz, fz, e, xs, h1, h2, h3⟩ := hx
    simp only [h1] at h
    split at h
    · rename_i hel
      split at h <;> try (cases h; done)
      rename_i k n h4 h5
      simp only [Option.some.injEq, Prod.mk.injEq] at h
      obtain ⟨rfl, rfl⟩ := h
      cases lo with
      | some _ => cases h4
      | none =>
        cases hi with
        | none => cases h5
        | some y =>
          have hy : ev s y = .val (.int k n) := by simpa using h5
          have hy' := ev_rel hS y
          rw [hy] at hy'
          have hqq : 0 ≤ (0 : Int) ∧ 0 ≤ n ∧ n ≤ (xs.length : Int) := hq _ rfl
          exact yld_slice_row hT ho' hel.2 h1 hel.1 (h3 hel.1) hy'.valEq hqq.2
    · cases h
  · cases h
theorem aval_sound (hT : TyOk P ty) (hS : Slots w g s a) (M : Mem w g s.ob) {o : Oper} {q : Option Prop} {z : AV}
    (h : aval std ty s o.op = some (q, z)) (hq : ∀ r, q = some r → r) : Yld P w g s a o (readsM o.op) z := by
  cases ho : o.op with
  | move x =>
    rw [ho] at h
    obtain ⟨rfl, rfl⟩ : none = q ∧ evk s x = z := by simpa [aval] using h
    exact yld_move hS (.inl ho)
  | assign x =>
    rw [ho] at h
    obtain ⟨rfl, rfl⟩ : none = q ∧ evk s x = z := by simpa [aval] using h
    exact yld_move hS (.inr ho)
  | pick c x y =>
    rw [ho] at h
    simp only [aval] at h
    split at h
    · rename_i t hc
      simp only [Option.some.injEq, Prod.mk.injEq] at h
      obtain ⟨rfl, rfl⟩ := h
      have := yld_pick (P := P) hS ho hc
      cases t <;> exact this
    · cases h
  | build T parts => exact yld_build hT hS ho h
  | load T x =>
    rw [ho] at h
    simp only [aval] at h
    have hxr := ev_rel hS x
    split at h
    · rename_i cs he
      rw [he] at hxr
      exact yld_exp hT ho (ref_cells hxr) h hq
    · rename_i id ep i off he
      rw [he] at hxr
      split at h
      · rename_i e xs hob
        split at h
        · rename_i hee
          exact yld_exp hT ho (rptr_cells M hxr hob hee) h hq
        · cases h
      · cases h
    split at h
    · rename_i cs hcs
      by_cases hl : (tyLook T ty).ok = true ∧ (if (tyLook T ty).agg then (tyLook T ty).size else 1) ≤ cs.length
      · rw [if_pos hl] at h
        simp only [Option.some.injEq, Prod.mk.injEq] at h
        obtain ⟨rfl, rfl⟩ := h
        exact yld_load hT hS M ho hcs hl.1 hl.2
      · rw [if_neg hl] at h; cases h
    · cases h
  | nilCheck x =>
    rw [ho] at h
    simp only [aval] at h
    have hx := ev_rel hS x
    split at h
    · rename_i cs he
      obtain ⟨rfl, rfl⟩ : none = q ∧ AV.ref cs = z := by simpa using h
      rw [he] at hx
      obtain ⟨b, u, hv⟩ := ptr_form hx (.inl ⟨_, rfl⟩)
      have := yld_nilCheck hS ho hv (.inl ⟨_, rfl⟩) (P := P)
      rw [he] at this; exact this
    · rename_i id of he
      obtain ⟨rfl, rfl⟩ : none = q ∧ AV.box id of = z := by simpa using h
      rw [he] at hx
      obtain ⟨b, u, hv⟩ := ptr_form hx (.inr ⟨_, _, rfl⟩)
      have := yld_nilCheck hS ho hv (.inl ⟨_, rfl⟩) (P := P)
      rw [he] at this; exact this
    · rename_i y he
      simp only [Option.some.injEq, Prod.mk.injEq] at h
      obtain ⟨rfl, rfl⟩ := h
      exact yld_optCheck hS ho he (hq _ rfl)
    · rename_i id ep i of he
      rw [he] at hx
      split at h
      · rename_i e xs hob
        split at h
        · rename_i hk
          obtain ⟨rfl, rfl⟩ : none = q ∧ AV.rptr id ep i of = z := by simpa using h
          obtain ⟨b, u, hv⟩ := rptr_form hx hob hk
          have := yld_nilCheck hS ho hv (.inl ⟨_, rfl⟩) (P := P)
          rw [he] at this; exact this
        · cases h
      · cases h
    · rename_i f b c he
      obtain ⟨rfl, rfl⟩ : none = q ∧ AV.val (.func (.func f) b c) = z := by simpa using h
      rw [he] at hx
      have := yld_nilCheck hS ho hx.valEq (.inr ⟨_, _, _, rfl⟩) (P := P)
      rw [he] at this; exact this
    · cases h
  | binOp op T x y T' => exact yld_binOp hT hS M ho h hq
  | unOp op T x => exact yld_unOp hS ho h hq
  | convert src dst x => exact yld_convert hT hS M ho h hq
  | makeFunc fn fi ca =>
    rw [ho] at h
    simp only [aval] at h
    split at h
    · rename_i he
      obtain ⟨rfl, rfl⟩ : fi = #[] ∧ ca = #[] := by simpa using he
      obtain ⟨rfl, rfl⟩ : none = q ∧ AV.val (.func fn #[] #[]) = z := by simpa using h
      exact yld_makeFunc ho
    · cases h
  | fieldAddr T x f =>
    rw [ho] at h
    simp only [aval] at h
    have hx := ev_rel hS x
    split at h
    · rename_i off t hf
      split at h
      · rename_i cs he
        rw [he] at hx
        split at h
        · rename_i hfo
          obtain ⟨rfl, rfl⟩ : none = q ∧ AV.ref (std.drp cs off) = z := by simpa using h
          refine yld_fieldAddr hT hS ho hf hfo (fun b u hr => ?_) (ptr_form hx (.inl ⟨_, rfl⟩))
          rw [he] at hr
          exact ref_off hr off
        · cases h
      · rename_i id of he
        rw [he] at hx
        split at h
        · rename_i hfo
          obtain ⟨rfl, rfl⟩ : none = q ∧ AV.box id (of + off) = z := by simpa using h
          refine yld_fieldAddr hT hS ho hf hfo (fun b u hr => ?_) (ptr_form hx (.inr ⟨_, _, rfl⟩))
          rw [he] at hr
          obtain ⟨h1, h2⟩ := hr
          simp only [Value.pointer.injEq, Option.some.injEq, Addr.mk.injEq, and_true] at h1
          exact ⟨by rw [h1.1, h1.2], h2⟩
        · cases h
      · rename_i id ep i of he
        rw [he] at hx
        split at h
        · rename_i e xs hob
          split at h
          · rename_i hk
            obtain ⟨rfl, rfl⟩ : none = q ∧ AV.rptr id ep i (of + off) = z := by simpa using h
            refine yld_fieldAddr hT hS ho hf hk.2 (fun b u hr => ?_) (rptr_form hx hob hk.1)
            rw [he] at hr
            exact rptr_off hr hob hk.1 off
          · cases h
        · cases h
      · cases h
    · cases h
  | field T x f => exact yld_field hT hS ho h
  | indexAddr T x i => exact yld_indexAddr hT hS M ho h hq
  | index T x i =>
    rw [ho] at h
    simp only [aval] at h
    split at h
    · rename_i cs kn k h1 h2
      by_cases hk : 100 ≤ (tyLook T ty).kd ∧ (tyLook (tyLook T ty).elem ty).ok = true ∧ 0 ≤ k ∧ k < ((tyLook T ty).kd - 100 : Nat) ∧ k.toNat * (tyLook (tyLook T ty).elem ty).size + (if (tyLook (tyLook T ty).elem ty).agg then (tyLook (tyLook T ty).elem ty).size else 1) ≤ cs.length
      · rw [if_pos hk] at h
        simp only [Option.some.injEq, Prod.mk.injEq] at h
        obtain ⟨rfl, rfl⟩ := h
        exact yld_elem hT hS ho h1 h2 hk.1 hk.2.1 hk.2.2.1 hk.2.2.2.1 hk.2.2.2.2
      · rw [if_neg hk] at h; cases h
    · rename_i b k n h1 h2
      split at h
      · rename_i hk
        simp only [Option.some.injEq, Prod.mk.injEq] at h
        obtain ⟨rfl, rfl⟩ := h
        obtain ⟨h3, h4⟩ : 0 ≤ n ∧ n < (b.size : Int) := hq _ rfl
        exact yld_index hT hS ho h1 h2 hk h3 h4
      · cases h
    · cases h
  | slice T x lo hi mx =>
    cases mx with
    | none => exact yld_slice hT hS M ho h hq
    | some m => rw [ho] at h; simp [aval] at h
  | extract t i =>
    rw [ho] at h
    simp only [aval] at h
    split at h
    · rename_i vs hv
      obtain ⟨x, h1, h2⟩ := Option.map_eq_some_iff.1 h
      obtain ⟨rfl, rfl⟩ : none = q ∧ x = z := by simpa using h2
      exact yld_extract hS ho hv h1
    · cases h
  | call c =>
    obtain ⟨callee, args, r⟩ := c
    cases callee with
    | builtin b =>
      cases b with
      | len => exact yld_len hT hS M ho h
      | min => exact yld_min hS ho h
      | max => exact yld_max hS ho h
      | _ => rw [ho] at h; simp [aval] at h
    | _ => rw [ho] at h; simp [aval] at h
  | _ => rw [ho] at h; simp [aval] at h
end
end Go.Proofs.Ytblafdmmebiagaa
namespace Go.Proofs.Ytblafdmmebiagaa
open Go.RowKit Go.Lib
section
variable {w w' : World} {g g' : Gh} {ob ob' : List Ob}
theorem heap_new (w : World) (o : Obj) : (w.alloc o).heap[w.heap.size]? = some o := heap_alloc_new w o
theorem heap_old {w : World} {o : Obj} {b : Nat} (h : b < w.heap.size) : (w.alloc o).heap[b]? = w.heap[b]? := Below.heap_alloc w o b h
theorem cell_old {w : World} {o : Obj} {b k : Nat} (h : b < w.heap.size) : (w.alloc o).cell? ⟨b, k, none⟩ = w.cell? ⟨b, k, none⟩ := World.cell?_of_block (heap_old h)
def Gh.new (g : Gh) (w : World) (ob : List Ob) : Gh := ⟨g.A, fun b => if b = w.heap.size then some ob.length else g.G b, fun i => if i = ob.length then w.heap.size else g.loc i, g.sub⟩
theorem get_old {α : Type} {l : List α} {x : α} {i : Nat} (h : i < l.length) : (l ++ [x])[i]? = l[i]? := List.getElem?_append_left h
theorem get_new {α : Type} {l : List α} {x : α} : (l ++ [x])[l.length]? = some x := by simp
theorem Ext.new (M : Mem w g ob) (o : Obj) (x : Ob) : Ext w g ob (w.alloc o) (g.new w ob) (ob ++ [x]) := by
  have old : ∀ {b : Nat} {id : Nat}, g.G b = some id → b ≠ w.heap.size := fun h => by have := (M.own _ _ h).1; omega
  refine ⟨fun b o h => ⟨h, cell_old (M.imm b o h).1⟩, fun id h => ?_, fun id h => ?_, fun id h => ?_, fun id et sz fz e xs h => ⟨fz, e, xs, ?_, Nat.le_refl _, fun _ => ⟨rfl, fun b hG => ⟨?_, heap_old (M.own _ _ hG).1⟩⟩⟩, fun _ _ _ _ => ⟨rfl, fun _ _ h => h⟩⟩
  · simp [Gh.new, Nat.ne_of_lt h]
  · rw [get_old (isBox_lt h)]; exact h
  · rw [get_old (isIt_lt h)]; exact h
  · rw [get_old (lt_of_some h)]; exact h
  · simp [Gh.new, old hG, hG]
theorem Mem.new (M : Mem w g ob) (o : Obj) (x : Ob)
    (hbox : ∀ cs, x = .box cs → ∃ cur T, o = .cells cur T (0, 0) ∧ ARelC w g ob cur.toList cs) (hfb : ∀ cs, x ≠ .fbox cs) (hit : ∀ s p, x = .iter s p → o = .stringIter s p)
    (hrow : ∀ et sz fz e xs, x = .row et sz fz e xs → 0 < sz ∧ ∀ y ∈ xs, y.cells.length = sz) : Mem (w.alloc o) (g.new w ob) (ob ++ [x]) := by
  have E := Ext.new M o x
  have old : ∀ {b : Nat} {id : Nat}, g.G b = some id → b ≠ w.heap.size := fun h => by have := (M.own _ _ h).1; omega
  have hsz : (w.alloc o).heap.size = w.heap.size + 1 := by simp
  refine ⟨fun id cs h => ?_, fun id cs h j u hj => ?_, fun id s p h => ?_, fun b id h => ?_, fun b k h => ?_, fun id et sz fz e xs h => ?_, fun b hs => ?_, fun b b' id h1 h2 hs hs' => ?_⟩
  · by_cases hl : id < ob.length
    · rw [get_old hl] at h
      obtain ⟨h1, cur, T, h2, h3⟩ := M.box id cs h
      have h4 := (M.own _ _ h1).1
      have e1 : (g.new w ob).loc id = g.loc id := by simp [Gh.new, Nat.ne_of_lt hl]
      rw [e1]
      exact ⟨by simp [Gh.new, Nat.ne_of_lt h4, h1], cur, T, by rw [heap_old h4]; exact h2, h3.ext E⟩
    · have hid : id = ob.length := by have := lt_of_some h; simp at this; omega
      subst hid
      rw [get_new] at h
      obtain ⟨cur, T, rfl, h2⟩ := hbox cs (by simpa using h)
      have e1 : (g.new w ob).loc ob.length = w.heap.size := by simp [Gh.new]
      rw [e1]
      exact ⟨by simp [Gh.new], cur, T, heap_new w _, h2.ext E⟩
  · by_cases hl : id < ob.length
    · rw [get_old hl] at h
      obtain ⟨h1, y, h2, h3⟩ := M.fbox id cs h j u hj
      have e1 : (g.new w ob).loc id = g.loc id := by simp [Gh.new, Nat.ne_of_lt hl]
      rw [e1]
      exact ⟨h1, y, by rw [cell_old (M.imm _ _ h1).1]; exact h2, h3.keep E.A⟩
    · have hid : id = ob.length := by have := lt_of_some h; simp at this; omega
      subst hid
      rw [get_new] at h
      exact absurd (by simpa using h) (hfb cs)
  · by_cases hl : id < ob.length
    · rw [get_old hl] at h
      obtain ⟨h1, h2⟩ := M.iter id s p h
      have h4 := (M.own _ _ h1).1
      have e1 : (g.new w ob).loc id = g.loc id := by simp [Gh.new, Nat.ne_of_lt hl]
      rw [e1]
      exact ⟨by simp [Gh.new, Nat.ne_of_lt h4, h1], by rw [heap_old h4]; exact h2⟩
    · have hid : id = ob.length := by have := lt_of_some h; simp at this; omega
      subst hid
      rw [get_new] at h
      obtain rfl := hit s p (by simpa using h)
      have e1 : (g.new w ob).loc ob.length = w.heap.size := by simp [Gh.new]
      rw [e1]
      exact ⟨by simp [Gh.new], heap_new w _⟩
  · simp only [Gh.new] at h
    split at h
    · obtain rfl : ob.length = id := by simpa using h
      rename_i hb
      rw [hb, hsz]
      exact ⟨by omega, by simp⟩
    · have := M.own b id h
      rw [hsz]
      exact ⟨by omega, by simp; omega⟩
  · obtain ⟨h1, h2⟩ := M.imm b k h
    refine ⟨by rw [hsz]; omega, fun id hG hs => ?_⟩
    simp only [Gh.new, Nat.ne_of_lt h1, if_false] at hG
    obtain ⟨et, sz, e, xs, h3, h4⟩ := h2 id hG hs
    exact ⟨et, sz, e, xs, by rw [get_old (lt_of_some h3)]; exact h3, h4⟩
  · by_cases hl : id < ob.length
    · rw [get_old hl] at h; exact M.roww id et sz fz e xs h
    · have hid : id = ob.length := by have := lt_of_some h; simp at this; omega
      subst hid
      rw [get_new] at h
      exact hrow et sz fz e xs (by simpa using h)
  · obtain ⟨id, et, sz, fz, e, xs, h1, h2⟩ := M.nsub b hs
    exact ⟨id, et, sz, fz, e, xs, by simp [Gh.new, old h1, h1], by rw [get_old (lt_of_some h2)]; exact h2⟩
  · simp only [Gh.new] at h1 h2
    split at h1 <;> split at h2
    · rename_i e1 e2; exact e1.trans e2.symm
    · cases h1; exact absurd (M.own _ _ h2).2 (Nat.lt_irrefl _)
    · cases h2; exact absurd (M.own _ _ h1).2 (Nat.lt_irrefl _)
    · exact M.uniq b b' id h1 h2 hs hs'
def Gh.imm (g : Gh) (w w' : World) : Gh := ⟨fun b o => g.A b o ∨ (w.heap.size ≤ b ∧ b < w'.heap.size), g.G, g.loc, g.sub⟩
theorem Ext.immNew (M : Mem w g ob) (hb : Below w.heap.size w w') : Ext w g ob w' (g.imm w w') ob :=
  ⟨fun b o h => ⟨.inl h, World.cell?_of_block (w := w) (hb.block b (M.imm b o h).1)⟩, fun _ _ => rfl, fun _ h => h, fun _ h => h,
    fun _ _ _ fz e xs h => ⟨fz, e, xs, h, Nat.le_refl _, fun _ => ⟨rfl, fun b hG => ⟨hG, hb.block b (M.own b _ hG).1⟩⟩⟩,
    fun b id hG _ => ⟨rfl, fun _ o h => h.resolve_right fun h2 => by have := (M.own b id hG).1; omega⟩⟩
theorem Mem.immNew (M : Mem w g ob) (hb : Below w.heap.size w w') : Mem w' (g.imm w w') ob := by
  have E := Ext.immNew M hb
  refine ⟨fun id cs h => ?_, fun id cs h j u hj => ?_, fun id s pos h => ?_, fun b id h => ⟨Nat.lt_of_lt_of_le (M.own b id h).1 hb.size, (M.own b id h).2⟩, fun b o h => ?_, M.roww, M.nsub, M.uniq⟩
  · obtain ⟨h1, cur, T, h2, h3⟩ := M.box id cs h
    exact ⟨h1, cur, T, (hb.block _ (M.own _ _ h1).1).trans h2, h3.ext E⟩
  · obtain ⟨h1, y, h2, h3⟩ := M.fbox id cs h j u hj
    exact ⟨.inl h1, y, (E.A _ _ h1).2.trans h2, h3.keep E.A⟩
  · obtain ⟨h1, h2⟩ := M.iter id s pos h
    exact ⟨h1, (hb.block _ (M.own _ _ h1).1).trans h2⟩
  · rcases h with h | ⟨h1, h2⟩
    · exact ⟨Nat.lt_of_lt_of_le (M.imm b o h).1 hb.size, (M.imm b o h).2⟩
    · exact ⟨h2, fun id hG _ => by have := (M.own b id hG).1; omega⟩
theorem cell_setCells {W : World} {b o k : Nat} {vs : List Value} {b' : Nat} (h : b' ≠ b) : (W.setCells b o vs).heap[b']? = W.heap[b']? := by
  induction vs generalizing o W with
  | nil => rfl
  | cons v r ih =>
    show ((W.setCell ⟨b, o, none⟩ v).setCells b (o + 1) r).heap[b']? = _
    rw [ih]
    exact Below.heap_setCell W _ v b' h
theorem heap_setCells_self {W : World} {b : Nat} {T : TypeId} {fr : Nat × Nat} : ∀ (vs : List Value) (o : Nat) (W : World) (cur : Array Value), W.heap[b]? = some (.cells cur T fr) → o + vs.length ≤ cur.size →
    (W.setCells b o vs).heap[b]? = some (.cells (cur.toList.take o ++ (vs ++ cur.toList.drop (o + vs.length))).toArray T fr)
  | [], o, W, cur, h, _ => by
    show W.heap[b]? = _
    rw [h]; simp
  | v :: r, o, W, cur, h, hl => by
    have h1 : (W.setCell ⟨b, o, none⟩ v).heap[b]? = some (.cells (cur.setIfInBounds o v) T fr) := by
      simp only [World.setCell, Array.getElem?_modify, if_true, h, Option.map_some]
      rfl
    have h2 := heap_setCells_self (W := W) r (o + 1) _ _ h1 (by simp at hl ⊢; omega)
    show ((W.setCell ⟨b, o, none⟩ v).setCells b (o + 1) r).heap[b]? = _
    rw [h2]
    congr 2
    have ho : o < cur.toList.length := by simp at hl ⊢; omega
    rw [Array.toList_setIfInBounds, List.take_succ_eq_append_getElem (by simpa using ho), List.getElem_set_self, List.take_set_of_le (by omega), List.drop_set_of_lt (by omega)]
    simp only [List.append_assoc, List.singleton_append, List.cons_append, List.length_cons, List.nil_append]
    rw [show o + 1 + r.length = o + (r.length + 1) by omega]
theorem size_setCells (W : World) (b o : Nat) (vs : List Value) : (W.setCells b o vs).heap.size = W.heap.size := by
  induction vs generalizing o W with
  | nil => rfl
  | cons v r ih =>
    show ((W.setCell ⟨b, o, none⟩ v).setCells b (o + 1) r).heap.size = _
    rw [ih]; simp [World.setCell]
theorem box_apart (M : Mem w g ob) {id : Nat} {cs : List AV} (h : ob[id]? = some (.box cs)) {b o : Nat} (hA : g.A b o) : b ≠ g.loc id := by
  rintro rfl
  obtain ⟨et, sz, e, xs, h1, _⟩ := (M.imm _ _ hA).2 id (M.box id cs h).1 (M.nosub (M.box id cs h).1 fun _ _ _ _ _ h2 => by rw [h] at h2; cases h2)
  rw [h] at h1; cases h1
theorem Ext.store (M : Mem w g ob) {id : Nat} {cs : List AV} (h : ob[id]? = some (.box cs)) (off : Nat) (vs : List Value) (us : List AV) :
    Ext w g ob (w.setCells (g.loc id) off vs) g (ob.set id (.box us)) := by
  have hl := lt_of_some h
  have ne : ∀ {b id' : Nat}, g.G b = some id' → id' ≠ id → b ≠ g.loc id := by
    rintro b id' hG hne rfl
    rw [(M.box id cs h).1] at hG
    exact hne (by simpa using hG.symm)
  refine ⟨fun b o hA => ⟨hA, World.cell?_of_block (w := w) (cell_setCells (k := 0) (box_apart M h hA))⟩, fun _ _ => rfl, fun i hi => ?_, fun i hi => ?_, fun i et sz fz e xs hi => ⟨fz, e, xs, ?_, Nat.le_refl _, fun _ => ⟨rfl, fun b hG => ⟨hG, ?_⟩⟩⟩, fun _ _ _ _ => ⟨rfl, fun _ _ h => h⟩⟩
  · by_cases e : i = id
    · subst e; rw [List.getElem?_set_self hl]; trivial
    · rw [List.getElem?_set_ne (Ne.symm e)]; exact hi
  · by_cases e : i = id
    · subst e; rw [h] at hi; exact hi.elim
    · rw [List.getElem?_set_ne (Ne.symm e)]; exact hi
  · by_cases e : i = id
    · subst e; rw [h] at hi; cases hi
    · rw [List.getElem?_set_ne (Ne.symm e)]; exact hi
  · by_cases e : i = id
    · subst e; rw [h] at hi; cases hi
    · exact cell_setCells (k := 0) (ne hG e)
theorem Mem.store (M : Mem w g ob) {id : Nat} {cs : List AV} (h : ob[id]? = some (.box cs)) {off : Nat} {vs : List Value} {us : List AV} (hv : ARelC w g ob vs us) (hl : off + us.length ≤ cs.length) :
    Mem (w.setCells (g.loc id) off vs) g (ob.set id (.box (setCells cs off us))) := by
  have E := Ext.store M h off vs (setCells cs off us)
  have hid := lt_of_some h
  obtain ⟨h1, cur, T, h2, h3⟩ := M.box id cs h
  have ne : ∀ {b id' : Nat}, g.G b = some id' → id' ≠ id → b ≠ g.loc id := by
    rintro b id' hG hne rfl
    rw [h1] at hG
    exact hne (by simpa using hG.symm)
  have hcl : cur.size = cs.length := by simpa using h3.1
  refine ⟨fun i c hi => ?_, fun i c hi j u hj => ?_, fun i s pos hi => ?_, fun b i hG => by rw [size_setCells, List.length_set]; exact M.own b i hG, fun b o hA => ?_, fun i et sz fz e xs hi => ?_, fun b hs => ?_, M.uniq⟩
  · by_cases e : i = id
    · subst e
      rw [List.getElem?_set_self hid] at hi
      obtain rfl : setCells cs off us = c := by simpa using hi
      refine ⟨h1, _, T, heap_setCells_self (W := w) vs off w cur h2 (by rw [hv.1, hcl]; exact hl), ?_⟩
      have := setCells_rel h3 hv hl
      exact (ARelC.ext E this)
    · rw [List.getElem?_set_ne (Ne.symm e)] at hi
      obtain ⟨h4, cur', T', h5, h6⟩ := M.box i c hi
      exact ⟨h4, cur', T', by rw [cell_setCells (k := 0) (ne h4 e)]; exact h5, h6.ext E⟩
  · by_cases e : i = id
    · subst e; rw [List.getElem?_set_self hid] at hi; cases hi
    · rw [List.getElem?_set_ne (Ne.symm e)] at hi
      obtain ⟨h4, y, h5, h6⟩ := M.fbox i c hi j u hj
      exact ⟨h4, y, by rw [(E.A _ _ h4).2]; exact h5, h6.keep E.A⟩
  · by_cases e : i = id
    · subst e; rw [List.getElem?_set_self hid] at hi; cases hi
    · rw [List.getElem?_set_ne (Ne.symm e)] at hi
      obtain ⟨h4, h5⟩ := M.iter i s pos hi
      exact ⟨h4, by rw [cell_setCells (k := 0) (ne h4 e)]; exact h5⟩
  · obtain ⟨h4, h5⟩ := M.imm b o hA
    refine ⟨by rw [size_setCells]; exact h4, fun i hG hs => ?_⟩
    obtain ⟨et, sz, e, xs, h6, h7⟩ := h5 i hG hs
    have hne : i ≠ id := by rintro rfl; rw [h] at h6; cases h6
    exact ⟨et, sz, e, xs, by rw [List.getElem?_set_ne (Ne.symm hne)]; exact h6, h7⟩
  · by_cases e' : i = id
    · subst e'; rw [List.getElem?_set_self hid] at hi; cases hi
    · rw [List.getElem?_set_ne (Ne.symm e')] at hi; exact M.roww i et sz fz e xs hi
  · obtain ⟨i, et, sz, fz, e, xs, h4, h5⟩ := M.nsub b hs
    have e' : i ≠ id := by rintro rfl; rw [h] at h5; cases h5
    exact ⟨i, et, sz, fz, e, xs, h4, by rw [List.getElem?_set_ne (Ne.symm e')]; exact h5⟩
end
end Go.Proofs.Ytblafdmmebiagaa
namespace Go.Proofs.Ytblafdmmebiagaa
open Go.RowKit Go.Lib
section
variable {P : Program} {w : World}
set_option maxHeartbeats 2000000 in
theorem append_any {t u ty e : TypeId} {i : TypeInfo} {z : Value} {d : TypeDesc} {size : Nat} (ht : P.underlying t = some (.slice e)) (hu : P.underlying u = some d) (hd : (∃ e', d = .slice e') ∨ d = .string) (hi : P.info? e = some i) (hz : i.zero = some z)
    (hsize : i.size = size) (hby : i.bytes ≤ 140000) (hzs : z.cells.size = size)
    {v : Value} {n : Nat} {xs : List Value} (hown : w.ownsRow 0 e size v n xs) {x : Value} {m : Nat} {news : List Value} (hl : news.length = m * size)
    (hlen : ∀ W, (Builtin.lenOf x).run P W = .ok m W) (hfc : ∀ W : World, W.heap = w.heap → (Builtin.firstCells size m x).run P W = .ok news.toArray W) (h1 : ∀ u ∈ news, u.oneCell' = true) (hb : n + m ≤ 1000000000) :
    ∃ v' w', (Builtin.append_ #[t, u] ty #[v, x]).run P w = .ok v' w' ∧ w'.ownsRow 0 e size v' (n + m) (xs ++ news) ∧ w.grownBy w' v.ownBlock ∧ (v'.ownBlock = v.ownBlock ∨ v'.ownBlock = some w.heap.size) ∧
      (∀ b k, b < w.heap.size → (v.ownBlock = some b → k < n * size) → w'.cell? ⟨b, k, none⟩ = w.cell? ⟨b, k, none⟩) := by
  subst hsize
  have hbyt : (n + m) * i.bytes ≤ 140737488355328 := Nat.le_trans (Nat.mul_le_mul hb hby) (by decide)
  have hlen' : (xs ++ news).length = (n + m) * i.size := by rw [List.length_append, hown.1, hl, Nat.add_mul]
  -- the arm that grows
  have grow : ∀ (old : Nat) (base : Option Addr), old < n + m → (∀ W : World, W.heap = w.heap → (Builtin.firstCells i.size n (.slice base n old)).run P W = .ok xs.toArray W) →
      (Builtin.append_ #[t, u] ty #[.slice base n old, x]).run P w = .ok (.slice (some ⟨w.heap.size, 0, none⟩) (n + m) (grownCap w (n + m) old e))
        (w.drew.alloc (.cells (xs.toArray ++ news.toArray ++ Builtin.zeroCells z.cells (grownCap w (n + m) old e - (n + m))) e)) := by
    intro old base ho hxs
    have a1 : ¬ n + m ≤ old := by omega
    have a2 : ¬ (9223372036854775807 < ((n : Int) + (m : Int))) := by omega
    have a3 : ¬ (281474976710656 < Builtin.nextslicecap (n + m) old * i.bytes) := by have := growslice_fits (old := old) (by omega) hbyt; omega
    have hf := hfc w.drew rfl
    have hf2 := hxs w.drew rfl
    rcases hd with ⟨e', rfl⟩ | rfl <;> simp [Builtin.append_, run_underlying ht, run_underlying hu, sizeOf, typeInfo, zeroValue, hi, hz, hlen, a1, a2, a3, Question.forced, hf, hf2, newRow, grownCap]
    all_goals
      congr 2
      apply Array.ext'
      simp only [Array.toList_append, List.append_assoc]
  have grown : ∀ (old : Nat), old < n + m → ∀ (row : Option Nat),
      (w.drew.alloc (.cells (xs.toArray ++ news.toArray ++ Builtin.zeroCells z.cells (grownCap w (n + m) old e - (n + m))) e)).ownsRow 0 e i.size
        (.slice (some ⟨w.heap.size, 0, none⟩) (n + m) (grownCap w (n + m) old e)) (n + m) (xs ++ news) := by
    intro old ho row
    have hge := grownCap_ge w (n + m) old e
    have hcm : grownCap w (n + m) old e ≤ maxLen := grownCap_le_maxLen w (n + m) old e (by unfold maxLen; omega)
    refine ⟨hlen', .inr ⟨w.heap.size, _, _, rfl, Nat.zero_le _, heap_new w.drew _, hge, hcm, ?_, ?_⟩⟩
    · rw [Array.size_append, size_zeroCells, hzs, Array.size_append, List.size_toArray, List.size_toArray, hown.1, hl, ← Nat.add_mul, ← Nat.add_mul]
      congr 1
      omega
    · rw [← hlen', Array.toList_append, Array.toList_append]
      exact List.take_left
  have keepG : ∀ (o : Obj) (row : Option Nat), w.grownBy (w.drew.alloc o) row := fun o row => ⟨rfl, rfl, rfl, by simp, fun k hk _ => heap_old (w := w.drew) hk⟩
  have keepC : ∀ (o : Obj) (b k : Nat), b < w.heap.size → (w.drew.alloc o).cell? ⟨b, k, none⟩ = w.cell? ⟨b, k, none⟩ := fun o b k hb => World.cell?_of_block (w := w) (heap_old (w := w.drew) hb)
  rcases hown.2 with ⟨rfl, rfl⟩ | ⟨g, cap, cur, rfl, hbg, hg, hnc, hcm, hcs, htake⟩
  · have hx : xs = [] := List.eq_nil_of_length_eq_zero (by simpa using hown.1)
    subst hx
    by_cases hm : m = 0
    · subst hm
      have hn : news = [] := List.eq_nil_of_length_eq_zero (by simpa using hl)
      subst hn
      refine ⟨.slice none 0 0, w, ?_, World.ownsRow_nil w 0 e i.size, ⟨rfl, rfl, rfl, Nat.le_refl _, fun _ _ _ => rfl⟩, .inl rfl, fun _ _ _ _ => rfl⟩
      have hf := hfc w rfl
      rcases hd with ⟨e', rfl⟩ | rfl <;> simp [Builtin.append_, run_underlying ht, run_underlying hu, sizeOf, typeInfo, hi, hlen, hf]
    · have hr := grow 0 none (by omega) (fun W _ => by simp [Builtin.firstCells])
      exact ⟨_, _, hr, grown 0 (by omega) none, keepG _ _, .inr rfl, fun b k hb _ => keepC _ b k hb⟩
  · by_cases hroom : n + m ≤ cap
    · have hfit : n * i.size + news.length ≤ cur.size := by rw [hl, hcs, ← Nat.add_mul]; exact Nat.mul_le_mul_right _ hroom
      have hst := run_storeCells_at P g (n * i.size) e news 0 cur w hg (by simpa using hfit) h1
      simp only [Nat.add_zero] at hst
      have hf := hfc w rfl
      have hr : (Builtin.append_ #[t, u] ty #[.slice (some ⟨g, 0, none⟩) n cap, x]).run P w =
          .ok (.slice (some ⟨g, 0, none⟩) (n + m) cap) (w.setRow g (cur.toList.take (n * i.size) ++ news ++ cur.toList.drop (n * i.size + news.length)).toArray) := by
        rcases hd with ⟨e', rfl⟩ | rfl <;> simp [Builtin.append_, run_underlying ht, run_underlying hu, sizeOf, typeInfo, hi, hlen, hroom, hf, Addr.add_lit, hst]
      have hrow := setRow_heap w g cur (cur.toList.take (n * i.size) ++ news ++ cur.toList.drop (n * i.size + news.length)).toArray e _ hg
      have hlt : g < w.heap.size := (Array.getElem?_eq_some_iff.1 hg).1
      refine ⟨_, _, hr, ⟨hlen', .inr ⟨g, cap, _, rfl, hbg, hrow, hroom, hcm, ?_, ?_⟩⟩, ⟨rfl, rfl, rfl, by simp, fun k _ hk => setRow_other w g k _ (fun e => hk (by simp [Value.ownBlock, e]))⟩, .inl rfl, fun b k hb hk => ?_⟩
      · simp only [List.size_toArray, List.length_append, List.length_take, List.length_drop, Array.length_toList]
        omega
      · rw [htake, ← hlen']
        exact List.take_left
      · by_cases hbg' : b = g
        · subst hbg'
          have hk' := hk rfl
          simp only [World.cell?, hrow, hg]
          have h2 : k < cur.size := by omega
          have h3 : k < (cur.toList.take (n * i.size)).length := by rw [List.length_take, Array.length_toList]; omega
          rw [List.append_assoc]
          simp only [Option.isSome_none, Bool.false_eq_true, if_false]
          rw [List.getElem?_toArray, List.getElem?_append_left h3, List.getElem?_take, if_pos hk', Array.getElem?_toList]
        · exact World.cell?_of_block (w := w) (setRow_other w g b _ hbg')
    · have hr := grow cap (some ⟨g, 0, none⟩) (by omega) (fun W hW => by
        have : ∀ j u, xs[j]? = some u → W.cell? ((⟨g, 0, none⟩ : Addr).add j) = some u := fun j u hj => by
          rw [show W.cell? ((⟨g, 0, none⟩ : Addr).add j) = w.cell? ((⟨g, 0, none⟩ : Addr).add j) from by simp only [World.cell?, hW]]
          exact hown.cells (g := g) rfl j u hj
        have h2 := run_loadCells_list (P := P) W (⟨g, 0, none⟩ : Addr) xs this
        rw [hown.1] at h2
        simpa [Builtin.firstCells] using h2)
      exact ⟨_, _, hr, grown cap (by omega) none, keepG _ _, .inr rfl, fun b k hb _ => keepC _ b k hb⟩
end
section
variable {w w' : World} {g : Gh} {ob : List Ob}
def Gh.grow (g : Gh) (id : Nat) (vb : Option Nat) : Gh := ⟨g.A, fun b => if vb = some b then some id else if g.G b = some id ∧ g.sub b = false then none else g.G b, g.loc, g.sub⟩
theorem Gh.grow_self {id : Nat} {vb : Option Nat} {b : Nat} (h : vb = some b) : (g.grow id vb).G b = some id := by
  show (if vb = some b then some id else _) = _
  rw [if_pos h]
theorem Gh.grow_of {id : Nat} {vb : Option Nat} {b i : Nat} (h : (g.grow id vb).G b = some i) : (vb = some b ∧ i = id) ∨ (g.G b = some i ∧ (i = id → g.sub b = true)) := by
  have h : (if vb = some b then some id else if g.G b = some id ∧ g.sub b = false then none else g.G b) = some i := h
  split at h
  · rename_i e; exact .inl ⟨e, (Option.some.inj h).symm⟩
  · split at h
    · cases h
    · rename_i h2
      refine .inr ⟨h, fun e => ?_⟩
      cases hs : g.sub b with
      | true => rfl
      | false => exact absurd ⟨e ▸ h, hs⟩ h2
theorem Mem.grow_sub (M : Mem w g ob) {id : Nat} {row vb : Option Nat} (hrow : ∀ b, row = some b → g.G b = some id ∧ g.sub b = false) (hvb : ∀ b, vb = some b → row = some b ∨ (w.heap.size ≤ b ∧ b < w'.heap.size))
    {b i : Nat} (h : g.G b = some i) (hs : g.sub b = true) : (g.grow id vb).G b = some i := by
  have h1 : vb ≠ some b := fun e => by
    rcases hvb b e with h2 | h2
    · rw [(hrow b h2).2] at hs; cases hs
    · have := (M.own b i h).1; omega
  show (if vb = some b then some id else if g.G b = some id ∧ g.sub b = false then none else g.G b) = _
  rw [if_neg h1, if_neg (fun h2 => by rw [h2.2] at hs; cases hs)]
  exact h
theorem Mem.grow_ne (M : Mem w g ob) {id : Nat} {row vb : Option Nat} (hrow : ∀ b, row = some b → g.G b = some id ∧ g.sub b = false) (hvb : ∀ b, vb = some b → row = some b ∨ (w.heap.size ≤ b ∧ b < w'.heap.size))
    {b i : Nat} (h : g.G b = some i) (hi : i ≠ id) : (g.grow id vb).G b = some i := by
  have h1 : vb ≠ some b := fun e => by
    rcases hvb b e with h2 | h2
    · have := (hrow b h2).1.symm.trans h
      exact hi (Option.some.inj this).symm
    · have := (M.own b i h).1; omega
  show (if vb = some b then some id else if g.G b = some id ∧ g.sub b = false then none else g.G b) = _
  rw [if_neg h1, if_neg (fun h2 => hi (Option.some.inj (h.symm.trans h2.1)))]
  exact h
theorem Mem.grow (M : Mem w g ob) {id et sz ep : Nat} {fz fz' : Bool} {xs xs' : List AV} (h : ob[id]? = some (.row et sz fz ep xs)) (hfz : fz = true → fz' = true)
    {row vb : Option Nat} {n : Nat} (hg : w.grownBy w' row) (hrow : ∀ b, row = some b → g.G b = some id ∧ g.sub b = false) (hvb : ∀ b, vb = some b → row = some b ∨ (w.heap.size ≤ b ∧ b < w'.heap.size))
    (hc : ∀ b k, b < w.heap.size → (row = some b → k < n * sz) → w'.cell? ⟨b, k, none⟩ = w.cell? ⟨b, k, none⟩)
    (hn : fz = true → xs.length ≤ n) (hlen : fz = true → xs.length ≤ xs'.length) (hw : ∀ x ∈ xs', x.cells.length = sz) :
    Ext w g ob w' (g.grow id vb) (ob.set id (.row et sz fz' (ep + 1) xs')) ∧ Mem w' (g.grow id vb) (ob.set id (.row et sz fz' (ep + 1) xs')) := by
  have hid := lt_of_some h
  have hne : ∀ {b i : Nat}, g.G b = some i → i ≠ id → (g.grow id vb).G b = some i := fun h1 h2 => M.grow_ne hrow hvb h1 h2
  have hlt2 : ∀ b, vb = some b → b < w'.heap.size := fun b hb => by
    rcases hvb b hb with h1 | h1
    · exact Nat.lt_of_lt_of_le (M.own b id (hrow b h1).1).1 hg.size
    · exact h1.2
  have ne : ∀ {b i : Nat}, g.G b = some i → i ≠ id → some b ≠ row := by
    rintro b i h1 h2 h3
    rw [(hrow b h3.symm).1] at h1
    exact h2 (by simpa using h1.symm)
  have hA : ∀ b o, g.A b o → w'.cell? ⟨b, o, none⟩ = w.cell? ⟨b, o, none⟩ := fun b o hA => by
    obtain ⟨h1, h2⟩ := M.imm b o hA
    refine hc b o h1 fun hb => ?_
    obtain ⟨et', sz', e', xs2, h3, h4⟩ := h2 id (hrow b hb).1 (hrow b hb).2
    rw [h] at h3
    obtain ⟨rfl, rfl, rfl, rfl, rfl⟩ : et = et' ∧ sz = sz' ∧ fz = true ∧ ep = e' ∧ xs = xs2 := by simpa using h3
    exact Nat.lt_of_lt_of_le h4 (Nat.mul_le_mul_right _ (hn rfl))
  have E : Ext w g ob w' (g.grow id vb) (ob.set id (.row et sz fz' (ep + 1) xs')) := by
    refine ⟨fun b o h => ⟨h, hA b o h⟩, fun _ _ => rfl, fun i hi => ?_, fun i hi => ?_, fun i et' sz' fz2 e xs2 hi => ?_, fun _ _ _ _ => ⟨rfl, fun _ _ h => h⟩⟩
    · have : i ≠ id := by rintro rfl; rw [h] at hi; exact hi
      rw [List.getElem?_set_ne (Ne.symm this)]; exact hi
    · have : i ≠ id := by rintro rfl; rw [h] at hi; exact hi
      rw [List.getElem?_set_ne (Ne.symm this)]; exact hi
    · by_cases e' : i = id
      · subst e'
        rw [h] at hi
        obtain ⟨rfl, rfl, rfl, rfl, rfl⟩ : et = et' ∧ sz = sz' ∧ fz = fz2 ∧ ep = e ∧ xs = xs2 := by simpa using hi
        exact ⟨fz', ep + 1, xs', List.getElem?_set_self hid, by omega, fun h => by omega⟩
      · refine ⟨fz2, e, xs2, by rw [List.getElem?_set_ne (Ne.symm e')]; exact hi, Nat.le_refl _, fun _ => ⟨rfl, fun b hG => ?_⟩⟩
        have hlt := (M.own _ _ hG).1
        exact ⟨hne hG e', hg.block b hlt (ne hG e')⟩
  refine ⟨E, fun i cs hi => ?_, fun i cs hi j u hj => ?_, fun i s p hi => ?_, fun b i hG => ?_, fun b o hA' => ?_, fun i et' sz' fz2 e xs2 hi => ?_, fun b hs => ?_, fun b b' i h1 h2 hs hs' => ?_⟩
  · have e' : i ≠ id := by rintro rfl; rw [List.getElem?_set_self hid] at hi; cases hi
    rw [List.getElem?_set_ne (Ne.symm e')] at hi
    obtain ⟨h1, cur, T, h2, h3⟩ := M.box i cs hi
    have hlt := (M.own _ _ h1).1
    exact ⟨hne h1 e', cur, T, (hg.block _ hlt (ne h1 e')).trans h2, h3.ext E⟩
  · have e' : i ≠ id := by rintro rfl; rw [List.getElem?_set_self hid] at hi; cases hi
    rw [List.getElem?_set_ne (Ne.symm e')] at hi
    obtain ⟨h1, y, h2, h3⟩ := M.fbox i cs hi j u hj
    exact ⟨h1, y, (hA _ _ h1).trans h2, h3.keep E.A⟩
  · have e' : i ≠ id := by rintro rfl; rw [List.getElem?_set_self hid] at hi; cases hi
    rw [List.getElem?_set_ne (Ne.symm e')] at hi
    obtain ⟨h1, h2⟩ := M.iter i s p hi
    have hlt := (M.own _ _ h1).1
    exact ⟨hne h1 e', (hg.block _ hlt (ne h1 e')).trans h2⟩
  · rw [List.length_set]
    rcases Gh.grow_of hG with ⟨h1, rfl⟩ | ⟨h1, _⟩
    · exact ⟨hlt2 b h1, hid⟩
    · exact ⟨Nat.lt_of_lt_of_le (M.own b i h1).1 hg.size, (M.own b i h1).2⟩
  · obtain ⟨h1, h2⟩ := M.imm b o hA'
    refine ⟨Nat.lt_of_lt_of_le h1 hg.size, fun i hG hs => ?_⟩
    have hG : g.G b = some i := by
      rcases Gh.grow_of hG with ⟨h3, rfl⟩ | ⟨h3, _⟩
      · rcases hvb b h3 with h4 | h4
        · exact (hrow b h4).1
        · omega
      · exact h3
    obtain ⟨et', sz', e, xs2, h3, h4⟩ := h2 i hG hs
    by_cases e' : i = id
    · subst e'
      rw [h] at h3
      obtain ⟨rfl, rfl, rfl, rfl, rfl⟩ : et = et' ∧ sz = sz' ∧ fz = true ∧ ep = e ∧ xs = xs2 := by simpa using h3
      exact ⟨et, sz, ep + 1, xs', by rw [List.getElem?_set_self hid, hfz rfl], Nat.lt_of_lt_of_le h4 (Nat.mul_le_mul_right _ (hlen rfl))⟩
    · exact ⟨et', sz', e, xs2, by rw [List.getElem?_set_ne (Ne.symm e')]; exact h3, h4⟩
  · by_cases e' : i = id
    · subst e'
      rw [List.getElem?_set_self hid] at hi
      obtain ⟨rfl, rfl, rfl, rfl, rfl⟩ : et = et' ∧ sz = sz' ∧ fz' = fz2 ∧ ep + 1 = e ∧ xs' = xs2 := by simpa using hi
      exact ⟨(M.roww _ _ _ _ _ _ h).1, hw⟩
    · rw [List.getElem?_set_ne (Ne.symm e')] at hi; exact M.roww i et' sz' fz2 e xs2 hi
  · obtain ⟨i, et', sz', fz2, e, xs2, h3, h4⟩ := M.nsub b hs
    have h5 : (g.grow id vb).G b = some i := M.grow_sub hrow hvb h3 hs
    by_cases e' : i = id
    · subst e'
      exact ⟨i, _, _, _, _, _, h5, List.getElem?_set_self hid⟩
    · exact ⟨i, et', sz', fz2, e, xs2, h5, by rw [List.getElem?_set_ne (Ne.symm e')]; exact h4⟩
  · rcases Gh.grow_of h1 with ⟨h3, rfl⟩ | ⟨h3, h4⟩
    · rcases Gh.grow_of h2 with ⟨h5, _⟩ | ⟨h5, h6⟩
      · exact Option.some.inj (h3.symm.trans h5)
      · have := h6 rfl
        rw [show g.sub b' = false from hs'] at this; cases this
    · rcases Gh.grow_of h2 with ⟨h5, rfl⟩ | ⟨h5, h6⟩
      · have := h4 rfl
        rw [show g.sub b = false from hs] at this; cases this
      · exact M.uniq b b' i h3 h5 hs hs'
end
end Go.Proofs.Ytblafdmmebiagaa
namespace Go.Proofs.Ytblafdmmebiagaa
open Go.RowKit Go.Lib
section
variable {w : World} {g : Gh} {ob : List Ob}
structure GhLe (g g' : Gh) (ob ob' : List Ob) : Prop where
  A : ∀ b o, g'.A b o → g.A b o ∨ ∃ id, g.G b = some id
  G : ∀ b id, g'.G b = some id → g.G b = some id
  loc : g'.loc = g.loc
  len : ob'.length = ob.length
theorem GhLe.refl : GhLe g g ob ob := ⟨fun _ _ h => .inl h, fun _ _ h => h, rfl, rfl⟩
theorem GhLe.trans {g1 g2 g3 : Gh} {o1 o2 o3 : List Ob} (h : GhLe g1 g2 o1 o2) (k : GhLe g2 g3 o2 o3) : GhLe g1 g3 o1 o3 :=
  ⟨fun b o h3 => by
    rcases k.A b o h3 with h2 | ⟨id, h2⟩
    · exact h.A b o h2
    · exact .inr ⟨id, h.G b id h2⟩, fun b id h3 => h.G b id (k.G b id h3), k.loc.trans h.loc, k.len.trans h.len⟩
theorem Ext.trans {w1 w2 w3 : World} {g1 g2 g3 : Gh} {o1 o2 o3 : List Ob} (h : Ext w1 g1 o1 w2 g2 o2) (k : Ext w2 g2 o2 w3 g3 o3) (hl : o1.length ≤ o2.length) : Ext w1 g1 o1 w3 g3 o3 := by
  refine ⟨fun b o hA => ⟨(k.A b o (h.A b o hA).1).1, (k.A b o (h.A b o hA).1).2.trans (h.A b o hA).2⟩, fun id hid => (k.loc id (by omega)).trans (h.loc id hid), fun id hi => k.isb id (h.isb id hi), fun id hi => k.isi id (h.isi id hi), fun id et sz fz e xs hr => ?_, fun b id hG hs => ?_⟩
  rotate_left
  · obtain ⟨et, sz, fz, fz', e, xs, xs', hr, hr'⟩ := hs
    obtain ⟨fz2, e2, xs2, h1, h2, h3⟩ := h.row id et sz fz e xs hr
    obtain ⟨fz3, e3, xs3, h4, h5, h6⟩ := k.row id et sz fz2 e2 xs2 h1
    rw [h4] at hr'
    obtain ⟨rfl, rfl, rfl⟩ : fz3 = fz' ∧ e3 = e ∧ xs3 = xs' := by simpa using hr'
    obtain rfl : e2 = e3 := by omega
    obtain ⟨h7, h8⟩ := h.sub b id hG ⟨_, _, _, _, _, _, _, hr, h1⟩
    obtain ⟨h9, h10⟩ := k.sub b id ((h3 rfl).2 b hG).1 ⟨_, _, _, _, _, _, _, h1, h4⟩
    exact ⟨h9.trans h7, fun hsb o hA => h8 hsb o (h10 (h7.trans hsb) o hA)⟩
  obtain ⟨fz2, e2, xs2, h1, h2, h3⟩ := h.row id et sz fz e xs hr
  obtain ⟨fz3, e3, xs3, h4, h5, h6⟩ := k.row id et sz fz2 e2 xs2 h1
  refine ⟨fz3, e3, xs3, h4, by omega, fun he => ?_⟩
  obtain ⟨rfl, h7⟩ := h3 (by omega)
  obtain ⟨rfl, h8⟩ := h6 (by omega)
  exact ⟨rfl, fun b hG => ⟨(h8 b (h7 b hG).1).1, (h8 b (h7 b hG).1).2.trans (h7 b hG).2⟩⟩
def Gh.frz (g : Gh) (b n : Nat) : Gh := ⟨fun b' o => g.A b' o ∨ (b' = b ∧ o < n), g.G, g.loc, g.sub⟩
theorem freeze_row (M : Mem w g ob) {id et sz ep : Nat} {fz : Bool} {xs : List AV} (h : ob[id]? = some (.row et sz fz ep xs)) {v : Value} {ys : List AV} (hv : RowV w g id et sz v ys) (hl : ys.length ≤ xs.length) :
    ∃ g', Mem w g' (ob.set id (.row et sz true ep xs)) ∧ Ext w g ob w g' (ob.set id (.row et sz true ep xs)) ∧ PRel w g'.A v (.slc sz ys) ∧ GhLe g g' ob (ob.set id (.row et sz true ep xs)) := by
  have hid := lt_of_some h
  -- whatever the cells that are frozen: those of one block of this row
  have key : ∀ (b n : Nat), g.G b = some id → g.sub b = false → b < w.heap.size → n ≤ xs.length * sz →
      Mem w (g.frz b n) (ob.set id (.row et sz true ep xs)) ∧ Ext w g ob w (g.frz b n) (ob.set id (.row et sz true ep xs)) ∧ GhLe g (g.frz b n) ob (ob.set id (.row et sz true ep xs)) := by
    intro b n hG hsb hb hn
    have E : Ext w g ob w (g.frz b n) (ob.set id (.row et sz true ep xs)) := by
      refine ⟨fun b o h => ⟨.inl h, rfl⟩, fun _ _ => rfl, fun i hi => ?_, fun i hi => ?_, fun i et' sz' fz2 e xs2 hi => ?_, fun b' _ _ _ => ⟨rfl, fun h1 _ h2 => h2.resolve_right fun h3 => by rw [h3.1, hsb] at h1; cases h1⟩⟩
      · have : i ≠ id := by rintro rfl; rw [h] at hi; exact hi
        rw [List.getElem?_set_ne (Ne.symm this)]; exact hi
      · have : i ≠ id := by rintro rfl; rw [h] at hi; exact hi
        rw [List.getElem?_set_ne (Ne.symm this)]; exact hi
      · by_cases e' : i = id
        · subst e'
          rw [h] at hi
          obtain ⟨rfl, rfl, rfl, rfl, rfl⟩ : et = et' ∧ sz = sz' ∧ fz = fz2 ∧ ep = e ∧ xs = xs2 := by simpa using hi
          exact ⟨true, ep, xs, List.getElem?_set_self hid, Nat.le_refl _, fun _ => ⟨rfl, fun b hG => ⟨hG, rfl⟩⟩⟩
        · exact ⟨fz2, e, xs2, by rw [List.getElem?_set_ne (Ne.symm e')]; exact hi, Nat.le_refl _, fun _ => ⟨rfl, fun b hG => ⟨hG, rfl⟩⟩⟩
    refine ⟨⟨fun i cs hi => ?_, fun i cs hi j u hj => ?_, fun i s p hi => ?_, fun b i hG => ⟨(M.own b i hG).1, by rw [List.length_set]; exact (M.own b i hG).2⟩, fun b' o hA => ?_, fun i et' sz' fz2 e xs2 hi => ?_, fun b' hs => ?_, M.uniq⟩, E,
      ⟨fun b' o hA => hA.imp_right fun ⟨h1, _⟩ => ⟨id, h1 ▸ hG⟩, fun _ _ h => h, rfl, by simp⟩⟩
    · have e' : i ≠ id := by rintro rfl; rw [List.getElem?_set_self hid] at hi; cases hi
      rw [List.getElem?_set_ne (Ne.symm e')] at hi
      obtain ⟨h1, cur, T, h2, h3⟩ := M.box i cs hi
      exact ⟨h1, cur, T, h2, h3.ext E⟩
    · have e' : i ≠ id := by rintro rfl; rw [List.getElem?_set_self hid] at hi; cases hi
      rw [List.getElem?_set_ne (Ne.symm e')] at hi
      obtain ⟨h1, y, h2, h3⟩ := M.fbox i cs hi j u hj
      exact ⟨.inl h1, y, h2, h3.keep E.A⟩
    · have e' : i ≠ id := by rintro rfl; rw [List.getElem?_set_self hid] at hi; cases hi
      rw [List.getElem?_set_ne (Ne.symm e')] at hi
      exact M.iter i s p hi
    · rcases hA with hA | ⟨rfl, ho⟩
      · obtain ⟨h1, h2⟩ := M.imm b' o hA
        refine ⟨h1, fun i hGi hs => ?_⟩
        obtain ⟨et', sz', e, xs2, h3, h4⟩ := h2 i hGi hs
        by_cases e' : i = id
        · subst e'
          rw [h] at h3
          obtain ⟨rfl, rfl, rfl, rfl, rfl⟩ : et = et' ∧ sz = sz' ∧ fz = true ∧ ep = e ∧ xs = xs2 := by simpa using h3
          exact ⟨et, sz, ep, xs, List.getElem?_set_self hid, h4⟩
        · exact ⟨et', sz', e, xs2, by rw [List.getElem?_set_ne (Ne.symm e')]; exact h3, h4⟩
      · refine ⟨hb, fun i hGi _ => ?_⟩
        have hGi : g.G b' = some i := hGi
        rw [hG] at hGi
        obtain rfl : id = i := by simpa using hGi
        exact ⟨et, sz, ep, xs, List.getElem?_set_self hid, by omega⟩
    · by_cases e' : i = id
      · subst e'
        rw [List.getElem?_set_self hid] at hi
        obtain ⟨rfl, rfl, rfl, rfl, rfl⟩ : et = et' ∧ sz = sz' ∧ true = fz2 ∧ ep = e ∧ xs = xs2 := by simpa using hi
        exact M.roww _ _ _ _ _ _ h
      · rw [List.getElem?_set_ne (Ne.symm e')] at hi; exact M.roww i et' sz' fz2 e xs2 hi
    · obtain ⟨i, et', sz', fz2, e, xs2, h3, h4⟩ := M.nsub b' hs
      by_cases e' : i = id
      · subst e'
        exact ⟨i, _, _, _, _, _, h3, List.getElem?_set_self hid⟩
      · exact ⟨i, et', sz', fz2, e, xs2, h3, by rw [List.getElem?_set_ne (Ne.symm e')]; exact h4⟩
  obtain ⟨zs, ho, hG, hal, hw, hsub⟩ := hv
  rcases ho.2 with ⟨rfl, h0⟩ | ⟨b, cap, cur, rfl, h3, h4, h5, h6, h7, h8⟩
  · have hys : ys = [] := List.eq_nil_of_length_eq_zero h0
    subst hys
    -- nothing is frozen: some block, no cell
    have E : Mem w g (ob.set id (.row et sz true ep xs)) ∧ Ext w g ob w g (ob.set id (.row et sz true ep xs)) ∧ GhLe g g ob (ob.set id (.row et sz true ep xs)) := by
      have E : Ext w g ob w g (ob.set id (.row et sz true ep xs)) := by
        refine ⟨fun b o h => ⟨h, rfl⟩, fun _ _ => rfl, fun i hi => ?_, fun i hi => ?_, fun i et' sz' fz2 e xs2 hi => ?_, fun _ _ _ _ => ⟨rfl, fun _ _ h => h⟩⟩
        · have : i ≠ id := by rintro rfl; rw [h] at hi; exact hi
          rw [List.getElem?_set_ne (Ne.symm this)]; exact hi
        · have : i ≠ id := by rintro rfl; rw [h] at hi; exact hi
          rw [List.getElem?_set_ne (Ne.symm this)]; exact hi
        · by_cases e' : i = id
          · subst e'
            rw [h] at hi
            obtain ⟨rfl, rfl, rfl, rfl, rfl⟩ : et = et' ∧ sz = sz' ∧ fz = fz2 ∧ ep = e ∧ xs = xs2 := by simpa using hi
            exact ⟨true, ep, xs, List.getElem?_set_self hid, Nat.le_refl _, fun _ => ⟨rfl, fun b hG => ⟨hG, rfl⟩⟩⟩
          · exact ⟨fz2, e, xs2, by rw [List.getElem?_set_ne (Ne.symm e')]; exact hi, Nat.le_refl _, fun _ => ⟨rfl, fun b hG => ⟨hG, rfl⟩⟩⟩
      refine ⟨⟨fun i cs hi => ?_, fun i cs hi j u hj => ?_, fun i s p hi => ?_, fun b i hG => ⟨(M.own b i hG).1, by rw [List.length_set]; exact (M.own b i hG).2⟩, fun b' o hA => ?_, fun i et' sz' fz2 e xs2 hi => ?_, fun b' hs => ?_, M.uniq⟩, E, ⟨fun _ _ h => .inl h, fun _ _ h => h, rfl, by simp⟩⟩
      · have e' : i ≠ id := by rintro rfl; rw [List.getElem?_set_self hid] at hi; cases hi
        rw [List.getElem?_set_ne (Ne.symm e')] at hi
        obtain ⟨h1, cur, T, h2, h3⟩ := M.box i cs hi
        exact ⟨h1, cur, T, h2, h3.ext E⟩
      · have e' : i ≠ id := by rintro rfl; rw [List.getElem?_set_self hid] at hi; cases hi
        rw [List.getElem?_set_ne (Ne.symm e')] at hi
        exact M.fbox i cs hi j u hj
      · have e' : i ≠ id := by rintro rfl; rw [List.getElem?_set_self hid] at hi; cases hi
        rw [List.getElem?_set_ne (Ne.symm e')] at hi
        exact M.iter i s p hi
      · obtain ⟨h1, h2⟩ := M.imm b' o hA
        refine ⟨h1, fun i hGi hs => ?_⟩
        obtain ⟨et', sz', e, xs2, h3, h4⟩ := h2 i hGi hs
        by_cases e' : i = id
        · subst e'
          rw [h] at h3
          obtain ⟨rfl, rfl, rfl, rfl, rfl⟩ : et = et' ∧ sz = sz' ∧ fz = true ∧ ep = e ∧ xs = xs2 := by simpa using h3
          exact ⟨et, sz, ep, xs, List.getElem?_set_self hid, h4⟩
        · exact ⟨et', sz', e, xs2, by rw [List.getElem?_set_ne (Ne.symm e')]; exact h3, h4⟩
      · by_cases e' : i = id
        · subst e'
          rw [List.getElem?_set_self hid] at hi
          obtain ⟨rfl, rfl, rfl, rfl, rfl⟩ : et = et' ∧ sz = sz' ∧ true = fz2 ∧ ep = e ∧ xs = xs2 := by simpa using hi
          exact M.roww _ _ _ _ _ _ h
        · rw [List.getElem?_set_ne (Ne.symm e')] at hi; exact M.roww i et' sz' fz2 e xs2 hi
      · obtain ⟨i, et', sz', fz2, e, xs2, h3, h4⟩ := M.nsub b' hs
        by_cases e' : i = id
        · subst e'
          exact ⟨i, _, _, _, _, _, h3, List.getElem?_set_self hid⟩
        · exact ⟨i, et', sz', fz2, e, xs2, h3, by rw [List.getElem?_set_ne (Ne.symm e')]; exact h4⟩
    exact ⟨g, E.1, E.2.1, PRel.nil _, E.2.2⟩
  · have hb : b < w.heap.size := (Array.getElem?_eq_some_iff.1 h4).1
    have hGb := hG b rfl
    obtain ⟨M', E', L'⟩ := key b (ys.length * sz) hGb (hsub.1 b rfl) hb (Nat.mul_le_mul_right _ hl)
    refine ⟨_, M', E', ?_, L'⟩
    have hal' := hal.keep E'.A
    have hfl := flat_len ys hw
    have hzl : zs.length = ys.length * sz := by rw [hal.1, hfl]
    refine PRel.slc b 0 cap sz ys (fun j => zs.getD j undef) h5 h6 hw (fun j u hu => ?_) (fun j u hu => ?_)
    · have hj := lt_of_some hu
      rw [hfl] at hj
      refine ⟨.inr ⟨rfl, by omega⟩, ?_⟩
      have := ho.cells (g := b) rfl j zs[j] (List.getElem?_eq_getElem (by omega))
      rw [Addr.add_mid, Nat.zero_add] at this
      rw [Nat.zero_add, this, List.getD_eq_getElem?_getD, List.getElem?_eq_getElem (by omega)]; rfl
    · have hj := lt_of_some hu
      rw [hfl] at hj
      have h9 : zs[j]? = some (zs.getD j undef) := by rw [List.getD_eq_getElem?_getD, List.getElem?_eq_getElem (by omega)]; rfl
      exact hal'.2 j _ u h9 hu
end
end Go.Proofs.Ytblafdmmebiagaa
namespace Go.Proofs.Ytblafdmmebiagaa
open Go.RowKit Go.Lib
section
variable {w : World} {g : Gh} {ob : List Ob}
def Gh.frzBox (g : Gh) (b n : Nat) : Gh := ⟨fun b' o => g.A b' o ∨ (b' = b ∧ o < n), fun b' => if b' = b then none else g.G b', g.loc, g.sub⟩
theorem freeze_box (M : Mem w g ob) {id : Nat} {cs us : List AV} (h : ob[id]? = some (.box cs)) (hu : ∀ (j : Nat) u, us[j]? = some u → ∃ y, w.cell? ⟨g.loc id, j, none⟩ = some y ∧ PRel w g.A y u) :
    ∃ g', Mem w g' (ob.set id (.fbox us)) ∧ Ext w g ob w g' (ob.set id (.fbox us)) ∧ GhLe g g' ob (ob.set id (.fbox us)) ∧
      ∀ (j : Nat) u, us[j]? = some u → g'.A (g.loc id) j ∧ ∃ y, w.cell? ⟨g.loc id, j, none⟩ = some y ∧ PRel w g'.A y u := by
  have hid := lt_of_some h
  obtain ⟨hG, cur, T, hh, hc⟩ := M.box id cs h
  have hb := (M.own _ _ hG).1
  have ne : ∀ {b i : Nat}, g.G b = some i → i ≠ id → b ≠ g.loc id := by
    rintro b i h1 h2 rfl
    rw [hG] at h1
    exact h2 (by simpa using h1.symm)
  have G' : ∀ {b i : Nat}, g.G b = some i → i ≠ id → (g.frzBox (g.loc id) us.length).G b = some i := fun h1 h2 => by simp only [Gh.frzBox]; rw [if_neg (ne h1 h2)]; exact h1
  have Gof : ∀ {b i : Nat}, (g.frzBox (g.loc id) us.length).G b = some i → g.G b = some i := fun {b i} h1 => by
    have h1 : (if b = g.loc id then none else g.G b) = some i := h1
    split at h1
    · cases h1
    · exact h1
  have E : Ext w g ob w (g.frzBox (g.loc id) us.length) (ob.set id (.fbox us)) := by
    refine ⟨fun b o h => ⟨.inl h, rfl⟩, fun _ _ => rfl, fun i hi => ?_, fun i hi => ?_, fun i et sz fz e xs hi => ?_, fun b i hGb hs => ⟨rfl, fun _ o h1 => h1.resolve_right fun h2 => ?_⟩⟩
    rotate_right
    · obtain ⟨et, sz, fz, fz', e, xs, xs', h3, _⟩ := hs
      rw [h2.1, hG] at hGb
      obtain rfl : id = i := by simpa using hGb
      rw [h] at h3; cases h3
    · by_cases e : i = id
      · subst e; rw [List.getElem?_set_self hid]; trivial
      · rw [List.getElem?_set_ne (Ne.symm e)]; exact hi
    · have : i ≠ id := by rintro rfl; rw [h] at hi; exact hi
      rw [List.getElem?_set_ne (Ne.symm this)]; exact hi
    · have : i ≠ id := by rintro rfl; rw [h] at hi; cases hi
      exact ⟨fz, e, xs, by rw [List.getElem?_set_ne (Ne.symm this)]; exact hi, Nat.le_refl _, fun _ => ⟨rfl, fun b hGb => ⟨G' hGb this, rfl⟩⟩⟩
  have new : ∀ (j : Nat) u, us[j]? = some u → (g.frzBox (g.loc id) us.length).A (g.loc id) j ∧ ∃ y, w.cell? ⟨g.loc id, j, none⟩ = some y ∧ PRel w (g.frzBox (g.loc id) us.length).A y u := fun j u hj => by
    obtain ⟨y, h1, h2⟩ := hu j u hj
    exact ⟨.inr ⟨rfl, lt_of_some hj⟩, y, h1, h2.keep E.A⟩
  refine ⟨_, ⟨fun i c hi => ?_, fun i c hi j u hj => ?_, fun i s p hi => ?_, fun b i hGb => ?_, fun b o hA => ?_, fun i et sz fz e xs hi => ?_, fun b hs => ?_, fun b b' i h1 h2 hs hs' => ?_⟩, E, ⟨fun b o hA => ?_, fun b i hGb => ?_, rfl, by simp⟩, new⟩
  · have e' : i ≠ id := by rintro rfl; rw [List.getElem?_set_self hid] at hi; cases hi
    rw [List.getElem?_set_ne (Ne.symm e')] at hi
    obtain ⟨h1, cur', T', h2, h3⟩ := M.box i c hi
    exact ⟨G' h1 e', cur', T', h2, h3.ext E⟩
  · by_cases e' : i = id
    · subst e'
      rw [List.getElem?_set_self hid] at hi
      obtain rfl : us = c := by simpa using hi
      exact new j u hj
    · rw [List.getElem?_set_ne (Ne.symm e')] at hi
      obtain ⟨h1, y, h2, h3⟩ := M.fbox i c hi j u hj
      exact ⟨.inl h1, y, h2, h3.keep E.A⟩
  · have e' : i ≠ id := by rintro rfl; rw [List.getElem?_set_self hid] at hi; cases hi
    rw [List.getElem?_set_ne (Ne.symm e')] at hi
    obtain ⟨h1, h2⟩ := M.iter i s p hi
    exact ⟨G' h1 e', h2⟩
  · simp only [Gh.frzBox] at hGb
    split at hGb
    · cases hGb
    · rw [List.length_set]; exact M.own b i hGb
  · rcases hA with hA | ⟨rfl, ho⟩
    · obtain ⟨h1, h2⟩ := M.imm b o hA
      refine ⟨h1, fun i hGi hs => ?_⟩
      have hne := box_apart M h hA
      simp only [Gh.frzBox] at hGi
      rw [if_neg hne] at hGi
      obtain ⟨et, sz, e, xs, h3, h4⟩ := h2 i hGi hs
      have e' : i ≠ id := by rintro rfl; rw [h] at h3; cases h3
      exact ⟨et, sz, e, xs, by rw [List.getElem?_set_ne (Ne.symm e')]; exact h3, h4⟩
    · refine ⟨hb, fun i hGi _ => ?_⟩
      simp only [Gh.frzBox, if_true] at hGi
      cases hGi
  · have e' : i ≠ id := by rintro rfl; rw [List.getElem?_set_self hid] at hi; cases hi
    rw [List.getElem?_set_ne (Ne.symm e')] at hi
    exact M.roww i et sz fz e xs hi
  · obtain ⟨i, et, sz, fz, e, xs, h3, h4⟩ := M.nsub b hs
    have e' : i ≠ id := by rintro rfl; rw [h] at h4; cases h4
    exact ⟨i, et, sz, fz, e, xs, G' h3 e', by rw [List.getElem?_set_ne (Ne.symm e')]; exact h4⟩
  · exact M.uniq b b' i (Gof h1) (Gof h2) hs hs'
  · rcases hA with hA | ⟨rfl, _⟩
    · exact .inl hA
    · exact .inr ⟨id, hG⟩
  · simp only [Gh.frzBox] at hGb
    split at hGb
    · cases hGb
    · exact hGb
def FrzOk (keep : Bool) (n : Nat) : Prop := ∀ (w : World) (g : Gh) (ob : List Ob) (v : Value) (x y : AV) (ob' : List Ob), Mem w g ob → ARel0 w g ob v x → v.oneCell' = true → frz std keep n ob x = some (y, ob') →
  ∃ g', Mem w g' ob' ∧ Ext w g ob w g' ob' ∧ ARel0 w g' ob' v y ∧ GhLe g g' ob ob' ∧ (keep = false → PRel w g'.A v y)
theorem each_sound {keep : Bool} {n : Nat} (hn : FrzOk keep n) : ∀ (cs : List AV) (vs : List Value) (w : World) (g : Gh) (ob : List Ob) (us : List AV) (ob' : List Ob), Mem w g ob → ARelC w g ob vs cs → eachM (frz std keep n) ob cs = some (us, ob') →
    ∃ g', Mem w g' ob' ∧ Ext w g ob w g' ob' ∧ ARelC w g' ob' vs us ∧ GhLe g g' ob ob' ∧ (keep = false → ∀ (j : Nat) y u, vs[j]? = some y → us[j]? = some u → PRel w g'.A y u)
  | [], vs, w, g, ob, us, ob', M, h, he => by
    obtain ⟨rfl, rfl⟩ : [] = us ∧ ob = ob' := by simpa [eachM] using he
    have hvs : vs = [] := List.eq_nil_of_length_eq_zero h.1
    subst hvs
    exact ⟨g, M, Ext.refl, h, GhLe.refl, fun _ j y u h => by simp at h⟩
  | x :: xs, vs, w, g, ob, us, ob', M, h, he => by
    cases vs with
    | nil => exact absurd h.1 (by simp)
    | cons v vs =>
      simp only [eachM] at he
      split at he
      · rename_i y ob1 h1
        split at he
        · rename_i ys ob2 h2
          obtain ⟨rfl, rfl⟩ : y :: ys = us ∧ ob2 = ob' := by simpa using he
          have hv := h.2 0 v x rfl rfl
          obtain ⟨g1, M1, E1, R1, L1, P1⟩ := hn w g ob v x y ob1 M hv.1 hv.2 h1
          have hr : ARelC w g1 ob1 vs xs := ⟨by simpa using h.1, fun j y u hy hu => ⟨(h.2 (j + 1) y u (by simpa using hy) (by simpa using hu)).1.ext E1, (h.2 (j + 1) y u (by simpa using hy) (by simpa using hu)).2⟩⟩
          obtain ⟨g2, M2, E2, R2, L2, P2⟩ := each_sound hn xs vs w g1 ob1 ys ob2 M1 hr h2
          refine ⟨g2, M2, E1.trans E2 (by rw [L1.len]; exact Nat.le_refl _), ⟨by simp [R2.1], fun j y' u hy hu => ?_⟩, L1.trans L2, fun hk j y' u hy hu => ?_⟩
          · cases j with
            | zero =>
              obtain rfl : v = y' := by simpa using hy
              obtain rfl : y = u := by simpa using hu
              exact ⟨R1.ext E2, hv.2⟩
            | succ j => exact R2.2 j y' u (by simpa using hy) (by simpa using hu)
          · cases j with
            | zero =>
              obtain rfl : v = y' := by simpa using hy
              obtain rfl : y = u := by simpa using hu
              exact (P1 hk).keep E2.A
            | succ j => exact P2 hk j y' u (by simpa using hy) (by simpa using hu)
        · cases he
      · cases he
theorem frz_ok (keep : Bool) : ∀ n, FrzOk keep n
  | 0 => fun w g ob v x y ob' M h ho he => by simp [frz] at he
  | n + 1 => fun w g ob v x y ob' M h ho he => by
    have ih := frz_ok keep n
    cases x with
    | val a =>
      obtain ⟨rfl, rfl⟩ : AV.val a = y ∧ ob = ob' := by simpa [frz] using he
      exact ⟨g, M, Ext.refl, h, GhLe.refl, fun _ => h⟩
    | kb t =>
      obtain ⟨rfl, rfl⟩ : AV.val (.bool t) = y ∧ ob = ob' := by simpa [frz] using he
      obtain rfl : v = .bool t := h
      exact ⟨g, M, Ext.refl, PRel.val _ rfl, GhLe.refl, fun _ => PRel.val _ rfl⟩
    | slc a b =>
      obtain ⟨rfl, rfl⟩ : AV.slc a b = y ∧ ob = ob' := by simpa [frz] using he
      exact ⟨g, M, Ext.refl, h, GhLe.refl, fun _ => h⟩
    | opt a =>
      obtain ⟨rfl, rfl⟩ : AV.opt a = y ∧ ob = ob' := by simpa [frz] using he
      exact ⟨g, M, Ext.refl, h, GhLe.refl, fun _ => h⟩
    | ref a =>
      obtain ⟨rfl, rfl⟩ : AV.ref a = y ∧ ob = ob' := by simpa [frz] using he
      exact ⟨g, M, Ext.refl, h, GhLe.refl, fun _ => h⟩
    | agg cs => exact h.elim
    | tup cs => exact h.elim
    | dead => simp [frz] at he
    | rptr a b c d => simp [frz] at he
    | iter a => simp [frz] at he
    | row id ep =>
      obtain ⟨_, et, sz, fz, e, xs, h1, h2, h3⟩ := h
      simp only [frz, h1] at he
      split at he
      · rename_i hep
        obtain ⟨rfl, rfl⟩ : AV.slc sz xs = y ∧ ob.set id (.row et sz true e xs) = ob' := by simpa using he
        obtain ⟨g', M', E', R', L'⟩ := freeze_row M h1 (h3 hep) (Nat.le_refl _)
        exact ⟨g', M', E', R'.to0, L', fun _ => R'⟩
      · cases he
    | rowk id ep k =>
      obtain ⟨_, et, sz, fz, e, xs, h1, h2, h3⟩ := h
      simp only [frz, h1] at he
      split at he
      · rename_i hep
        have hcut : std.cut xs 0 k = xs.take k.toNat := by simp [std]
        rw [hcut] at he
        obtain ⟨rfl, rfl⟩ : AV.slc sz (xs.take k.toNat) = y ∧ ob.set id (.row et sz true e xs) = ob' := by simpa using he
        obtain ⟨g', M', E', R', L'⟩ := freeze_row M h1 (h3 hep).2.2 (by rw [List.length_take]; omega)
        exact ⟨g', M', E', R'.to0, L', fun _ => R'⟩
      · cases he
    | box id off =>
      simp only [frz] at he
      cases keep with
      | true =>
        obtain ⟨rfl, rfl⟩ : AV.box id off = y ∧ ob = ob' := by simpa using he
        exact ⟨g, M, Ext.refl, h, GhLe.refl, fun hk => by cases hk⟩
      | false =>
        simp only [Bool.false_eq_true, if_false] at he
        obtain ⟨rfl, _⟩ := h
        split at he
        · rename_i cs hb
          obtain ⟨hG, cur, T, hh, hc⟩ := M.box id cs hb
          split at he
          · rename_i us ob1 hes
            obtain ⟨g1, M1, E1, R1, L1, P1⟩ := each_sound ih cs cur.toList w g ob us ob1 M hc hes
            split at he
            · rename_i c1 hb1
              obtain ⟨rfl, rfl⟩ : AV.ref (us.drop off) = y ∧ ob1.set id (.fbox us) = ob' := by simpa using he
              have hul : us.length = cs.length := by rw [← R1.1, hc.1]
              have hcell : ∀ (j : Nat) u, us[j]? = some u → ∃ y, w.cell? ⟨g1.loc id, j, none⟩ = some y ∧ PRel w g1.A y u := fun j u hj => by
                have hjl : j < cur.size := by have := lt_of_some hj; rw [← R1.1] at this; simpa using this
                refine ⟨cur[j], by rw [L1.loc]; simp [World.cell?, hh, hjl], P1 rfl j _ u (by simp [hjl]) hj⟩
              obtain ⟨g2, M2, E2, L2, N2⟩ := freeze_box M1 hb1 hcell
              have R : PRel w g2.A (.pointer (some ⟨g.loc id, off, none⟩)) (.ref (us.drop off)) := by
                have e1 : g1.loc id = g.loc id := by rw [L1.loc]
                refine PRel.ref _ _ _ (fun j => cur.getD (off + j) undef) (fun j u hj => ?_) (fun j u hj => ?_)
                · rw [List.getElem?_drop] at hj
                  obtain ⟨h4, y, h5, h6⟩ := N2 _ u hj
                  rw [e1] at h4 h5
                  have hjl : off + j < cur.size := by have := lt_of_some hj; rw [← R1.1] at this; simpa using this
                  refine ⟨h4, ?_⟩
                  simp [World.cell?, hh, hjl]
                · rw [List.getElem?_drop] at hj
                  obtain ⟨h4, y, h5, h6⟩ := N2 _ u hj
                  rw [e1] at h5
                  have hjl : off + j < cur.size := by have := lt_of_some hj; rw [← R1.1] at this; simpa using this
                  have h7 : cur.getD (off + j) undef = y := by
                    simp only [World.cell?, hh, Option.isSome_none, Bool.false_eq_true, if_false, Array.getElem?_eq_getElem hjl, Option.some.injEq] at h5
                    rw [Array.getD_eq_getD_getElem?, Array.getElem?_eq_getElem hjl]
                    exact h5
                  rw [h7]; exact h6
              exact ⟨g2, M2, E1.trans E2 (by rw [L1.len]; exact Nat.le_refl _), R.to0, L1.trans L2, fun _ => R⟩
            · cases he
          · cases he
        · rename_i cs hb
          obtain ⟨rfl, rfl⟩ : AV.ref (cs.drop off) = y ∧ ob = ob' := by simpa using he
          have R : PRel w g.A (.pointer (some ⟨g.loc id, off, none⟩)) (.ref (cs.drop off)) := by
            obtain ⟨l, h1, h2⟩ := list_of (q := fun j y => ∀ u, (cs.drop off)[j]? = some u → g.A (g.loc id) (off + j) ∧ w.cell? ⟨g.loc id, off + j, none⟩ = some y ∧ PRel w g.A y u) (cs.drop off).length (fun j hj => by
              have hj2 := List.getElem?_eq_getElem hj
              have hj3 := hj2
              rw [List.getElem?_drop] at hj3
              obtain ⟨h4, y, h5, h6⟩ := M.fbox id cs hb _ _ hj3
              exact ⟨y, fun u hu => by rw [hj2] at hu; cases hu; exact ⟨h4, h5, h6⟩⟩)
            have hget : ∀ (j : Nat) u, (cs.drop off)[j]? = some u → l[j]? = some (l.getD j undef) := fun j u hu => by
              have := lt_of_some hu
              rw [List.getD_eq_getElem?_getD, List.getElem?_eq_getElem (by omega)]; rfl
            exact PRel.ref _ _ _ (fun j => l.getD j undef) (fun j u hu => ⟨(h2 j _ (hget j u hu) u hu).1, (h2 j _ (hget j u hu) u hu).2.1⟩) (fun j u hu => (h2 j _ (hget j u hu) u hu).2.2)
          exact ⟨g, M, Ext.refl, R.to0, GhLe.refl, fun _ => R⟩
        · cases he
end
end Go.Proofs.Ytblafdmmebiagaa
namespace Go.Proofs.Ytblafdmmebiagaa
open Go.RowKit Go.Lib
section
variable {w w' : World} {g g' : Gh} {ob ob' : List Ob}
theorem frz1 {keep : Bool} {n : Nat} {v : Value} {x y : AV} (M : Mem w g ob) (h : ARel1 w g ob v x) (hl : x.live = true) (he : frz std keep n ob x = some (y, ob')) :
    ∃ g', Mem w g' ob' ∧ Ext w g ob w g' ob' ∧ ARel1 w g' ob' v y ∧ GhLe g g' ob ob' := by
  have go : ∀ {x : AV}, ARel0 w g ob v x → x.live = true → frz std keep n ob x = some (y, ob') → ∃ g', Mem w g' ob' ∧ Ext w g ob w g' ob' ∧ ARel1 w g' ob' v y ∧ GhLe g g' ob ob' := fun h hl he => by
    obtain ⟨g', h1, h2, h3, h4, _⟩ := frz_ok keep n w g ob v _ y ob' M h (h.one hl) he
    exact ⟨g', h1, h2, h3.to1, h4⟩
  cases x with
  | agg cs =>
    obtain ⟨vs, rfl, hc⟩ := h
    cases n with
    | zero => simp [frz] at he
    | succ n =>
      simp only [frz] at he
      obtain ⟨⟨us, ob1⟩, h1, h2⟩ := Option.map_eq_some_iff.1 he
      obtain ⟨rfl, rfl⟩ : AV.agg us = y ∧ ob1 = ob' := by simpa using h2
      obtain ⟨g', M', E', R', L', _⟩ := each_sound (frz_ok keep n) cs vs.toList w g ob us ob1 M hc h1
      exact ⟨g', M', E', ⟨vs, rfl, R'⟩, L'⟩
  | val a => exact go (x := .val a) h hl he
  | slc a b => exact go (x := .slc a b) h hl he
  | ref a => exact go (x := .ref a) h hl he
  | opt a => exact go (x := .opt a) h hl he
  | tup a => cases hl
  | box a b => exact go (x := .box a b) h hl he
  | row a b => exact go (x := .row a b) h hl he
  | rowk a b c => exact go (x := .rowk a b c) h hl he
  | rptr a b c d => exact go (x := .rptr a b c d) h hl he
  | kb a => exact go (x := .kb a) h hl he
  | iter a => exact go (x := .iter a) h hl he
  | dead => cases hl
def ARelL (w : World) (g : Gh) (ob : List Ob) (vs : List Value) (xs : List AV) : Prop := vs.length = xs.length ∧ ∀ (j : Nat) v x, vs[j]? = some v → xs[j]? = some x → ARel1 w g ob v x
theorem frz_live {keep : Bool} {n : Nat} {x y : AV} (he : frz std keep n ob x = some (y, ob')) : x.live = true := by
  cases n with
  | zero => simp [frz] at he
  | succ n => cases x <;> first | rfl | (simp [frz] at he; done)
theorem ARel.to1 {v : Value} {x : AV} (h : ARel w g ob v x) (hl : x.live = true) : ARel1 w g ob v x := by cases x <;> first | exact h | cases hl
theorem each_live {keep : Bool} {n : Nat} : ∀ (xs : List AV) (ob : List Ob) (ys : List AV) (ob' : List Ob), eachM (frz std keep n) ob xs = some (ys, ob') → ∀ x ∈ xs, x.live = true
  | [], _, _, _, _ => fun x h => by cases h
  | x :: xs, ob, ys, ob', he => by
    simp only [eachM] at he
    split at he
    · rename_i y ob1 h1
      split at he
      · rename_i ys' ob2 h2
        intro z hz
        cases hz with
        | head => exact frz_live h1
        | tail _ hz => exact each_live xs ob1 ys' ob2 h2 z hz
      · cases he
    · cases he
theorem frzL {keep : Bool} {n : Nat} : ∀ (xs : List AV) (vs : List Value) (g : Gh) (ob : List Ob) (ys : List AV) (ob' : List Ob), Mem w g ob → ARelL w g ob vs xs → eachM (frz std keep n) ob xs = some (ys, ob') →
    ∃ g', Mem w g' ob' ∧ Ext w g ob w g' ob' ∧ ARelL w g' ob' vs ys ∧ GhLe g g' ob ob'
  | [], vs, g, ob, ys, ob', M, h, he => by
    obtain ⟨rfl, rfl⟩ : [] = ys ∧ ob = ob' := by simpa [eachM] using he
    exact ⟨g, M, Ext.refl, h, GhLe.refl⟩
  | x :: xs, vs, g, ob, ys, ob', M, h, he => by
    cases vs with
    | nil => exact absurd h.1 (by simp)
    | cons v vs =>
      simp only [eachM] at he
      split at he
      · rename_i y ob1 h1
        split at he
        · rename_i ys' ob2 h2
          obtain ⟨rfl, rfl⟩ : y :: ys' = ys ∧ ob2 = ob' := by simpa using he
          have hv := h.2 0 v x rfl rfl
          have hl : x.live = true := frz_live h1
          obtain ⟨g1, M1, E1, R1, L1⟩ := frz1 M hv hl h1
          have hr : ARelL w g1 ob1 vs xs := ⟨by simpa using h.1, fun j y u hy hu => (h.2 (j + 1) y u (by simpa using hy) (by simpa using hu)).ext E1⟩
          obtain ⟨g2, M2, E2, R2, L2⟩ := frzL xs vs g1 ob1 ys' ob2 M1 hr h2
          refine ⟨g2, M2, E1.trans E2 (by rw [L1.len]; exact Nat.le_refl _), ⟨by simp [R2.1], fun j y' u hy hu => ?_⟩, L1.trans L2⟩
          cases j with
          | zero =>
            obtain rfl : v = y' := by simpa using hy
            obtain rfl : y = u := by simpa using hu
            exact R1.ext E2
          | succ j => exact R2.2 j y' u (by simpa using hy) (by simpa using hu)
        · cases he
      · cases he
theorem frzTop {keep : Bool} {n : Nat} {v : Value} {x y : AV} (M : Mem w g ob) (h : ARel w g ob v x) (he : frz std keep n ob x = some (y, ob')) :
    ∃ g', Mem w g' ob' ∧ Ext w g ob w g' ob' ∧ ARel w g' ob' v y ∧ GhLe g g' ob ob' := by
  obtain ⟨g', h1, h2, h3, h4⟩ := frz1 M (h.to1 (frz_live he)) (frz_live he) he
  exact ⟨g', h1, h2, h3.to, h4⟩
structure Step (w : World) (g : Gh) (ob : List Ob) (w' : World) (g' : Gh) (ob' : List Ob) : Prop where
  os : w'.os = w.os
  tape : w'.tape = w.tape
  output : w'.output = w.output
  size : w.heap.size ≤ w'.heap.size
  keep : ∀ b, b < w.heap.size → g.G b = none → w'.heap[b]? = w.heap[b]?
  own : ∀ b id, g'.G b = some id → (∃ id', g.G b = some id') ∨ w.heap.size ≤ b
  imm : ∀ b o, g'.A b o → g.A b o ∨ (∃ id, g.G b = some id) ∨ w.heap.size ≤ b
  ext : Ext w g ob w' g' ob'
  len : ob.length ≤ ob'.length
theorem Step.refl : Step w g ob w g ob := ⟨rfl, rfl, rfl, Nat.le_refl _, fun _ _ _ => rfl, fun _ _ h => .inl ⟨_, h⟩, fun _ _ h => .inl h, Ext.refl, Nat.le_refl _⟩
theorem Step.trans {w1 w2 w3 : World} {g1 g2 g3 : Gh} {o1 o2 o3 : List Ob} (h : Step w1 g1 o1 w2 g2 o2) (k : Step w2 g2 o2 w3 g3 o3) : Step w1 g1 o1 w3 g3 o3 := by
  have none2 : ∀ b, b < w1.heap.size → g1.G b = none → g2.G b = none := fun b hb hG => by
    cases h2 : g2.G b with
    | none => rfl
    | some id =>
      rcases h.own b id h2 with ⟨id', h3⟩ | h3
      · rw [hG] at h3; cases h3
      · omega
  refine ⟨k.os.trans h.os, k.tape.trans h.tape, k.output.trans h.output, Nat.le_trans h.size k.size, fun b hb hG => ?_, fun b id hG => ?_, fun b o hA => ?_, h.ext.trans k.ext h.len, Nat.le_trans h.len k.len⟩
  · exact (k.keep b (Nat.lt_of_lt_of_le hb h.size) (none2 b hb hG)).trans (h.keep b hb hG)
  · rcases k.own b id hG with ⟨id', h2⟩ | h2
    · exact h.own b id' h2
    · exact .inr (Nat.le_trans h.size h2)
  · rcases k.imm b o hA with h2 | ⟨id, h2⟩ | h2
    · exact h.imm b o h2
    · rcases h.own b id h2 with h3 | h3
      · exact .inr (.inl h3)
      · exact .inr (.inr h3)
    · exact .inr (.inr (Nat.le_trans h.size h2))
theorem Step.ghost (E : Ext w g ob w g' ob') (L : GhLe g g' ob ob') : Step w g ob w g' ob' :=
  ⟨rfl, rfl, rfl, Nat.le_refl _, fun _ _ _ => rfl, fun b id h => .inl ⟨id, L.G b id h⟩, fun b o h => (L.A b o h).imp_right .inl, E, by rw [L.len]; exact Nat.le_refl _⟩
def BCall (P : Program) (f : Nat) (args : List AV) (ob : List Ob) (res : AV) (ob' : List Ob) : Prop :=
  (∀ vs w, (callFunc f vs).run P w = .ok (.enter f vs) w) ∧
  ∀ (w : World) (g : Gh) (vs : List Value), Mem w g ob → ARelL w g ob vs args →
    Calls P f vs.toArray w fun e w' => ∃ v g', e = .returned v ∧ Mem w' g' ob' ∧ ARel w' g' ob' v res ∧ Step w g ob w' g' ob'
structure Sim (w0 : World) (g0 : Gh) (o0 : List Ob) (N : Nat) (s : St) (a : Act) (w : World) : Prop where
  defers : a.defers = []
  size : a.tmps.size = N
  rel : ∃ g, Mem w g s.ob ∧ Slots w g s a ∧ Step w0 g0 o0 w g s.ob
def Ex.conv : Ex → Exit
  | .normal => .normal
  | .exit i => .exit i
  | .ret => .ret
def WP (P : Program) (w0 : World) (g0 : Gh) (o0 : List Ob) (N : Nat) (c : Code) (Q : Ex → St → Prop) (s : St) : Prop :=
  ∀ a w, Sim w0 g0 o0 N s a w → c.wp P (fun e a' w' => ∃ e' s', e = e'.conv ∧ Sim w0 g0 o0 N s' a' w' ∧ Q e' s') a w
def srtV : Value → Option Srt
  | .int k _ => some (.int k)
  | .bool _ => some .boo
  | .string _ => some .str
  | _ => none
def eqV : Value → Value → Bool
  | .int _ a, .int _ b => a == b
  | .bool a, .bool b => a == b
  | .string a, .string b => a.toList == b.toList
  | _, _ => false
def EqOk (P : Program) (T : Nat) (sh : List Srt) : Prop := ∀ (xs ys : List Value) (x y : Operand) (W : World), xs.map srtV = sh.map some → ys.map srtV = sh.map some →
  (eqGuard .eql T x y (.agg xs.toArray) (.agg ys.toArray)).run P W = .ok () W ∧ (eqGuard .neq T x y (.agg xs.toArray) (.agg ys.toArray)).run P W = .ok () W ∧
  (binOp .eql T (.agg xs.toArray) (.agg ys.toArray)).run P W = .ok (.bool ((xs.zip ys).all fun q => eqV q.1 q.2)) W ∧
  (binOp .neq T (.agg xs.toArray) (.agg ys.toArray)).run P W = .ok (.bool !((xs.zip ys).all fun q => eqV q.1 q.2)) W
def Tree.ok (P : Program) (w0 : World) (g0 : Gh) (o0 : List Ob) (N : Nat) (Q : Ex → St → Prop) : Tree → Prop
  | .leaf e s => Q e s
  | .br c t f => (c = true → t.ok P w0 g0 o0 N Q) ∧ (c = false → f.ok P w0 g0 o0 N Q)
  | .need q t => q ∧ t.ok P w0 g0 o0 N Q
  | .call f args ob res ob' t => BCall P f args ob res ob' ∧ t.ok P w0 g0 o0 N Q
  | .loop body s K => WP P w0 g0 o0 N (.loop body) (fun e s' => (K e s').ok P w0 g0 o0 N Q) s
  | .both a b => a.ok P w0 g0 o0 N Q ∧ b.ok P w0 g0 o0 N Q
  | .either q a b => (q → a.ok P w0 g0 o0 N Q) ∧ b.ok P w0 g0 o0 N Q
  | .ask T sh t => EqOk P T sh ∧ t.ok P w0 g0 o0 N Q
  | .stuck _ => False
end
end Go.Proofs.Ytblafdmmebiagaa
namespace Go.Proofs.Ytblafdmmebiagaa
open Go.RowKit Go.Lib
section
variable {w w' : World} {g g' : Gh} {ob ob' : List Ob}
theorem Step.new (M : Mem w g ob) (o : Obj) (x : Ob) : Step w g ob (w.alloc o) (g.new w ob) (ob ++ [x]) := by
  refine ⟨rfl, rfl, rfl, by simp, fun b hb _ => heap_old hb, fun b id hG => ?_, fun b o h => .inl h, Ext.new M o x, by simp⟩
  simp only [Gh.new] at hG
  split at hG
  · rename_i h; exact .inr (by omega)
  · exact .inl ⟨id, hG⟩
theorem setCells_rest (b : Nat) : ∀ (vs : List Value) (o : Nat) (W : World), (W.setCells b o vs).os = W.os ∧ (W.setCells b o vs).tape = W.tape ∧ (W.setCells b o vs).output = W.output
  | [], _, _ => ⟨rfl, rfl, rfl⟩
  | v :: r, o, W => setCells_rest b r (o + 1) (W.setCell ⟨b, o, none⟩ v)
theorem Step.store (M : Mem w g ob) {id : Nat} {cs : List AV} (h : ob[id]? = some (.box cs)) (off : Nat) (vs : List Value) (us : List AV) : Step w g ob (w.setCells (g.loc id) off vs) g (ob.set id (.box us)) := by
  refine ⟨?_, ?_, ?_, by rw [size_setCells]; exact Nat.le_refl _, fun b hb hG => ?_, fun b id hG => .inl ⟨id, hG⟩, fun b o h => .inl h, Ext.store M h off vs us, by simp⟩
  · exact (setCells_rest _ _ _ _).1
  · exact (setCells_rest _ _ _ _).2.1
  · exact (setCells_rest _ _ _ _).2.2
  · have hG' := (M.box id cs h).1
    exact cell_setCells (k := 0) (fun e => by rw [e, hG'] at hG; cases hG)
theorem Step.immNew (M : Mem w g ob) (hb : Below w.heap.size w w') : Step w g ob w' (g.imm w w') ob :=
  ⟨hb.os, hb.tape, hb.output, hb.size, fun b h _ => hb.block b h, fun b id hG => .inl ⟨id, hG⟩, fun b o h => by
    rcases h with h | ⟨h, _⟩
    · exact .inl h
    · exact .inr (.inr h), Ext.immNew M hb, Nat.le_refl _⟩
theorem Step.grow (M : Mem w g ob) {id et sz ep : Nat} {fz fz' : Bool} {xs xs' : List AV} (h : ob[id]? = some (.row et sz fz ep xs))
    {row vb : Option Nat} (hg : w.grownBy w' row) (hrow : ∀ b, row = some b → g.G b = some id) (hvb : ∀ b, vb = some b → row = some b ∨ (w.heap.size ≤ b ∧ b < w'.heap.size)) (E : Ext w g ob w' (g.grow id vb) (ob.set id (.row et sz fz' (ep + 1) xs'))) :
    Step w g ob w' (g.grow id vb) (ob.set id (.row et sz fz' (ep + 1) xs')) :=
  ⟨hg.os, hg.tape, hg.output, hg.size, fun b hb hG => hg.block b hb (fun e => by rw [hrow b e.symm] at hG; cases hG), fun b i hG => by
    rcases Gh.grow_of hG with ⟨h1, _⟩ | ⟨h1, _⟩
    · rcases hvb b h1 with h2 | h2
      · exact .inl ⟨_, hrow b h2⟩
      · exact .inr h2.1
    · exact .inl ⟨i, h1⟩, fun b o h => .inl h, E, by simp⟩
end
section
variable {w : World} {g : Gh} {ob : List Ob}
theorem Ext.reRow {id et sz e : Nat} {fz : Bool} {xs : List AV} (h : ob[id]? = some (.row et sz fz e xs)) (fz' : Bool) (xs' : List AV) : Ext w g ob w g (ob.set id (.row et sz fz' (e + 1) xs')) := by
  have hid := lt_of_some h
  refine ⟨fun b o h => ⟨h, rfl⟩, fun _ _ => rfl, fun i hi => ?_, fun i hi => ?_, fun i et' sz' fz2 e2 xs2 hi => ?_, fun _ _ _ _ => ⟨rfl, fun _ _ h => h⟩⟩
  · have : i ≠ id := by rintro rfl; rw [h] at hi; exact hi
    rw [List.getElem?_set_ne (Ne.symm this)]; exact hi
  · have : i ≠ id := by rintro rfl; rw [h] at hi; exact hi
    rw [List.getElem?_set_ne (Ne.symm this)]; exact hi
  · by_cases e' : i = id
    · subst e'
      rw [h] at hi
      cases hi
      exact ⟨fz', e + 1, xs', List.getElem?_set_self hid, by omega, fun he => by omega⟩
    · exact ⟨fz2, e2, xs2, by rw [List.getElem?_set_ne (Ne.symm e')]; exact hi, Nat.le_refl _, fun _ => ⟨rfl, fun b hG => ⟨hG, rfl⟩⟩⟩
theorem Mem.reRow (M : Mem w g ob) {id et sz e : Nat} {xs : List AV} (h : ob[id]? = some (.row et sz false e xs)) {xs' : List AV} (hw : ∀ x ∈ xs', x.cells.length = sz) : Mem w g (ob.set id (.row et sz false (e + 1) xs')) := by
  have hid := lt_of_some h
  have E := Ext.reRow (w := w) (g := g) h false xs'
  refine ⟨fun i cs hi => ?_, fun i cs hi j u hj => ?_, fun i s p hi => ?_, fun b i hG => ⟨(M.own b i hG).1, by rw [List.length_set]; exact (M.own b i hG).2⟩, fun b o hA => ⟨(M.imm b o hA).1, fun i hGi hs => ?_⟩, fun i et' sz' fz2 e2 xs2 hi => ?_, fun b hs => ?_, M.uniq⟩
  · have e' : i ≠ id := by rintro rfl; rw [List.getElem?_set_self hid] at hi; cases hi
    rw [List.getElem?_set_ne (Ne.symm e')] at hi
    obtain ⟨h1, cur, T, h2, h3⟩ := M.box i cs hi
    exact ⟨h1, cur, T, h2, h3.ext E⟩
  · have e' : i ≠ id := by rintro rfl; rw [List.getElem?_set_self hid] at hi; cases hi
    rw [List.getElem?_set_ne (Ne.symm e')] at hi
    exact M.fbox i cs hi j u hj
  · have e' : i ≠ id := by rintro rfl; rw [List.getElem?_set_self hid] at hi; cases hi
    rw [List.getElem?_set_ne (Ne.symm e')] at hi
    exact M.iter i s p hi
  · obtain ⟨et', sz', e2, xs2, h3, h4⟩ := (M.imm b o hA).2 i hGi hs
    have e' : i ≠ id := by rintro rfl; rw [h] at h3; cases h3
    exact ⟨et', sz', e2, xs2, by rw [List.getElem?_set_ne (Ne.symm e')]; exact h3, h4⟩
  · by_cases e' : i = id
    · subst e'
      rw [List.getElem?_set_self hid] at hi
      cases hi
      exact ⟨(M.roww _ _ _ _ _ _ h).1, hw⟩
    · rw [List.getElem?_set_ne (Ne.symm e')] at hi
      exact M.roww i _ _ _ _ _ hi
  · obtain ⟨i, et', sz', fz2, e2, xs2, h3, h4⟩ := M.nsub b hs
    by_cases e' : i = id
    · subst e'
      exact ⟨i, _, _, _, _, _, h3, List.getElem?_set_self hid⟩
    · exact ⟨i, et', sz', fz2, e2, xs2, h3, by rw [List.getElem?_set_ne (Ne.symm e')]; exact h4⟩
end
section
variable {P : Program} {ty : Tys} {w0 : World} {g0 : Gh} {o0 : List Ob} {N : Nat} {Q : Ex → St → Prop}
def quietW (ty : Tys) : Op → Bool
  | .store _ _ _ | .next _ _ => false
  | .call { callee := .builtin .append, .. } => false
  | .call { callee := .value _, argTypes, .. } => !argTypes.toList.any (ptrT ty)
  | .convert s d _ => !(s == d && (tyLook s ty).sl)
  | _ => true
def Good (ty : Tys) (P : Program) (w0 : World) (g0 : Gh) (o0 : List Ob) (N : Nat) (Q : Ex → St → Prop) (K : St → Tree) (op : Op) (w1 : World) (a : Act) (w : World) : Prop := (quietW ty op = true → LeB w1 w) ∧ ∃ s, Sim w0 g0 o0 N s a w ∧ (K s).ok P w0 g0 o0 N Q
theorem slots_put {w w' : World} {g g' : Gh} {s : St} {ob' : List Ob} {a : Act} (hS : Slots w g s a) (E : Ext w g s.ob w' g' ob') {d : Option Nat} (hd : ∀ t, d = some t → t < a.tmps.size) {v : Value} {x : AV} (hv : ARel w' g' ob' v x) :
    Slots w' g' (St.put ⟨s.tm, ob'⟩ d x) (a.put d v) := by
  intro t
  cases d with
  | none => exact (hS t).ext E
  | some d =>
    have hlt := hd d rfl
    show ARel w' g' ob' ((a.tmps.setIfInBounds d v).getD t undef) (if t = d then x else lk t s.tm)
    by_cases e : t = d
    · subst e
      rw [if_pos rfl]
      have : (a.tmps.setIfInBounds t v).getD t undef = v := by simp [Array.getD_eq_getD_getElem?, hlt]
      rw [this]; exact hv
    · rw [if_neg e]
      have : (a.tmps.setIfInBounds d v).getD t undef = a.tmps.getD t undef := by
        simp only [Array.getD_eq_getD_getElem?]
        rw [Array.getElem?_setIfInBounds_ne (Ne.symm e)]
      rw [this]; exact (hS t).ext E
theorem sim_put {s : St} {a : Act} {w w' : World} {g g' : Gh} {ob' : List Ob} (hs : Sim w0 g0 o0 N s a w) (hS : Slots w g s a) (h0 : Step w0 g0 o0 w g s.ob) (M' : Mem w' g' ob') (h1 : Step w g s.ob w' g' ob')
    {d : Option Nat} (hd : ∀ t, d = some t → t < N) {v : Value} {x : AV} (hv : ARel w' g' ob' v x) : Sim w0 g0 o0 N (St.put ⟨s.tm, ob'⟩ d x) (a.put d v) w' := by
  refine ⟨?_, ?_, g', ?_, slots_put hS h1.ext (fun t ht => by rw [hs.size]; exact hd t ht) hv, ?_⟩
  · cases d <;> exact hs.defers
  · cases d with
    | none => exact hs.size
    | some d => show (a.tmps.setIfInBounds d v).size = N; rw [Array.size_setIfInBounds]; exact hs.size
  · cases d <;> exact M'
  · cases d <;> exact h0.trans h1
theorem run_valW {S : Sem Value} {W W' : World} {v : Value} (h : S.run P W = .ok v W') : (do pure (Next.value (← S)) : Sem Next).run P W = .ok (.value v) W' := by
  rw [Sem.run_bind, h]; rfl
theorem wp_ok {o : Oper} {a : Act} {w w' : World} {K : Act → World → Prop} {R : Exit → Act → World → Prop} {v : Value} (h : (execOp a.eval o).run P w = .ok (.value v) w') (hk : K (a.put o.dst v) w') : o.wp P a w K R := by
  unfold Oper.wp
  rw [h]
  exact hk
theorem commit_sim {s : St} {a : Act} {w : World} (x : Operand) (hs : Sim w0 g0 o0 N s a w) : Sim w0 g0 o0 N (commit std s x) a w := by
  unfold commit
  split
  · rename_i t
    split
    · rename_i id ep k hv
      split
      · rename_i et sz e xs hob
        split
        · rename_i he
          subst he
          obtain ⟨g, M, hS, h0⟩ := hs.rel
          have hr := hS t
          rw [hv] at hr
          obtain ⟨h1, et', sz', fz', e', xs', h2, h3, h4⟩ := hr
          rw [hob] at h2; cases h2
          obtain ⟨h5, h6, h7⟩ := h4 rfl
          have ec : std.cut xs 0 k = xs.take k.toNat := by simp [std]
          have E := Ext.reRow (w := w) (g := g) hob false (std.cut xs 0 k)
          have M' := M.reRow hob (xs' := std.cut xs 0 k) (fun y hy => (M.roww _ _ _ _ _ _ hob).2 y (by rw [ec] at hy; exact List.mem_of_mem_take hy))
          refine ⟨hs.defers, hs.size, g, M', fun u => ?_, h0.trans ⟨rfl, rfl, rfl, Nat.le_refl _, fun _ _ _ => rfl, fun b id h => .inl ⟨id, h⟩, fun b o h => .inl h, E, by simp⟩⟩
          show ARel w g _ _ (if u = t then .row id (e + 1) else lk u s.tm)
          by_cases eu : u = t
          · subst eu
            rw [if_pos rfl]
            exact ⟨h1, et, sz, false, e + 1, _, List.getElem?_set_self (lt_of_some hob), Nat.le_refl _, fun _ => by rw [ec]; exact h7⟩
          · rw [if_neg eu]; exact (hS u).ext E
        · exact hs
      · exact hs
    · exact hs
  · exact hs
theorem op_still {K : St → Tree} {o : Oper} {s : St} {a : Act} {w : World} {R : Exit → Act → World → Prop} (hs : Sim w0 g0 o0 N s a w) (hd : ∀ t, o.dst = some t → t < N)
    {x : AV} (hy : ∀ g, Mem w g s.ob → Slots w g s a → Yld P w g s a o (readsM o.op) x) (hok : (K (St.put s o.dst x)).ok P w0 g0 o0 N Q) : o.wp P a w (Good ty P w0 g0 o0 N Q K o.op w) R := by
  obtain ⟨g, M, hS, h0⟩ := hs.rel
  obtain ⟨v, h1, h2⟩ := hy g M hS
  exact wp_ok (h1 w (fun _ => LeB.refl w)) ⟨fun _ => LeB.refl w, _, sim_put hs hS h0 M Step.refl hd h2, hok⟩
theorem op_alloc (hT : TyOk P ty) {K : St → Tree} {o : Oper} {s : St} {a : Act} {w : World} {R : Exit → Act → World → Prop} (hs : Sim w0 g0 o0 N s a w) (hd : ∀ t, o.dst = some t → t < N)
    {T : Nat} (ho : o.op = .alloc T) (hk : (tyLook T ty).ok = true) (hok : (K (St.put ⟨s.tm, s.ob ++ [.box ((tyLook T ty).zero.map .val)]⟩ o.dst (.box s.ob.length 0))).ok P w0 g0 o0 N Q) : o.wp P a w (Good ty P w0 g0 o0 N Q K o.op w) R := by
  obtain ⟨g, M, hS, h0⟩ := hs.rel
  have ti := ty_ok hT hk
  obtain ⟨z, hz, hzr⟩ := ti.zeroV
  have hr : (execOp a.eval o).run P w = .ok (.value (.pointer (some ⟨w.heap.size, 0, none⟩))) (w.alloc (.cells z.cells T)) := by
    simp only [execOp, ho]
    refine run_valW ?_
    simp only [Instr.alloc, Sem.run_bind, hzr, Result.andThen_ok, newVar, newRow, run_newObj, Sem.run_pure]
    rfl
  have hc : ARelC w g s.ob z.cells.toList ((tyLook T ty).zero.map .val) := by rw [hz]; exact zero_rel ti.zone
  have M' := M.new (.cells z.cells T) (.box ((tyLook T ty).zero.map .val)) (fun cs h => by cases h; exact ⟨_, _, rfl, hc⟩) (fun cs h => by cases h) (fun s p h => by cases h) (fun et sz fz e xs h => by cases h)
  refine wp_ok hr ⟨fun _ => (Below.refl _ w).alloc (Nat.le_refl _) _, _, sim_put hs hS h0 M' (Step.new M _ _) hd ?_, hok⟩
  refine ⟨by simp [Gh.new], ?_⟩
  rw [get_new]; trivial
theorem op_box {K : St → Tree} {o : Oper} {s : St} {a : Act} {w : World} {R : Exit → Act → World → Prop} (hs : Sim w0 g0 o0 N s a w) (hd : ∀ t, o.dst = some t → t < N)
    {T : Nat} {x : Operand} (ho : o.op = .box T x) (hl : (ev s x).live = true) (hok : (K (St.put ⟨s.tm, s.ob ++ [.box (ev s x).cells]⟩ o.dst (.box s.ob.length 0))).ok P w0 g0 o0 N Q) : o.wp P a w (Good ty P w0 g0 o0 N Q K o.op w) R := by
  obtain ⟨g, M, hS, h0⟩ := hs.rel
  have hr : (execOp a.eval o).run P w = .ok (.value (.pointer (some ⟨w.heap.size, 0, none⟩))) (w.alloc (.cells (a.eval x).cells T)) := by
    simp only [execOp, ho]
    refine run_valW ?_
    simp only [Instr.box, Sem.run_bind, Result.andThen_ok, newVar, newRow, run_newObj, Sem.run_pure]
    rfl
  have hc := (ev_rel hS x).cells hl
  have M' := M.new (.cells (a.eval x).cells T) (.box (ev s x).cells) (fun cs h => by cases h; exact ⟨_, _, rfl, hc⟩) (fun cs h => by cases h) (fun s p h => by cases h) (fun et sz fz e xs h => by cases h)
  refine wp_ok hr ⟨fun _ => (Below.refl _ w).alloc (Nat.le_refl _) _, _, sim_put hs hS h0 M' (Step.new M _ _) hd ?_, hok⟩
  refine ⟨by simp [Gh.new], ?_⟩
  rw [get_new]; trivial
theorem op_store (hT : TyOk P ty) {K : St → Tree} {o : Oper} {s : St} {a : Act} {w : World} {R : Exit → Act → World → Prop} (hs : Sim w0 g0 o0 N s a w) (hd : ∀ t, o.dst = some t → t < N)
    {T : Nat} {x y : Operand} (ho : o.op = .store T x y) {id off : Nat} {c : List AV} (hx : ev s x = .box id off) (hb : s.ob[id]? = some (.box c)) (hl : (ev s y).live = true) (hk : (tyLook T ty).ok = true)
    (hsz : (ev s y).cells.length = (tyLook T ty).size) (hle : off + (ev s y).cells.length ≤ c.length)
    (hok : (K (St.put ⟨s.tm, s.ob.set id (.box (setCells c off (ev s y).cells))⟩ o.dst .dead)).ok P w0 g0 o0 N Q) : o.wp P a w (Good ty P w0 g0 o0 N Q K o.op w) R := by
  obtain ⟨g, M, hS, h0⟩ := hs.rel
  have hc := (ev_rel hS y).cells hl
  have hxr := ev_rel hS x
  rw [hx] at hxr
  have hv : a.eval x = .pointer (some ⟨g.loc id, off, none⟩) := hxr.1
  obtain ⟨hG, cur, T', hh, hcur⟩ := M.box id c hb
  have hlen : (a.eval y).cells.size = (ev s y).cells.length := by simpa using hc.1
  have hcl : cur.size = c.length := by simpa using hcur.1
  have h1 : ∀ v ∈ (a.eval y).cells.toList, v.oneCell' = true := fun v hv => by
    obtain ⟨j, hj, rfl⟩ := List.mem_iff_getElem.1 hv
    exact (hc.2 j _ _ (List.getElem?_eq_getElem hj) (List.getElem?_eq_getElem (by rw [← hc.1]; exact hj))).2
  have hst := run_storeCells_cells (P := P) (g.loc id) off (a.eval y).cells.toList 0 w (fun j hj => by
      have : off + j < cur.size := by simp at hj; omega
      simp [World.cell?, hh, this]) (fun j hj => by simp [World.frozen?, hh]) h1
  rw [Nat.add_zero] at hst
  have hsT := (ty_ok hT hk).size w
  have hr : (execOp a.eval o).run P w = .ok .skip (w.setCells (g.loc id) off (a.eval y).cells.toList) := by
    have hne : ¬ ((a.eval y).cells.size ≠ (tyLook T ty).size) := by omega
    simp only [execOp, ho, Instr.storeAt, hv, Instr.sureAddr, storeVar, Sem.run_bind, Sem.run_pure, Result.andThen_ok, hsT, hne, if_false, hst]
  have M' := M.store hb hc hle
  have : (execOp a.eval o).run P w = .ok .skip (w.setCells (g.loc id) off (a.eval y).cells.toList) := hr
  unfold Oper.wp
  rw [hr]
  show Good ty P w0 g0 o0 N Q K o.op w (a.put o.dst undef) _
  exact ⟨fun h => by simp [ho, quietW] at h, _, sim_put hs hS h0 M' (Step.store M hb _ _ _) hd (v := undef) (x := .dead) trivial, hok⟩
theorem nilq_sound (hT : TyOk P ty) {w : World} {s : St} {a : Act} {K : St → Tree} {o : Oper} {op : BinOp} {T T' : Nat} {x y : Operand} (ho : o.op = .binOp op T x y T')
    {xs : List AV} (hn : nilq s x y = some xs) (hk : (tyLook T ty).kd = 2) (b : Bool) (hop : op = if b then .eql else .neq)
    (hok : (std.emp xs → (K (St.put s o.dst (.val (.bool b)))).ok P w0 g0 o0 N Q) ∧ (K (St.put s o.dst (.val (.bool !b)))).ok P w0 g0 o0 N Q) :
    ∃ z, (K (St.put s o.dst z)).ok P w0 g0 o0 N Q ∧ ∀ g rd, Slots w g s a → Yld P w g s a o rd z := by
  unfold nilq at hn
  split at hn
  · rename_i sz xs' n c hx hy
    obtain rfl : xs' = xs := by simpa using hn
    by_cases hg : ∃ g, Slots w g s a
    · obtain ⟨g, hS⟩ := hg
      have hxr := ev_rel hS x
      have hyr := ev_rel hS y
      rw [hx] at hxr
      rw [hy] at hyr
      have hyv := hyr.valEq
      have hxr : PRel w g.A (a.eval x) (.slc sz xs') := hxr
      generalize hv : a.eval x = v at hxr
      cases hxr with
      | nil =>
        refine ⟨_, hok.1 rfl, fun g rd _ => yld_bin (u := .slice none 0 0) ho hv hyv (by simp) (by simp) (r := .bool b) (fun W => ?_) rfl⟩
        have := eq_slice_nil (P := P) hT hk none 0 0 n c W
        subst hop
        cases b
        · exact this.2
        · exact this.1
      | slc bk of cp _ _ f hc hm hw hcell hrel =>
        refine ⟨_, hok.2, fun g rd _ => yld_bin ho hv hyv (by simp) (by simp) (r := .bool !b) (fun W => ?_) rfl⟩
        have := eq_slice_nil (P := P) hT hk (some ⟨bk, of, none⟩) xs'.length cp n c W
        subst hop
        cases b
        · exact this.2
        · exact this.1
    · exact ⟨_, hok.2, fun g rd hS => absurd ⟨g, hS⟩ hg⟩
  · cases hn
theorem eqCs_vals {w : World} {g : Gh} {ob : List Ob} : ∀ (cs ds : List AV) (us vs : List Value) (sh : List Srt) (b : Bool), eqCs std cs ds = some (sh, b) → ARelC w g ob us cs → ARelC w g ob vs ds →
    us.map srtV = sh.map some ∧ vs.map srtV = sh.map some ∧ b = (us.zip vs).all fun q => eqV q.1 q.2
  | [], [], us, vs, sh, b, h, hu, hv => by
    obtain ⟨rfl, rfl⟩ : [] = sh ∧ true = b := by simpa [eqCs] using h
    obtain rfl : us = [] := List.eq_nil_of_length_eq_zero hu.1
    obtain rfl : vs = [] := List.eq_nil_of_length_eq_zero hv.1
    exact ⟨rfl, rfl, rfl⟩
  | [], _ :: _, _, _, _, _, h, _, _ => by cases h
  | _ :: _, [], _, _, _, _, h, _, _ => by cases h
  | x :: r, y :: r', us, vs, sh, b, h, hu, hv => by
    cases us with
    | nil => exact absurd hu.1 (by simp)
    | cons u us =>
      cases vs with
      | nil => exact absurd hv.1 (by simp)
      | cons v vs =>
        simp only [eqCs] at h
        split at h
        · rename_i s1 b1 s2 b2 h1 h2
          obtain ⟨rfl, rfl⟩ : s1 :: s2 = sh ∧ std.andB b1 b2 = b := by simpa using h
          obtain ⟨i1, i2, i3⟩ := eqCs_vals r r' us vs s2 b2 h2 ⟨by simpa using hu.1, fun j a c ha hc => hu.2 (j + 1) a c (by simpa using ha) (by simpa using hc)⟩ ⟨by simpa using hv.1, fun j a c ha hc => hv.2 (j + 1) a c (by simpa using ha) (by simpa using hc)⟩
          have hu0 := (hu.2 0 u x rfl rfl).1
          have hv0 := (hv.2 0 v y rfl rfl).1
          unfold eqC at h1
          split at h1
          · rename_i k a k' c
            split at h1
            · rename_i hk
              subst hk
              obtain ⟨rfl, rfl⟩ : Srt.int k = s1 ∧ std.eqI a c = b1 := by simpa using h1
              cases (show u = _ from ARel.valEq (g := g) (w := w) (ob := ob) hu0)
              cases (show v = _ from ARel.valEq (g := g) (w := w) (ob := ob) hv0)
              exact ⟨by simp [srtV, i1], by simp [srtV, i2], by rw [i3]; rfl⟩
            · cases h1
          · rename_i a c
            obtain ⟨rfl, rfl⟩ : Srt.boo = s1 ∧ std.eqB a c = b1 := by simpa using h1
            cases (show u = _ from ARel.valEq (g := g) (w := w) (ob := ob) hu0)
            cases (show v = _ from ARel.valEq (g := g) (w := w) (ob := ob) hv0)
            exact ⟨by simp [srtV, i1], by simp [srtV, i2], by rw [i3]; rfl⟩
          · rename_i a c
            obtain ⟨rfl, rfl⟩ : Srt.str = s1 ∧ std.eqS a c = b1 := by simpa using h1
            cases (show u = _ from ARel.valEq (g := g) (w := w) (ob := ob) hu0)
            cases (show v = _ from ARel.valEq (g := g) (w := w) (ob := ob) hv0)
            exact ⟨by simp [srtV, i1], by simp [srtV, i2], by rw [i3]; rfl⟩
          · cases h1
        · cases h
theorem eqAgg_sound {w : World} {s : St} {a : Act} {o : Oper} {op : BinOp} {T T' : Nat} {x y : Operand} (ho : o.op = .binOp op T x y T') {sh : List Srt} {b : Bool} (h : eqAgg std s op x y = some (sh, b)) (he : EqOk P T sh) {g : Gh} {rd : Bool} (hS : Slots w g s a) :
    Yld P w g s a o rd (.val (.bool b)) := by
  unfold eqAgg at h
  split at h
  · rename_i cs ds hx hy
    split at h
    · rename_i sh' b' hc
      have hxr := ev_rel hS x
      have hyr := ev_rel hS y
      rw [hx] at hxr
      rw [hy] at hyr
      obtain ⟨us, hu, hur⟩ := hxr
      obtain ⟨vs, hv, hvr⟩ := hyr
      obtain ⟨e1, e2, e3⟩ := eqCs_vals cs ds us.toList vs.toList sh' b' hc hur hvr
      split at h
      · obtain ⟨rfl, rfl⟩ : sh' = sh ∧ b' = b := by simpa using h
        refine yld_of (S := do eqGuard .eql T x y (a.eval x) (a.eval y); binOp .eql T (a.eval x) (a.eval y)) (fun W => by simp only [execOp, ho]) ⟨.bool b', fun W _ => ?_, .val _ rfl⟩
        obtain ⟨h1, _, h3, _⟩ := he us.toList vs.toList x y W e1 e2
        rw [Sem.run_bind, hu, hv, h1]
        rw [e3]; exact h3
      · obtain ⟨rfl, rfl⟩ : sh' = sh ∧ std.notB b' = b := by simpa using h
        refine yld_of (S := do eqGuard .neq T x y (a.eval x) (a.eval y); binOp .neq T (a.eval x) (a.eval y)) (fun W => by simp only [execOp, ho]) ⟨.bool !b', fun W _ => ?_, .val _ rfl⟩
        obtain ⟨_, h2, _, h4⟩ := he us.toList vs.toList x y W e1 e2
        rw [Sem.run_bind, hu, hv, h2]
        rw [e3]; exact h4
      · cases h
    · cases h
  · cases h
theorem nilq_ok (hT : TyOk P ty) {w : World} {s : St} {a : Act} {cs : Nat → List AV → List Ob → Option (AV × List Ob)} {K : St → Tree} {o : Oper} {op : BinOp} {T T' : Nat} {x y : Operand} (ho : o.op = .binOp op T x y T')
    (hok : (aop std ty cs K o s).ok P w0 g0 o0 N Q) :
    (aopRest std ty K o s o.op).ok P w0 g0 o0 N Q ∨ ∃ z, (K (St.put s o.dst z)).ok P w0 g0 o0 N Q ∧ ∀ g rd, Slots w g s a → Yld P w g s a o rd z := by
  simp only [aop, ho] at hok
  split at hok
  · rename_i xs hn
    right
    split at hok
    · rename_i hk
      split at hok
      · exact nilq_sound hT ho hn hk true rfl hok
      · exact nilq_sound hT ho hn hk false rfl hok
      · exact hok.elim
    · exact hok.elim
  · split at hok
    · rename_i sh b he
      exact .inr ⟨_, hok.2, fun g rd hS => eqAgg_sound ho he hok.1 hS⟩
    · left; rw [ho]; exact hok
theorem thaw_sim {s : St} {a : Act} {w : World} (x : Operand) (hs : Sim w0 g0 o0 N s a w) : Sim w0 g0 o0 N (thaw std s x) a w := by
  have go : ∀ (t : Nat) (v : AV) (ob : List Ob), frz std true 9 s.ob (lk t s.tm) = some (v, ob) → Sim w0 g0 o0 N ⟨(t, v) :: s.tm, ob⟩ a w := fun t v ob he => by
    obtain ⟨g, M, hS, h0⟩ := hs.rel
    obtain ⟨g', M', E, hr, hL⟩ := frzTop M (hS t) he
    refine ⟨hs.defers, hs.size, g', M', fun u => ?_, h0.trans (Step.ghost E hL)⟩
    show ARel w g' _ _ (if u = t then v else lk u s.tm)
    by_cases eu : u = t
    · subst eu
      rw [if_pos rfl]
      exact hr
    · rw [if_neg eu]; exact (hS u).ext E
  unfold thaw
  split
  · rename_i t
    split
    · rename_i id ep hv
      split
      · rename_i v ob he
        exact go t v ob (by rw [hv]; exact he)
      · exact hs
    · rename_i id ep k hv
      split
      · rename_i v ob he
        exact go t v ob (by rw [hv]; exact he)
      · exact hs
    · exact hs
  · exact hs
end
end Go.Proofs.Ytblafdmmebiagaa
namespace Go.Proofs.Ytblafdmmebiagaa
open Go.RowKit Go.Lib
section
variable {P : Program} {ty : Tys} {w0 : World} {g0 : Gh} {o0 : List Ob} {N : Nat} {Q : Ex → St → Prop} {w w' : World} {g g' : Gh} {ob ob' : List Ob}
theorem pur0_rel {v : Value} {x : AV} (h : ARel0 w g ob v x) (hp : x.pur0 = true) : PRel w g.A v x := by cases x <;> first | exact h | cases hp
theorem pur_alike {vs : List Value} {x : AV} {v : Value} (h : ARel1 w g ob v x) (hp : x.pur = true) : Alike w g.A v.cells.toList x.cells := by
  have hl : x.live = true := by cases x <;> first | rfl | cases hp
  have hc := h.to.cells hl
  refine ⟨hc.1, fun j y u hy hu => pur0_rel (hc.2 j y u hy hu).1 ?_⟩
  have hm := List.mem_of_getElem? hu
  cases x with
  | agg cs => exact List.all_eq_true.1 hp u hm
  | val a => obtain rfl : u = AV.val a := by simpa [AV.cells] using hm
             rfl
  | slc a b => obtain rfl : u = AV.slc a b := by simpa [AV.cells] using hm
               rfl
  | opt a => obtain rfl : u = AV.opt a := by simpa [AV.cells] using hm
             rfl
  | ref a => obtain rfl : u = AV.ref a := by simpa [AV.cells] using hm
             rfl
  | _ => cases hp
theorem fillDense {sz : Nat} : ∀ (vs : List Value) (k : Nat) (c : Array Value), (∀ v ∈ vs, v.cells.size = sz) → (k + vs.length) * sz ≤ c.size →
    ∃ c', Instr.fill (fun i => some (i * sz, sz)) c ((vs.zipIdx k).map fun x => (x.2, x.1)) = some c' ∧ c'.toList = c.toList.take (k * sz) ++ (vs.flatMap (·.cells.toList) ++ c.toList.drop ((k + vs.length) * sz))
  | [], k, c, _, _ => ⟨c, rfl, by simp⟩
  | v :: r, k, c, hv, hl => by
    have h1 := hv v List.mem_cons_self
    have hle : k * sz + sz ≤ c.size := by
      have : (k + 1) * sz ≤ (k + (v :: r).length) * sz := Nat.mul_le_mul_right _ (by simp)
      rw [Nat.add_mul, Nat.one_mul] at this
      omega
    have hfo := fold_set (k * sz) v.cells.toList 0 c
    have e1 : (v.cells.toList.take (c.size - (k * sz + 0))) = v.cells.toList := List.take_of_length_le (by simp; omega)
    rw [e1, Nat.add_zero, Array.length_toList, h1] at hfo
    generalize hc2 : (v.cells.toList.zipIdx 0).foldl (fun cs (x : Value × Nat) => cs.setIfInBounds (k * sz + x.2) x.1) c = c2 at hfo
    have hsz2 : c2.size = c.size := by
      have := congrArg List.length hfo
      simp only [Array.length_toList, List.length_append, List.length_take, List.length_drop, h1] at this
      omega
    obtain ⟨c', h3, h4⟩ := fillDense r (k + 1) c2 (fun v h => hv v (List.mem_cons_of_mem _ h)) (by rw [hsz2]; simpa [Nat.add_assoc, Nat.add_comm 1] using hl)
    refine ⟨c', ?_, ?_⟩
    · simp only [List.zipIdx_cons, List.map_cons, Instr.fill]
      rw [if_neg]
      · rw [← h3, ← hc2]
        congr 1
        rw [← Array.foldl_toList, Array.toList_zipIdx]
      · simp only [Bool.or_eq_true, decide_eq_true_eq, bne_iff_ne, ne_eq, not_or]
        omega
    · rw [h4, hfo]
      have e2 : (k + 1) * sz = k * sz + sz := by rw [Nat.add_mul, Nat.one_mul]
      have e3 : (k + 1 + r.length) * sz = k * sz + sz + r.length * sz := by rw [Nat.add_mul, e2]
      have e4 : (k + (v :: r).length) * sz = k * sz + sz + r.length * sz := by rw [List.length_cons, ← e3]; congr 1; omega
      have h5 : (c.toList.take (k * sz)).length = k * sz := by rw [List.length_take, Array.length_toList]; omega
      rw [e2, e3, e4, List.flatMap_cons]
      have h6 : (v.cells.toList).length = sz := by rw [Array.length_toList, h1]
      generalize hX : c.toList.take (k * sz) = X at h5
      have t1 : (X ++ (v.cells.toList ++ c.toList.drop (k * sz + sz))).take (k * sz + sz) = X ++ v.cells.toList := by
        rw [← List.append_assoc]
        exact List.take_left' (by rw [List.length_append]; omega)
      have t2 : (X ++ (v.cells.toList ++ c.toList.drop (k * sz + sz))).drop (k * sz + sz + r.length * sz) = c.toList.drop (k * sz + sz + r.length * sz) := by
        rw [← List.append_assoc, List.drop_append, List.drop_eq_nil_of_le (by rw [List.length_append]; omega), List.nil_append, List.length_append, h5, h6, Nat.add_sub_cancel_left, List.drop_drop]
      rw [t1, t2]
      simp only [List.append_assoc]
theorem flatMap_alike {A : Nat → Nat → Prop} : ∀ (vs : List Value) (xs : List AV), vs.length = xs.length → (∀ (j : Nat) v x, vs[j]? = some v → xs[j]? = some x → Alike w A v.cells.toList x.cells) → Alike w A (vs.flatMap (·.cells.toList)) (flatA xs)
  | [], xs, hl, _ => by
    have : xs = [] := List.eq_nil_of_length_eq_zero hl.symm
    subst this; exact Alike.nil
  | v :: vs, [], hl, _ => by simp at hl
  | v :: vs, x :: xs, hl, h => by
    rw [List.flatMap_cons, flatA, List.flatMap_cons]
    exact (h 0 v x rfl rfl).append (flatMap_alike vs xs (by simpa using hl) (fun j v x h1 h2 => h (j + 1) v x (by simpa using h1) (by simpa using h2)))
theorem KidV.nil {id : Nat} : KidV w g id (.slice none 0 0) := ⟨0, [], World.ownsRow_nil _ _ _ _, fun b h => by cases h⟩
theorem Mem.sub_lt (M : Mem w g ob) {b : Nat} (h : g.sub b = true) : b < w.heap.size := by
  obtain ⟨id, _, _, _, _, _, h1, _⟩ := M.nsub b h
  exact (M.own b id h1).1
theorem Mem.sub_new (M : Mem w g ob) {b : Nat} (h : w.heap.size ≤ b) : g.sub b = false := by
  cases hs : g.sub b with
  | false => rfl
  | true => have := M.sub_lt hs; omega
theorem kidsNil_cell {sz : Nat} : ∀ (xs : List AV), kidsNil xs = true → (∀ x ∈ xs, x.cells.length = sz) → ∀ (j : Nat) u, (flatA xs)[j]? = some u → j % sz = 1 → u = .val (.slice none 0 0)
  | [], _, _, j, u, h, _ => by simp at h
  | x :: r, hk, hw, j, u, h, hj => by
    unfold kidsNil at hk
    split at hk
    · rename_i a hc
      have hx := hw x (List.mem_cons_self ..)
      have e : flatA (x :: r) = a :: .val (.slice none 0 0) :: flatA r := by simp [hc]
      rw [e] at h
      obtain rfl : 2 = sz := by rw [hc] at hx; exact hx
      match j, h, hj with
      | 0, _, hj => cases hj
      | 1, h, _ => simpa using h.symm
      | j + 2, h, hj => exact kidsNil_cell r hk (fun y hy => hw y (List.mem_cons_of_mem _ hy)) j u (by simpa using h) (by omega)
    · cases hk
theorem nil_kids {E sz : Nat} {xs : List AV} {ys : List Value} (hs : subOk E xs = true) (hal : Alike w g.A ys (flatA xs)) (hw : ∀ x ∈ xs, x.cells.length = sz) (he : E = subT) {j : Nat} {y : Value} (hy : ys[j]? = some y) (hj : j % sz = 1) :
    y = .slice none 0 0 := by
  simp only [subOk, he, if_true] at hs
  have hl : j < (flatA xs).length := by rw [← hal.1]; exact lt_of_some hy
  have hu := List.getElem?_eq_getElem hl
  have := hal.2 j y _ hy hu
  rw [kidsNil_cell xs hs hw j _ hu hj] at this
  exact (show y = _ from ARel.valEq (g := g) (w := w) (ob := []) this)
theorem op_buildSlice (hT : TyOk P ty) {K : St → Tree} {o : Oper} {s : St} {a : Act} {w : World} {R : Exit → Act → World → Prop} (hs : Sim w0 g0 o0 N s a w) (hd : ∀ t, o.dst = some t → t < N)
    {T len : Nat} {parts : Array (Nat × Operand)} (ho : o.op = .buildSlice T len parts) {xs : List AV} {ob : List Ob} (he : eachM (frz std true 9) s.ob (parts.toList.map fun x => ev s x.2) = some (xs, ob))
    (hsub : subOk (tyLook T ty).elem xs = true) (hel : elOk ty T (tyLook (tyLook T ty).elem ty).size = true) (h1 : onePer (tyLook (tyLook T ty).elem ty).size xs = true) (hp : xs.all AV.pur = true) (hlen : len ≤ 4000) (hsz : (tyLook (tyLook T ty).elem ty).size ≤ 4000)
    (hi : parts.toList.map (·.1) = List.range len)
    (hok : (K (St.put ⟨s.tm, ob ++ [.row (tyLook T ty).elem (tyLook (tyLook T ty).elem ty).size false 0 xs]⟩ o.dst (.row ob.length 0))).ok P w0 g0 o0 N Q) : o.wp P a w (Good ty P w0 g0 o0 N Q K o.op w) R := by
  obtain ⟨g, M, hS, h0⟩ := hs.rel
  have hL : ARelL w g s.ob (parts.toList.map fun x => a.eval x.2) (parts.toList.map fun x => ev s x.2) := by
    refine ⟨by simp, fun j v x hv hx => ?_⟩
    rw [List.getElem?_map, Option.map_eq_some_iff] at hv hx
    obtain ⟨q, hq, rfl⟩ := hv
    obtain ⟨q', hq', rfl⟩ := hx
    rw [hq] at hq'; cases hq'
    have hr := ev_rel hS q.2
    exact hr.to1 (each_live _ _ _ _ he _ (List.mem_map.2 ⟨q, List.mem_of_getElem? hq, rfl⟩))
  obtain ⟨g1, M1, E1, L1, G1⟩ := frzL _ _ g s.ob xs ob M hL he
  obtain ⟨e, hu, hee, te, hes, hpos⟩ := el_facts hT hel
  obtain ⟨ie, z, hie, hies, hieb, hiz, hzc⟩ := te.i
  rw [hes] at hies
  subst hee
  generalize hE : (tyLook T ty).elem = E at *
  generalize hSZ : (tyLook E ty).size = sz at *
  have hvl : (parts.toList.map fun x => a.eval x.2).length = xs.length := L1.1
  have hpl : parts.toList.length = len := by have := congrArg List.length hi; simpa using this
  have hps : parts.size = len := by simpa using hpl
  have hxl : xs.length = len := by rw [← hvl, List.length_map, hpl]
  have hcs : ∀ (j : Nat) v x, (parts.toList.map fun x => a.eval x.2)[j]? = some v → xs[j]? = some x → Alike w g1.A v.cells.toList x.cells ∧ x.cells.length = sz := fun j v x hv hx =>
    ⟨pur_alike (vs := []) (L1.2 j v x hv hx) (List.all_eq_true.1 hp x (List.mem_of_getElem? hx)), by have := List.all_eq_true.1 h1 x (List.mem_of_getElem? hx); simpa using this⟩
  have hv : ∀ v ∈ (parts.toList.map fun x => a.eval x.2), v.cells.size = sz := fun v hv => by
    obtain ⟨j, hj, rfl⟩ := List.mem_iff_getElem.1 hv
    obtain ⟨h2, h3⟩ := hcs j _ _ (List.getElem?_eq_getElem hj) (List.getElem?_eq_getElem (by omega))
    have := h2.1
    rw [Array.length_toList] at this
    omega
  have hparts : (parts.map fun (i, x) => (i, a.eval x)).toList = ((parts.toList.map fun x => a.eval x.2).zipIdx 0).map fun x => (x.2, x.1) := by
    rw [Array.toList_map]
    refine List.ext_getElem? fun j => ?_
    simp only [List.getElem?_map, List.getElem?_zipIdx, Nat.zero_add]
    cases hj : parts.toList[j]? with
    | none => rfl
    | some q =>
      have h4 : (parts.toList.map (·.1))[j]? = some q.1 := by rw [List.getElem?_map, hj]; rfl
      rw [hi, List.getElem?_range (by have := lt_of_some hj; omega)] at h4
      obtain rfl : j = q.1 := by simpa using h4
      rfl
  obtain ⟨c', hf, hc'⟩ := fillDense (sz := sz) (parts.toList.map fun x => a.eval x.2) 0 ((Array.range (len * sz)).map (z.cells[· % z.cells.size]!)) hv (by simp [hps])
  have hcsz : c'.toList = (parts.toList.map fun x => a.eval x.2).flatMap (·.cells.toList) := by
    rw [hc', Nat.zero_mul, List.take_zero, List.nil_append, Nat.zero_add, List.drop_eq_nil_of_le (by simp [hps]), List.append_nil]
  have hal : Alike w g1.A c'.toList (flatA xs) := by
    rw [hcsz]
    exact flatMap_alike _ _ hvl (fun j v x hv hx => (hcs j v x hv hx).1)
  have hw : ∀ x ∈ xs, x.cells.length = sz := fun x hx => by have := List.all_eq_true.1 h1 x hx; simpa using this
  have hc'l : c'.size = len * sz := by
    have := hal.1
    rw [flat_len xs hw, hxl, Array.length_toList] at this
    exact this
  have hsmall : ¬ len * sz > 2 ^ 24 := by
    have : len * sz ≤ 4000 * 4000 := Nat.mul_le_mul hlen hsz
    omega
  have hr : (execOp a.eval o).run P w = .ok (.value (.slice (some ⟨w.heap.size, 0, none⟩) len len)) (w.alloc (.cells c' E)) := by
    simp only [execOp, ho]
    refine run_valW ?_
    by_cases h0 : len * sz = 0
    · have : c' = #[] := by apply Array.eq_empty_of_size_eq_zero; omega
      subst this
      have hl0 : len = 0 := by
        rcases Nat.eq_zero_or_pos len with h | h
        · exact h
        · have := Nat.mul_pos h hpos; omega
      subst hl0
      have hp0 : parts = #[] := by
        apply Array.ext'
        exact List.eq_nil_of_length_eq_zero hpl
      subst hp0
      simp [Instr.buildSlice, run_underlying hu, sizeOf, typeInfo, hie, Instr.fill, newRow]
      congr 2
      apply Array.eq_empty_of_size_eq_zero
      simp
    · refine run_buildSlice w T E len _ c' ie z hu hie hiz (by rw [hies]; exact hsmall) (by rw [hies]; exact h0) ?_
      rw [hies, hparts]
      exact hf
  have hrow : RowV (w.alloc (.cells c' E)) (g1.new w ob) ob.length E sz (.slice (some ⟨w.heap.size, 0, none⟩) len len) xs := by
    refine ⟨c'.toList, ⟨by rw [Array.length_toList, hc'l, hxl], .inr ⟨w.heap.size, len, c', by rw [hxl], Nat.zero_le _, heap_new w _, by omega, by unfold maxLen; omega, hc'l, ?_⟩⟩, fun b hb => ?_, hal.keep (Ext.new M1 (.cells c' E) (.row E sz false 0 xs)).A, hw, fun b hb => ?_, fun he j y hy hj => ?_⟩
    · rw [hxl, ← hc'l]
      exact List.take_of_length_le (by simp)
    · obtain rfl : w.heap.size = b := by simpa [Value.ownBlock] using hb
      simp [Gh.new]
    · obtain rfl : w.heap.size = b := by simpa [Value.ownBlock] using hb
      exact M1.sub_new (Nat.le_refl _)
    · obtain rfl := nil_kids hsub hal hw he hy hj
      exact ⟨KidV.nil, fun _ _ b _ _ _ h => by cases h⟩
  have M' := M1.new (.cells c' E) (.row E sz false 0 xs) (fun cs h => by cases h) (fun cs h => by cases h) (fun s p h => by cases h) (fun et sz' fz e ys h => by cases h; exact ⟨hpos, hw⟩)
  have hS1 : Slots w g1 ⟨s.tm, ob⟩ a := fun t => (hS t).ext E1
  refine wp_ok hr ⟨fun _ => (Below.refl _ w).alloc (Nat.le_refl _) _, _, sim_put (s := ⟨s.tm, ob⟩) ⟨hs.defers, hs.size, g1, M1, hS1, h0.trans (Step.ghost E1 G1)⟩ hS1 (h0.trans (Step.ghost E1 G1)) M' (Step.new M1 _ _) hd ?_, hok⟩
  exact ⟨rfl, E, sz, false, 0, xs, get_new, Nat.le_refl _, fun _ => hrow⟩
end
end Go.Proofs.Ytblafdmmebiagaa
namespace Go.Proofs.Ytblafdmmebiagaa
open Go.RowKit Go.Lib
section
variable {P : Program} {ty : Tys} {w0 : World} {g0 : Gh} {o0 : List Ob} {N : Nat} {Q : Ex → St → Prop} {w w' : World} {g g' : Gh} {ob ob' : List Ob}
theorem Ext.addRow (x : Ob) : Ext w g ob w g (ob ++ [x]) :=
  ⟨fun _ _ h => ⟨h, rfl⟩, fun _ _ => rfl, fun id h => by rw [get_old (isBox_lt h)]; exact h, fun id h => by rw [get_old (isIt_lt h)]; exact h,
    fun id et sz fz e xs h => ⟨fz, e, xs, by rw [get_old (lt_of_some h)]; exact h, Nat.le_refl _, fun _ => ⟨rfl, fun _ h => ⟨h, rfl⟩⟩⟩, fun _ _ _ _ => ⟨rfl, fun _ _ h => h⟩⟩
theorem Mem.addRow (M : Mem w g ob) {et sz : Nat} (hs : 0 < sz) : Mem w g (ob ++ [.row et sz false 0 []]) := by
  have E := Ext.addRow (w := w) (g := g) (ob := ob) (.row et sz false 0 [])
  have last : ∀ {id : Nat} {y : Ob}, (ob ++ [.row et sz false 0 []])[id]? = some y → id < ob.length ∧ ob[id]? = some y ∨ y = .row et sz false 0 [] := fun {id y} h => by
    by_cases hl : id < ob.length
    · rw [get_old hl] at h; exact .inl ⟨hl, h⟩
    · have hid : id = ob.length := by have := lt_of_some h; simp at this; omega
      subst hid
      rw [get_new] at h
      exact .inr (by simpa using h.symm)
  refine ⟨fun id cs h => ?_, fun id cs h j u hj => ?_, fun id s p h => ?_, fun b id h => ⟨(M.own b id h).1, by have := (M.own b id h).2; simp; omega⟩, fun b o hA => ⟨(M.imm b o hA).1, fun id hG hs => ?_⟩, fun id et' sz' fz e xs h => ?_, fun b hs => ?_, M.uniq⟩
  · rcases last h with ⟨_, h⟩ | h
    · obtain ⟨h1, cur, T, h2, h3⟩ := M.box id cs h
      exact ⟨h1, cur, T, h2, h3.ext E⟩
    · cases h
  · rcases last h with ⟨_, h⟩ | h
    · exact M.fbox id cs h j u hj
    · cases h
  · rcases last h with ⟨_, h⟩ | h
    · exact M.iter id s p h
    · cases h
  · obtain ⟨et', sz', e, xs, h3, h4⟩ := (M.imm b o hA).2 id hG hs
    exact ⟨et', sz', e, xs, by rw [get_old (lt_of_some h3)]; exact h3, h4⟩
  · rcases last h with ⟨_, h⟩ | h
    · exact M.roww id et' sz' fz e xs h
    · cases h; exact ⟨hs, fun x hx => by cases hx⟩
  · obtain ⟨id, et', sz', fz, e, xs, h3, h4⟩ := M.nsub b hs
    exact ⟨id, et', sz', fz, e, xs, h3, by rw [get_old (lt_of_some h4)]; exact h4⟩
theorem Step.addRow (x : Ob) : Step w g ob w g (ob ++ [x]) :=
  ⟨rfl, rfl, rfl, Nat.le_refl _, fun _ _ _ => rfl, fun _ _ h => .inl ⟨_, h⟩, fun _ _ h => .inl h, Ext.addRow x, by simp⟩
theorem src_rel (hT : TyOk P ty) {s : St} (M : Mem w g s.ob) {E U : Nat} {v : Value} {y : AV} (hv : ARel w g s.ob v y) {sz : Nat} {news : List AV} (h : srcOf std ty s E U y = some (sz, news)) (hel : (tyLook E ty).size = sz) (hsz : 0 < sz)
    (hw : ∀ x ∈ news, x.cells.length = sz) :
    ∃ d zs, P.underlying U = some d ∧ ((∃ e', d = .slice e') ∨ d = .string) ∧ zs.length = news.length * sz ∧ Alike w g.A zs (flatA news) ∧ (∀ W, (Builtin.lenOf v).run P W = .ok news.length W) ∧
      ∀ W : World, W.heap = w.heap → (Builtin.firstCells sz news.length v).run P W = .ok zs.toArray W := by
  unfold srcOf at h
  split at h
  · rename_i b
    split at h
    · rename_i hk
      obtain ⟨rfl, rfl⟩ : 1 = sz ∧ std.bytesS b = news := by simpa using h
      have hb : std.isB (std.bytesS b) := fun x hx => by
        obtain ⟨n, _, rfl⟩ := List.mem_map.1 (show x ∈ b.data.toList.map _ from hx)
        exact ⟨n, rfl⟩
      have hl : (std.bytesS b).length = b.size := by show (b.data.toList.map _).length = _; simp
      rw [hv.valEq]
      refine ⟨.string, strCells b, (ty_kd hT hk.1 (by decide)).str hk.1, .inr rfl, by rw [strCells_length, hl, Nat.mul_one], ?_, fun W => by rw [hl]; rfl, fun W _ => by rw [hl]; exact run_firstCells_string W 1 b⟩
      rw [isB_flat hb]
      refine ⟨by rw [strCells_length, hl], fun j y u hy hu => ?_⟩
      have hu : (b.data.toList.map fun x => AV.val (.int .u8 x.toNat))[j]? = some u := hu
      simp only [strCells, List.getElem?_map, Option.map_eq_some_iff] at hy hu
      obtain ⟨c, hc, rfl⟩ := hy
      obtain ⟨c', hc', rfl⟩ := hu
      rw [hc] at hc'; cases hc'
      exact PRel.val _ rfl
    · cases h
  · split at h
    · rename_i hk
      obtain ⟨_, rfl⟩ : _ ∧ [] = news := by simpa using h
      rw [hv.valEq]
      exact ⟨_, [], (ty_sl hT hk).slice hk, .inl ⟨_, rfl⟩, by simp, Alike.nil, fun W => rfl, fun W _ => rfl⟩
    · cases h
  · split at h
    · rename_i hk
      obtain ⟨A, c, ys, rfl, hr, hal⟩ := elems_rel M hv h
      refine ⟨_, ys, (ty_sl hT hk).slice hk, .inl ⟨_, rfl⟩, hr.len, hal, fun W => rfl, fun W hW => ?_⟩
      rcases Nat.eq_zero_or_pos news.length with h0 | h0
      · have hy : ys = [] := List.eq_nil_of_length_eq_zero (by rw [hr.len, h0, Nat.zero_mul])
        subst hy
        rw [h0]
        cases A <;> simp [Builtin.firstCells, loadCells, loadCellsFrom]
      · obtain ⟨b, o, rfl, _, hc⟩ := hr.at_ h0
        refine run_firstCells_some (P := P) W sz news.length _ _ _ ys hr.len (fun j u hj => ?_)
        rw [Addr.add_mid, show W.cell? ⟨b, o + j, none⟩ = w.cell? ⟨b, o + j, none⟩ from by simp only [World.cell?, hW]]
        exact hc j u hj
    · cases h
set_option maxHeartbeats 1000000 in
theorem append_core (hT : TyOk P ty) {s : St} {a : Act} {w : World} (M : Mem w g ob) {T U : Nat} {id et sz ep : Nat} {fz : Bool} {xs xs' news : List AV} (h : ob[id]? = some (.row et sz fz ep xs)) {v : Value}
    (hv : RowV w g id et sz v xs') (hfz : fz = true → xs' = xs) (hel : elOk ty T sz = true) (het : et = (tyLook T ty).elem) {d : TypeDesc} {y : Value} {zs : List Value} (hu : P.underlying U = some d) (hd : (∃ e', d = .slice e') ∨ d = .string)
    (hzl : zs.length = news.length * sz) (hal : Alike w g.A zs (flatA news)) (hlen : ∀ W, (Builtin.lenOf y).run P W = .ok news.length W)
    (hfc : ∀ W : World, W.heap = w.heap → (Builtin.firstCells sz news.length y).run P W = .ok zs.toArray W) (hw : ∀ x ∈ news, x.cells.length = sz) (hsub : subOk et news = true) (hb : xs'.length + news.length ≤ 1000000000) (tyR : TypeId) :
    ∃ v' w', (Builtin.append_ #[T, U] tyR #[v, y]).run P w = .ok v' w' ∧ Mem w' (g.grow id v'.ownBlock) (ob.set id (.row et sz fz (ep + 1) (xs' ++ news))) ∧
      Step w g ob w' (g.grow id v'.ownBlock) (ob.set id (.row et sz fz (ep + 1) (xs' ++ news))) ∧ RowV w' (g.grow id v'.ownBlock) id et sz v' (xs' ++ news) := by
  obtain ⟨e, hT1, hee, te, hes, hpos⟩ := el_facts hT hel
  obtain ⟨ie, z, hie, hies, hieb, hiz, hzc⟩ := te.i
  have heq : et = e := het.trans hee.symm
  subst heq
  obtain ⟨ys, ho, hG, hya, hyw, hys⟩ := hv
  have hzs : z.cells.size = sz := by
    have := congrArg List.length hzc
    rw [Array.length_toList, te.zl, hes] at this
    exact this
  obtain ⟨v', w', hr, h1, h2, h3, h4⟩ := append_any (P := P) (w := w) (ty := tyR) hT1 hu hd hie hiz (hies.trans hes) (by rw [hieb]; exact te.by_) hzs ho hzl hlen hfc hal.one hb
  have hww : ∀ x ∈ xs' ++ news, x.cells.length = sz := fun x hx => by
    rcases List.mem_append.1 hx with hx | hx
    · exact hyw x hx
    · exact hw x hx
  have hvb : ∀ b, v'.ownBlock = some b → v.ownBlock = some b ∨ (w.heap.size ≤ b ∧ b < w'.heap.size) := fun b hb => by
    rcases h3 with h5 | h5
    · exact .inl (h5 ▸ hb)
    · have hlt := (h1.lt b hb).2
      rw [hb] at h5
      cases h5
      exact .inr ⟨Nat.le_refl _, hlt⟩
  obtain ⟨E, M'⟩ := M.grow (fz' := fz) h (fun h => h) h2 (fun b hb => ⟨hG b hb, hys.1 b hb⟩) hvb (n := xs'.length) h4 (fun hf => by rw [hfz hf]; exact Nat.le_refl _) (fun hf => by rw [List.length_append, hfz hf]; omega) hww
  refine ⟨v', w', hr, M', Step.grow M h h2 (fun b hb => hG b hb) hvb E, ys ++ zs, by rw [List.length_append]; exact h1, fun b hb => ?_, ?_, hww, fun b hb => ?_, fun he j y hy hj => ?_⟩
  · exact Gh.grow_self hb
  · show Alike _ _ _ ((xs' ++ news).flatMap AV.cells)
    rw [List.flatMap_append]
    exact (hya.append hal).keep E.A
  · rcases h3 with h3 | h3
    · exact hys.1 b (h3 ▸ hb)
    · rw [hb] at h3
      obtain rfl : b = w.heap.size := by simpa using h3
      exact M.sub_new (Nat.le_refl _)
  · have hyl : ys.length = xs'.length * sz := by rw [hya.1, flat_len xs' hyw]
    have old : ∀ {j : Nat} {y : Value}, (ys ++ zs)[j]? = some y → j % sz = 1 → (ys[j]? = some y) ∨ y = .slice none 0 0 := fun {j y} hy hj => by
      by_cases hlt : j < ys.length
      · rw [List.getElem?_append_left hlt] at hy; exact .inl hy
      · rw [List.getElem?_append_right (by omega)] at hy
        refine .inr (nil_kids (g := g) (w := w) hsub hal hw he hy ?_)
        rw [hyl]
        have : j = (j - xs'.length * sz) + xs'.length * sz := by omega
        rw [this, Nat.add_mul_mod_self_right] at hj
        exact hj
    rcases old hy hj with h5 | rfl
    · obtain ⟨⟨k, us, h6, h7⟩, h8⟩ := hys.2 he j y h5 hj
      have ne : ∀ {b : Nat}, y.ownBlock = some b → some b ≠ v.ownBlock := fun {b} hb h9 => by
        have := hys.1 b h9.symm
        rw [(h7 b hb).2.1] at this; cases this
      refine ⟨⟨k, us, ownsRow_ext h6 fun b hb => ?_, fun b hb => ?_⟩, fun i z b hz hi hzb hyb => ?_⟩
      · exact h2.block b (M.own b id (h7 b hb).1).1 (ne hb)
      · obtain ⟨h9, h10, h11⟩ := h7 b hb
        exact ⟨M.grow_sub (fun b hb => ⟨hG b hb, hys.1 b hb⟩) hvb h9 h10, h10, h11⟩
      · rcases old hz hi with h9 | rfl
        · exact h8 i z b h9 hi hzb hyb
        · cases hzb
    · exact ⟨KidV.nil, fun _ _ b _ _ _ h => by cases h⟩
theorem src_w {s : St} (M : Mem w g s.ob) {E U : Nat} {v : Value} {y : AV} (hv : ARel w g s.ob v y) {sz : Nat} {news : List AV} (h : srcOf std ty s E U y = some (sz, news)) : ∀ x ∈ news, x.cells.length = sz := by
  have cutw : ∀ {xs : List AV} {k : Int}, (∀ x ∈ xs, x.cells.length = sz) → ∀ x ∈ std.cut xs 0 k, x.cells.length = sz := fun hw x hx => by
    have : x ∈ (_ : List AV) := hx
    exact hw x (List.mem_of_mem_drop (List.mem_of_mem_take hx))
  unfold srcOf at h
  split at h
  · split at h
    · obtain ⟨rfl, rfl⟩ : 1 = sz ∧ std.bytesS _ = news := by simpa using h
      intro x hx
      obtain ⟨n, _, rfl⟩ := List.mem_map.1 (show x ∈ List.map _ _ from hx)
      rfl
    · cases h
  · split at h
    · obtain ⟨_, rfl⟩ : _ ∧ [] = news := by simpa using h
      intro x hx; cases hx
    · cases h
  · split at h
    · cases y with
      | slc sz' l =>
        obtain ⟨rfl, rfl⟩ : sz' = sz ∧ l = news := by simpa [elems] using h
        cases (show PRel w g.A v (.slc sz' l) from hv) with
        | nil => intro x hx; cases hx
        | slc b o c _ _ f hc hm hw hcell hrel => exact hw
      | row id ep =>
        obtain ⟨_, et, sz', fz, e, xs', h1, h2, h3⟩ := hv
        simp only [elems, h1] at h
        split at h
        · obtain ⟨rfl, rfl⟩ : sz' = sz ∧ xs' = news := by simpa using h
          exact (M.roww _ _ _ _ _ _ h1).2
        · cases h
      | rowk id ep k =>
        obtain ⟨_, et, sz', fz, e, xs', h1, h2, h3⟩ := hv
        simp only [elems, h1] at h
        split at h
        · obtain ⟨rfl, rfl⟩ : sz' = sz ∧ std.cut xs' 0 k = news := by simpa using h
          exact cutw (M.roww _ _ _ _ _ _ h1).2
        · cases h
      | _ => simp [elems] at h
    · cases h
theorem op_append_row (hT : TyOk P ty) {K : St → Tree} {o : Oper} {s : St} {a : Act} {w : World} {R : Exit → Act → World → Prop} (hs : Sim w0 g0 o0 N s a w) (hd : ∀ t, o.dst = some t → t < N)
    {x y : Operand} {args : Array Operand} {tys : Array TypeId} (ho : o.op = .call { callee := .builtin .append, args := args, argTypes := tys }) (ha : args.toList = [x, y]) {T U : Nat} (ht : tys.toList = [T, U])
    {ob : List Ob} (hob : ∀ g, Mem w g s.ob → Mem w g ob ∧ Ext w g s.ob w g ob ∧ Step w g s.ob w g ob) {id et sz ep : Nat} {fz : Bool} {xs xs' news : List AV} (h : ob[id]? = some (.row et sz fz ep xs))
    (hv : ∀ g, Mem w g s.ob → Slots w g s a → RowV w g id et sz (a.eval x) xs') (hfz : fz = true → xs' = xs) (hel : elOk ty T sz = true) (het : et = (tyLook T ty).elem)
    (hsrc : srcOf std ty s et U (ev s y) = some (sz, news)) (hsub : subOk et news = true) (hb : std.bnd xs' news)
    (hok : (K (St.put ⟨s.tm, ob.set id (.row et sz fz (ep + 1) (std.app xs' news))⟩ o.dst (.row id (ep + 1)))).ok P w0 g0 o0 N Q) : o.wp P a w (Good ty P w0 g0 o0 N Q K o.op w) R := by
  obtain ⟨g, M, hS, h0⟩ := hs.rel
  obtain ⟨M1, E1, S1⟩ := hob g M
  obtain ⟨e, hT1, hee, te, hes, hpos⟩ := el_facts hT hel
  have hyr := ev_rel hS y
  have hw := src_w M hyr hsrc
  have hes' : (tyLook et ty).size = sz := by rw [het, ← hee]; exact hes
  obtain ⟨d, zs, hu, hd', hzl, hal, hlen, hfc⟩ := src_rel hT M hyr hsrc hes' hpos hw
  obtain ⟨v', w', hr, M2, S2, R2⟩ := append_core hT (a := a) (s := s) M1 h (hv g M hS) hfz hel het hu hd' hzl hal hlen hfc hw hsub hb o.type
  have hargs : args = #[x, y] := by apply Array.ext'; simpa using ha
  have htys : tys = #[T, U] := by apply Array.ext'; simpa using ht
  subst hargs htys
  have hrun : (execOp a.eval o).run P w = .ok (.value v') w' := by
    obtain ⟨cs, hc⟩ := exec_builtin (P := P) (a := a) ho w
    rw [hc]
    show (do pure (Next.value (← Builtin.append_ #[T, U] o.type (Array.map a.eval #[x, y]))) : Sem Next).run P w = _
    refine run_valW ?_
    simpa using hr
  have hS1 : Slots w g ⟨s.tm, ob⟩ a := fun t => (hS t).ext E1
  have hs1 : Sim w0 g0 o0 N ⟨s.tm, ob⟩ a w := ⟨hs.defers, hs.size, g, M1, hS1, h0.trans S1⟩
  refine wp_ok hrun ⟨fun h => by simp [ho, quietW] at h, _, sim_put (s := ⟨s.tm, ob⟩) hs1 hS1 (h0.trans S1) M2 S2 hd ?_, hok⟩
  refine ⟨?_, et, sz, fz, ep + 1, xs' ++ news, List.getElem?_set_self (lt_of_some h), Nat.le_refl _, fun _ => R2⟩
  obtain ⟨ys, ho2, _⟩ := R2
  rcases ho2.2 with ⟨rfl, _⟩ | ⟨b, cap, cur, rfl, _⟩ <;> rfl
end
end Go.Proofs.Ytblafdmmebiagaa
namespace Go.Proofs.Ytblafdmmebiagaa
open Go.RowKit Go.Lib
section
variable {P : Program} {ty : Tys} {w0 : World} {g0 : Gh} {o0 : List Ob} {N : Nat} {Q : Ex → St → Prop} {w w' : World} {g g' : Gh} {ob ob' : List Ob}
theorem op_bytes (hT : TyOk P ty) {K : St → Tree} {o : Oper} {s : St} {a : Act} {w : World} {R : Exit → Act → World → Prop} (hs : Sim w0 g0 o0 N s a w) (hd : ∀ t, o.dst = some t → t < N)
    {src dst : Nat} {x : Operand} (ho : o.op = .convert src dst x) {b : ByteArray} (hx : ev s x = .val (.string b)) (h1 : (tyLook src ty).kd = 6) (h2 : (tyLook dst ty).sl = true) (h3 : (tyLook (tyLook dst ty).elem ty).kind = some .u8) (hb : b.size ≤ 1000000000)
    (hok : (K (St.put s o.dst (.slc 1 (std.bytesS b)))).ok P w0 g0 o0 N Q) : o.wp P a w (Good ty P w0 g0 o0 N Q K o.op w) R := by
  obtain ⟨g, M, hS, h0⟩ := hs.rel
  have hxr := ev_rel hS x
  rw [hx] at hxr
  have hs1 := (ty_kd hT h1 (by decide)).str h1
  have hs2 := (ty_sl hT h2).slice h2
  have hs3 := (ty_kind hT h3).int h3
  have hge := grownCap_ge w b.size 0 (tyLook dst ty).elem
  have hmx := grownCap_le_maxLen w b.size 0 (tyLook dst ty).elem (by unfold maxLen; omega)
  have hr := run_bytes_of_string (P := P) w src dst _ b hs1 hs2 hs3
  generalize hC : bytesRow b (grownCap w b.size 0 (tyLook dst ty).elem) = C at hr
  generalize grownCap w b.size 0 (tyLook dst ty).elem = c at *
  have hbel : Below w.heap.size w (w.drew.alloc (.cells C (tyLook dst ty).elem (C.size, C.size + 1))) := (Below.refl _ w).drew.alloc (Nat.le_refl _) _
  have M' := M.immNew hbel
  have hrun : (execOp a.eval o).run P w = .ok (.value (.slice (some ⟨w.heap.size, 0, none⟩) b.size c)) (w.drew.alloc (.cells C (tyLook dst ty).elem (C.size, C.size + 1))) := by
    simp only [execOp, ho, hxr.valEq]
    exact run_valW hr
  have hl : (std.bytesS b).length = b.size := by show (b.data.toList.map _).length = _; simp
  have hbb : std.isB (std.bytesS b) := fun x hx => by
    obtain ⟨n, _, rfl⟩ := List.mem_map.1 (show x ∈ b.data.toList.map _ from hx)
    exact ⟨n, rfl⟩
  have hcell : ∀ (j : Nat) u, (flatA (std.bytesS b))[j]? = some u → ∃ n : UInt8, C[j]? = some (.int .u8 n.toNat) ∧ u = .val (.int .u8 n.toNat) := fun j u hu => by
    rw [isB_flat hbb] at hu
    have hu : (b.data.toList.map fun x => AV.val (.int .u8 x.toNat))[j]? = some u := hu
    rw [List.getElem?_map, Option.map_eq_some_iff] at hu
    obtain ⟨n, hn, rfl⟩ := hu
    have hj := lt_of_some hn
    refine ⟨n, ?_, rfl⟩
    rw [← hC, bytesRow, Array.getElem?_append_left (by simpa using hj)]
    rw [Array.getElem?_map, ← Array.getElem?_toList, hn]; rfl
  have hA : ∀ j, (g.imm w (w.drew.alloc (.cells C (tyLook dst ty).elem (C.size, C.size + 1)))).A w.heap.size j := fun j => .inr ⟨Nat.le_refl _, by simp⟩
  refine wp_ok hrun ⟨fun _ => hbel, _, sim_put hs hS h0 M' (Step.immNew M hbel) hd ?_, hok⟩
  have := PRel.slc (w := w.drew.alloc (.cells C (tyLook dst ty).elem (C.size, C.size + 1))) (A := (g.imm w (w.drew.alloc (.cells C (tyLook dst ty).elem (C.size, C.size + 1)))).A) w.heap.size 0 c 1 (std.bytesS b) (fun j => (C[j]?).getD undef) (by rw [hl]; exact hge) hmx
    (fun x hx => by obtain ⟨n, rfl⟩ := hbb x hx; rfl) (fun j u hu => by
      obtain ⟨n, h4, _⟩ := hcell j u hu
      refine ⟨hA _, ?_⟩
      rw [Nat.zero_add, h4]
      exact (World.cell?_alloc_mark w.drew C _ _ j).trans h4) (fun j u hu => by
      obtain ⟨n, h4, rfl⟩ := hcell j u hu
      simp only [h4]
      exact PRel.val _ rfl)
  rw [hl] at this
  exact this
theorem mark_heap {b b' n : Nat} (h : b' ≠ b) : (w.freeze ⟨b, n, none⟩ 1).heap[b']? = w.heap[b']? := by
  unfold World.freeze
  rw [if_neg (by decide)]
  simp only [Array.getElem?_modify]
  rw [if_neg (by omega)]
theorem mark_cell {b n : Nat} (p : Addr) : (w.freeze ⟨b, n, none⟩ 1).cell? p = w.cell? p := by
  unfold World.freeze
  rw [if_neg (by decide)]
  unfold World.cell?
  simp only [Array.getElem?_modify]
  by_cases hb : b = p.block
  · rw [if_pos hb]
    cases w.heap[p.block]? with
    | none => rfl
    | some o => cases o <;> rfl
  · rw [if_neg hb]
theorem mark_mem (M : Mem w g ob) {id et sz e b : Nat} {fz : Bool} {xs : List AV} (h : ob[id]? = some (.row et sz fz e xs)) (hG : g.G b = some id) (n : Nat) :
    Mem (w.freeze ⟨b, n, none⟩ 1) g (ob.set id (.row et sz fz (e + 1) xs)) ∧ Step w g ob (w.freeze ⟨b, n, none⟩ 1) g (ob.set id (.row et sz fz (e + 1) xs)) := by
  have hid := lt_of_some h
  have hsz : (w.freeze ⟨b, n, none⟩ 1).heap.size = w.heap.size := by
    unfold World.freeze
    rw [if_neg (by decide)]
    simp
  have E : Ext w g ob (w.freeze ⟨b, n, none⟩ 1) g (ob.set id (.row et sz fz (e + 1) xs)) := by
    refine ⟨fun b o h => ⟨h, mark_cell _⟩, fun _ _ => rfl, fun i hi => ?_, fun i hi => ?_, fun i et' sz' fz2 e2 xs2 hi => ?_, fun b' i _ _ => ⟨rfl, fun _ _ h => h⟩⟩
    · have : i ≠ id := by rintro rfl; rw [h] at hi; exact hi
      rw [List.getElem?_set_ne (Ne.symm this)]; exact hi
    · have : i ≠ id := by rintro rfl; rw [h] at hi; exact hi
      rw [List.getElem?_set_ne (Ne.symm this)]; exact hi
    · by_cases e' : i = id
      · subst e'
        rw [h] at hi
        obtain ⟨rfl, rfl, rfl, rfl, rfl⟩ : et = et' ∧ sz = sz' ∧ fz = fz2 ∧ e = e2 ∧ xs = xs2 := by simpa using hi
        exact ⟨fz, e + 1, xs, List.getElem?_set_self hid, by omega, fun he => by omega⟩
      · refine ⟨fz2, e2, xs2, by rw [List.getElem?_set_ne (Ne.symm e')]; exact hi, Nat.le_refl _, fun _ => ⟨rfl, fun b' hG' => ⟨hG', mark_heap ?_⟩⟩⟩
        rintro rfl
        rw [hG] at hG'
        exact e' (by simpa using hG'.symm)
  refine ⟨⟨fun i cs hi => ?_, fun i cs hi j u hj => ?_, fun i s p hi => ?_, fun b i hG => ⟨by rw [hsz]; exact (M.own b i hG).1, by rw [List.length_set]; exact (M.own b i hG).2⟩, fun b' o hA => ⟨by rw [hsz]; exact (M.imm b' o hA).1, fun i hGi hs => ?_⟩, fun i et' sz' fz2 e2 xs2 hi => ?_, fun b' hs => ?_, M.uniq⟩,
    ⟨rfl, rfl, rfl, by rw [hsz]; exact Nat.le_refl _, fun b' _ hN => mark_heap (by rintro rfl; rw [hG] at hN; cases hN), fun b' i h => .inl ⟨i, h⟩, fun b' o h => .inl h, E, by simp⟩⟩
  · have e' : i ≠ id := by rintro rfl; rw [List.getElem?_set_self hid] at hi; cases hi
    rw [List.getElem?_set_ne (Ne.symm e')] at hi
    obtain ⟨h1, cur, T, h2, h3⟩ := M.box i cs hi
    refine ⟨h1, cur, T, ?_, h3.ext E⟩
    rw [mark_heap]
    · exact h2
    · intro hb
      rw [hb, hG] at h1
      exact e' (by simpa using h1.symm)
  · have e' : i ≠ id := by rintro rfl; rw [List.getElem?_set_self hid] at hi; cases hi
    rw [List.getElem?_set_ne (Ne.symm e')] at hi
    obtain ⟨h1, y, h2, h3⟩ := M.fbox i cs hi j u hj
    exact ⟨h1, y, by rw [mark_cell]; exact h2, h3.keep E.A⟩
  · have e' : i ≠ id := by rintro rfl; rw [List.getElem?_set_self hid] at hi; cases hi
    rw [List.getElem?_set_ne (Ne.symm e')] at hi
    obtain ⟨h1, h2⟩ := M.iter i s p hi
    refine ⟨h1, ?_⟩
    rw [mark_heap]
    · exact h2
    · intro hb
      rw [hb, hG] at h1
      exact e' (by simpa using h1.symm)
  · obtain ⟨et', sz', e2, xs2, h3, h4⟩ := (M.imm b' o hA).2 i hGi hs
    by_cases e' : i = id
    · subst e'
      rw [h] at h3
      obtain ⟨rfl, rfl, rfl, rfl, rfl⟩ : et = et' ∧ sz = sz' ∧ fz = true ∧ e = e2 ∧ xs = xs2 := by simpa using h3
      exact ⟨et, sz, e + 1, xs, List.getElem?_set_self hid, h4⟩
    · exact ⟨et', sz', e2, xs2, by rw [List.getElem?_set_ne (Ne.symm e')]; exact h3, h4⟩
  · by_cases e' : i = id
    · subst e'
      rw [List.getElem?_set_self hid] at hi
      cases hi
      exact M.roww _ _ _ _ _ _ h
    · rw [List.getElem?_set_ne (Ne.symm e')] at hi
      exact M.roww i _ _ _ _ _ hi
  · obtain ⟨i, et', sz', fz2, e2, xs2, h3, h4⟩ := M.nsub b' hs
    by_cases e' : i = id
    · subst e'
      exact ⟨i, _, _, _, _, _, h3, List.getElem?_set_self hid⟩
    · exact ⟨i, et', sz', fz2, e2, xs2, h3, by rw [List.getElem?_set_ne (Ne.symm e')]; exact h4⟩
theorem op_mark (hT : TyOk P ty) {K : St → Tree} {o : Oper} {s : St} {a : Act} {w : World} {R : Exit → Act → World → Prop} (hs : Sim w0 g0 o0 N s a w) (hd : ∀ t, o.dst = some t → t < N)
    {src : Nat} {x : Operand} (ho : o.op = .convert src src x) {id et e : Nat} {xs : List AV} (hx : ev s x = .row id e) (hob : s.ob[id]? = some (.row et 1 false e xs)) (h2 : (tyLook src ty).sl = true) (h3 : (tyLook (tyLook src ty).elem ty).kind = some .u8) (hm : xs ≠ [])
    (hok : (K (St.put ⟨s.tm, s.ob.set id (.row et 1 true (e + 1) xs)⟩ o.dst (.slc 1 xs))).ok P w0 g0 o0 N Q) : o.wp P a w (Good ty P w0 g0 o0 N Q K o.op w) R := by
  obtain ⟨g, M, hS, h0⟩ := hs.rel
  have hxr := ev_rel hS x
  rw [hx] at hxr
  obtain ⟨_, et', sz', fz', e', xs', h4, _, h5⟩ := hxr
  rw [hob] at h4
  cases h4
  have hrow := h5 rfl
  obtain ⟨ys, hown, hG, hal, hw, hsub⟩ := h5 rfl
  have hs2 := (ty_sl hT h2).slice h2
  have hs3 := (ty_kind hT h3).int h3
  obtain ⟨g1, M1, E1, hr1, hL1⟩ := freeze_row M hob hrow (Nat.le_refl _)
  obtain ⟨hlen, hnil | ⟨b, cap, cur, hv, hle, hheap, hrest⟩⟩ := hown
  · exfalso
    apply hm
    exact List.eq_nil_of_length_eq_zero hnil.2
  have hGb : g.G b = some id := hG b (by rw [hv]; rfl)
  have hG1 : g1.G b = some id := by
    have := (E1.row id et 1 false e xs hob)
    obtain ⟨fz1, e1, xs1, k1, k2, k3⟩ := this
    rw [List.getElem?_set_self (lt_of_some hob)] at k1
    obtain ⟨rfl, rfl, rfl⟩ : true = fz1 ∧ e = e1 ∧ xs = xs1 := by simpa using k1
    exact ((k3 rfl).2 b hGb).1
  have hob1 : (s.ob.set id (.row et 1 true e xs))[id]? = some (.row et 1 true e xs) := List.getElem?_set_self (lt_of_some hob)
  obtain ⟨M2, S2⟩ := mark_mem M1 hob1 hG1 cur.size
  rw [List.set_set] at M2 S2
  have hrun : (execOp a.eval o).run P w = .ok (.value (a.eval x)) (w.freeze ⟨b, cur.size, none⟩ 1) := by
    simp only [execOp, ho, hv]
    refine run_valW ?_
    have hsh : w.shape? b = some (et, cur.size) := by unfold World.shape?; rw [hheap]
    simp [convert, run_underlying hs2, run_underlying hs3, markStringish, hsh]
  have hst := (Step.ghost (ob' := s.ob.set id (.row et 1 true e xs)) E1 hL1).trans S2
  refine wp_ok hrun ⟨fun hq => ?_, _, sim_put (g' := g1) hs hS h0 M2 hst hd ?_, hok⟩
  · simp [ho, quietW, h2] at hq
  · have : PRel (w.freeze ⟨b, cur.size, none⟩ 1) g1.A (a.eval x) (.slc 1 xs) := hr1.keep fun b' o' h => ⟨h, mark_cell _⟩
    exact this
theorem op_range (hT : TyOk P ty) {K : St → Tree} {o : Oper} {s : St} {a : Act} {w : World} {R : Exit → Act → World → Prop} (hs : Sim w0 g0 o0 N s a w) (hd : ∀ t, o.dst = some t → t < N)
    {T : Nat} {x : Operand} (ho : o.op = .range T x) {b : ByteArray} (hx : ev s x = .val (.string b)) (h1 : (tyLook T ty).kd = 6)
    (hok : (K (St.put ⟨s.tm, s.ob ++ [.iter b 0]⟩ o.dst (.iter s.ob.length))).ok P w0 g0 o0 N Q) : o.wp P a w (Good ty P w0 g0 o0 N Q K o.op w) R := by
  obtain ⟨g, M, hS, h0⟩ := hs.rel
  have hxr := ev_rel hS x
  rw [hx] at hxr
  have hs1 := (ty_kd hT h1 (by decide)).str h1
  have hr : (execOp a.eval o).run P w = .ok (.value (.pointer (some ⟨w.heap.size, 0, none⟩))) (w.alloc (.stringIter b 0)) := by
    simp only [execOp, ho, hxr.valEq]
    refine run_valW ?_
    simp only [Instr.range, Sem.run_bind, run_underlying hs1, Result.andThen_ok, Sem.run_pure, run_newObj]
    rfl
  have M' := M.new (.stringIter b 0) (.iter b 0) (fun cs h => by cases h) (fun cs h => by cases h) (fun s p h => by cases h; rfl) (fun et sz fz e xs h => by cases h)
  refine wp_ok hr ⟨fun _ => (Below.refl _ w).alloc (Nat.le_refl _) _, _, sim_put hs hS h0 M' (Step.new M _ _) hd ?_, hok⟩
  refine ⟨by simp [Gh.new], ?_⟩
  rw [get_new]; trivial
theorem iter_set (M : Mem w g ob) {id : Nat} {b : ByteArray} {p p' : Nat} (h : ob[id]? = some (.iter b p)) :
    Mem { w with heap := w.heap.setIfInBounds (g.loc id) (.stringIter b p') } g (ob.set id (.iter b p')) ∧ Step w g ob { w with heap := w.heap.setIfInBounds (g.loc id) (.stringIter b p') } g (ob.set id (.iter b p')) := by
  have hid := lt_of_some h
  obtain ⟨hG, hh⟩ := M.iter id b p h
  have hlt := (M.own _ _ hG).1
  have other : ∀ {k : Nat}, k ≠ g.loc id → ({ w with heap := w.heap.setIfInBounds (g.loc id) (.stringIter b p') } : World).heap[k]? = w.heap[k]? := fun hk => by
    show (w.heap.setIfInBounds _ _)[_]? = _
    rw [Array.getElem?_setIfInBounds_ne (Ne.symm hk)]
  have ne : ∀ {k i : Nat}, g.G k = some i → i ≠ id → k ≠ g.loc id := by
    rintro k i h1 h2 rfl
    rw [hG] at h1
    exact h2 (by simpa using h1.symm)
  have hA : ∀ k o, g.A k o → k ≠ g.loc id := by
    rintro k o h1 rfl
    obtain ⟨et, sz, e, xs, h2, _⟩ := (M.imm _ _ h1).2 id hG (M.nosub hG fun _ _ _ _ _ h3 => by rw [h] at h3; cases h3)
    rw [h] at h2; cases h2
  have E : Ext w g ob { w with heap := w.heap.setIfInBounds (g.loc id) (.stringIter b p') } g (ob.set id (.iter b p')) := by
    refine ⟨fun k o h1 => ⟨h1, World.cell?_of_block (w := w) (other (hA k o h1))⟩, fun _ _ => rfl, fun i hi => ?_, fun i hi => ?_, fun i et sz fz e xs hi => ?_, fun _ _ _ _ => ⟨rfl, fun _ _ h => h⟩⟩
    · have : i ≠ id := by rintro rfl; rw [h] at hi; exact hi
      rw [List.getElem?_set_ne (Ne.symm this)]; exact hi
    · by_cases e : i = id
      · subst e; rw [List.getElem?_set_self hid]; trivial
      · rw [List.getElem?_set_ne (Ne.symm e)]; exact hi
    · have : i ≠ id := by rintro rfl; rw [h] at hi; cases hi
      exact ⟨fz, e, xs, by rw [List.getElem?_set_ne (Ne.symm this)]; exact hi, Nat.le_refl _, fun _ => ⟨rfl, fun k hk => ⟨hk, other (ne hk this)⟩⟩⟩
  have hsz : ({ w with heap := w.heap.setIfInBounds (g.loc id) (.stringIter b p') } : World).heap.size = w.heap.size := by show (w.heap.setIfInBounds _ _).size = _; simp
  refine ⟨⟨fun i cs hi => ?_, fun i cs hi j u hj => ?_, fun i s q hi => ?_, fun k i hk => by rw [hsz, List.length_set]; exact M.own k i hk, fun k o h1 => ?_, fun i et sz fz e xs hi => ?_, fun b hs => ?_, M.uniq⟩,
    ⟨rfl, rfl, rfl, by rw [hsz]; exact Nat.le_refl _, fun k _ hk => other (fun e => by rw [e, hG] at hk; cases hk), fun k i hk => .inl ⟨i, hk⟩, fun _ _ h => .inl h, E, by simp⟩⟩
  · have e' : i ≠ id := by rintro rfl; rw [List.getElem?_set_self hid] at hi; cases hi
    rw [List.getElem?_set_ne (Ne.symm e')] at hi
    obtain ⟨h1, cur, T, h2, h3⟩ := M.box i cs hi
    exact ⟨h1, cur, T, (other (ne h1 e')).trans h2, h3.ext E⟩
  · have e' : i ≠ id := by rintro rfl; rw [List.getElem?_set_self hid] at hi; cases hi
    rw [List.getElem?_set_ne (Ne.symm e')] at hi
    obtain ⟨h1, y, h2, h3⟩ := M.fbox i cs hi j u hj
    exact ⟨h1, y, (E.A _ _ h1).2.trans h2, h3.keep E.A⟩
  · by_cases e' : i = id
    · subst e'
      rw [List.getElem?_set_self hid] at hi
      obtain ⟨rfl, rfl⟩ : b = s ∧ p' = q := by simpa using hi
      exact ⟨hG, by show (w.heap.setIfInBounds _ _)[_]? = _; rw [Array.getElem?_setIfInBounds_self, if_pos hlt]⟩
    · rw [List.getElem?_set_ne (Ne.symm e')] at hi
      obtain ⟨h1, h2⟩ := M.iter i s q hi
      exact ⟨h1, (other (ne h1 e')).trans h2⟩
  · obtain ⟨h2, h3⟩ := M.imm k o h1
    refine ⟨by rw [hsz]; exact h2, fun i hk hs => ?_⟩
    obtain ⟨et, sz, e, xs, h4, h5⟩ := h3 i hk hs
    have e' : i ≠ id := by rintro rfl; rw [h] at h4; cases h4
    exact ⟨et, sz, e, xs, by rw [List.getElem?_set_ne (Ne.symm e')]; exact h4, h5⟩
  · have e' : i ≠ id := by rintro rfl; rw [List.getElem?_set_self hid] at hi; cases hi
    rw [List.getElem?_set_ne (Ne.symm e')] at hi
    exact M.roww i et sz fz e xs hi
  · obtain ⟨i, et, sz, fz, e, xs, h3, h4⟩ := M.nsub b hs
    have e' : i ≠ id := by rintro rfl; rw [h] at h4; cases h4
    exact ⟨i, et, sz, fz, e, xs, h3, by rw [List.getElem?_set_ne (Ne.symm e')]; exact h4⟩
theorem op_next {K : St → Tree} {o : Oper} {s : St} {a : Act} {w : World} {R : Exit → Act → World → Prop} (hs : Sim w0 g0 o0 N s a w) (hd : ∀ t, o.dst = some t → t < N)
    {it : Operand} (ho : o.op = .next it true) {id : Nat} (hi : ev s it = .iter id) {b : ByteArray} {pos : Nat} (hob : s.ob[id]? = some (.iter b pos))
    (ht : std.itmore b pos = true → (K (St.put ⟨s.tm, s.ob.set id (.iter b (std.itp b pos))⟩ o.dst (.tup [.kb true, .val (.int .i64 (std.toI pos)), .val (.int .i32 (std.itr b pos))]))).ok P w0 g0 o0 N Q)
    (hf : std.itmore b pos = false → (K (St.put s o.dst (.tup [.kb false]))).ok P w0 g0 o0 N Q) : o.wp P a w (Good ty P w0 g0 o0 N Q K o.op w) R := by
  obtain ⟨g, M, hS, h0⟩ := hs.rel
  have hir := ev_rel hS it
  rw [hi] at hir
  have hv : a.eval it = .pointer (some ⟨g.loc id, 0, none⟩) := hir.1
  obtain ⟨hG, hh⟩ := M.iter id b pos hob
  have hget : (getObj (g.loc id)).run P w = .ok (.stringIter b pos) w := by simp [getObj, Sem.run, hh]
  by_cases hlt : pos < b.size
  · obtain ⟨M', S'⟩ := iter_set M (p' := std.itp b pos) hob
    have hr : (execOp a.eval o).run P w = .ok (.value (.tuple #[.bool true, .int .i64 pos, .int .i32 ((Utf8.decode b pos).1 : Int)])) { w with heap := w.heap.setIfInBounds (g.loc id) (.stringIter b (std.itp b pos)) } := by
      simp only [execOp, ho, hv]
      refine run_valW ?_
      have hset : (setObj (g.loc id) (.stringIter b (pos + (Utf8.decode b pos).2))).run P w = .ok () { w with heap := w.heap.setIfInBounds (g.loc id) (.stringIter b (std.itp b pos)) } := by
        simp only [setObj, Sem.run, hh]; rfl
      simp only [Instr.next, Sem.run_bind, hget, Result.andThen_ok, hlt, if_true, hset, Sem.run_pure, goInt]
    refine wp_ok hr ⟨fun h => by simp [ho, quietW] at h, _, sim_put hs hS h0 M' S' hd ?_, ht (by show decide (pos < b.size) = true; simp [hlt])⟩
    refine ⟨_, rfl, rfl, fun j y u hy hu => ?_⟩
    match j, hy, hu with
    | 0, hy, hu =>
      obtain rfl : Value.bool true = y := by simpa using hy
      obtain rfl : AV.kb true = u := by simpa using hu
      exact (rfl : Value.bool true = .bool true)
    | 1, hy, hu =>
      obtain rfl : Value.int .i64 pos = y := by simpa using hy
      obtain rfl : AV.val (.int .i64 (std.toI pos)) = u := by simpa using hu
      exact PRel.val _ rfl
    | 2, hy, hu =>
      obtain rfl : Value.int .i32 ((Utf8.decode b pos).1 : Int) = y := by simpa using hy
      obtain rfl : AV.val (.int .i32 (std.itr b pos)) = u := by simpa using hu
      exact PRel.val _ rfl
    | j + 3, hy, _ => simp at hy
  · have hr : (execOp a.eval o).run P w = .ok (.value (.tuple #[.bool false])) w := by
      simp only [execOp, ho, hv]
      refine run_valW ?_
      simp only [Instr.next, Sem.run_bind, hget, Result.andThen_ok, hlt, if_false, Sem.run_pure]
    refine wp_ok hr ⟨fun h => by simp [ho, quietW] at h, _, sim_put hs hS h0 M Step.refl hd (x := .tup [.kb false]) ?_, hf (by show decide (pos < b.size) = false; simp [hlt])⟩
    refine ⟨_, rfl, rfl, fun j y u hy hu => ?_⟩
    match j, hy, hu with
    | 0, hy, hu =>
      obtain rfl : Value.bool false = y := by simpa using hy
      obtain rfl : AV.kb false = u := by simpa using hu
      exact (rfl : Value.bool false = .bool false)
    | j + 1, hy, _ => simp at hy
end
end Go.Proofs.Ytblafdmmebiagaa
