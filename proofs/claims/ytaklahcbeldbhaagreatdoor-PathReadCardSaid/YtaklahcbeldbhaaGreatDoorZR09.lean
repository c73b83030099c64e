/- Lemmas, conditions told -/
import Derived.Test.YtaklahcbeldbhaaGreatDoorZR08
import Derived.Test.YtaklahcbeldbhaaGreatDoorZR07
import Derived.Laws.Sem
set_option linter.unusedSimpArgs false
set_option linter.unusedVariables false
namespace Go.Proofs.YtaklahcbeldbhaaGreatDoor
open Go.RowKit Go.Lib
section
variable {P : Program} {ops : Array Oper} {Q : Exit → Act → World → Prop} {md : Region.Mode} {late : Nat → Bool}
def wpR (P : Program) (md : Region.Mode) (ops : Array Oper) (late : Nat → Bool) (Q : Exit → Act → World → Prop) : Nat → Array Bool → Act → World → Prop
  | 0, listed, a, w => Region.ready md ops listed = [] ∧ Q .normal a w
  | n + 1, listed, a, w => (Region.ready md ops listed = [] → Q .normal a w) ∧
      ∀ i ∈ Region.ready md ops listed, wpOp P ops Q i (fun a' w' => (late i = false → LeB w w') ∧ wpR P md ops late Q n (listed.setIfInBounds i true) a' w') a w
theorem wpAny_of_R : ∀ (n : Nat) (listed : Array Bool) (a : Act) (w : World), wpR P md ops late Q n listed a w → wpAny P md ops Q n listed a w
  | 0, _, _, _, h => h
  | n + 1, _, _, _, h => ⟨h.1, fun i hi => wpOp_mono (fun a' w' h' => wpAny_of_R n _ a' w' h'.2) (h.2 i hi)⟩
def Closed (md : Region.Mode) (ops : Array Oper) (listed : Array Bool) : Prop :=
  ∀ (j : Nat) oj, ops[j]? = some oj → listed.getD j true = true → ∀ e ∈ oj.after, Region.binds md e = true → listed.getD e.on true = true
def anc (md : Region.Mode) (ops : Array Oper) (i : Nat) : Nat → Nat → Bool
  | 0, _ => false
  | n + 1, j => match ops[j]? with
    | some oj => oj.after.any fun e => Region.binds md e && (e.on == i || anc md ops i n e.on)
    | none => false
theorem getD_mono {listed : Array Bool} {k : Nat} (h : listed.getD k false = true) : listed.getD k true = true := by
  rcases Nat.lt_or_ge k listed.size with h' | h'
  · simp [h'] at h ⊢; exact h
  · simp [Nat.not_lt.2 h'] at h ⊢
theorem Closed.set {listed : Array Bool} (h : Closed md ops listed) {j : Nat} (hr : j ∈ Region.ready md ops listed) : Closed md ops (listed.setIfInBounds j true) := by
  have up : ∀ k, listed.getD k true = true → (listed.setIfInBounds j true).getD k true = true := fun k hk => by
    by_cases e : j = k
    · subst e
      rcases Nat.lt_or_ge j listed.size with h' | h'
      · simp [h']
      · simp [Nat.not_lt.2 h']
    · rw [getD_set_ne true e]; exact hk
  intro k ok hk hl e he hb
  by_cases hjk : j = k
  · subst hjk
    obtain ⟨_, o, ho, hall⟩ := mem_ready.1 hr
    rw [hk] at ho; cases ho
    exact up _ (getD_mono (hall e he hb))
  · rw [getD_set_ne true hjk] at hl
    exact up _ (h k ok hk hl e he hb)
theorem anc_not {listed : Array Bool} (h : Closed md ops listed) {i : Nat} (hi : listed.getD i true = false) : ∀ (n j : Nat), anc md ops i n j = true → ∀ oj, ops[j]? = some oj →
    ¬ (∀ e ∈ oj.after, Region.binds md e = true → listed.getD e.on true = true)
  | 0, _, h0, _, _, _ => by cases h0
  | n + 1, j, h0, oj, hj, hall => by
    simp only [anc, hj] at h0
    obtain ⟨e, he, hb⟩ := Array.any_eq_true'.1 h0
    simp only [Bool.and_eq_true, Bool.or_eq_true, beq_iff_eq] at hb
    obtain ⟨hb, h1 | h1⟩ := hb
    · have := hall e he hb
      rw [h1, hi] at this; cases this
    · have hl := hall e he hb
      cases hk : ops[e.on]? with
      | none =>
        cases n <;> simp [anc, hk] at h1
      | some ok => exact anc_not h hi n e.on h1 ok hk (h e.on ok hk hl)
theorem wpR_first {i : Nat} {oi : Oper} {v : Value} {rd : Bool} (hi : ops[i]? = some oi)
    (hsel : ∀ (j : Nat) (o : Oper) cs b, ops[j]? = some o → o.op ≠ .select cs b)
    (hQ : ∀ c a w, Q (.panic c) (a.put oi.dst v) w → Q (.panic c) a w) (hli : late i = false) :
    ∀ (n : Nat) (listed : Array Bool) (a : Act) (w : World), Closed md ops listed → (rd = true → ∀ j oj, ops[j]? = some oj → late j = true → listed.getD j true = false → anc md ops i ops.size j = true) →
      (∀ j oj, ops[j]? = some oj → j ≠ i → listed.getD j true = false → (∀ e ∈ oj.after, Region.binds md e = true → e.on ≠ i) → oi.apart ops oj = true) →
      i ∈ Region.ready md ops listed → YieldsIf P ops (fun W => rd = true → LeB w W) oi v a →
      wpR P md ops late Q n (listed.setIfInBounds i true) (a.put oi.dst v) w → wpR P md ops late Q (n + 1) listed a w := by
  intro n
  induction n with
  | zero =>
    intro listed a w hC _ _ hr hy H
    refine ⟨fun h => (by rw [h] at hr; cases hr), fun j hj => ?_⟩
    by_cases hji : j = i
    · subst hji; exact hy.wpOp hi (fun _ => LeB.refl w) ⟨fun _ => LeB.refl w, H⟩
    · have := ready_mono hj hji
      rw [H.1] at this
      cases this
  | succ n ih =>
    intro listed a w hC hlate hfree hr hy H
    refine ⟨fun h => (by rw [h] at hr; cases hr), fun j hj => ?_⟩
    by_cases hji : j = i
    · subst hji; exact hy.wpOp hi (fun _ => LeB.refl w) ⟨fun _ => LeB.refl w, H⟩
    · have h1 := H.2 j (ready_mono hj hji)
      obtain ⟨hjun, oj, hoj, hall⟩ := mem_ready.1 hj
      have hun := (mem_ready.1 hr).1
      have hnot : ∀ e ∈ oj.after, Region.binds md e = true → e.on ≠ i := fun e he hb heq => by
        have h1 := hall e he hb
        rw [heq] at h1
        have := getD_mono h1
        rw [hun] at this; cases this
      have h2 := wpOp_putIf (S := fun W => rd = true → LeB w W) hoj (hfree j oj hoj hji hjun hnot) (fun cs b => hsel i oi cs b hi) (fun cs b => hsel j oj cs b hoj) hQ hy h1
      have hfree' : ∀ k ok, ops[k]? = some ok → k ≠ i → (listed.setIfInBounds j true).getD k true = false →
          (∀ e ∈ ok.after, Region.binds md e = true → e.on ≠ i) → oi.apart ops ok = true := fun k ok hk hki hun hno => by
        refine hfree k ok hk hki ?_ hno
        by_cases hjk : j = k
        · subst hjk; exact hjun
        · rw [getD_set_ne true hjk] at hun; exact hun
      refine wpOp_mono (fun a' w' h3 => ?_) h2
      obtain ⟨h3, h4, h5⟩ := h3
      -- what is read stays
      have hle : rd = true → LeB w w' := fun hri => by
        refine h4 ?_
        cases hlj : late j with
        | false => rfl
        | true => exact (anc_not hC hun _ _ (hlate hri j oj hoj hlj hjun) oj hoj (fun e he hb => getD_mono (hall e he hb))).elim
      have hlate' : rd = true → ∀ k ok, ops[k]? = some ok → late k = true → (listed.setIfInBounds j true).getD k true = false → anc md ops i ops.size k = true := fun hri k ok hk hl hun => by
        refine hlate hri k ok hk hl ?_
        by_cases hjk : j = k
        · subst hjk; exact hjun
        · rw [getD_set_ne true hjk] at hun; exact hun
      refine ⟨h4, ih (listed.setIfInBounds j true) a' w' (hC.set hj) hlate' hfree' (ready_mono hr (Ne.symm hji)) (YieldsIf.weaken h3 fun V hV hri => LeB.trans _ _ _ (hle hri) (hV hri)) ?_⟩
      rw [Array.setIfInBounds_comm _ _ hji]
      exact h5
end
def stillO (ty : Tys) : Op → Bool
  | .alloc _ | .box _ _ | .store _ _ _ | .buildSlice _ _ _ | .range _ _ | .next _ _ | .makeMap _ _ | .lookup _ _ _ _ | .mapUpdate _ _ _ _ => false
  | .call { callee := .builtin .append, .. } | .call { callee := .value _, .. } => false
  | .convert _ dst _ => !(tyLook dst ty).sl
  | _ => true
def lateO (ty : Tys) (ops : Array Oper) (j : Nat) : Bool := match ops[j]? with
  | some o => !quietW ty o.op
  | none => false
def OT.heads : OT → List Nat
  | .nil => []
  | .cons i _ => [i]
  | .fork a b => a.heads ++ b.heads
def drawOk (md : Region.Mode) (ty : Tys) (ops : Array Oper) : OT → Nat → Array Bool → Bool → Bool
  | .nil, n, listed, among => n == 0 && !among && (Region.ready md ops listed).isEmpty
  | .cons i rest, n, listed, among => n != 0 && (match ops[i]? with
      | some o => (if among then (Region.ready md ops listed).contains i else Region.ready md ops listed == [i] || (stillO ty o.op && (Region.ready md ops listed).contains i && Region.free md ops listed i &&
          (!readsM o.op || (List.range ops.size).all fun j => !lateO ty ops j || (listed.getD j true || anc md ops i ops.size j))))
      | none => false) && drawOk md ty ops rest (n - 1) (listed.setIfInBounds i true) false
  | .fork a b, n, listed, among => (among || (!(Region.ready md ops listed).isEmpty && (Region.ready md ops listed).all fun i => (OT.fork a b).heads.contains i)) &&
      drawOk md ty ops a n listed true && drawOk md ty ops b n listed true
def ordOk (md : Region.Mode) (ty : Tys) (ord : Nat → OT) : Code → Bool
  | .region id ops draw => if draw then Region.noSelect ops && drawOk md ty ops ((ord id).or ops.size) ops.size (Array.replicate ops.size false) false else true
  | .seq a b => ordOk md ty ord a && ordOk md ty ord b
  | .cond _ a b => ordOk md ty ord a && ordOk md ty ord b
  | .block _ c => ordOk md ty ord c
  | .loop c => ordOk md ty ord c
  | _ => true
def dstOk (N : Nat) : Code → Bool
  | .region _ ops _ => ops.all fun o => match o.dst with | some d => decide (d < N) | none => true
  | .seq a b => dstOk N a && dstOk N b
  | .cond _ a b => dstOk N a && dstOk N b
  | .block _ c => dstOk N c
  | .loop c => dstOk N c
  | _ => true
section
variable {P : Program} {ty : Tys} {w0 : World} {g0 : Gh} {o0 : List Ob} {N : Nat} {Q : Ex → St → Prop}
theorem still_sound (hT : TyOk P ty) {cs : Nat → List AV → List Ob → Option (AV × List Ob)} {K : St → Tree} {o : Oper} {s : St} {a : Act} {w : World} (hst : stillO ty o.op = true)
    (hok : (aop std ty cs K o s).ok P w0 g0 o0 N Q) : ∃ s1 x, (∀ a w, Sim w0 g0 o0 N s a w → Sim w0 g0 o0 N s1 a w) ∧ (K (St.put s1 o.dst x)).ok P w0 g0 o0 N Q ∧ ∀ g, Mem w g s1.ob → Slots w g s1 a → Yld P w g s1 a o (readsM o.op) x := by
  have rest0 : ∀ s1, (∀ a w, Sim w0 g0 o0 N s a w → Sim w0 g0 o0 N s1 a w) → (aopRest std ty K o s1 o.op).ok P w0 g0 o0 N Q → ∃ s1 x, (∀ a w, Sim w0 g0 o0 N s a w → Sim w0 g0 o0 N s1 a w) ∧ (K (St.put s1 o.dst x)).ok P w0 g0 o0 N Q ∧ ∀ g, Mem w g s1.ob → Slots w g s1 a → Yld P w g s1 a o (readsM o.op) x := by
    intro s1 h1 h
    unfold aopRest at h
    split at h
    · rename_i v hv
      exact ⟨s1, v, h1, h, fun g M hS => aval_sound hT hS M hv (fun r h => by cases h)⟩
    · rename_i q v hv
      exact ⟨s1, v, h1, h.2, fun g M hS => aval_sound hT hS M hv (fun r hr => by cases hr; exact h.1)⟩
    · split at h
      · rename_i src dst x ho
        rw [ho] at hst
        simp only [stillO, Bool.not_eq_true'] at hst
        split at h
        · split at h
          · rename_i hk
            rw [hk.2.1] at hst; cases hst
          · exact h.elim
        · split at h
          · split at h
            · rename_i hk
              rw [← hk.2.1, hk.2.2.2.1] at hst; cases hst
            · exact h.elim
          · exact h.elim
        · exact h.elim
      · exact h.elim
  have rest := rest0 s (fun _ _ h => h)
  obtain ⟨op, ho⟩ : ∃ op, o.op = op := ⟨_, rfl⟩
  cases op with
  | assign x =>
    simp only [aop, ho] at hok
    exact rest0 _ (fun a w h => commit_sim x h) (by rw [ho]; exact hok)
  | slice T x lo hi m =>
    cases lo with
    | none => exact rest (by rw [ho]; simpa only [aop, ho] using hok)
    | some l =>
      simp only [aop, ho] at hok
      exact rest0 _ (fun a w h => thaw_sim x h) (by rw [ho]; exact hok)
  | binOp op T x y T' =>
    rcases nilq_ok (w := w) (a := a) hT ho hok with h | ⟨z, h1, h2⟩
    · exact rest h
    · exact ⟨s, z, fun _ _ h => h, h1, fun g _ hS => h2 g _ hS⟩
  | alloc T => simp [ho, stillO] at hst
  | box T x => simp [ho, stillO] at hst
  | store T x y => simp [ho, stillO] at hst
  | buildSlice T len parts => simp [ho, stillO] at hst
  | range T x => simp [ho, stillO] at hst
  | makeMap T r => simp [ho, stillO] at hst
  | lookup T x i c => simp [ho, stillO] at hst
  | mapUpdate T m i x => simp [ho, stillO] at hst
  | next it b => simp [ho, stillO] at hst
  | call c =>
    obtain ⟨callee, args, tys⟩ := c
    cases callee with
    | builtin b =>
      cases b with
      | append => simp [ho, stillO] at hst
      | _ => exact rest (by rw [ho]; simpa only [aop, ho] using hok)
    | invoke _ _ => exact rest (by rw [ho]; simpa only [aop, ho] using hok)
    | value f => simp [ho, stillO] at hst
  | _ => exact rest (by rw [ho]; simpa only [aop, ho] using hok)
end
end Go.Proofs.YtaklahcbeldbhaaGreatDoor
namespace Go.Proofs.YtaklahcbeldbhaaGreatDoor
open Go.RowKit Go.Lib
section
variable {P : Program} {ty : Tys} {w0 : World} {g0 : Gh} {o0 : List Ob} {N : Nat} {Q : Ex → St → Prop} {w : World} {a : Act} {s : St}
theorem sim_known (hs : Sim w0 g0 o0 N s a w) {d : Nat} {b : Bool} (hv : lk d s.tm = .val (.bool b)) (c : Bool) (hc : b = c) : Sim w0 g0 o0 N (s.put (some d) (.kb c)) a w := by
  subst hc
  obtain ⟨g, M, hS, h0⟩ := hs.rel
  refine ⟨hs.defers, hs.size, g, M, fun t => ?_, h0⟩
  show ARel w g s.ob _ (if t = d then .kb b else lk t s.tm)
  by_cases e : t = d
  · subst e
    rw [if_pos rfl]
    have h := hS t
    rw [hv] at h
    exact h.valEq
  · rw [if_neg e]; exact hS t
theorem sim_undef (hs : Sim w0 g0 o0 N s a w) {d : Option Nat} (hd : ∀ t, d = some t → t < N) : Sim w0 g0 o0 N (s.put d (.tup [])) (a.put d undef) w := by
  obtain ⟨g, M, hS, h0⟩ := hs.rel
  exact sim_put (s := s) (ob' := s.ob) hs hS h0 M Step.refl hd (v := undef) (x := .tup []) ⟨#[], rfl, rfl, fun j y u h => by simp at h⟩
theorem sim_bool (hs : Sim w0 g0 o0 N s a w) {d : Nat} {b : Bool} (hv : lk d s.tm = .kb b) : a.tmps.getD d undef = .bool b := by
  obtain ⟨g, M, hS, h0⟩ := hs.rel
  have h := hS d
  rw [hv] at h
  exact h
theorem want_at {ops : Array Oper} (hs : Sim w0 g0 o0 N s a w) {o : Oper} {j d : Nat} {b want : Bool} (hg : o.guard = some (j, want)) (hd : (ops[j]?).bind (·.dst) = some d) (hv : lk d s.tm = .kb b) :
    Region.wanted o (yielded ops a.tmps) = (b == want) := by
  have h := sim_bool hs hv
  have h1 : a.tmps[d]? = some (.bool b) := by
    rw [Array.getD_eq_getD_getElem?] at h
    cases hx : a.tmps[d]? with
    | none => rw [hx] at h; cases h
    | some x => rw [hx] at h; exact congrArg some h
  simp only [Region.wanted, hg, yielded, hd, Option.bind_some, h1]
  cases b <;> cases want <;> rfl
theorem guard_sound {cs : Nat → List AV → List Ob → Option (AV × List Ob)} {ops : Array Oper} {K : St → Tree} {i : Nat} {rest : OT} {o : Oper} (ho : ops[i]? = some o) (hs : Sim w0 g0 o0 N s a w)
    (hok : (aops std ty cs ops.toList K (.cons i rest) s).ok P w0 g0 o0 N Q) :
    (Region.wanted o (yielded ops a.tmps) = true ∧ ∃ s', Sim w0 g0 o0 N s' a w ∧ (aop std ty cs (aops std ty cs ops.toList K rest) o s').ok P w0 g0 o0 N Q) ∨
    (Region.wanted o (yielded ops a.tmps) = false ∧ ∃ s', Sim w0 g0 o0 N s' a w ∧ (aops std ty cs ops.toList K rest (s'.put o.dst (.tup []))).ok P w0 g0 o0 N Q) := by
  simp only [aops, Array.getElem?_toList, ho] at hok
  split at hok
  · rename_i hg
    exact .inl ⟨by simp [Region.wanted, hg], s, hs, hok⟩
  · rename_i j want hg
    split at hok
    · exact hok.elim
    · rename_i d hd
      split at hok
      · rename_i b hv
        have hw := want_at (ops := ops) hs hg hd hv
        split at hok
        · exact .inl ⟨hw, s, hs, hok⟩
        · exact .inl ⟨hw, s, hs, hok⟩
        · rename_i hne1 hne2
          refine .inr ⟨?_, s, hs, hok⟩
          rw [hw]
          cases b <;> cases want
          · exact (hne2 rfl rfl).elim
          · rfl
          · rfl
          · exact (hne1 rfl rfl).elim
      · rename_i b hv
        have e : ∀ c : Bool, lk d (s.put (some d) (.kb c)).tm = .kb c := fun c => if_pos rfl
        split at hok
        · obtain ⟨h1, h2⟩ := hok
          cases b with
          | true =>
            have hs' := sim_known hs hv true rfl
            exact .inl ⟨want_at (ops := ops) hs' hg hd (e true), _, hs', h1 rfl⟩
          | false =>
            have hs' := sim_known hs hv false rfl
            exact .inr ⟨want_at (ops := ops) hs' hg hd (e false), _, hs', h2 rfl⟩
        · obtain ⟨h1, h2⟩ := hok
          cases b with
          | true =>
            have hs' := sim_known hs hv true rfl
            exact .inr ⟨want_at (ops := ops) hs' hg hd (e true), _, hs', h1 rfl⟩
          | false =>
            have hs' := sim_known hs hv false rfl
            exact .inl ⟨want_at (ops := ops) hs' hg hd (e false), _, hs', h2 rfl⟩
      · rename_i hv
        refine .inr ⟨?_, s, hs, hok⟩
        obtain ⟨g, M, hS, h0⟩ := hs.rel
        have h1 := hS d
        rw [hv] at h1
        obtain ⟨vs, h2, _⟩ := h1
        rw [Array.getD_eq_getD_getElem?] at h2
        simp only [Region.wanted, hg, yielded, hd, Option.bind_some]
        cases hx : a.tmps[d]? with
        | none => cases want <;> rfl
        | some x =>
          rw [hx] at h2
          obtain rfl : x = .tuple vs := h2
          cases want <;> rfl
      · exact hok.elim
theorem dst_at {ops : Array Oper} (hd : (ops.all fun o => match o.dst with | some d => decide (d < N) | none => true) = true) {i : Nat} {o : Oper} (ho : ops[i]? = some o) : ∀ t, o.dst = some t → t < N := fun t ht => by
  have := Array.all_eq_true_iff_forall_mem.1 hd o (Array.mem_of_getElem? ho)
  simpa [ht] using this
theorem aops_sound (hT : TyOk P ty) {cs : Nat → List AV → List Ob → Option (AV × List Ob)} {ops : Array Oper} {K : St → Tree} {R : Exit → Act → World → Prop}
    (hd : (ops.all fun o => match o.dst with | some d => decide (d < N) | none => true) = true) (hK : ∀ s a w, Sim w0 g0 o0 N s a w → (K s).ok P w0 g0 o0 N Q → R .normal a w)
    (hP : ∀ v s a w, s.tm = [] → Sim w0 g0 o0 N s a w → Q (.pan v) s → R (.panic [{ v := v, recovered := false }]) a w) :
    ∀ (l : List Nat) (s : St) (a : Act) (w : World), Sim w0 g0 o0 N s a w → (aops std ty cs ops.toList K (OT.of l) s).ok P w0 g0 o0 N Q → wpOps P ops R l a w
  | [], s, a, w, hs, hok => hK s a w hs hok
  | i :: rest, s, a, w, hs, hok => by
    unfold wpOps
    cases ho : ops[i]? with
    | none => simp [OT.of, aops, Array.getElem?_toList, ho, Tree.ok] at hok
    | some o =>
      rcases guard_sound (rest := OT.of rest) ho hs hok with ⟨hw, s', hs', h⟩ | ⟨hw, s', hs', h⟩
      · simp only [hw, if_true]
        exact .inl (Oper.wp_mono (fun a' w' hg => by
          obtain ⟨_, s2, hs2, h2⟩ := hg
          exact aops_sound hT hd hK hP rest s2 a' w' hs2 h2) (op_sound hT hs' (dst_at hd ho) hP h))
      · simp only [hw, Bool.false_eq_true, if_false]
        exact aops_sound hT hd hK hP rest _ _ w (sim_undef hs' (dst_at hd ho)) h
theorem aops_draw (hT : TyOk P ty) {cs : Nat → List AV → List Ob → Option (AV × List Ob)} {ops : Array Oper} {K : St → Tree} {R : Exit → Act → World → Prop} {md : Region.Mode}
    (hd : (ops.all fun o => match o.dst with | some d => decide (d < N) | none => true) = true) (hn : Region.noSelect ops = true) (hQ : ∀ c a (d : Tmp) v w, R (.panic c) (a.put (some d) v) w → R (.panic c) a w)
    (hK : ∀ s a w, Sim w0 g0 o0 N s a w → (K s).ok P w0 g0 o0 N Q → R .normal a w)
    (hP : ∀ v s a w, s.tm = [] → Sim w0 g0 o0 N s a w → Q (.pan v) s → R (.panic [{ v := v, recovered := false }]) a w) :
    ∀ (t : OT) (n : Nat) (listed : Array Bool) (s : St) (a : Act) (w : World), Closed md ops listed → Sim w0 g0 o0 N s a w → (aops std ty cs ops.toList K t s).ok P w0 g0 o0 N Q →
      (drawOk md ty ops t n listed false = true → wpR P md ops (lateO ty ops) R n listed a w) ∧
      (drawOk md ty ops t n listed true = true → ∀ i ∈ t.heads, ∃ m, n = m + 1 ∧ wpOp P ops R i (fun a' w' => (lateO ty ops i = false → LeB w w') ∧ wpR P md ops (lateO ty ops) R m (listed.setIfInBounds i true) a' w') a w) := by
  intro t
  induction t with
  | nil =>
    intro n listed s a w hC hs hok
    refine ⟨fun hB => ?_, fun hB i hi => by cases hi⟩
    simp only [drawOk, Bool.and_eq_true, beq_iff_eq] at hB
    obtain ⟨⟨rfl, _⟩, h⟩ := hB
    exact ⟨by simpa using h, hK s a w hs hok⟩
  | fork x y ihx ihy =>
    intro n listed s a w hC hs hok
    have both : drawOk md ty ops x n listed true = true → drawOk md ty ops y n listed true = true → ∀ i ∈ (OT.fork x y).heads, ∃ m, n = m + 1 ∧ wpOp P ops R i (fun a' w' => (lateO ty ops i = false → LeB w w') ∧ wpR P md ops (lateO ty ops) R m (listed.setIfInBounds i true) a' w') a w := fun h1 h2 i hi => by
      rcases List.mem_append.1 hi with hi | hi
      · exact (ihx n listed s a w hC hs hok.1).2 h1 i hi
      · exact (ihy n listed s a w hC hs hok.2).2 h2 i hi
    refine ⟨fun hB => ?_, fun hB => ?_⟩
    · simp only [drawOk, Bool.and_eq_true, Bool.false_or] at hB
      obtain ⟨⟨⟨h0, h1⟩, h2⟩, h3⟩ := hB
      have hne : Region.ready md ops listed ≠ [] := by simpa using h0
      have hall : ∀ i ∈ Region.ready md ops listed, i ∈ (OT.fork x y).heads := fun i hi => by
        have := List.all_eq_true.1 h1 i hi
        simpa using this
      obtain ⟨i, hi⟩ := List.exists_mem_of_ne_nil _ hne
      obtain ⟨m, rfl, _⟩ := both h2 h3 i (hall i hi)
      refine ⟨fun h => absurd h hne, fun i hi => ?_⟩
      obtain ⟨m', e, h⟩ := both h2 h3 i (hall i hi)
      cases e; exact h
    · simp only [drawOk, Bool.and_eq_true] at hB
      exact both hB.1.2 hB.2
  | cons i rest ih =>
    intro n listed s a w hC hs hok
    cases ho : ops[i]? with
    | none => simp [aops, Array.getElem?_toList, ho, Tree.ok] at hok
    | some o =>
      -- taken from what may come next
      have loud : ∀ m, i ∈ Region.ready md ops listed → drawOk md ty ops rest m (listed.setIfInBounds i true) false = true →
          wpOp P ops R i (fun a' w' => (lateO ty ops i = false → LeB w w') ∧ wpR P md ops (lateO ty ops) R m (listed.setIfInBounds i true) a' w') a w := fun m hr hBr => by
        unfold wpOp
        simp only [ho]
        rcases guard_sound ho hs hok with ⟨hw, s', hs', h⟩ | ⟨hw, s', hs', h⟩
        · simp only [hw, if_true]
          exact .inl (Oper.wp_mono (fun a' w' hg => by
            obtain ⟨hq, s2, hs2, h2⟩ := hg
            refine ⟨fun hl => hq ?_, (ih m _ s2 a' w' (hC.set hr) hs2 h2).1 hBr⟩
            simpa [lateO, ho] using hl) (op_sound hT hs' (dst_at hd ho) hP h))
        · simp only [hw, Bool.false_eq_true, if_false]
          exact ⟨fun _ => LeB.refl w, (ih m _ _ _ w (hC.set hr) (sim_undef hs' (dst_at hd ho)) h).1 hBr⟩
      refine ⟨fun hB => ?_, fun hB => ?_⟩
      · simp only [drawOk, ho, Bool.and_eq_true, Bool.false_eq_true, if_false, Bool.or_eq_true, beq_iff_eq, bne_iff_ne, ne_eq] at hB
        obtain ⟨⟨hn0, hB⟩, hBr⟩ := hB
        obtain ⟨m, rfl⟩ : ∃ m, n = m + 1 := ⟨n - 1, by omega⟩
        simp only [Nat.add_sub_cancel] at hBr
        rcases hB with hr | ⟨⟨⟨hst, hr⟩, hf⟩, hrd⟩
        · refine ⟨fun h0 => (by rw [hr] at h0; cases h0), fun j hj => ?_⟩
          have hj' := hj
          rw [hr] at hj'
          obtain rfl := List.mem_singleton.1 hj'
          exact loud m hj hBr
        · have hr' : i ∈ Region.ready md ops listed := by simpa using hr
          have hli : lateO ty ops i = false := by
            simp only [lateO, ho, Bool.not_eq_false']
            revert hst
            cases o.op <;> simp only [stillO, quietW, Bool.false_eq_true, false_implies, implies_true]
            case convert src dst x =>
              intro h
              by_cases e : src = dst
              · subst e
                have h : (tyLook src ty).sl = false := by simpa using h
                simp [h]
              · simp [e]
            rename_i c
            obtain ⟨callee, args, tys⟩ := c
            cases callee with
            | builtin b => cases b <;> simp [stillO, quietW]
            | _ => simp [stillO, quietW]
          have hlate : readsM o.op = true → ∀ j oj, ops[j]? = some oj → lateO ty ops j = true → listed.getD j true = false → anc md ops i ops.size j = true := fun hrr j oj hj hl hun => by
            rcases hrd with h | h
            · rw [hrr] at h; simp at h
            · have := List.all_eq_true.1 h j (List.mem_range.2 (Array.getElem?_eq_some_iff.1 hj).1)
              simpa only [hl, hun, Bool.not_true, Bool.false_or] using this
          rcases guard_sound ho hs hok with ⟨hw, s', hs', h⟩ | ⟨hw, s', hs', h⟩
          · obtain ⟨s1, x, hs1, hx, hy⟩ := still_sound hT (w := w) (a := a) hst h
            have hs1 := hs1 _ _ hs'
            obtain ⟨g, M, hS, h0⟩ := hs1.rel
            obtain ⟨v, h1, h2⟩ := hy g M hS
            exact wpR_first ho (Region.noSelect_spec hn) (fun c a w => panic_put hQ c a _ _ w) hli _ listed a w hC hlate (Region.free_spec ho hf) hr' (.inl ⟨hw, fun W hW => h1 W hW⟩)
              ((ih m _ _ _ w (hC.set hr') (sim_put (s := s1) (ob' := s1.ob) hs1 hS h0 M Step.refl (dst_at hd ho) h2) hx).1 hBr)
          · exact wpR_first ho (Region.noSelect_spec hn) (fun c a w => panic_put hQ c a _ _ w) hli _ listed a w hC hlate (Region.free_spec ho hf) hr' (.inr ⟨hw, rfl⟩)
              ((ih m _ _ _ w (hC.set hr') (sim_undef hs' (dst_at hd ho)) h).1 hBr)
      · simp only [drawOk, ho, Bool.and_eq_true, if_true, bne_iff_ne, ne_eq] at hB
        obtain ⟨⟨hn0, hr⟩, hBr⟩ := hB
        obtain ⟨m, rfl⟩ : ∃ m, n = m + 1 := ⟨n - 1, by omega⟩
        simp only [Nat.add_sub_cancel] at hBr
        intro j hj
        obtain rfl := List.mem_singleton.1 hj
        exact ⟨m, rfl, loud m (by simpa using hr) hBr⟩
end
end Go.Proofs.YtaklahcbeldbhaaGreatDoor
namespace Go.Proofs.YtaklahcbeldbhaaGreatDoor
open Go.RowKit Go.Lib
theorem closed_start {md : Region.Mode} {ops : Array Oper} : Closed md ops (Array.replicate ops.size false) := fun j oj hj hl => by
  have : j < ops.size := (Array.getElem?_eq_some_iff.1 hj).1
  simp [this] at hl
section
variable {P : Program} {ty : Tys} {w0 : World} {g0 : Gh} {o0 : List Ob} {N : Nat} {Q : Ex → St → Prop}
theorem sim_later {s : St} {a : Act} {w w' : World} (hs : Sim w0 g0 o0 N s a w) (hb : LeB w w') : Sim w0 g0 o0 N s a w' := by
  obtain ⟨g, M, hS, h0⟩ := hs.rel
  have E := Ext.below M hb
  have h1 : Step w g s.ob w' g s.ob := ⟨hb.os, hb.tape, hb.output, hb.size, fun b h _ => hb.block b h, fun b id hG => .inl ⟨id, hG⟩, fun b o h => .inl h, E, Nat.le_refl _⟩
  exact ⟨hs.defers, hs.size, g, M.below hb, fun t => (hS t).ext E, h0.trans h1⟩
theorem aexec_sound (hT : TyOk P ty) (hm : P.follows .mixedOrders = true) {cs : Nat → List AV → List Ob → Option (AV × List Ob)} {ord : Nat → OT} :
    ∀ (c : Code) (K : Ex → St → Tree) (R : Exit → Act → World → Prop) (s : St) (a : Act) (w : World), dstOk N c = true → ordOk .any ty ord c = true →
      (∀ c a (d : Tmp) v w, R (.panic c) (a.put (some d) v) w → R (.panic c) a w) → (∀ e s a w, (∀ v, e = .pan v → s.tm = []) → Sim w0 g0 o0 N s a w → (K e s).ok P w0 g0 o0 N Q → R e.conv a w) →
      (∀ v s a w, s.tm = [] → Sim w0 g0 o0 N s a w → Q (.pan v) s → R (.panic [{ v := v, recovered := false }]) a w) →
      Sim w0 g0 o0 N s a w → (aexec std ty cs ord c K s).ok P w0 g0 o0 N Q → c.wp P R a w := by
  intro c
  induction c with
  | skip => intro K R s a w _ _ _ hK hP hs hok; exact wp_skip (hK .normal s a w (fun _ h => by cases h) hs hok)
  | region id ops draw =>
    intro K R s a w hd ho hQ hK hP hs hok
    cases draw with
    | false =>
      exact wp_region (aops_sound hT hd (fun s a w hs h => hK .normal s a w (fun _ h => by cases h) hs h) hP _ s a w hs hok)
    | true =>
      simp only [ordOk, if_true, Bool.and_eq_true] at ho
      obtain ⟨h1, h3⟩ := ho
      refine wp_region_any hm (wpAny_of_R (late := lateO ty ops) _ _ _ _ ?_)
      exact (aops_draw hT hd h1 hQ (fun s a w hs h => hK .normal s a w (fun _ h => by cases h) hs h) hP _ _ _ s a _ closed_start (sim_later hs (LeB.drew w)) hok).1 h3
  | seq x y ihx ihy =>
    intro K R s a w hd ho hQ hK hP hs hok
    simp only [dstOk, ordOk, Bool.and_eq_true] at hd ho
    refine wp_seq (ihx _ _ s a w hd.1 ho.1 (fun c a d v w h => hQ c a d v w h) (fun e s a w ht hs h => ?_) (fun v s a w ht hs h => hP v s a w ht hs h) hs hok)
    cases e with
    | normal => exact ihy K R s a w hd.2 ho.2 hQ hK hP hs h
    | exit i => exact hK (.exit i) s a w (fun _ h => by cases h) hs h
    | ret => exact hK .ret s a w (fun _ h => by cases h) hs h
    | pan v => exact hK (.pan v) s a w ht hs h
  | cond c x y ihx ihy =>
    intro K R s a w hd ho hQ hK hP hs hok
    simp only [dstOk, ordOk, Bool.and_eq_true] at hd ho
    unfold aexec at hok
    split at hok
    · rename_i t
      split at hok
      · rename_i hv
        exact wp_cond_true (sim_bool hs hv) (ihx K R s a w hd.1 ho.1 hQ hK hP hs hok)
      · rename_i hv
        exact wp_cond_false (sim_bool hs hv) (ihy K R s a w hd.2 ho.2 hQ hK hP hs hok)
      · rename_i b hv
        obtain ⟨h1, h2⟩ := hok
        have e : ∀ c : Bool, lk t (s.put (some t) (.kb c)).tm = .kb c := fun c => if_pos rfl
        cases b with
        | true =>
          have hs' := sim_known hs hv true rfl
          exact wp_cond_true (sim_bool hs' (e true)) (ihx K R _ a w hd.1 ho.1 hQ hK hP hs' (h1 rfl))
        | false =>
          have hs' := sim_known hs hv false rfl
          exact wp_cond_false (sim_bool hs' (e false)) (ihy K R _ a w hd.2 ho.2 hQ hK hP hs' (h2 rfl))
      · exact hok.elim
    · exact wp_cond_true rfl (ihx K R s a w hd.1 ho.1 hQ hK hP hs hok)
    · exact wp_cond_false rfl (ihy K R s a w hd.2 ho.2 hQ hK hP hs hok)
    · exact hok.elim
  | block id c ih =>
    intro K R s a w hd ho hQ hK hP hs hok
    simp only [dstOk, ordOk] at hd ho
    refine wp_block (ih _ _ s a w hd ho (fun c a d v w h => hQ c a d v w h) (fun e s a w ht hs h => ?_) (fun v s a w ht hs h => hP v s a w ht hs h) hs hok)
    cases e with
    | normal => exact hK .normal s a w (fun _ h => by cases h) hs h
    | ret => exact hK .ret s a w (fun _ h => by cases h) hs h
    | pan v => exact hK (.pan v) s a w ht hs h
    | exit i =>
      show Exit.inBlock id R (.exit i) a w
      simp only [Exit.inBlock]
      simp only at h
      by_cases hi : i = id
      · rw [if_pos hi] at h ⊢
        exact hK .normal s a w (fun _ h => by cases h) hs h
      · rw [if_neg hi] at h ⊢
        exact hK (.exit i) s a w (fun _ h => by cases h) hs h
  | loop c ih =>
    intro K R s a w hd ho hQ hK hP hs hok
    refine wp_mono (hok a w hs) (fun e a' w' h => ?_)
    obtain ⟨e', s', rfl, ht, hs', h'⟩ := h
    exact hK e' s' a' w' ht hs' h'
  | exit i => intro K R s a w _ _ _ hK hP hs hok; exact wp_exit (hK (.exit i) s a w (fun _ h => by cases h) hs hok)
  | ret => intro K R s a w _ _ _ hK hP hs hok; exact wp_ret (hK .ret s a w (fun _ h => by cases h) hs hok)
  | _ => intro K R s a w _ _ _ _ _ _ hok; exact hok.elim
end
end Go.Proofs.YtaklahcbeldbhaaGreatDoor
namespace Go.Proofs.YtaklahcbeldbhaaGreatDoor
open Go.RowKit Go.Lib
def ent : Nat → List AV → List (Nat × AV)
  | _, [] => []
  | k, x :: r => (k, x) :: ent (k + 1) r
theorem lk_ent (t : Nat) : ∀ (l : List AV) (k : Nat), lk t (ent k l) = if k ≤ t then l.getD (t - k) .dead else .dead
  | [], k => by simp [ent, lk]
  | x :: r, k => by
    simp only [ent, lk]
    by_cases h : t = k
    · subst h; simp
    · rw [if_neg h, lk_ent t r (k + 1)]
      by_cases h2 : k ≤ t
      · have e : t - k = (t - (k + 1)) + 1 := by omega
        rw [if_pos (by omega), if_pos h2, e, List.getD_cons_succ]
      · rw [if_neg (by omega), if_neg h2]
def resSem (tmps : Array Value) (rv : ResultVar) : Sem Value := match rv with
  | .tmp t => pure (tmps.getD t undef)
  | .cell a t => do loadVar t (← asAddr (tmps.getD a undef))
theorem results_eq (fn : Func) (tmps : Array Value) : results fn tmps = (do let vs ← fn.results.mapM (resSem tmps); pure (if h : vs.size = 1 then vs[0] else .tuple vs)) := by
  unfold results
  congr 1
section
variable {P : Program} {ty : Tys} {w0 w : World} {g0 g : Gh} {o0 : List Ob} {N : Nat} {s : St} {a : Act}
theorem res_one (hT : TyOk P ty) (M : Mem w g s.ob) (hS : Slots w g s a) {rv : ResultVar} {x : AV} (h : resOf ty s rv = some x) :
    ∃ v, Sem.run P (resSem a.tmps rv) w = .ok v w ∧ ARel w g s.ob v x := by
  cases rv with
  | tmp t =>
    refine ⟨a.tmps.getD t undef, rfl, ?_⟩
    have hr := hS t
    simp only [resOf] at h
    split at h
    · rename_i b hb
      obtain rfl : AV.val (.bool b) = x := by simpa using h
      rw [hb] at hr
      have e : a.tmps.getD t undef = .bool b := hr
      rw [e]
      exact PRel.to (.val _ rfl)
    · cases h
    · obtain rfl : lk t s.tm = x := by simpa using h
      exact hr
  | cell b T =>
    simp only [resOf] at h
    split at h
    · rename_i cs hcs
      by_cases hk : (tyLook T ty).ok = true ∧ (if (tyLook T ty).agg then (tyLook T ty).size else 1) ≤ cs.length
      · rw [if_pos hk] at h
        cases h
        obtain ⟨bl, of, hv, hc⟩ := cellsAt_rel M (hS b) hcs
        obtain ⟨v, h1, h2⟩ := load_cells (g := g) hT hk.1 hc hk.2
        refine ⟨v, ?_, h2⟩
        have h3 := h1 w (LeB.refl w)
        show (asAddr (a.tmps.getD b undef) >>= fun p => loadVar T p).run P w = _
        rw [hv]
        simpa [asAddr] using h3
      · rw [if_neg hk] at h; cases h
    · cases h
theorem res_list (hT : TyOk P ty) (M : Mem w g s.ob) (hS : Slots w g s a) : ∀ (rs : List ResultVar) (xs : List AV), allSome (rs.map (resOf ty s)) = some xs →
    ∃ vs, Sem.run P (rs.mapM (resSem a.tmps)) w = .ok vs w ∧ vs.length = xs.length ∧
      ∀ (j : Nat) v x, vs[j]? = some v → xs[j]? = some x → ARel w g s.ob v x
  | [], xs, h => by
    obtain rfl : [] = xs := by simpa [allSome] using h
    exact ⟨[], rfl, rfl, fun j v x h => by simp at h⟩
  | rv :: rs, xs, h => by
    cases h1 : resOf ty s rv with
    | none => simp [allSome, h1] at h
    | some x =>
      simp only [List.map_cons, h1, allSome, Option.map_eq_some_iff] at h
      obtain ⟨ys, h2, rfl⟩ := h
      obtain ⟨v, hv, hr⟩ := res_one hT M hS h1
      obtain ⟨vs, hvs, hl, hrs⟩ := res_list hT M hS rs ys h2
      refine ⟨v :: vs, ?_, by simp [hl], fun j y u hy hu => ?_⟩
      · simp only [List.mapM_cons, Sem.run_bind, hv, hvs, Result.andThen_ok, Sem.run_pure]
      · cases j with
        | zero =>
          obtain rfl : v = y := by simpa using hy
          obtain rfl : x = u := by simpa using hu
          exact hr
        | succ j => exact hrs j y u (by simpa using hy) (by simpa using hu)
theorem result_sound (hT : TyOk P ty) {keep : Bool} {fn : Func} (hs : Sim w0 g0 o0 N s a w) {res : AV} {ob' : List Ob} (h : resultA std ty keep fn.results.toList s = some (res, ob')) :
    ∃ v g', (results fn a.tmps).run P w = .ok v w ∧ Mem w g' ob' ∧ ARel w g' ob' v res ∧ Step w0 g0 o0 w g' ob' := by
  obtain ⟨g, M, hS, h0⟩ := hs.rel
  unfold resultA at h
  cases hx : allSome (fn.results.toList.map (resOf ty s)) with
  | none => rw [hx] at h; cases h
  | some xs =>
    rw [hx] at h
    obtain ⟨vs, hvs, hl, hrs⟩ := res_list hT M hS _ _ hx
    have hrun : (results fn a.tmps).run P w = .ok (if h : vs.toArray.size = 1 then vs.toArray[0] else .tuple vs.toArray) w := by
      rw [results_eq, Array.mapM_eq_mapM_toList, Sem.run_bind]
      have : (List.toArray <$> (fn.results.toList.mapM (resSem a.tmps))).run P w = .ok vs.toArray w := by
        rw [map_eq_pure_bind, Sem.run_bind, hvs]; rfl
      rw [this]; rfl
    have many : xs.length ≠ 1 → (eachM (frz std keep 9) s.ob xs).map (fun (ys, ob) => (AV.tup ys, ob)) = some (res, ob') →
        ∃ v g', (results fn a.tmps).run P w = .ok v w ∧ Mem w g' ob' ∧ ARel w g' ob' v res ∧ Step w0 g0 o0 w g' ob' := fun hne h => by
      simp only [Option.map_eq_some_iff] at h
      obtain ⟨⟨ys, ob1⟩, h1, h2⟩ := h
      cases h2
      have hL : ARelL w g s.ob vs xs := ⟨hl, fun j v x hv hx => (hrs j v x hv hx).to1 (each_live _ _ _ _ h1 _ (List.mem_of_getElem? hx))⟩
      obtain ⟨g', M', E', R', L'⟩ := frzL _ _ g s.ob ys ob1 M hL h1
      refine ⟨_, g', hrun, M', ?_, h0.trans (Step.ghost E' L')⟩
      have : ¬ vs.toArray.size = 1 := by simp; omega
      rw [dif_neg this]
      exact ⟨vs.toArray, rfl, by simpa using R'.1, fun j y u hy hu => R'.2 j y u (by simpa using hy) hu⟩
    cases xs with
    | nil => exact many (by simp) h
    | cons x r =>
      cases r with
      | cons x' r' => exact many (by simp) h
      | nil =>
        obtain ⟨v, rfl⟩ : ∃ v, vs = [v] := List.length_eq_one_iff.1 (by simpa using hl)
        obtain ⟨g', M', E', R', L'⟩ := frzTop M (hrs 0 v x rfl rfl) h
        exact ⟨v, g', hrun, M', R', h0.trans (Step.ghost E' L')⟩
end
def leC (x y : AV) : Prop := x = y ∨ (x = .val (.slice none 0 0) ∧ ∃ sz, y = .slc sz []) ∨ (y = .opt x ∧ isPtr x) ∨ x = .opt y
def leL : List AV → List AV → Prop
  | [], [] => True
  | x :: r, y :: r' => leC x y ∧ leL r r'
  | _, _ => False
def leA1 : AV → AV → Prop
  | .agg xs, .agg ys => leL xs ys
  | .agg _, _ => False
  | .tup _, _ => False
  | _, .agg _ => False
  | _, .tup _ => False
  | x, y => leC x y
def leT : List AV → List AV → Prop
  | [], [] => True
  | x :: r, y :: r' => leA1 x y ∧ leT r r'
  | _, _ => False
def leA (x y : AV) : Prop := match x with
  | .tup xs => (match y with
    | .tup ys => leT xs ys
    | _ => False)
  | x => leA1 x y
section
variable {w : World} {g : Gh} {ob : List Ob}
theorem leC_rel {v : Value} {x y : AV} (h : ARel0 w g ob v x) (hl : leC x y) : ARel0 w g ob v y := by
  rcases hl with rfl | ⟨rfl, sz, rfl⟩ | ⟨rfl, hp⟩ | rfl
  · exact h
  · cases (show v = _ from ARel.valEq (g := g) (w := w) (ob := ob) h)
    exact PRel.nil sz
  · have : PRel w g.A v x := by
      cases x with
      | val _ => exact h
      | ref _ => exact h
      | opt _ => exact h
      | _ => exact (show False from hp).elim
    exact PRel.opt _ _ this hp
  · exact (PRel.ofOpt (show PRel w g.A v (.opt y) from h)).1.to0
theorem leL_rel : ∀ {vs : List Value} {xs ys : List AV}, ARelC w g ob vs xs → leL xs ys → ARelC w g ob vs ys
  | vs, [], [], h, _ => h
  | _, [], _ :: _, _, hl => hl.elim
  | _, _ :: _, [], _, hl => hl.elim
  | [], x :: r, y :: r', h, _ => absurd h.1 (by simp)
  | v :: vs, x :: r, y :: r', h, hl => by
    have h1 := h.2 0 v x rfl rfl
    have h2 : ARelC w g ob vs r' := leL_rel (xs := r) ⟨by simpa using h.1, fun j a b ha hb => h.2 (j + 1) a b (by simpa using ha) (by simpa using hb)⟩ hl.2
    refine ⟨by simp [h2.1], fun j a b ha hb => ?_⟩
    cases j with
    | zero =>
      obtain rfl : v = a := by simpa using ha
      obtain rfl : y = b := by simpa using hb
      exact ⟨leC_rel h1.1 hl.1, h1.2⟩
    | succ j => exact h2.2 j a b (by simpa using ha) (by simpa using hb)
theorem ARel1.to0 {v : Value} {x : AV} (h : ARel1 w g ob v x) (hn : ∀ cs, x ≠ .agg cs) : ARel0 w g ob v x := by cases x <;> first | exact h | exact absurd rfl (hn _)
theorem leA1_rel {v : Value} {x y : AV} (h : ARel1 w g ob v x) (hl : leA1 x y) : ARel1 w g ob v y := by
  cases x with
  | agg xs =>
    cases y with
    | agg ys => obtain ⟨vs, rfl, h⟩ := h; exact ⟨vs, rfl, leL_rel h hl⟩
    | _ => exact (show False from hl).elim
  | tup _ => exact (show False from hl).elim
  | _ => cases y <;> first | exact (show False from hl).elim | exact (leC_rel (h.to0 (fun cs h => by cases h)) hl).to1
theorem leA_rel {v : Value} {x y : AV} (h : ARel w g ob v x) (hl : leA x y) : ARel w g ob v y := by
  cases x with
  | tup xs =>
    cases y with
    | tup ys =>
      obtain ⟨vs, rfl, h1, h2⟩ := h
      have key : ∀ (xs ys : List AV) (vs : List Value), leT xs ys → vs.length = xs.length → (∀ (j : Nat) y u, vs[j]? = some y → xs[j]? = some u → ARel1 w g ob y u) → vs.length = ys.length ∧ ∀ (j : Nat) y u, vs[j]? = some y → ys[j]? = some u → ARel1 w g ob y u := by
        intro xs
        induction xs with
        | nil =>
          intro ys vs hl hn hr
          cases ys with
          | nil => exact ⟨hn, hr⟩
          | cons _ _ => exact (show False from hl).elim
        | cons x r ih =>
          intro ys vs hl hn hr
          cases ys with
          | nil => exact (show False from hl).elim
          | cons y r' =>
            cases vs with
            | nil => simp at hn
            | cons v vs =>
              obtain ⟨h3, h4⟩ := ih r' vs hl.2 (by simpa using hn) (fun j a b ha hb => hr (j + 1) a b (by simpa using ha) (by simpa using hb))
              refine ⟨by simp [h3], fun j a b ha hb => ?_⟩
              cases j with
              | zero =>
                obtain rfl : v = a := by simpa using ha
                obtain rfl : y = b := by simpa using hb
                exact leA1_rel (hr 0 v x rfl rfl) hl.1
              | succ j => exact h4 j a b (by simpa using ha) (by simpa using hb)
      obtain ⟨h3, h4⟩ := key xs ys vs.toList hl (by simpa using h1) (fun j a b ha hb => h2 j a b (by simpa using ha) hb)
      exact ⟨vs, rfl, by simpa using h3, fun j a b ha hb => h4 j a b (by simpa using ha) hb⟩
    | _ => exact (show False from hl).elim
  | _ => exact (leA1_rel (h.to1' (fun xs h => by cases h)) (show leA1 _ y from hl)).to
end
def renTs (ob ob' : List Ob) (ρ : List (Option Nat)) : List AV → List AV → Option Eqs
  | [], [] => some []
  | x :: r, x' :: r' => both (ren1 ob ob' ρ x x') (renTs ob ob' ρ r r')
  | _, _ => none
def renR (ob ob' : List Ob) (ρ : List (Option Nat)) (x x' : AV) : Option Eqs := match x with
  | .tup xs => (match x' with
    | .tup ys => renTs ob ob' ρ xs ys
    | _ => none)
  | x => ren1 ob ob' ρ x x'
section
variable {w w0 : World} {g g0 : Gh} {ob ob' o0 : List Ob} {ρ : List (Option Nat)}
theorem ren1_notup {x x' : AV} {l : Eqs} (he : ren1 ob ob' ρ x x' = some l) : ∀ xs, x' ≠ .tup xs := by
  rintro xs rfl
  cases he
theorem renTs_rel (hF : Fits ob ob' ρ) (ho : onceR ρ = true) : ∀ (xs ys : List AV) (vs : List Value) (l : Eqs), renTs ob ob' ρ xs ys = some l → AllEq l → vs.length = xs.length → (∀ (j : Nat) y u, vs[j]? = some y → xs[j]? = some u → ARel1 w g ob y u) →
    vs.length = ys.length ∧ ∀ (j : Nat) y u, vs[j]? = some y → ys[j]? = some u → ARel1 w (g.ren ρ) ob' y u
  | [], [], vs, _, _, _, hn, _ => ⟨hn, fun j y u _ h => by simp at h⟩
  | [], _ :: _, _, _, h, _, _, _ => by cases h
  | _ :: _, [], _, _, h, _, _, _ => by cases h
  | x :: r, y :: r', vs, l, h, hl, hn, hr => by
    cases vs with
    | nil => simp at hn
    | cons v vs =>
      obtain ⟨⟨l1, h1, hl1⟩, l2, h2, hl2⟩ := both_some h hl
      obtain ⟨h3, h4⟩ := renTs_rel hF ho r r' vs l2 h2 hl2 (by simpa using hn) (fun j a b ha hb => hr (j + 1) a b (by simpa using ha) (by simpa using hb))
      refine ⟨by simp [h3], fun j a b ha hb => ?_⟩
      cases j with
      | zero =>
        obtain rfl : v = a := by simpa using ha
        obtain rfl : y = b := by simpa using hb
        exact (ren1_rel hF ho (hr 0 v x rfl rfl).to h1 hl1).to1' (ren1_notup h1)
      | succ j => exact h4 j a b (by simpa using ha) (by simpa using hb)
theorem renR_rel (hF : Fits ob ob' ρ) (ho : onceR ρ = true) {v : Value} {x x' : AV} {l : Eqs} (h : ARel w g ob v x) (he : renR ob ob' ρ x x' = some l) (hl : AllEq l) : ARel w (g.ren ρ) ob' v x' := by
  cases x with
  | tup xs =>
    cases x' with
    | tup ys =>
      obtain ⟨vs, rfl, h1, h2⟩ := h
      obtain ⟨h3, h4⟩ := renTs_rel hF ho xs ys vs.toList l he hl (by simpa using h1) (fun j a b ha hb => h2 j a b (by simpa using ha) hb)
      exact ⟨vs, rfl, by simpa using h3, fun j a b ha hb => h4 j a b (by simpa using ha) hb⟩
    | _ => cases he
  | _ => exact ren1_rel hF ho h he hl
theorem step_ren (hF : Fits ob ob' ρ) (ho : onceR ρ = true) (hh : headR o0 ob ob' ρ = true) (hn : o0.length ≤ ρ.length) (h0 : Step w0 g0 o0 w g ob) : Step w0 g0 o0 w (g.ren ρ) ob' := by
  have head : ∀ j, j < o0.length → ρ[j]? = some (some j) := fun j hj => by
    have := List.all_eq_true.1 hh j (List.mem_range.2 hj)
    simp only [Bool.and_eq_true, beq_iff_eq] at this
    exact this.1
  refine ⟨h0.os, h0.tape, h0.output, h0.size, h0.keep, fun b id hG => ?_, h0.imm, ⟨h0.ext.A, fun id hid => ?_, fun id hb => ?_, fun id hb => ?_, fun id et sz fz e xs hr => ?_, fun b id hG hs => ?_⟩, ?_⟩
  · obtain ⟨i, _, h3⟩ := ren_Gof hG
    exact h0.own b i h3
  · rw [ren_loc (head id hid)]; exact h0.ext.loc id hid
  · exact hF.isB (head id (isBox_lt hb)) (h0.ext.isb id hb)
  · exact hF.isI (head id (isIt_lt hb)) (h0.ext.isi id hb)
  · have hid := lt_of_some hr
    obtain ⟨fz1, e1, xs1, h3, h4, h5⟩ := h0.ext.row id et sz fz e xs hr
    obtain ⟨fz2, e2, h6, _⟩ := hF.row (head id hid) h3
    have he : e1 = e2 ∨ e < e2 := by
      have := List.all_eq_true.1 hh id (List.mem_range.2 hid)
      simp only [Bool.and_eq_true, hr, h3, h6, beq_iff_eq, Bool.or_eq_true, decide_eq_true_eq] at this
      exact this.2
    rcases he with he | he
    rotate_left
    · exact ⟨fz2, e2, xs1, h6, by omega, fun hee => by omega⟩
    subst he
    exact ⟨fz2, e1, xs1, h6, h4, fun hee => (h5 hee).turn (fun b hb => ⟨hb, rfl⟩) (fun b _ hb => ren_G ho (head id hid) hb) rfl⟩
  · obtain ⟨et, sz, fz, fz', e, xs, xs', h3, h4⟩ := hs
    have hid := lt_of_some h3
    obtain ⟨fz1, e1, xs1, h5, h6, h7⟩ := h0.ext.row id et sz fz e xs h3
    obtain ⟨fz2, e2, h8, _⟩ := hF.row (head id hid) h5
    rw [h8] at h4
    obtain ⟨rfl, rfl, rfl⟩ : fz2 = fz' ∧ e2 = e ∧ xs1 = xs' := by simpa using h4
    have he : e1 = e2 := by
      have := List.all_eq_true.1 hh id (List.mem_range.2 hid)
      simp only [Bool.and_eq_true, h3, h5, h8, beq_iff_eq, Bool.or_eq_true, decide_eq_true_eq] at this
      omega
    subst he
    obtain ⟨h9, h10⟩ := h0.ext.sub b id hG ⟨_, _, _, _, _, _, _, h3, h5⟩
    have h11 := ren_sub (g := g) ho (head id hid) ((h7 rfl).G hG)
    exact ⟨h11.trans h9, h10⟩
  · rw [← hF.1]; exact hn
end
def FinOk (o0 : List Ob) (res : AV) (ob' : List Ob) (_ : Ex) (s : St) : Prop := match s.tm with
  | [(_, r)] => ∃ ρ r' l, onceR ρ = true ∧ headR o0 s.ob ob' ρ = true ∧ o0.length ≤ ρ.length ∧ both (renR s.ob ob' ρ r r') (renOs s.ob ob' ρ ρ ob') = some l ∧ AllEq l ∧ leA r' res
  | _ => False
def purR : AV → Bool
  | .tup xs => xs.all AV.pur
  | x => x.pur
theorem ren0_pure {ob : List Ob} {ρ : List (Option Nat)} {x : AV} (h : x.pur0 = true) : ∃ l, ren0 ob [] ρ x x = some l ∧ AllEq l := by
  cases x with
  | val v => cases v <;> exact ⟨_, rfl, rfl, trivial⟩
  | slc _ _ => exact ⟨_, rfl, rfl, trivial⟩
  | ref _ => exact ⟨_, rfl, rfl, trivial⟩
  | opt _ => exact ⟨_, rfl, rfl, trivial⟩
  | _ => cases h
theorem ren1_pure {ob : List Ob} {ρ : List (Option Nat)} {x : AV} (h : x.pur = true) : ∃ l, ren1 ob [] ρ x x = some l ∧ AllEq l := by
  cases x with
  | agg cs =>
    have key : ∀ cs : List AV, cs.all AV.pur0 = true → ∃ l, renL ob [] ρ cs cs = some l ∧ AllEq l := by
      intro cs
      induction cs with
      | nil => intro _; exact ⟨[], rfl, trivial⟩
      | cons x r ih =>
        intro h
        simp only [List.all_cons, Bool.and_eq_true] at h
        obtain ⟨l1, h1, h2⟩ := ren0_pure (ob := ob) (ρ := ρ) h.1
        obtain ⟨l2, h3, h4⟩ := ih h.2
        exact ⟨l1 ++ l2, by simp only [renL, h1, h3, both], allEq_append.2 ⟨h2, h4⟩⟩
    exact key cs h
  | val v => exact ren0_pure (ob := ob) (ρ := ρ) (x := .val v) h
  | slc a b => exact ren0_pure (ob := ob) (ρ := ρ) (x := .slc a b) h
  | ref a => exact ren0_pure (ob := ob) (ρ := ρ) (x := .ref a) h
  | opt a => exact ren0_pure (ob := ob) (ρ := ρ) (x := .opt a) h
  | _ => cases h
theorem FinOk.pure {res r : AV} {k : Nat} {ob : List Ob} {e : Ex} (hp : purR r = true) (hl : leA r res) : FinOk [] res [] e ⟨[(k, r)], ob⟩ := by
  have hr : ∃ l, renR ob [] [] r r = some l ∧ AllEq l := by
    cases r with
    | tup xs =>
      have key : ∀ xs : List AV, xs.all AV.pur = true → ∃ l, renTs ob [] [] xs xs = some l ∧ AllEq l := by
        intro xs
        induction xs with
        | nil => intro _; exact ⟨[], rfl, trivial⟩
        | cons x r ih =>
          intro h
          simp only [List.all_cons, Bool.and_eq_true] at h
          obtain ⟨l1, h1, h2⟩ := ren1_pure (ob := ob) (ρ := []) h.1
          obtain ⟨l2, h3, h4⟩ := ih h.2
          exact ⟨l1 ++ l2, by simp only [renTs, h1, h3, both], allEq_append.2 ⟨h2, h4⟩⟩
      exact key xs hp
    | val a => exact ren1_pure (ob := ob) (ρ := []) (x := .val a) hp
    | slc a b => exact ren1_pure (ob := ob) (ρ := []) (x := .slc a b) hp
    | agg a => exact ren1_pure (ob := ob) (ρ := []) (x := .agg a) hp
    | ref a => exact ren1_pure (ob := ob) (ρ := []) (x := .ref a) hp
    | opt a => exact ren1_pure (ob := ob) (ρ := []) (x := .opt a) hp
    | _ => cases hp
  obtain ⟨l, h1, h2⟩ := hr
  exact ⟨[], r, l, rfl, rfl, Nat.le_refl _, by simp only [h1, renOs, both, List.append_nil], h2, hl⟩
theorem bcall_any {P : Program} {ty : Tys} (keep : Bool) (hT : TyOk P ty) (hm : P.follows .mixedOrders = true) {cs : Nat → List AV → List Ob → Option (AV × List Ob)} {ord : Nat → OT}
    {f : Nat} {fn : Func} {c : Code} {args : List AV} {ob : List Ob} {res : AV} {ob' : List Ob} (hf : P.funcs[f]? = some fn) (hb : fn.body = some c) (he : ∀ vs w, (callFunc f vs).run P w = .ok (.enter f vs) w)
    (hn : args.length ≤ fn.ntmps) (hd : dstOk fn.ntmps c = true) (ho : ordOk .any ty ord c = true)
    (h : ∀ w0 g0, (aexec std ty cs ord c (endK std ty keep fn.results.toList) ⟨ent 0 args, ob⟩).ok P w0 g0 ob fn.ntmps (FinOk ob res ob')) : BCall P f args ob res ob' := by
  refine ⟨he, fun w g vs M hL => calls_of_wp hf hb ?_⟩
  have hlen : vs.length = args.length := hL.1
  refine aexec_sound (w0 := w) (g0 := g) (o0 := ob) (N := fn.ntmps) (Q := FinOk ob res ob') hT hm c _ _ ⟨ent 0 args, ob⟩ _ w hd ho (fun c a d v w h => h) (fun e s a w' ht hs hq => ?_) (fun v s a w' ht _ hq => by unfold FinOk at hq; rw [ht] at hq; exact hq.elim) ⟨rfl, ?_, g, M, fun t => ?_, Step.refl⟩ (h w g)
  · have fin : ∀ {T : Tree}, T = (match resultA std ty keep fn.results.toList s with | some (r, ob) => .leaf .ret ⟨[(0, r)], ob⟩ | none => .stuck 71) → T.ok P w g ob fn.ntmps (FinOk ob res ob') →
        a.defers = [] ∧ ∃ v, (results fn a.tmps).run P w' = .ok v w' ∧ ∃ v' g', Ending.returned v = .returned v' ∧ Mem w' g' ob' ∧ ARel w' g' ob' v' res ∧ Step w g ob w' g' ob' := fun hT' hq => by
      cases hr : resultA std ty keep fn.results.toList s with
      | none => rw [hr] at hT'; subst hT'; exact (show False from hq).elim
      | some q =>
        obtain ⟨r, ob1⟩ := q
        rw [hr] at hT'
        subst hT'
        obtain ⟨ρ, r', l, h1, h2, h3, h4, h5, h6⟩ := (show FinOk ob res ob' .ret ⟨[(0, r)], ob1⟩ from hq)
        obtain ⟨⟨l1, e1, a1⟩, l2, e2, a2⟩ := both_some h4 h5
        have hF : Fits ob1 ob' ρ := renOs_get _ _ _ e2 a2
        obtain ⟨v, g', k1, k2, k3, k4⟩ := result_sound hT hs hr
        exact ⟨hs.defers, v, k1, v, g'.ren ρ, rfl, k2.ren hF h1, leA_rel (renR_rel hF h1 k3 e1 a1) h6, step_ren hF h1 h2 h3 k4⟩
    cases e with
    | normal => exact fin rfl hq
    | ret => exact fin rfl hq
    | exit i => exact (show False from hq).elim
    | pan v => exact (by have hq : FinOk ob res ob' (.pan v) s := hq; unfold FinOk at hq; rw [ht v rfl] at hq; exact hq.elim)
  · simp; omega
  · show ARel w g ob _ (lk t (ent 0 args))
    rw [lk_ent]
    simp only [Nat.zero_le, if_true, Nat.sub_zero]
    by_cases ht : t < args.length
    · rw [List.getD_eq_getElem?_getD, List.getElem?_eq_getElem ht, Option.getD_some]
      have e : (vs.toArray ++ Array.replicate (fn.ntmps - vs.toArray.size) undef).getD t undef = vs[t]'(by omega) := by
        rw [Array.getD_eq_getD_getElem?, Array.getElem?_append_left (by simp; omega)]
        simp [show t < vs.length by omega]
      rw [e]
      exact (hL.2 t _ _ (List.getElem?_eq_getElem (by omega)) (List.getElem?_eq_getElem ht)).to
    · rw [List.getD_eq_getElem?_getD, List.getElem?_eq_none (by omega)]
      trivial
theorem bcall_of {P : Program} {ty : Tys} (hT : TyOk P ty) (hm : P.follows .mixedOrders = true) {cs : Nat → List AV → List Ob → Option (AV × List Ob)} {ord : Nat → OT}
    {f : Nat} {fn : Func} {c : Code} {args : List AV} {ob : List Ob} {res : AV} {ob' : List Ob} (hf : P.funcs[f]? = some fn) (hb : fn.body = some c) (he : ∀ vs w, (callFunc f vs).run P w = .ok (.enter f vs) w)
    (hn : args.length ≤ fn.ntmps) (hd : dstOk fn.ntmps c = true) (ho : ordOk .any ty ord c = true)
    (h : ∀ w0 g0, (aexec std ty cs ord c (endK std ty false fn.results.toList) ⟨ent 0 args, ob⟩).ok P w0 g0 ob fn.ntmps (FinOk ob res ob')) : BCall P f args ob res ob' :=
  bcall_any false hT hm hf hb he hn hd ho h
end Go.Proofs.YtaklahcbeldbhaaGreatDoor
namespace Go.Proofs.YtaklahcbeldbhaaGreatDoor
open Go.RowKit Go.Lib
def tiB (P : Program) (x : TI) : Bool := x.zero.length == x.size && (x.agg || x.size == 1) && decide (x.bytes ≤ 140000) && x.flds.all (fun f => (P.info? f.2).isSome) && x.zero.all (·.oneCell') && x.ok
theorem TiOk.of {P : Program} {t : Nat} {x : TI} (h1 : (P.info? t).map (fun i => (i.size, i.bytes, i.zero.map (·.cells.toList))) = some (x.size, x.bytes, some x.zero))
    (h2 : (P.underlying t).map shapeOf = some (x.agg, x.elem, x.flds, x.kind, x.sl, x.kd)) (hb : tiB P x = true) (h4 : (P.underlying t).map keyD = some x.key) : TiOk P t x := by
  simp only [tiB, Bool.and_eq_true, Bool.or_eq_true, beq_iff_eq, decide_eq_true_eq] at hb
  obtain ⟨⟨⟨⟨⟨b1, b2⟩, b4⟩, b5⟩, b6⟩, b7⟩ := hb
  exact ⟨h1, h2, b1, fun h => b2.resolve_left (by rw [h]; simp), b4, b5, b6, b7, h4⟩
theorem TyOk.nil {P : Program} : TyOkL P [] := fun _ _ h => by cases h
theorem TyOk.cons {P : Program} {t : Nat} {x : TI} {r : List (Nat × TI)} (h : TiOk P t x) (hr : TyOkL P r) : TyOkL P ((t, x) :: r) := fun u y hu => by
  rcases List.mem_cons.1 hu with h1 | h1
  · cases h1; exact h
  · exact hr u y h1
end Go.Proofs.YtaklahcbeldbhaaGreatDoor
namespace Go.Proofs.YtaklahcbeldbhaaGreatDoor
open Go.RowKit Go.Lib
section
variable {P : Program} {ty : Tys} {w0 w : World} {g0 : Gh} {o0 : List Ob} {N : Nat} {s s' : St} {a : Act}
theorem seen_sim (ρ : List (Option Nat)) {l : Eqs} (h : seen o0 ρ s s' = some l) (hl : AllEq l) (hs : Sim w0 g0 o0 N s a w) : Sim w0 g0 o0 N s' a w := by
  unfold seen at h
  split at h
  · rename_i hk
    obtain ⟨ho, hh, hn⟩ := hk
    obtain ⟨⟨l1, h1, hl1⟩, l2, h2, hl2⟩ := both_some h hl
    have hF : Fits s.ob s'.ob ρ := renOs_get _ _ _ h2 hl2
    obtain ⟨g, M, hS, h0⟩ := hs.rel
    have head : ∀ j, j < o0.length → ρ[j]? = some (some j) := fun j hj => by
      have := List.all_eq_true.1 hh j (List.mem_range.2 hj)
      simp only [Bool.and_eq_true, beq_iff_eq] at this
      exact this.1
    refine ⟨hs.defers, hs.size, g.ren ρ, M.ren hF ho, fun t => ?_, ?_⟩
    · have : ∀ (l : List (Nat × AV)) (q : Eqs), renT s s' ρ l = some q → AllEq q → ARel w (g.ren ρ) s'.ob (a.tmps.getD t undef) (lk t l) := by
        intro l
        induction l with
        | nil => intro _ _ _; trivial
        | cons p r ih =>
          obtain ⟨u, x'⟩ := p
          intro q hq hql
          obtain ⟨⟨q1, e1, a1⟩, q2, e2, a2⟩ := both_some hq hql
          show ARel w (g.ren ρ) s'.ob _ (if t = u then x' else lk t r)
          by_cases e : t = u
          · subst e
            rw [if_pos rfl]
            exact ren1_rel hF ho (hS t) e1 a1
          · rw [if_neg e]; exact ih q2 e2 a2
      exact this _ _ h1 hl1
    · refine ⟨h0.os, h0.tape, h0.output, h0.size, h0.keep, fun b id hG => ?_, h0.imm, ⟨h0.ext.A, fun id hid => ?_, fun id hb => ?_, fun id hb => ?_, fun id et sz fz e xs hr => ?_, fun b id hG hs => ?_⟩, ?_⟩
      · obtain ⟨i, _, h3⟩ := ren_Gof hG
        exact h0.own b i h3
      · rw [ren_loc (head id hid)]; exact h0.ext.loc id hid
      · exact hF.isB (head id (isBox_lt hb)) (h0.ext.isb id hb)
      · exact hF.isI (head id (isIt_lt hb)) (h0.ext.isi id hb)
      · have hid := lt_of_some hr
        obtain ⟨fz1, e1, xs1, h3, h4, h5⟩ := h0.ext.row id et sz fz e xs hr
        obtain ⟨fz2, e2, h6, _⟩ := hF.row (head id hid) h3
        have he : e1 = e2 ∨ e < e2 := by
          have := List.all_eq_true.1 hh id (List.mem_range.2 hid)
          simp only [Bool.and_eq_true, hr, h3, h6, beq_iff_eq, Bool.or_eq_true, decide_eq_true_eq] at this
          exact this.2
        rcases he with he | he
        rotate_left
        · exact ⟨fz2, e2, xs1, h6, by omega, fun hee => by omega⟩
        subst he
        exact ⟨fz2, e1, xs1, h6, h4, fun hee => (h5 hee).turn (fun b hb => ⟨hb, rfl⟩) (fun b _ hb => ren_G ho (head id hid) hb) rfl⟩
      · obtain ⟨et, sz, fz, fz', e, xs, xs', h3, h4⟩ := hs
        have hid := lt_of_some h3
        obtain ⟨fz1, e1, xs1, h5, h6, h7⟩ := h0.ext.row id et sz fz e xs h3
        obtain ⟨fz2, e2, h8, _⟩ := hF.row (head id hid) h5
        rw [h8] at h4
        obtain ⟨rfl, rfl, rfl⟩ : fz2 = fz' ∧ e2 = e ∧ xs1 = xs' := by simpa using h4
        have he : e1 = e2 := by
          have := List.all_eq_true.1 hh id (List.mem_range.2 hid)
          simp only [Bool.and_eq_true, h3, h5, h8, beq_iff_eq, Bool.or_eq_true, decide_eq_true_eq] at this
          omega
        subst he
        obtain ⟨h9, h10⟩ := h0.ext.sub b id hG ⟨_, _, _, _, _, _, _, h3, h5⟩
        have h11 := ren_sub (g := g) ho (head id hid) ((h7 rfl).G hG)
        exact ⟨h11.trans h9, h10⟩
      · rw [← hF.1]; exact hn
  · cases h
end
end Go.Proofs.YtaklahcbeldbhaaGreatDoor
namespace Go.Proofs.YtaklahcbeldbhaaGreatDoor
open Go.RowKit Go.Lib
theorem least (p : Nat → Prop) (h : ∃ n, p n) : ∃ n, p n ∧ ∀ m, p m → n ≤ m := by
  obtain ⟨n, hn⟩ := h
  induction n using Nat.strongRecOn with
  | _ n ih =>
    by_cases h : ∃ m, m < n ∧ p m
    · obtain ⟨m, h1, h2⟩ := h
      exact ih m h1 h2
    · exact ⟨n, hn, fun m hm => Nat.le_of_not_lt fun hlt => h ⟨m, hlt, hm⟩⟩
def Seen (o0 : List Ob) (s s' : St) : Prop := ∃ ρ l, seen o0 ρ s s' = some l ∧ AllEq l
section
variable {P : Program} {ty : Tys} {w0 : World} {g0 : Gh} {o0 : List Ob} {N : Nat}
def RoundOk {X : Type} (o0 : List Ob) (S : X → St) (J : X → Prop) (μ : X → Nat) (x : X) (Q : Ex → St → Prop) : Ex → St → Prop
  | .normal, s => ∃ x', J x' ∧ μ x' < μ x ∧ Seen o0 s (S x')
  | e, s => Q e s
theorem loop_rule (hT : TyOk P ty) (hm : P.follows .mixedOrders = true) {cs : Nat → List AV → List Ob → Option (AV × List Ob)} {ord : Nat → OT} {c : Code} (hd : dstOk N c = true) (ho : ordOk .any ty ord c = true)
    {X : Type} (S : X → St) (J : X → Prop) (μ : X → Nat) {Q : Ex → St → Prop} {s : St} (x0 : X) (h0 : J x0) (hS : Seen o0 s (S x0))
    (round : ∀ x, J x → (aexec std ty cs ord c (fun e s => .leaf e s) (S x)).ok P w0 g0 o0 N (RoundOk o0 S J μ x Q)) : WP P w0 g0 o0 N (.loop c) Q s := by
  intro a w hs
  obtain ⟨ρ, l, hl, hE⟩ := hS
  let I : Act → World → Prop := fun a w => ∃ x, J x ∧ Sim w0 g0 o0 N (S x) a w
  let pm : Act → World → Nat → Prop := fun a w n => ∃ x, J x ∧ Sim w0 g0 o0 N (S x) a w ∧ μ x = n
  let m : Act → World → Nat := fun a w => open Classical in if h : ∃ n, pm a w n then Classical.choose (least _ h) else 0
  have hmin : ∀ a w, I a w → pm a w (m a w) ∧ ∀ k, pm a w k → m a w ≤ k := fun a w hI => by
    have h : ∃ n, pm a w n := by
      obtain ⟨x, h1, h2⟩ := hI
      exact ⟨μ x, x, h1, h2, rfl⟩
    have e : m a w = Classical.choose (least _ h) := dif_pos h
    rw [e]
    exact Classical.choose_spec (least _ h)
  refine wp_loop I m ⟨x0, h0, seen_sim ρ hl hE hs⟩ fun a w hI => ?_
  obtain ⟨⟨x, hJ, hx, hμ⟩, hle⟩ := hmin a w hI
  refine aexec_sound (Q := RoundOk o0 S J μ x Q) hT hm c _ _ (S x) a w hd ho (fun c a d v w h => ?_) (fun e s a' w' ht hs' hq => ?_) (fun v s a w ht hs h => ⟨.pan v, s, rfl, fun _ _ => ht, hs, h⟩) hx (round x hJ)
  · obtain ⟨e', s', h1, ht, h2, h3⟩ := h
    cases e' <;> cases h1
    have et : s'.tm = [] := ht _ rfl
    obtain ⟨g, M, _, h0⟩ := h2.rel
    exact ⟨.pan _, s', rfl, ht, ⟨h2.defers, by have := h2.size; simpa [Act.put] using this, g, M, fun t => by rw [et]; trivial, h0⟩, h3⟩
  · cases e with
    | normal =>
      obtain ⟨x', h1, h2, ρ', l', h3, h4⟩ := hq
      have hs2 := seen_sim ρ' h3 h4 hs'
      have hI' : I a' w' := ⟨x', h1, hs2⟩
      refine ⟨hI', Nat.lt_of_le_of_lt ((hmin a' w' hI').2 _ ⟨x', h1, hs2, rfl⟩) ?_⟩
      rw [← hμ]; exact h2
    | exit i => exact ⟨.exit i, s, rfl, ht, hs', hq⟩
    | ret => exact ⟨.ret, s, rfl, ht, hs', hq⟩
    | pan v => exact ⟨.pan v, s, rfl, ht, hs', hq⟩
end
end Go.Proofs.YtaklahcbeldbhaaGreatDoor
namespace Go.Proofs.YtaklahcbeldbhaaGreatDoor
open Go.RowKit Go.Lib
section
variable {P : Program} {w w' : World} {g : Gh} {ob : List Ob}
theorem argsNil {vs : List Value} (h : ARelL w g ob vs []) : vs = [] := List.eq_nil_of_length_eq_zero h.1
theorem argsCons {vs : List Value} {x : AV} {r : List AV} (h : ARelL w g ob vs (x :: r)) : ∃ v vs', vs = v :: vs' ∧ ARel1 w g ob v x ∧ ARelL w g ob vs' r := by
  cases vs with
  | nil => exact absurd h.1 (by simp)
  | cons v vs => exact ⟨v, vs, rfl, h.2 0 v x rfl rfl, by simpa using h.1, fun j a b ha hb => h.2 (j + 1) a b (by simpa using ha) (by simpa using hb)⟩
theorem argVal {v u : Value} (h : ARel1 w g ob v (.val u)) : v = u := ARel.valEq (ARel1.to h)
theorem argRd {v : Value} {sz : Nat} {xs : List AV} (h : ARel1 w g [] v (.slc sz xs)) (M : Mem w g []) :
    ∃ A c ys, v = .slice A xs.length c ∧ Rd w (fun _ => True) sz A xs.length c ys ∧ Alike w g.A ys (flatA xs) :=
  elems_rel (s := ⟨[], []⟩) M (ARel1.to h) rfl
theorem alikeVals {A : Nat → Nat → Prop} {us : List Value} : ∀ {ys : List Value}, Alike w A ys (us.map .val) → ys = us := by
  induction us with
  | nil => intro ys h; exact List.eq_nil_of_length_eq_zero h.1
  | cons u us ih =>
    intro ys h
    cases ys with
    | nil => exact absurd h.1 (by simp)
    | cons y ys =>
      have h1 : PRel w A y (.val u) := h.2 0 y (.val u) rfl rfl
      have h2 : y = u := by cases h1; rfl
      rw [h2, ih (ys := ys) ⟨by simpa using h.1, fun j a b ha hb => h.2 (j + 1) a b (by simpa using ha) (by simpa using hb)⟩]
theorem flatVals (us : List Value) : flatA (us.map .val) = us.map .val := by
  induction us with
  | nil => rfl
  | cons u us ih => simp only [flatA, List.map_cons, List.flatMap_cons] at ih ⊢; rw [ih]; rfl
theorem rd_slc {A' : Nat → Nat → Prop} {S : Nat → Prop} {sz n c : Nat} {A : Option Addr} {ys : List Value} {xs : List AV} (hr : Rd w S sz A n c ys) (hS : ∀ b o, S b → A' b o) (hn : n = xs.length) (hw : ∀ x ∈ xs, x.cells.length = sz) (hA : ∀ a, A = some a → ∃ b o, a = ⟨b, o, none⟩)
    (hal : Alike w A' ys (flatA xs)) : PRel w A' (.slice A n c) (.slc sz xs) := by
  subst hn
  obtain ⟨h1, h2, h3, h4, h5⟩ := hr
  cases A with
  | none =>
    have hc := h4 rfl
    subst hc
    have : xs = [] := List.eq_nil_of_length_eq_zero (by omega)
    subst this
    exact PRel.nil sz
  | some a =>
    obtain ⟨b, o, rfl⟩ := hA a rfl
    have pos : ∀ (j : Nat) u, (flatA xs)[j]? = some u → 0 < xs.length := fun j u hu => by
      cases xs with
      | nil => simp at hu
      | cons _ _ => simp
    have h5' : 0 < xs.length → S b ∧ ∀ j u, ys[j]? = some u → w.cell? ⟨b, o + j, none⟩ = some u := fun h => by
      obtain ⟨b', o', h6, h7, h8⟩ := h5 h
      cases h6
      exact ⟨h7, h8⟩
    have get : ∀ (j : Nat) u, (flatA xs)[j]? = some u → ∃ y, ys[j]? = some y ∧ ys.getD j undef = y := fun j u hu => by
      have hj : j < ys.length := by rw [hal.1]; exact lt_of_some hu
      exact ⟨ys[j], List.getElem?_eq_getElem hj, by rw [List.getD_eq_getElem?_getD, List.getElem?_eq_getElem hj]; rfl⟩
    refine PRel.slc b o c sz xs (fun j => ys.getD j undef) h2 h3 hw (fun j u hu => ?_) (fun j u hu => ?_)
    · obtain ⟨y, hy, he⟩ := get j u hu
      obtain ⟨h7, h8⟩ := h5' (pos j u hu)
      exact ⟨hS _ _ h7, by rw [he]; exact h8 j y hy⟩
    · obtain ⟨y, hy, he⟩ := get j u hu
      rw [he]; exact hal.2 j y u hy hu
theorem leT_rel : ∀ {vs : List Value} {xs ys : List AV}, ARelL w g ob vs xs → leT xs ys → ARelL w g ob vs ys
  | vs, [], [], h, _ => h
  | _, [], _ :: _, _, hl => hl.elim
  | _, _ :: _, [], _, hl => hl.elim
  | [], x :: r, y :: r', h, _ => absurd h.1 (by simp)
  | v :: vs, x :: r, y :: r', h, hl => by
    have h1 := h.2 0 v x rfl rfl
    have h2 : ARelL w g ob vs r' := leT_rel (xs := r) ⟨by simpa using h.1, fun j a b ha hb => h.2 (j + 1) a b (by simpa using ha) (by simpa using hb)⟩ hl.2
    refine ⟨by simp [h2.1], fun j a b ha hb => ?_⟩
    cases j with
    | zero =>
      obtain rfl : v = a := by simpa using ha
      obtain rfl : y = b := by simpa using hb
      exact leA1_rel h1 hl.1
    | succ j => exact h2.2 j a b (by simpa using ha) (by simpa using hb)
theorem BCall.le {f : Nat} {args args' : List AV} {ob ob' : List Ob} {res : AV} (h : BCall P f args' ob res ob') (hl : leT args args') : BCall P f args ob res ob' :=
  ⟨h.1, fun w g vs M hL => h.2 w g vs M (leT_rel hL hl)⟩
theorem BCall.forget {f : Nat} {args : List AV} {ob ob' : List Ob} {res : AV} (h : BCall P f args ob res ob') : BCall P f args ob .dead ob' :=
  ⟨h.1, fun w g vs M hL => (h.2 w g vs M hL).mono fun e w' ⟨v, g', h1, h2, h3, h4⟩ => ⟨v, g', h1, h2, trivial, h4⟩⟩
theorem BCall.res {f : Nat} {args : List AV} {ob ob' : List Ob} {res res' : AV} (h : BCall P f args ob res ob') (hl : leA res res') : BCall P f args ob res' ob' :=
  ⟨h.1, fun w g vs M hL => (h.2 w g vs M hL).mono fun e w' ⟨v, g', h1, h2, h3, h4⟩ => ⟨v, g', h1, h2, leA_rel h3 hl, h4⟩⟩
theorem BCall.hand {f : Nat} {args : List AV} {res : AV} (he : ∀ vs w, (callFunc f vs).run P w = .ok (.enter f vs) w)
    (h : ∀ (w : World) (g : Gh) (vs : List Value), Mem w g [] → ARelL w g [] vs args → Calls P f vs.toArray w fun e w' => ∃ v, e = .returned v ∧ Below w.heap.size w w' ∧ ARel w' (g.imm w w') [] v res) : BCall P f args [] res [] :=
  ⟨he, fun w g vs M hL => (h w g vs M hL).mono fun e w' ⟨v, h1, hb, hr⟩ => ⟨v, g.imm w w', h1, M.immNew hb, hr, Step.immNew M hb⟩⟩
end
end Go.Proofs.YtaklahcbeldbhaaGreatDoor
namespace Go.Proofs.YtaklahcbeldbhaaGreatDoor
open Go.RowKit Go.Lib
def invO (ob ob2 ob2' obr : List Ob) (ρ ρ' : List (Option Nat)) : Bool := (List.range ob.length).all fun i => match invR ρ i with
  | some j => ρ'[i]? == some (some j) && (match ob[i]?, ob2[j]?, ob2'[j]?, obr[i]? with
    | some (.row _ _ _ e0 _), some (.row _ _ _ e2 _), some (.row _ _ _ e2' _), some (.row _ _ _ er _) => decide (e0 < er) || (e0 == er && e2 == e2')
    | _, _, _, _ => true)
  | none => false
section
variable {w w' : World} {g g' : Gh} {ob ob2 ob2' obr : List Ob} {ρ ρ' : List (Option Nat)}
theorem step_tell (hF : Fits ob ob2 ρ) (ho : onceR ρ = true) (hF' : Fits ob2' obr ρ') (ho' : onceR ρ' = true) (hi : invO ob ob2 ob2' obr ρ ρ' = true) (hn : ob.length ≤ obr.length) (h0 : Step w (g.ren ρ) ob2 w' g' ob2') : Step w g ob w' (g'.ren ρ') obr := by
  have head : ∀ i, i < ob.length → ∃ j, ρ[j]? = some (some i) ∧ ρ'[i]? = some (some j) ∧ ∀ e0 e2 e2' er et sz fz xs et2 sz2 fz2 xs2 et3 sz3 fz3 xs3 et4 sz4 fz4 xs4,
      ob[i]? = some (.row et sz fz e0 xs) → ob2[j]? = some (.row et2 sz2 fz2 e2 xs2) → ob2'[j]? = some (.row et3 sz3 fz3 e2' xs3) → obr[i]? = some (.row et4 sz4 fz4 er xs4) → e0 < er ∨ (e0 = er ∧ e2 = e2') := fun i hi' => by
    have := List.all_eq_true.1 hi i (List.mem_range.2 hi')
    split at this
    · rename_i j hj
      simp only [Bool.and_eq_true, beq_iff_eq] at this
      refine ⟨j, invR_get hj, this.1, ?_⟩
      intro e0 e2 e2' er et sz fz xs et2 sz2 fz2 xs2 et3 sz3 fz3 xs3 et4 sz4 fz4 xs4 h1 h2 h3 h4
      have h5 := this.2
      simp only [h1, h2, h3, h4, Bool.or_eq_true, Bool.and_eq_true, beq_iff_eq, decide_eq_true_eq] at h5
      exact h5
    · cases this
  refine ⟨h0.os, h0.tape, h0.output, h0.size, fun b hb hG => h0.keep b hb (by simp [Gh.ren, hG]), fun b id hG => ?_, fun b o hA => ?_, ⟨h0.ext.A, fun id hid => ?_, fun id hb => ?_, fun id hb => ?_, fun id et sz fz e xs hr => ?_, fun b id hG hs => ?_⟩, hn⟩
  · obtain ⟨i, _, h3⟩ := ren_Gof hG
    rcases h0.own b i h3 with ⟨id', h4⟩ | h4
    · obtain ⟨i', _, h5⟩ := ren_Gof h4
      exact .inl ⟨i', h5⟩
    · exact .inr h4
  · rcases h0.imm b o hA with h1 | ⟨id, h1⟩ | h1
    · exact .inl h1
    · obtain ⟨i', _, h5⟩ := ren_Gof h1
      exact .inr (.inl ⟨i', h5⟩)
    · exact .inr (.inr h1)
  · obtain ⟨j, h1, h2, _⟩ := head id hid
    have hj : j < ob2.length := hF.1 ▸ lt_of_some h1
    rw [ren_loc h2, h0.ext.loc j hj, ren_loc h1]
  · obtain ⟨j, h1, h2, _⟩ := head id (isBox_lt hb)
    exact hF'.isB h2 (h0.ext.isb j (hF.isB h1 hb))
  · obtain ⟨j, h1, h2, _⟩ := head id (isIt_lt hb)
    exact hF'.isI h2 (h0.ext.isi j (hF.isI h1 hb))
  · obtain ⟨j, h1, h2, h3⟩ := head id (lt_of_some hr)
    obtain ⟨fz2, e2, h4, _⟩ := hF.row h1 hr
    obtain ⟨fz3, e3, xs3, h5, h6, h7⟩ := h0.ext.row j et sz fz2 e2 xs h4
    obtain ⟨fz4, e4, h8, _⟩ := hF'.row h2 h5
    refine ⟨fz4, e4, xs3, h8, by rcases h3 _ _ _ _ _ _ _ _ _ _ _ _ _ _ _ _ _ _ _ _ hr h4 h5 h8 with h | h <;> omega, fun he => ?_⟩
    have hee : e3 = e2 := by
      rcases h3 _ _ _ _ _ _ _ _ _ _ _ _ _ _ _ _ _ _ _ _ hr h4 h5 h8 with h | h
      · omega
      · exact h.2.symm
    exact (h7 hee).turn (fun b hb => ⟨ren_G ho h1 hb, ren_sub ho h1 hb⟩) (fun b _ h11 => ren_G ho' h2 h11) rfl
  · obtain ⟨et, sz, fz, fz', e, xs, xs', h4, h5⟩ := hs
    obtain ⟨j, h1, h2, h3⟩ := head id (lt_of_some h4)
    obtain ⟨fz2, e2, h6, _⟩ := hF.row h1 h4
    obtain ⟨fz3, e3, xs3, h7, h8, h9⟩ := h0.ext.row j et sz fz2 e2 xs h6
    obtain ⟨fz4, e4, h10, _⟩ := hF'.row h2 h7
    rw [h10] at h5
    obtain ⟨rfl, rfl, rfl⟩ : fz4 = fz' ∧ e4 = e ∧ xs3 = xs' := by simpa using h5
    have hee : e2 = e3 := by
      rcases h3 _ _ _ _ _ _ _ _ _ _ _ _ _ _ _ _ _ _ _ _ h4 h6 h7 h10 with h | h
      · omega
      · exact h.2
    subst hee
    have hG2 := ren_G (g := g) ho h1 hG
    obtain ⟨h11, h12⟩ := h0.ext.sub b j hG2 ⟨_, _, _, _, _, _, _, h6, h7⟩
    have hG3 := (h9 rfl).G hG2
    have e1 := ren_sub (g := g) ho h1 hG
    have e2 := ren_sub (g := g') ho' h2 hG3
    exact ⟨e2.trans (h11.trans e1), fun hb => h12 (by rw [e1]; exact hb)⟩
theorem BCall.tell {P : Program} {f : Nat} {args args2 : List AV} {res2 res' res : AV} {l l' : Eqs} (h : BCall P f args2 ob2 res2 ob2') (ρ ρ' : List (Option Nat)) (h1 : onceR ρ = true) (h1' : onceR ρ' = true) (hi : invO ob ob2 ob2' obr ρ ρ' = true) (hn : ob.length ≤ obr.length)
    (ha : both (renTs ob ob2 ρ args args2) (renOs ob ob2 ρ ρ ob2) = some l) (hl : AllEq l) (hr : both (renR ob2' obr ρ' res2 res') (renOs ob2' obr ρ' ρ' obr) = some l') (hl' : AllEq l') (h6 : leA res' res) : BCall P f args ob res obr := by
  refine ⟨h.1, fun w g vs M hL => ?_⟩
  obtain ⟨⟨l1, e1, a1⟩, l2, e2, a2⟩ := both_some ha hl
  obtain ⟨⟨l3, e3, a3⟩, l4, e4, a4⟩ := both_some hr hl'
  have hF : Fits ob ob2 ρ := renOs_get _ _ _ e2 a2
  have hF' : Fits ob2' obr ρ' := renOs_get _ _ _ e4 a4
  obtain ⟨k1, k2⟩ := renTs_rel hF h1 _ _ _ _ e1 a1 hL.1 hL.2
  refine (h.2 w (g.ren ρ) vs (M.ren hF h1) ⟨k1, k2⟩).mono fun e w' ⟨v, g', k1, k2, k3, k4⟩ => ?_
  exact ⟨v, g'.ren ρ', k1, k2.ren hF' h1', leA_rel (renR_rel hF' h1' k3 e3 a3) h6, step_tell hF h1 hF' h1' hi hn k4⟩
end
section
variable {P : Program} {ty : Tys} {w0 : World} {g0 : Gh} {o0 : List Ob} {N : Nat}
theorem loop_ruleX (hT : TyOk P ty) (hm : P.follows .mixedOrders = true) {ord : Nat → OT} {c : Code} (hd : dstOk N c = true) (ho : ordOk .any ty ord c = true)
    {X : Type} (cs : X → Nat → List AV → List Ob → Option (AV × List Ob)) (S : X → St) (J : X → Prop) (μ : X → Nat) {Q : Ex → St → Prop} {s : St} (x0 : X) (h0 : J x0) (hS : Seen o0 s (S x0))
    (round : ∀ x, J x → (aexec std ty (cs x) ord c (fun e s => .leaf e s) (S x)).ok P w0 g0 o0 N (RoundOk o0 S J μ x Q)) : WP P w0 g0 o0 N (.loop c) Q s := by
  intro a w hs
  obtain ⟨ρ, l, hl, hE⟩ := hS
  let I : Act → World → Prop := fun a w => ∃ x, J x ∧ Sim w0 g0 o0 N (S x) a w
  let pm : Act → World → Nat → Prop := fun a w n => ∃ x, J x ∧ Sim w0 g0 o0 N (S x) a w ∧ μ x = n
  let m : Act → World → Nat := fun a w => open Classical in if h : ∃ n, pm a w n then Classical.choose (least _ h) else 0
  have hmin : ∀ a w, I a w → pm a w (m a w) ∧ ∀ k, pm a w k → m a w ≤ k := fun a w hI => by
    have h : ∃ n, pm a w n := by
      obtain ⟨x, h1, h2⟩ := hI
      exact ⟨μ x, x, h1, h2, rfl⟩
    have e : m a w = Classical.choose (least _ h) := dif_pos h
    rw [e]
    exact Classical.choose_spec (least _ h)
  refine wp_loop I m ⟨x0, h0, seen_sim ρ hl hE hs⟩ fun a w hI => ?_
  obtain ⟨⟨x, hJ, hx, hμ⟩, hle⟩ := hmin a w hI
  refine aexec_sound (Q := RoundOk o0 S J μ x Q) hT hm c _ _ (S x) a w hd ho (fun c a d v w h => ?_) (fun e s a' w' ht hs' hq => ?_) (fun v s a w ht hs h => ⟨.pan v, s, rfl, fun _ _ => ht, hs, h⟩) hx (round x hJ)
  · obtain ⟨e', s', h1, ht, h2, h3⟩ := h
    cases e' <;> cases h1
    have et : s'.tm = [] := ht _ rfl
    obtain ⟨g, M, _, h0⟩ := h2.rel
    exact ⟨.pan _, s', rfl, ht, ⟨h2.defers, by have := h2.size; simpa [Act.put] using this, g, M, fun t => by rw [et]; trivial, h0⟩, h3⟩
  · cases e with
    | normal =>
      obtain ⟨x', h1, h2, ρ', l', h3, h4⟩ := hq
      have hs2 := seen_sim ρ' h3 h4 hs'
      have hI' : I a' w' := ⟨x', h1, hs2⟩
      refine ⟨hI', Nat.lt_of_le_of_lt ((hmin a' w' hI').2 _ ⟨x', h1, hs2, rfl⟩) ?_⟩
      rw [← hμ]; exact h2
    | exit i => exact ⟨.exit i, s, rfl, ht, hs', hq⟩
    | ret => exact ⟨.ret, s, rfl, ht, hs', hq⟩
    | pan v => exact ⟨.pan v, s, rfl, ht, hs', hq⟩
end
end Go.Proofs.YtaklahcbeldbhaaGreatDoor
