/-
  Layer 23 (escape): the statement's own pairs.
-/
import Derived.Test.YtbbplpmaknaadaaEscF
import Derived.Test.YtbbplpmaknaadaaEscL
import Derived.Test.YtbbplpmaknaadaaMixG
namespace Go.Proofs.Ytbbplpmaknaadaa
open Go.RowKit Go.Lib

theorem Try.info45 : (Try.prog.info? 45).map (fun i => (i.zero, i.size, i.bytes)) = some (some (.agg #[.string ByteArray.empty, .slice none 0 0]), 2, 40) := by kernel_rfl
/-- append onto a row of rubric/escape.Pair -/
theorem append_epairs (w : World) {ops : Array Oper} {rest : List Oper} {o : Oper} {a : Act} {Q : Exit → Act → World → Prop} (hgd : o.guard = none) (s x : Operand)
    (ho : o.op = .call { callee := .builtin .append, args := #[s, x], argTypes := #[53, 53] })
    (base : Nat) (v : Value) (n : Nat) (xs : List Value) (hs : a.eval s = v) (hown : w.ownsRow base 45 2 v n xs)
    (S : Nat → Prop) (A : Option Addr) (m c : Nat) (ys : List Value) (hx : a.eval x = .slice A m c) (hr : Rd w S 2 A m c ys) (h1 : ∀ u ∈ ys, u.oneCell' = true)
    (hlen : n + m ≤ 1000000000) (hbase : base ≤ w.heap.size)
    (h : ∀ A' c' w', w'.ownsRow base 45 2 (.slice A' (n + m) c') (n + m) (xs ++ ys) → w.grownBy w' v.ownBlock → ((Value.slice A' (n + m) c').ownBlock = v.ownBlock ∨ (Value.slice A' (n + m) c').ownBlock = some w.heap.size) →
      c' ≤ 9223372036854775807 → wpList Try.prog ops Q rest (a.put o.dst (.slice A' (n + m) c')) w') :
    wpList Try.prog ops Q (o :: rest) a w := by
  obtain ⟨i0, hi, hz0, hz1, hz2⟩ := info_parts Try.info45
  refine wpList_append_rd w hgd s x 53 ho base 45 i0 _ 2 40 Try.underlying53 hi hz0 hz1 hz2 rfl (by omega) v n xs hs hown S A m c ys hx hr h1 (by simp only [maxLen]; omega) (by omega) hbase ?_
  intro v' w' h1 h2 h3
  obtain ⟨A', c', rfl, hr'⟩ := own_form h1
  exact h A' c' w' h1 h2 h3 hr'.max

theorem Try.info47 : (Try.prog.info? 47).map (fun i => (i.zero, i.size, i.bytes)) = some (some (.agg #[.string ByteArray.empty, .slice none 0 0]), 2, 40) := by kernel_rfl
/-- append onto a row of rubric/rubricref23.Pair -/
theorem append_rpairs (w : World) {ops : Array Oper} {rest : List Oper} {o : Oper} {a : Act} {Q : Exit → Act → World → Prop} (hgd : o.guard = none) (s x : Operand)
    (ho : o.op = .call { callee := .builtin .append, args := #[s, x], argTypes := #[52, 52] })
    (base : Nat) (v : Value) (n : Nat) (xs : List Value) (hs : a.eval s = v) (hown : w.ownsRow base 47 2 v n xs)
    (S : Nat → Prop) (A : Option Addr) (m c : Nat) (ys : List Value) (hx : a.eval x = .slice A m c) (hr : Rd w S 2 A m c ys) (h1 : ∀ u ∈ ys, u.oneCell' = true)
    (hlen : n + m ≤ 1000000000) (hbase : base ≤ w.heap.size)
    (h : ∀ A' c' w', w'.ownsRow base 47 2 (.slice A' (n + m) c') (n + m) (xs ++ ys) → w.grownBy w' v.ownBlock → ((Value.slice A' (n + m) c').ownBlock = v.ownBlock ∨ (Value.slice A' (n + m) c').ownBlock = some w.heap.size) →
      c' ≤ 9223372036854775807 → wpList Try.prog ops Q rest (a.put o.dst (.slice A' (n + m) c')) w') :
    wpList Try.prog ops Q (o :: rest) a w := by
  obtain ⟨i0, hi, hz0, hz1, hz2⟩ := info_parts Try.info47
  refine wpList_append_rd w hgd s x 52 ho base 47 i0 _ 2 40 Try.underlying52 hi hz0 hz1 hz2 rfl (by omega) v n xs hs hown S A m c ys hx hr h1 (by simp only [maxLen]; omega) (by omega) hbase ?_
  intro v' w' h1 h2 h3
  obtain ⟨A', c', rfl, hr'⟩ := own_form h1
  exact h A' c' w' h1 h2 h3 hr'.max


def shortF (s : ByteArray) : ByteArray := if 30 < s.size then s.extract 0 30 else s
theorem shortF_len (s : ByteArray) : (shortF s).size ≤ 30 := by
  unfold shortF; split
  · simp [ByteArray.size_extract]; omega
  · omega

set_option maxHeartbeats 1000000 in
set_option maxRecDepth 100000 in
theorem short23_eq (s : ByteArray) (w : World) :
    Calls Try.prog 24 #[.string s] w fun e w' => e = .returned (.string (shortF s)) ∧ w = w' := by
  by_cases h : 30 < s.size
  · have hs : shortF s = s.extract 0 30 := by rw [shortF, if_pos h]
    rw [hs]
    go_enter Try.func24, Try.ntmps24
    go_wp2
    go_ret
    exact ⟨rfl, rfl⟩
  · have hs : shortF s = s := by rw [shortF, if_neg h]
    rw [hs]
    go_enter Try.func24, Try.ntmps24
    go_wp2
    go_ret
    exact ⟨rfl, rfl⟩

def cutPair (p : ByteArray × List Int) : ByteArray × List Int := (shortF p.1, p.2.take 60)
/-- a value that reads as runes in the world at the start, in blocks that were there -/
def LowV (w : World) (v : Value) (l : List Int) : Prop := ∃ A n c, v = .slice A n c ∧ Rd w (fun b => b < w.heap.size) 1 A n c (rc l)
/-- the pairs so far, in a row of the call's own -/
structure OutV (w wr : World) (e : TypeId) (v : Value) (o : PairL) : Prop where
  own : ∃ n vs, wr.ownsRow w.heap.size e 2 v n (pairCells o vs) ∧ vs.length = o.length ∧ ∀ i (h : i < o.length) (h2 : i < vs.length), LowV w vs[i] o[i].2

theorem pairCells_append : ∀ (ps : PairL) (vs : List Value) (p : ByteArray × List Int) (v : Value), vs.length = ps.length → pairCells (ps ++ [p]) (vs ++ [v]) = pairCells ps vs ++ [.string p.1, v]
  | [], [], p, v, _ => rfl
  | q :: ps, u :: vs, p, v, h => by
    have := pairCells_append ps vs p v (by simpa using h)
    show Value.string q.1 :: u :: pairCells (ps ++ [p]) (vs ++ [v]) = _
    rw [this]; rfl
  | [], _ :: _, _, _, h => by simp at h
  | _ :: _, [], _, _, h => by simp at h

theorem OutV.pairs {w wr : World} {e : TypeId} {v : Value} {o : PairL} (h : OutV w wr e v o) (hb : Below w.heap.size w wr) : ∃ A n c vs, v = .slice A n c ∧ PairsV wr (fun _ => True) A n c o vs := by
  obtain ⟨n, vs, ho, hl, he⟩ := h.own
  obtain ⟨A, c, rfl, hr⟩ := own_form ho
  refine ⟨A, n, c, vs, rfl, hr.more fun _ _ => trivial, hl, fun k h1 h2 => ?_⟩
  obtain ⟨A', n', c', e', hr'⟩ := he k h1 h2
  rw [e']
  exact .of_rd (hr'.belowB (fun _ h => h) hb)

theorem OutV.alloc {w wr : World} {e : TypeId} {v : Value} {o : PairL} (h : OutV w wr e v o) (x : Obj) : OutV w (wr.alloc x) e v o := by
  obtain ⟨n, vs, ho, hl, he⟩ := h.own
  exact ⟨n, vs, ho.alloc x, hl, he⟩
theorem low_snoc {w : World} {vs : List Value} {o : PairL} {v : Value} {p : ByteArray × List Int} (hl : vs.length = o.length) (h : ∀ i (h : i < o.length) (h2 : i < vs.length), LowV w vs[i] o[i].2) (hv : LowV w v p.2) :
    ∀ i (h : i < (o ++ [p]).length) (h2 : i < (vs ++ [v]).length), LowV w (vs ++ [v])[i] (o ++ [p])[i].2 := by
  intro i h1 h2
  by_cases e : i < o.length
  · rw [List.getElem_append_left (by omega), List.getElem_append_left e]
    exact h i e (by omega)
  · have e2 : i = o.length := by simp at h1; omega
    subst e2
    rw [List.getElem_append_right (by omega), List.getElem_append_right (by omega)]
    simpa [hl] using hv

set_option maxHeartbeats 4000000 in
set_option maxRecDepth 100000 in
theorem pairs_any (S : Nat → Prop) (A : Option Addr) (n c : Nat) (ps : PairL) (vs : List Value) (w : World) (hr : PairsV w S A n c ps vs) :
    Calls Try.prog 35 #[.slice A n c] w fun e w' => ∃ v1 v2, e = .returned (.tuple #[v1, v2]) ∧ OutV w w' 45 v1 ((ps.take 4).map cutPair) ∧ OutV w w' 47 v2 ((ps.take 4).map cutPair) ∧ Below w.heap.size w w' := by
  have hle := hr.rd.le
  have hmx : c ≤ 9223372036854775807 := hr.rd.max
  obtain rfl := hr.n_eq
  have HR := Lib.hid hr
  clear hr
  go_enter Try.func35, Try.ntmps35
  go_wp2
  go_loopw [4, 5, 10] (fun v1 v2 i wr => ∃ (k : Nat), k ≤ ps.length ∧ i = .int .i64 k ∧ Hid (Below w.heap.size w wr) ∧ Hid (OutV w wr 45 v1 (((ps.take 4).map cutPair).take k)) ∧
      Hid (OutV w wr 47 v2 (((ps.take 4).map cutPair).take k)) ∧ Hid (∀ g, v1.ownBlock = some g → v2.ownBlock = some g → False))
    (fun _ _ i _ => ps.length - (intOf i).toNat)
  case atStart => exact ⟨0, Nat.zero_le _, rfl, Below.refl _ _, ⟨0, [], World.ownsRow_nil _ _ _ _, rfl, fun i h => absurd h (by simp)⟩, ⟨0, [], World.ownsRow_nil _ _ _ _, rfl, fun i h => absurd h (by simp)⟩, fun g h => by cases h⟩
  case round =>
    obtain ⟨k, hk, rfl, HB, HO1, HO2, HD⟩ := hrel
    by_cases hlt : k < ps.length
    · by_cases h4 : k < 4
      · obtain ⟨b, u, Av, cv, rfl, hc0, hc1, hrv⟩ := HR.out.pair hlt
        have hd0 := cell_keep HB.out hc0
        have hd1 := cell_keep HB.out hc1
        have h4' : (k : Int) < 4 := by omega
        have HTK : Hid (((ps.take 4).map cutPair).take (k + 1) = ((ps.take 4).map cutPair).take k ++ [(shortF ps[k].1, ps[k].2.take 60)]) := by
          rw [Hid, List.take_succ_eq_append_getElem (by simp; omega)]
          simp [cutPair]
        obtain ⟨n1, vs1, ho1, hl1, he1⟩ := HO1.out.own
        obtain ⟨n2, vs2, ho2, hl2, he2⟩ := HO2.out.own
        have hol : (((ps.take 4).map cutPair).take k).length ≤ 4 := by simp; omega
        have hn1 : n1 ≤ 4 := by have := ho1.1; rw [pairCells_len _ _ hl1] at this; omega
        have hn2 : n2 ≤ 4 := by have := ho2.1; rw [pairCells_len _ _ hl2] at this; omega
        obtain ⟨A1, c1, rfl, hr1⟩ := own_form ho1
        obtain ⟨A2, c2, rfl, hr2⟩ := own_form ho2
        have hm1 : c1 ≤ 9223372036854775807 := hr1.max
        have hm2 : c2 ≤ 9223372036854775807 := hr2.max
        have HO1' := Lib.hid ho1
        have HO2' := Lib.hid ho2
        have HE1 := Lib.hid he1
        have HE2 := Lib.hid he2
        have HRV := Lib.hid hrv
        clear ho1 ho2 hr1 hr2 he1 he2 hrv hc0 hc1 HO1 HO2 hol
        generalize ((ps.take 4).map cutPair).take k = o at HTK HO1' HO2' HE1 HE2 hl1 hl2
        generalize ps[k].1 = pn at hd0 HTK
        generalize ps[k].2 = pl at hd1 HTK HRV
        have hb0 := box_cell wr #[.string pn, .slice Av pl.length cv] 47 0 (u := .string pn) rfl
        have hb1 := box_cell wr #[.string pn, .slice Av pl.length cv] 47 1 (u := .slice Av pl.length cv) rfl
        go_wp2
        have HB1 := Lib.hid (HB.out.alloc HB.out.size (.cells #[.string pn, .slice Av pl.length cv] 47))
        have HP1 := Lib.hid (HO1'.out.alloc (.cells #[.string pn, .slice Av pl.length cv] 47))
        have HP2 := Lib.hid (HO2'.out.alloc (.cells #[.string pn, .slice Av pl.length cv] 47))
        have HN1 : Hid (Value.ownBlock (.slice A1 n1 c1) ≠ some wr.heap.size) := fun e => by have := (HO1'.out.lt _ e).2; omega
        have HN2 : Hid (Value.ownBlock (.slice A2 n2 c2) ≠ some wr.heap.size) := fun e => by have := (HO2'.out.lt _ e).2; omega
        generalize wr.alloc (.cells #[.string pn, .slice Av pl.length cv] 47) = W1 at hb0 hb1 HB1 HP1 HP2
        generalize wr.heap.size = bx at hb0 hb1 HN1 HN2
        clear hd0 hd1 HO1' HO2'
        -- the program's pair
        refine wp_region_G (Value.ownBlock (.slice A1 n1 c1)) [(0, true), (1, true), (2, true), (4, true), (5, true), (3, false), (6, false), (7, true), (8, false), (9, false), (10, true)] (by kernel_rfl) (by kernel_rfl) (fun _ _ _ _ _ h => h) ?_
        have hz0 : W1.drew.cell? ⟨bx, 0, none⟩ = some (.string pn) := hb0
        have hz1 : W1.drew.cell? ⟨bx, 1, none⟩ = some (.slice Av pl.length cv) := hb1
        have HQ1 := Lib.hid HP1.out.drew
        have HQ2 := Lib.hid HP2.out.drew
        have HBD := Lib.hid HB1.out.drew
        generalize W1.drew = wd at hz0 hz1 HQ1 HQ2 HBD
        clear hb0 hb1 HP1 HP2 HB1
        have hq0 : ∀ W, LeG (Value.ownBlock (.slice A1 n1 c1)) wd W → W.cell? ⟨bx, 0, none⟩ = some (.string pn) := fun W hW => LeG.cell hW hz0 HN1.out
        have hq1 : ∀ W, LeG (Value.ownBlock (.slice A1 n1 c1)) wd W → W.cell? ⟨bx, 1, none⟩ = some (.slice Av pl.length cv) := fun W hW => LeG.cell hW hz1 HN1.out
        repeat (refine wpE_still rfl (fun K hK => ?_); go_simp; first | (refine hK.out _ ?_; clear hK K) | (apply Exists.intro; refine ⟨fun W hW => ?_, hK.out _ ?_⟩; (first | rfl | (have z0 := hq0 W hW; have z1 := hq1 W hW; go_simp; first | done | rfl)); clear hK K))
        refine wpE_loud rfl (fun K hK => ?_) (LeG.refl _)
        go_simp
        refine (short23_eq pn _).mono ?_
        rintro e w3 ⟨rfl, rfl⟩
        go_simp
        refine hK.out _ _ (LeG.refl _ _) ?_
        clear hK K
        refine wpE_loud rfl (fun K hK => ?_) (LeG.refl _)
        go_simp
        refine (few23_any _ Av pl.length cv pl _ (HRV.out.belowB (fun _ h => h) HBD.out)).mono ?_
        rintro e w3 ⟨A3, n3, rfl, hr3, rfl⟩
        have hlow : LowV w (.slice A3 n3 cv) (pl.take 60) := ⟨A3, n3, cv, rfl, hr3.keep fun b hb _ => (HBD.out.block b hb).symm⟩
        go_simp
        refine hK.out _ _ (LeG.refl _ _) ?_
        clear hK K hr3
        repeat (refine wpE_still rfl (fun K hK => ?_); go_simp; first | (refine hK.out _ ?_; clear hK K) | (apply Exists.intro; refine ⟨fun W hW => rfl, hK.out _ ?_⟩; clear hK K))
        refine wpE_loud rfl (fun K hK => ?_) (LeG.refl _)
        go_simp
        refine hK.out _ _ (World.grownBy_alloc wd _ _) ?_
        clear hK K hq0 hq1
        refine wpE_op rfl rfl (fun K hK => ?_)
        refine append_epairs _ rfl (.tmp 17) (.tmp 25) rfl w.heap.size _ _ _ rfl (HQ1.out.alloc _) _ _ 1 1 (pairCells [(shortF pn, pl.take 60)] [.slice A3 n3 cv]) rfl (Rd.litN wd _ rfl _ #[.string (shortF pn), .slice A3 n3 cv] 2 1 rfl (by decide))
          (by intro x hx; simp [pairCells] at hx; rcases hx with rfl | rfl <;> rfl) (by omega) (by have := HBD.out.size; simp; omega) ?_
        intro A4 c4 w4 hown4 hg4 hd4 _
        refine hK.out _ _ hg4 ?_
        clear hK K
        have HB4 := Lib.hid (below_own (HBD.out.alloc HBD.out.size _) (by have := HBD.out.size; simp; omega) (HQ1.out.alloc _) hg4)
        have hy0 : w4.cell? ⟨bx, 0, none⟩ = some (.string pn) := LeG.cell hg4 (cell_keep (ba _ _) hz0) HN1.out
        have hy1 : w4.cell? ⟨bx, 1, none⟩ = some (.slice Av pl.length cv) := LeG.cell hg4 (cell_keep (ba _ _) hz1) HN1.out
        have HQ2b := Lib.hid ((HQ2.out.alloc (.cells #[.string (shortF pn), .slice A3 n3 cv] 45)).kept hg4 (by
          cases hb : Value.ownBlock (.slice A2 n2 c2) with
          | none => exact .inl rfl
          | some g => right; intro e; exact HD.out g e.symm hb))
        have HD2 : Hid (∀ g, (Value.slice A4 (n1 + 1) c4).ownBlock = some g → (Value.slice A2 n2 c2).ownBlock = some g → False) := fun g e1 e2 => by
          rcases hd4 with h | h
          · rw [h] at e1; exact HD.out g e1 e2
          · rw [h] at e1
            injection e1 with e1
            have := (HQ2.out.lt g e2).2
            have h2 : (wd.alloc (.cells #[.string (shortF pn), .slice A3 n3 cv] 45)).heap.size = wd.heap.size + 1 := by simp
            omega
        have HO4 := Lib.hid hown4
        clear hown4 hd4 hg4 hz0 hz1 HQ1 HQ2 HBD
        repeat (refine wpE_still rfl (fun K hK => ?_); go_simp; first | (refine hK.out _ ?_; clear hK K) | (apply Exists.intro; refine ⟨fun W hW => rfl, hK.out _ ?_⟩; clear hK K))
        refine wpE_nil ?_
        go_wp2
        -- the document's pair
        refine wp_region_G (Value.ownBlock (.slice A2 n2 c2)) [(0, true), (1, true), (2, true), (4, true), (5, true), (3, false), (6, false), (7, true), (8, false), (9, false), (10, true)] (by kernel_rfl) (by kernel_rfl) (fun _ _ _ _ _ h => h) ?_
        have hz0 : w4.drew.cell? ⟨bx, 0, none⟩ = some (.string pn) := hy0
        have hz1 : w4.drew.cell? ⟨bx, 1, none⟩ = some (.slice Av pl.length cv) := hy1
        have HQ1 := Lib.hid HO4.out.drew
        have HQ2 := Lib.hid HQ2b.out.drew
        have HBD := Lib.hid HB4.out.drew
        generalize w4.drew = wd at hz0 hz1 HQ1 HQ2 HBD
        clear hy0 hy1 HO4 HQ2b HB4
        have hq0 : ∀ W, LeG (Value.ownBlock (.slice A2 n2 c2)) wd W → W.cell? ⟨bx, 0, none⟩ = some (.string pn) := fun W hW => LeG.cell hW hz0 HN2.out
        have hq1 : ∀ W, LeG (Value.ownBlock (.slice A2 n2 c2)) wd W → W.cell? ⟨bx, 1, none⟩ = some (.slice Av pl.length cv) := fun W hW => LeG.cell hW hz1 HN2.out
        repeat (refine wpE_still rfl (fun K hK => ?_); go_simp; first | (refine hK.out _ ?_; clear hK K) | (apply Exists.intro; refine ⟨fun W hW => ?_, hK.out _ ?_⟩; (first | rfl | (have z0 := hq0 W hW; have z1 := hq1 W hW; go_simp; first | done | rfl)); clear hK K))
        refine wpE_loud rfl (fun K hK => ?_) (LeG.refl _)
        go_simp
        refine (short23_eq pn _).mono ?_
        rintro e w3 ⟨rfl, rfl⟩
        go_simp
        refine hK.out _ _ (LeG.refl _ _) ?_
        clear hK K
        refine wpE_loud rfl (fun K hK => ?_) (LeG.refl _)
        go_simp
        refine (few23_any _ Av pl.length cv pl _ (HRV.out.belowB (fun _ h => h) HBD.out)).mono ?_
        rintro e w3 ⟨A5, n5, rfl, hr5, rfl⟩
        have hlow2 : LowV w (.slice A5 n5 cv) (pl.take 60) := ⟨A5, n5, cv, rfl, hr5.keep fun b hb _ => (HBD.out.block b hb).symm⟩
        go_simp
        refine hK.out _ _ (LeG.refl _ _) ?_
        clear hK K hr5
        repeat (refine wpE_still rfl (fun K hK => ?_); go_simp; first | (refine hK.out _ ?_; clear hK K) | (apply Exists.intro; refine ⟨fun W hW => rfl, hK.out _ ?_⟩; clear hK K))
        refine wpE_loud rfl (fun K hK => ?_) (LeG.refl _)
        go_simp
        refine hK.out _ _ (World.grownBy_alloc wd _ _) ?_
        clear hK K hq0 hq1
        refine wpE_op rfl rfl (fun K hK => ?_)
        refine append_rpairs _ rfl (.tmp 27) (.tmp 35) rfl w.heap.size _ _ _ rfl (HQ2.out.alloc _) _ _ 1 1 (pairCells [(shortF pn, pl.take 60)] [.slice A5 n5 cv]) rfl (Rd.litN wd _ rfl _ #[.string (shortF pn), .slice A5 n5 cv] 2 1 rfl (by decide))
          (by intro x hx; simp [pairCells] at hx; rcases hx with rfl | rfl <;> rfl) (by omega) (by have := HBD.out.size; simp; omega) ?_
        intro A6 c6 w6 hown6 hg6 hd6 _
        refine hK.out _ _ hg6 ?_
        clear hK K
        have HB6 := Lib.hid (below_own (HBD.out.alloc HBD.out.size _) (by have := HBD.out.size; simp; omega) (HQ2.out.alloc _) hg6)
        have HQ1b := Lib.hid ((HQ1.out.alloc (.cells #[.string (shortF pn), .slice A5 n5 cv] 47)).kept hg6 (by
          cases hb : Value.ownBlock (.slice A4 (n1 + 1) c4) with
          | none => exact .inl rfl
          | some g => right; intro e; exact HD2.out g hb e.symm))
        have HD6 : Hid (∀ g, (Value.slice A4 (n1 + 1) c4).ownBlock = some g → (Value.slice A6 (n2 + 1) c6).ownBlock = some g → False) := fun g e1 e2 => by
          rcases hd6 with h | h
          · rw [h] at e2; exact HD2.out g e1 e2
          · rw [h] at e2
            injection e2 with e2
            have := (HQ1.out.lt g e1).2
            have h2 : (wd.alloc (.cells #[.string (shortF pn), .slice A5 n5 cv] 47)).heap.size = wd.heap.size + 1 := by simp
            omega
        have HO6 := Lib.hid hown6
        clear hown6 hd6 hg6 hz0 hz1 HQ1 HQ2 HBD
        repeat (refine wpE_still rfl (fun K hK => ?_); go_simp; first | (refine hK.out _ ?_; clear hK K) | (apply Exists.intro; refine ⟨fun W hW => rfl, hK.out _ ?_⟩; clear hK K))
        refine wpE_nil ?_
        go_wp2
        have HV1 : Hid (OutV w w6 45 (.slice A4 (n1 + 1) c4) (o ++ [(shortF pn, pl.take 60)])) := ⟨_, vs1 ++ [.slice A3 n3 cv], by rw [pairCells_append _ _ _ _ hl1]; exact HQ1b.out, by simp [hl1], low_snoc hl1 HE1.out hlow⟩
        have HV2 : Hid (OutV w w6 47 (.slice A6 (n2 + 1) c6) (o ++ [(shortF pn, pl.take 60)])) := ⟨_, vs2 ++ [.slice A5 n5 cv], by rw [pairCells_append _ _ _ _ hl2]; exact HO6.out, by simp [hl2], low_snoc hl2 HE2.out hlow2⟩
        clear HQ1b HO6 hlow hlow2
        go_roundw
        case rel => exact ⟨k + 1, by omega, by go_num, HB6.out, by rw [HTK.out]; exact HV1.out, by rw [HTK.out]; exact HV2.out, HD6.out⟩
        case measure => simp [intOf]; omega
      · have h4' : ¬ (k : Int) < 4 := by omega
        have HTK : Hid (((ps.take 4).map cutPair).take (k + 1) = ((ps.take 4).map cutPair).take k) := by
          have hl4 : ((ps.take 4).map cutPair).length ≤ 4 := by rw [List.length_map]; exact List.length_take_le _ _
          exact (List.take_of_length_le (by omega)).trans (List.take_of_length_le (by omega)).symm
        obtain ⟨b, u, Av, cv, rfl, hc0, hc1, _⟩ := (HR.out.below HB.out).pair hlt
        have HBA := Lib.hid (HB.out.alloc HB.out.size (.cells #[.string ps[k].1, .slice Av ps[k].2.length cv] 47))
        have HV1 := Lib.hid (HO1.out.alloc (.cells #[.string ps[k].1, .slice Av ps[k].2.length cv] 47))
        have HV2 := Lib.hid (HO2.out.alloc (.cells #[.string ps[k].1, .slice Av ps[k].2.length cv] 47))
        generalize ps[k].1 = pn at hc0 HBA HV1 HV2
        generalize ps[k].2.length = ql at hc1 HBA HV1 HV2
        go_wp2
        go_roundw
        case rel => exact ⟨k + 1, by omega, by go_num, HBA.out, by rw [HTK.out]; exact HV1.out, by rw [HTK.out]; exact HV2.out, HD.out⟩
        case measure => simp [intOf]; omega
    · have e : ((ps.take 4).map cutPair).take k = (ps.take 4).map cutPair := List.take_of_length_le (by simp; omega)
      rw [e] at HO1 HO2
      clear e
      go_wp2
      go_ret2
      exact ⟨_, _, rfl, HO1.out, HO2.out, HB.out⟩

theorem cut_ok (ps : PairL) : ∀ p ∈ (ps.take 4).map cutPair, p.1.size ≤ 1000 ∧ p.2.length ≤ 1000 := by
  intro p hp
  obtain ⟨q, _, rfl⟩ := List.mem_map.1 hp
  refine ⟨Nat.le_trans (shortF_len _) (by omega), ?_⟩
  have : (q.2.take 60).length ≤ 60 := List.length_take_le _ _
  show (q.2.take 60).length ≤ 1000
  omega

set_option maxHeartbeats 2000000 in
set_option maxRecDepth 100000 in
theorem EscapeTags_any (S : Nat → Prop) (A : Option Addr) (n c : Nat) (ps : PairL) (vs : List Value) (emp : Bool) (s : ByteArray) (w : World) (hr : PairsV w S A n c ps vs) :
    Calls Try.prog 8 #[.string s, .bool emp, .slice A n c] w fun e w' => e = .returned (.bool true) ∧ Below w.heap.size w w' := by
  have HR := Lib.hid hr
  clear hr
  go_enter Try.func8, Try.ntmps8
  go_wp2_with fail
  refine (short23_eq s _).mono ?_
  rintro e w1 ⟨rfl, rfl⟩
  have htl := shortF_len s
  generalize shortF s = t at htl
  go_wp2_with fail
  refine (pairs_any S A n c ps vs w HR.out).mono ?_
  rintro e w1 ⟨v1, v2, rfl, ho1, ho2, hb1⟩
  obtain ⟨A1, n1, c1, vs1, rfl, hp1⟩ := ho1.pairs hb1
  obtain ⟨A2, n2, c2, vs2, rfl, hp2⟩ := ho2.pairs hb1
  have hok := cut_ok ps
  have hml : ((ps.take 4).map cutPair).length ≤ 4 := by rw [List.length_map]; exact List.length_take_le _ _
  have HP1 := Lib.hid hp1
  have HP2 := Lib.hid hp2
  have HB1 := Lib.hid hb1
  have HOK := Lib.hid hok
  clear ho1 ho2 hp1 hp2 hb1 hok HR
  generalize (ps.take 4).map cutPair = qs at HP1 HP2 hml HOK
  go_wp2_with fail
  refine (Start_any t emp _ A1 n1 c1 qs vs1 w1 HP1.out (by omega) (by omega) HOK.out).mono ?_
  rintro e w2 ⟨⟨v2, rfl, hv2⟩, hb2⟩
  go_wp2_with fail
  refine (RStart_any t emp _ A2 n2 c2 qs vs2 w2 (HP2.out.below hb2) (by omega) (by omega) HOK.out).mono ?_
  rintro e w3 ⟨⟨v3, rfl, hv3⟩, hb3⟩
  have HV2 := Lib.hid (hv2.below hb3)
  have HV3 := Lib.hid hv3
  have HB3 := Lib.hid (bt HB1.out (bt hb2 hb3))
  clear hv2 hv3 hb2 hb3 HP1 HP2 HB1
  go_wp2_with fail
  refine (End_any t w3 (by omega)).mono ?_
  rintro e w4 ⟨⟨v4, rfl, hv4⟩, hb4⟩
  go_wp2_with fail
  refine (REnd_any t w4 (by omega)).mono ?_
  rintro e w5 ⟨⟨v5, rfl, hv5⟩, hb5⟩
  have HV4 := Lib.hid (hv4.below hb5)
  have HV5 := Lib.hid hv5
  have HB5 := Lib.hid (bt hb4 hb5)
  clear hv4 hv5 hb4 hb5
  go_wp2_with fail
  refine (same23_opt w5 v2 v3 _ (HV2.out.below HB5.out) (HV3.out.below HB5.out)).mono ?_
  rintro e w6 ⟨rfl, hb6⟩
  have HB6 := Lib.hid hb6
  clear hb6
  go_wp2_with fail
  refine (same23_opt w6 v4 v5 _ (HV4.out.below HB6.out) (HV5.out.below HB6.out)).mono ?_
  rintro e w7 ⟨rfl, hb7⟩
  have HB7 := Lib.hid hb7
  clear hb7
  go_wp2_with fail
  refine (awake23 w7).mono ?_
  rintro e w8 ⟨rfl, hb8⟩
  go_wp2
  go_ret
  exact ⟨rfl, bt HB3.out (bt HB5.out (bt HB6.out (bt HB7.out hb8)))⟩

end Go.Proofs.Ytbbplpmaknaadaa
