/-
  Parts of the proof, joined: TgP. Conditions: as each theorem says.
-/
import Derived.Test.YtblafdmmebiagaaQD19
import Derived.Test.YtblafdmmebiagaaQD07
namespace Go.Proofs.Ytblafdmmebiagaa
open Go.RowKit Go.Lib
def tpieceF (l : List Int) (first : Bool) : Int × Int :=
  if first = true ∧ startsF l 0 [60, 47] = true then (1, 2)
  else if first = true ∧ l.getD 0 0 = 60 then (1, 1)
  else if 0 < (runF isSpace l 0 : Int) then (3, (runF isSpace l 0 : Int))
  else if 0 < (leadF l 0 : Int) then (2, (leadF l 0 : Int))
  else if l.getD 0 0 = 61 then (4, 1)
  else if 0 < tvalF l then (5, tvalF l)
  else if ((l.length : Int) = 2 ∧ startsF l 0 [47, 62] = true) ∨ ((l.length : Int) = 1 ∧ l.getD 0 0 = 62) then (6, (l.length : Int))
  else (7, 1)
def csP (run lead val : Int) (st : ByteArray → Bool) : Nat → List AV → List Ob → Option (AV × List Ob) := fun f args _ => match f, args with
  | 81, _ => some (.val (.int .i64 run), [])
  | 86, _ => some (.val (.int .i64 lead), [])
  | 87, _ => some (.val (.int .i64 val), [])
  | 88, [_, _, .val (.string s)] => some (.val (.bool (st s)), [])
  | _, _ => none
set_option maxRecDepth 20000 in
set_option maxHeartbeats 2000000 in
theorem piece_b (l : List Int) (hl : l ≠ []) (hmax : l.length ≤ 1000000000) (first : Bool) : BCall Try.prog 74 [.slc 1 (runesA l), .val (.bool first)] [] (.tup [.val (.int .i64 (tpieceF l first).1), .val (.int .i64 (tpieceF l first).2)]) [] := by
  obtain ⟨run, hrun⟩ : ∃ r : Int, r = (runF isSpace l 0 : Int) := ⟨_, rfl⟩
  obtain ⟨lead, hlead⟩ : ∃ r : Int, r = (leadF l 0 : Int) := ⟨_, rfl⟩
  obtain ⟨val, hval⟩ : ∃ r, r = tvalF l := ⟨_, rfl⟩
  obtain ⟨st, hst⟩ : ∃ st : ByteArray → Bool, st = fun s => startsF l 0 s.data.toList := ⟨_, rfl⟩
  have b1 : BCall Try.prog 81 [.slc 1 (runesA l), .val (.int .i64 0), .val (.func (.func 85) #[] #[])] [] (.val (.int .i64 run)) [] := by
    rw [hrun]; exact Run_b l 0 isSpace 85 eg_Space (fun w => Space_ok w)
  have b2 : BCall Try.prog 86 [.slc 1 (runesA l), .val (.int .i64 0)] [] (.val (.int .i64 lead)) [] := by
    rw [hlead]; exact Lead_b l 0 (by omega) (by omega)
  have b3 : BCall Try.prog 87 [.slc 1 (runesA l)] [] (.val (.int .i64 val)) [] := by
    rw [hval]; exact value_b l hl hmax
  have b4 : ∀ s : ByteArray, s.size ≤ 10 → BCall Try.prog 88 [.slc 1 (runesA l), .val (.int .i64 0), .val (.string s)] [] (.val (.bool (st s))) [] := fun s hs => by
    rw [hst]; exact Starts_b l hmax 0 (by omega) (by omega) s (by omega)
  obtain ⟨n, hn⟩ := exLen l
  have e1 : st ⟨#[60, 47]⟩ = startsF l 0 [60, 47] := by rw [hst]
  have e2 : st ⟨#[47, 62]⟩ = startsF l 0 [47, 62] := by rw [hst]
  have hP : tpieceF l first = ((if first = true ∧ st ⟨#[60, 47]⟩ = true then (1, 2)
      else if first = true ∧ l.getD 0 0 = 60 then (1, 1)
      else if 0 < run then (3, run)
      else if 0 < lead then (2, lead)
      else if l.getD 0 0 = 61 then (4, 1)
      else if 0 < val then (5, val)
      else if (n = 2 ∧ st ⟨#[47, 62]⟩ = true) ∨ (n = 1 ∧ l.getD 0 0 = 62) then (6, n)
      else (7, 1)) : Int × Int) := by
    rw [e1, e2, hrun, hlead, hval, hn.eq]; rfl
  rw [hP]
  clear hP e1 e2 hst hval hlead hrun
  have hpos : 0 < l.length := List.length_pos_iff.2 hl
  have a0 := runes_at (l := l) (i := 0) (Int.le_refl 0) (by omega)
  obtain ⟨r0, hr0⟩ : ∃ r0, r0 = l.getD 0 0 := ⟨_, rfl⟩
  have a0 : (runesA l)[0]?.getD .dead = .val (.int .i32 r0) := by rw [hr0, List.getD_eq_getElem?_getD]; exact a0
  have a1 : ∀ h : 0 < (runesA l).length, (runesA l)[0]'h = .val (.int .i32 r0) := fun h => by rw [List.getElem?_eq_getElem h] at a0; exact a0
  rw [← hr0]
  clear hr0
  cases first
  all_goals
    refine bcall_of (cs := csP run lead val st) (ord := fun _ => .nil) tyOk (by kernel_rfl) Try.func74 rfl (enters_of Try.func74 (by kernel_rfl) rfl) (Nat.le_of_ble_eq_true rfl) (by kernel_rfl) (by kernel_rfl) ?_
    intro w0 g0
    generalize hp : std = p
    generalize hrs : runesA l = rs
    generalize hT : aexec p tys (csP run lead val st) _ _ _ _ = T
    cbv at hT
    subst hT
    simp only [Tree.ok, RoundOk, Bool.false_eq_true, Bool.true_eq_false, false_implies, true_implies, and_true, true_and]
    subst hp hrs
    have en := hn.eq
    have hlen := runes_len l
    have hpos' : 0 < (runesA l).length := by omega
    have hlen' : (((runesA l).length : Nat) : Int) = n := by omega
    have b5 := b4 ⟨#[60, 47]⟩ (by decide)
    have b6 := b4 ⟨#[47, 62]⟩ (by decide)
    repeat' first
      | (with_reducible refine And.intro (fun hx => absurd hx (by (first | (simp [std, allP, AV.cells, intOf, booOf, lstOf, a0, a1, hlen', hpos', b1, b2, b3, b5, b6]; done) | (simp [std, allP, AV.cells, intOf, booOf, lstOf, a0, a1, hlen', hpos', b1, b2, b3, b5, b6]; omega) | (refine (inR64 _).2 ?_; (try simp [std, AV.cells, intOf, booOf, lstOf, a0, a1, hlen', hpos', b1, b2, b3, b5, b6]); omega) | (refine (inR32 _).2 ?_; (try simp [std, AV.cells, intOf, booOf, lstOf, a0, a1, hlen', hpos', b1, b2, b3, b5, b6]); omega) | omega))) (fun _ => ?_))
      | (with_reducible refine And.intro (fun _ => ?_) (fun hx => absurd hx (by (first | (simp [std, allP, AV.cells, intOf, booOf, lstOf, a0, a1, hlen', hpos', b1, b2, b3, b5, b6]; done) | (simp [std, allP, AV.cells, intOf, booOf, lstOf, a0, a1, hlen', hpos', b1, b2, b3, b5, b6]; omega) | (refine (inR64 _).2 ?_; (try simp [std, AV.cells, intOf, booOf, lstOf, a0, a1, hlen', hpos', b1, b2, b3, b5, b6]); omega) | (refine (inR32 _).2 ?_; (try simp [std, AV.cells, intOf, booOf, lstOf, a0, a1, hlen', hpos', b1, b2, b3, b5, b6]); omega) | omega))))
      | (with_reducible refine And.intro (by (first | (simp [std, allP, AV.cells, intOf, booOf, lstOf, a0, a1, hlen', hpos', b1, b2, b3, b5, b6]; done) | (simp [std, allP, AV.cells, intOf, booOf, lstOf, a0, a1, hlen', hpos', b1, b2, b3, b5, b6]; omega) | (refine (inR64 _).2 ?_; (try simp [std, AV.cells, intOf, booOf, lstOf, a0, a1, hlen', hpos', b1, b2, b3, b5, b6]); omega) | (refine (inR32 _).2 ?_; (try simp [std, AV.cells, intOf, booOf, lstOf, a0, a1, hlen', hpos', b1, b2, b3, b5, b6]); omega) | omega)) ?_)
      | (with_reducible refine And.intro ?_ ?_)
      | (with_reducible intro hb; try simp [std, allP, AV.cells, intOf, booOf, lstOf, a0, a1, hlen', hpos', b1, b2, b3, b5, b6] at hb)
    all_goals
      first
        | refine .pure rfl ⟨.inl ?_, .inl ?_, trivial⟩
          all_goals
            try simp only [std, hlen']
            clear en hlen hlen' hpos' hpos hn b1 b2 b3 b4 b5 b6
          all_goals first
            | (simp [*]; done)
            | ((repeat' split) <;> first | rfl | omega | (simp_all; done) | (simp_all; omega))
        | skip
  all_goals trace_state
end Go.Proofs.Ytblafdmmebiagaa
