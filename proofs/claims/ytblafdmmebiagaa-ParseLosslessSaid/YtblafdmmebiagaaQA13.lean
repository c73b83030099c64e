/-
  Parts of the proof, joined: Sn Sx Sd Sl. Conditions: as each theorem says.
-/
import Derived.Test.YtblafdmmebiagaaQA10
import Derived.Lib.Split
import Derived.Test.YtblafdmmebiagaaQA06
import Derived.Test.YtblafdmmebiagaaQA03
import Derived.Test.YtblafdmmebiagaaQA12
import Derived.Test.YtblafdmmebiagaaQA01
namespace Go.Proofs.Ytblafdmmebiagaa
open Go.RowKit Go.Lib
def preF (s t : ByteArray) : Bool := decide (t.size ≤ s.size) && (s.data.toList.take t.size == t.data.toList)
theorem pre_cut {s t : ByteArray} (h : t.size ≤ s.size) : std.eqS (std.cutS s 0 (std.szS t)) t = preF s t := by
  simp only [std, preF, h, decide_true, Bool.true_and, ByteArray.toList_eq]
  rw [show (0 : Int).toNat = 0 from rfl, Int.toNat_natCast, extract_from_zero]
theorem HP0_b (s t : ByteArray) : BCall Try.prog 76 [.val (.string s), .val (.string t)] [] (.val (.bool (preF s t))) [] := by
  refine bcall_of (cs := cs0) (ord := fun _ => .nil) tyOk (by kernel_rfl) Try.func76 rfl (enters_of Try.func76 (by kernel_rfl) rfl) (Nat.le_of_ble_eq_true rfl) (by kernel_rfl) (by kernel_rfl) ?_
  intro w0 g0
  generalize hp : std = p
  generalize hT : aexec p tys (cs0) _ _ _ _ = T
  cbv at hT
  subst hT
  simp only [Tree.ok, RoundOk, Bool.false_eq_true, Bool.true_eq_false, false_implies, true_implies, and_true, true_and]
  subst hp
  refine ⟨fun h => ⟨?_, .pure rfl (.inl ?_)⟩, fun h => .pure rfl (.inl ?_)⟩
  · have h : t.size ≤ s.size := by simpa [std] using h
    simp [std]; omega
  · have h : t.size ≤ s.size := by simpa [std] using h
    show AV.val (.bool (std.eqS (std.cutS s 0 (std.szS t)) t)) = _
    rw [pre_cut h]
  · have h : ¬ t.size ≤ s.size := by simpa [std] using h
    simp [preF, h]
def csPre (pre : ByteArray → ByteArray → Bool) : Nat → List AV → List Ob → Option (AV × List Ob) := fun f args _ => match f, args with
  | 76, [.val (.string s), .val (.string t)] => some (.val (.bool (pre s t)), [])
  | 64, [.val (.string s), .val (.string t)] => some (.val (.bool (pre s t)), [])
  | _, _ => none
theorem HP_b (s t : ByteArray) : BCall Try.prog 64 [.val (.string s), .val (.string t)] [] (.val (.bool (preF s t))) [] := by
  refine bcall_of (cs := csPre preF) (ord := fun _ => .nil) tyOk (by kernel_rfl) Try.func64 rfl (enters_of Try.func64 (by kernel_rfl) rfl) (Nat.le_of_ble_eq_true rfl) (by kernel_rfl) (by kernel_rfl) ?_
  intro w0 g0
  generalize hp : std = p
  generalize hpre : preF = pre
  generalize hT : aexec p tys (csPre pre) _ _ _ _ = T
  cbv at hT
  subst hT
  simp only [Tree.ok, RoundOk, Bool.false_eq_true, Bool.true_eq_false, false_implies, true_implies, and_true, true_and]
  subst hp hpre
  exact ⟨HP0_b s t, .pure rfl (.inl rfl)⟩
def signsL : List (List UInt8 × Int × Int) := [([254, 255], 1, 2), ([255, 254], 2, 2), ([239, 187, 191], 0, 3), ([0, 60, 0, 63], 1, 0), ([60, 0, 63, 0], 2, 0)]
def kR (pre : List UInt8 → Bool) (k : Nat) : Int × Int := match (signsL.drop k).find? (fun x => pre x.1) with
  | some x => x.2
  | none => (0, 0)
def kindF (b : List UInt8) : Int × Int := kR (fun t => t.isPrefixOf b) 0
theorem bytes_back (l : List UInt8) : (bytesA l).map byteOf = l := by
  induction l with
  | nil => rfl
  | cons x r ih => rw [bytesA, List.map_cons, List.map_cons]; rw [bytesA] at ih; rw [ih]; simp [byteA, byteOf]
theorem isB_bytesA (l : List UInt8) : std.isB (bytesA l) := fun x hx => by
  obtain ⟨n, _, rfl⟩ := List.mem_map.1 hx
  exact ⟨n, rfl⟩
theorem pre_take (b t : List UInt8) (h : t.length ≤ 4) : preF ⟨(b.take 4).toArray⟩ ⟨t.toArray⟩ = t.isPrefixOf b := by
  have e : preF ⟨(b.take 4).toArray⟩ ⟨t.toArray⟩ = (decide (t.length ≤ (b.take 4).length) && ((b.take 4).take t.length == t)) := rfl
  rw [e, Bool.eq_iff_iff, List.isPrefixOf_iff_prefix, List.prefix_iff_eq_take]
  simp only [List.take_take, List.length_take, Bool.and_eq_true, decide_eq_true_eq, beq_iff_eq, Nat.min_eq_left h]
  constructor
  · exact fun h => h.2.symm
  · intro h1
    have : t.length ≤ b.length := by
      have := congrArg List.length h1
      rw [List.length_take] at this
      omega
    exact ⟨by omega, h1.symm⟩
set_option maxRecDepth 20000 in
set_option maxHeartbeats 2000000 in
theorem Kind3_b (b : List UInt8) : BCall Try.prog 45 [.slc 1 (bytesA b)] [] (.tup [.val (.int .i64 (kindF b).1), .val (.int .i64 (kindF b).2)]) [] := by
  refine bcall_of (cs := csPre preF) (ord := fun _ => .nil) tyOk (by kernel_rfl) Try.func45 rfl (enters_of Try.func45 (by kernel_rfl) rfl) (Nat.le_of_ble_eq_true rfl) (by kernel_rfl) (by kernel_rfl) ?_
  intro w0 g0
  generalize hp : std = p
  generalize hpre : preF = pre
  generalize hbs : bytesA b = bs
  generalize hT : aexec p tys (csPre pre) _ _ _ _ = T
  cbv at hT
  subst hT
  simp only [Tree.ok, RoundOk, Bool.false_eq_true, Bool.true_eq_false, false_implies, true_implies, and_true, true_and]
  subst hp hpre hbs
  have hbl := bytes_len b
  have hmin : std.minI (std.len (bytesA b)) 4 = if 4 < (b.length : Int) then 4 else (b.length : Int) := by simp only [std, hbl]
  have hcut : std.cut (bytesA b) 0 (std.minI (std.len (bytesA b)) 4) = bytesA (b.take 4) := by
    rw [hmin]
    show ((bytesA b).drop (0 : Int).toNat).take _ = _
    rw [show (0 : Int).toNat = 0 from rfl, List.drop_zero, bytesA, bytesA, List.map_take]
    split
    · rfl
    · have : b.length ≤ 4 := by omega
      rw [List.take_of_length_le (by simp), List.take_of_length_le (by simpa using this)]
  refine ⟨?_, ?_, ?_⟩
  · simp only [std, hbl]
    split <;> omega
  · show std.isB (std.cut (bytesA b) 0 (std.minI (std.len (bytesA b)) 4))
    rw [hcut]; exact isB_bytesA _
  have hstr : std.strB (std.cut (bytesA b) 0 (std.minI (std.len (bytesA b)) 4)) = ⟨(b.take 4).toArray⟩ := by
    rw [hcut]
    show (⟨((bytesA (b.take 4)).map byteOf).toArray⟩ : ByteArray) = _
    rw [bytes_back]
  obtain ⟨s, hs⟩ : ∃ s : ByteArray, s = ⟨(b.take 4).toArray⟩ := ⟨_, rfl⟩
  have hpre : ∀ t : List UInt8, t.length ≤ 4 → t.isPrefixOf b = preF s ⟨t.toArray⟩ := fun t h => by rw [hs, pre_take b t h]
  have hR : kindF b = kR (fun t => preF s ⟨t.toArray⟩) 0 := by
    simp [kindF, kR, signsL, List.find?, hpre [254, 255] (by decide), hpre [255, 254] (by decide), hpre [239, 187, 191] (by decide), hpre [0, 60, 0, 63] (by decide), hpre [60, 0, 63, 0] (by decide)]
  rw [hR]
  obtain ⟨R, hRE⟩ : ∃ R, R = kR (fun t => preF s ⟨t.toArray⟩) 0 := ⟨_, rfl⟩
  rw [← hRE]
  obtain ⟨R1, R2⟩ := R
  refine loop_rule (cs := csPre preF) (ord := fun _ => .nil) tyOk (by kernel_rfl) (by kernel_rfl) (by kernel_rfl) (X := Int) (fun k => ⟨[(5, .val (.string s)), (20, .agg [.val (.string ⟨#[254, 255]⟩), .val (.int .i64 1), .val (.int .i64 2), .val (.string ⟨#[255, 254]⟩), .val (.int .i64 2), .val (.int .i64 2), .val (.string ⟨#[239, 187, 191]⟩), .val (.int .i64 0), .val (.int .i64 3), .val (.string ⟨#[0, 60, 0, 63]⟩), .val (.int .i64 1), .val (.int .i64 0), .val (.string ⟨#[60, 0, 63, 0]⟩), .val (.int .i64 2), .val (.int .i64 0)]), (21, .val (.int .i64 k))], []⟩) (fun k => 0 ≤ k ∧ k ≤ 5 ∧ (R1, R2) = kR (fun t => preF s ⟨t.toArray⟩) k.toNat) (fun k => (5 - k).toNat) 0 ?_ ?_ ?_
  · exact ⟨by omega, by omega, hRE⟩
  · refine ⟨[], _, rfl, ?_, ?_⟩
    · show AV.val (.string (std.strB (std.cut (bytesA b) 0 (std.minI (std.len (bytesA b)) 4)))) = .val (.string s)
      rw [hstr, ← hs]
    · repeat first | exact trivial | refine ⟨rfl, ?_⟩
  · rintro k ⟨hk0, hk5, hk⟩
    have hcs : k = 0 ∨ k = 1 ∨ k = 2 ∨ k = 3 ∨ k = 4 ∨ k = 5 := by omega
    clear hR hpre hRE hstr hcut hbl hs hmin
    rcases hcs with rfl | rfl | rfl | rfl | rfl | rfl
    · generalize hp : std = p
      generalize hpre : preF = pre
      generalize hT : aexec p tys (csPre pre) _ _ _ _ = T
      cbv at hT
      subst hT
      simp only [Tree.ok, RoundOk, Bool.false_eq_true, Bool.true_eq_false, false_implies, true_implies, and_true, true_and]
      subst hp hpre
      repeat' first
        | (with_reducible refine And.intro (fun hx => absurd hx (by (first | (simp [std, allP, AV.cells, intOf, booOf, lstOf, hk]; done) | (simp [std, allP, AV.cells, intOf, booOf, lstOf, hk]; omega) | (refine (inR64 _).2 ?_; (try simp [std, AV.cells, intOf, booOf, lstOf, hk]); omega) | (refine (inR32 _).2 ?_; (try simp [std, AV.cells, intOf, booOf, lstOf, hk]); omega) | omega))) (fun _ => ?_))
        | (with_reducible refine And.intro (fun _ => ?_) (fun hx => absurd hx (by (first | (simp [std, allP, AV.cells, intOf, booOf, lstOf, hk]; done) | (simp [std, allP, AV.cells, intOf, booOf, lstOf, hk]; omega) | (refine (inR64 _).2 ?_; (try simp [std, AV.cells, intOf, booOf, lstOf, hk]); omega) | (refine (inR32 _).2 ?_; (try simp [std, AV.cells, intOf, booOf, lstOf, hk]); omega) | omega))))
        | (with_reducible refine And.intro (by (first | (simp [std, allP, AV.cells, intOf, booOf, lstOf, hk]; done) | (simp [std, allP, AV.cells, intOf, booOf, lstOf, hk]; omega) | (refine (inR64 _).2 ?_; (try simp [std, AV.cells, intOf, booOf, lstOf, hk]); omega) | (refine (inR32 _).2 ?_; (try simp [std, AV.cells, intOf, booOf, lstOf, hk]); omega) | omega)) ?_)
        | (with_reducible refine And.intro ?_ ?_)
        | (with_reducible intro hb)
      · exact HP_b _ _
      · generalize hp : std = p
        generalize hpre : preF = pre
        generalize hT : endK p tys _ _ _ _ = T
        cbv at hT
        subst hT
        simp only [Tree.ok, RoundOk, Bool.false_eq_true, Bool.true_eq_false, false_implies, true_implies, and_true, true_and]
        subst hp hpre
        simp [kR, signsL, List.find?, hb] at hk
        exact .pure rfl ⟨.inl (by rw [hk.1]), .inl (by rw [hk.2]), trivial⟩
      · exact (inR64 _).2 (by simp [std])
      · refine ⟨1, ⟨by omega, by omega, ?_⟩, by omega, [], _, rfl, ?_⟩
        · rw [hk]
          simp only [kR, signsL, Int.reduceToNat, List.drop_succ_cons, List.drop_zero, List.find?_cons, hb]
        · simp [AllEq, lk, std]
    · generalize hp : std = p
      generalize hpre : preF = pre
      generalize hT : aexec p tys (csPre pre) _ _ _ _ = T
      cbv at hT
      subst hT
      simp only [Tree.ok, RoundOk, Bool.false_eq_true, Bool.true_eq_false, false_implies, true_implies, and_true, true_and]
      subst hp hpre
      repeat' first
        | (with_reducible refine And.intro (fun hx => absurd hx (by (first | (simp [std, allP, AV.cells, intOf, booOf, lstOf, hk]; done) | (simp [std, allP, AV.cells, intOf, booOf, lstOf, hk]; omega) | (refine (inR64 _).2 ?_; (try simp [std, AV.cells, intOf, booOf, lstOf, hk]); omega) | (refine (inR32 _).2 ?_; (try simp [std, AV.cells, intOf, booOf, lstOf, hk]); omega) | omega))) (fun _ => ?_))
        | (with_reducible refine And.intro (fun _ => ?_) (fun hx => absurd hx (by (first | (simp [std, allP, AV.cells, intOf, booOf, lstOf, hk]; done) | (simp [std, allP, AV.cells, intOf, booOf, lstOf, hk]; omega) | (refine (inR64 _).2 ?_; (try simp [std, AV.cells, intOf, booOf, lstOf, hk]); omega) | (refine (inR32 _).2 ?_; (try simp [std, AV.cells, intOf, booOf, lstOf, hk]); omega) | omega))))
        | (with_reducible refine And.intro (by (first | (simp [std, allP, AV.cells, intOf, booOf, lstOf, hk]; done) | (simp [std, allP, AV.cells, intOf, booOf, lstOf, hk]; omega) | (refine (inR64 _).2 ?_; (try simp [std, AV.cells, intOf, booOf, lstOf, hk]); omega) | (refine (inR32 _).2 ?_; (try simp [std, AV.cells, intOf, booOf, lstOf, hk]); omega) | omega)) ?_)
        | (with_reducible refine And.intro ?_ ?_)
        | (with_reducible intro hb)
      · exact HP_b _ _
      · generalize hp : std = p
        generalize hpre : preF = pre
        generalize hT : endK p tys _ _ _ _ = T
        cbv at hT
        subst hT
        simp only [Tree.ok, RoundOk, Bool.false_eq_true, Bool.true_eq_false, false_implies, true_implies, and_true, true_and]
        subst hp hpre
        simp [kR, signsL, List.find?, hb] at hk
        exact .pure rfl ⟨.inl (by rw [hk.1]), .inl (by rw [hk.2]), trivial⟩
      · exact (inR64 _).2 (by simp [std])
      · refine ⟨2, ⟨by omega, by omega, ?_⟩, by omega, [], _, rfl, ?_⟩
        · rw [hk]
          simp only [kR, signsL, Int.reduceToNat, List.drop_succ_cons, List.drop_zero, List.find?_cons, hb]
        · simp [AllEq, lk, std]
    · generalize hp : std = p
      generalize hpre : preF = pre
      generalize hT : aexec p tys (csPre pre) _ _ _ _ = T
      cbv at hT
      subst hT
      simp only [Tree.ok, RoundOk, Bool.false_eq_true, Bool.true_eq_false, false_implies, true_implies, and_true, true_and]
      subst hp hpre
      repeat' first
        | (with_reducible refine And.intro (fun hx => absurd hx (by (first | (simp [std, allP, AV.cells, intOf, booOf, lstOf, hk]; done) | (simp [std, allP, AV.cells, intOf, booOf, lstOf, hk]; omega) | (refine (inR64 _).2 ?_; (try simp [std, AV.cells, intOf, booOf, lstOf, hk]); omega) | (refine (inR32 _).2 ?_; (try simp [std, AV.cells, intOf, booOf, lstOf, hk]); omega) | omega))) (fun _ => ?_))
        | (with_reducible refine And.intro (fun _ => ?_) (fun hx => absurd hx (by (first | (simp [std, allP, AV.cells, intOf, booOf, lstOf, hk]; done) | (simp [std, allP, AV.cells, intOf, booOf, lstOf, hk]; omega) | (refine (inR64 _).2 ?_; (try simp [std, AV.cells, intOf, booOf, lstOf, hk]); omega) | (refine (inR32 _).2 ?_; (try simp [std, AV.cells, intOf, booOf, lstOf, hk]); omega) | omega))))
        | (with_reducible refine And.intro (by (first | (simp [std, allP, AV.cells, intOf, booOf, lstOf, hk]; done) | (simp [std, allP, AV.cells, intOf, booOf, lstOf, hk]; omega) | (refine (inR64 _).2 ?_; (try simp [std, AV.cells, intOf, booOf, lstOf, hk]); omega) | (refine (inR32 _).2 ?_; (try simp [std, AV.cells, intOf, booOf, lstOf, hk]); omega) | omega)) ?_)
        | (with_reducible refine And.intro ?_ ?_)
        | (with_reducible intro hb)
      · exact HP_b _ _
      · generalize hp : std = p
        generalize hpre : preF = pre
        generalize hT : endK p tys _ _ _ _ = T
        cbv at hT
        subst hT
        simp only [Tree.ok, RoundOk, Bool.false_eq_true, Bool.true_eq_false, false_implies, true_implies, and_true, true_and]
        subst hp hpre
        simp [kR, signsL, List.find?, hb] at hk
        exact .pure rfl ⟨.inl (by rw [hk.1]), .inl (by rw [hk.2]), trivial⟩
      · exact (inR64 _).2 (by simp [std])
      · refine ⟨3, ⟨by omega, by omega, ?_⟩, by omega, [], _, rfl, ?_⟩
        · rw [hk]
          simp only [kR, signsL, Int.reduceToNat, List.drop_succ_cons, List.drop_zero, List.find?_cons, hb]
        · simp [AllEq, lk, std]
    · generalize hp : std = p
      generalize hpre : preF = pre
      generalize hT : aexec p tys (csPre pre) _ _ _ _ = T
      cbv at hT
      subst hT
      simp only [Tree.ok, RoundOk, Bool.false_eq_true, Bool.true_eq_false, false_implies, true_implies, and_true, true_and]
      subst hp hpre
      repeat' first
        | (with_reducible refine And.intro (fun hx => absurd hx (by (first | (simp [std, allP, AV.cells, intOf, booOf, lstOf, hk]; done) | (simp [std, allP, AV.cells, intOf, booOf, lstOf, hk]; omega) | (refine (inR64 _).2 ?_; (try simp [std, AV.cells, intOf, booOf, lstOf, hk]); omega) | (refine (inR32 _).2 ?_; (try simp [std, AV.cells, intOf, booOf, lstOf, hk]); omega) | omega))) (fun _ => ?_))
        | (with_reducible refine And.intro (fun _ => ?_) (fun hx => absurd hx (by (first | (simp [std, allP, AV.cells, intOf, booOf, lstOf, hk]; done) | (simp [std, allP, AV.cells, intOf, booOf, lstOf, hk]; omega) | (refine (inR64 _).2 ?_; (try simp [std, AV.cells, intOf, booOf, lstOf, hk]); omega) | (refine (inR32 _).2 ?_; (try simp [std, AV.cells, intOf, booOf, lstOf, hk]); omega) | omega))))
        | (with_reducible refine And.intro (by (first | (simp [std, allP, AV.cells, intOf, booOf, lstOf, hk]; done) | (simp [std, allP, AV.cells, intOf, booOf, lstOf, hk]; omega) | (refine (inR64 _).2 ?_; (try simp [std, AV.cells, intOf, booOf, lstOf, hk]); omega) | (refine (inR32 _).2 ?_; (try simp [std, AV.cells, intOf, booOf, lstOf, hk]); omega) | omega)) ?_)
        | (with_reducible refine And.intro ?_ ?_)
        | (with_reducible intro hb)
      · exact HP_b _ _
      · generalize hp : std = p
        generalize hpre : preF = pre
        generalize hT : endK p tys _ _ _ _ = T
        cbv at hT
        subst hT
        simp only [Tree.ok, RoundOk, Bool.false_eq_true, Bool.true_eq_false, false_implies, true_implies, and_true, true_and]
        subst hp hpre
        simp [kR, signsL, List.find?, hb] at hk
        exact .pure rfl ⟨.inl (by rw [hk.1]), .inl (by rw [hk.2]), trivial⟩
      · exact (inR64 _).2 (by simp [std])
      · refine ⟨4, ⟨by omega, by omega, ?_⟩, by omega, [], _, rfl, ?_⟩
        · rw [hk]
          simp only [kR, signsL, Int.reduceToNat, List.drop_succ_cons, List.drop_zero, List.find?_cons, hb]
        · simp [AllEq, lk, std]
    · generalize hp : std = p
      generalize hpre : preF = pre
      generalize hT : aexec p tys (csPre pre) _ _ _ _ = T
      cbv at hT
      subst hT
      simp only [Tree.ok, RoundOk, Bool.false_eq_true, Bool.true_eq_false, false_implies, true_implies, and_true, true_and]
      subst hp hpre
      repeat' first
        | (with_reducible refine And.intro (fun hx => absurd hx (by (first | (simp [std, allP, AV.cells, intOf, booOf, lstOf, hk]; done) | (simp [std, allP, AV.cells, intOf, booOf, lstOf, hk]; omega) | (refine (inR64 _).2 ?_; (try simp [std, AV.cells, intOf, booOf, lstOf, hk]); omega) | (refine (inR32 _).2 ?_; (try simp [std, AV.cells, intOf, booOf, lstOf, hk]); omega) | omega))) (fun _ => ?_))
        | (with_reducible refine And.intro (fun _ => ?_) (fun hx => absurd hx (by (first | (simp [std, allP, AV.cells, intOf, booOf, lstOf, hk]; done) | (simp [std, allP, AV.cells, intOf, booOf, lstOf, hk]; omega) | (refine (inR64 _).2 ?_; (try simp [std, AV.cells, intOf, booOf, lstOf, hk]); omega) | (refine (inR32 _).2 ?_; (try simp [std, AV.cells, intOf, booOf, lstOf, hk]); omega) | omega))))
        | (with_reducible refine And.intro (by (first | (simp [std, allP, AV.cells, intOf, booOf, lstOf, hk]; done) | (simp [std, allP, AV.cells, intOf, booOf, lstOf, hk]; omega) | (refine (inR64 _).2 ?_; (try simp [std, AV.cells, intOf, booOf, lstOf, hk]); omega) | (refine (inR32 _).2 ?_; (try simp [std, AV.cells, intOf, booOf, lstOf, hk]); omega) | omega)) ?_)
        | (with_reducible refine And.intro ?_ ?_)
        | (with_reducible intro hb)
      · exact HP_b _ _
      · generalize hp : std = p
        generalize hpre : preF = pre
        generalize hT : endK p tys _ _ _ _ = T
        cbv at hT
        subst hT
        simp only [Tree.ok, RoundOk, Bool.false_eq_true, Bool.true_eq_false, false_implies, true_implies, and_true, true_and]
        subst hp hpre
        simp [kR, signsL, List.find?, hb] at hk
        exact .pure rfl ⟨.inl (by rw [hk.1]), .inl (by rw [hk.2]), trivial⟩
      · exact (inR64 _).2 (by simp [std])
      · refine ⟨5, ⟨by omega, by omega, ?_⟩, by omega, [], _, rfl, ?_⟩
        · rw [hk]
          simp only [kR, signsL, Int.reduceToNat, List.drop_succ_cons, List.drop_zero, List.find?_cons, hb]
        · simp [AllEq, lk, std]
    · generalize hp : std = p
      generalize hpre : preF = pre
      generalize hT : aexec p tys (csPre pre) _ _ _ _ = T
      cbv at hT
      subst hT
      simp only [Tree.ok, RoundOk, Bool.false_eq_true, Bool.true_eq_false, false_implies, true_implies, and_true, true_and]
      subst hp hpre
      repeat' first
        | (with_reducible refine And.intro (fun hx => absurd hx (by (first | (simp [std, allP, AV.cells, intOf, booOf, lstOf, hk]; done) | (simp [std, allP, AV.cells, intOf, booOf, lstOf, hk]; omega) | (refine (inR64 _).2 ?_; (try simp [std, AV.cells, intOf, booOf, lstOf, hk]); omega) | (refine (inR32 _).2 ?_; (try simp [std, AV.cells, intOf, booOf, lstOf, hk]); omega) | omega))) (fun _ => ?_))
        | (with_reducible refine And.intro (fun _ => ?_) (fun hx => absurd hx (by (first | (simp [std, allP, AV.cells, intOf, booOf, lstOf, hk]; done) | (simp [std, allP, AV.cells, intOf, booOf, lstOf, hk]; omega) | (refine (inR64 _).2 ?_; (try simp [std, AV.cells, intOf, booOf, lstOf, hk]); omega) | (refine (inR32 _).2 ?_; (try simp [std, AV.cells, intOf, booOf, lstOf, hk]); omega) | omega))))
        | (with_reducible refine And.intro (by (first | (simp [std, allP, AV.cells, intOf, booOf, lstOf, hk]; done) | (simp [std, allP, AV.cells, intOf, booOf, lstOf, hk]; omega) | (refine (inR64 _).2 ?_; (try simp [std, AV.cells, intOf, booOf, lstOf, hk]); omega) | (refine (inR32 _).2 ?_; (try simp [std, AV.cells, intOf, booOf, lstOf, hk]); omega) | omega)) ?_)
        | (with_reducible refine And.intro ?_ ?_)
        | (with_reducible intro hb)
      rw [if_pos trivial]
      generalize hp : std = p
      generalize hpre : preF = pre
      generalize hT : aexec p tys (csPre pre) _ _ _ _ = T
      cbv at hT
      subst hT
      simp only [Tree.ok, RoundOk, Bool.false_eq_true, Bool.true_eq_false, false_implies, true_implies, and_true, true_and]
      subst hp hpre
      simp [kR, signsL] at hk
      exact .pure rfl ⟨.inl (by rw [hk.1]), .inl (by rw [hk.2]), trivial⟩
end Go.Proofs.Ytblafdmmebiagaa
namespace Go.Proofs.Ytblafdmmebiagaa
open Go.RowKit Go.Lib
section
variable {w : World} {g : Gh} {v : Value}
theorem runes_rd {l : List Int} (h : ARel1 w g [] v (.slc 1 (runesA l))) (M : Mem w g []) : ∃ A c, v = .slice A l.length c ∧ Rd w (fun _ => True) 1 A l.length c (rc l) := by
  obtain ⟨A, c, ys, h1, h2, h3⟩ := argRd h M
  have e : runesA l = (rc l).map .val := by simp [runesA, rc, runeA]
  rw [e, flatVals] at h3
  obtain rfl := alikeVals h3
  rw [runes_len] at h1 h2
  exact ⟨A, c, h1, h2⟩
theorem bytes_rd {l : List UInt8} (h : ARel1 w g [] v (.slc 1 (bytesA l))) (M : Mem w g []) : ∃ A c, v = .slice A l.length c ∧ Rd w (fun _ => True) 1 A l.length c (bc l) := by
  obtain ⟨A, c, ys, h1, h2, h3⟩ := argRd h M
  have e : bytesA l = (bc l).map .val := by simp [bytesA, bc, byteA]
  rw [e, flatVals] at h3
  obtain rfl := alikeVals h3
  rw [bytes_len] at h1 h2
  exact ⟨A, c, h1, h2⟩
end
theorem Run_b (l : List Int) (from_ : Int) (p : Int → Bool) (f : Nat) (ef : ∀ args w, (callFunc f args).run Try.prog w = .ok (.enter f args) w) (hp : ∀ w, PredOk Try.prog f #[] p w) :
    BCall Try.prog 81 [.slc 1 (runesA l), .val (.int .i64 from_), .val (.func (.func f) #[] #[])] [] (.val (.int .i64 (runF p l from_))) [] := by
  refine BCall.hand (enters_of Try.func81 (by kernel_rfl) rfl) fun w g vs M hL => ?_
  obtain ⟨v1, vs1, rfl, h1, hL⟩ := argsCons hL
  obtain ⟨v2, vs2, rfl, h2, hL⟩ := argsCons hL
  obtain ⟨v3, vs3, rfl, h3, hL⟩ := argsCons hL
  obtain rfl := argsNil hL
  obtain ⟨A, c, rfl, hr⟩ := runes_rd h1 M
  obtain rfl := argVal h2
  obtain rfl := argVal h3
  exact (Run_any _ A _ c l from_ f #[] p w ef hr (hp w)).mono fun e w' ⟨h, hb⟩ => ⟨_, h, hb, PRel.val _ rfl⟩
theorem Lead_b (l : List Int) (k : Int) (h0 : 0 ≤ k) (hk : k ≤ 1000000000) : BCall Try.prog 86 [.slc 1 (runesA l), .val (.int .i64 k)] [] (.val (.int .i64 (leadF l k.toNat))) [] := by
  refine BCall.hand (enters_of Try.func86 (by kernel_rfl) rfl) fun w g vs M hL => ?_
  obtain ⟨v1, vs1, rfl, h1, hL⟩ := argsCons hL
  obtain ⟨v2, vs2, rfl, h2, hL⟩ := argsCons hL
  obtain rfl := argsNil hL
  obtain ⟨A, c, rfl, hr⟩ := runes_rd h1 M
  obtain rfl := argVal h2
  have := NLead_any _ A _ c l k.toNat w hr (by omega)
  rw [Int.toNat_of_nonneg h0] at this
  exact this.mono fun e w' ⟨h, hb⟩ => ⟨_, h, hb, PRel.val _ rfl⟩
theorem Starts_b (l : List Int) (hl : l.length ≤ 1000000000) (k : Int) (h0 : 0 ≤ k) (hk : k ≤ l.length) (s : ByteArray) (hs : s.size ≤ 1000000000) : BCall Try.prog 88 [.slc 1 (runesA l), .val (.int .i64 k), .val (.string s)] [] (.val (.bool (startsF l k.toNat s.data.toList))) [] := by
  refine BCall.hand (enters_of Try.func88 (by kernel_rfl) rfl) fun w g vs M hL => ?_
  obtain ⟨v1, vs1, rfl, h1, hL⟩ := argsCons hL
  obtain ⟨v2, vs2, rfl, h2, hL⟩ := argsCons hL
  obtain ⟨v3, vs3, rfl, h3, hL⟩ := argsCons hL
  obtain rfl := argsNil hL
  obtain ⟨A, c, rfl, hr⟩ := runes_rd h1 M
  obtain rfl := argVal h2
  obtain rfl := argVal h3
  have := Starts_any _ A _ c l k.toNat s w hr (by omega) hl hs
  rw [Int.toNat_of_nonneg h0] at this
  exact this.mono fun e w' ⟨h, hb⟩ => ⟨_, h, hb, PRel.val _ rfl⟩
structure Tok where
  kind : Int
  from_ : Int
  to : Int
  whole : Bool
  deriving Inhabited
def Tok.av (t : Tok) : AV := .agg [.val (.int .i64 t.kind), .val (.int .i64 t.from_), .val (.int .i64 t.to), .val (.bool t.whole)]
def tokAt (l : List Int) (k : Nat) : Tok := ⟨(nextTF l k).1, k, (nextTF l k).2.1, (nextTF l k).2.2⟩
theorem Next_b (l : List Int) (hl : l.length ≤ 1000000000) (k : Int) (h0 : 0 ≤ k) (hk : k < l.length) : BCall Try.prog 67 [.slc 1 (runesA l), .val (.int .i64 k)] [] (.tup [(tokAt l k.toNat).av, .val (.bool true)]) [] := by
  refine BCall.hand (enters_of Try.func67 (by kernel_rfl) rfl) fun w g vs M hL => ?_
  obtain ⟨v1, vs1, rfl, h1, hL⟩ := argsCons hL
  obtain ⟨v2, vs2, rfl, h2, hL⟩ := argsCons hL
  obtain rfl := argsNil hL
  obtain ⟨A, c, rfl, hr⟩ := runes_rd h1 M
  obtain rfl := argVal h2
  have := NextT_any _ A _ c l k.toNat w hr (by omega) hl
  rw [Int.toNat_of_nonneg h0] at this
  refine this.mono fun e w' ⟨h, hb⟩ => ⟨_, h, hb, _, rfl, rfl, fun j y u hy hu => ?_⟩
  match j, hy, hu with
  | 0, hy, hu =>
    obtain rfl : tokV (nextTF l k.toNat) k.toNat = y := by simpa using hy
    obtain rfl : (tokAt l k.toNat).av = u := by simpa using hu
    refine ⟨_, rfl, rfl, fun i y u hy hu => ?_⟩
    match i, hy, hu with
    | 0, hy, hu => cases hy; cases hu; exact ⟨PRel.val _ rfl, rfl⟩
    | 1, hy, hu => cases hy; cases hu; exact ⟨PRel.val _ rfl, rfl⟩
    | 2, hy, hu => cases hy; cases hu; exact ⟨PRel.val _ rfl, rfl⟩
    | 3, hy, hu => cases hy; cases hu; exact ⟨PRel.val _ rfl, rfl⟩
    | i + 4, hy, hu => simp at hy
  | 1, hy, hu =>
    obtain rfl : Value.bool true = y := by simpa using hy
    obtain rfl : AV.val (.bool true) = u := by simpa using hu
    exact PRel.val _ rfl
  | j + 2, hy, hu => simp at hy
set_option maxRecDepth 20000 in
theorem NextEnd_b (l : List Int) (k : Int) (h0 : 0 ≤ k) (hk : (l.length : Int) ≤ k) : BCall Try.prog 67 [.slc 1 (runesA l), .val (.int .i64 k)] [] (.tup [.agg [.val (.int .i64 0), .val (.int .i64 0), .val (.int .i64 0), .val (.bool false)], .val (.bool false)]) [] := by
  obtain ⟨n, hn⟩ := exLen l
  have hk' : n ≤ k := by rw [hn.eq]; exact hk
  refine bcall_of (cs := cs0) (ord := fun _ => .nil) tyOk (by kernel_rfl) Try.func67 rfl (enters_of Try.func67 (by kernel_rfl) rfl) (Nat.le_of_ble_eq_true rfl) (by kernel_rfl) (by kernel_rfl) ?_
  intro w0 g0
  generalize hp : std = p
  generalize hrs : runesA l = rs
  generalize hT : aexec p tys (cs0) _ _ _ _ = T
  cbv at hT
  subst hT
  simp only [Tree.ok, RoundOk, Bool.false_eq_true, Bool.true_eq_false, false_implies, true_implies, and_true, true_and]
  subst hp hrs
  have en := hn.eq
  have hrl := runes_len l
  repeat' first
    | (with_reducible refine And.intro (fun hx => absurd hx (by (first | (simp [std, allP, AV.cells, intOf, booOf, lstOf, hrl, h0]; done) | (simp [std, allP, AV.cells, intOf, booOf, lstOf, hrl, h0]; omega) | (refine (inR64 _).2 ?_; (try simp [std, AV.cells, intOf, booOf, lstOf, hrl, h0]); omega) | (refine (inR32 _).2 ?_; (try simp [std, AV.cells, intOf, booOf, lstOf, hrl, h0]); omega) | omega))) (fun _ => ?_))
    | (with_reducible refine And.intro (fun _ => ?_) (fun hx => absurd hx (by (first | (simp [std, allP, AV.cells, intOf, booOf, lstOf, hrl, h0]; done) | (simp [std, allP, AV.cells, intOf, booOf, lstOf, hrl, h0]; omega) | (refine (inR64 _).2 ?_; (try simp [std, AV.cells, intOf, booOf, lstOf, hrl, h0]); omega) | (refine (inR32 _).2 ?_; (try simp [std, AV.cells, intOf, booOf, lstOf, hrl, h0]); omega) | omega))))
    | (with_reducible refine And.intro (by (first | (simp [std, allP, AV.cells, intOf, booOf, lstOf, hrl, h0]; done) | (simp [std, allP, AV.cells, intOf, booOf, lstOf, hrl, h0]; omega) | (refine (inR64 _).2 ?_; (try simp [std, AV.cells, intOf, booOf, lstOf, hrl, h0]); omega) | (refine (inR32 _).2 ?_; (try simp [std, AV.cells, intOf, booOf, lstOf, hrl, h0]); omega) | omega)) ?_)
    | (with_reducible refine And.intro ?_ ?_)
    | (with_reducible intro hb)
  exact .pure rfl ⟨⟨.inl rfl, .inl rfl, .inl rfl, .inl rfl, trivial⟩, .inl rfl, trivial⟩
end Go.Proofs.Ytblafdmmebiagaa
namespace Go.Proofs.Ytblafdmmebiagaa
open Go.RowKit Go.Lib
section
variable {w w' : World} {A' : Nat → Nat → Prop}
theorem vals_alike {us : List Value} (h : ∀ u ∈ us, u.oneCell' = true) : Alike w A' us (us.map .val) := by
  refine ⟨by simp, fun j y u hy hu => ?_⟩
  rw [List.getElem?_map, hy] at hu
  obtain rfl : AV.val y = u := by simpa using hu
  exact PRel.val _ (h y (List.mem_of_getElem? hy))
theorem own_slc {base e sz n : Nat} {v : Value} {ys : List Value} {xs : List AV} (h : w'.ownsRow base e sz v n ys) (hsz : 0 < sz) (hal : Alike w' A' ys (flatA xs)) (hn : n = xs.length) (hw : ∀ x ∈ xs, x.cells.length = sz)
    (hA : ∀ b o, base ≤ b → b < w'.heap.size → A' b o) : PRel w' A' v (.slc sz xs) := by
  obtain ⟨A, c, rfl, hr⟩ := own_form h
  refine rd_slc (S := fun b => base ≤ b ∧ b < w'.heap.size) ⟨hr.len, hr.le, hr.max, hr.nil, fun hp => ?_⟩ (fun b o hb => hA b o hb.1 hb.2) hn hw (fun a ha => ?_) hal
  · obtain ⟨b, o, h1, h2, h3⟩ := hr.at_ hp
    have hlen : 0 < ys.length := by rw [hr.len]; exact Nat.mul_pos hp hsz
    have := h3 0 ys[0] (List.getElem?_eq_getElem hlen)
    exact ⟨b, o, h1, ⟨h2, World.block_lt_of_cell? w' _ this⟩, h3⟩
  · rcases h.2 with ⟨h1, _⟩ | ⟨b, cap, cur, h1, _⟩
    · cases h1; cases ha
    · cases h1; cases ha; exact ⟨b, 0, rfl⟩
end
def itmOf (x : Int × Nat × Nat) : Itm := ⟨x.1, x.2.1, x.2.2⟩
def eightF (b : List UInt8) : List Itm := (itemsF b).map itmOf
theorem items_flat (l : List (Int × Nat × Nat)) : flatA (itmsA (l.map itmOf)) = (itemCells l).map .val := by
  induction l with
  | nil => rfl
  | cons x r ih => simp only [itmsA, List.map_cons, flatA, List.flatMap_cons, itemCells, List.map_append] at ih ⊢; rw [ih]; rfl
theorem Items_b (b : List UInt8) (hb : b.length ≤ 100000000) : BCall Try.prog 65 [.slc 1 (bytesA b)] [] (.slc 3 (itmsA (eightF b))) [] := by
  refine BCall.hand (enters_of Try.func65 (by kernel_rfl) rfl) fun w g vs M hL => ?_
  obtain ⟨v1, vs1, rfl, h1, hL⟩ := argsCons hL
  obtain rfl := argsNil hL
  obtain ⟨A, c, rfl, hr⟩ := bytes_rd h1 M
  refine (Items_any _ A _ c b w hr (by omega)).mono fun e w' ⟨v, h, ⟨n', ho⟩, hbel⟩ => ⟨v, h, hbel, ?_⟩
  have hn : n' = (itmsA (eightF b)).length := by
    have := ho.1
    rw [itemCells_len] at this
    rw [itms_len, eightF, List.length_map]; omega
  refine own_slc (A' := (g.imm w w').A) ho (by decide) ?_ hn (fun x hx => ?_) (fun b o h1 h2 => .inr ⟨h1, h2⟩)
  · rw [eightF, items_flat]
    refine vals_alike fun u hu => ?_
    obtain ⟨x, _, hx⟩ := List.mem_flatMap.1 hu
    simp only [List.mem_cons, List.not_mem_nil, or_false] at hx
    rcases hx with rfl | rfl | rfl <;> rfl
  · obtain ⟨y, _, rfl⟩ := List.mem_map.1 hx
    rfl
def pcsF (kind : Int) (b : List UInt8) : List Itm := if kind = 0 then eightF b else if kind = 1 then wideF true 0 b else if kind = 2 then wideF false 0 b else []
def csPi (f8 : List AV → List AV) (fw : Bool → List AV → List AV) : Nat → List AV → List Ob → Option (AV × List Ob) := fun f args _ => match f, args with
  | 65, [.slc 1 xs] => some (.slc 3 (f8 xs), [])
  | 66, [.slc 1 xs, .val (.bool b)] => some (.slc 3 (fw b xs), [])
  | _, _ => none
def f8A (xs : List AV) : List AV := itmsA (eightF (xs.map byteOf))
def fwA (big : Bool) (xs : List AV) : List AV := itmsA (wideF big 0 (xs.map byteOf))
set_option maxRecDepth 20000 in
theorem Pieces_b (kind : Int) (b : List UInt8) (hb : b.length ≤ 100000000) : BCall Try.prog 46 [.val (.int .i64 kind), .slc 1 (bytesA b)] [] (.slc 3 (itmsA (pcsF kind b))) [] := by
  have hf8 : f8A (bytesA b) = itmsA (eightF b) := by rw [f8A, bytes_back]
  have hfw : ∀ big, fwA big (bytesA b) = itmsA (wideF big 0 b) := fun big => by rw [fwA, bytes_back]
  have c8 : BCall Try.prog 65 [.slc 1 (bytesA b)] [] (.slc 3 (f8A (bytesA b))) [] := by rw [hf8]; exact Items_b b hb
  have cw : ∀ big, BCall Try.prog 66 [.slc 1 (bytesA b), .val (.bool big)] [] (.slc 3 (fwA big (bytesA b))) [] := fun big => by rw [hfw]; exact WItems_b big b (by omega)
  refine bcall_of (cs := csPi f8A fwA) (ord := fun _ => .nil) tyOk (by kernel_rfl) Try.func46 rfl (enters_of Try.func46 (by kernel_rfl) rfl) (Nat.le_of_ble_eq_true rfl) (by kernel_rfl) (by kernel_rfl) ?_
  intro w0 g0
  generalize hp : std = p
  generalize hf8 : f8A = f8
  generalize hfw : fwA = fw
  generalize hbs : bytesA b = bs
  generalize hT : aexec p tys (csPi f8 fw) _ _ _ _ = T
  cbv at hT
  subst hT
  simp only [Tree.ok, RoundOk, Bool.false_eq_true, Bool.true_eq_false, false_implies, true_implies, and_true, true_and]
  subst hp hf8 hfw hbs
  refine ⟨fun h => ⟨c8, .pure rfl (.inl ?_)⟩, fun h => ⟨fun h1 => ⟨cw _, .pure rfl (.inl ?_)⟩, fun h1 => ⟨fun h2 => ⟨cw _, .pure rfl (.inl ?_)⟩, fun h2 => .pure rfl (.inr (.inl ⟨rfl, 3, ?_⟩))⟩⟩⟩
  · have h : kind = 0 := by simpa [std] using h
    rw [pcsF, if_pos h, hf8]
  · have h : ¬ kind = 0 := by simpa [std] using h
    have h1' : kind = 1 := by simpa [std] using h1
    have h1 : std.eqI kind 1 = true := h1
    show AV.slc 3 (fwA (std.eqI kind 1) (bytesA b)) = _
    rw [pcsF, if_neg h, if_pos h1', h1, hfw]
  · have h : ¬ kind = 0 := by simpa [std] using h
    have h1' : ¬ kind = 1 := by simpa [std] using h1
    have h2 : kind = 2 := by simpa [std] using h2
    have h1 : std.eqI kind 1 = false := h1
    show AV.slc 3 (fwA (std.eqI kind 1) (bytesA b)) = _
    rw [pcsF, if_neg h, if_neg h1', if_pos h2, h1, hfw]
  · have h : ¬ kind = 0 := by simpa [std] using h
    have h1 : ¬ kind = 1 := by simpa [std] using h1
    have h2 : ¬ kind = 2 := by simpa [std] using h2
    rw [pcsF, if_neg h, if_neg h1, if_neg h2]; rfl
structure Txt where
  kind : Int
  bom : Int
  r : List Int
  off : List Int
  deriving Inhabited
def Txt.cs (t : Txt) : List AV := [.val (.int .i64 t.kind), .val (.int .i64 t.bom), .slc 1 (runesA t.r), .slc 1 (intsA t.off)]
def textI (b : List UInt8) : List Itm := pcsF (kindF b).1 (b.drop (kindF b).2.toNat)
def textF' (b : List UInt8) : Txt := ⟨(kindF b).1, (kindF b).2, (textI b).map Itm.r, (textI b).map (fun x => x.off + (kindF b).2) ++ [(b.length : Int)]⟩
theorem kind_bom (b : List UInt8) : 0 ≤ (kindF b).2 ∧ (kindF b).2 ≤ b.length := by
  have key : ∀ (x : List UInt8 × Int × Int), x ∈ signsL → x.1.isPrefixOf b = true → 0 ≤ x.2.2 ∧ x.2.2 ≤ b.length := by
    intro x hx hp
    have := (List.isPrefixOf_iff_prefix.1 hp).length_le
    simp only [signsL, List.mem_cons, List.not_mem_nil, or_false] at hx
    rcases hx with rfl | rfl | rfl | rfl | rfl <;> simp at this ⊢ <;> omega
  unfold kindF kR
  split
  · rename_i x hx
    have h1 := List.find?_some hx
    have h2 := List.mem_of_find?_eq_some hx
    exact key x (by simpa using h2) h1
  · simp only; omega
def csD (k bom : Int) (pc : Int → List AV → List AV) : Nat → List AV → List Ob → Option (AV × List Ob) := fun f args _ => match f, args with
  | 45, _ => some (.tup [.val (.int .i64 k), .val (.int .i64 bom)], [])
  | 46, [.val (.int .i64 k), .slc 1 xs] => some (.slc 3 (pc k xs), [])
  | _, _ => none
def pcA (k : Int) (xs : List AV) : List AV := itmsA (pcsF k (xs.map byteOf))
set_option maxRecDepth 20000 in
set_option maxHeartbeats 2000000 in
theorem Decode_b (b : List UInt8) (hb : b.length ≤ 1000000) (hps : (textI b).length ≤ 1000000) (hoff : ∀ x ∈ textI b, 0 ≤ x.off ∧ x.off ≤ 1000000) :
    BCall Try.prog 26 [.slc 1 (bytesA b)] [] (.agg (textF' b).cs) [] := by
  have hkb := kind_bom b
  have cK := Kind3_b b
  obtain ⟨k, hk⟩ : ∃ k, k = (kindF b).1 := ⟨_, rfl⟩
  obtain ⟨bom, hbom⟩ : ∃ k, k = (kindF b).2 := ⟨_, rfl⟩
  obtain ⟨ps, hpsE⟩ : ∃ ps, ps = textI b := ⟨_, rfl⟩
  have hT : textF' b = ⟨k, bom, ps.map Itm.r, ps.map (fun x => x.off + bom) ++ [(b.length : Int)]⟩ := by rw [hk, hbom, hpsE]; rfl
  have hpb : ps = pcsF k (b.drop bom.toNat) := by rw [hk, hbom, hpsE]; rfl
  rw [hT]
  rw [← hpsE] at hps hoff
  rw [← hk, ← hbom] at cK
  rw [← hbom] at hkb
  clear hT hk hbom hpsE
  have hcut : std.cut (bytesA b) bom (std.len (bytesA b)) = bytesA (b.drop bom.toNat) := by
    show ((bytesA b).drop bom.toNat).take ((bytesA b).length - bom : Int).toNat = _
    rw [bytesA, bytesA, List.map_drop, List.take_of_length_le (by simp; omega)]
  have hpc : pcA k (std.cut (bytesA b) bom (std.len (bytesA b))) = itmsA ps := by rw [hcut, pcA, bytes_back, hpb]
  have cP : BCall Try.prog 46 [.val (.int .i64 k), .slc 1 (std.cut (bytesA b) bom (std.len (bytesA b)))] [] (.slc 3 (pcA k (std.cut (bytesA b) bom (std.len (bytesA b))))) [] := by
    rw [hpc, hcut, hpb]; exact Pieces_b k _ (by rw [List.length_drop]; omega)
  obtain ⟨nb, hnb⟩ := exLen b
  obtain ⟨n, hn⟩ := exLen ps
  have hbn : bom ≤ nb := by rw [hnb.eq]; exact hkb.2
  have hb0 := hkb.1
  clear hkb
  refine bcall_of (cs := csD k bom pcA) (ord := fun id => match id with | 3 => .of [0, 1, 2, 3, 4, 5, 8, 6, 7] | _ => .nil) tyOk (by kernel_rfl) Try.func26 rfl (enters_of Try.func26 (by kernel_rfl) rfl) (Nat.le_of_ble_eq_true rfl) (by kernel_rfl) (by kernel_rfl) ?_
  intro w0 g0
  generalize hp : std = p
  generalize hpc : pcA = pc
  generalize hbs : bytesA b = bs
  generalize hT : aexec p tys (csD k bom pc) _ _ _ _ = T
  cbv at hT
  subst hT
  simp only [Tree.ok, RoundOk, Bool.false_eq_true, Bool.true_eq_false, false_implies, true_implies, and_true, true_and]
  subst hp hpc hbs
  have enb := hnb.eq
  have en := hn.eq
  have hbl := bytes_len b
  refine ⟨cK, ?_, cP, ?_⟩
  · simp only [std, hbl]; omega
  have hnm : std.len (pcA k (std.cut (bytesA b) bom (std.len (bytesA b)))) = n := by rw [hpc]; simp only [std, itms_len]; omega
  refine loop_rule (cs := csD k bom pcA) (ord := fun _ => .nil) tyOk (by kernel_rfl) (by kernel_rfl) (by kernel_rfl) (X := Int) (fun i => ⟨[(0, .slc 1 (bytesA b)), (2, .box 0 0), (3, .box 1 0), (20, .slc 3 (itmsA ps)), (21, .val (.int .i64 n)), (22, .val (.int .i64 i))], [.box [.val (.int .i64 0), .val (.int .i64 0), .val (.slice none 0 0), .val (.slice none 0 0)], .box [.val (.int .i64 k), .val (.int .i64 bom), .row 2 0, .row 3 0], .row 21 1 false 0 (runesA ((ps.take i.toNat).map Itm.r)), .row 3 1 false 0 (intsA ((ps.take i.toNat).map fun x => x.off + bom))]⟩) (fun i => 0 ≤ i ∧ i ≤ n) (fun i => (n - i).toNat) 0 ?_ ?_ ?_
  · omega
  · refine ⟨[some 0, some 1, none, none], _, rfl, ?_⟩
    simp only [Int.toNat_zero, List.take_zero, List.map_nil]
    repeat first
      | exact trivial
      | refine ⟨congrArg (AV.slc 3) hpc, ?_⟩
      | refine ⟨congrArg (fun n => AV.val (.int .i64 n)) hnm, ?_⟩
      | refine ⟨rfl, ?_⟩
  · rintro i ⟨hi0, hin⟩
    have hil := itms_len ps
    rcases Int.lt_or_eq_of_le hin with hlt | heq
    · have hat : (itmsA ps)[i.toNat]?.getD .dead = (ps[i.toNat]?.getD ⟨0, 0, 0⟩).av := getA Itm.av hi0 (by omega) ⟨0, 0, 0⟩
      have hil2 : i.toNat < ps.length := by omega
      have hx := hoff (ps[i.toNat]?.getD ⟨0, 0, 0⟩) (by simp [hil2])
      have ht : ps.take (i + 1).toNat = ps.take i.toNat ++ [ps[i.toNat]?.getD ⟨0, 0, 0⟩] := by
        rw [show (i + 1).toNat = i.toNat + 1 by omega, List.take_add_one]
        simp [hil2]
      have hr1 : runesA ((ps.take (i + 1).toNat).map Itm.r) = runesA ((ps.take i.toNat).map Itm.r) ++ [.val (.int .i32 (ps[i.toNat]?.getD ⟨0, 0, 0⟩).r)] := by
        rw [ht, List.map_append, runes_app]; rfl
      have hr2 : intsA ((ps.take (i + 1).toNat).map fun x => x.off + bom) = intsA ((ps.take i.toNat).map fun x => x.off + bom) ++ [.val (.int .i64 ((ps[i.toNat]?.getD ⟨0, 0, 0⟩).off + bom))] := by
        rw [ht, List.map_append, ints_app]; rfl
      have hl1 : (runesA ((ps.take i.toNat).map Itm.r)).length ≤ 1000000 := by simp [runesA]; omega
      have hl2 : (intsA ((ps.take i.toNat).map fun x => x.off + bom)).length ≤ 1000000 := by simp [intsA]; omega
      obtain ⟨x, hxE⟩ : ∃ x, x = ps[i.toNat]?.getD ⟨0, 0, 0⟩ := ⟨_, rfl⟩
      rw [← hxE] at hat hx hr1 hr2
      obtain ⟨R, hR⟩ : ∃ R, R = runesA ((ps.take i.toNat).map Itm.r) := ⟨_, rfl⟩
      obtain ⟨O, hO⟩ : ∃ O, O = intsA ((ps.take i.toNat).map fun x => x.off + bom) := ⟨_, rfl⟩
      rw [← hR] at hr1 hl1 ⊢
      rw [← hO] at hr2 hl2 ⊢
      clear en enb ht
      generalize hp : std = p
      generalize hpc : pcA = pc
      generalize hbs : bytesA b = bs
      generalize his : itmsA ps = is
      generalize hT : aexec p tys (csD k bom pc) _ _ _ _ = T
      cbv at hT
      subst hT
      simp only [Tree.ok, RoundOk, Bool.false_eq_true, Bool.true_eq_false, false_implies, true_implies, and_true, true_and]
      subst hp hpc hbs his
      have en := hn.eq
      have enb := hnb.eq
      repeat' first
        | (with_reducible refine And.intro (fun hx => absurd hx (by (first | (simp [std, allP, AV.cells, intOf, booOf, lstOf, hat, Itm.av, hil, hlt, hi0]; done) | (simp [std, allP, AV.cells, intOf, booOf, lstOf, hat, Itm.av, hil, hlt, hi0]; omega) | (refine (inR64 _).2 ?_; (try simp [std, AV.cells, intOf, booOf, lstOf, hat, Itm.av, hil, hlt, hi0]); omega) | (refine (inR32 _).2 ?_; (try simp [std, AV.cells, intOf, booOf, lstOf, hat, Itm.av, hil, hlt, hi0]); omega) | omega))) (fun _ => ?_))
        | (with_reducible refine And.intro (fun _ => ?_) (fun hx => absurd hx (by (first | (simp [std, allP, AV.cells, intOf, booOf, lstOf, hat, Itm.av, hil, hlt, hi0]; done) | (simp [std, allP, AV.cells, intOf, booOf, lstOf, hat, Itm.av, hil, hlt, hi0]; omega) | (refine (inR64 _).2 ?_; (try simp [std, AV.cells, intOf, booOf, lstOf, hat, Itm.av, hil, hlt, hi0]); omega) | (refine (inR32 _).2 ?_; (try simp [std, AV.cells, intOf, booOf, lstOf, hat, Itm.av, hil, hlt, hi0]); omega) | omega))))
        | (with_reducible refine And.intro (by (first | (simp [std, allP, AV.cells, intOf, booOf, lstOf, hat, Itm.av, hil, hlt, hi0]; done) | (simp [std, allP, AV.cells, intOf, booOf, lstOf, hat, Itm.av, hil, hlt, hi0]; omega) | (refine (inR64 _).2 ?_; (try simp [std, AV.cells, intOf, booOf, lstOf, hat, Itm.av, hil, hlt, hi0]); omega) | (refine (inR32 _).2 ?_; (try simp [std, AV.cells, intOf, booOf, lstOf, hat, Itm.av, hil, hlt, hi0]); omega) | omega)) ?_)
        | (with_reducible refine And.intro ?_ ?_)
        | (with_reducible intro hb)
      exact ⟨i + 1, ⟨by omega, by omega⟩, by omega, [some 0, some 1, some 2, some 3], _, rfl, by simp [-List.map_take, AllEq, lk, std, hat, hil, Itm.av, AV.cells, intOf, hr1, hr2]⟩
    · have ht : ps.take i.toNat = ps := List.take_of_length_le (by omega)
      rw [ht]
      have hl2 : (intsA (ps.map fun x => x.off + bom)).length ≤ 1000000 := by simp [intsA]; omega
      have hf : intsA (ps.map (fun x => x.off + bom) ++ [(b.length : Int)]) = intsA (ps.map fun x => x.off + bom) ++ [.val (.int .i64 nb)] := by
        rw [ints_app, hnb.eq]; rfl
      have hlb : std.len (bytesA b) = nb := by rw [enb]; simp only [std, hbl]
      obtain ⟨R, hR⟩ : ∃ R, R = runesA (ps.map Itm.r) := ⟨_, rfl⟩
      obtain ⟨O, hO⟩ : ∃ O, O = intsA (ps.map fun x => x.off + bom) := ⟨_, rfl⟩
      rw [← hO] at hl2 hf
      have hcs : (Txt.mk k bom (ps.map Itm.r) (ps.map (fun x => x.off + bom) ++ [(b.length : Int)])).cs = [.val (.int .i64 k), .val (.int .i64 bom), .slc 1 R, .slc 1 (O ++ [.val (.int .i64 nb)])] := by
        rw [Txt.cs, hf, hR]
      rw [hcs, ← hR, ← hO]
      clear en enb ht hcs
      generalize hp : std = p
      generalize hpc : pcA = pc
      generalize hbs : bytesA b = bs
      generalize his : itmsA ps = is
      generalize hT : aexec p tys (csD k bom pc) _ _ _ _ = T
      cbv at hT
      subst hT
      simp only [Tree.ok, RoundOk, Bool.false_eq_true, Bool.true_eq_false, false_implies, true_implies, and_true, true_and]
      subst hp hpc hbs his
      repeat' first
        | (with_reducible refine And.intro (fun hx => absurd hx (by (first | (simp [std, allP, AV.cells, intOf, booOf, lstOf, heq]; done) | (simp [std, allP, AV.cells, intOf, booOf, lstOf, heq]; omega) | (refine (inR64 _).2 ?_; (try simp [std, AV.cells, intOf, booOf, lstOf, heq]); omega) | (refine (inR32 _).2 ?_; (try simp [std, AV.cells, intOf, booOf, lstOf, heq]); omega) | omega))) (fun _ => ?_))
        | (with_reducible refine And.intro (fun _ => ?_) (fun hx => absurd hx (by (first | (simp [std, allP, AV.cells, intOf, booOf, lstOf, heq]; done) | (simp [std, allP, AV.cells, intOf, booOf, lstOf, heq]; omega) | (refine (inR64 _).2 ?_; (try simp [std, AV.cells, intOf, booOf, lstOf, heq]); omega) | (refine (inR32 _).2 ?_; (try simp [std, AV.cells, intOf, booOf, lstOf, heq]); omega) | omega))))
        | (with_reducible refine And.intro (by (first | (simp [std, allP, AV.cells, intOf, booOf, lstOf, heq]; done) | (simp [std, allP, AV.cells, intOf, booOf, lstOf, heq]; omega) | (refine (inR64 _).2 ?_; (try simp [std, AV.cells, intOf, booOf, lstOf, heq]); omega) | (refine (inR32 _).2 ?_; (try simp [std, AV.cells, intOf, booOf, lstOf, heq]); omega) | omega)) ?_)
        | (with_reducible refine And.intro ?_ ?_)
        | (with_reducible intro hb)
      rw [if_pos trivial]
      generalize hp : std = p
      generalize hpc : pcA = pc
      generalize hbs : bytesA b = bs
      generalize his : itmsA ps = is
      generalize hT : aexec p tys (csD k bom pc) _ _ _ _ = T
      cbv at hT
      subst hT
      simp only [Tree.ok, RoundOk, Bool.false_eq_true, Bool.true_eq_false, false_implies, true_implies, and_true, true_and]
      subst hp hpc hbs his
      refine ⟨?_, .pure rfl ?_⟩
      · simp [std]; omega
      · refine ⟨.inl rfl, .inl rfl, .inl rfl, .inl ?_, trivial⟩
        show AV.slc 1 (std.app O [.val (.int .i64 (std.len (bytesA b)))]) = _
        rw [hlb]; rfl
end Go.Proofs.Ytblafdmmebiagaa
namespace Go.Proofs.Ytblafdmmebiagaa
open Go.RowKit Go.Lib
theorem In_b (t : Txt) (a b : Int) (h0 : 0 ≤ a) (h1 : a ≤ b) (h2 : b ≤ t.r.length) : BCall Try.prog 61 [.agg t.cs, .val (.int .i64 a), .val (.int .i64 b)] [] (.val (.bool true)) [] := by
  obtain ⟨n, hn⟩ := exLen t.r
  have h2n : b ≤ n := by rw [hn.eq]; exact h2
  clear h2
  unfold Txt.cs
  obtain ⟨k, hk⟩ : ∃ k, k = t.kind := ⟨_, rfl⟩
  obtain ⟨m, hm⟩ : ∃ k, k = t.bom := ⟨_, rfl⟩
  obtain ⟨R, hR⟩ : ∃ k, k = runesA t.r := ⟨_, rfl⟩
  obtain ⟨O, hO⟩ : ∃ k, k = intsA t.off := ⟨_, rfl⟩
  have hRl : R.length = t.r.length := by rw [hR, runes_len]
  rw [← hk, ← hm, ← hR, ← hO]
  refine bcall_of (cs := cs0) (ord := fun _ => .nil) tyOk (by kernel_rfl) Try.func61 rfl (enters_of Try.func61 (by kernel_rfl) rfl) (Nat.le_of_ble_eq_true rfl) (by kernel_rfl) (by kernel_rfl) ?_
  intro w0 g0
  generalize hp : std = p
  generalize hT : aexec p tys (cs0) _ _ _ _ = T
  cbv at hT
  subst hT
  simp only [Tree.ok, RoundOk, Bool.false_eq_true, Bool.true_eq_false, false_implies, true_implies, and_true, true_and]
  subst hp
  have en := hn.eq
  have hRn : ((R.length : Nat) : Int) = n := by omega
  repeat' first
    | (with_reducible refine And.intro (fun hx => absurd hx (by (first | (simp [std, allP, AV.cells, intOf, booOf, lstOf, hRn, h0, h1, h2n]; done) | (simp [std, allP, AV.cells, intOf, booOf, lstOf, hRn, h0, h1, h2n]; omega) | (refine (inR64 _).2 ?_; (try simp [std, AV.cells, intOf, booOf, lstOf, hRn, h0, h1, h2n]); omega) | (refine (inR32 _).2 ?_; (try simp [std, AV.cells, intOf, booOf, lstOf, hRn, h0, h1, h2n]); omega) | omega))) (fun _ => ?_))
    | (with_reducible refine And.intro (fun _ => ?_) (fun hx => absurd hx (by (first | (simp [std, allP, AV.cells, intOf, booOf, lstOf, hRn, h0, h1, h2n]; done) | (simp [std, allP, AV.cells, intOf, booOf, lstOf, hRn, h0, h1, h2n]; omega) | (refine (inR64 _).2 ?_; (try simp [std, AV.cells, intOf, booOf, lstOf, hRn, h0, h1, h2n]); omega) | (refine (inR32 _).2 ?_; (try simp [std, AV.cells, intOf, booOf, lstOf, hRn, h0, h1, h2n]); omega) | omega))))
    | (with_reducible refine And.intro (by (first | (simp [std, allP, AV.cells, intOf, booOf, lstOf, hRn, h0, h1, h2n]; done) | (simp [std, allP, AV.cells, intOf, booOf, lstOf, hRn, h0, h1, h2n]; omega) | (refine (inR64 _).2 ?_; (try simp [std, AV.cells, intOf, booOf, lstOf, hRn, h0, h1, h2n]); omega) | (refine (inR32 _).2 ?_; (try simp [std, AV.cells, intOf, booOf, lstOf, hRn, h0, h1, h2n]); omega) | omega)) ?_)
    | (with_reducible refine And.intro ?_ ?_)
    | (with_reducible intro hb)
  refine .pure rfl (.inl ?_)
  have : std.leI b (std.len R) = true := by simp only [std, hRn]; exact decide_eq_true h2n
  show AV.val (.bool (std.leI b (std.len R))) = _
  rw [this]
def csSl : Nat → List AV → List Ob → Option (AV × List Ob) := fun f args _ => match f, args with
  | 61, _ => some (.val (.bool true), [])
  | 99, [.slc 1 xs] => some (.slc 1 xs, [])
  | _, _ => none
structure TxtOk (t : Txt) (b : List UInt8) : Prop where
  len : t.off.length = t.r.length + 1
  range : ∀ x ∈ t.off, 0 ≤ x ∧ x ≤ b.length
  last : t.off[t.r.length]?.getD 0 = b.length
  mono : ∀ i j : Nat, i ≤ j → j ≤ t.r.length → t.off[i]?.getD 0 ≤ t.off[j]?.getD 0
def sliceF (t : Txt) (b : List UInt8) (i j : Int) : List UInt8 := (b.drop (t.off[i.toNat]?.getD 0).toNat).take ((t.off[j.toNat]?.getD 0) - (t.off[i.toNat]?.getD 0)).toNat
set_option maxRecDepth 20000 in
set_option maxHeartbeats 1000000 in
theorem Slice_b (t : Txt) (bs : List UInt8) (hbs : bs.length ≤ 1000000) (ok : TxtOk t bs) (hrl : t.r.length ≤ 1000000) (i j : Int) (h0 : 0 ≤ i) (h1 : i ≤ j) (h2 : j ≤ t.r.length) :
    BCall Try.prog 84 [.agg t.cs, .slc 1 (bytesA bs), .val (.int .i64 i), .val (.int .i64 j)] [] (.slc 1 (bytesA (sliceF t bs i j))) [] := by
  have cI := In_b t i j h0 h1 h2
  obtain ⟨lo, hlo⟩ : ∃ x, x = t.off[i.toNat]?.getD 0 := ⟨_, rfl⟩
  obtain ⟨hi, hhi⟩ : ∃ x, x = t.off[j.toNat]?.getD 0 := ⟨_, rfl⟩
  have hol := ok.len
  have olen := ints_len t.off
  have alo := ints_at (l := t.off) (i := i) h0 (by omega)
  have ahi := ints_at (l := t.off) (i := j) (by omega) (by omega)
  have ala := ints_at (l := t.off) (i := (t.r.length : Int)) (by omega) (by omega)
  rw [Int.toNat_natCast, ok.last] at ala
  rw [← hlo] at alo
  rw [← hhi] at ahi
  have hle : lo ≤ hi := by rw [hlo, hhi]; exact ok.mono _ _ (by omega) (by omega)
  have hlo0 : 0 ≤ lo := by
    have h3 : i.toNat < t.off.length := by omega
    have := ok.range (t.off[i.toNat]'h3) (List.getElem_mem h3)
    rw [hlo, List.getElem?_eq_getElem h3]
    exact this.1
  obtain ⟨nb, hnb⟩ := exLen bs
  have hhin : hi ≤ nb := by
    have h3 : j.toNat < t.off.length := by omega
    have := ok.range (t.off[j.toNat]'h3) (List.getElem_mem h3)
    rw [hhi, hnb.eq, List.getElem?_eq_getElem h3]
    exact this.2
  have hcut : std.cut (bytesA bs) lo hi = bytesA (sliceF t bs i j) := by
    show ((bytesA bs).drop lo.toNat).take (hi - lo).toNat = _
    rw [sliceF, ← hlo, ← hhi, bytesA, bytesA, List.map_take, List.map_drop]
  obtain ⟨nr, hnr⟩ := exLen t.r
  have hjn : j ≤ nr := by rw [hnr.eq]; exact h2
  have cC : BCall Try.prog 99 [.slc 1 (std.cut (bytesA bs) lo hi)] [] (.slc 1 (std.cut (bytesA bs) lo hi)) [] := CloneB_b _ (by rw [hcut, bytes_len, sliceF, List.length_take, List.length_drop]; omega)
  rw [← hcut]
  clear hcut ok hlo hhi h2
  unfold Txt.cs at cI ⊢
  obtain ⟨k, hk⟩ : ∃ k, k = t.kind := ⟨_, rfl⟩
  obtain ⟨m, hm⟩ : ∃ k, k = t.bom := ⟨_, rfl⟩
  obtain ⟨R, hR⟩ : ∃ k, k = runesA t.r := ⟨_, rfl⟩
  obtain ⟨O, hO⟩ : ∃ k, k = intsA t.off := ⟨_, rfl⟩
  rw [← hk, ← hm, ← hR, ← hO] at cI ⊢
  rw [← hO] at alo ahi ala olen
  refine bcall_of (cs := csSl) (ord := fun _ => .nil) tyOk (by kernel_rfl) Try.func84 rfl (enters_of Try.func84 (by kernel_rfl) rfl) (Nat.le_of_ble_eq_true rfl) (by kernel_rfl) (by kernel_rfl) ?_
  intro w0 g0
  generalize hp : std = p
  generalize hbb : bytesA bs = bb
  generalize hT : aexec p tys (csSl) _ _ _ _ = T
  cbv at hT
  subst hT
  simp only [Tree.ok, RoundOk, Bool.false_eq_true, Bool.true_eq_false, false_implies, true_implies, and_true, true_and]
  subst hp hbb
  have enb := hnb.eq
  have enr := hnr.eq
  have hbl := bytes_len bs
  have hON : ((O.length : Nat) : Int) = nr + 1 := by omega
  have hON2 : ((O.length : Nat) : Int) - 1 = nr := by omega
  have ala : O[nr.toNat]?.getD .dead = .val (.int .i64 nb) := by rw [show nr.toNat = t.r.length by omega, enb]; exact ala
  have hbn : (((bytesA bs).length : Nat) : Int) = nb := by omega
  have hl' : std.int (std.nth (std.cel (std.at_ O i)) 0) = lo := by simp [std, alo, AV.cells, intOf]
  have hh' : std.int (std.nth (std.cel (std.at_ O j)) 0) = hi := by simp [std, ahi, AV.cells, intOf]
  repeat' first
    | (with_reducible refine And.intro (fun hx => absurd hx (by (first | (simp [std, allP, AV.cells, intOf, booOf, lstOf, cI, alo, ahi, ala, hON, hON2, hbn, hlo0, hle, hhin]; done) | (simp [std, allP, AV.cells, intOf, booOf, lstOf, cI, alo, ahi, ala, hON, hON2, hbn, hlo0, hle, hhin]; omega) | (refine (inR64 _).2 ?_; (try simp [std, AV.cells, intOf, booOf, lstOf, cI, alo, ahi, ala, hON, hON2, hbn, hlo0, hle, hhin]); omega) | (refine (inR32 _).2 ?_; (try simp [std, AV.cells, intOf, booOf, lstOf, cI, alo, ahi, ala, hON, hON2, hbn, hlo0, hle, hhin]); omega) | omega))) (fun _ => ?_))
    | (with_reducible refine And.intro (fun _ => ?_) (fun hx => absurd hx (by (first | (simp [std, allP, AV.cells, intOf, booOf, lstOf, cI, alo, ahi, ala, hON, hON2, hbn, hlo0, hle, hhin]; done) | (simp [std, allP, AV.cells, intOf, booOf, lstOf, cI, alo, ahi, ala, hON, hON2, hbn, hlo0, hle, hhin]; omega) | (refine (inR64 _).2 ?_; (try simp [std, AV.cells, intOf, booOf, lstOf, cI, alo, ahi, ala, hON, hON2, hbn, hlo0, hle, hhin]); omega) | (refine (inR32 _).2 ?_; (try simp [std, AV.cells, intOf, booOf, lstOf, cI, alo, ahi, ala, hON, hON2, hbn, hlo0, hle, hhin]); omega) | omega))))
    | (with_reducible refine And.intro (by (first | (simp [std, allP, AV.cells, intOf, booOf, lstOf, cI, alo, ahi, ala, hON, hON2, hbn, hlo0, hle, hhin]; done) | (simp [std, allP, AV.cells, intOf, booOf, lstOf, cI, alo, ahi, ala, hON, hON2, hbn, hlo0, hle, hhin]; omega) | (refine (inR64 _).2 ?_; (try simp [std, AV.cells, intOf, booOf, lstOf, cI, alo, ahi, ala, hON, hON2, hbn, hlo0, hle, hhin]); omega) | (refine (inR32 _).2 ?_; (try simp [std, AV.cells, intOf, booOf, lstOf, cI, alo, ahi, ala, hON, hON2, hbn, hlo0, hle, hhin]); omega) | omega)) ?_)
    | (with_reducible refine And.intro ?_ ?_)
    | (with_reducible intro hb)
  · show BCall _ _ [.slc 1 (std.cut (bytesA bs) (std.int (std.nth (std.cel (std.at_ O i)) 0)) (std.int (std.nth (std.cel (std.at_ O j)) 0)))] [] (.slc 1 (std.cut (bytesA bs) (std.int (std.nth (std.cel (std.at_ O i)) 0)) (std.int (std.nth (std.cel (std.at_ O j)) 0)))) []
    rw [hl', hh']; exact cC
  · refine .pure rfl (.inl ?_)
    show AV.slc 1 (std.cut (bytesA bs) (std.int (std.nth (std.cel (std.at_ O i)) 0)) (std.int (std.nth (std.cel (std.at_ O j)) 0))) = _
    rw [hl', hh']
set_option maxRecDepth 20000 in
set_option maxHeartbeats 1000000 in
theorem Equal_b (x y : List Int) (hx : x.length ≤ 1000000000) (hy : y.length ≤ 1000000000) : BCall Try.prog 83 [.slc 1 (runesA x), .slc 1 (runesA y)] [] (.val (.bool (decide (x = y)))) [] := by
  obtain ⟨n, hn⟩ := exLen x
  obtain ⟨m, hm⟩ := exLen y
  obtain ⟨e, he⟩ : ∃ e, e = decide (x = y) := ⟨_, rfl⟩
  rw [← he]
  have hxl := runes_len x
  have hyl := runes_len y
  refine bcall_of (cs := cs0) (ord := fun _ => .nil) tyOk (by kernel_rfl) Try.func83 rfl (enters_of Try.func83 (by kernel_rfl) rfl) (Nat.le_of_ble_eq_true rfl) (by kernel_rfl) (by kernel_rfl) ?_
  intro w0 g0
  generalize hp : std = p
  generalize hrx : runesA x = rx
  generalize hry : runesA y = ry
  generalize hT : aexec p tys (cs0) _ _ _ _ = T
  cbv at hT
  subst hT
  simp only [Tree.ok, RoundOk, Bool.false_eq_true, Bool.true_eq_false, false_implies, true_implies, and_true, true_and]
  subst hp hrx hry
  have en := hn.eq
  have em := hm.eq
  have hxn : (((runesA x).length : Nat) : Int) = n := by omega
  have hyn : (((runesA y).length : Nat) : Int) = m := by omega
  refine ⟨fun h => ?_, fun h => ?_⟩
  · have h : ¬ n = m := by simpa [std, hxn, hyn] using h
    refine .pure rfl (.inl ?_)
    rw [he, decide_eq_false (fun h2 => h (by rw [en, em, h2]))]
  · have h : n = m := by simpa [std, hxn, hyn] using h
    refine loop_rule (cs := cs0) (ord := fun _ => .nil) tyOk (by kernel_rfl) (by kernel_rfl) (by kernel_rfl) (X := Int) (fun i => ⟨[(0, .slc 1 (runesA x)), (1, .slc 1 (runesA y)), (12, .val (.int .i64 n)), (13, .val (.int .i64 i))], []⟩) (fun i => 0 ≤ i ∧ i ≤ n ∧ ∀ j : Nat, (j : Int) < i → x[j]?.getD 0 = y[j]?.getD 0) (fun i => (n - i).toNat) 0 ?_ ?_ ?_
    · exact ⟨by omega, by omega, fun j hj => by omega⟩
    · exact ⟨[], _, rfl, by simp [AllEq, lk, std, hxn]⟩
    · rintro i ⟨hi0, hin, hi⟩
      have hi' : ∀ j : Nat, j < i.toNat → x[j]?.getD 0 = y[j]?.getD 0 := fun j hj => hi j (by omega)
      clear hi
      rcases Int.lt_or_eq_of_le hin with hlt | heq
      · have ax := runes_at (l := x) hi0 (by omega)
        have ay := runes_at (l := y) hi0 (by omega)
        have hltm : i < m := by omega
        clear en em h hxn hyn
        generalize hp : std = p
        generalize hrx : runesA x = rx
        generalize hry : runesA y = ry
        generalize hT : aexec p tys (cs0) _ _ _ _ = T
        cbv at hT
        subst hT
        simp only [Tree.ok, RoundOk, Bool.false_eq_true, Bool.true_eq_false, false_implies, true_implies, and_true, true_and]
        subst hp hrx hry
        have en := hn.eq
        have em := hm.eq
        have hxn : (((runesA x).length : Nat) : Int) = n := by omega
        have hyn : (((runesA y).length : Nat) : Int) = m := by omega
        repeat' first
          | (with_reducible refine And.intro (fun hx => absurd hx (by (first | (simp [std, allP, AV.cells, intOf, booOf, lstOf, ax, ay, hxn, hyn, hlt, hltm, hi0]; done) | (simp [std, allP, AV.cells, intOf, booOf, lstOf, ax, ay, hxn, hyn, hlt, hltm, hi0]; omega) | (refine (inR64 _).2 ?_; (try simp [std, AV.cells, intOf, booOf, lstOf, ax, ay, hxn, hyn, hlt, hltm, hi0]); omega) | (refine (inR32 _).2 ?_; (try simp [std, AV.cells, intOf, booOf, lstOf, ax, ay, hxn, hyn, hlt, hltm, hi0]); omega) | omega))) (fun _ => ?_))
          | (with_reducible refine And.intro (fun _ => ?_) (fun hx => absurd hx (by (first | (simp [std, allP, AV.cells, intOf, booOf, lstOf, ax, ay, hxn, hyn, hlt, hltm, hi0]; done) | (simp [std, allP, AV.cells, intOf, booOf, lstOf, ax, ay, hxn, hyn, hlt, hltm, hi0]; omega) | (refine (inR64 _).2 ?_; (try simp [std, AV.cells, intOf, booOf, lstOf, ax, ay, hxn, hyn, hlt, hltm, hi0]); omega) | (refine (inR32 _).2 ?_; (try simp [std, AV.cells, intOf, booOf, lstOf, ax, ay, hxn, hyn, hlt, hltm, hi0]); omega) | omega))))
          | (with_reducible refine And.intro (by (first | (simp [std, allP, AV.cells, intOf, booOf, lstOf, ax, ay, hxn, hyn, hlt, hltm, hi0]; done) | (simp [std, allP, AV.cells, intOf, booOf, lstOf, ax, ay, hxn, hyn, hlt, hltm, hi0]; omega) | (refine (inR64 _).2 ?_; (try simp [std, AV.cells, intOf, booOf, lstOf, ax, ay, hxn, hyn, hlt, hltm, hi0]); omega) | (refine (inR32 _).2 ?_; (try simp [std, AV.cells, intOf, booOf, lstOf, ax, ay, hxn, hyn, hlt, hltm, hi0]); omega) | omega)) ?_)
          | (with_reducible refine And.intro ?_ ?_)
          | (with_reducible intro hb)
        · have hne : ¬ x[i.toNat]?.getD 0 = y[i.toNat]?.getD 0 := by simpa [std, ax, ay, AV.cells, intOf] using hb
          generalize hp : std = p
          generalize hrx : runesA x = rx
          generalize hry : runesA y = ry
          generalize hT : endK p tys _ _ _ _ = T
          cbv at hT
          subst hT
          simp only [Tree.ok, RoundOk, Bool.false_eq_true, Bool.true_eq_false, false_implies, true_implies, and_true, true_and]
          subst hp hrx hry
          refine .pure rfl (.inl ?_)
          rw [he, decide_eq_false (fun h2 => hne (by rw [h2]))]
        · have heq : x[i.toNat]?.getD 0 = y[i.toNat]?.getD 0 := by simpa [std, ax, ay, AV.cells, intOf] using hb
          refine ⟨i + 1, ⟨by omega, by omega, fun j hj => ?_⟩, by omega, [], _, rfl, by simp [AllEq, lk, std]⟩
          have hj : (j : Int) < i + 1 := hj
          by_cases hji : j < i.toNat
          · exact hi' j hji
          · obtain rfl : j = i.toNat := by omega
            exact heq
      · have hxy : x = y := by
          refine List.ext_getElem (by omega) fun j h1 h2 => ?_
          have := hi' j (by omega)
          rw [List.getElem?_eq_getElem h1, List.getElem?_eq_getElem h2] at this
          exact this
        clear en em h hxn hyn
        generalize hp : std = p
        generalize hrx : runesA x = rx
        generalize hry : runesA y = ry
        generalize hT : aexec p tys (cs0) _ _ _ _ = T
        cbv at hT
        subst hT
        simp only [Tree.ok, RoundOk, Bool.false_eq_true, Bool.true_eq_false, false_implies, true_implies, and_true, true_and]
        subst hp hrx hry
        repeat' first
          | (with_reducible refine And.intro (fun hx => absurd hx (by (first | (simp [std, allP, AV.cells, intOf, booOf, lstOf, heq]; done) | (simp [std, allP, AV.cells, intOf, booOf, lstOf, heq]; omega) | (refine (inR64 _).2 ?_; (try simp [std, AV.cells, intOf, booOf, lstOf, heq]); omega) | (refine (inR32 _).2 ?_; (try simp [std, AV.cells, intOf, booOf, lstOf, heq]); omega) | omega))) (fun _ => ?_))
          | (with_reducible refine And.intro (fun _ => ?_) (fun hx => absurd hx (by (first | (simp [std, allP, AV.cells, intOf, booOf, lstOf, heq]; done) | (simp [std, allP, AV.cells, intOf, booOf, lstOf, heq]; omega) | (refine (inR64 _).2 ?_; (try simp [std, AV.cells, intOf, booOf, lstOf, heq]); omega) | (refine (inR32 _).2 ?_; (try simp [std, AV.cells, intOf, booOf, lstOf, heq]); omega) | omega))))
          | (with_reducible refine And.intro (by (first | (simp [std, allP, AV.cells, intOf, booOf, lstOf, heq]; done) | (simp [std, allP, AV.cells, intOf, booOf, lstOf, heq]; omega) | (refine (inR64 _).2 ?_; (try simp [std, AV.cells, intOf, booOf, lstOf, heq]); omega) | (refine (inR32 _).2 ?_; (try simp [std, AV.cells, intOf, booOf, lstOf, heq]); omega) | omega)) ?_)
          | (with_reducible refine And.intro ?_ ?_)
          | (with_reducible intro hb)
        rw [if_pos trivial]
        generalize hp : std = p
        generalize hrx : runesA x = rx
        generalize hry : runesA y = ry
        generalize hT : aexec p tys cs0 _ _ _ _ = T
        cbv at hT
        subst hT
        simp only [Tree.ok, RoundOk, Bool.false_eq_true, Bool.true_eq_false, false_implies, true_implies, and_true, true_and]
        subst hp hrx hry
        refine .pure rfl (.inl ?_)
        rw [he, decide_eq_true hxy]
end Go.Proofs.Ytblafdmmebiagaa
