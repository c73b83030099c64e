/-
  Parts of the proof, joined: Sn. Conditions: as each theorem says.
-/
import Derived.Test.YtblafdmmebiagaaQD07
import Derived.Lib.Split
namespace Go.Proofs.Ytblafdmmebiagaa
open Go.RowKit Go.Lib
def preF (s t : ByteArray) : Bool := decide (t.size ≤ s.size) && (s.data.toList.take t.size == t.data.toList)
theorem pre_cut {s t : ByteArray} (h : t.size ≤ s.size) : std.eqS (std.cutS s 0 (std.szS t)) t = preF s t := by
  simp only [std, preF, h, decide_true, Bool.true_and, ByteArray.toList_eq]
  rw [show (0 : Int).toNat = 0 from rfl, Int.toNat_natCast, extract_from_zero]
theorem HP0_b (s t : ByteArray) : BCall Try.prog 76 [.val (.string s), .val (.string t)] [] (.val (.bool (preF s t))) [] := by
  refine bcall_of (cs := cs0) (ord := fun _ => .nil) tyOk (by kernel_rfl) Try.func76 rfl (enters_of Try.func76 (by kernel_rfl) rfl) (Nat.le_of_ble_eq_true rfl) (by kernel_rfl) (by kernel_rfl) ?_
  intro w0 g0
  generalize hp : std = p
  generalize hT : aexec p tys (cs0) _ _ _ _ = T
  cbv at hT
  subst hT
  simp only [Tree.ok, RoundOk, Bool.false_eq_true, Bool.true_eq_false, false_implies, true_implies, and_true, true_and]
  subst hp
  refine ⟨fun h => ⟨?_, .pure rfl (.inl ?_)⟩, fun h => .pure rfl (.inl ?_)⟩
  · have h : t.size ≤ s.size := by simpa [std] using h
    simp [std]; omega
  · have h : t.size ≤ s.size := by simpa [std] using h
    show AV.val (.bool (std.eqS (std.cutS s 0 (std.szS t)) t)) = _
    rw [pre_cut h]
  · have h : ¬ t.size ≤ s.size := by simpa [std] using h
    simp [preF, h]
def csPre (pre : ByteArray → ByteArray → Bool) : Nat → List AV → List Ob → Option (AV × List Ob) := fun f args _ => match f, args with
  | 76, [.val (.string s), .val (.string t)] => some (.val (.bool (pre s t)), [])
  | 64, [.val (.string s), .val (.string t)] => some (.val (.bool (pre s t)), [])
  | _, _ => none
theorem HP_b (s t : ByteArray) : BCall Try.prog 64 [.val (.string s), .val (.string t)] [] (.val (.bool (preF s t))) [] := by
  refine bcall_of (cs := csPre preF) (ord := fun _ => .nil) tyOk (by kernel_rfl) Try.func64 rfl (enters_of Try.func64 (by kernel_rfl) rfl) (Nat.le_of_ble_eq_true rfl) (by kernel_rfl) (by kernel_rfl) ?_
  intro w0 g0
  generalize hp : std = p
  generalize hpre : preF = pre
  generalize hT : aexec p tys (csPre pre) _ _ _ _ = T
  cbv at hT
  subst hT
  simp only [Tree.ok, RoundOk, Bool.false_eq_true, Bool.true_eq_false, false_implies, true_implies, and_true, true_and]
  subst hp hpre
  exact ⟨HP0_b s t, .pure rfl (.inl rfl)⟩
def signsL : List (List UInt8 × Int × Int) := [([254, 255], 1, 2), ([255, 254], 2, 2), ([239, 187, 191], 0, 3), ([0, 60, 0, 63], 1, 0), ([60, 0, 63, 0], 2, 0)]
def kR (pre : List UInt8 → Bool) (k : Nat) : Int × Int := match (signsL.drop k).find? (fun x => pre x.1) with
  | some x => x.2
  | none => (0, 0)
def kindF (b : List UInt8) : Int × Int := kR (fun t => t.isPrefixOf b) 0
theorem bytes_back (l : List UInt8) : (bytesA l).map byteOf = l := by
  induction l with
  | nil => rfl
  | cons x r ih => rw [bytesA, List.map_cons, List.map_cons]; rw [bytesA] at ih; rw [ih]; simp [byteA, byteOf]
theorem isB_bytesA (l : List UInt8) : std.isB (bytesA l) := fun x hx => by
  obtain ⟨n, _, rfl⟩ := List.mem_map.1 hx
  exact ⟨n, rfl⟩
theorem pre_take (b t : List UInt8) (h : t.length ≤ 4) : preF ⟨(b.take 4).toArray⟩ ⟨t.toArray⟩ = t.isPrefixOf b := by
  have e : preF ⟨(b.take 4).toArray⟩ ⟨t.toArray⟩ = (decide (t.length ≤ (b.take 4).length) && ((b.take 4).take t.length == t)) := rfl
  rw [e, Bool.eq_iff_iff, List.isPrefixOf_iff_prefix, List.prefix_iff_eq_take]
  simp only [List.take_take, List.length_take, Bool.and_eq_true, decide_eq_true_eq, beq_iff_eq, Nat.min_eq_left h]
  constructor
  · exact fun h => h.2.symm
  · intro h1
    have : t.length ≤ b.length := by
      have := congrArg List.length h1
      rw [List.length_take] at this
      omega
    exact ⟨by omega, h1.symm⟩
set_option maxRecDepth 20000 in
set_option maxHeartbeats 2000000 in
theorem Kind3_b (b : List UInt8) : BCall Try.prog 45 [.slc 1 (bytesA b)] [] (.tup [.val (.int .i64 (kindF b).1), .val (.int .i64 (kindF b).2)]) [] := by
  refine bcall_of (cs := csPre preF) (ord := fun _ => .nil) tyOk (by kernel_rfl) Try.func45 rfl (enters_of Try.func45 (by kernel_rfl) rfl) (Nat.le_of_ble_eq_true rfl) (by kernel_rfl) (by kernel_rfl) ?_
  intro w0 g0
  generalize hp : std = p
  generalize hpre : preF = pre
  generalize hbs : bytesA b = bs
  generalize hT : aexec p tys (csPre pre) _ _ _ _ = T
  cbv at hT
  subst hT
  simp only [Tree.ok, RoundOk, Bool.false_eq_true, Bool.true_eq_false, false_implies, true_implies, and_true, true_and]
  subst hp hpre hbs
  have hbl := bytes_len b
  have hmin : std.minI (std.len (bytesA b)) 4 = if 4 < (b.length : Int) then 4 else (b.length : Int) := by simp only [std, hbl]
  have hcut : std.cut (bytesA b) 0 (std.minI (std.len (bytesA b)) 4) = bytesA (b.take 4) := by
    rw [hmin]
    show ((bytesA b).drop (0 : Int).toNat).take _ = _
    rw [show (0 : Int).toNat = 0 from rfl, List.drop_zero, bytesA, bytesA, List.map_take]
    split
    · rfl
    · have : b.length ≤ 4 := by omega
      rw [List.take_of_length_le (by simp), List.take_of_length_le (by simpa using this)]
  refine ⟨?_, ?_, ?_⟩
  · simp only [std, hbl]
    split <;> omega
  · show std.isB (std.cut (bytesA b) 0 (std.minI (std.len (bytesA b)) 4))
    rw [hcut]; exact isB_bytesA _
  have hstr : std.strB (std.cut (bytesA b) 0 (std.minI (std.len (bytesA b)) 4)) = ⟨(b.take 4).toArray⟩ := by
    rw [hcut]
    show (⟨((bytesA (b.take 4)).map byteOf).toArray⟩ : ByteArray) = _
    rw [bytes_back]
  obtain ⟨s, hs⟩ : ∃ s : ByteArray, s = ⟨(b.take 4).toArray⟩ := ⟨_, rfl⟩
  have hpre : ∀ t : List UInt8, t.length ≤ 4 → t.isPrefixOf b = preF s ⟨t.toArray⟩ := fun t h => by rw [hs, pre_take b t h]
  have hR : kindF b = kR (fun t => preF s ⟨t.toArray⟩) 0 := by
    simp [kindF, kR, signsL, List.find?, hpre [254, 255] (by decide), hpre [255, 254] (by decide), hpre [239, 187, 191] (by decide), hpre [0, 60, 0, 63] (by decide), hpre [60, 0, 63, 0] (by decide)]
  rw [hR]
  obtain ⟨R, hRE⟩ : ∃ R, R = kR (fun t => preF s ⟨t.toArray⟩) 0 := ⟨_, rfl⟩
  rw [← hRE]
  obtain ⟨R1, R2⟩ := R
  refine loop_rule (cs := csPre preF) (ord := fun _ => .nil) tyOk (by kernel_rfl) (by kernel_rfl) (by kernel_rfl) (X := Int) (fun k => ⟨[(5, .val (.string s)), (20, .agg [.val (.string ⟨#[254, 255]⟩), .val (.int .i64 1), .val (.int .i64 2), .val (.string ⟨#[255, 254]⟩), .val (.int .i64 2), .val (.int .i64 2), .val (.string ⟨#[239, 187, 191]⟩), .val (.int .i64 0), .val (.int .i64 3), .val (.string ⟨#[0, 60, 0, 63]⟩), .val (.int .i64 1), .val (.int .i64 0), .val (.string ⟨#[60, 0, 63, 0]⟩), .val (.int .i64 2), .val (.int .i64 0)]), (21, .val (.int .i64 k))], []⟩) (fun k => 0 ≤ k ∧ k ≤ 5 ∧ (R1, R2) = kR (fun t => preF s ⟨t.toArray⟩) k.toNat) (fun k => (5 - k).toNat) 0 ?_ ?_ ?_
  · exact ⟨by omega, by omega, hRE⟩
  · refine ⟨[], _, rfl, ?_, ?_⟩
    · show AV.val (.string (std.strB (std.cut (bytesA b) 0 (std.minI (std.len (bytesA b)) 4)))) = .val (.string s)
      rw [hstr, ← hs]
    · repeat first | exact trivial | refine ⟨rfl, ?_⟩
  · rintro k ⟨hk0, hk5, hk⟩
    have hcs : k = 0 ∨ k = 1 ∨ k = 2 ∨ k = 3 ∨ k = 4 ∨ k = 5 := by omega
    clear hR hpre hRE hstr hcut hbl hs hmin
    rcases hcs with rfl | rfl | rfl | rfl | rfl | rfl
    · generalize hp : std = p
      generalize hpre : preF = pre
      generalize hT : aexec p tys (csPre pre) _ _ _ _ = T
      cbv at hT
      subst hT
      simp only [Tree.ok, RoundOk, Bool.false_eq_true, Bool.true_eq_false, false_implies, true_implies, and_true, true_and]
      subst hp hpre
      repeat' first
        | (with_reducible refine And.intro (fun hx => absurd hx (by (first | (simp [std, allP, AV.cells, intOf, booOf, lstOf, hk]; done) | (simp [std, allP, AV.cells, intOf, booOf, lstOf, hk]; omega) | (refine (inR64 _).2 ?_; (try simp [std, AV.cells, intOf, booOf, lstOf, hk]); omega) | (refine (inR32 _).2 ?_; (try simp [std, AV.cells, intOf, booOf, lstOf, hk]); omega) | omega))) (fun _ => ?_))
        | (with_reducible refine And.intro (fun _ => ?_) (fun hx => absurd hx (by (first | (simp [std, allP, AV.cells, intOf, booOf, lstOf, hk]; done) | (simp [std, allP, AV.cells, intOf, booOf, lstOf, hk]; omega) | (refine (inR64 _).2 ?_; (try simp [std, AV.cells, intOf, booOf, lstOf, hk]); omega) | (refine (inR32 _).2 ?_; (try simp [std, AV.cells, intOf, booOf, lstOf, hk]); omega) | omega))))
        | (with_reducible refine And.intro (by (first | (simp [std, allP, AV.cells, intOf, booOf, lstOf, hk]; done) | (simp [std, allP, AV.cells, intOf, booOf, lstOf, hk]; omega) | (refine (inR64 _).2 ?_; (try simp [std, AV.cells, intOf, booOf, lstOf, hk]); omega) | (refine (inR32 _).2 ?_; (try simp [std, AV.cells, intOf, booOf, lstOf, hk]); omega) | omega)) ?_)
        | (with_reducible refine And.intro ?_ ?_)
        | (with_reducible intro hb)
      · exact HP_b _ _
      · generalize hp : std = p
        generalize hpre : preF = pre
        generalize hT : endK p tys _ _ _ _ = T
        cbv at hT
        subst hT
        simp only [Tree.ok, RoundOk, Bool.false_eq_true, Bool.true_eq_false, false_implies, true_implies, and_true, true_and]
        subst hp hpre
        simp [kR, signsL, List.find?, hb] at hk
        exact .pure rfl ⟨.inl (by rw [hk.1]), .inl (by rw [hk.2]), trivial⟩
      · exact (inR64 _).2 (by simp [std])
      · refine ⟨1, ⟨by omega, by omega, ?_⟩, by omega, [], _, rfl, ?_⟩
        · rw [hk]
          simp only [kR, signsL, Int.reduceToNat, List.drop_succ_cons, List.drop_zero, List.find?_cons, hb]
        · simp [AllEq, lk, std]
    · generalize hp : std = p
      generalize hpre : preF = pre
      generalize hT : aexec p tys (csPre pre) _ _ _ _ = T
      cbv at hT
      subst hT
      simp only [Tree.ok, RoundOk, Bool.false_eq_true, Bool.true_eq_false, false_implies, true_implies, and_true, true_and]
      subst hp hpre
      repeat' first
        | (with_reducible refine And.intro (fun hx => absurd hx (by (first | (simp [std, allP, AV.cells, intOf, booOf, lstOf, hk]; done) | (simp [std, allP, AV.cells, intOf, booOf, lstOf, hk]; omega) | (refine (inR64 _).2 ?_; (try simp [std, AV.cells, intOf, booOf, lstOf, hk]); omega) | (refine (inR32 _).2 ?_; (try simp [std, AV.cells, intOf, booOf, lstOf, hk]); omega) | omega))) (fun _ => ?_))
        | (with_reducible refine And.intro (fun _ => ?_) (fun hx => absurd hx (by (first | (simp [std, allP, AV.cells, intOf, booOf, lstOf, hk]; done) | (simp [std, allP, AV.cells, intOf, booOf, lstOf, hk]; omega) | (refine (inR64 _).2 ?_; (try simp [std, AV.cells, intOf, booOf, lstOf, hk]); omega) | (refine (inR32 _).2 ?_; (try simp [std, AV.cells, intOf, booOf, lstOf, hk]); omega) | omega))))
        | (with_reducible refine And.intro (by (first | (simp [std, allP, AV.cells, intOf, booOf, lstOf, hk]; done) | (simp [std, allP, AV.cells, intOf, booOf, lstOf, hk]; omega) | (refine (inR64 _).2 ?_; (try simp [std, AV.cells, intOf, booOf, lstOf, hk]); omega) | (refine (inR32 _).2 ?_; (try simp [std, AV.cells, intOf, booOf, lstOf, hk]); omega) | omega)) ?_)
        | (with_reducible refine And.intro ?_ ?_)
        | (with_reducible intro hb)
      · exact HP_b _ _
      · generalize hp : std = p
        generalize hpre : preF = pre
        generalize hT : endK p tys _ _ _ _ = T
        cbv at hT
        subst hT
        simp only [Tree.ok, RoundOk, Bool.false_eq_true, Bool.true_eq_false, false_implies, true_implies, and_true, true_and]
        subst hp hpre
        simp [kR, signsL, List.find?, hb] at hk
        exact .pure rfl ⟨.inl (by rw [hk.1]), .inl (by rw [hk.2]), trivial⟩
      · exact (inR64 _).2 (by simp [std])
      · refine ⟨2, ⟨by omega, by omega, ?_⟩, by omega, [], _, rfl, ?_⟩
        · rw [hk]
          simp only [kR, signsL, Int.reduceToNat, List.drop_succ_cons, List.drop_zero, List.find?_cons, hb]
        · simp [AllEq, lk, std]
    · generalize hp : std = p
      generalize hpre : preF = pre
      generalize hT : aexec p tys (csPre pre) _ _ _ _ = T
      cbv at hT
      subst hT
      simp only [Tree.ok, RoundOk, Bool.false_eq_true, Bool.true_eq_false, false_implies, true_implies, and_true, true_and]
      subst hp hpre
      repeat' first
        | (with_reducible refine And.intro (fun hx => absurd hx (by (first | (simp [std, allP, AV.cells, intOf, booOf, lstOf, hk]; done) | (simp [std, allP, AV.cells, intOf, booOf, lstOf, hk]; omega) | (refine (inR64 _).2 ?_; (try simp [std, AV.cells, intOf, booOf, lstOf, hk]); omega) | (refine (inR32 _).2 ?_; (try simp [std, AV.cells, intOf, booOf, lstOf, hk]); omega) | omega))) (fun _ => ?_))
        | (with_reducible refine And.intro (fun _ => ?_) (fun hx => absurd hx (by (first | (simp [std, allP, AV.cells, intOf, booOf, lstOf, hk]; done) | (simp [std, allP, AV.cells, intOf, booOf, lstOf, hk]; omega) | (refine (inR64 _).2 ?_; (try simp [std, AV.cells, intOf, booOf, lstOf, hk]); omega) | (refine (inR32 _).2 ?_; (try simp [std, AV.cells, intOf, booOf, lstOf, hk]); omega) | omega))))
        | (with_reducible refine And.intro (by (first | (simp [std, allP, AV.cells, intOf, booOf, lstOf, hk]; done) | (simp [std, allP, AV.cells, intOf, booOf, lstOf, hk]; omega) | (refine (inR64 _).2 ?_; (try simp [std, AV.cells, intOf, booOf, lstOf, hk]); omega) | (refine (inR32 _).2 ?_; (try simp [std, AV.cells, intOf, booOf, lstOf, hk]); omega) | omega)) ?_)
        | (with_reducible refine And.intro ?_ ?_)
        | (with_reducible intro hb)
      · exact HP_b _ _
      · generalize hp : std = p
        generalize hpre : preF = pre
        generalize hT : endK p tys _ _ _ _ = T
        cbv at hT
        subst hT
        simp only [Tree.ok, RoundOk, Bool.false_eq_true, Bool.true_eq_false, false_implies, true_implies, and_true, true_and]
        subst hp hpre
        simp [kR, signsL, List.find?, hb] at hk
        exact .pure rfl ⟨.inl (by rw [hk.1]), .inl (by rw [hk.2]), trivial⟩
      · exact (inR64 _).2 (by simp [std])
      · refine ⟨3, ⟨by omega, by omega, ?_⟩, by omega, [], _, rfl, ?_⟩
        · rw [hk]
          simp only [kR, signsL, Int.reduceToNat, List.drop_succ_cons, List.drop_zero, List.find?_cons, hb]
        · simp [AllEq, lk, std]
    · generalize hp : std = p
      generalize hpre : preF = pre
      generalize hT : aexec p tys (csPre pre) _ _ _ _ = T
      cbv at hT
      subst hT
      simp only [Tree.ok, RoundOk, Bool.false_eq_true, Bool.true_eq_false, false_implies, true_implies, and_true, true_and]
      subst hp hpre
      repeat' first
        | (with_reducible refine And.intro (fun hx => absurd hx (by (first | (simp [std, allP, AV.cells, intOf, booOf, lstOf, hk]; done) | (simp [std, allP, AV.cells, intOf, booOf, lstOf, hk]; omega) | (refine (inR64 _).2 ?_; (try simp [std, AV.cells, intOf, booOf, lstOf, hk]); omega) | (refine (inR32 _).2 ?_; (try simp [std, AV.cells, intOf, booOf, lstOf, hk]); omega) | omega))) (fun _ => ?_))
        | (with_reducible refine And.intro (fun _ => ?_) (fun hx => absurd hx (by (first | (simp [std, allP, AV.cells, intOf, booOf, lstOf, hk]; done) | (simp [std, allP, AV.cells, intOf, booOf, lstOf, hk]; omega) | (refine (inR64 _).2 ?_; (try simp [std, AV.cells, intOf, booOf, lstOf, hk]); omega) | (refine (inR32 _).2 ?_; (try simp [std, AV.cells, intOf, booOf, lstOf, hk]); omega) | omega))))
        | (with_reducible refine And.intro (by (first | (simp [std, allP, AV.cells, intOf, booOf, lstOf, hk]; done) | (simp [std, allP, AV.cells, intOf, booOf, lstOf, hk]; omega) | (refine (inR64 _).2 ?_; (try simp [std, AV.cells, intOf, booOf, lstOf, hk]); omega) | (refine (inR32 _).2 ?_; (try simp [std, AV.cells, intOf, booOf, lstOf, hk]); omega) | omega)) ?_)
        | (with_reducible refine And.intro ?_ ?_)
        | (with_reducible intro hb)
      · exact HP_b _ _
      · generalize hp : std = p
        generalize hpre : preF = pre
        generalize hT : endK p tys _ _ _ _ = T
        cbv at hT
        subst hT
        simp only [Tree.ok, RoundOk, Bool.false_eq_true, Bool.true_eq_false, false_implies, true_implies, and_true, true_and]
        subst hp hpre
        simp [kR, signsL, List.find?, hb] at hk
        exact .pure rfl ⟨.inl (by rw [hk.1]), .inl (by rw [hk.2]), trivial⟩
      · exact (inR64 _).2 (by simp [std])
      · refine ⟨4, ⟨by omega, by omega, ?_⟩, by omega, [], _, rfl, ?_⟩
        · rw [hk]
          simp only [kR, signsL, Int.reduceToNat, List.drop_succ_cons, List.drop_zero, List.find?_cons, hb]
        · simp [AllEq, lk, std]
    · generalize hp : std = p
      generalize hpre : preF = pre
      generalize hT : aexec p tys (csPre pre) _ _ _ _ = T
      cbv at hT
      subst hT
      simp only [Tree.ok, RoundOk, Bool.false_eq_true, Bool.true_eq_false, false_implies, true_implies, and_true, true_and]
      subst hp hpre
      repeat' first
        | (with_reducible refine And.intro (fun hx => absurd hx (by (first | (simp [std, allP, AV.cells, intOf, booOf, lstOf, hk]; done) | (simp [std, allP, AV.cells, intOf, booOf, lstOf, hk]; omega) | (refine (inR64 _).2 ?_; (try simp [std, AV.cells, intOf, booOf, lstOf, hk]); omega) | (refine (inR32 _).2 ?_; (try simp [std, AV.cells, intOf, booOf, lstOf, hk]); omega) | omega))) (fun _ => ?_))
        | (with_reducible refine And.intro (fun _ => ?_) (fun hx => absurd hx (by (first | (simp [std, allP, AV.cells, intOf, booOf, lstOf, hk]; done) | (simp [std, allP, AV.cells, intOf, booOf, lstOf, hk]; omega) | (refine (inR64 _).2 ?_; (try simp [std, AV.cells, intOf, booOf, lstOf, hk]); omega) | (refine (inR32 _).2 ?_; (try simp [std, AV.cells, intOf, booOf, lstOf, hk]); omega) | omega))))
        | (with_reducible refine And.intro (by (first | (simp [std, allP, AV.cells, intOf, booOf, lstOf, hk]; done) | (simp [std, allP, AV.cells, intOf, booOf, lstOf, hk]; omega) | (refine (inR64 _).2 ?_; (try simp [std, AV.cells, intOf, booOf, lstOf, hk]); omega) | (refine (inR32 _).2 ?_; (try simp [std, AV.cells, intOf, booOf, lstOf, hk]); omega) | omega)) ?_)
        | (with_reducible refine And.intro ?_ ?_)
        | (with_reducible intro hb)
      · exact HP_b _ _
      · generalize hp : std = p
        generalize hpre : preF = pre
        generalize hT : endK p tys _ _ _ _ = T
        cbv at hT
        subst hT
        simp only [Tree.ok, RoundOk, Bool.false_eq_true, Bool.true_eq_false, false_implies, true_implies, and_true, true_and]
        subst hp hpre
        simp [kR, signsL, List.find?, hb] at hk
        exact .pure rfl ⟨.inl (by rw [hk.1]), .inl (by rw [hk.2]), trivial⟩
      · exact (inR64 _).2 (by simp [std])
      · refine ⟨5, ⟨by omega, by omega, ?_⟩, by omega, [], _, rfl, ?_⟩
        · rw [hk]
          simp only [kR, signsL, Int.reduceToNat, List.drop_succ_cons, List.drop_zero, List.find?_cons, hb]
        · simp [AllEq, lk, std]
    · generalize hp : std = p
      generalize hpre : preF = pre
      generalize hT : aexec p tys (csPre pre) _ _ _ _ = T
      cbv at hT
      subst hT
      simp only [Tree.ok, RoundOk, Bool.false_eq_true, Bool.true_eq_false, false_implies, true_implies, and_true, true_and]
      subst hp hpre
      repeat' first
        | (with_reducible refine And.intro (fun hx => absurd hx (by (first | (simp [std, allP, AV.cells, intOf, booOf, lstOf, hk]; done) | (simp [std, allP, AV.cells, intOf, booOf, lstOf, hk]; omega) | (refine (inR64 _).2 ?_; (try simp [std, AV.cells, intOf, booOf, lstOf, hk]); omega) | (refine (inR32 _).2 ?_; (try simp [std, AV.cells, intOf, booOf, lstOf, hk]); omega) | omega))) (fun _ => ?_))
        | (with_reducible refine And.intro (fun _ => ?_) (fun hx => absurd hx (by (first | (simp [std, allP, AV.cells, intOf, booOf, lstOf, hk]; done) | (simp [std, allP, AV.cells, intOf, booOf, lstOf, hk]; omega) | (refine (inR64 _).2 ?_; (try simp [std, AV.cells, intOf, booOf, lstOf, hk]); omega) | (refine (inR32 _).2 ?_; (try simp [std, AV.cells, intOf, booOf, lstOf, hk]); omega) | omega))))
        | (with_reducible refine And.intro (by (first | (simp [std, allP, AV.cells, intOf, booOf, lstOf, hk]; done) | (simp [std, allP, AV.cells, intOf, booOf, lstOf, hk]; omega) | (refine (inR64 _).2 ?_; (try simp [std, AV.cells, intOf, booOf, lstOf, hk]); omega) | (refine (inR32 _).2 ?_; (try simp [std, AV.cells, intOf, booOf, lstOf, hk]); omega) | omega)) ?_)
        | (with_reducible refine And.intro ?_ ?_)
        | (with_reducible intro hb)
      rw [if_pos trivial]
      generalize hp : std = p
      generalize hpre : preF = pre
      generalize hT : aexec p tys (csPre pre) _ _ _ _ = T
      cbv at hT
      subst hT
      simp only [Tree.ok, RoundOk, Bool.false_eq_true, Bool.true_eq_false, false_implies, true_implies, and_true, true_and]
      subst hp hpre
      simp [kR, signsL] at hk
      exact .pure rfl ⟨.inl (by rw [hk.1]), .inl (by rw [hk.2]), trivial⟩
end Go.Proofs.Ytblafdmmebiagaa
