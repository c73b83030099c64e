/- Lemmas, conditions told -/
import Derived.Test.YtcmjijpofkoogaaGreatG11
import Derived.Test.YtcmjijpofkoogaaGreatG22
import Derived.Test.YtcmjijpofkoogaaGreatG14
set_option maxRecDepth 99999
set_option linter.unusedSimpArgs false
set_option linter.unusedVariables false
namespace Go.Proofs.YtcmjijpofkoogaaGreat
open Go.RowKit Go.Lib
noncomputable def checkC : Code := match Tryz.f59.body with
  | some (.seq _ (.seq _ c)) => c
  | _ => .skip
theorem check_body : Tryz.f59.body = some (.seq (.region 0 #[{ dst := some 4, op := .alloc 115, type := 0, pos := "check.go:166", after := #[], guard := none }] false) (.seq (.region 1 #[{ dst := some 6, op := .makeFunc (.func 73) #[] #[.tmp 4], type := 1, pos := "check.go:167", after := #[], guard := none },
      { dst := none, op := .defer { callee := .value (.tmp 6), args := #[], argTypes := #[] }, type := 0, pos := "check.go:167", after := #[{ on := 0, ground := .data }], guard := none }] false) checkC)) := by kernel_rfl
def checkO : Nat → OT := fun id => match id with | 5 => .th [0, 1, 2, 4, 5, 6, 7, 9, 10, 11, 15, 16, 17] (.fork (.th [3] (.fork (.th [8, 12] (.fork (.of [13, 14, 18, 19, 20]) (.of [18, 13, 14, 19, 20]))) (.fork (.th [12] (.fork (.th [8] (.fork (.of [13, 14, 18, 19, 20]) (.of [18, 13, 14, 19, 20]))) (.of [18, 8, 13, 14, 19, 20]))) (.th [18] (.fork (.of [8, 12, 13, 14, 19, 20]) (.of [12, 8, 13, 14, 19, 20])))))) (.fork (.th [8, 12] (.fork (.th [3] (.fork (.of [13, 14, 18, 19, 20]) (.of [18, 13, 14, 19, 20]))) (.fork (.of [13, 3, 14, 18, 19, 20]) (.th [18] (.fork (.of [3, 13, 14, 19, 20]) (.of [13, 3, 14, 19, 20])))))) (.fork (.th [12] (.fork (.th [3] (.fork (.th [8] (.fork (.of [13, 14, 18, 19, 20]) (.of [18, 13, 14, 19, 20]))) (.of [18, 8, 13, 14, 19, 20]))) (.fork (.th [8] (.fork (.th [3] (.fork (.of [13, 14, 18, 19, 20]) (.of [18, 13, 14, 19, 20]))) (.fork (.of [13, 3, 14, 18, 19, 20]) (.th [18] (.fork (.of [3, 13, 14, 19, 20]) (.of [13, 3, 14, 19, 20])))))) (.th [18] (.fork (.of [3, 8, 13, 14, 19, 20]) (.th [8] (.fork (.of [3, 13, 14, 19, 20]) (.of [13, 3, 14, 19, 20])))))))) (.th [18] (.fork (.th [3] (.fork (.of [8, 12, 13, 14, 19, 20]) (.of [12, 8, 13, 14, 19, 20]))) (.fork (.th [8, 12] (.fork (.of [3, 13, 14, 19, 20]) (.of [13, 3, 14, 19, 20]))) (.th [12] (.fork (.of [3, 8, 13, 14, 19, 20]) (.th [8] (.fork (.of [3, 13, 14, 19, 20]) (.of [13, 3, 14, 19, 20]))))))))))) | _ => .nil
theorem check_run {tab : Nat → Option FnI} {base : Nat → List AV → List Ob → Option (AV × List Ob)} {ask : Nat → List Srt → Bool} {lf : Nat} (ht : ∀ f F, tab f = some F → f < 1000000 ∧ F.good f) (hb : ∀ f a o r o', base f a o = some (r, o') → f < 1000000 ∧ BCall Tryz.prog f a o r o')
    (ha : ∀ T sh, ask T sh = true → EqOk Tryz.prog T sh ∧ KeyOk Tryz.prog T sh) (n : Nat) (b : List UInt8) (k : Int) {r : AV} {o' : List Ob}
    (h : runN (finS []) ask (lpF ask tys (gd (runX tab base ask lf n)) checkO lf) (aexec std tys (gd (runX tab base ask lf n)) checkO checkC (endK std tys true Tryz.f59.results.toList) (checkS b k)) = some (r, o')) :
    BCall Tryz.prog 59 [.slc 1 (bytesA b), .val (.int .i64 k)] [] r o' :=
  run_defer ht hb ha n Tryz.func59 check_body checkO (by kernel_rfl) (checkS b k) (fun w g vs M hL => ⟨checkD w, check_idleD w, fun Q hQ => check_start b k checkC w g vs M hL Q hQ⟩) h
theorem Fh_te1 : treeA (textF' Fg_b1) (parseM Fg_b1) = .agg [.val (.int .i64 0), .val (.int .i64 0), fg5, fg6, .ref [.slc 6 [fg15, fg8]], .val (.int .i64 1), .slc 3 []] := by cbv
theorem Fh_parse1 : BCall Tryz.prog 61 [.slc 1 (bytesA Fg_b1)] [] (.agg [.val (.int .i64 0), .val (.int .i64 0), fg5, fg6, .ref [.slc 6 [fg15, fg8]], .val (.int .i64 1), .slc 3 []]) [] := by
  rw [← Fh_te1]; exact Parse_b Fg_b1 (by decide)
def Fh_bl1 : List BE := [⟨61, [.slc 1 (bytesA Fg_b1)], [], .agg [.val (.int .i64 0), .val (.int .i64 0), fg5, fg6, .ref [.slc 6 [fg15, fg8]], .val (.int .i64 1), .slc 3 []], []⟩, ⟨75, Fg_all1_a, Fg_all1_o, Fg_all1_r, Fg_all1_p⟩]
theorem Fh_bok1 : GoodB Fh_bl1 := by
  unfold Fh_bl1
  exact ⟨⟨rfl, Fh_parse1⟩, ⟨rfl, Fg_all1⟩, trivial⟩
def Fh_r1 : AV := .agg [.val (.int .i64 0), .val (.int .i64 0), .val (.int .i64 1), .val (.string ⟨#[]⟩), .val (.string ⟨#[]⟩), .val (.string ⟨#[]⟩), .val (.slice none 0 0), .val (.slice none 0 0), .val (.string ⟨#[]⟩), .val (.string ⟨#[]⟩), .slc 9 [fg18], .val (.int .i64 0), .val (.bool false)]
theorem Fh_check1 : BCall Tryz.prog 59 [.slc 1 (bytesA Fg_b1), .val (.int .i64 0)] [] Fh_r1 [] :=
  check_run (tab_ok Fg_tab_ok) (base5_ok Fh_bok1) (ask := ask0) ask0_ok (lf := 100) 60 Fg_b1 0 (by kernel_rfl)
theorem Fh_te2 : treeA (textF' Fg_b2) (parseM Fg_b2) = .agg [.val (.int .i64 0), .val (.int .i64 0), fg14, fg17, .ref [fg22], .val (.int .i64 4), .slc 3 []] := by cbv
theorem Fh_parse2 : BCall Tryz.prog 61 [.slc 1 (bytesA Fg_b2)] [] (.agg [.val (.int .i64 0), .val (.int .i64 0), fg14, fg17, .ref [fg22], .val (.int .i64 4), .slc 3 []]) [] := by
  rw [← Fh_te2]; exact Parse_b Fg_b2 (by decide)
def Fh_bl2 : List BE := [⟨61, [.slc 1 (bytesA Fg_b2)], [], .agg [.val (.int .i64 0), .val (.int .i64 0), fg14, fg17, .ref [fg22], .val (.int .i64 4), .slc 3 []], []⟩, ⟨75, Fg_all2_a, Fg_all2_o, Fg_all2_r, Fg_all2_p⟩]
theorem Fh_bok2 : GoodB Fh_bl2 := by
  unfold Fh_bl2
  exact ⟨⟨rfl, Fh_parse2⟩, ⟨rfl, Fg_all2⟩, trivial⟩
def Fh_r2 : AV := .agg [.val (.int .i64 0), .val (.int .i64 0), .val (.int .i64 1), .val (.string ⟨#[]⟩), .val (.string ⟨#[]⟩), .val (.string ⟨#[]⟩), .val (.slice none 0 0), .val (.slice none 0 0), .val (.string ⟨#[]⟩), .val (.string ⟨#[]⟩), .slc 9 [fg20], .val (.int .i64 0), .val (.bool false)]
theorem Fh_check2 : BCall Tryz.prog 59 [.slc 1 (bytesA Fg_b2), .val (.int .i64 0)] [] Fh_r2 [] :=
  check_run (tab_ok Fg_tab_ok) (base5_ok Fh_bok2) (ask := ask0) ask0_ok (lf := 100) 60 Fg_b2 0 (by kernel_rfl)
end Go.Proofs.YtcmjijpofkoogaaGreat
namespace Go.Proofs.YtcmjijpofkoogaaGreat
open Go.RowKit Go.Lib
def Fi_bl : List BE := [⟨61, [.slc 1 (bytesA Fg_b1)], [], .agg [.val (.int .i64 0), .val (.int .i64 0), fg5, fg6, .ref [.slc 6 [fg15, fg8]], .val (.int .i64 1), .slc 3 []], []⟩, ⟨59, [.slc 1 (bytesA Fg_b1), .val (.int .i64 0)], [], Fh_r1, []⟩, ⟨59, [.slc 1 (bytesA Fg_b2), .val (.int .i64 0)], [], Fh_r2, []⟩]
theorem Fi_bok : GoodB Fi_bl := by
  unfold Fi_bl
  exact ⟨⟨rfl, Fh_parse1⟩, ⟨rfl, Fh_check1⟩, ⟨rfl, Fh_check2⟩, trivial⟩
theorem awake25_b : BCall Tryz.prog 19 [] [] (.val (.bool true)) [] :=
  (run_ok (lf := 100) (tab_ok Fg_tab_ok) (base5_ok Fi_bok) (ask := ask0) ask0_ok 60 _ _ _ _ _ (by kernel_rfl)).2
end Go.Proofs.YtcmjijpofkoogaaGreat
namespace Go.Proofs.YtcmjijpofkoogaaGreat
open Go.RowKit Go.Lib
noncomputable def Fj_tab : List (Nat × FnI) := [
  (4, ⟨Tryz.f4, Tryz.f4.body.getD .skip, fun _ => .nil⟩),
  (11, ⟨Tryz.f11, Tryz.f11.body.getD .skip, fun _ => .nil⟩),
  (10, ⟨Tryz.f10, Tryz.f10.body.getD .skip, fun _ => .nil⟩),
  (12, ⟨Tryz.f12, Tryz.f12.body.getD .skip, fun _ => .nil⟩),
  (16, ⟨Tryz.f16, Tryz.f16.body.getD .skip, fun _ => .nil⟩),
  (13, ⟨Tryz.f13, Tryz.f13.body.getD .skip, fun _ => .nil⟩),
  (17, ⟨Tryz.f17, Tryz.f17.body.getD .skip, fun _ => .nil⟩),
  (14, ⟨Tryz.f14, Tryz.f14.body.getD .skip, fun _ => .nil⟩),
  (15, ⟨Tryz.f15, Tryz.f15.body.getD .skip, fun _ => .nil⟩),
  (18, ⟨Tryz.f18, Tryz.f18.body.getD .skip, fun _ => .nil⟩)]
theorem Fj_tab_ok : GoodL Fj_tab := by
  unfold Fj_tab
  refine ⟨⟨Nat.le_of_ble_eq_true rfl, Tryz.func4, rfl, by kernel_rfl⟩, ?_⟩
  refine ⟨⟨Nat.le_of_ble_eq_true rfl, Tryz.func11, rfl, by kernel_rfl⟩, ?_⟩
  refine ⟨⟨Nat.le_of_ble_eq_true rfl, Tryz.func10, rfl, by kernel_rfl⟩, ?_⟩
  refine ⟨⟨Nat.le_of_ble_eq_true rfl, Tryz.func12, rfl, by kernel_rfl⟩, ?_⟩
  refine ⟨⟨Nat.le_of_ble_eq_true rfl, Tryz.func16, rfl, by kernel_rfl⟩, ?_⟩
  refine ⟨⟨Nat.le_of_ble_eq_true rfl, Tryz.func13, rfl, by kernel_rfl⟩, ?_⟩
  refine ⟨⟨Nat.le_of_ble_eq_true rfl, Tryz.func17, rfl, by kernel_rfl⟩, ?_⟩
  refine ⟨⟨Nat.le_of_ble_eq_true rfl, Tryz.func14, rfl, by kernel_rfl⟩, ?_⟩
  refine ⟨⟨Nat.le_of_ble_eq_true rfl, Tryz.func15, rfl, by kernel_rfl⟩, ?_⟩
  refine ⟨⟨Nat.le_of_ble_eq_true rfl, Tryz.func18, rfl, by kernel_rfl⟩, ?_⟩
  exact trivial
def Fj_bl : List BE := [⟨19, [], [], .val (.bool true), []⟩]
theorem Fj_bok : GoodB Fj_bl := by
  unfold Fj_bl
  exact ⟨⟨rfl, awake25_b⟩, trivial⟩
theorem UndoNil_b (v0 v1 v2 v3 v4 v5 : Value) (m : Int) : BCall Tryz.prog 4 [.agg [.val v0, .val v1, .val v2, .val v3, .val v4, .val v5], .val (.int .i64 m)] [] (.val (.bool true)) [] :=
  (run_ok (lf := 100) (tab_ok Fj_tab_ok) (base_ok Fj_bok) (ask := ask0) ask0_ok 60 _ _ _ _ _ (by kernel_rfl)).2
theorem int_one {W : World} {r : Reach} {base t : Nat} {x : Value} (ht : Tryz.prog.underlying t = some (.int .i64)) (h : Cell.okWide Tryz.prog W r base t x) : x.oneCell' = true := by
  simp only [Cell.okWide, Cell.ok, ht] at h
  cases x <;> first | rfl | exact h.elim
theorem str_one {W : World} {r : Reach} {base t : Nat} {x : Value} (ht : Tryz.prog.underlying t = some .string) (h : Cell.okWide Tryz.prog W r base t x) : x.oneCell' = true := by
  simp only [Cell.okWide, Cell.ok, ht] at h
  cases x <;> first | rfl | exact h.elim
theorem slc_one {W : World} {r : Reach} {base t e : Nat} {x : Value} (ht : Tryz.prog.underlying t = some (.slice e)) (h : Cell.okWide Tryz.prog W r base t x) : x.oneCell' = true := by
  simp only [Cell.okWide, Cell.ok, ht] at h
  cases x <;> first | rfl | exact h.elim
set_option maxRecDepth 20000 in
theorem op_of {W : World} {r : Reach} {base : Nat} {v : Value} (h : Value.okWide Tryz.prog W r base 34 v) : ∃ cs : Array Value, v = .agg cs ∧ cs.size = 6 ∧ ∀ i (hi : i < cs.size), cs[i].oneCell' = true := by
  simp only [Value.okWide, Tryz.underlying34] at h
  obtain ⟨cs, rfl, hsz, ts, hts, _, hc⟩ := h
  have e1 : Tryz.prog.cellTypes Tryz.prog.depth 34 = some [3, 32, 32, 3, 9, 9] := by kernel_rfl
  have e2 : Tryz.prog.cellsOf 34 = 6 := by kernel_rfl
  rw [e2] at hsz
  obtain rfl : [3, 32, 32, 3, 9, 9] = ts := Option.some.inj (e1.symm.trans hts)
  refine ⟨cs, rfl, hsz, fun i hi => ?_⟩
  obtain ⟨u, hu, hk⟩ := hc i _ (Array.getElem?_eq_getElem hi)
  generalize cs[i] = x at hk
  rw [hsz] at hi
  match i, hi, hu with
  | 0, _, hu =>
    obtain rfl : 3 = u := Option.some.inj hu
    exact int_one Tryz.underlying3 hk
  | 1, _, hu =>
    obtain rfl : 32 = u := Option.some.inj hu
    exact slc_one Tryz.underlying32 hk
  | 2, _, hu =>
    obtain rfl : 32 = u := Option.some.inj hu
    exact slc_one Tryz.underlying32 hk
  | 3, _, hu =>
    obtain rfl : 3 = u := Option.some.inj hu
    exact int_one Tryz.underlying3 hk
  | 4, _, hu =>
    obtain rfl : 9 = u := Option.some.inj hu
    exact str_one Tryz.underlying9 hk
  | 5, _, hu =>
    obtain rfl : 9 = u := Option.some.inj hu
    exact str_one Tryz.underlying9 hk
theorem UndoNil_l (cs : Array Value) (h6 : cs.size = 6) (h1 : ∀ i (hi : i < cs.size), cs[i].oneCell' = true) (m : Int) (w : World) :
    Calls Tryz.prog 4 #[.agg cs, .int .i64 m] w fun e w' => e = .returned (.bool true) ∧ Below w.heap.size w w' := by
  obtain ⟨l⟩ := cs
  match l, h6, h1 with
  | [v0, v1, v2, v3, v4, v5], _, h1 =>
    have hc : ARelC w (gl w) [] [v0, v1, v2, v3, v4, v5] [.val v0, .val v1, .val v2, .val v3, .val v4, .val v5] := by
      refine ⟨rfl, fun j y u hy hu => ?_⟩
      have hj : j < 6 := lt_of_some hy
      have he : [v0, v1, v2, v3, v4, v5][j] = y := by rw [List.getElem?_eq_getElem hj] at hy; exact Option.some.inj hy
      have h2 : y.oneCell' = true := by rw [← he]; exact h1 j hj
      have h3 : u = .val y := by
        have : [AV.val v0, .val v1, .val v2, .val v3, .val v4, .val v5] = [v0, v1, v2, v3, v4, v5].map .val := rfl
        rw [this, List.getElem?_map, hy] at hu
        exact (Option.some.inj hu).symm
      rw [h3]
      exact ⟨PRel.val y h2, h2⟩
    exact (UndoNil_b v0 v1 v2 v3 v4 v5 m).law w (argL_cons ⟨#[v0, v1, v2, v3, v4, v5], rfl, hc⟩ (argL_cons (arg_val rfl) argL_nil))
end Go.Proofs.YtcmjijpofkoogaaGreat
