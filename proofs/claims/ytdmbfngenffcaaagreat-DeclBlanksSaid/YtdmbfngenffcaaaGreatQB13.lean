/- Lemmas, conditions told -/
import Derived.Test.YtdmbfngenffcaaaGreatQB11
import Derived.Test.YtdmbfngenffcaaaGreatQB12
import Derived.Test.YtdmbfngenffcaaaGreatQB02
import Derived.Test.YtdmbfngenffcaaaGreatQB04
import Derived.Test.YtdmbfngenffcaaaGreatQB10
import Derived.Defers
import Derived.Recover
import Derived.WalkLawsBesides
import Derived.Laws.Pointers
set_option linter.unusedSimpArgs false
set_option linter.unusedVariables false
namespace Go.Proofs.YtdmbfngenffcaaaGreat
open Go.RowKit Go.Lib
theorem bytes_one (x : Int) (h : 0 < widthF x) : bytesF [x] = encodeRune x := by
  have e : bytesF [x] = runeF x := by simp [bytesF]
  rw [e, runeF, if_neg (by omega)]
def ofI : Int → List Int → List Itm
  | _, [] => []
  | a, x :: r => ⟨x, a, (bytesF [x]).length⟩ :: ofI (a + (bytesF [x]).length) r
theorem bytesF_cons (x : Int) (r : List Int) : bytesF (x :: r) = bytesF [x] ++ bytesF r := by
  simp [bytesF]
theorem ofI_r : ∀ (l : List Int) (a : Int), (ofI a l).map Itm.r = l
  | [], _ => rfl
  | x :: r, a => by simp only [ofI, List.map_cons, ofI_r]
theorem items_of : ∀ (l : List Int) (a : Nat), (∀ x ∈ l, 0 < widthF x) → (itemsGo (bytesF l).length a (bytesF l)).map itmOf = ofI a l
  | [], a, _ => by simp [bytesF, itemsGo_nil, ofI]
  | x :: r, a, h => by
    have hx := h x (List.mem_cons_self ..)
    have e1 := bytes_one x hx
    have hw := enc_width x hx
    have hne : bytesF (x :: r) ≠ [] := fun h => by
      have := congrArg List.length h
      rw [bytesF_cons, List.length_append, e1, hw] at this
      simp at this; omega
    have hf := firstF_enc x hx (bytesF r)
    rw [← e1, ← bytesF_cons] at hf
    rw [itemsGo_step a _ hne, hf]
    simp only [List.map_cons, ofI]
    have ed : (bytesF (x :: r)).drop (widthF x) = bytesF r := by
      rw [bytesF_cons, e1, ← hw, List.drop_left]
    rw [ed, items_of r (a + widthF x) fun y hy => h y (List.mem_cons_of_mem _ hy), e1, hw]
    rfl
end Go.Proofs.YtdmbfngenffcaaaGreat
namespace Go.Proofs.YtdmbfngenffcaaaGreat
open Go.RowKit Go.Lib
theorem char_wide {r : Int} (h : isNameChar r = true) : 0 < widthF r := by
  rcases (by simpa [isNameChar] using h : isNameStart r = true ∨ inSp r moreSp = true) with h | h
  · exact start_wide h
  · have key : ∀ x ∈ moreSp, 0 ≤ x.1 ∧ x.2 ≤ 1114111 ∧ (x.2 < 55296 ∨ 57343 < x.1) := by decide
    obtain ⟨x, hx, hr⟩ := List.any_eq_true.1 (show moreSp.any (fun x => decide (x.1 ≤ r) && decide (r ≤ x.2)) = true from h)
    have hk := key x hx
    simp only [Bool.and_eq_true, decide_eq_true_eq] at hr
    unfold widthF
    repeat' split
    all_goals omega
end Go.Proofs.YtdmbfngenffcaaaGreat
namespace Go.Proofs.YtdmbfngenffcaaaGreat
open Go.RowKit Go.Lib
theorem flat_rows : ∀ ls : List (List Int), flatA (ls.map fun l => AV.slc 1 (runesA l)) = ls.map fun l => .slc 1 (runesA l)
  | [] => rfl
  | x :: r => by
    rw [List.map_cons, flatA, List.flatMap_cons]
    show _ :: flatA _ = _
    rw [flat_rows r]
theorem Concat_b (ls : List (List Int)) (hs : sumLen ls ≤ 1000000000) : BCall Tryz.prog 75 [.slc 1 (ls.map fun l => .slc 1 (runesA l))] [] (.slc 1 (runesA ls.flatten)) [] := by
  refine BCall.hand (enters_of Tryz.func75 (by kernel_rfl) rfl) fun w g vs M hL => ?_
  obtain ⟨v1, vs1, rfl, h1, hL⟩ := argsCons hL
  obtain rfl := argsNil hL
  obtain ⟨A, c, ys, rfl, hr, ha⟩ := argRd h1 M
  rw [flat_rows] at ha
  have hR : RowsV w A _ c ls ys := ⟨hr, by rw [ha.1, List.length_map], fun i v l e1 e2 => by
    have := ha.2 i v (.slc 1 (runesA l)) e1 (by rw [List.getElem?_map, e2]; rfl)
    obtain ⟨A2, c2, ys2, rfl, hr2, ha2⟩ := argRd (show ARel1 w g [] v (.slc 1 (runesA l)) from PRel.to0 (ob := []) this) M
    have e : runesA l = (rc l).map .val := by simp [runesA, rc, runeA]
    rw [e, flatVals] at ha2
    obtain rfl := alikeVals ha2
    exact ⟨A2, _, c2, rfl, hr2⟩⟩
  refine (Concat_any A _ c ls ys w hR hs).mono fun e w' ⟨v, h, ⟨n', ho⟩, hbel⟩ => ⟨v, h, hbel, ?_⟩
  obtain ⟨fl, hfl⟩ : ∃ fl, fl = ls.flatten := ⟨_, rfl⟩
  rw [← hfl] at ho ⊢
  have hn : n' = (runesA fl).length := by
    have := ho.1
    rw [runes_len]; simpa [rc] using this.symm
  refine own_slc (A' := (g.imm w w').A) ho (by decide) ?_ hn (fun x hx => by obtain ⟨y, _, rfl⟩ := List.mem_map.1 hx; rfl) (fun b o h1 h2 => .inr ⟨h1, h2⟩)
  have e : ∀ l : List Int, runesA l = (rc l).map .val := fun l => by simp [runesA, rc, runeA]
  rw [e, flatVals]
  refine vals_alike fun u hu => ?_
  obtain ⟨x, _, rfl⟩ := List.mem_map.1 hu
  rfl
theorem All_b (l : List Int) (p : Int → Bool) (f : Nat) (ef : ∀ args w, (callFunc f args).run Tryz.prog w = .ok (.enter f args) w) (hp : ∀ w, PredOk Tryz.prog f #[] p w) :
    BCall Tryz.prog 29 [.slc 1 (runesA l), .val (.func (.func f) #[] #[])] [] (.val (.bool (l.all p))) [] := by
  refine BCall.hand (enters_of Tryz.func29 (by kernel_rfl) rfl) fun w g vs M hL => ?_
  obtain ⟨v1, vs1, rfl, h1, hL⟩ := argsCons hL
  obtain ⟨v3, vs3, rfl, h3, hL⟩ := argsCons hL
  obtain rfl := argsNil hL
  obtain ⟨A, c, rfl, hr⟩ := runes_rd h1 M
  obtain rfl := argVal h3
  exact (All_any _ A _ c l f #[] p w ef hr (hp w)).mono fun e w' ⟨h, hb⟩ => ⟨_, h, hb, PRel.val _ rfl⟩
theorem Contains_b (s : ByteArray) (c : UInt8) : BCall Tryz.prog 90 [.val (.string s), .val (.string ⟨#[c]⟩)] [] (.val (.bool (s.data.toList.contains c))) [] := by
  refine BCall.hand (enters_of Tryz.func90 (by kernel_rfl) rfl) fun w g vs M hL => ?_
  obtain ⟨v1, vs1, rfl, h1, hL⟩ := argsCons hL
  obtain ⟨v3, vs3, rfl, h3, hL⟩ := argsCons hL
  obtain rfl := argsNil hL
  obtain rfl := argVal h1
  obtain rfl := argVal h3
  exact (ContainsStr_any s c w).mono fun e w' ⟨h, hb⟩ => ⟨_, h, hb ▸ Below.refl _ _, PRel.val _ rfl⟩
def isRunes (l : List AV) : Bool := l.all fun x => match x with
  | .val (.int .i32 _) => true
  | _ => false
theorem isRunes_ok : ∀ {l : List AV}, isRunes l = true → l = runesA (l.map std.int)
  | [], _ => rfl
  | x :: r, h => by
    unfold isRunes at h
    rw [List.all_cons, Bool.and_eq_true] at h
    have ih := isRunes_ok (l := r) h.2
    have hx : x = .val (.int .i32 (std.int x)) := by
      have h1 := h.1
      split at h1
      · rfl
      · cases h1
    show x :: r = runeA (std.int x) :: runesA (r.map std.int)
    rw [← ih, runeA, ← hx]
def isRows : List AV → Bool
  | [] => true
  | x :: r => (match x with
    | .slc 1 l => isRunes l
    | _ => false) && isRows r
theorem isRows_ok : ∀ {l : List AV}, isRows l = true → l = (l.map fun x => (std.lst x).map std.int).map fun l => .slc 1 (runesA l)
  | [], _ => rfl
  | x :: r, h => by
    unfold isRows at h
    rw [Bool.and_eq_true] at h
    have ih := isRows_ok (l := r) h.2
    have hx : x = .slc 1 (runesA ((std.lst x).map std.int)) := by
      have h1 := h.1
      split at h1
      · rename_i l
        show AV.slc 1 l = .slc 1 (runesA (l.map std.int))
        rw [← isRunes_ok h1]
      · cases h1
    show x :: r = .slc 1 (runesA ((std.lst x).map std.int)) :: (r.map fun x => (std.lst x).map std.int).map fun l => .slc 1 (runesA l)
    rw [← hx, ← ih]
def rPred (g : Nat) : Option (Int → Bool) := if g = 47 then some isSpace else if g = 69 then some isNameChar else if g = 93 then some notAmp else if g = 119 then some isDig else if g = 120 then some isHex else if g = 30 then some isChar else if g = 110 then some isPlain else none
theorem rPred_ok {g : Nat} {p : Int → Bool} (h : rPred g = some p) : (∀ args w, (callFunc g args).run Tryz.prog w = .ok (.enter g args) w) ∧ ∀ w, PredOk Tryz.prog g #[] p w := by
  unfold rPred at h
  split at h
  · rename_i e; subst e; cases h; exact ⟨enters_of Tryz.func47 (by kernel_rfl) rfl, Space_ok⟩
  split at h
  · rename_i e; subst e; cases h; exact ⟨eg_NameChar, NameChar_ok⟩
  split at h
  · rename_i e; subst e; cases h; exact ⟨enters_of Tryz.func93 (by kernel_rfl) rfl, NotAmp_ok⟩
  split at h
  · rename_i e; subst e; cases h; exact ⟨enters_of Tryz.func119 (by kernel_rfl) rfl, LDigit_ok⟩
  split at h
  · rename_i e; subst e; cases h; exact ⟨enters_of Tryz.func120 (by kernel_rfl) rfl, LHex_ok⟩
  split at h
  · rename_i e; subst e; cases h; exact ⟨eg_Char, Char_ok⟩
  split at h
  · rename_i e; subst e; cases h; exact ⟨enters_of Tryz.func110 (by kernel_rfl) rfl, LPlain_ok⟩
  cases h
theorem Run_e {l : List AV} {k : Int} {g : Nat} {p : Int → Bool} (hp : rPred g = some p) (hr : isRunes l = true) : BCall Tryz.prog 46 [.slc 1 l, .val (.int .i64 k), .val (.func (.func g) #[] #[])] [] (.val (.int .i64 (runF p (l.map std.int) k))) [] := by
  have := Run_b (l.map std.int) k p g (rPred_ok hp).1 (rPred_ok hp).2
  rw [← isRunes_ok hr] at this
  exact this
theorem All_e {l : List AV} {g : Nat} {p : Int → Bool} (hp : rPred g = some p) (hr : isRunes l = true) : BCall Tryz.prog 29 [.slc 1 l, .val (.func (.func g) #[] #[])] [] (.val (.bool ((l.map std.int).all p))) [] := by
  have := All_b (l.map std.int) p g (rPred_ok hp).1 (rPred_ok hp).2
  rw [← isRunes_ok hr] at this
  exact this
theorem text_e {l : List AV} (hp : (isRunes l && Nat.ble l.length 1000) = true) : BCall Tryz.prog 44 [.slc 1 l] [] (.val (.string (txF (l.map std.int)))) [] := by
  rw [Bool.and_eq_true] at hp
  have h2 := Nat.le_of_ble_eq_true hp.2
  have := dtext_b (l.map std.int) (by rw [List.length_map]; exact Nat.le_trans h2 (by decide))
  rw [← isRunes_ok hp.1] at this
  exact this
theorem Concat_e {l : List AV} (hp : (isRows l && Nat.ble (sumLen (l.map fun x => (std.lst x).map std.int)) 1000) = true) : BCall Tryz.prog 75 [.slc 1 l] [] (.slc 1 (runesA (l.map fun x => (std.lst x).map std.int).flatten)) [] := by
  rw [Bool.and_eq_true] at hp
  have h2 := Nat.le_of_ble_eq_true hp.2
  have := Concat_b (l.map fun x => (std.lst x).map std.int) (Nat.le_trans h2 (by decide))
  rw [← isRows_ok hp.1] at this
  exact this
theorem Lead_e {l : List AV} {k : Nat} (hp : (isRunes l && Nat.ble k 1000) = true) : BCall Tryz.prog 89 [.slc 1 l, .val (.int .i64 (.ofNat k))] [] (.val (.int .i64 (leadF (l.map std.int) k))) [] := by
  rw [Bool.and_eq_true] at hp
  have h2 := Nat.le_of_ble_eq_true hp.2
  have := Lead_b (l.map std.int) (.ofNat k) (Int.natCast_nonneg k) (Int.ofNat_le.2 (Nat.le_trans h2 (by decide)))
  rw [← isRunes_ok hp.1] at this
  exact this
theorem Starts_e {l : List AV} {k : Nat} {s : ByteArray} (hp : (isRunes l && (Nat.ble l.length 1000 && (Nat.ble k l.length && Nat.ble s.data.toList.length 1000))) = true) : BCall Tryz.prog 48 [.slc 1 l, .val (.int .i64 (.ofNat k)), .val (.string s)] [] (.val (.bool (startsF (l.map std.int) k s.data.toList))) [] := by
  simp only [Bool.and_eq_true] at hp
  obtain ⟨h1, h2, h3, h4⟩ := hp
  have h2 := Nat.le_of_ble_eq_true h2
  have h3 := Nat.le_of_ble_eq_true h3
  have h4 := Nat.le_of_ble_eq_true h4
  have := Starts_b (l.map std.int) (by rw [List.length_map]; exact Nat.le_trans h2 (by decide)) (.ofNat k) (Int.natCast_nonneg k) (by rw [List.length_map]; exact Int.ofNat_le.2 h3) s (by simp at h4; exact Nat.le_trans h4 (by decide))
  rw [← isRunes_ok h1] at this
  exact this
def b4 (f : Nat) (a : List AV) (o : List Ob) : Option (AV × List Ob) := match o with
  | [] =>
    if f = 46 then (match a with
      | [.slc 1 l, .val (.int .i64 k), .val (.func (.func g) ⟨[]⟩ ⟨[]⟩)] => match rPred g, isRunes l with
        | some p, true => some (.val (.int .i64 (runF p (l.map std.int) k)), [])
        | _, _ => none
      | _ => none)
    else if f = 29 then (match a with
      | [.slc 1 l, .val (.func (.func g) ⟨[]⟩ ⟨[]⟩)] => match rPred g, isRunes l with
        | some p, true => some (.val (.bool ((l.map std.int).all p)), [])
        | _, _ => none
      | _ => none)
    else if f = 90 then (match a with
      | [.val (.string s), .val (.string ⟨⟨[c]⟩⟩)] => some (.val (.bool (s.data.toList.contains c)), [])
      | _ => none)
    else if f = 44 then (match a with
      | [.slc 1 l] => match isRunes l && Nat.ble l.length 1000 with
        | true => some (.val (.string (txF (l.map std.int))), [])
        | false => none
      | _ => none)
    else if f = 75 then (match a with
      | [.slc 1 l] => match isRows l && Nat.ble (sumLen (l.map fun x => (std.lst x).map std.int)) 1000 with
        | true => some (.slc 1 (runesA (l.map fun x => (std.lst x).map std.int).flatten), [])
        | false => none
      | _ => none)
    else if f = 70 then (match a with
      | [.val (.string s)] => match Nat.ble s.data.toList.length 1000 with
        | true => some (.val (.bool (nameF s.data.toList)), [])
        | false => none
      | _ => none)
    else if f = 89 then (match a with
      | [.slc 1 l, .val (.int .i64 (.ofNat k))] => match isRunes l && Nat.ble k 1000 with
        | true => some (.val (.int .i64 (leadF (l.map std.int) k)), [])
        | false => none
      | _ => none)
    else if f = 48 then (match a with
      | [.slc 1 l, .val (.int .i64 (.ofNat k)), .val (.string s)] => match isRunes l && (Nat.ble l.length 1000 && (Nat.ble k l.length && Nat.ble s.data.toList.length 1000)) with
        | true => some (.val (.bool (startsF (l.map std.int) k s.data.toList)), [])
        | false => none
      | _ => none)
    else none
  | _ => none
theorem b4_ok (f : Nat) (a : List AV) (o : List Ob) (r : AV) (o' : List Ob) (h : b4 f a o = some (r, o')) : f < 1000000 ∧ BCall Tryz.prog f a o r o' := by
  unfold b4 at h
  split at h
  · split at h
    · rename_i e; subst e
      split at h
      · split at h
        · rename_i hp hr
          cases h
          exact ⟨by decide, Run_e hp hr⟩
        · cases h
      · cases h
    split at h
    · rename_i e; subst e
      split at h
      · split at h
        · rename_i hp hr
          cases h
          exact ⟨by decide, All_e hp hr⟩
        · cases h
      · cases h
    split at h
    · rename_i e; subst e
      split at h
      · cases h
        exact ⟨by decide, Contains_b _ _⟩
      · cases h
    split at h
    · rename_i e; subst e
      split at h
      · split at h
        · rename_i hp
          cases h
          exact ⟨by decide, text_e hp⟩
        · cases h
      · cases h
    split at h
    · rename_i e; subst e
      split at h
      · split at h
        · rename_i hp
          cases h
          exact ⟨by decide, Concat_e hp⟩
        · cases h
      · cases h
    split at h
    · rename_i e; subst e
      split at h
      · split at h
        · rename_i hp
          cases h
          have h2 := Nat.le_of_ble_eq_true hp
          exact ⟨by decide, Name_b _ (by simp at h2; exact Nat.le_trans h2 (by decide))⟩
        · cases h
      · cases h
    split at h
    · rename_i e; subst e
      split at h
      · split at h
        · rename_i hp
          cases h
          exact ⟨by decide, Lead_e hp⟩
        · cases h
      · cases h
    split at h
    · rename_i e; subst e
      split at h
      · split at h
        · rename_i hp
          cases h
          exact ⟨by decide, Starts_e hp⟩
        · cases h
      · cases h
    cases h
  · cases h
end Go.Proofs.YtdmbfngenffcaaaGreat
namespace Go.Proofs.YtdmbfngenffcaaaGreat
open Go.RowKit Go.Lib
theorem BCall.kb {P : Program} {f : Nat} {args : List AV} {ob ob' : List Ob} {b : Bool} (h : BCall P f args ob (.val (.bool b)) ob') : BCall P f args ob (.kb b) ob' :=
  ⟨h.1, fun w g vs M hL => (h.2 w g vs M hL).mono fun e w' ⟨v, g', h1, h2, h3, h4⟩ => ⟨v, g', h1, h2, (show v = .bool b from ARel.valEq h3), h4⟩⟩
def sEnt : ByteArray := ⟨⟨[60, 33, 69, 78, 84, 73, 84, 89]⟩⟩
def sAtt : ByteArray := ⟨⟨[60, 33, 65, 84, 84, 76, 73, 83, 84]⟩⟩
def sEle : ByteArray := ⟨⟨[60, 33, 69, 76, 69, 77, 69, 78, 84]⟩⟩
def dcI (l : List Int) : Option (ByteArray × ByteArray) := if l.all isChar = true then (match elI l 9 with
  | none => none
  | some (d, k) => if sdI l (skI l k) ⟨⟨[62]⟩⟩ = true then (if skI l k + 1 = l.length then some d else none) else none) else none
def dcO (l : List Int) (R : Option (ByteArray × ByteArray)) : Option (AV × List Ob) := R.map fun q => (elR q.1 q.2, [rdB l l.length])
def csDc (L : List AV) (b0 b1 b2 : Bool) (T C : ByteArray) (k4 k5 k6 n : Int) : Nat → List AV → List Ob → Option (AV × List Ob) := fun g args _ => match g, args with
  | 29, _ => some (.val (.bool b0), [])
  | 1000009, _ => some (pR b0 (.tup []), [])
  | 1000016, _ => some (.kb false, [.box [.slc 1 L, .val (.int .i64 0)]])
  | 1000021, _ => some (.kb false, [.box [.slc 1 L, .val (.int .i64 0)]])
  | 1000026, _ => some (.kb true, [.box [.slc 1 L, .val (.int .i64 9)]])
  | 33, _ => some (pR b1 (elR T C), [.box [.slc 1 L, .val (.int .i64 k4)]])
  | 24, _ => some (.val (.int .i64 n), [.box [.slc 1 L, .val (.int .i64 k5)]])
  | 23, _ => some (pR b2 (.tup []), [.box [.slc 1 L, .val (.int .i64 k6)]])
  | 1000043, [.val (.bool b)] => some (pR b (.tup []), [])
  | _, _ => none
set_option maxRecDepth 100000 in
theorem decl_b (l : List Int) (hl : l.length ≤ 1000000) (h1 : sdI l 0 sEnt = false) (h2 : sdI l 0 sAtt = false) (h3 : sdI l 0 sEle = true) :
    BEnd Tryz.prog 15 [.box 0 0] [rdB l 0] wrongV (dcO l (dcI l)) := by
  have hk0 : Pla l 0 := ⟨Int.le_refl 0, by omega⟩
  have hk9 : Pla l 9 := hk0.st h3
  have cA := All_b l isChar 30 eg_Char Char_ok
  have cN1 := (next_b l hl 0 hk0 sEnt (by decide))
  rw [h1, nx_no h1] at cN1
  have cN2 := (next_b l hl 0 hk0 sAtt (by decide))
  rw [h2, nx_no h2] at cN2
  have cN3 := (next_b l hl 0 hk0 sEle (by decide))
  rw [h3, show nxI l 0 sEle = 9 by rw [nxI, if_pos h3]; rfl] at cN3
  have cN1 := cN1.kb
  have cN2 := cN2.kb
  have cN3 := cN3.kb
  have cE := element_b l hl 9 hk9
  have cS := space_b l hl
  have cT := take_b l hl
  obtain ⟨R, hR⟩ : ∃ R, R = dcO l (dcI l) := ⟨_, rfl⟩
  rw [← hR]
  obtain ⟨b0, hb0⟩ : ∃ b0, b0 = l.all isChar := ⟨_, rfl⟩
  rw [← hb0] at cA
  obtain ⟨b1, hb1⟩ : ∃ b1, b1 = (elI l 9).isSome := ⟨_, rfl⟩
  obtain ⟨T, hT⟩ : ∃ T, T = ((elI l 9).getD ((⟨#[]⟩, ⟨#[]⟩), 0)).1.1 := ⟨_, rfl⟩
  obtain ⟨C, hC⟩ : ∃ C, C = ((elI l 9).getD ((⟨#[]⟩, ⟨#[]⟩), 0)).1.2 := ⟨_, rfl⟩
  obtain ⟨k4, hk4⟩ : ∃ k4, k4 = ((elI l 9).getD ((⟨#[]⟩, ⟨#[]⟩), 0)).2 := ⟨_, rfl⟩
  obtain ⟨k5, hk5⟩ : ∃ k5, k5 = skI l k4 := ⟨_, rfl⟩
  obtain ⟨n, hn⟩ : ∃ n, n = skI l k4 - k4 := ⟨_, rfl⟩
  obtain ⟨b2, hb2⟩ : ∃ b2, b2 = sdI l k5 ⟨⟨[62]⟩⟩ := ⟨_, rfl⟩
  obtain ⟨k6, hk6⟩ : ∃ k6, k6 = k5 + 1 := ⟨_, rfl⟩
  have e1 : b1 = true → elI l 9 = some ((T, C), k4) ∧ Pla l k4 := fun h => by
    rw [hb1] at h
    cases hx : elI l 9 with
    | none => rw [hx] at h; cases h
    | some q =>
      rw [hx] at hT hC hk4
      refine ⟨by rw [hT, hC, hk4]; rfl, ?_⟩
      rw [hk4]
      exact el_ok hk9 hx
  have e0 : b1 = false → elI l 9 = none := fun h => by
    rw [hb1] at h
    cases hx : elI l 9 with
    | none => rfl
    | some q => rw [hx] at h; cases h
  have p0 : b0 = false → R = none := fun h => by rw [hR, dcI, if_neg (by rw [← hb0, h]; decide)]; rfl
  have c1 : b1 = true → BCall Tryz.prog 33 [.box 0 0] [rdB l 9] (elR T C) [rdB l k4] := fun h => cE.call (by rw [(e1 h).1]; rfl)
  have p1 : b0 = true → b1 = false → BPan Tryz.prog 33 [.box 0 0] [rdB l 9] wrongV ∧ R = none := fun h h2 =>
    ⟨cE.pan (by rw [e0 h2]; rfl), by rw [hR, dcI, if_pos (by rw [← hb0, h]), e0 h2]; rfl⟩
  have c2 : Pla l k4 → BCall Tryz.prog 24 [.box 0 0] [rdB l k4] (.val (.int .i64 n)) [rdB l k5] ∧ Pla l k5 := fun h => by
    rw [hn, hk5]; exact ⟨cS k4 h, h.sp⟩
  have c3 : Pla l k5 → b2 = true → BCall Tryz.prog 23 [.box 0 0, .val (.string ⟨⟨[62]⟩⟩)] [rdB l k5] (.tup []) [rdB l k6] := fun hp h => (cT k5 hp ⟨⟨[62]⟩⟩ (by decide)).call (by rw [if_pos (hb2.symm.trans h), hk6]; rfl)
  have p3 : b0 = true → b1 = true → Pla l k5 → b2 = false → BPan Tryz.prog 23 [.box 0 0, .val (.string ⟨⟨[62]⟩⟩)] [rdB l k5] wrongV ∧ R = none := fun h h1 hp h2 => by
    have h3 : ¬ sdI l k5 ⟨⟨[62]⟩⟩ = true := by rw [← hb2, h2]; decide
    exact ⟨(cT k5 hp ⟨⟨[62]⟩⟩ (by decide)).pan (by rw [if_neg h3]; rfl), by rw [hR, dcI, if_pos (by rw [← hb0, h]), (e1 h1).1]; simp only; rw [← hk5, if_neg h3]; rfl⟩
  have f1 : b0 = true → b1 = true → b2 = true → k6 = l.length → R = some (elR T C, [rdB l l.length]) := fun h h1 h2 h4 => by
    rw [hR, dcI, if_pos (by rw [← hb0, h]), (e1 h1).1]; simp only; rw [← hk5, if_pos (hb2.symm.trans h2), if_pos (by rw [← hk6]; exact h4)]; rfl
  have f0 : b0 = true → b1 = true → b2 = true → ¬ k6 = l.length → R = none := fun h h1 h2 h4 => by
    rw [hR, dcI, if_pos (by rw [← hb0, h]), (e1 h1).1]; simp only; rw [← hk5, if_pos (hb2.symm.trans h2), if_neg (by rw [← hk6]; exact h4)]; rfl
  clear cE cS cT hR hb0 hb1 hT hC hk4 hk5 hn hb2 hk6 h1 h2 h3
  obtain ⟨N, hN⟩ := exLen l
  have hNN : std.len (runesA l) = N := by show ((runesA l).length : Int) = N; rw [runes_len, hN.eq]
  have f1 : b0 = true → b1 = true → b2 = true → k6 = N → R = some (elR T C, [rdB l N]) := fun h h1 h2 h4 => by rw [hN.eq] at h4 ⊢; exact f1 h h1 h2 h4
  have f0 : b0 = true → b1 = true → b2 = true → ¬ k6 = N → R = none := fun h h1 h2 h4 => by rw [hN.eq] at h4; exact f0 h h1 h2 h4
  unfold rdB at *
  refine fnE _ _ (csDc (runesA l) b0 b1 b2 T C k4 k5 k6 n) (fun _ => .nil) Tryz.func15 rfl fun _ _ => ?_
  with_reducible refine cv1 (runesA l) ?_
  refine ⟨cA, fun h0 => ⟨must_c h0, cN1, cN2, cN3, fun h1 => ?_, fun h1 => ⟨(p1 h0 h1).1, fun _ => .pan (p1 h0 h1).2⟩⟩, fun h0 => ⟨must_p h0, fun _ => .pan (p0 h0)⟩⟩
  obtain ⟨_, q4⟩ := e1 h1
  obtain ⟨cs, q5⟩ := c2 q4
  refine ⟨c1 h1, cs, fun h2 => ⟨c3 q5 h2, fun h3 => ⟨must_c h3, ?_⟩, fun h3 => ⟨must_p h3, fun _ => .pan (f0 h0 h1 h2 fun e => ?_)⟩⟩, fun h2 => ⟨(p3 h0 h1 q5 h2).1, fun _ => .pan (p3 h0 h1 q5 h2).2⟩⟩
  · have h3 : (k6 == std.len (runesA l)) = true := h3
    rw [hNN] at h3
    have h4 : k6 = N := eq_of_beq h3
    refine .ok (f1 h0 h1 h2 h4) ⟨[some 0], _, _, rfl, rfl, Nat.le_refl _, rfl, ?_, leA_refl rfl⟩
    exact eq1 h4
  · have h3 : (k6 == std.len (runesA l)) = false := h3
    rw [hNN, e] at h3
    exact absurd h3 (by simp)
end Go.Proofs.YtdmbfngenffcaaaGreat
namespace Go.Proofs.YtdmbfngenffcaaaGreat
open Go.RowKit Go.Lib
noncomputable def Ko_tab : List (Nat × FnI) := [
  (15, ⟨Tryz.f15, Tryz.f15.body.getD .skip, fun _ => .nil⟩),
  (30, ⟨Tryz.f30, Tryz.f30.body.getD .skip, fun _ => .nil⟩),
  (52, ⟨Tryz.f52, Tryz.f52.body.getD .skip, fun _ => .nil⟩),
  (28, ⟨Tryz.f28, Tryz.f28.body.getD .skip, fun _ => .nil⟩),
  (25, ⟨Tryz.f25, Tryz.f25.body.getD .skip, fun _ => .nil⟩),
  (31, ⟨Tryz.f31, Tryz.f31.body.getD .skip, fun _ => .nil⟩),
  (53, ⟨Tryz.f53, Tryz.f53.body.getD .skip, fun _ => .nil⟩),
  (24, ⟨Tryz.f24, Tryz.f24.body.getD .skip, fun _ => .nil⟩),
  (54, ⟨Tryz.f54, Tryz.f54.body.getD .skip, fun _ => .nil⟩),
  (45, ⟨Tryz.f45, Tryz.f45.body.getD .skip, fun _ => .nil⟩),
  (71, ⟨Tryz.f71, Tryz.f71.body.getD .skip, fun _ => .nil⟩),
  (55, ⟨Tryz.f55, Tryz.f55.body.getD .skip, fun _ => .nil⟩),
  (22, ⟨Tryz.f22, Tryz.f22.body.getD .skip, fun _ => .nil⟩),
  (57, ⟨Tryz.f57, Tryz.f57.body.getD .skip, fun _ => .nil⟩),
  (76, ⟨Tryz.f76, Tryz.f76.body.getD .skip, fun _ => .nil⟩),
  (96, ⟨Tryz.f96, Tryz.f96.body.getD .skip, fun _ => .nil⟩),
  (97, ⟨Tryz.f97, Tryz.f97.body.getD .skip, fun _ => .nil⟩),
  (104, ⟨Tryz.f104, Tryz.f104.body.getD .skip, fun _ => .nil⟩),
  (77, ⟨Tryz.f77, Tryz.f77.body.getD .skip, fun _ => .nil⟩),
  (72, ⟨Tryz.f72, Tryz.f72.body.getD .skip, fun _ => .nil⟩),
  (56, ⟨Tryz.f56, Tryz.f56.body.getD .skip, fun _ => .nil⟩),
  (73, ⟨Tryz.f73, Tryz.f73.body.getD .skip, fun _ => .nil⟩),
  (92, ⟨Tryz.f92, Tryz.f92.body.getD .skip, fun _ => .nil⟩),
  (74, ⟨Tryz.f74, Tryz.f74.body.getD .skip, fun _ => .nil⟩),
  (94, ⟨Tryz.f94, Tryz.f94.body.getD .skip, fun _ => .nil⟩),
  (102, ⟨Tryz.f102, Tryz.f102.body.getD .skip, fun _ => .nil⟩),
  (108, ⟨Tryz.f108, Tryz.f108.body.getD .skip, fun _ => .nil⟩),
  (115, ⟨Tryz.f115, Tryz.f115.body.getD .skip, fun _ => .nil⟩),
  (124, ⟨Tryz.f124, Tryz.f124.body.getD .skip, fun _ => .nil⟩),
  (116, ⟨Tryz.f116, Tryz.f116.body.getD .skip, fun _ => .nil⟩),
  (125, ⟨Tryz.f125, Tryz.f125.body.getD .skip, fun _ => .nil⟩),
  (126, ⟨Tryz.f126, Tryz.f126.body.getD .skip, fun _ => .nil⟩),
  (127, ⟨Tryz.f127, Tryz.f127.body.getD .skip, fun _ => .nil⟩),
  (130, ⟨Tryz.f130, Tryz.f130.body.getD .skip, fun _ => .nil⟩),
  (128, ⟨Tryz.f128, Tryz.f128.body.getD .skip, fun _ => .nil⟩),
  (117, ⟨Tryz.f117, Tryz.f117.body.getD .skip, fun _ => .nil⟩),
  (118, ⟨Tryz.f118, Tryz.f118.body.getD .skip, fun _ => .nil⟩),
  (109, ⟨Tryz.f109, Tryz.f109.body.getD .skip, fun _ => .nil⟩),
  (119, ⟨Tryz.f119, Tryz.f119.body.getD .skip, fun _ => .nil⟩),
  (129, ⟨Tryz.f129, Tryz.f129.body.getD .skip, fun _ => .nil⟩),
  (122, ⟨Tryz.f122, Tryz.f122.body.getD .skip, fun _ => .nil⟩),
  (121, ⟨Tryz.f121, Tryz.f121.body.getD .skip, fun _ => .nil⟩),
  (110, ⟨Tryz.f110, Tryz.f110.body.getD .skip, fun _ => .nil⟩),
  (103, ⟨Tryz.f103, Tryz.f103.body.getD .skip, fun _ => .nil⟩),
  (111, ⟨Tryz.f111, Tryz.f111.body.getD .skip, fun _ => .nil⟩),
  (68, ⟨Tryz.f68, Tryz.f68.body.getD .skip, fun _ => .nil⟩),
  (86, ⟨Tryz.f86, Tryz.f86.body.getD .skip, fun _ => .nil⟩),
  (23, ⟨Tryz.f23, Tryz.f23.body.getD .skip, fun _ => .nil⟩)]
theorem Ko_tab_ok : GoodL Ko_tab := by
  unfold Ko_tab
  refine ⟨⟨Nat.le_of_ble_eq_true rfl, Tryz.func15, rfl, by kernel_rfl⟩, ?_⟩
  refine ⟨⟨Nat.le_of_ble_eq_true rfl, Tryz.func30, rfl, by kernel_rfl⟩, ?_⟩
  refine ⟨⟨Nat.le_of_ble_eq_true rfl, Tryz.func52, rfl, by kernel_rfl⟩, ?_⟩
  refine ⟨⟨Nat.le_of_ble_eq_true rfl, Tryz.func28, rfl, by kernel_rfl⟩, ?_⟩
  refine ⟨⟨Nat.le_of_ble_eq_true rfl, Tryz.func25, rfl, by kernel_rfl⟩, ?_⟩
  refine ⟨⟨Nat.le_of_ble_eq_true rfl, Tryz.func31, rfl, by kernel_rfl⟩, ?_⟩
  refine ⟨⟨Nat.le_of_ble_eq_true rfl, Tryz.func53, rfl, by kernel_rfl⟩, ?_⟩
  refine ⟨⟨Nat.le_of_ble_eq_true rfl, Tryz.func24, rfl, by kernel_rfl⟩, ?_⟩
  refine ⟨⟨Nat.le_of_ble_eq_true rfl, Tryz.func54, rfl, by kernel_rfl⟩, ?_⟩
  refine ⟨⟨Nat.le_of_ble_eq_true rfl, Tryz.func45, rfl, by kernel_rfl⟩, ?_⟩
  refine ⟨⟨Nat.le_of_ble_eq_true rfl, Tryz.func71, rfl, by kernel_rfl⟩, ?_⟩
  refine ⟨⟨Nat.le_of_ble_eq_true rfl, Tryz.func55, rfl, by kernel_rfl⟩, ?_⟩
  refine ⟨⟨Nat.le_of_ble_eq_true rfl, Tryz.func22, rfl, by kernel_rfl⟩, ?_⟩
  refine ⟨⟨Nat.le_of_ble_eq_true rfl, Tryz.func57, rfl, by kernel_rfl⟩, ?_⟩
  refine ⟨⟨Nat.le_of_ble_eq_true rfl, Tryz.func76, rfl, by kernel_rfl⟩, ?_⟩
  refine ⟨⟨Nat.le_of_ble_eq_true rfl, Tryz.func96, rfl, by kernel_rfl⟩, ?_⟩
  refine ⟨⟨Nat.le_of_ble_eq_true rfl, Tryz.func97, rfl, by kernel_rfl⟩, ?_⟩
  refine ⟨⟨Nat.le_of_ble_eq_true rfl, Tryz.func104, rfl, by kernel_rfl⟩, ?_⟩
  refine ⟨⟨Nat.le_of_ble_eq_true rfl, Tryz.func77, rfl, by kernel_rfl⟩, ?_⟩
  refine ⟨⟨Nat.le_of_ble_eq_true rfl, Tryz.func72, rfl, by kernel_rfl⟩, ?_⟩
  refine ⟨⟨Nat.le_of_ble_eq_true rfl, Tryz.func56, rfl, by kernel_rfl⟩, ?_⟩
  refine ⟨⟨Nat.le_of_ble_eq_true rfl, Tryz.func73, rfl, by kernel_rfl⟩, ?_⟩
  refine ⟨⟨Nat.le_of_ble_eq_true rfl, Tryz.func92, rfl, by kernel_rfl⟩, ?_⟩
  refine ⟨⟨Nat.le_of_ble_eq_true rfl, Tryz.func74, rfl, by kernel_rfl⟩, ?_⟩
  refine ⟨⟨Nat.le_of_ble_eq_true rfl, Tryz.func94, rfl, by kernel_rfl⟩, ?_⟩
  refine ⟨⟨Nat.le_of_ble_eq_true rfl, Tryz.func102, rfl, by kernel_rfl⟩, ?_⟩
  refine ⟨⟨Nat.le_of_ble_eq_true rfl, Tryz.func108, rfl, by kernel_rfl⟩, ?_⟩
  refine ⟨⟨Nat.le_of_ble_eq_true rfl, Tryz.func115, rfl, by kernel_rfl⟩, ?_⟩
  refine ⟨⟨Nat.le_of_ble_eq_true rfl, Tryz.func124, rfl, by kernel_rfl⟩, ?_⟩
  refine ⟨⟨Nat.le_of_ble_eq_true rfl, Tryz.func116, rfl, by kernel_rfl⟩, ?_⟩
  refine ⟨⟨Nat.le_of_ble_eq_true rfl, Tryz.func125, rfl, by kernel_rfl⟩, ?_⟩
  refine ⟨⟨Nat.le_of_ble_eq_true rfl, Tryz.func126, rfl, by kernel_rfl⟩, ?_⟩
  refine ⟨⟨Nat.le_of_ble_eq_true rfl, Tryz.func127, rfl, by kernel_rfl⟩, ?_⟩
  refine ⟨⟨Nat.le_of_ble_eq_true rfl, Tryz.func130, rfl, by kernel_rfl⟩, ?_⟩
  refine ⟨⟨Nat.le_of_ble_eq_true rfl, Tryz.func128, rfl, by kernel_rfl⟩, ?_⟩
  refine ⟨⟨Nat.le_of_ble_eq_true rfl, Tryz.func117, rfl, by kernel_rfl⟩, ?_⟩
  refine ⟨⟨Nat.le_of_ble_eq_true rfl, Tryz.func118, rfl, by kernel_rfl⟩, ?_⟩
  refine ⟨⟨Nat.le_of_ble_eq_true rfl, Tryz.func109, rfl, by kernel_rfl⟩, ?_⟩
  refine ⟨⟨Nat.le_of_ble_eq_true rfl, Tryz.func119, rfl, by kernel_rfl⟩, ?_⟩
  refine ⟨⟨Nat.le_of_ble_eq_true rfl, Tryz.func129, rfl, by kernel_rfl⟩, ?_⟩
  refine ⟨⟨Nat.le_of_ble_eq_true rfl, Tryz.func122, rfl, by kernel_rfl⟩, ?_⟩
  refine ⟨⟨Nat.le_of_ble_eq_true rfl, Tryz.func121, rfl, by kernel_rfl⟩, ?_⟩
  refine ⟨⟨Nat.le_of_ble_eq_true rfl, Tryz.func110, rfl, by kernel_rfl⟩, ?_⟩
  refine ⟨⟨Nat.le_of_ble_eq_true rfl, Tryz.func103, rfl, by kernel_rfl⟩, ?_⟩
  refine ⟨⟨Nat.le_of_ble_eq_true rfl, Tryz.func111, rfl, by kernel_rfl⟩, ?_⟩
  refine ⟨⟨Nat.le_of_ble_eq_true rfl, Tryz.func68, rfl, by kernel_rfl⟩, ?_⟩
  refine ⟨⟨Nat.le_of_ble_eq_true rfl, Tryz.func86, rfl, by kernel_rfl⟩, ?_⟩
  refine ⟨⟨Nat.le_of_ble_eq_true rfl, Tryz.func23, rfl, by kernel_rfl⟩, ?_⟩
  exact trivial
def exE : List Int := [60, 33, 69, 78, 84, 73, 84, 89, 32, 101, 32, 39, 38, 35, 54, 53, 59, 38, 120, 59, 39, 62]
def exR : AV := .agg [.val (.int .i64 1), .val (.string ⟨⟨[101]⟩⟩), .slc 1 (runesA [65, 38, 120, 59]), .val (.bool false), .val (.string ⟨⟨[]⟩⟩), .val (.string ⟨⟨[]⟩⟩), .val (.string ⟨⟨[]⟩⟩), .val (.string ⟨⟨[]⟩⟩), .val (.slice none 0 0)]
theorem declE_b : BCall Tryz.prog 15 [.box 0 0] [.box [.slc 1 (runesA exE), .val (.int .i64 0)]] exR [.box [.slc 1 (runesA exE), .val (.int .i64 22)]] :=
  (run_ok (lf := 100) (tab_ok Ko_tab_ok) b4_ok (ask := ask0) (fun _ _ h => by cases h) 40 _ _ _ _ _ (by kernel_rfl)).2
end Go.Proofs.YtdmbfngenffcaaaGreat
namespace Go.Proofs.YtdmbfngenffcaaaGreat
open Go.RowKit Go.Lib
section
variable {P : Program} {W : World} {g : Gh} {cur : Array Value} {T : TypeId} {cs : List AV} {f : Nat}
theorem box_start (M : Mem W g []) (hc : ARelC W g [] cur.toList cs) : Mem (W.alloc (.cells cur T)) (g.new W []) [.box cs] ∧ ARelL (W.alloc (.cells cur T)) (g.new W []) [.box cs] [.pointer (some ⟨W.heap.size, 0, none⟩)] [.box 0 0] ∧ ∀ b, b < W.heap.size → (g.new W []).G b = none := by
  have hG : ∀ b, g.G b = none := fun b => by
    cases h : g.G b with
    | none => rfl
    | some id => exact absurd (M.own b id h).2 (by simp)
  refine ⟨M.new (.cells cur T) (.box cs) (fun c h => by cases h; exact ⟨_, _, rfl, hc⟩) (fun c h => by cases h) (fun s p h => by cases h) (fun et sz fz e xs h => by cases h), argL_cons ⟨by simp [Gh.new], trivial⟩ argL_nil, fun b hb => ?_⟩
  simp only [Gh.new]
  rw [if_neg (by omega)]; exact hG b
theorem box_below {w' : World} {g' : Gh} {ob' : List Ob} (hn : ∀ b, b < W.heap.size → (g.new W []).G b = none) (S : Step (W.alloc (.cells cur T)) (g.new W []) [.box cs] w' g' ob') : Below W.heap.size W w' := by
  have hsz : (W.alloc (.cells cur T)).heap.size = W.heap.size + 1 := by simp
  refine ⟨S.os, S.tape, S.output, ?_, fun b hb => ?_⟩
  · have := S.size; omega
  · rw [S.keep b (by omega) (hn b hb)]; exact heap_old hb
theorem BCall.atBox {res : AV} {cs' : List AV} (h : BCall P f [.box 0 0] [.box cs] res [.box cs']) (M : Mem W g []) (hc : ARelC W g [] cur.toList cs) :
    Calls P f #[.pointer (some ⟨W.heap.size, 0, none⟩)] (W.alloc (.cells cur T)) fun e w' => ∃ v g' cur' T', e = .returned v ∧ Below W.heap.size W w' ∧ w'.heap[W.heap.size]? = some (.cells cur' T' (0, 0)) ∧ ARelC w' g' [.box cs'] cur'.toList cs' ∧ ARel w' g' [.box cs'] v res ∧ Mem w' g' [.box cs'] := by
  obtain ⟨M2, hL, hn⟩ := box_start (T := T) M hc
  refine (h.2 _ _ _ M2 hL).mono fun e w' ⟨v, g', k1, k2, k3, k4⟩ => ?_
  obtain ⟨_, cur', T', h1, h2⟩ := k2.box 0 cs' rfl
  have hl : g'.loc 0 = W.heap.size := by
    rw [k4.ext.loc 0 (by simp)]; simp [Gh.new]
  rw [hl] at h1
  exact ⟨v, g', cur', T', k1, box_below hn k4, h1, h2, k3, k2⟩
theorem BPan.atBox {x : Value} (h : BPan P f [.box 0 0] [.box cs] x) (M : Mem W g []) (hc : ARelC W g [] cur.toList cs) :
    Calls P f #[.pointer (some ⟨W.heap.size, 0, none⟩)] (W.alloc (.cells cur T)) fun e w' => e = .panicked [{ v := x, recovered := false }] ∧ Below W.heap.size W w' := by
  obtain ⟨M2, hL, hn⟩ := box_start (T := T) M hc
  exact (h.2 _ _ _ M2 hL).mono fun e w' ⟨g', ob', k1, _, k4⟩ => ⟨k1, box_below hn k4⟩
end
set_option maxRecDepth 100000 in
set_option maxHeartbeats 2000000 in
theorem caught_idle (p : Addr) (w : World) :
    CallsD Tryz.prog 13 #[.pointer (some p)] .returning w fun e u' w' => e = .returned (.tuple #[]) ∧ u' = .returning ∧ w' = w := by
  refine callsD_of_wpS Tryz.func13 rfl fun c₀ cs hu => ?_
  apply wpS_seq
  apply wpS_region
  simp [wpOpsS, go_sem, recoverD, hu, Tryz.ntmps13, Exit.thenS]
  refine wpS_of_wp ?_
  rw [show (#[Value.pointer (some p)] ++ ((Array.replicate 17 undef).setIfInBounds 4 Value.nilIface).setIfInBounds 1 Value.nilIface) = #[.pointer (some p), undef, .nilIface, undef, undef, .nilIface, undef, undef, undef, undef, undef, undef, undef, undef, undef, undef, undef, undef] from rfl]
  go_wp2
  cases c₀
  simp_all [bodyPostS, results, Tryz.results13]
set_option maxRecDepth 100000 in
set_option maxHeartbeats 2000000 in
theorem caught_pan (p : Addr) (w : World) (b : Bool) (hc : w.cell? p = some (.bool b)) (hz : w.frozen? p = false) :
    CallsD Tryz.prog 13 #[.pointer (some p)] (.panicking [{ v := wrongV, recovered := false }]) w fun e u' w' => e = .returned (.tuple #[]) ∧ u' = .panicking [{ v := wrongV, recovered := true }] ∧ ∃ w1, Below w.heap.size w w1 ∧ w' = w1.setCell p (.bool false) := by
  have hlt := World.block_lt_of_cell? _ _ hc
  have hc2 : ∀ o, (w.alloc o).cell? p = some (.bool b) := fun o => by rw [World.cell?_alloc_old _ _ _ (Nat.ne_of_lt hlt)]; exact hc
  have hz2 : ∀ o, (w.alloc o).frozen? p = false := fun o => by rw [← hz]; exact Below.frozen ((Below.refl w.heap.size w).alloc (Nat.le_refl _) o) hlt
  have hta : ∀ w, (Instr.typeAssert (.iface 51 (.agg #[])) 20 51 true).run Tryz.prog w = .ok (.tuple #[.agg #[], .bool true]) w := fun w => by kernel_rfl
  refine callsD_of_wpS Tryz.func13 rfl fun c₀ cs hu => ?_
  apply wpS_seq
  apply wpS_region
  simp [wpOpsS, go_sem, recoverD, hu, Tryz.ntmps13, Exit.thenS, wrongV]
  refine wpS_of_wp ?_
  rw [show (#[Value.pointer (some p)] ++ ((Array.replicate 17 undef).setIfInBounds 4 (Value.iface 51 (Value.agg #[]))).setIfInBounds 1 (Value.iface 51 (Value.agg #[]))) = #[.pointer (some p), undef, (.iface 51 (.agg #[])), undef, undef, (.iface 51 (.agg #[])), undef, undef, undef, undef, undef, undef, undef, undef, undef, undef, undef, undef] from rfl]
  go_wp2
  cases c₀
  simp_all [bodyPostS, results, Tryz.results13]
  exact ⟨_, (Below.refl w.heap.size w).alloc (Nat.le_refl _) _, rfl⟩
end Go.Proofs.YtdmbfngenffcaaaGreat
namespace Go.Proofs.YtdmbfngenffcaaaGreat
open Go.RowKit Go.Lib
end Go.Proofs.YtdmbfngenffcaaaGreat
namespace Go.Proofs.YtdmbfngenffcaaaGreat
open Go.RowKit Go.Lib
theorem bel_row {B k : Nat} {w0 w : World} (hb : Below B w0 w) (h : B ≤ k) (cs : Array Value) : Below B w0 (w.setRow k cs) :=
  hb.trans ⟨rfl, rfl, rfl, by simp [World.setRow], fun j hj => setRow_other w k j cs (by omega)⟩
theorem BCall.atBox2 {P : Program} {W : World} {g : Gh} {cur : Array Value} {T : TypeId} {cs : List AV} {f : Nat} {res : AV} {cs' : List AV} (h : BCall P f [.box 0 0] [.box cs] res [.box cs']) (M : Mem W g []) (hc : ARelC W g [] cur.toList cs) :
    Calls P f #[.pointer (some ⟨W.heap.size, 0, none⟩)] (W.alloc (.cells cur T)) fun e w' => ∃ v g', e = .returned v ∧ Below W.heap.size W w' ∧ ARel w' g' [.box cs'] v res ∧ ∀ b o, g'.A b o → (g.A b o ∧ b < W.heap.size) ∨ (W.heap.size ≤ b ∧ b < w'.heap.size) := by
  obtain ⟨M2, hL, hn⟩ := box_start (T := T) M hc
  refine (h.2 _ _ _ M2 hL).mono fun e w' ⟨v, g', k1, k2, k3, k4⟩ => ⟨v, g', k1, box_below hn k4, k3, fun b o h => ?_⟩
  have hlt := (k2.imm b o h).1
  rcases k4.imm b o h with h1 | ⟨id, h1⟩ | h1
  · by_cases hb : b < W.heap.size
    · exact .inl ⟨h1, hb⟩
    · exact .inr ⟨by omega, hlt⟩
  · by_cases hb : b < W.heap.size
    · rw [hn b hb] at h1; cases h1
    · exact .inr ⟨by omega, hlt⟩
  · have : (W.alloc (.cells cur T)).heap.size = W.heap.size + 1 := by simp
    exact .inr ⟨by omega, hlt⟩
set_option maxRecDepth 100000 in
set_option maxHeartbeats 2000000 in
theorem readE_b : BCall Tryz.prog 11 [.slc 1 (runesA exE)] [] (.tup [exR, .val (.bool true)]) [] := by
  refine BCall.hand (enters_of Tryz.func11 (by kernel_rfl) rfl) fun w g vs M hL => ?_
  obtain ⟨v1, vs1, rfl, h1, hL⟩ := argsCons hL
  obtain rfl := argsNil hL
  obtain ⟨A, c, rfl, hr⟩ := runes_rd h1 M
  obtain ⟨Z, hZ⟩ : ∃ Z, Z = #[Value.int IntKind.i64 0, Value.string ⟨#[]⟩, Value.slice none 0 0, Value.bool false, Value.string ⟨#[]⟩, Value.string ⟨#[]⟩, Value.string ⟨#[]⟩, Value.string ⟨#[]⟩, Value.slice none 0 0] := ⟨_, rfl⟩
  obtain ⟨W0, hW0⟩ : ∃ W0, W0 = (w.alloc (Obj.cells Z 28)).alloc (Obj.cells #[Value.bool true] 4) := ⟨_, rfl⟩
  have hb : Below w.heap.size w W0 := by
    rw [hW0]; exact ((Below.refl w.heap.size w).alloc (Nat.le_refl _) _).alloc (by simp) _
  have hsz : W0.heap.size = w.heap.size + 1 + 1 := by rw [hW0]; simp
  have M1 := M.below hb
  have hc0 : ARelC W0 g [] #[Value.slice A exE.length c, Value.int IntKind.i64 0].toList [.slc 1 (runesA exE), .val (.int .i64 0)] := by
    refine ⟨rfl, fun j v x hv hx => ?_⟩
    match j, hv, hx with
    | 0, hv, hx => cases hv; cases hx; exact ⟨ARel0.ext (Ext.below M hb) h1, rfl⟩
    | 1, hv, hx => cases hv; cases hx; exact ⟨PRel.val _ rfl, rfl⟩
    | j + 2, hv, hx => simp at hv
  have cC := declE_b.atBox2 (T := 42) M1 hc0
  rw [hsz] at cC
  go_enter_defers Tryz.func11, Tryz.ntmps11
  go_wp2_with (go_at_call 15; rw [← hZ, ← hW0]; refine cC.mono ?_)
  rintro e w' v rfl hbe g' hv hA
  rw [← hZ, ← hW0] at hbe
  obtain ⟨vs, rfl, hvs⟩ := (show ARel1 w' g' _ v (.agg _) from hv)
  have hz0 : w'.heap[w.heap.size]? = some (Obj.cells Z 28 (0, 0)) := by
    rw [hbe.block w.heap.size (by omega), hW0, heap_old (by simp)]; exact heap_new _ _
  have hz1 : w'.heap[w.heap.size + 1]? = some (Obj.cells #[Value.bool true] 4 (0, 0)) := by
    rw [hbe.block (w.heap.size + 1) (by omega), hW0]
    have := heap_new (w.alloc (Obj.cells Z 28)) (Obj.cells #[Value.bool true] 4)
    simpa using this
  have hk1 : w'.cell? ⟨w.heap.size + 1, 0, none⟩ = some (.bool true) := by simp [World.cell?, hz1]
  have hk2 : w'.frozen? ⟨w.heap.size + 1, 0, none⟩ = false := by simp [World.frozen?, hz1]
  have hvl : vs.size = 9 := by have := hvs.1; simpa using this
  have hv1 : ∀ v ∈ vs.toList, v.oneCell' = true := fun v hv => by
    obtain ⟨j, hj, rfl⟩ := List.mem_iff_getElem.1 hv
    exact (hvs.2 j _ _ (List.getElem?_eq_getElem hj) (List.getElem?_eq_getElem (by rw [← hvs.1]; exact hj))).2
  have hst : Sem.run Tryz.prog (storeCells ⟨w.heap.size, 0, none⟩ vs.toList) w' = .ok () (w'.setRow w.heap.size vs) := by
    have := run_storeCells_from (P := Tryz.prog) w.heap.size 28 vs.toList 0 Z w' hz0 (by rw [hZ]; simp [hvl]) hv1
    simpa using this
  have hr0 : (w'.setRow w.heap.size vs).heap[w.heap.size]? = some (Obj.cells vs 28 (0, 0)) := setRow_heap _ _ _ _ _ _ hz0
  have hr1 : (w'.setRow w.heap.size vs).heap[w.heap.size + 1]? = some (Obj.cells #[Value.bool true] 4 (0, 0)) := by
    rw [setRow_other _ _ _ _ (by omega)]; exact hz1
  have hk1 : (w'.setRow w.heap.size vs).cell? ⟨w.heap.size + 1, 0, none⟩ = some (.bool true) := by simp [World.cell?, hr1]
  have hk2 : (w'.setRow w.heap.size vs).frozen? ⟨w.heap.size + 1, 0, none⟩ = false := by simp [World.frozen?, hr1]
  go_wp2
  have eW : (w'.setRow w.heap.size vs).setCell ⟨w.heap.size + 1, 0, none⟩ (Value.bool true) = (w'.setRow w.heap.size vs).setRow (w.heap.size + 1) #[Value.bool true] :=
    setCell_eq_setRow _ _ _ _ _ _ _ hr1
  rw [eW]
  have hs0 : ((w'.setRow w.heap.size vs).setRow (w.heap.size + 1) #[Value.bool true]).heap[w.heap.size]? = some (Obj.cells vs 28 (0, 0)) := by
    rw [setRow_other _ _ _ _ (by omega)]; exact hr0
  have hs1 : ((w'.setRow w.heap.size vs).setRow (w.heap.size + 1) #[Value.bool true]).heap[w.heap.size + 1]? = some (Obj.cells #[Value.bool true] 4 (0, 0)) := setRow_heap _ _ _ _ _ _ hr1
  have hbW : Below w.heap.size w ((w'.setRow w.heap.size vs).setRow (w.heap.size + 1) #[Value.bool true]) :=
    bel_row (bel_row (hb.trans (hbe.mono (by omega))) (Nat.le_refl _) _) (by omega) _
  have hsW : ((w'.setRow w.heap.size vs).setRow (w.heap.size + 1) #[Value.bool true]).heap.size = w'.heap.size := by simp
  have hkeep : ∀ b o, g'.A b o → (g.imm w ((w'.setRow w.heap.size vs).setRow (w.heap.size + 1) #[Value.bool true])).A b o ∧ ((w'.setRow w.heap.size vs).setRow (w.heap.size + 1) #[Value.bool true]).cell? ⟨b, o, none⟩ = w'.cell? ⟨b, o, none⟩ := fun b o h => by
    have hne : b ≠ w.heap.size ∧ b ≠ w.heap.size + 1 ∧ (g.A b o ∨ (w.heap.size ≤ b ∧ b < w'.heap.size)) := by
      rcases hA b o h with ⟨h1, _⟩ | ⟨h1, h2⟩
      · have := (M.imm b o h1).1
        exact ⟨by omega, by omega, .inl h1⟩
      · exact ⟨by omega, by omega, .inr ⟨by omega, h2⟩⟩
    refine ⟨by show g.A b o ∨ _; rw [hsW]; exact hne.2.2, ?_⟩
    rw [cell_setRow_other _ _ _ _ hne.2.1, cell_setRow_other _ _ _ _ hne.1]
  generalize (w'.setRow w.heap.size vs).setRow (w.heap.size + 1) #[Value.bool true] = W2 at *
  refine leaves_cons (f := 13) (args := #[.pointer (some ⟨w.heap.size + 1, 0, none⟩)]) (by simp) (by simp [go_sem]) ?_
  refine (caught_idle ⟨w.heap.size + 1, 0, none⟩ _).mono ?_
  rintro e u' w'' ⟨rfl, rfl, rfl⟩
  have hc1 : w''.cell? ⟨w.heap.size + 1, 0, none⟩ = some (.bool true) := by simp [World.cell?, hs1]
  have hl0 : Sem.run Tryz.prog (loadVar 28 ⟨w.heap.size, 0, none⟩) w'' = .ok (.agg vs) w'' :=
    run_loadVar_row (P := Tryz.prog) w'' w.heap.size _ 28 vs (0, 0) _ hs0 rfl rfl (by rw [hvl]; rfl)
  have hl1 : Sem.run Tryz.prog (loadVar 4 ⟨w.heap.size + 1, 0, none⟩) w'' = .ok (.bool true) w'' := by
    simp [go_sem, hc1]
  have ha : ∀ q : Addr, Sem.run Tryz.prog (asAddr (Value.pointer (some q))) w'' = .ok q w'' := fun _ => rfl
  simp [Leaves, settle, results, Tryz.results11, hl0, hl1, ha]
  refine ⟨hbW, ⟨#[.agg vs, .bool true], rfl, rfl, fun j y u hy hu => ?_⟩⟩
  match j, hy, hu with
  | 0, hy, hu =>
    cases hy; cases hu
    refine ⟨vs, rfl, hvs.1, fun j y u e1 e2 => ?_⟩
    match j, e1, e2 with
    | 0, e1, e2 => cases e2; exact ⟨PRel.keep hkeep (hvs.2 0 y _ e1 rfl).1, (hvs.2 0 y _ e1 rfl).2⟩
    | 1, e1, e2 => cases e2; exact ⟨PRel.keep hkeep (hvs.2 1 y _ e1 rfl).1, (hvs.2 1 y _ e1 rfl).2⟩
    | 2, e1, e2 => cases e2; exact ⟨PRel.keep hkeep (hvs.2 2 y _ e1 rfl).1, (hvs.2 2 y _ e1 rfl).2⟩
    | 3, e1, e2 => cases e2; exact ⟨PRel.keep hkeep (hvs.2 3 y _ e1 rfl).1, (hvs.2 3 y _ e1 rfl).2⟩
    | 4, e1, e2 => cases e2; exact ⟨PRel.keep hkeep (hvs.2 4 y _ e1 rfl).1, (hvs.2 4 y _ e1 rfl).2⟩
    | 5, e1, e2 => cases e2; exact ⟨PRel.keep hkeep (hvs.2 5 y _ e1 rfl).1, (hvs.2 5 y _ e1 rfl).2⟩
    | 6, e1, e2 => cases e2; exact ⟨PRel.keep hkeep (hvs.2 6 y _ e1 rfl).1, (hvs.2 6 y _ e1 rfl).2⟩
    | 7, e1, e2 => cases e2; exact ⟨PRel.keep hkeep (hvs.2 7 y _ e1 rfl).1, (hvs.2 7 y _ e1 rfl).2⟩
    | 8, e1, e2 => cases e2; exact ⟨PRel.keep hkeep (hvs.2 8 y _ e1 rfl).1, (hvs.2 8 y _ e1 rfl).2⟩
    | j + 9, e1, e2 => simp at e2
  | 1, hy, hu => cases hy; cases hu; exact PRel.val _ rfl
  | j + 2, hy, hu => simp at hy
end Go.Proofs.YtdmbfngenffcaaaGreat
namespace Go.Proofs.YtdmbfngenffcaaaGreat
open Go.RowKit Go.Lib
theorem pur0_of {w : World} {g : Gh} {ob : List Ob} {v : Value} {u : AV} (hu : u.pur0 = true) (h : ARel0 w g ob v u) : PRel w g.A v u := by
  cases u <;> first | exact h | cases hu
theorem pur0_to {w : World} {g : Gh} {ob : List Ob} {v : Value} {u : AV} (hu : u.pur0 = true) (h : PRel w g.A v u) : ARel0 w g ob v u := by
  cases u <;> first | exact h | cases hu
set_option maxRecDepth 100000 in
set_option maxHeartbeats 2000000 in
theorem read_ok (l : List Int) (cs : List AV) (k : Int) (hcs : cs.length = 9) (hcp : cs.all AV.pur0 = true) (hD : BCall Tryz.prog 15 [.box 0 0] [rdB l 0] (.agg cs) [rdB l k]) : BCall Tryz.prog 11 [.slc 1 (runesA l)] [] (.tup [.agg cs, .val (.bool true)]) [] := by
  unfold rdB at hD
  refine BCall.hand (enters_of Tryz.func11 (by kernel_rfl) rfl) fun w g vs M hL => ?_
  obtain ⟨v1, vs1, rfl, h1, hL⟩ := argsCons hL
  obtain rfl := argsNil hL
  obtain ⟨A, c, rfl, hr⟩ := runes_rd h1 M
  obtain ⟨Z, hZ⟩ : ∃ Z, Z = #[Value.int IntKind.i64 0, Value.string ⟨#[]⟩, Value.slice none 0 0, Value.bool false, Value.string ⟨#[]⟩, Value.string ⟨#[]⟩, Value.string ⟨#[]⟩, Value.string ⟨#[]⟩, Value.slice none 0 0] := ⟨_, rfl⟩
  obtain ⟨W0, hW0⟩ : ∃ W0, W0 = (w.alloc (Obj.cells Z 28)).alloc (Obj.cells #[Value.bool true] 4) := ⟨_, rfl⟩
  have hb : Below w.heap.size w W0 := by
    rw [hW0]; exact ((Below.refl w.heap.size w).alloc (Nat.le_refl _) _).alloc (by simp) _
  have hsz : W0.heap.size = w.heap.size + 1 + 1 := by rw [hW0]; simp
  have M1 := M.below hb
  have hc0 : ARelC W0 g [] #[Value.slice A l.length c, Value.int IntKind.i64 0].toList [.slc 1 (runesA l), .val (.int .i64 0)] := by
    refine ⟨rfl, fun j v x hv hx => ?_⟩
    match j, hv, hx with
    | 0, hv, hx => cases hv; cases hx; exact ⟨ARel0.ext (Ext.below M hb) h1, rfl⟩
    | 1, hv, hx => cases hv; cases hx; exact ⟨PRel.val _ rfl, rfl⟩
    | j + 2, hv, hx => simp at hv
  have cC := hD.atBox2 (T := 42) M1 hc0
  rw [hsz] at cC
  go_enter_defers Tryz.func11, Tryz.ntmps11
  go_wp2_with (go_at_call 15; rw [← hZ, ← hW0]; refine cC.mono ?_)
  rintro e w' v rfl hbe g' hv hA
  rw [← hZ, ← hW0] at hbe
  obtain ⟨vs, rfl, hvs⟩ := (show ARel1 w' g' _ v (.agg _) from hv)
  have hz0 : w'.heap[w.heap.size]? = some (Obj.cells Z 28 (0, 0)) := by
    rw [hbe.block w.heap.size (by omega), hW0, heap_old (by simp)]; exact heap_new _ _
  have hz1 : w'.heap[w.heap.size + 1]? = some (Obj.cells #[Value.bool true] 4 (0, 0)) := by
    rw [hbe.block (w.heap.size + 1) (by omega), hW0]
    have := heap_new (w.alloc (Obj.cells Z 28)) (Obj.cells #[Value.bool true] 4)
    simpa using this
  have hk1 : w'.cell? ⟨w.heap.size + 1, 0, none⟩ = some (.bool true) := by simp [World.cell?, hz1]
  have hk2 : w'.frozen? ⟨w.heap.size + 1, 0, none⟩ = false := by simp [World.frozen?, hz1]
  have hvl : vs.size = 9 := by have := hvs.1; rw [hcs] at this; simpa using this
  have hv1 : ∀ v ∈ vs.toList, v.oneCell' = true := fun v hv => by
    obtain ⟨j, hj, rfl⟩ := List.mem_iff_getElem.1 hv
    exact (hvs.2 j _ _ (List.getElem?_eq_getElem hj) (List.getElem?_eq_getElem (by rw [← hvs.1]; exact hj))).2
  have hst : Sem.run Tryz.prog (storeCells ⟨w.heap.size, 0, none⟩ vs.toList) w' = .ok () (w'.setRow w.heap.size vs) := by
    have := run_storeCells_from (P := Tryz.prog) w.heap.size 28 vs.toList 0 Z w' hz0 (by rw [hZ]; simp [hvl]) hv1
    simpa using this
  have hr0 : (w'.setRow w.heap.size vs).heap[w.heap.size]? = some (Obj.cells vs 28 (0, 0)) := setRow_heap _ _ _ _ _ _ hz0
  have hr1 : (w'.setRow w.heap.size vs).heap[w.heap.size + 1]? = some (Obj.cells #[Value.bool true] 4 (0, 0)) := by
    rw [setRow_other _ _ _ _ (by omega)]; exact hz1
  have hk1 : (w'.setRow w.heap.size vs).cell? ⟨w.heap.size + 1, 0, none⟩ = some (.bool true) := by simp [World.cell?, hr1]
  have hk2 : (w'.setRow w.heap.size vs).frozen? ⟨w.heap.size + 1, 0, none⟩ = false := by simp [World.frozen?, hr1]
  go_wp2
  have eW : (w'.setRow w.heap.size vs).setCell ⟨w.heap.size + 1, 0, none⟩ (Value.bool true) = (w'.setRow w.heap.size vs).setRow (w.heap.size + 1) #[Value.bool true] :=
    setCell_eq_setRow _ _ _ _ _ _ _ hr1
  rw [eW]
  have hs0 : ((w'.setRow w.heap.size vs).setRow (w.heap.size + 1) #[Value.bool true]).heap[w.heap.size]? = some (Obj.cells vs 28 (0, 0)) := by
    rw [setRow_other _ _ _ _ (by omega)]; exact hr0
  have hs1 : ((w'.setRow w.heap.size vs).setRow (w.heap.size + 1) #[Value.bool true]).heap[w.heap.size + 1]? = some (Obj.cells #[Value.bool true] 4 (0, 0)) := setRow_heap _ _ _ _ _ _ hr1
  have hbW : Below w.heap.size w ((w'.setRow w.heap.size vs).setRow (w.heap.size + 1) #[Value.bool true]) :=
    bel_row (bel_row (hb.trans (hbe.mono (by omega))) (Nat.le_refl _) _) (by omega) _
  have hsW : ((w'.setRow w.heap.size vs).setRow (w.heap.size + 1) #[Value.bool true]).heap.size = w'.heap.size := by simp
  have hkeep : ∀ b o, g'.A b o → (g.imm w ((w'.setRow w.heap.size vs).setRow (w.heap.size + 1) #[Value.bool true])).A b o ∧ ((w'.setRow w.heap.size vs).setRow (w.heap.size + 1) #[Value.bool true]).cell? ⟨b, o, none⟩ = w'.cell? ⟨b, o, none⟩ := fun b o h => by
    have hne : b ≠ w.heap.size ∧ b ≠ w.heap.size + 1 ∧ (g.A b o ∨ (w.heap.size ≤ b ∧ b < w'.heap.size)) := by
      rcases hA b o h with ⟨h1, _⟩ | ⟨h1, h2⟩
      · have := (M.imm b o h1).1
        exact ⟨by omega, by omega, .inl h1⟩
      · exact ⟨by omega, by omega, .inr ⟨by omega, h2⟩⟩
    refine ⟨by show g.A b o ∨ _; rw [hsW]; exact hne.2.2, ?_⟩
    rw [cell_setRow_other _ _ _ _ hne.2.1, cell_setRow_other _ _ _ _ hne.1]
  generalize (w'.setRow w.heap.size vs).setRow (w.heap.size + 1) #[Value.bool true] = W2 at *
  refine leaves_cons (f := 13) (args := #[.pointer (some ⟨w.heap.size + 1, 0, none⟩)]) (by simp) (by simp [go_sem]) ?_
  refine (caught_idle ⟨w.heap.size + 1, 0, none⟩ _).mono ?_
  rintro e u' w'' ⟨rfl, rfl, rfl⟩
  have hc1 : w''.cell? ⟨w.heap.size + 1, 0, none⟩ = some (.bool true) := by simp [World.cell?, hs1]
  have hl0 : Sem.run Tryz.prog (loadVar 28 ⟨w.heap.size, 0, none⟩) w'' = .ok (.agg vs) w'' :=
    run_loadVar_row (P := Tryz.prog) w'' w.heap.size _ 28 vs (0, 0) _ hs0 rfl rfl (by rw [hvl]; rfl)
  have hl1 : Sem.run Tryz.prog (loadVar 4 ⟨w.heap.size + 1, 0, none⟩) w'' = .ok (.bool true) w'' := by
    simp [go_sem, hc1]
  have ha : ∀ q : Addr, Sem.run Tryz.prog (asAddr (Value.pointer (some q))) w'' = .ok q w'' := fun _ => rfl
  simp [Leaves, settle, results, Tryz.results11, hl0, hl1, ha]
  refine ⟨hbW, ⟨#[.agg vs, .bool true], rfl, rfl, fun j y u hy hu => ?_⟩⟩
  match j, hy, hu with
  | 0, hy, hu =>
    cases hy; cases hu
    refine ⟨vs, rfl, hvs.1, fun j y u e1 e2 => ?_⟩
    have h9 := hvs.2 j y u e1 e2
    have hu : u.pur0 = true := List.all_eq_true.1 hcp u (List.mem_of_getElem? e2)
    exact ⟨pur0_to hu (PRel.keep hkeep (pur0_of hu h9.1)), h9.2⟩
  | 1, hy, hu => cases hy; cases hu; exact PRel.val _ rfl
  | j + 2, hy, hu => simp at hy
def dcZ : List AV := [.val (.int .i64 0), .val (.string ⟨#[]⟩), .val (.slice none 0 0), .val (.bool false), .val (.string ⟨#[]⟩), .val (.string ⟨#[]⟩), .val (.string ⟨#[]⟩), .val (.string ⟨#[]⟩), .val (.slice none 0 0)]
set_option maxRecDepth 100000 in
set_option maxHeartbeats 2000000 in
theorem read_no (l : List Int) (hD : BPan Tryz.prog 15 [.box 0 0] [rdB l 0] wrongV) : BCall Tryz.prog 11 [.slc 1 (runesA l)] [] (.tup [.agg dcZ, .val (.bool false)]) [] := by
  unfold rdB at hD
  refine BCall.hand (enters_of Tryz.func11 (by kernel_rfl) rfl) fun w g vs M hL => ?_
  obtain ⟨v1, vs1, rfl, h1, hL⟩ := argsCons hL
  obtain rfl := argsNil hL
  obtain ⟨A, c, rfl, hr⟩ := runes_rd h1 M
  obtain ⟨Z, hZ⟩ : ∃ Z, Z = #[Value.int IntKind.i64 0, Value.string ⟨#[]⟩, Value.slice none 0 0, Value.bool false, Value.string ⟨#[]⟩, Value.string ⟨#[]⟩, Value.string ⟨#[]⟩, Value.string ⟨#[]⟩, Value.slice none 0 0] := ⟨_, rfl⟩
  obtain ⟨W0, hW0⟩ : ∃ W0, W0 = (w.alloc (Obj.cells Z 28)).alloc (Obj.cells #[Value.bool true] 4) := ⟨_, rfl⟩
  have hb : Below w.heap.size w W0 := by
    rw [hW0]; exact ((Below.refl w.heap.size w).alloc (Nat.le_refl _) _).alloc (by simp) _
  have hsz : W0.heap.size = w.heap.size + 1 + 1 := by rw [hW0]; simp
  have M1 := M.below hb
  have hc0 : ARelC W0 g [] #[Value.slice A l.length c, Value.int IntKind.i64 0].toList [.slc 1 (runesA l), .val (.int .i64 0)] := by
    refine ⟨rfl, fun j v x hv hx => ?_⟩
    match j, hv, hx with
    | 0, hv, hx => cases hv; cases hx; exact ⟨ARel0.ext (Ext.below M hb) h1, rfl⟩
    | 1, hv, hx => cases hv; cases hx; exact ⟨PRel.val _ rfl, rfl⟩
    | j + 2, hv, hx => simp at hv
  have cC := hD.atBox (T := 42) M1 hc0
  rw [hsz] at cC
  go_enter_defers Tryz.func11, Tryz.ntmps11
  go_wp2_with (go_at_call 15; rw [← hZ, ← hW0]; refine cC.mono ?_)
  rintro e w' rfl hbe
  rw [← hZ, ← hW0] at hbe
  have hz0 : w'.heap[w.heap.size]? = some (Obj.cells Z 28 (0, 0)) := by
    rw [hbe.block w.heap.size (by omega), hW0, heap_old (by simp)]; exact heap_new _ _
  have hz1 : w'.heap[w.heap.size + 1]? = some (Obj.cells #[Value.bool true] 4 (0, 0)) := by
    rw [hbe.block (w.heap.size + 1) (by omega), hW0]
    have := heap_new (w.alloc (Obj.cells Z 28)) (Obj.cells #[Value.bool true] 4)
    simpa using this
  have hk1 : w'.cell? ⟨w.heap.size + 1, 0, none⟩ = some (.bool true) := by simp [World.cell?, hz1]
  have hk2 : w'.frozen? ⟨w.heap.size + 1, 0, none⟩ = false := by simp [World.frozen?, hz1]
  go_wp2
  refine leaves_cons (f := 13) (args := #[.pointer (some ⟨w.heap.size + 1, 0, none⟩)]) (by simp) (by simp [go_sem]) ?_
  refine (caught_pan ⟨w.heap.size + 1, 0, none⟩ w' true hk1 hk2).mono ?_
  rintro e u' w'' ⟨rfl, rfl, w1, hb1, rfl⟩
  have hs' := hbe.size
  have hw1 : w1.cell? ⟨w.heap.size + 1, 0, none⟩ = some (.bool true) := by
    rw [hb1.cell (World.block_lt_of_cell? _ _ hk1)]; exact hk1
  have hc1 : (w1.setCell ⟨w.heap.size + 1, 0, none⟩ (.bool false)).cell? ⟨w.heap.size + 1, 0, none⟩ = some (.bool false) := World.cell?_setCell_same _ _ _ hw1
  have hd0 : (w1.setCell ⟨w.heap.size + 1, 0, none⟩ (.bool false)).heap[w.heap.size]? = some (Obj.cells Z 28 (0, 0)) := by
    rw [Below.heap_setCell _ _ _ _ (by show w.heap.size ≠ w.heap.size + 1; omega), hb1.block _ (by omega)]; exact hz0
  have hZs : Z.size = 9 := by rw [hZ]; rfl
  have hl0 : Sem.run Tryz.prog (loadVar 28 ⟨w.heap.size, 0, none⟩) (w1.setCell ⟨w.heap.size + 1, 0, none⟩ (.bool false)) = .ok (.agg Z) (w1.setCell ⟨w.heap.size + 1, 0, none⟩ (.bool false)) :=
    run_loadVar_row (P := Tryz.prog) _ w.heap.size _ 28 Z (0, 0) _ hd0 rfl rfl (by rw [hZs]; rfl)
  have hl1 : Sem.run Tryz.prog (loadVar 4 ⟨w.heap.size + 1, 0, none⟩) (w1.setCell ⟨w.heap.size + 1, 0, none⟩ (.bool false)) = .ok (.bool false) (w1.setCell ⟨w.heap.size + 1, 0, none⟩ (.bool false)) := by
    simp [go_sem, hc1]
  have hbW : Below w.heap.size w (w1.setCell ⟨w.heap.size + 1, 0, none⟩ (.bool false)) := ((hb.trans (hbe.mono (by omega))).trans (hb1.mono (by omega))).setCell (p := ⟨w.heap.size + 1, 0, none⟩) (by show w.heap.size ≤ w.heap.size + 1; omega) _
  generalize w1.setCell ⟨w.heap.size + 1, 0, none⟩ (.bool false) = w'' at *
  have ha : ∀ q : Addr, Sem.run Tryz.prog (asAddr (Value.pointer (some q))) w'' = .ok q w'' := fun _ => rfl
  simp [Leaves, settle, results, Tryz.results11, hl0, hl1, ha]
  refine ⟨hbW, ⟨#[.agg Z, .bool false], rfl, rfl, fun j y u hy hu => ?_⟩⟩
  match j, hy, hu with
  | 0, hy, hu =>
    cases hy; cases hu
    refine ⟨Z, rfl, by rw [hZ]; rfl, fun j y u e1 e2 => ?_⟩
    rw [hZ] at e1
    match j, e1, e2 with
    | 0, e1, e2 | 1, e1, e2 | 2, e1, e2 | 3, e1, e2 | 4, e1, e2 | 5, e1, e2 | 6, e1, e2 | 7, e1, e2 | 8, e1, e2 => cases e1; cases e2; exact ⟨PRel.val _ rfl, rfl⟩
    | j + 9, e1, e2 => simp at e1
  | 1, hy, hu => cases hy; cases hu; exact PRel.val _ rfl
  | j + 2, hy, hu => simp at hy
end Go.Proofs.YtdmbfngenffcaaaGreat
namespace Go.Proofs.YtdmbfngenffcaaaGreat
open Go.RowKit Go.Lib
def dcK (l : List Int) : Int := match dcI l with | some _ => 4 | none => 0
def dcT (l : List Int) : ByteArray := match dcI l with | some q => q.1 | none => ⟨#[]⟩
def dcC (l : List Int) : ByteArray := match dcI l with | some q => q.2 | none => ⟨#[]⟩
def dcB (l : List Int) : Bool := (dcI l).isSome
def dcA (k : Int) (T C : ByteArray) : AV := .agg [.val (.int .i64 k), .val (.string T), .val (.slice none 0 0), .val (.bool false), .val (.string ⟨#[]⟩), .val (.string ⟨#[]⟩), .val (.string ⟨#[]⟩), .val (.string C), .val (.slice none 0 0)]
theorem read_b (l : List Int) (hl : l.length ≤ 1000000) (h1 : sdI l 0 sEnt = false) (h2 : sdI l 0 sAtt = false) (h3 : sdI l 0 sEle = true) :
    BCall Tryz.prog 11 [.slc 1 (runesA l)] [] (.tup [dcA (dcK l) (dcT l) (dcC l), .val (.bool (dcB l))]) [] := by
  have c := decl_b l hl h1 h2 h3
  unfold dcK dcT dcC dcB
  cases h : dcI l with
  | none => exact read_no l (c.pan (by rw [h]; rfl))
  | some q => exact read_ok l _ l.length rfl rfl (c.call (by rw [h]; rfl))
theorem Read_b (l : List Int) (hl : l.length ≤ 1000000) (h1 : sdI l 0 sEnt = false) (h2 : sdI l 0 sAtt = false) (h3 : sdI l 0 sEle = true) :
    BCall Tryz.prog 7 [.slc 1 (runesA l), .val (.int .i64 0), .val (.int .i64 (std.len (runesA l)))] [] (.tup [dcA (dcK l) (dcT l) (dcC l), .val (.bool (dcB l))]) [] := by
  have c := read_b l hl h1 h2 h3
  have hn : dcB l = false → dcK l = 0 ∧ dcT l = ⟨#[]⟩ ∧ dcC l = ⟨#[]⟩ := fun h => by
    unfold dcK dcT dcC
    cases hx : dcI l with
    | none => exact ⟨rfl, rfl, rfl⟩
    | some q => rw [dcB, hx] at h; cases h
  have e0 : std.len (runesA l) = (l.length : Int) := by show ((runesA l).length : Int) = _; rw [runes_len]
  obtain ⟨n, hN⟩ := exLen l
  have e1 : std.len (runesA l) = n := by rw [e0, hN.eq]
  have ec : std.cut (runesA l) 0 n = runesA l := by
    rw [cut_runes, cutI]
    have := hN.eq
    rw [show (0 : Int).toNat = 0 from rfl, List.drop_zero, List.take_of_length_le (by omega)]
  have hn0 : 0 ≤ n := by rw [hN.eq]; omega
  rw [e1]
  generalize dcK l = kd at *
  generalize dcT l = T at *
  generalize dcC l = C at *
  generalize dcB l = q at *
  unfold dcA at *
  clear hN e0
  refine fnN (csL [(11, .tup [dcA kd T C, .val (.bool q)], [])]) Tryz.func7 rfl fun _ _ => ?_
  with_reducible refine cv1 (runesA l) ?_
  refine ⟨fun h => ?_, fun _ => ⟨fun h => ?_, fun _ => ⟨fun h => ?_, fun _ => ⟨?_, ?_, fun h => ?_, fun h => ?_⟩⟩⟩⟩
  · exact absurd (show (0 : Int) < 0 from of_decide_eq_true h) (by omega)
  · have h : n < 0 := of_decide_eq_true h
    omega
  · have h : std.len (runesA l) < n := of_decide_eq_true h
    rw [e1] at h; omega
  · show 0 ≤ (0 : Int) ∧ 0 ≤ n ∧ n ≤ std.len (runesA l)
    rw [e1]; omega
  · have c := c
    rw [← ec] at c
    exact c
  · have h : (!q) = true := h
    have hq : q = false := by simpa using h
    obtain ⟨rfl, rfl, rfl⟩ := hn hq
    subst hq
    exact .pure rfl (leA_refl rfl)
  · have h : (!q) = false := h
    have hq : q = true := by simpa using h
    subst hq
    exact .pure rfl (leA_refl rfl)
end Go.Proofs.YtdmbfngenffcaaaGreat
namespace Go.Proofs.YtdmbfngenffcaaaGreat
open Go.RowKit Go.Lib
theorem runes_enc {l : List Int} (h : ∀ x ∈ l, 0 < widthF x) : runesF (bytesF l) = l := by
  have h1 := congrArg (List.map Itm.r) (items_of l 0 h)
  rw [ofI_r, List.map_map] at h1
  exact h1
theorem run_len (l : List Int) (k : Int) : ((runesF (wtB l k).data.toList).length : Int) = (tkW isNameChar l k).length := by
  rw [show (wtB l k).data.toList = bytesF (tkW isNameChar l k) from by simp [wtB, txF], runes_enc fun x hx => char_wide (by
    have := List.all_takeWhile (p := isNameChar) (l := l.drop k.toNat)
    exact List.all_eq_true.1 this x hx)]
theorem nameF_nil : nameF [] = false := by decide
def rfB (l : List Int) (k : Int) (b : Bool) : Ob := .box [.slc 1 (runesA l), .val (.int .i64 k), .val (.bool b)]
def csG (L : List AV) (rs : Bool → Int → ByteArray → Bool) (mk : Bool → Int → ByteArray → Int) (mb : Bool → Int → ByteArray → Bool) (sp : Bool → Int → Int) (sc : Bool → Int → Int) (wt : Int → ByteArray) (wk : Bool → Int → Int → Int) (wb : Bool → Int → Int → Bool) (wr : Bool → Int → Int → ByteArray) (oft : Bool → Int → Int) (ik gk : Bool → Int → Int) (ib gb : Bool → Int → Bool) : Nat → List AV → List Ob → Option (AV × List Ob) := fun g args ob => match g, args, ob with
  | 20, [.box 0 0, .val (.string s)], [.box [_, .val (.int .i64 k), .val (.bool b)]] => some (.val (.bool (rs b k s)), [.box [.slc 1 L, .val (.int .i64 k), .val (.bool b)]])
  | 18, [.box 0 0, .val (.string s)], [.box [_, .val (.int .i64 k), .val (.bool b)]] => some (.tup [], [.box [.slc 1 L, .val (.int .i64 (mk b k s)), .val (.bool (mb b k s))]])
  | 19, [.box 0 0], [.box [_, .val (.int .i64 k), .val (.bool b)]] => some (.val (.int .i64 (sc b k)), [.box [.slc 1 L, .val (.int .i64 (sp b k)), .val (.bool b)]])
  | 16, [.box 0 0], [.box [_, .val (.int .i64 k), .val (.bool b)]] => some (.val (.string (wt k)), [.box [.slc 1 L, .val (.int .i64 k), .val (.bool b)]])
  | 17, [.box 0 0, .val (.int .i64 n)], [.box [_, .val (.int .i64 k), .val (.bool b)]] => some (.val (.string (wr b k n)), [.box [.slc 1 L, .val (.int .i64 (wk b k n)), .val (.bool (wb b k n))]])
  | 43, [.box 0 0], [.box [_, .val (.int .i64 k), .val (.bool b)]] => some (.tup [], [.box [.slc 1 L, .val (.int .i64 (oft b k)), .val (.bool b)]])
  | 42, [.box 0 0, .val (.int .i64 _)], [.box [_, .val (.int .i64 k), .val (.bool b)]] => some (.tup [], [.box [.slc 1 L, .val (.int .i64 (ik b k)), .val (.bool (ib b k))]])
  | 21, [.box 0 0, .val (.int .i64 _)], [.box [_, .val (.int .i64 k), .val (.bool b)]] => some (.tup [], [.box [.slc 1 L, .val (.int .i64 (gk b k)), .val (.bool (gb b k))]])
  | _, _, _ => none
def csOne (f : Nat) (r : AV) (o : List Ob) : Nat → List AV → List Ob → Option (AV × List Ob) := fun g _ _ => if g = f then some (r, o) else none
def rsG (l : List Int) (b : Bool) (k : Int) (s : ByteArray) : Bool := !b && sdI l k s
theorem is_b (l : List Int) (hl : l.length ≤ 1000000) (hi : I32 l) (b : Bool) (k : Int) (hk : Pla l k) (s : ByteArray) (hs : s.size ≤ 1000) :
    BCall Tryz.prog 20 [.box 0 0, .val (.string s)] [rfB l k b] (.val (.bool (rsG l b k s))) [rfB l k b] := by
  have c : BCall Tryz.prog 41 [.slc 1 (runesA l), .val (.int .i64 k), .val (.string s)] [] (.val (.bool (sdI l k s))) [] := RefStarts_b l (by omega) hi k hk.1 hk.2 s (by omega)
  unfold rsG
  generalize sdI l k s = q at *
  unfold rfB
  refine fnN (csOne 41 (.val (.bool q)) []) Tryz.func20 rfl fun _ _ => ?_
  with_reducible refine cv1 (runesA l) ?_
  refine ⟨fun h => ⟨c, ?_⟩, fun h => ?_⟩
  · have hb : b = false := by have h : (!b) = true := h; simpa using h
    refine ⟨[some 0], .val (.bool q), _, rfl, rfl, Nat.le_refl _, rfl, ?_, ?_⟩
    · exact eq0
    · rw [hb]; exact leA_refl rfl
  · have hb : b = true := by have h : (!b) = false := h; simpa using h
    refine ⟨[some 0], .val (.bool false), _, rfl, rfl, Nat.le_refl _, rfl, ?_, ?_⟩
    · exact eq0
    · rw [hb]; exact leA_refl rfl
def mkG (l : List Int) (b : Bool) (k : Int) (s : ByteArray) : Int := if rsG l b k s = true then nxI l k s else k
def mbG (l : List Int) (b : Bool) (k : Int) (s : ByteArray) : Bool := !rsG l b k s
theorem rmust_b (l : List Int) (hl : l.length ≤ 1000000) (hi : I32 l) (b : Bool) (k : Int) (hk : Pla l k) (s : ByteArray) (hs : s.size ≤ 1000) :
    BCall Tryz.prog 18 [.box 0 0, .val (.string s)] [rfB l k b] (.tup []) [rfB l (mkG l b k s) (mbG l b k s)] := by
  have c := is_b l hl hi b k hk s hs
  have hn : rsG l b k s = true → b = false ∧ sdI l k s = true := fun h => by
    unfold rsG at h
    rw [Bool.and_eq_true] at h
    exact ⟨by simpa using h.1, h.2⟩
  unfold mkG mbG
  have hx := hk.nx (s := s)
  have hx2 : rsG l b k s = true → nxI l k s = k + s.size := fun h => by rw [nxI, if_pos (hn h).2]
  generalize nxI l k s = k2 at *
  generalize rsG l b k s = q at *
  unfold rfB at *
  refine fnN (csOne 20 (.val (.bool q)) [.box [.slc 1 (runesA l), .val (.int .i64 k), .val (.bool b)]]) Tryz.func18 rfl fun _ _ => ?_
  with_reducible refine cv1 (runesA l) ?_
  refine ⟨c, fun h => ?_, fun h => ⟨?_, ?_⟩⟩
  · have h : q = false := by have h : (!q) = true := h; simpa using h
    rw [h]
    refine ⟨[some 0], _, _, rfl, rfl, Nat.le_refl _, rfl, ?_, leA_refl rfl⟩
    exact eq0
  · have h : q = true := by have h : (!q) = false := h; simpa using h
    show std.inR .i64 (k + s.size)
    have := hx2 h
    unfold Pla at hx hk
    rw [inR64]; omega
  · have h : q = true := by have h : (!q) = false := h; simpa using h
    have e := hx2 h
    rw [h, if_pos rfl, e, (hn h).1]
    refine ⟨[some 0], _, _, rfl, rfl, Nat.le_refl _, rfl, ?_, leA_refl rfl⟩
    exact eq0
end Go.Proofs.YtdmbfngenffcaaaGreat
namespace Go.Proofs.YtdmbfngenffcaaaGreat
open Go.RowKit Go.Lib
theorem tk_hit {p : Int → Bool} {l : List Int} {k : Int} (h0 : 0 ≤ k) (h : k.toNat < l.length) (hp : p l[k.toNat] = true) : tkW p l k = l[k.toNat] :: tkW p l (k + 1) := by
  unfold tkW
  rw [List.drop_eq_getElem_cons h, List.takeWhile_cons, if_pos hp, show (k + 1).toNat = k.toNat + 1 by omega]
theorem tk_miss {p : Int → Bool} {l : List Int} {k : Int} (h : k.toNat < l.length) (hp : p l[k.toNat] = false) : tkW p l k = [] := by
  unfold tkW
  rw [List.drop_eq_getElem_cons h, List.takeWhile_cons, if_neg (by rw [hp]; decide)]
theorem tk_end {p : Int → Bool} {l : List Int} {k : Int} (h : l.length ≤ k.toNat) : tkW p l k = [] := by
  unfold tkW
  rw [List.drop_eq_nil_of_le h]; rfl
def spG (l : List Int) (b : Bool) (k : Int) : Int := if b = true then k else skI l k
def csSp (q : Int → Bool) : Nat → List AV → List Ob → Option (AV × List Ob) := fun g args _ => match g, args with
  | 40, [.val (.int .i32 r)] => some (.val (.bool (q r)), [])
  | 35, [.val (.int .i32 r)] => some (.val (.bool (q r)), [])
  | _, _ => none
theorem at_rune {l : List Int} {k : Int} (h : k.toNat < l.length) : std.at_ (runesA l) k = .val (.int .i32 l[k.toNat]) := by
  show (runesA l).getD k.toNat .dead = _
  rw [List.getD_eq_getElem?_getD, runesA, List.getElem?_map, List.getElem?_eq_getElem h]; rfl
set_option maxRecDepth 20000 in
theorem spaces_b (l : List Int) (hl : l.length ≤ 1000000) (b : Bool) (k : Int) (hk : Pla l k) :
    BCall Tryz.prog 19 [.box 0 0] [rfB l k b] (.val (.int .i64 (spG l b k - k))) [rfB l (spG l b k) b] := by
  have c := RefSpace_b
  obtain ⟨n, hn⟩ := exLen l
  have hll : std.len (runesA l) = n := by show ((runesA l).length : Int) = n; rw [runes_len, hn.eq]
  have hkn : 0 ≤ k ∧ k ≤ n := by rw [hn.eq]; exact hk
  have hnm : n ≤ 1000000 := by rw [hn.eq]; omega
  cases b with
  | true =>
    rw [show spG l true k = k from if_pos rfl, Int.sub_self]
    unfold rfB
    refine fnN (csSp isSpace) Tryz.func19 rfl fun _ _ => ?_
    with_reducible refine cv2 isSpace (runesA l) ?_
    refine loopN (csSp isSpace) (Unit) (fun _ => ⟨[(0, .box 0 0), (3, .val (.int .i64 0))], [.box [.slc 1 (runesA l), .val (.int .i64 k), .val (.bool true)]]⟩) (fun _ => True) (fun _ => 0) () ?_ ?_ ?_
    · trivial
    · refine ⟨[some 0], _, rfl, ?_⟩
      exact eq0
    · rintro _ _
      with_reducible refine cv2 isSpace (runesA l) ?_
      refine ⟨fun h => absurd (show false = true from h) Bool.noConfusion, fun _ => ?_⟩
      rw [if_pos trivial]
      with_reducible refine cv2 isSpace (runesA l) ?_
      refine ⟨[some 0], .val (.int .i64 0), _, rfl, rfl, Nat.le_refl _, rfl, ?_, leA_refl rfl⟩
      exact eq0
  | false =>
    rw [show spG l false k = skI l k from if_neg (by decide)]
    obtain ⟨e, he⟩ : ∃ e, e = skI l k := ⟨_, rfl⟩
    rw [← he]
    unfold rfB
    refine fnN (csSp isSpace) Tryz.func19 rfl fun _ _ => ?_
    with_reducible refine cv2 isSpace (runesA l) ?_
    refine loopN (csSp isSpace) (Int × Int) (fun x => ⟨[(0, .box 0 0), (3, .val (.int .i64 x.1))], [.box [.slc 1 (runesA l), .val (.int .i64 x.2), .val (.bool false)]]⟩) (fun x => (0 ≤ x.2 ∧ x.2 ≤ n ∧ x.1 = x.2 - k ∧ k ≤ x.2) ∧ skI l x.2 = e) (fun x => (n - x.2).toNat) (0, k) ?_ ?_ ?_
    · exact ⟨⟨hkn.1, hkn.2, (Int.sub_self k).symm, Int.le_refl k⟩, he.symm⟩
    · refine ⟨[some 0], _, rfl, ?_⟩
      exact eq0
    · rintro ⟨m, k3⟩ ⟨⟨h0, h1, h2, h3⟩, h4⟩
      have h0 : 0 ≤ k3 := h0
      have h1 : k3 ≤ n := h1
      have h2 : m = k3 - k := h2
      have h3 : k ≤ k3 := h3
      have h4 : skI l k3 = e := h4
      simp only
      with_reducible refine cv2 isSpace (runesA l) ?_
      refine ⟨fun _ => ⟨fun h => ?_, fun h => ?_⟩, fun h => absurd (show true = false from h) Bool.noConfusion⟩
      · have hlt : k3 < n := by
          have h : decide (k3 < std.len (runesA l)) = true := h
          rw [hll] at h; exact of_decide_eq_true h
        have hk3 : k3.toNat < l.length := by have := hn.eq; omega
        have hat := at_rune hk3
        have eR : std.int (std.nth (std.cel (std.at_ (runesA l) k3)) 0) = l[k3.toNat] := by rw [hat]; rfl
        refine ⟨⟨h0, by show k3 < std.len (runesA l); rw [hll]; exact hlt⟩, (by rw [hat]; exact ⟨rfl, trivial⟩ : (std.all [std.hasI .i32 (std.nth (std.cel (std.at_ (runesA l) k3)) 0)]).q), c _, fun hs => ⟨?_, ?_, (m + 1, k3 + 1), ⟨⟨?_, ?_, ?_, ?_⟩, ?_⟩, ?_, [some 0], _, rfl, ?_⟩, fun hs => ?_⟩
        · show std.inR .i64 (k3 + 1)
          rw [inR64]; omega
        · show std.inR .i64 (m + 1)
          rw [inR64]; omega
        · show 0 ≤ k3 + 1; omega
        · show k3 + 1 ≤ n; omega
        · show m + 1 = k3 + 1 - k; omega
        · show k ≤ k3 + 1; omega
        · show skI l (k3 + 1) = e
          have hs : isSpace l[k3.toNat] = true := by rw [← eR]; exact hs
          rw [← h4, skI, skI, tk_hit h0 hk3 hs, List.length_cons]; omega
        · show (n - (k3 + 1)).toNat < (n - k3).toNat; omega
        · exact eq0
        · have hs : isSpace l[k3.toNat] = false := by rw [← eR]; exact hs
          have e0 : k3 = e := by rw [← h4, skI, tk_miss hk3 hs]; simp
          rw [if_pos trivial]
          with_reducible refine cv2 isSpace (runesA l) ?_
          rw [← e0, ← h2]
          refine ⟨[some 0], .val (.int .i64 m), _, rfl, rfl, Nat.le_refl _, rfl, ?_, leA_refl rfl⟩
          exact eq0
      · have hge : n ≤ k3 := by
          have h : decide (k3 < std.len (runesA l)) = false := h
          rw [hll] at h
          have h : ¬ k3 < n := of_decide_eq_false h
          omega
        have e0 : k3 = e := by rw [← h4, skI, tk_end (by have := hn.eq; omega)]; simp
        rw [if_pos trivial]
        with_reducible refine cv2 isSpace (runesA l) ?_
        rw [← e0, ← h2]
        refine ⟨[some 0], .val (.int .i64 m), _, rfl, rfl, Nat.le_refl _, rfl, ?_, leA_refl rfl⟩
        exact eq0
theorem RefNameChar_b (r : Int) : BCall Tryz.prog 35 [.val (.int .i32 r)] [] (.val (.bool (isNameChar r))) [] := by
  refine BCall.hand (enters_of Tryz.func35 (by kernel_rfl) rfl) fun w g vs M hL => ?_
  obtain ⟨v1, vs1, rfl, h1, hL⟩ := argsCons hL
  obtain rfl := argsNil hL
  obtain rfl := argVal h1
  exact (RNameChar_any r w).mono fun e w' ⟨h, hb⟩ => ⟨_, h, hb ▸ Below.refl _ _, PRel.val _ rfl⟩
def csPk (q : Int → Bool) (B : List AV) : Nat → List AV → List Ob → Option (AV × List Ob) := fun g args _ => match g, args with
  | 35, [.val (.int .i32 r)] => some (.val (.bool (q r)), [])
  | 36, [.slc 1 _] => some (.slc 1 B, [])
  | _, _ => none
set_option maxRecDepth 20000 in
theorem peek_b (l : List Int) (hl : l.length ≤ 1000000) (hi : I32 l) (b : Bool) (k : Int) (hk : Pla l k) :
    BCall Tryz.prog 16 [.box 0 0] [rfB l k b] (.val (.string (wtB l k))) [rfB l k b] := by
  have c := RefNameChar_b
  obtain ⟨n, hn⟩ := exLen l
  have hll : std.len (runesA l) = n := by show ((runesA l).length : Int) = n; rw [runes_len, hn.eq]
  have hkn : 0 ≤ k ∧ k ≤ n := by rw [hn.eq]; exact hk
  have hnm : n ≤ 1000000 := by rw [hn.eq]; omega
  have hcut : ∀ e, e = ncI l k → std.cut (runesA l) k e = runesA (tkW isNameChar l k) := fun e he => by
    unfold Pla at hk
    show ((runesA l).drop k.toNat).take (e - k).toNat = _
    rw [he, ncI, show (k + ((tkW isNameChar l k).length : Nat) - k : Int).toNat = (tkW isNameChar l k).length by omega, runesA, runesA, ← List.map_drop, ← List.map_take, tkW]
    congr 1
    exact (List.prefix_iff_eq_take.1 (List.takeWhile_prefix isNameChar)).symm
  have hxl : (tkW isNameChar l k).length ≤ 1000000 := by have := tkW_len isNameChar l hk; unfold Pla at hk; omega
  have cB := RefBytes_b (tkW isNameChar l k) (by omega) (fun x hx => hi x (List.mem_of_mem_drop ((List.takeWhile_sublist isNameChar).subset hx)))
  have hB := isB_bytesA (bytesF (tkW isNameChar l k))
  have hS : std.strB (bytesA (bytesF (tkW isNameChar l k))) = wtB l k := by simp [std, bytes_back, txF, wtB]
  obtain ⟨B, hBE⟩ : ∃ B, B = bytesA (bytesF (tkW isNameChar l k)) := ⟨_, rfl⟩
  rw [← hBE] at cB hB hS
  obtain ⟨e, he⟩ : ∃ e, e = ncI l k := ⟨_, rfl⟩
  have hcut := hcut e he
  rw [← hcut] at cB
  clear hcut
  have hke : k ≤ e ∧ e ≤ n := by
    have h1 := nc_ge l k
    have h2 := hk.nc.2
    rw [he, hn.eq]; exact ⟨h1, h2⟩
  unfold rfB
  refine fnN (csPk isNameChar B) Tryz.func16 rfl fun _ _ => ?_
  with_reducible refine cv2 isNameChar (runesA l) ?_
  refine loopN (csPk isNameChar B) (Int) (fun k3 => ⟨[(0, .box 0 0), (3, .val (.int .i64 k3))], [.box [.slc 1 (runesA l), .val (.int .i64 k), .val (.bool b)]]⟩) (fun k3 => (k ≤ k3 ∧ k3 ≤ n) ∧ ncI l k3 = e) (fun k3 => (n - k3).toNat) k ?_ ?_ ?_
  · exact ⟨⟨Int.le_refl k, hkn.2⟩, he.symm⟩
  · refine ⟨[some 0], _, rfl, ?_⟩
    exact eq0
  · rintro k3 ⟨⟨h0, h1⟩, h4⟩
    have h0 : k ≤ k3 := h0
    have h1 : k3 ≤ n := h1
    have h4 : ncI l k3 = e := h4
    with_reducible refine cv2 isNameChar (runesA l) ?_
    have fin : k3 = e → (std.cutok k k3 (std.len (runesA l))).q := fun h => by
      show 0 ≤ k ∧ k ≤ k3 ∧ k3 ≤ std.len (runesA l)
      rw [hll]; omega
    refine ⟨fun h => ?_, fun h => ?_⟩
    · have hlt : k3 < n := by
        have h : decide (k3 < std.len (runesA l)) = true := h
        rw [hll] at h; exact of_decide_eq_true h
      have hk3 : k3.toNat < l.length := by have := hn.eq; omega
      have hat := at_rune hk3
      have eR : std.int (std.nth (std.cel (std.at_ (runesA l) k3)) 0) = l[k3.toNat] := by rw [hat]; rfl
      refine ⟨⟨by omega, by show k3 < std.len (runesA l); rw [hll]; exact hlt⟩, (by rw [hat]; exact ⟨rfl, trivial⟩ : (std.all [std.hasI .i32 (std.nth (std.cel (std.at_ (runesA l) k3)) 0)]).q), c _, fun hs => ⟨?_, k3 + 1, ⟨⟨?_, ?_⟩, ?_⟩, ?_, [some 0], _, rfl, ?_⟩, fun hs => ?_⟩
      · show std.inR .i64 (k3 + 1)
        rw [inR64]; omega
      · omega
      · omega
      · have hs : isNameChar l[k3.toNat] = true := by rw [← eR]; exact hs
        rw [← h4, ncI, ncI, tk_hit (by omega) hk3 hs, List.length_cons]; omega
      · omega
      · exact eq0
      · have hs : isNameChar l[k3.toNat] = false := by rw [← eR]; exact hs
        have e0 : k3 = e := by rw [← h4, ncI, tk_miss hk3 hs]; simp
        have hq1 := fin e0
        subst e0
        rw [if_pos trivial]
        with_reducible refine cv2 isNameChar (runesA l) ?_
        rw [← hS]
        refine ⟨hq1, cB, hB, [some 0], .val (.string (std.strB B)), _, rfl, rfl, Nat.le_refl _, rfl, ?_, leA_refl rfl⟩
        exact eq0
    · have hge : n ≤ k3 := by
        have h : decide (k3 < std.len (runesA l)) = false := h
        rw [hll] at h
        have h : ¬ k3 < n := of_decide_eq_false h
        omega
      have e0 : k3 = e := by rw [← h4, ncI, tk_end (by have := hn.eq; omega)]; simp
      have hq1 := fin e0
      subst e0
      rw [if_pos trivial]
      with_reducible refine cv2 isNameChar (runesA l) ?_
      rw [← hS]
      refine ⟨hq1, cB, hB, [some 0], .val (.string (std.strB B)), _, rfl, rfl, Nat.le_refl _, rfl, ?_, leA_refl rfl⟩
      exact eq0
theorem RRunes_b (s : ByteArray) (hs : s.size ≤ 300000000) : BCall Tryz.prog 39 [.val (.string s)] [] (.slc 1 (runesA (runesF s.data.toList))) [] := by
  refine BCall.hand (enters_of Tryz.func39 (by kernel_rfl) rfl) fun w g vs M hL => ?_
  obtain ⟨v1, vs1, rfl, k1, hL⟩ := argsCons hL
  obtain rfl := argsNil hL
  obtain rfl := argVal k1
  refine (RRunes_any s w hs).mono fun e w' ⟨v, h, ⟨n', ho⟩, hbel⟩ => ⟨v, h, hbel, ?_⟩
  have hn : n' = (runesA (runesF s.data.toList)).length := by
    have := ho.1
    rw [runes_len]; simpa [rc] using this.symm
  refine own_slc (A' := (g.imm w w').A) ho (by decide) ?_ hn (fun x hx => by obtain ⟨y, _, rfl⟩ := List.mem_map.1 hx; rfl) (fun b o h1 h2 => .inr ⟨h1, h2⟩)
  have e : runesA (runesF s.data.toList) = (rc (runesF s.data.toList)).map .val := by simp [runesA, rc, runeA]
  rw [e, flatVals]
  refine vals_alike fun u hu => ?_
  obtain ⟨x, _, rfl⟩ := List.mem_map.1 hu
  rfl
theorem RName_b (s : ByteArray) (hs : s.size ≤ 300000000) : BCall Tryz.prog 37 [.val (.string s)] [] (.val (.bool (nameF s.data.toList))) [] := by
  refine BCall.hand (enters_of Tryz.func37 (by kernel_rfl) rfl) fun w g vs M hL => ?_
  obtain ⟨v1, vs1, rfl, k1, hL⟩ := argsCons hL
  obtain rfl := argsNil hL
  obtain rfl := argVal k1
  exact (RName_any s w hs).mono fun e w' ⟨h, hb⟩ => ⟨_, h, hb, .val _ rfl⟩
theorem eqS_size0 {s : ByteArray} (h : std.eqS s ⟨⟨[]⟩⟩ = true) : s.data.toList = [] := by
  simp only [std, ByteArray.toList_eq] at h
  simpa using h
theorem ok_ne {l : List Int} {k : Int} (h : okN l k = true) : std.eqS (wtB l k) ⟨⟨[]⟩⟩ = false := by
  cases he : std.eqS (wtB l k) ⟨⟨[]⟩⟩ with
  | false => rfl
  | true => rw [okN, eqS_size0 he, nameF_nil] at h; cases h
def wokG (l : List Int) (n k : Int) : Bool := if n = 1 then okN l k else !std.eqS (wtB l k) ⟨⟨[]⟩⟩
def csWd (T : ByteArray) (o : Ob) (q : Bool) (RU : List AV) : Nat → List AV → List Ob → Option (AV × List Ob) := fun g _ _ => match g with
  | 16 => some (.val (.string T), [o])
  | 37 => some (.val (.bool q), [])
  | 39 => some (.slc 1 RU, [])
  | _ => none
theorem word_bad (l : List Int) (k n : Int) : BCall Tryz.prog 17 [.box 0 0, .val (.int .i64 n)] [rfB l k true] (.val (.string ⟨⟨[]⟩⟩)) [rfB l k true] := by
  unfold rfB
  refine fnN (csWd ⟨⟨[]⟩⟩ .gone true []) Tryz.func17 rfl fun _ _ => ?_
  with_reducible refine cv1 (runesA l) ?_
  refine ⟨[some 0], _, _, rfl, rfl, Nat.le_refl _, rfl, ?_, leA_refl rfl⟩
  exact eq0
set_option maxRecDepth 20000 in
theorem rword_b (l : List Int) (hl : l.length ≤ 1000000) (hi : I32 l) (n : Int) (hn : n = 1 ∨ n = 3) (k : Int) (hk : Pla l k) :
    BCall Tryz.prog 17 [.box 0 0, .val (.int .i64 n)] [rfB l k false] (.val (.string (if wokG l n k = true then wtB l k else ⟨⟨[]⟩⟩))) [rfB l (if wokG l n k = true then ncI l k else k) (!wokG l n k)] := by
  have cP := peek_b l hl hi false k hk
  have hx : (tkW isNameChar l k).length ≤ 1000000 := by have := tkW_len isNameChar l hk; unfold Pla at hk; omega
  have hz : (wtB l k).size ≤ 300000000 := by
    have := bytesF_len (tkW isNameChar l k)
    show (bytesF _).toArray.size ≤ _
    rw [List.size_toArray]; omega
  have cN := RName_b (wtB l k) hz
  have cR := RRunes_b (wtB l k) hz
  have hrl : std.len (runesA (runesF (wtB l k).data.toList)) = ncI l k - k := by
    show ((runesA _).length : Int) = _
    rw [runes_len, run_len, ncI]; omega
  have hne := @ok_ne l k
  have hnc := hk.nc
  have hge := nc_ge l k
  unfold wokG
  change BCall _ _ _ _ (.val (.bool (okN l k))) _ at cN
  generalize okN l k = q at *
  generalize runesA (runesF (wtB l k).data.toList) = RU at *
  generalize wtB l k = T at *
  generalize ncI l k = k2 at *
  unfold Pla at hk hnc
  have q1 : (std.inR .i64 (std.add k (std.len RU))).q := by
    show std.inR .i64 (k + std.len RU)
    rw [hrl, inR64]; omega
  have e1 : std.add k (std.len RU) = k2 := by
    show k + std.len RU = k2
    rw [hrl]; omega
  unfold rfB at *
  rcases hn with rfl | rfl
  · rw [show (if (1 : Int) = 1 then q else !std.eqS T ⟨⟨[]⟩⟩) = q from if_pos rfl]
    refine fnN (csWd T (.box [.slc 1 (runesA l), .val (.int .i64 k), .val (.bool false)]) q RU) Tryz.func17 rfl fun _ _ => ?_
    with_reducible refine cv1 (runesA l) ?_
    refine ⟨cP, fun _ => ⟨cN, fun hq => ?_, fun hq => ⟨fun h => absurd (show false = true from h) Bool.noConfusion, fun _ => ⟨fun he => ?_, fun he => ⟨cR, q1, ?_⟩⟩⟩⟩, fun h => absurd (show true = false from h) Bool.noConfusion⟩
    · obtain rfl : q = false := by have h : (!q) = true := hq; simpa using h
      refine ⟨[some 0], _, _, rfl, rfl, Nat.le_refl _, rfl, ?_, leA_refl rfl⟩
      exact eq0
    · obtain rfl : q = true := by have h : (!q) = false := hq; simpa using h
      exact absurd ((hne rfl).symm.trans he) Bool.noConfusion
    · obtain rfl : q = true := by have h : (!q) = false := hq; simpa using h
      refine ⟨[some 0], _, _, rfl, rfl, Nat.le_refl _, rfl, ?_, leA_refl rfl⟩
      exact eq1 e1
  · rw [show (if (3 : Int) = 1 then q else !std.eqS T ⟨⟨[]⟩⟩) = !std.eqS T ⟨⟨[]⟩⟩ from if_neg (by decide)]
    obtain ⟨z, hz2⟩ : ∃ z, z = std.eqS T ⟨⟨[]⟩⟩ := ⟨_, rfl⟩
    rw [← hz2]
    refine fnN (csWd T (.box [.slc 1 (runesA l), .val (.int .i64 k), .val (.bool false)]) q RU) Tryz.func17 rfl fun _ _ => ?_
    with_reducible refine cv1 (runesA l) ?_
    refine ⟨cP, fun h => absurd (show false = true from h) Bool.noConfusion, fun _ => ⟨fun h => absurd (show false = true from h) Bool.noConfusion, fun _ => ⟨fun he => ?_, fun he => ⟨cR, q1, ?_⟩⟩⟩⟩
    · obtain rfl : z = true := hz2.trans he
      refine ⟨[some 0], _, _, rfl, rfl, Nat.le_refl _, rfl, ?_, leA_refl rfl⟩
      exact eq0
    · obtain rfl : z = false := hz2.trans he
      refine ⟨[some 0], _, _, rfl, rfl, Nat.le_refl _, rfl, ?_, leA_refl rfl⟩
      exact eq1 e1
def csIs (rs : ByteArray → Bool) (o : Ob) : Nat → List AV → List Ob → Option (AV × List Ob) := fun g args _ => match g, args with
  | 20, [.box 0 0, .val (.string s)] => some (.val (.bool (rs s)), [o])
  | _, _ => none
def oftG (l : List Int) (b : Bool) (k : Int) : Int := if b = true then k else oftI l k
theorem roften_b (l : List Int) (hl : l.length ≤ 1000000) (hi : I32 l) (b : Bool) (k : Int) (hk : Pla l k) : BCall Tryz.prog 43 [.box 0 0] [rfB l k b] (.tup []) [rfB l (oftG l b k) b] := by
  have c := fun s hs => is_b l hl hi b k hk s hs
  obtain ⟨rs, hrs⟩ : ∃ rs, rs = fun s => rsG l b k s := ⟨_, rfl⟩
  have c : ∀ s : ByteArray, s.size ≤ 1000 → BCall Tryz.prog 20 [.box 0 0, .val (.string s)] [rfB l k b] (.val (.bool (rs s))) [rfB l k b] := fun s h => by rw [hrs]; exact c s h
  obtain ⟨e, he⟩ : ∃ e, e = oftG l b k := ⟨_, rfl⟩
  rw [← he]
  have h1 : ∀ s : ByteArray, s.size = 1 → rs s = true → b = false ∧ sdI l k s = true ∧ nxI l k s = k + 1 := fun s hs h => by
    rw [hrs] at h
    have h : (!b && sdI l k s) = true := h
    rw [Bool.and_eq_true] at h
    exact ⟨by simpa using h.1, h.2, by rw [nxI, if_pos h.2, hs]; rfl⟩
  have h0 : ∀ s : ByteArray, rs s = false → b = true ∨ sdI l k s = false := fun s h => by
    rw [hrs] at h
    have h : (!b && sdI l k s) = false := h
    rw [Bool.and_eq_false_iff] at h
    rcases h with h | h
    · exact .inl (by simpa using h)
    · exact .inr h
  have up : k + 1 = e → (std.inR .i64 (std.add k 1)).q := fun _ => by
    show std.inR .i64 (k + 1)
    unfold Pla at hk
    rw [inR64]; omega
  clear hrs
  unfold rfB at *
  refine fnN (csIs rs (.box [.slc 1 (runesA l), .val (.int .i64 k), .val (.bool b)])) Tryz.func43 rfl fun _ _ => ?_
  with_reducible refine cv1 (runesA l) ?_
  have bf : ∀ s : ByteArray, b = false → rs s = false → sdI l k s = false := fun s hb h => by
    rcases h0 s h with h | h
    · rw [hb] at h; cases h
    · exact h
  have kx : ∀ s : ByteArray, s.size = 1 → rs s = true → k + 1 ≤ l.length := fun s hs h => by
    have h2 := hk.nx (s := s)
    rw [(h1 s hs h).2.2] at h2
    exact h2.2
  have qx : ∀ s : ByteArray, s.size = 1 → rs s = true → (std.inR .i64 (std.add k 1)).q := fun s hs h => by
    show std.inR .i64 (k + 1)
    have := kx s hs h
    unfold Pla at hk
    rw [inR64]; omega
  refine ⟨c _ (by decide), fun h => ⟨qx _ rfl h, ?_⟩, fun h => ⟨c _ (by decide), fun h2 => ⟨qx _ rfl h2, ?_⟩, fun h2 => ⟨c _ (by decide), fun h3 => ⟨qx _ rfl h3, ?_⟩, fun h3 => ?_⟩⟩⟩
  · obtain ⟨a1, a2, a3⟩ := h1 _ rfl h
    have e1 : std.add k 1 = e := by rw [he, oftG, if_neg (by rw [a1]; decide), oftI, if_pos a2, a3]; rfl
    refine ⟨[some 0], _, _, rfl, rfl, Nat.le_refl _, rfl, ?_, leA_refl rfl⟩
    exact eq1 e1
  · obtain ⟨a1, a2, a3⟩ := h1 _ rfl h2
    have e1 : std.add k 1 = e := by rw [he, oftG, if_neg (by rw [a1]; decide), oftI, if_neg (by rw [bf _ a1 h]; decide), if_pos a2, a3]; rfl
    refine ⟨[some 0], _, _, rfl, rfl, Nat.le_refl _, rfl, ?_, leA_refl rfl⟩
    exact eq1 e1
  · obtain ⟨a1, a2, a3⟩ := h1 _ rfl h3
    have e1 : std.add k 1 = e := by rw [he, oftG, if_neg (by rw [a1]; decide), oftI, if_neg (by rw [bf _ a1 h]; decide), if_neg (by rw [bf _ a1 h2]; decide), a3]; rfl
    refine ⟨[some 0], _, _, rfl, rfl, Nat.le_refl _, rfl, ?_, leA_refl rfl⟩
    exact eq1 e1
  · have e1 : k = e := by
      rw [he, oftG]
      cases b with
      | true => rfl
      | false => rw [if_neg (by decide), oftI, if_neg (by rw [bf _ rfl h]; decide), if_neg (by rw [bf _ rfl h2]; decide), nx_no (bf _ rfl h3)]
    refine ⟨[some 0], _, _, rfl, rfl, Nat.le_refl _, rfl, ?_, leA_refl rfl⟩
    exact eq1 e1
end Go.Proofs.YtdmbfngenffcaaaGreat
