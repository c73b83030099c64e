/-
  Layer 1 (scan): the walks of the program's and the document's Width, piece, First, Items. Rows of at most 300000000 bytes.
-/
import Derived.Test.YtbbplpmaknaadaaScanP
import Derived.Test.YtbbplpmaknaadaaStrB
import Derived.Laws.BytesString
namespace Go.Proofs.Ytbbplpmaknaadaa
open Go.RowKit Go.Lib

set_option maxHeartbeats 400000 in
set_option maxRecDepth 100000 in
theorem Width_any (r : Int) (w : World) : Calls Try.prog 108 #[.int .i32 r] w fun e w' => e = .returned (.int .i64 (widthF r)) ∧ w = w' := by
  by_cases h1 : r < 0
  · go_enter Try.func108, Try.ntmps108
    go_wp2
    go_ret
    exact ⟨ret_int (by rw [widthF, if_pos (by omega)]; rfl), rfl⟩
  · by_cases h2 : 1114111 < r
    · go_enter Try.func108, Try.ntmps108
      go_wp2
      go_ret
      exact ⟨ret_int (by rw [widthF, if_pos (by omega)]; rfl), rfl⟩
    · by_cases h3 : 55296 ≤ r
      · by_cases h4 : r ≤ 57343
        · go_enter Try.func108, Try.ntmps108
          go_wp2
          go_ret
          exact ⟨ret_int (by rw [widthF, if_pos (by omega)]; rfl), rfl⟩
        · by_cases h5 : r < 65536
          all_goals
            go_enter Try.func108, Try.ntmps108
            go_wp2
            go_ret
            exact ⟨ret_int (by rw [widthF, if_neg (by omega), if_neg (by omega), if_neg (by omega)]; first | (rw [if_pos (by omega)]; rfl) | (rw [if_neg (by omega)]; rfl)), rfl⟩
      · by_cases h4 : r < 128
        · go_enter Try.func108, Try.ntmps108
          go_wp2
          go_ret
          exact ⟨ret_int (by rw [widthF, if_neg (by omega), if_pos (by omega)]; rfl), rfl⟩
        · by_cases h5 : r < 2048
          · go_enter Try.func108, Try.ntmps108
            go_wp2
            go_ret
            exact ⟨ret_int (by rw [widthF, if_neg (by omega), if_neg (by omega), if_pos (by omega)]; rfl), rfl⟩
          · go_enter Try.func108, Try.ntmps108
            go_wp2
            go_ret
            exact ⟨ret_int (by rw [widthF, if_neg (by omega), if_neg (by omega), if_neg (by omega), if_pos (by omega)]; rfl), rfl⟩

set_option maxHeartbeats 400000 in
set_option maxRecDepth 100000 in
theorem RWidth_any (r : Int) (w : World) : Calls Try.prog 116 #[.int .i32 r] w fun e w' => e = .returned (.int .i64 (widthF r)) ∧ w = w' := by
  by_cases h1 : r < 0
  · go_enter Try.func116, Try.ntmps116
    go_wp2
    go_ret
    exact ⟨ret_int (by rw [widthF, if_pos (by omega)]; rfl), rfl⟩
  · by_cases h2 : 1114111 < r
    · go_enter Try.func116, Try.ntmps116
      go_wp2
      go_ret
      exact ⟨ret_int (by rw [widthF, if_pos (by omega)]; rfl), rfl⟩
    · by_cases h3 : 55296 ≤ r
      · by_cases h4 : r ≤ 57343
        · go_enter Try.func116, Try.ntmps116
          go_wp2
          go_ret
          exact ⟨ret_int (by rw [widthF, if_pos (by omega)]; rfl), rfl⟩
        · by_cases h5 : r < 65536
          all_goals
            go_enter Try.func116, Try.ntmps116
            go_wp2
            go_ret
            exact ⟨ret_int (by rw [widthF, if_neg (by omega), if_neg (by omega), if_neg (by omega)]; first | (rw [if_pos (by omega)]; rfl) | (rw [if_neg (by omega)]; rfl)), rfl⟩
      · by_cases h4 : r < 128
        · go_enter Try.func116, Try.ntmps116
          go_wp2
          go_ret
          exact ⟨ret_int (by rw [widthF, if_neg (by omega), if_pos (by omega)]; rfl), rfl⟩
        · by_cases h5 : r < 2048
          · go_enter Try.func116, Try.ntmps116
            go_wp2
            go_ret
            exact ⟨ret_int (by rw [widthF, if_neg (by omega), if_neg (by omega), if_pos (by omega)]; rfl), rfl⟩
          · go_enter Try.func116, Try.ntmps116
            go_wp2
            go_ret
            exact ⟨ret_int (by rw [widthF, if_neg (by omega), if_neg (by omega), if_neg (by omega), if_pos (by omega)]; rfl), rfl⟩

/-- bytes as cells -/
abbrev bc (l : List UInt8) : List Value := l.map fun b => .int .u8 b.toNat

abbrev itemCells (l : List (Int × Nat × Nat)) : List Value := l.flatMap fun x => [.int .i32 x.1, .int .i64 x.2.1, .int .i64 x.2.2]

theorem Try.info90 : (Try.prog.info? 90).map (fun i => (i.zero, i.size, i.bytes)) = some (some (.agg #[.int .i32 0, .int .i64 0, .int .i64 0]), 3, 24) := by kernel_rfl
/-- append onto a row of rubric/scan.Item -/
theorem append_items (w : World) {ops : Array Oper} {rest : List Oper} {o : Oper} {a : Act} {Q : Exit → Act → World → Prop} (hgd : o.guard = none) (s x : Operand)
    (ho : o.op = .call { callee := .builtin .append, args := #[s, x], argTypes := #[86, 86] })
    (base : Nat) (v : Value) (n : Nat) (xs : List Value) (hs : a.eval s = v) (hown : w.ownsRow base 90 3 v n xs)
    (S : Nat → Prop) (A : Option Addr) (m c : Nat) (ys : List Value) (hx : a.eval x = .slice A m c) (hr : Rd w S 3 A m c ys) (h1 : ∀ u ∈ ys, u.oneCell' = true)
    (hlen : n + m ≤ 1000000000) (hbase : base ≤ w.heap.size)
    (h : ∀ A' c' w', w'.ownsRow base 90 3 (.slice A' (n + m) c') (n + m) (xs ++ ys) → w.grownBy w' v.ownBlock → ((Value.slice A' (n + m) c').ownBlock = v.ownBlock ∨ (Value.slice A' (n + m) c').ownBlock = some w.heap.size) →
      c' ≤ 9223372036854775807 → wpList Try.prog ops Q rest (a.put o.dst (.slice A' (n + m) c')) w') :
    wpList Try.prog ops Q (o :: rest) a w := by
  obtain ⟨i0, hi, hz0, hz1, hz2⟩ := info_parts Try.info90
  refine wpList_append_rd w hgd s x 86 ho base 90 i0 _ 3 24 Try.underlying86 hi hz0 hz1 hz2 rfl (by omega) v n xs hs hown S A m c ys hx hr h1 (by simp only [maxLen]; omega) (by omega) hbase ?_
  intro v' w' h1 h2 h3
  obtain ⟨A', c', rfl, hr'⟩ := own_form h1
  exact h A' c' w' h1 h2 h3 hr'.max

theorem Try.info93 : (Try.prog.info? 93).map (fun i => (i.zero, i.size, i.bytes)) = some (some (.agg #[.int .i32 0, .int .i64 0, .int .i64 0]), 3, 24) := by kernel_rfl
/-- append onto a row of rubric/rubricref01.Item -/
theorem append_ritems (w : World) {ops : Array Oper} {rest : List Oper} {o : Oper} {a : Act} {Q : Exit → Act → World → Prop} (hgd : o.guard = none) (s x : Operand)
    (ho : o.op = .call { callee := .builtin .append, args := #[s, x], argTypes := #[91, 91] })
    (base : Nat) (v : Value) (n : Nat) (xs : List Value) (hs : a.eval s = v) (hown : w.ownsRow base 93 3 v n xs)
    (S : Nat → Prop) (A : Option Addr) (m c : Nat) (ys : List Value) (hx : a.eval x = .slice A m c) (hr : Rd w S 3 A m c ys) (h1 : ∀ u ∈ ys, u.oneCell' = true)
    (hlen : n + m ≤ 1000000000) (hbase : base ≤ w.heap.size)
    (h : ∀ A' c' w', w'.ownsRow base 93 3 (.slice A' (n + m) c') (n + m) (xs ++ ys) → w.grownBy w' v.ownBlock → ((Value.slice A' (n + m) c').ownBlock = v.ownBlock ∨ (Value.slice A' (n + m) c').ownBlock = some w.heap.size) →
      c' ≤ 9223372036854775807 → wpList Try.prog ops Q rest (a.put o.dst (.slice A' (n + m) c')) w') :
    wpList Try.prog ops Q (o :: rest) a w := by
  obtain ⟨i0, hi, hz0, hz1, hz2⟩ := info_parts Try.info93
  refine wpList_append_rd w hgd s x 91 ho base 93 i0 _ 3 24 Try.underlying91 hi hz0 hz1 hz2 rfl (by omega) v n xs hs hown S A m c ys hx hr h1 (by simp only [maxLen]; omega) (by omega) hbase ?_
  intro v' w' h1 h2 h3
  obtain ⟨A', c', rfl, hr'⟩ := own_form h1
  exact h A' c' w' h1 h2 h3 hr'.max

/-- the rune that Go tells at a place, and how many bytes it has -/
theorem piece_good (s : ByteArray) (at_ : Nat) (hat : at_ < s.size) (h : (Utf8.decode s at_).1 ≠ 65533) : firstF (s.data.toList.drop at_) = (((Utf8.decode s at_).1 : Int), widthF (Utf8.decode s at_).1) := by
  have hne : s.data.toList.drop at_ ≠ [] := by
    intro h0
    have := congrArg List.length h0
    simp at this
    have : s.data.size = s.size := rfl
    omega
  rw [← decodeL_drop] at h ⊢
  have hv := firstF_good (s.data.toList.drop at_) hne
  rw [firstF, if_neg (fun hh => h hh.1)] at hv ⊢
  have h2 := runeLen_decode _ h
  have hw := decodeL_width (s.data.toList.drop at_)
  have hle := decodeL_le _ hne
  refine Prod.ext rfl ?_
  show (decodeL (s.data.toList.drop at_)).2 = _
  generalize (decodeL (s.data.toList.drop at_)).1 = c at h2 ⊢
  generalize (decodeL (s.data.toList.drop at_)).2 = n at h2 hw ⊢
  unfold runeLen at h2
  unfold widthF
  repeat' split at h2
  all_goals (dsimp only; first | omega | ((repeat' split) <;> omega))

theorem piece_repl (s : ByteArray) (at_ : Nat) (hat : at_ < s.size) (h : (Utf8.decode s at_).1 = 65533) :
    firstF (s.data.toList.drop at_) = if (s.data.toList.drop at_).take 3 = [239, 191, 189] then (65533, 3) else (-1, 1) := by
  have hne : s.data.toList.drop at_ ≠ [] := by
    intro h0
    have := congrArg List.length h0
    simp at this
    have : s.data.size = s.size := rfl
    omega
  rw [← decodeL_drop] at h
  generalize s.data.toList.drop at_ = l at h hne ⊢
  split
  · rename_i h3
    have he : encodeRune 65533 = [239, 191, 189] := by decide
    have hl : l = encodeRune 65533 ++ l.drop 3 := by rw [he, ← h3, List.take_append_drop]
    rw [hl, firstF_enc 65533 (by decide)]
    rfl
  · rename_i h3
    by_cases h1 : (decodeL l).2 = 1
    · rw [firstF, if_pos ⟨h, h1⟩]
    · exfalso
      have he := encode_decode l hne (fun hh => h1 hh.2)
      rw [h] at he
      have he2 : encodeRune ((65533 : Nat) : Int) = [239, 191, 189] := by decide
      rw [he2] at he
      have hlen := congrArg List.length he
      have hle := decodeL_le l hne
      rw [List.length_take] at hlen
      have : (decodeL l).2 = 3 := by simp at hlen; omega
      rw [this] at he
      exact h3 he.symm

set_option maxHeartbeats 1000000 in
set_option maxRecDepth 100000 in
theorem piece_any (s : ByteArray) (at_ : Nat) (hat : at_ < s.size) (hs : s.size ≤ 1000000000) (w : World) :
    Calls Try.prog 104 #[.string s, .int .i64 at_, .int .i32 (Utf8.decode s at_).1] w fun e w' =>
      e = .returned (.tuple #[.int .i32 (firstF (s.data.toList.drop at_)).1, .int .i64 (firstF (s.data.toList.drop at_)).2]) ∧ w = w' := by
  have hle := decode_le s at_
  by_cases h : (Utf8.decode s at_).1 = 65533
  · have HF := Lib.hid (piece_repl s at_ hat h)
    rw [h]
    by_cases h3 : (s.size : Int) - (at_ : Int) < 3
    · have HN : Hid (firstF (s.data.toList.drop at_) = (-1, 1)) := by
        rw [Hid, HF.out, if_neg]
        intro hh
        have := congrArg List.length hh
        simp at this
        have : s.data.size = s.size := rfl
        omega
      generalize firstF (s.data.toList.drop at_) = p at HN ⊢
      clear h HF
      go_enter Try.func104, Try.ntmps104
      go_wp2
      go_ret2
      exact ⟨by rw [HN.out]; rfl, rfl⟩
    · have hx : (s.extract at_ (at_ + 3)).toList = (s.data.toList.drop at_).take 3 := by
        rw [ByteArray.toList_eq, extract_data, Nat.add_sub_cancel_left]
      have HW := Lib.hid (Width_any 65533 w)
      have h4 : at_ + 3 ≤ s.size := by omega
      by_cases he : (s.data.toList.drop at_).take 3 = [239, 191, 189]
      · have HN : Hid (firstF (s.data.toList.drop at_) = (65533, 3)) := by rw [Hid, HF.out, if_pos he]
        have hb : ((s.extract at_ (at_ + 3)).toList == [239, 191, 189]) = true := by rw [hx, he]; rfl
        generalize firstF (s.data.toList.drop at_) = p at HN ⊢
        clear h HF hx he
        go_enter Try.func104, Try.ntmps104
        go_wp2_with fail
        refine HW.out.mono ?_
        rintro e w' ⟨rfl, rfl⟩
        go_wp2
        go_ret2
        exact ⟨by rw [HN.out]; rfl, rfl⟩
      · have HN : Hid (firstF (s.data.toList.drop at_) = (-1, 1)) := by rw [Hid, HF.out, if_neg he]
        have hb : ((s.extract at_ (at_ + 3)).toList == [239, 191, 189]) = false := by rw [hx, beq_eq_false_iff_ne]; exact he
        generalize firstF (s.data.toList.drop at_) = p at HN ⊢
        clear h HF hx he
        go_enter Try.func104, Try.ntmps104
        go_wp2
        go_ret2
        exact ⟨by rw [HN.out]; rfl, rfl⟩
  · have HN := Lib.hid (piece_good s at_ hat h)
    have hb : (((Utf8.decode s at_).1 : Int) == 65533) = false := by rw [beq_eq_false_iff_ne]; omega
    generalize firstF (s.data.toList.drop at_) = p at HN ⊢
    generalize (Utf8.decode s at_).1 = c at HN hb hle h ⊢
    have HW := Lib.hid (Width_any c w)
    clear h
    go_enter Try.func104, Try.ntmps104
    go_wp2_with fail
    refine HW.out.mono ?_
    rintro e w' ⟨rfl, rfl⟩
    go_wp2
    go_ret2
    exact ⟨by rw [HN.out]; rfl, rfl⟩

/-! ### a row of bytes as a text -/
theorem bc_get {l : List UInt8} {k : Nat} {u : Value} (h : (bc l)[k]? = some u) : ∃ h : k < l.length, u = .int .u8 (l[k]).toNat := by
  simp only [bc, List.getElem?_map, Option.map_eq_some_iff] at h
  obtain ⟨a, ha, rfl⟩ := h
  obtain ⟨hk, rfl⟩ := List.getElem?_eq_some_iff.1 ha
  exact ⟨hk, rfl⟩
theorem bc_one (l : List UInt8) : ∀ u ∈ bc l, u.oneCell' = true := by
  intro u hu
  obtain ⟨_, _, rfl⟩ := List.mem_map.1 hu
  rfl
theorem bc_len {w : World} {S : Nat → Prop} {A : Option Addr} {n c : Nat} {l : List UInt8} (h : Rd w S 1 A n c (bc l)) : n = l.length := by have := h.len; simpa using this.symm

theorem bytesOf_bc (l : List UInt8) : (l.map fun b => (b.toNat : Int)).map (Value.int .u8) = bc l := by simp [bc]

theorem run_bytes_string {P : Program} {w : World} {S : Nat → Prop} {A : Option Addr} {n c : Nat} {l : List UInt8} (h : Rd w S 1 A n c (bc l)) (src dst e : TypeId)
    (hs : P.underlying src = some (.slice e)) (he : P.underlying e = some (.int .u8)) (hd : P.underlying dst = some .string) :
    (convert src dst (.slice A n c)).run P w = .ok (.string ⟨l.toArray⟩) w := by
  obtain rfl := bc_len h
  rcases A with _ | ad
  · have := h.nil rfl
    have := h.le
    have : l = [] := List.eq_nil_of_length_eq_zero (by omega)
    subst this
    rw [run_convert_bytes_string w src dst e _ _ _ hs he hd]
    rfl
  · refine run_convert_bytes_back w src dst e ad c l hs he hd fun j hj => ?_
    obtain ⟨b, o, ha, _, hc⟩ := h.at_ (by omega)
    injection ha with ha
    subst ha
    rw [Addr.add_lit]
    exact hc j _ (by simp [bc, hj])

theorem run_string_bytes {P : Program} (w : World) (s : ByteArray) (src dst e : TypeId) (hs : P.underlying src = some .string) (hd : P.underlying dst = some (.slice e)) (he : P.underlying e = some (.int .u8))
    (hlen : s.size ≤ 1000000000) :
    ∃ A c w', (convert src dst (.string s)).run P w = .ok (.slice A s.size c) w' ∧ Rd w' (fun b => w.heap.size ≤ b) 1 A s.size c (bc s.data.toList) ∧ Below w.heap.size w w' ∧ c ≤ 9223372036854775807 := by
  have hge := grownCap_ge w s.size 0 e
  have hmx := grownCap_le_maxLen w s.size 0 e (by unfold maxLen; omega)
  refine ⟨_, _, _, run_bytes_of_string w src dst e s hs hd he, ?_, (Below.refl _ w).drew.alloc (Nat.le_refl _) _, hmx⟩
  have hsz : s.data.toList.length = s.size := by simp
  refine ⟨by simp [bc], hge, hmx, (fun h => by cases h), fun _ => ⟨_, _, rfl, Nat.le_refl _, fun j u hu => ?_⟩⟩
  obtain ⟨hj, rfl⟩ := bc_get hu
  have hj2 : j < s.data.size := by simpa using hj
  rw [Nat.zero_add]
  refine (World.cell?_alloc_mark w.drew (bytesRow s (grownCap w s.size 0 e)) e _ j).trans ?_
  rw [bytesRow, Array.getElem?_append_left (by simpa using hj2)]
  simp only [Array.getElem?_map, Array.getElem?_eq_getElem hj2, Option.map_some, Array.getElem_toList]

/-! ### Items -/
theorem itemCells_append (a b : List (Int × Nat × Nat)) : itemCells (a ++ b) = itemCells a ++ itemCells b := by simp [itemCells]
theorem itemCells_one (l : List (Int × Nat × Nat)) : ∀ u ∈ itemCells l, u.oneCell' = true := by
  intro u hu
  simp only [itemCells, List.mem_flatMap, List.mem_cons, List.not_mem_nil, or_false] at hu
  obtain ⟨x, _, rfl | rfl | rfl⟩ := hu <;> rfl
theorem itemCells_len (l : List (Int × Nat × Nat)) : (itemCells l).length = l.length * 3 := by
  induction l with
  | nil => rfl
  | cons a t ih => simp only [itemCells, List.flatMap_cons, List.length_append, List.length_cons, List.length_nil] at ih ⊢; omega
theorem items_len (k : Nat) : ∀ (off : Nat) (l : List UInt8), (itemsGo k off l).length ≤ k := by
  induction k with
  | zero => intro off l; simp [itemsGo]
  | succ k ih =>
    intro off l
    cases l with
    | nil => simp [itemsGo]
    | cons b t => simp only [itemsGo, List.length_cons]; have := ih (off + (firstF (b :: t)).2) ((b :: t).drop (firstF (b :: t)).2); omega

theorem below_iter {B : Nat} {a w : World} (h : Below B a w) (hB : B ≤ w.heap.size) (s : ByteArray) (p : Nat) : Below B a (w.iter s p) := h.alloc hB _

end Go.Proofs.Ytbbplpmaknaadaa
