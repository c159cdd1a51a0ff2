/- The laws, on data. No condition. -/
import Derived.Test.YtclmekjncingcaaDoorEngC
import Derived.Test.YtclmekjncingcaaDoorCode
import Derived.Test.YtclmekjncingcaaDoorEngS
import Derived.Test.YtclmekjncingcaaDoorEngD
import Derived.Test.YtclmekjncingcaaDoorTies
set_option linter.all false
set_option linter.unnecessarySimpa false
attribute [simp] Go.Am.atP_t
namespace Go.Am
set_option linter.unusedVariables false
set_option linter.unusedSimpArgs false

section
variable {bt : Bool} {a b : Int}
@[simp] theorem b8_lss : binP bt .lss (eU8 a) (.val (.int .u8 b)) = some (eB (decide (a < b))) := rfl
@[simp] theorem b8_leq : binP bt .leq (eU8 a) (.val (.int .u8 b)) = some (eB (decide (a ≤ b))) := rfl
@[simp] theorem b8_gtr : binP bt .gtr (eU8 a) (.val (.int .u8 b)) = some (eB (decide (a > b))) := rfl
@[simp] theorem b8_geq : binP bt .geq (eU8 a) (.val (.int .u8 b)) = some (eB (decide (a ≥ b))) := rfl
@[simp] theorem b8_eql : binP bt .eql (eU8 a) (.val (.int .u8 b)) = some (eB (a == b)) := rfl
end
theorem sixP_some {s : ByteArray} {i : Nat} {b : UInt8} (h : s[i]? = some b) : sixP (eS s) (eI (i : Int)) = some (eU8 b.toNat) := by
  simp [sixP, eS, eI, strIdx, h, toDo, eU8]
theorem sixP_zero {s : ByteArray} {b : UInt8} (h : s[0]? = some b) : sixP (eS s) (eI 0) = some (eU8 b.toNat) := sixP_some (i := 0) h
theorem lexi_letter_ok (n : Nat) (c : Int) : lexi_letterL n [eU8 c] = some (eB (letterB c)) := by
  simp only [lexi_letterL, lexi_letter, letterB, b8_geq, b8_leq, obind_s]
  cases decide (c ≥ 97) <;> cases decide (c ≤ 122) <;> cases decide (c ≥ 65) <;> cases decide (c ≤ 90) <;> rfl
theorem lexi_digit_ok (n : Nat) (c : Int) : lexi_digitL n [eU8 c] = some (eB (digitB c)) := by
  simp only [lexi_digitL, lexi_digit, digitB, b8_geq, b8_leq, obind_s]
  cases decide (c ≥ 48) <;> cases decide (c ≤ 57) <;> rfl
theorem lexi_inside_ok (n : Nat) (c : Int) : lexi_insideL n [eU8 c] = some (eB (insideB c)) := by
  simp only [lexi_insideL, lexi_inside, insideB, lexi_letter_ok, lexi_digit_ok, b8_eql, obind_s]
  cases letterB c <;> cases digitB c <;> cases (c == 95) <;> rfl
theorem ref29_letter_ok (n : Nat) (c : Int) : ref29_letterL n [eU8 c] = some (eB (letterB c)) := by
  simp only [ref29_letterL, ref29_letter, letterB, b8_geq, b8_leq, obind_s]
  cases decide (c ≥ 97) <;> cases decide (c ≤ 122) <;> cases decide (c ≥ 65) <;> cases decide (c ≤ 90) <;> rfl
theorem ref29_digit_ok (n : Nat) (c : Int) : ref29_digitL n [eU8 c] = some (eB (digitB c)) := by
  simp only [ref29_digitL, ref29_digit, digitB, b8_geq, b8_leq, obind_s]
  cases decide (c ≥ 48) <;> cases decide (c ≤ 57) <;> rfl

theorem rowN_spec (p : Int → Bool) (s : ByteArray) : (∀ j : Nat, j < rowN p s → goOn p s j = true) ∧ goOn p s (rowN p s) = false ∧ rowN p s ≤ s.size := by
  unfold rowN
  cases h : (List.range (s.size + 1)).find? (fun i => !goOn p s i) with
  | none =>
    exfalso
    have h1 := List.find?_eq_none.1 h s.size (by simp)
    have : goOn p s s.size = true := by simpa using h1
    exact absurd (goOn_lt this) (Nat.lt_irrefl _)
  | some m =>
    rw [List.find?_range_eq_some] at h
    obtain ⟨h1, h2, h3⟩ := h
    refine ⟨fun j hj => by simpa using h3 j hj, by simpa using h1, by show m ≤ s.size; simp at h2; omega⟩
theorem goOn_some {p : Int → Bool} {s : ByteArray} {i : Nat} (h : goOn p s i = true) : ∃ b : UInt8, s[i]? = some b ∧ p b.toNat = true := by
  unfold goOn at h
  split at h
  · exact ⟨_, by assumption, h⟩
  · cases h
theorem goOn_false {p : Int → Bool} {s : ByteArray} {i : Nat} (h : goOn p s i = false) : (s[i]? = none ∧ s.size ≤ i) ∨ ∃ b : UInt8, s[i]? = some b ∧ i < s.size ∧ p b.toNat = false := by
  unfold goOn at h
  split at h
  · rename_i b hb
    refine .inr ⟨b, hb, ?_, h⟩
    rw [getB] at hb
    by_cases h1 : i < s.size
    · exact h1
    · rw [dif_neg h1] at hb; cases hb
  · rename_i hb
    refine .inl ⟨hb, ?_⟩
    rw [getB] at hb
    by_cases h1 : i < s.size
    · rw [dif_pos h1] at hb; cases hb
    · omega

theorem lexi_row_ok (n : Nat) (s : ByteArray) (hn : s.size < n) (hs : s.size ≤ 9223372036854775807) : lexi_row_lexi_insideL n [eS s, .val (.func (.func fid_lexi_inside) #[] #[])] = some (eI (rowN insideB s)) := by
  obtain ⟨h1, h2, h3⟩ := rowN_spec insideB s
  have key : iterL (lexi_row_lexi_inside_l2 n) n [eS s, eI 0] = some (.inl [eI (rowN insideB s)]) := by
    refine iterL_run (fun i => [eS s, eI i]) (rowN insideB s) rfl ?_ ?_ (by omega)
    · intro i hi
      obtain ⟨b, hb, hp⟩ := goOn_some (h1 i hi)
      simp (disch := omega) [lexi_row_lexi_inside_l2, sixP_some hb, lexi_inside_ok, hp, b_add, show i < s.size by omega]
    · rcases goOn_false h2 with ⟨hb, hp⟩ | ⟨b, hb, hlt, hp⟩
      · simp [lexi_row_lexi_inside_l2, show ¬ (rowN insideB s < s.size) by omega]
      · simp [lexi_row_lexi_inside_l2, sixP_some hb, lexi_inside_ok, hp, hlt]
  simp [lexi_row_lexi_insideL, lexi_row_lexi_inside, key]
theorem ref29_row_ok (n : Nat) (s : ByteArray) (hn : s.size < n) (hs : s.size ≤ 9223372036854775807) : ref29_rowL n [eS s, eI 0, eB false] = some (eI (rowN insideB s)) := by
  obtain ⟨h1, h2, h3⟩ := rowN_spec insideB s
  have one : ∀ (i : Nat) (b : UInt8), s[i]? = some b → i < s.size → ref29_row_l1 n [eS s, eI i, eB false] = if insideB b.toNat = true then some (.inl [eS s, eI (i + 1 : Nat), eB false]) else some (.inr (.inl [eI i])) := by
    intro i b hb hi
    simp (disch := omega) [ref29_row_l1, sixP_some hb, ref29_digit_ok, ref29_letter_ok, insideB, b_add, hi]
    by_cases h95 : ((b.toNat : Int) = 95) <;> cases digitB b.toNat <;> cases letterB b.toNat <;> simp [h95]
  have key : iterL (ref29_row_l1 n) n [eS s, eI 0, eB false] = some (.inl [eI (rowN insideB s)]) := by
    refine iterL_run (fun i => [eS s, eI i, eB false]) (rowN insideB s) rfl ?_ ?_ (by omega)
    · intro i hi
      obtain ⟨b, hb, hp⟩ := goOn_some (h1 i hi)
      rw [one i b hb (by omega), if_pos hp]
    · rcases goOn_false h2 with ⟨hb, hp⟩ | ⟨b, hb, hlt, hp⟩
      · simp [ref29_row_l1, show ¬ (rowN insideB s < s.size) by omega]
      · rw [one _ b hb hlt, if_neg (by simp [hp])]
  simp [ref29_rowL, ref29_row, key]

theorem first_or (p : Nat → Prop) [DecidablePred p] : ∀ m : Nat, (∀ j : Nat, j < m → ¬ p j) ∨ ∃ i, i < m ∧ p i ∧ ∀ j : Nat, j < i → ¬ p j
  | 0 => .inl (by intro j hj; omega)
  | m + 1 => by
    rcases first_or p m with h | ⟨i, h1, h2, h3⟩
    · by_cases hm : p m
      · exact .inr ⟨m, by omega, hm, h⟩
      · refine .inl fun j hj => ?_
        by_cases hjm : j = m
        · subst hjm; exact hm
        · exact h j (by omega)
    · exact .inr ⟨i, by omega, h2, h3⟩

theorem slices_Index_ok (n : Nat) (l : List ByteArray) (x : ByteArray) (hn : l.length < n) (hl : l.length < 4000000000000000000) : slices_Index_Lstring_stringL n [eSs l, eS x] = some (eI (idxOf x l)) := by
  have step : ∀ (i : Nat) (y : ByteArray), l[i]? = some y → i < l.length → slices_Index_Lstring_string_l2 n [eSs l, eS x, eI l.length, eI i] = if x = y then some (.inr (.inr (eI i))) else some (.inl [eSs l, eS x, eI l.length, eI (i + 1 : Nat)]) := by
    intro i y hy hi
    obtain ⟨_, rfl⟩ := List.getElem?_eq_some_iff.1 hy
    simp (disch := omega) [slices_Index_Lstring_string_l2, eSs, hy, hi, b_add]
  rcases first_or (fun i => l[i]? = some x) l.length with h | ⟨i, h1, h2, h3⟩
  · have key : iterL (slices_Index_Lstring_string_l2 n) n [eSs l, eS x, eI l.length, eI 0] = some (.inl []) := by
      refine iterL_run (fun i => [eSs l, eS x, eI l.length, eI i]) l.length rfl ?_ ?_ hn
      · intro i hi
        have hy := List.getElem?_eq_getElem hi
        rw [step i _ hy hi, if_neg]
        intro he
        exact h i hi (by rw [hy, he])
      · simp [slices_Index_Lstring_string_l2]
    have e : (eSs l) = .sl 1 (l.map fun s => [eS s]) := rfl
    simp [slices_Index_Lstring_stringL, slices_Index_Lstring_string, idxOf_none h]
    rw [e] at key ⊢
    simp [key]
  · have key : iterL (slices_Index_Lstring_string_l2 n) n [eSs l, eS x, eI l.length, eI 0] = some (.inr (eI i)) := by
      refine iterL_run (fun i => [eSs l, eS x, eI l.length, eI i]) i rfl ?_ ?_ (by omega)
      · intro j hj
        have hy := List.getElem?_eq_getElem (show j < l.length by omega)
        rw [step j _ hy (by omega), if_neg]
        intro he
        exact h3 j hj (by rw [hy, he])
      · rw [step i x h2 h1, if_pos rfl]
    simp [slices_Index_Lstring_stringL, slices_Index_Lstring_string, idxOf_eq h3 h2]
    have e : (eSs l) = .sl 1 (l.map fun s => [eS s]) := rfl
    rw [e] at key ⊢
    simp [key]
theorem slices_Contains_ok (n : Nat) (l : List ByteArray) (x : ByteArray) (hn : l.length < n) (hl : l.length < 4000000000000000000) : slices_Contains_Lstring_stringL n [eSs l, eS x] = some (eB (has x l)) := by
  simp [slices_Contains_Lstring_stringL, slices_Contains_Lstring_string, slices_Index_ok n l x hn hl, idx_mem]
theorem ref29_among_ok (n : Nat) (l : List ByteArray) (x : ByteArray) (hn : l.length < n) (hl : l.length < 4000000000000000000) : ref29_amongL n [eSs l, eS x] = some (eB (has x l)) := by
  have step : ∀ (i : Nat) (y : ByteArray), l[i]? = some y → i < l.length → ref29_among_l2 n [eSs l, eS x, eI i] = if y = x then some (.inr (.inr (eB true))) else some (.inl [eSs l, eS x, eI (i + 1 : Nat)]) := by
    intro i y hy hi
    obtain ⟨_, rfl⟩ := List.getElem?_eq_some_iff.1 hy
    simp (disch := omega) [ref29_among_l2, eSs, hy, hi, b_add]
  rcases first_or (fun i => l[i]? = some x) l.length with h | ⟨i, h1, h2, h3⟩
  · have key : iterL (ref29_among_l2 n) n [eSs l, eS x, eI 0] = some (.inl []) := by
      refine iterL_run (fun i => [eSs l, eS x, eI i]) l.length rfl ?_ ?_ hn
      · intro i hi
        have hy := List.getElem?_eq_getElem hi
        rw [step i _ hy hi, if_neg]
        intro he
        exact h i hi (by rw [hy, he])
      · simp [ref29_among_l2, eSs]
    simp [ref29_amongL, ref29_among, key, mem_no h]
  · have key : iterL (ref29_among_l2 n) n [eSs l, eS x, eI 0] = some (.inr (eB true)) := by
      refine iterL_run (fun i => [eSs l, eS x, eI i]) i rfl ?_ ?_ (by omega)
      · intro j hj
        have hy := List.getElem?_eq_getElem (show j < l.length by omega)
        rw [step j _ hy (by omega), if_neg]
        intro he
        exact h3 j hj (by rw [hy, he])
      · rw [step i x h2 h1, if_pos rfl]
    simp [ref29_amongL, ref29_among, key, mem_yes h2]
theorem ref29_Words_ok (n : Nat) : ref29_WordsL n [] = some (eSs words) := rfl
theorem words_eq : (D.sl 1 (wordsD.map fun c => [c])) = eSs words := rfl
theorem lexi_Is_ok (n : Nat) (s : ByteArray) (hn : s.size + 24 < n) (hs : s.size ≤ 9223372036854775807) : lexi_IsL n [eS s] = some (eB (isName s)) := by
  have hw : words.length = 24 := rfl
  have h1 := lexi_row_ok n s (by omega) hs
  have h2 := slices_Contains_ok n words s (by omega) (by omega)
  rcases firstB s with ⟨b1, hz⟩ | ⟨b, b1, hz, hb⟩
  · simp [lexi_IsL, lexi_Is, b1, isName, hz]
  · simp only [lexi_IsL, lexi_Is, isName, goOn, hb, sixP_zero hb, lexi_letter_ok, h1, h2, words_eq, s_neq, b1, hz, lensP_S, b_leq, b_eql, u_not, obind_s]
    cases decide ((s.size : Int) ≤ 24) <;> cases letterB b.toNat <;> cases ((rowN insideB s : Int) == (s.size : Int)) <;> cases has s words <;> rfl
theorem ref29_Is_ok (n : Nat) (s : ByteArray) (hn : s.size + 24 < n) (hs : s.size ≤ 9223372036854775807) : ref29_IsL n [eS s] = some (eB (isName s)) := by
  have hw : words.length = 24 := rfl
  have h1 := ref29_row_ok n s (by omega) hs
  have h2 := ref29_among_ok n words s (by omega) (by omega)
  rcases firstB s with ⟨b1, hz⟩ | ⟨b, b1, hz, hb⟩
  · simp only [ref29_IsL, ref29_Is, lensP_S, b_geq, obind_s, hz]
    simp [isName, hz]
  · simp only [ref29_IsL, ref29_Is, isName, goOn, hb, sixP_zero hb, ref29_letter_ok, h1, h2, ref29_Words_ok, hz, lensP_S, b_leq, b_geq, b_eql, u_not, obind_s]
    cases decide ((s.size : Int) ≤ 24) <;> cases letterB b.toNat <;> cases ((rowN insideB s : Int) == (s.size : Int)) <;> cases has s words <;> rfl
end Go.Am
namespace Go.Am
set_option linter.unusedVariables false
set_option linter.unusedSimpArgs false

theorem vcells_one (v : V) : (v.cells.length == 4 && v.cells.all D.one) = true := rfl
theorem same_ok (n : Nat) (w v : V) : typing_Vars_1L n [w.d, .ref v.cells 0] = some (eB (decide (w.name = v.name))) := by
  simp [typing_Vars_1L, typing_Vars_1, V.d, V.cells]
theorem vIndex_ok (n : Nat) (l : List V) (v : V) (hn : l.length < n) (hl : l.length < 4000000000000000000) :
    slices_IndexFunc_Lapi_Var_api_Var_typing_Vars_1L n [eVs l, .fn (.func fid_typing_Vars_1) [] [.ref v.cells 0]] = some (eI (idxOf v.name (l.map V.name))) := by
  have hle : (l.map V.name).length = l.length := by simp
  have step : ∀ (i : Nat) (y : V), l[i]? = some y → i < l.length → slices_IndexFunc_Lapi_Var_api_Var_typing_Vars_1_l2 n [eVs l, .ref v.cells 0, eI l.length, eI i] = if y.name = v.name then some (.inr (.inr (eI i))) else some (.inl [eVs l, .ref v.cells 0, eI l.length, eI (i + 1 : Nat)]) := by
    intro i y hy hi
    obtain ⟨_, rfl⟩ := List.getElem?_eq_some_iff.1 hy
    have h1 := same_ok n l[i] v
    simp only [V.d, V.cells] at h1
    simp (disch := omega) [slices_IndexFunc_Lapi_Var_api_Var_typing_Vars_1_l2, eVs, hi, b_add, V.cells, h1]
  have e0 : ∀ x, slices_IndexFunc_Lapi_Var_api_Var_typing_Vars_1L n [eVs l, .fn (.func fid_typing_Vars_1) [] [x]] = obind (iterL (slices_IndexFunc_Lapi_Var_api_Var_typing_Vars_1_l2 n) n [eVs l, x, eI l.length, eI 0]) (jnX fun ls => some (eI (-1))) := by
    intro x
    simp only [slices_IndexFunc_Lapi_Var_api_Var_typing_Vars_1L, fnOf_self, slices_IndexFunc_Lapi_Var_api_Var_typing_Vars_1]
    simp [eVs]
  rw [e0]
  rcases first_or (fun i => (l.map V.name)[i]? = some v.name) l.length with h | ⟨i, h1, h2, h3⟩
  · have key : iterL (slices_IndexFunc_Lapi_Var_api_Var_typing_Vars_1_l2 n) n [eVs l, .ref v.cells 0, eI l.length, eI 0] = some (.inl []) := by
      refine iterL_run (fun i => [eVs l, .ref v.cells 0, eI l.length, eI i]) l.length rfl ?_ ?_ hn
      · intro i hi
        have hy := List.getElem?_eq_getElem hi
        rw [step i _ hy hi, if_neg]
        intro he
        exact h i hi (by rw [List.getElem?_map, hy, ← he]; rfl)
      · simp [slices_IndexFunc_Lapi_Var_api_Var_typing_Vars_1_l2]
    rw [key, idxOf_none (by rw [hle]; exact h)]
    rfl
  · have key : iterL (slices_IndexFunc_Lapi_Var_api_Var_typing_Vars_1_l2 n) n [eVs l, .ref v.cells 0, eI l.length, eI 0] = some (.inr (eI i)) := by
      refine iterL_run (fun i => [eVs l, .ref v.cells 0, eI l.length, eI i]) i rfl ?_ ?_ (by omega)
      · intro j hj
        have hy := List.getElem?_eq_getElem (show j < l.length by omega)
        rw [step j _ hy (by omega), if_neg]
        intro he
        exact h3 j hj (by rw [List.getElem?_map, hy, ← he]; rfl)
      · have hy := List.getElem?_eq_getElem h1
        rw [step i _ hy h1, if_pos]
        rw [List.getElem?_map, hy] at h2
        simpa using h2
    rw [key, idxOf_eq h3 h2]
    rfl
theorem vContains_ok (n : Nat) (l : List V) (v : V) (hn : l.length < n) (hl : l.length < 4000000000000000000) :
    slices_ContainsFunc_Lapi_Var_api_Var_typing_Vars_1L n [eVs l, .fn (.func fid_typing_Vars_1) [] [.ref v.cells 0]] = some (eB (has v.name (l.map V.name))) := by
  simp only [slices_ContainsFunc_Lapi_Var_api_Var_typing_Vars_1L, fnOf_self, slices_ContainsFunc_Lapi_Var_api_Var_typing_Vars_1, vIndex_ok n l v hn hl]
  simp [idx_mem]
theorem subP_take {k : Nat} {es : List (List D)} {i : Nat} (h : i ≤ es.length) : subP k (.sl k es) none (some (eI (i : Int))) = some (.sl k (es.take i)) := by
  simp [subP, bndP, eI, h]

def B3 (v : V) : Bool := v.bool && (v.lo != 0 || v.hi != 0)
def B2 (v : V) : Bool := !v.bool && (decide (v.lo > v.hi) || outB v || decide (IntKind.i64.wrap (v.hi - v.lo) ≥ 64))
theorem varErr_B (seen : List V) (v : V) : varErr seen v = if !isName v.name then 12 else if has v.name (seen.map V.name) then 6 else if B3 v then 3 else if B2 v then 2 else 0 := rfl
/-- Every variable's ends fit an int, its name is no giant. -/
def VsOk (l : List V) : Prop := l.length < 1000000000000 ∧ ∀ v ∈ l, inI v.lo ∧ inI v.hi ∧ v.name.size ≤ 9223372036854775807

theorem typing_Vars_step (n : Nat) (l : List V) (hl : VsOk l) (hn : l.length < n) (hnn : ∀ v ∈ l, v.name.size + 24 < n) (i : Nat) (hi : i < l.length) :
    typing_Vars_l2 n [eVs l, eVs l, eI l.length, eI i] = if vErrAt l i = 0 then some (.inl [eVs l, eVs l, eI l.length, eI (i + 1 : Nat)]) else some (.inr (.inr (.tup [eI i, eI (vErrAt l i)]))) := by
  have hy := List.getElem?_eq_getElem hi
  have hv := hl.2 _ (List.getElem_mem hi)
  have hlen := hl.1
  have e : vErrAt l i = varErr (l.take i) l[i] := by simp only [vErrAt, hy]
  rw [e]
  generalize hw : l[i] = v at *
  have h1 := lexi_Is_ok n v.name (hnn v (hw ▸ List.getElem_mem hi)) (by omega)
  have h2 := vContains_ok n (l.take i) v (by rw [List.length_take]; omega) (by rw [List.length_take]; omega)
  have h3 : subP 4 (eVs l) none (some (eI (i : Int))) = some (eVs (l.take i)) := by
    rw [eVs, subP_take (by simp; omega), List.map_take.symm]; rfl
  have h4 : ixP 4 (eVs l) (eI (i : Int)) = some v.cells := by simp [eVs, hy, hw]
  have h5 : binP false .lss (eI (i : Int)) (eI (l.length : Int)) = some (eB true) := by simp [hi]
  have h6 : binP false .add (eI (i : Int)) (eI 1) = some (eI (i + 1 : Nat)) := by rw [b_add (by omega) (by omega)]; rfl
  have h7 : binP false .sub (eI v.hi) (eI v.lo) = some (eI (IntKind.i64.wrap (v.hi - v.lo))) := rfl
  have h8 : atP true 4 0 v.cells = some v.d := rfl
  have h9 : aggP 4 v.d = true := rfl
  have c0 : celD v.d 0 = eS v.name := rfl
  have c1 : celD v.d 1 = eB v.bool := rfl
  have c2 : celD v.d 2 = eI v.lo := rfl
  have c3 : celD v.d 3 = eI v.hi := rfl
  have c4 : (D.ref [eS v.name, eB v.bool, eI v.lo, eI v.hi] 0) = .ref v.cells 0 := rfl
  have g1 : outB v = (decide ((if v.hi > v.lo then v.hi else v.lo) > 255) || decide ((if v.hi < v.lo then v.hi else v.lo) < -255)) := rfl
  rw [varErr_B]
  simp only [typing_Vars_l2, pd_0, pd_s, h5, obind_s, oif_b, if_true, h4, h8, h9, og_t, c0, c1, c2, c3, c4, mm_max, mm_min, h1, h2, h3, u_not, b_gtr, b_lss, flat_eB, b_neq, h6, h7, b_geq]
  rw [B3, B2, g1]
  cases isName v.name
  · cases decide ((if v.hi > v.lo then v.hi else v.lo) > 255) <;> simp
  cases has v.name ((l.take i).map V.name)
  rotate_left
  · cases decide ((if v.hi > v.lo then v.hi else v.lo) > 255) <;> simp
  generalize decide ((if v.hi > v.lo then v.hi else v.lo) > 255) = p1
  generalize decide ((if v.hi < v.lo then v.hi else v.lo) < -255) = p2
  generalize decide (v.lo > v.hi) = p3
  generalize decide (IntKind.i64.wrap (v.hi - v.lo) ≥ 64) = p4
  generalize (v.lo != 0) = p5
  generalize (v.hi != 0) = p6
  cases v.bool <;> cases p1 <;> cases p2 <;> cases p3 <;> cases p4 <;> cases p5 <;> cases p6 <;> rfl

theorem typing_Vars_ok (n : Nat) (l : List V) (hl : VsOk l) (hn : l.length < n) (hnn : ∀ v ∈ l, v.name.size + 24 < n) :
    typing_VarsL n [eVs l] = some (.tup [eI (firstErr l).1, eI (firstErr l).2]) := by
  have e0 : typing_VarsL n [eVs l] = obind (iterL (typing_Vars_l2 n) n [eVs l, eVs l, eI l.length, eI 0]) (jnX fun ls => some (D.tup [eI 0, eI 0])) := by
    simp [typing_VarsL, typing_Vars, eVs]
  rw [e0]
  rcases first_or (fun i => vErrAt l i ≠ 0) l.length with h | ⟨i, h1, h2, h3⟩
  · have h' : ∀ j : Nat, j < l.length → vErrAt l j = 0 := fun j hj => by simpa using h j hj
    have key : iterL (typing_Vars_l2 n) n [eVs l, eVs l, eI l.length, eI 0] = some (.inl []) := by
      refine iterL_run (fun i => [eVs l, eVs l, eI l.length, eI i]) l.length rfl ?_ ?_ hn
      · intro i hi
        rw [typing_Vars_step n l hl hn hnn i hi, if_pos (h' i hi)]
      · simp [typing_Vars_l2]
    rw [key, firstErr_none h']
    rfl
  · have h' : ∀ j : Nat, j < i → vErrAt l j = 0 := fun j hj => by simpa using h3 j hj
    have key : iterL (typing_Vars_l2 n) n [eVs l, eVs l, eI l.length, eI 0] = some (.inr (.tup [eI i, eI (vErrAt l i)])) := by
      refine iterL_run (fun i => [eVs l, eVs l, eI l.length, eI i]) i rfl ?_ ?_ (by omega)
      · intro j hj
        rw [typing_Vars_step n l hl hn hnn j (by omega), if_pos (h' j hj)]
      · rw [typing_Vars_step n l hl hn hnn i h1, if_neg h2]
    rw [key, firstErr_eq h' h1 rfl h2]
    rfl

/-! ### Spans, bits -/
@[simp] theorem cv64 {a : Int} : cvP .u64 (eI a) = some (.val (.int .u64 (IntKind.u64.wrap a))) := rfl
theorem cvI {k : IntKind} {a : Int} : cvP .i64 (.val (.int k a)) = some (eI (IntKind.i64.wrap a)) := rfl
theorem typing_Span_ok (n : Nat) (v : V) (h1 : inI v.lo) (h2 : inI v.hi) : typing_SpanL n [v.d] = some (eI v.span) := by
  have c1 : celD v.d 1 = eB v.bool := rfl
  have c2 : celD v.d 2 = eI v.lo := rfl
  have c3 : celD v.d 3 = eI v.hi := rfl
  have h9 : aggP 4 v.d = true := rfl
  simp only [typing_SpanL, typing_Span, h9, og_t, c1, c2, c3, oif_b, b_gtr, obind_s, cv64, cvI]
  cases hb : v.bool with
  | true => simp [V.span_bool hb]
  | false =>
    by_cases hlt : v.lo > v.hi
    · simp [V.span_none hb hlt, hlt]
    · have hle : v.lo ≤ v.hi := by omega
      have e1 : binP false .sub (.val (.int .u64 (IntKind.u64.wrap v.hi))) (.val (.int .u64 (IntKind.u64.wrap v.lo))) = some (.val (.int .u64 (v.hi - v.lo))) := by
        show some (D.val (.int .u64 (IntKind.u64.wrap (IntKind.u64.wrap v.hi - IntKind.u64.wrap v.lo)))) = _
        rw [u64_sub h1 h2 hle]
      have e2 : binP false .lss (.val (.int .u64 (v.hi - v.lo))) (.val (.int .u64 1073741824)) = some (eB (decide (v.hi - v.lo < 1073741824))) := rfl
      simp only [hlt, decide_false, Bool.false_eq_true, if_false, e1, e2, obind_s, oif_b]
      by_cases hm : v.hi - v.lo < 1073741824
      · rw [V.span_some hb hle hm]
        simp only [hm, decide_true, if_true, cvI, obind_s, wrap64 _ (show -9223372036854775808 ≤ v.hi - v.lo by omega) (by omega)]
        rw [b_add (by omega) (by omega)]
        rfl
      · rw [V.span_many hb hle (by omega)]
        simp [hm]
theorem ref36_Span_ok (n : Nat) (v : V) (h1 : inI v.lo) (h2 : inI v.hi) : ref36_SpanL n [v.d] = some (eI v.span) := by
  have c1 : celD v.d 1 = eB v.bool := rfl
  have c2 : celD v.d 2 = eI v.lo := rfl
  have c3 : celD v.d 3 = eI v.hi := rfl
  have h9 : aggP 4 v.d = true := rfl
  simp only [ref36_SpanL, ref36_Span, h9, og_t, c1, c2, c3, oif_b, b_gtr, obind_s, cv64]
  cases hb : v.bool with
  | true => simp [V.span_bool hb]
  | false =>
    by_cases hlt : v.lo > v.hi
    · simp [V.span_none hb hlt, hlt]
    · have hle : v.lo ≤ v.hi := by omega
      have e1 : binP false .sub (.val (.int .u64 (IntKind.u64.wrap v.hi))) (.val (.int .u64 (IntKind.u64.wrap v.lo))) = some (.val (.int .u64 (v.hi - v.lo))) := by
        show some (D.val (.int .u64 (IntKind.u64.wrap (IntKind.u64.wrap v.hi - IntKind.u64.wrap v.lo)))) = _
        rw [u64_sub h1 h2 hle]
      have e2 : binP false .gtr (.val (.int .u64 (v.hi - v.lo))) (.val (.int .u64 1073741824)) = some (eB (decide (v.hi - v.lo > 1073741824))) := rfl
      simp only [hlt, decide_false, Bool.false_eq_true, if_false, e1, e2, obind_s, oif_b]
      by_cases hm : v.hi - v.lo > 1073741824
      · rw [V.span_many hb hle (by omega)]
        simp only [hm, decide_true, if_true, obind_s, jnX_l, pd_0, cvI]
        rfl
      · simp only [hm, decide_false, Bool.false_eq_true, if_false, obind_s, jnX_l, pd_0, cvI, wrap64 _ (show -9223372036854775808 ≤ v.hi - v.lo by omega) (by omega)]
        rw [b_add (by omega) (by omega)]
        simp only [obind_s]
        by_cases he : v.hi - v.lo = 1073741824
        · rw [V.span_many hb hle (by omega), he]; rfl
        · rw [V.span_some hb hle (by omega)]
theorem V.span_le (v : V) : 0 ≤ v.span ∧ v.span ≤ 1073741825 := by
  unfold V.span
  split
  · omega
  · split
    · omega
    · split <;> omega
theorem pow62 {i : Nat} (h : i ≤ 62) : ((2 : Int) ^ i) ≤ 4611686018427387904 ∧ 0 < (2 : Int) ^ i := by
  have h1 : (2 : Nat) ^ i ≤ 2 ^ 62 := Nat.pow_le_pow_right (by omega) h
  have h3 : ((2 ^ i : Nat) : Int) = 2 ^ i := by simp
  have h2 : (0 : Int) < 2 ^ i := Int.pow_pos (by omega)
  omega
theorem shl_one {bt : Bool} {i : Nat} (h : i ≤ 62) : binP bt .shl (eI 1) (eI (i : Int)) = some (eI ((2 : Int) ^ i)) := by
  have hneg : ¬ ((i : Int) < 0) := by omega
  have hm : min i IntKind.i64.bits = i := by simp [IntKind.bits]; omega
  obtain ⟨h1, h2⟩ := pow62 h
  have e : IntKind.i64.wrap (1 * 2 ^ (min i IntKind.i64.bits)) = 2 ^ i := by
    rw [hm, Int.one_mul]; exact wrap64 _ (by omega) (by omega)
  simp only [binP, eI, toDo, hneg, if_false, Int.toNat_natCast]
  rw [e]
theorem bitsOf_spec {n : Int} (h : n ≤ 1073741825) : bitsOf n ≤ 62 ∧ (∀ j : Nat, j < bitsOf n → (2 : Int) ^ j < n) ∧ n ≤ 2 ^ bitsOf n := by
  rcases first_or (fun i => n ≤ (2 : Int) ^ i) 40 with h1 | ⟨i, h1, h2, h3⟩
  · exact absurd h (by have := h1 39 (by omega); simp at this; omega)
  · have h3' : ∀ j : Nat, j < i → (2 : Int) ^ j < n := fun j hj => by have := h3 j hj; omega
    rw [bitsOf_eq h3' h2]
    exact ⟨by omega, h3', h2⟩
theorem num_Bits_ok (n : Nat) (k : Int) (hk : k ≤ 1073741825) (hn : 63 < n) : num_BitsL n [eI k] = some (eI (bitsOf k)) := by
  obtain ⟨h1, h2, h3⟩ := bitsOf_spec hk
  have key : iterL (num_Bits_l2 n) n [eI k, eI 0] = some (.inr (eI (bitsOf k))) := by
    refine iterL_run (fun i => [eI k, eI i]) (bitsOf k) rfl ?_ ?_ (by omega)
    · intro i hi
      have := h2 i hi
      simp (disch := omega) [num_Bits_l2, shl_one, b_add, show ((i : Int) < 63) by omega, show ¬ (k ≤ (2 : Int) ^ i) by omega]
    · simp (disch := omega) [num_Bits_l2, shl_one, show ((bitsOf k : Int) < 63) by omega, h3]
  simp [num_BitsL, num_Bits, key]
end Go.Am
namespace Go.Am
set_option linter.unusedVariables false
set_option linter.unusedSimpArgs false

theorem ref36_number_ok (n : Nat) (k : Int) : ref36_numberL n [eI k] = some (eB (decide (k ≥ -255) && decide (k ≤ 255))) := by
  simp only [ref36_numberL, ref36_number, b_geq, b_leq, obind_s]
  cases decide (k ≥ -255) <;> cases decide (k ≤ 255) <;> rfl

theorem ref36_l7_step (n : Nat) (l : List V) (i k : Nat) (hi : i < l.length) (hk : k < i) (hlen : l.length < 1000000000000) :
    ref36_Vars_l7 n [eVs l, eI i, eI k] = if (l[k]'(by omega)).name = l[i].name then some (.inr (.inr (.inr (.inr (.inr (.tup [eI i, eI 6])))))) else some (.inl [eVs l, eI i, eI (k + 1 : Nat)]) := by
  have hki : k < l.length := by omega
  have h1 : l[k]? = some l[k] := List.getElem?_eq_getElem hki
  have h2 : l[i]? = some l[i] := List.getElem?_eq_getElem hi
  simp (disch := omega) [ref36_Vars_l7, eVs, hk, b_add, hki, hi, V.cells]
theorem ref36_l7_ok (n : Nat) (l : List V) (i : Nat) (hi : i < l.length) (hlen : l.length < 1000000000000) (hn : l.length < n) :
    iterL (ref36_Vars_l7 n) n [eVs l, eI i, eI 0] = if has l[i].name ((l.take i).map V.name) = true then some (.inr (.inr (.inr (.inr (.tup [eI i, eI 6]))))) else some (.inl [eVs l, eI i]) := by
  rcases first_or (fun k => (l.map V.name)[k]? = some l[i].name) i with h | ⟨k, h1, h2, h3⟩
  · rw [hasNone h, if_neg (by simp)]
    refine iterL_run (fun k => [eVs l, eI i, eI k]) i rfl ?_ ?_ (by omega)
    · intro k hk
      rw [ref36_l7_step n l i k hi hk hlen, if_neg]
      intro he
      refine h k hk ?_
      rw [List.getElem?_map, List.getElem?_eq_getElem (show k < l.length by omega), ← he]; rfl
    · simp [ref36_Vars_l7]
  · have hkl : k < l.length := by omega
    have hw := List.getElem?_eq_getElem hkl
    have hname : (l[k]).name = l[i].name := by
      rw [List.getElem?_map, hw] at h2; simpa using h2
    rw [← hname, hasSome h1 hw, if_pos rfl]
    refine iterL_run (fun k => [eVs l, eI i, eI k]) k rfl ?_ ?_ (by omega)
    · intro j hj
      rw [ref36_l7_step n l i j hi (by omega) hlen, if_neg]
      intro he
      refine h3 j hj ?_
      rw [List.getElem?_map, List.getElem?_eq_getElem (show j < l.length by omega), ← he]; rfl
    · rw [ref36_l7_step n l i k hi h1 hlen, if_pos hname]

theorem ref36_Vars_step (n : Nat) (l : List V) (hl : VsOk l) (hn : l.length < n) (hnn : ∀ v ∈ l, v.name.size + 24 < n) (i : Nat) (hi : i < l.length) :
    ref36_Vars_l2 n [eVs l, eI i] = if vErrAt l i = 0 then some (.inl [eVs l, eI (i + 1 : Nat)]) else some (.inr (.inr (.tup [eI i, eI (vErrAt l i)]))) := by
  have hy := List.getElem?_eq_getElem hi
  have hv := hl.2 _ (List.getElem_mem hi)
  have hlen := hl.1
  have h7 := ref36_l7_ok n l i hi hl.1 hn
  have e : vErrAt l i = varErr (l.take i) l[i] := by simp only [vErrAt, hy]
  rw [e]
  generalize hw : l[i] = v at *
  have h1 := ref29_Is_ok n v.name (hnn v (hw ▸ List.getElem_mem hi)) (by omega)
  have h4 : ixP 4 (eVs l) (eI (i : Int)) = some v.cells := by simp [eVs, hy, hw]
  have h5 : binP false .lss (eI (i : Int)) (eI (l.length : Int)) = some (eB true) := by simp [hi]
  have h55 : lenP (eVs l) = some (eI l.length) := by simp [eVs]
  have h6 : binP false .add (eI (i : Int)) (eI 1) = some (eI (i + 1 : Nat)) := by rw [b_add (by omega) (by omega)]; rfl
  have h8 : atP true 4 0 v.cells = some v.d := rfl
  have c0 : atP false 1 0 v.cells = some (eS v.name) := rfl
  have c1 : atP false 1 1 v.cells = some (eB v.bool) := rfl
  have c2 : atP false 1 2 v.cells = some (eI v.lo) := rfl
  have c3 : atP false 1 3 v.cells = some (eI v.hi) := rfl
  have h9 := ref36_Span_ok n v hv.1 hv.2.1
  rw [varErr_B]
  rw [show B2 v = _ from refB2 ⟨hv.1, hv.2.1, by omega⟩]
  simp only [ref36_Vars_l2, pd_0, pd_s, h55, h5, obind_s, oif_b, if_true, h4, h8, c0, c1, c2, c3, h1, h7, u_not, b_gtr, b_lss, b_neq, h6, b_geq, ref36_number_ok, h9]
  rw [B3]
  cases isName v.name
  · simp
  cases has v.name ((l.take i).map V.name)
  rotate_left
  · simp
  simp only [Bool.not_true, Bool.false_eq_true, if_false, obind_s, jnX_l, pd_0, pd_s, h4, h8, c0, c1, c2, c3, b_gtr, b_neq, ref36_number_ok, h9, u_not]
  generalize (decide (v.lo ≥ -255) && decide (v.lo ≤ 255)) = p1
  generalize (decide (v.hi ≥ -255) && decide (v.hi ≤ 255)) = p2
  generalize decide (v.lo > v.hi) = p3
  generalize decide (v.span > 64) = p4
  generalize (v.lo != 0) = p5
  generalize (v.hi != 0) = p6
  cases v.bool <;> cases p1 <;> cases p2 <;> cases p3 <;> cases p4 <;> cases p5 <;> cases p6 <;> simp [h6]

theorem ref36_Vars_ok (n : Nat) (l : List V) (hl : VsOk l) (hn : l.length < n) (hnn : ∀ v ∈ l, v.name.size + 24 < n) :
    ref36_VarsL n [eVs l] = some (.tup [eI (firstErr l).1, eI (firstErr l).2]) := by
  have e0 : ref36_VarsL n [eVs l] = obind (iterL (ref36_Vars_l2 n) n [eVs l, eI 0]) (jnX fun ls => some (D.tup [eI 0, eI 0])) := rfl
  rw [e0]
  rcases first_or (fun i => vErrAt l i ≠ 0) l.length with h | ⟨i, h1, h2, h3⟩
  · have h' : ∀ j : Nat, j < l.length → vErrAt l j = 0 := fun j hj => by simpa using h j hj
    have key : iterL (ref36_Vars_l2 n) n [eVs l, eI 0] = some (.inl []) := by
      refine iterL_run (fun i => [eVs l, eI i]) l.length rfl ?_ ?_ hn
      · intro i hi
        rw [ref36_Vars_step n l hl hn hnn i hi, if_pos (h' i hi)]
      · simp [ref36_Vars_l2, eVs]
    rw [key, firstErr_none h']
    rfl
  · have h' : ∀ j : Nat, j < i → vErrAt l j = 0 := fun j hj => by simpa using h3 j hj
    have key : iterL (ref36_Vars_l2 n) n [eVs l, eI 0] = some (.inr (.tup [eI i, eI (vErrAt l i)])) := by
      refine iterL_run (fun i => [eVs l, eI i]) i rfl ?_ ?_ (by omega)
      · intro j hj
        rw [ref36_Vars_step n l hl hn hnn j (by omega), if_pos (h' j hj)]
      · rw [ref36_Vars_step n l hl hn hnn i h1, if_neg h2]
    rw [key, firstErr_eq h' h1 rfl h2]
    rfl

end Go.Am
namespace Go.Am
set_option linter.unusedVariables false
set_option linter.unusedSimpArgs false

/-! ### Good variables -/
def lov (v : V) : Int := if v.bool then 0 else v.lo
def hiv (v : V) : Int := if v.bool then 1 else v.hi
/-! ### Numbers as bits, the least first -/
/-! ### The small functions -/
theorem at_1 {x : D} : atP false 1 0 [x] = some x := rfl
theorem lss_t {i k : Nat} (h : i < k) : binP false .lss (eI (i : Int)) (eI (k : Int)) = some (eB true) := by simp [h]
theorem vs_len (l : List V) : lenP (eVs l) = some (eI l.length) := by simp [eVs]
theorem vs_ix {l : List V} {i : Nat} (hi : i < l.length) : ixP 4 (eVs l) (eI (i : Int)) = some l[i].cells := by simp [eVs, hi]
theorem v_at (v : V) : atP true 4 0 v.cells = some v.d := rfl
theorem v_agg (v : V) : aggP 4 v.d = true := rfl
/-- A value within a variable's range. -/
def okAt (l : List V) (s : List Int) (i : Nat) : Prop := ∃ v x, l[i]? = some v ∧ s[i]? = some x ∧ lov v ≤ x ∧ x ≤ hiv v
instance (l : List V) (s : List Int) (i : Nat) : Decidable (okAt l s i) :=
  match hl : l[i]?, hs : s[i]? with
  | some v, some x => if h : lov v ≤ x ∧ x ≤ hiv v then .isTrue ⟨v, x, hl, hs, h⟩ else .isFalse (by rintro ⟨v', x', h1, h2, h3⟩; rw [hl] at h1; rw [hs] at h2; cases h1; cases h2; exact h h3)
  | none, _ => .isFalse (by rintro ⟨v', x', h1, h2, h3⟩; rw [hl] at h1; cases h1)
  | some _, none => .isFalse (by rintro ⟨v', x', h1, h2, h3⟩; rw [hs] at h2; cases h2)
/-- A state of these variables. -/
def isState (l : List V) (s : List Int) : Prop := s.length = l.length ∧ ∀ i : Nat, i < l.length → okAt l s i
def modD (l : List V) : D := .agg [eVs l, .val (.slice none 0 0), .val (.slice none 0 0), .val (.slice none 0 0), .val (.slice none 0 0), .val (.slice none 0 0), .val (.slice none 0 0), .val (.slice none 0 0)]
theorem is_ix {s : List Int} {i : Nat} (hi : i < s.length) : ixP 1 (eIs s) (eI (i : Int)) = some [eI s[i]] := by simp [eIs, hi]
theorem is_len (s : List Int) : lenP (eIs s) = some (eI s.length) := by simp [eIs]
theorem okAt_iff {l : List V} {s : List Int} {i : Nat} (hl : i < l.length) (hs : i < s.length) : okAt l s i ↔ lov l[i] ≤ s[i] ∧ s[i] ≤ hiv l[i] := by
  constructor
  · rintro ⟨v, x, h1, h2, h3⟩
    rw [List.getElem?_eq_getElem hl] at h1
    rw [List.getElem?_eq_getElem hs] at h2
    cases h1; cases h2; exact h3
  · intro h
    exact ⟨_, _, List.getElem?_eq_getElem hl, List.getElem?_eq_getElem hs, h⟩
theorem typing_Is_ok (n : Nat) (l : List V) (s : List Int) (hl : l.length < 1000000000000) (hn : l.length < n) [Decidable (isState l s)] : typing_IsL n [modD l, eIs s] = some (eB (decide (isState l s))) := by
  have m0 : celD (modD l) 0 = eVs l := rfl
  have m1 : aggP 8 (modD l) = true := rfl
  simp only [typing_IsL, typing_Is, m0, m1, og_t, is_len, vs_len, obind_s, b_neq, oif_b]
  by_cases hlen : s.length = l.length
  · have e1 : (((s.length : Nat) : Int) != ((l.length : Nat) : Int)) = false := by simp [hlen]
    simp only [e1, Bool.false_eq_true, if_false]
    have step : ∀ i, i < l.length → typing_Is_l4 n [eIs s, eVs l, eI l.length, eI i] = if okAt l s i then some (.inl [eIs s, eVs l, eI l.length, eI (i + 1 : Nat)]) else some (.inr (.inr (eB false))) := by
      intro i hi
      have hs : i < s.length := by omega
      have c1 : celD l[i].d 1 = eB l[i].bool := rfl
      have c2 : celD l[i].d 2 = eI l[i].lo := rfl
      have c3 : celD l[i].d 3 = eI l[i].hi := rfl
      have e2 : (if l[i].bool = true then (some (.inl [eIs s, eI i, eI 0, eI 1, eVs l, eI l.length, eI i]) : Option (List D ⊕ (List D ⊕ (List D ⊕ D)))) else some (.inl [eIs s, eI i, eI l[i].lo, eI l[i].hi, eVs l, eI l.length, eI i])) = some (.inl [eIs s, eI i, eI (lov l[i]), eI (hiv l[i]), eVs l, eI l.length, eI i]) := by
        simp only [lov, hiv]; cases l[i].bool <;> simp
      simp only [typing_Is_l4, pd_0, pd_s, lss_t hi, obind_s, oif_b, if_true, vs_ix hi, v_at, v_agg, og_t, c1, c2, c3, e2, jnX_l, is_ix hs, at_1, b_lss, b_gtr, add1 (bt := false) (i := i) (by omega)]
      by_cases g1 : s[i] < lov l[i]
      · have : ¬ okAt l s i := by rw [okAt_iff hi hs]; omega
        simp [g1, this]
      · by_cases g2 : s[i] > hiv l[i]
        · have : ¬ okAt l s i := by rw [okAt_iff hi hs]; omega
          simp [g1, g2, this]
        · have : okAt l s i := by rw [okAt_iff hi hs]; omega
          simp [g1, g2, this]
    rcases first_or (fun i => ¬ okAt l s i) l.length with h | ⟨i, h1, h2, h3⟩
    · have hs : isState l s := ⟨hlen, fun i hi => by simpa using h i hi⟩
      have key : iterL (typing_Is_l4 n) n [eIs s, eVs l, eI l.length, eI 0] = some (.inl []) := by
        refine iterL_run (fun i => [eIs s, eVs l, eI l.length, eI i]) l.length rfl ?_ ?_ hn
        · intro i hi
          rw [step i hi, if_pos (hs.2 i hi)]
        · simp [typing_Is_l4]
      rw [key]; simp [hs]
    · have hs : ¬ isState l s := fun hs => h2 (hs.2 i h1)
      have key : iterL (typing_Is_l4 n) n [eIs s, eVs l, eI l.length, eI 0] = some (.inr (eB false)) := by
        refine iterL_run (fun i => [eIs s, eVs l, eI l.length, eI i]) i rfl ?_ ?_ (by omega)
        · intro j hj
          rw [step j (by omega), if_pos]
          have := h3 j hj; simpa using this
        · rw [step i h1, if_neg h2]
      rw [key]; simp [hs]
  · have e1 : (((s.length : Nat) : Int) != ((l.length : Nat) : Int)) = true := by simp; omega
    have hs : ¬ isState l s := fun hs => hlen hs.1
    simp [e1, hs]
end Go.Am
namespace Go.Am
theorem lives36_ok (n : Nat) : law36_livesL (n + 200) [] = some (eB true) := by kernel_rfl
end Go.Am
namespace Go.Am
set_option linter.unusedVariables false
set_option linter.unusedSimpArgs false
theorem ref36_Is_ok (n : Nat) (l : List V) (s : List Int) (hl : l.length < 1000000000000) (hn : l.length < n) [Decidable (isState l s)] : ref36_IsL n [modD l, eIs s] = some (eB (decide (isState l s))) := by
  have m0 : celD (modD l) 0 = eVs l := rfl
  have m1 : aggP 8 (modD l) = true := rfl
  simp only [ref36_IsL, ref36_Is, m0, m1, og_t, is_len, vs_len, obind_s, b_neq, oif_b]
  by_cases hlen : s.length = l.length
  · have e1 : (((s.length : Nat) : Int) != ((l.length : Nat) : Int)) = false := by simp [hlen]
    simp only [e1, Bool.false_eq_true, if_false]
    generalize celD (modD l) 1 = d1
    generalize celD (modD l) 2 = d2
    generalize celD (modD l) 3 = d3
    generalize celD (modD l) 4 = d4
    generalize celD (modD l) 5 = d5
    generalize celD (modD l) 6 = d6
    generalize celD (modD l) 7 = d7
    have step : ∀ i, i < l.length → ref36_Is_l4 n [eIs s, eI i, eVs l, d1, d2, d3, d4, d5, d6, d7] = if okAt l s i then some (.inl [eIs s, eI (i + 1 : Nat), eVs l, d1, d2, d3, d4, d5, d6, d7]) else some (.inr (.inr (eB false))) := by
      intro i hi
      have hs : i < s.length := by omega
      have c1 : celD l[i].d 1 = eB l[i].bool := rfl
      have c2 : celD l[i].d 2 = eI l[i].lo := rfl
      have c3 : celD l[i].d 3 = eI l[i].hi := rfl
      have hlt : decide ((i : Int) < (s.length : Int)) = true := decide_eq_true (by omega)
      have hok := okAt_iff hi hs
      simp only [lov, hiv] at hok
      cases hb : l[i].bool with
      | true =>
        rw [hb] at hok c1
        simp only [if_true] at hok
        by_cases g0 : s[i] = 0
        · have : okAt l s i := by rw [hok]; omega
          simp [-atP_t, ref36_Is_l4, is_len, hlt, hi, hs, vs_ix hi, v_at, v_agg, c1, c2, c3, is_ix hs, at_1, this, g0, add1 (bt := false) (i := i) (by omega)]
        · by_cases g1 : s[i] = 1
          · have : okAt l s i := by rw [hok]; omega
            simp [-atP_t, ref36_Is_l4, is_len, hlt, hi, hs, vs_ix hi, v_at, v_agg, c1, c2, c3, is_ix hs, at_1, this, g1, add1 (bt := false) (i := i) (by omega)]
          · have : ¬ okAt l s i := by rw [hok]; omega
            simp [-atP_t, ref36_Is_l4, is_len, hlt, hi, hs, vs_ix hi, v_at, v_agg, c1, c2, c3, is_ix hs, at_1, this, g0, g1]
      | false =>
        rw [hb] at hok c1
        simp only [Bool.false_eq_true, if_false] at hok
        by_cases g0 : s[i] < l[i].lo
        · have : ¬ okAt l s i := by rw [hok]; omega
          simp [-atP_t, ref36_Is_l4, is_len, hlt, hi, hs, vs_ix hi, v_at, v_agg, c1, c2, c3, is_ix hs, at_1, this, g0]
        · by_cases g1 : s[i] > l[i].hi
          · have : ¬ okAt l s i := by rw [hok]; omega
            simp [-atP_t, ref36_Is_l4, is_len, hlt, hi, hs, vs_ix hi, v_at, v_agg, c1, c2, c3, is_ix hs, at_1, this, g0, g1]
          · have : okAt l s i := by rw [hok]; omega
            simp [-atP_t, ref36_Is_l4, is_len, hlt, hi, hs, vs_ix hi, v_at, v_agg, c1, c2, c3, is_ix hs, at_1, this, g0, g1, add1 (bt := false) (i := i) (by omega)]
    rcases first_or (fun i => ¬ okAt l s i) l.length with h | ⟨i, h1, h2, h3⟩
    · have hs : isState l s := ⟨hlen, fun i hi => by simpa using h i hi⟩
      have key : iterL (ref36_Is_l4 n) n [eIs s, eI 0, eVs l, d1, d2, d3, d4, d5, d6, d7] = some (.inl []) := by
        refine iterL_run (fun i => [eIs s, eI i, eVs l, d1, d2, d3, d4, d5, d6, d7]) l.length rfl ?_ ?_ hn
        · intro i hi
          rw [step i hi, if_pos (hs.2 i hi)]
        · simp [ref36_Is_l4, is_len, hlen]
      rw [key]; simp [hs]
    · have hs : ¬ isState l s := fun hs => h2 (hs.2 i h1)
      have key : iterL (ref36_Is_l4 n) n [eIs s, eI 0, eVs l, d1, d2, d3, d4, d5, d6, d7] = some (.inr (eB false)) := by
        refine iterL_run (fun i => [eIs s, eI i, eVs l, d1, d2, d3, d4, d5, d6, d7]) i rfl ?_ ?_ (by omega)
        · intro j hj
          rw [step j (by omega), if_pos]
          have := h3 j hj; simpa using this
        · rw [step i h1, if_neg h2]
      rw [key]; simp [hs]
  · have e1 : (((s.length : Nat) : Int) != ((l.length : Nat) : Int)) = true := by simp; omega
    have hs : ¬ isState l s := fun hs => hlen hs.1
    simp [e1, hs]
theorem TypingIs_ok (n : Nat) (l : List V) (s : List Int) (hn : 1000 < n) : law36_TypingIsL n [eVs l, eIs s] = some (eB true) := by
  obtain ⟨n', rfl⟩ : ∃ q, n = q + 200 := ⟨n - 200, by omega⟩
  have hL := lives36_ok n'
  generalize n' + 200 = n at *
  have hm : D.agg [eVs l, D.val (.slice none 0 0), D.val (.slice none 0 0), D.val (.slice none 0 0), D.val (.slice none 0 0), D.val (.slice none 0 0), D.val (.slice none 0 0), D.val (.slice none 0 0)] = modD l := rfl
  have h1 : aggP 8 (modD l) = true := rfl
  have h0 : oneP (eVs l) = true := rfl
  by_cases ha : (l.length : Int) > 80
  · simp [law36_TypingIsL, law36_TypingIs, vs_len, ha, hL]
  by_cases hb : (s.length : Int) > 80
  · simp [law36_TypingIsL, law36_TypingIs, vs_len, is_len, ha, hb, hL]
  have : Decidable (isState l s) := Classical.propDecidable _
  have hA := typing_Is_ok n l s (by omega) (by omega)
  have hB := ref36_Is_ok n l s (by omega) (by omega)
  have hbe : ∀ b : Bool, (b == b) = true := by intro b; cases b <;> rfl
  simp only [law36_TypingIsL, law36_TypingIs, vs_len, is_len, obind_s, og_t, oif_b, b_gtr, decide_eq_false ha, decide_eq_false hb, gD_b, pick_b, if_true, if_false, Bool.false_eq_true, Bool.true_eq_false, hm, h0, h1, hA, hB, bb_eql, hbe, hL]
theorem TypingVars_ok (n : Nat) (l : List V) (hl0 : ∀ v ∈ l, inI v.lo ∧ inI v.hi ∧ v.name.size ≤ 9223372036854775807) (hnn : ∀ v ∈ l, v.name.size + 24 < n) (hn : 1000 < n) : law36_TypingVarsL n [eVs l] = some (eB true) := by
  obtain ⟨n', rfl⟩ : ∃ q, n = q + 200 := ⟨n - 200, by omega⟩
  have hL := lives36_ok n'
  generalize n' + 200 = n at *
  by_cases ha : (l.length : Int) > 80
  · simp [law36_TypingVarsL, law36_TypingVars, vs_len, ha, hL]
  have hl : VsOk l := ⟨by omega, hl0⟩
  have hA := typing_Vars_ok n l hl (by omega) hnn
  have hB := ref36_Vars_ok n l hl (by omega) hnn
  have hie : ∀ i : Int, (i == i) = true := fun i => by simp
  have hin : ∀ i : Int, (i != i) = false := fun i => by simp
  have key : iterL (law36_TypingVars_l6 n) n [eVs l, eI (firstErr l).1, eI (firstErr l).2, eI (firstErr l).1, eI (firstErr l).2, eI 0] = some (.inl [eI (firstErr l).1, eI (firstErr l).2, eI (firstErr l).1, eI (firstErr l).2]) := by
    refine iterL_run (fun i => [eVs l, eI (firstErr l).1, eI (firstErr l).2, eI (firstErr l).1, eI (firstErr l).2, eI i]) l.length rfl ?_ ?_ (by omega)
    · intro i hi
      have hv := hl.2 l[i] (List.getElem_mem hi)
      have s1 := typing_Span_ok n l[i] hv.1 hv.2.1
      have s2 := ref36_Span_ok n l[i] hv.1 hv.2.1
      simp only [law36_TypingVars_l6, vs_len, pd_0, pd_s, lss_t hi, obind_s, oif_b, if_true, vs_ix hi, v_at, s1, s2, b_neq, hin, if_false, Bool.false_eq_true, add1 (bt := false) (i := i) (by omega)]
    · simp [law36_TypingVars_l6, vs_len]
  simp only [law36_TypingVarsL, law36_TypingVars, vs_len, obind_s, oif_b, b_gtr, decide_eq_false ha, if_false, Bool.false_eq_true, hA, hB, extP_tup, List.getElem?_cons_zero, List.getElem?_cons_succ, key, jnX_l, pd_0, pd_s, b_eql, hie, gD_b, pick_b, if_true, hL]
end Go.Am
