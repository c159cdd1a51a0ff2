/- The laws, on data. No condition. -/
import Derived.Test.YtflimngmpmlogaaDoorEngC
import Derived.Test.YtflimngmpmlogaaDoorCode
import Derived.Test.YtflimngmpmlogaaDoorEngS
import Derived.KernelRfl
set_option linter.all false
set_option linter.unnecessarySimpa false
namespace Go.Am
set_option linter.unusedVariables false
set_option linter.unusedSimpArgs false

section
variable {bt : Bool} {a b : Int}
@[simp] theorem b8_lss : binP bt .lss (eU8 a) (.val (.int .u8 b)) = some (eB (decide (a < b))) := rfl
@[simp] theorem b8_leq : binP bt .leq (eU8 a) (.val (.int .u8 b)) = some (eB (decide (a ≤ b))) := rfl
@[simp] theorem b8_gtr : binP bt .gtr (eU8 a) (.val (.int .u8 b)) = some (eB (decide (a > b))) := rfl
@[simp] theorem b8_geq : binP bt .geq (eU8 a) (.val (.int .u8 b)) = some (eB (decide (a ≥ b))) := rfl
@[simp] theorem b8_eql : binP bt .eql (eU8 a) (.val (.int .u8 b)) = some (eB (a == b)) := rfl
end
theorem sixP_some {s : ByteArray} {i : Nat} {b : UInt8} (h : s[i]? = some b) : sixP (eS s) (eI (i : Int)) = some (eU8 b.toNat) := by
  simp [sixP, eS, eI, strIdx, h, toDo, eU8]
theorem sixP_zero {s : ByteArray} {b : UInt8} (h : s[0]? = some b) : sixP (eS s) (eI 0) = some (eU8 b.toNat) := sixP_some (i := 0) h
@[simp] theorem isFc_self {f : FuncId} : isFc f (.val (.func (.func f) #[] #[])) = true := by simp [isFc]
@[simp] theorem fnOf_self {f : FuncId} {cs : List D} : fnOf f (.fn (.func f) [] cs) = some cs := by simp [fnOf]

theorem lexi_letter_ok (n : Nat) (c : Int) : lexi_letterL n [eU8 c] = some (eB (letterB c)) := by
  simp only [lexi_letterL, lexi_letter, letterB, b8_geq, b8_leq, obind_s]
  cases decide (c ≥ 97) <;> cases decide (c ≤ 122) <;> cases decide (c ≥ 65) <;> cases decide (c ≤ 90) <;> rfl
theorem lexi_digit_ok (n : Nat) (c : Int) : lexi_digitL n [eU8 c] = some (eB (digitB c)) := by
  simp only [lexi_digitL, lexi_digit, digitB, b8_geq, b8_leq, obind_s]
  cases decide (c ≥ 48) <;> cases decide (c ≤ 57) <;> rfl
theorem lexi_inside_ok (n : Nat) (c : Int) : lexi_insideL n [eU8 c] = some (eB (insideB c)) := by
  simp only [lexi_insideL, lexi_inside, insideB, lexi_letter_ok, lexi_digit_ok, b8_eql, obind_s]
  cases letterB c <;> cases digitB c <;> cases (c == 95) <;> rfl
theorem ref29_letter_ok (n : Nat) (c : Int) : ref29_letterL n [eU8 c] = some (eB (letterB c)) := by
  simp only [ref29_letterL, ref29_letter, letterB, b8_geq, b8_leq, obind_s]
  cases decide (c ≥ 97) <;> cases decide (c ≤ 122) <;> cases decide (c ≥ 65) <;> cases decide (c ≤ 90) <;> rfl
theorem ref29_digit_ok (n : Nat) (c : Int) : ref29_digitL n [eU8 c] = some (eB (digitB c)) := by
  simp only [ref29_digitL, ref29_digit, digitB, b8_geq, b8_leq, obind_s]
  cases decide (c ≥ 48) <;> cases decide (c ≤ 57) <;> rfl

theorem rowN_spec (p : Int → Bool) (s : ByteArray) : (∀ j : Nat, j < rowN p s → goOn p s j = true) ∧ goOn p s (rowN p s) = false ∧ rowN p s ≤ s.size := by
  unfold rowN
  cases h : (List.range (s.size + 1)).find? (fun i => !goOn p s i) with
  | none =>
    exfalso
    have h1 := List.find?_eq_none.1 h s.size (by simp)
    have : goOn p s s.size = true := by simpa using h1
    exact absurd (goOn_lt this) (Nat.lt_irrefl _)
  | some m =>
    rw [List.find?_range_eq_some] at h
    obtain ⟨h1, h2, h3⟩ := h
    refine ⟨fun j hj => by simpa using h3 j hj, by simpa using h1, by show m ≤ s.size; simp at h2; omega⟩
theorem goOn_some {p : Int → Bool} {s : ByteArray} {i : Nat} (h : goOn p s i = true) : ∃ b : UInt8, s[i]? = some b ∧ p b.toNat = true := by
  unfold goOn at h
  split at h
  · exact ⟨_, by assumption, h⟩
  · cases h
theorem goOn_false {p : Int → Bool} {s : ByteArray} {i : Nat} (h : goOn p s i = false) : (s[i]? = none ∧ s.size ≤ i) ∨ ∃ b : UInt8, s[i]? = some b ∧ i < s.size ∧ p b.toNat = false := by
  unfold goOn at h
  split at h
  · rename_i b hb
    refine .inr ⟨b, hb, ?_, h⟩
    rw [getB] at hb
    by_cases h1 : i < s.size
    · exact h1
    · rw [dif_neg h1] at hb; cases hb
  · rename_i hb
    refine .inl ⟨hb, ?_⟩
    rw [getB] at hb
    by_cases h1 : i < s.size
    · rw [dif_pos h1] at hb; cases hb
    · omega

theorem lexi_row_ok (n : Nat) (s : ByteArray) (hn : s.size < n) (hs : s.size ≤ 9223372036854775807) : lexi_row_lexi_insideL n [eS s, .val (.func (.func fid_lexi_inside) #[] #[])] = some (eI (rowN insideB s)) := by
  obtain ⟨h1, h2, h3⟩ := rowN_spec insideB s
  have key : iterL (lexi_row_lexi_inside_l2 n) n [eS s, eI 0] = some (.inl [eI (rowN insideB s)]) := by
    refine iterL_run (fun i => [eS s, eI i]) (rowN insideB s) rfl ?_ ?_ (by omega)
    · intro i hi
      obtain ⟨b, hb, hp⟩ := goOn_some (h1 i hi)
      simp (disch := omega) [lexi_row_lexi_inside_l2, sixP_some hb, lexi_inside_ok, hp, b_add, show i < s.size by omega]
    · rcases goOn_false h2 with ⟨hb, hp⟩ | ⟨b, hb, hlt, hp⟩
      · simp [lexi_row_lexi_inside_l2, show ¬ (rowN insideB s < s.size) by omega]
      · simp [lexi_row_lexi_inside_l2, sixP_some hb, lexi_inside_ok, hp, hlt]
  simp [lexi_row_lexi_insideL, lexi_row_lexi_inside, key]
theorem ref29_row_ok (n : Nat) (s : ByteArray) (hn : s.size < n) (hs : s.size ≤ 9223372036854775807) : ref29_rowL n [eS s, eI 0, eB false] = some (eI (rowN insideB s)) := by
  obtain ⟨h1, h2, h3⟩ := rowN_spec insideB s
  have one : ∀ (i : Nat) (b : UInt8), s[i]? = some b → i < s.size → ref29_row_l1 n [eS s, eI i, eB false] = if insideB b.toNat = true then some (.inl [eS s, eI (i + 1 : Nat), eB false]) else some (.inr (.inl [eI i])) := by
    intro i b hb hi
    simp (disch := omega) [ref29_row_l1, sixP_some hb, ref29_digit_ok, ref29_letter_ok, insideB, b_add, hi]
    by_cases h95 : ((b.toNat : Int) = 95) <;> cases digitB b.toNat <;> cases letterB b.toNat <;> simp [h95]
  have key : iterL (ref29_row_l1 n) n [eS s, eI 0, eB false] = some (.inl [eI (rowN insideB s)]) := by
    refine iterL_run (fun i => [eS s, eI i, eB false]) (rowN insideB s) rfl ?_ ?_ (by omega)
    · intro i hi
      obtain ⟨b, hb, hp⟩ := goOn_some (h1 i hi)
      rw [one i b hb (by omega), if_pos hp]
    · rcases goOn_false h2 with ⟨hb, hp⟩ | ⟨b, hb, hlt, hp⟩
      · simp [ref29_row_l1, show ¬ (rowN insideB s < s.size) by omega]
      · rw [one _ b hb hlt, if_neg (by simp [hp])]
  simp [ref29_rowL, ref29_row, key]

theorem first_or (p : Nat → Prop) [DecidablePred p] : ∀ m : Nat, (∀ j : Nat, j < m → ¬ p j) ∨ ∃ i, i < m ∧ p i ∧ ∀ j : Nat, j < i → ¬ p j
  | 0 => .inl (by intro j hj; omega)
  | m + 1 => by
    rcases first_or p m with h | ⟨i, h1, h2, h3⟩
    · by_cases hm : p m
      · exact .inr ⟨m, by omega, hm, h⟩
      · refine .inl fun j hj => ?_
        by_cases hjm : j = m
        · subst hjm; exact hm
        · exact h j (by omega)
    · exact .inr ⟨i, by omega, h2, h3⟩

theorem slices_Index_ok (n : Nat) (l : List ByteArray) (x : ByteArray) (hn : l.length < n) (hl : l.length < 4000000000000000000) : slices_Index_Lstring_stringL n [eSs l, eS x] = some (eI (idxOf x l)) := by
  have step : ∀ (i : Nat) (y : ByteArray), l[i]? = some y → i < l.length → slices_Index_Lstring_string_l2 n [eSs l, eS x, eI l.length, eI i] = if x = y then some (.inr (.inr (eI i))) else some (.inl [eSs l, eS x, eI l.length, eI (i + 1 : Nat)]) := by
    intro i y hy hi
    obtain ⟨_, rfl⟩ := List.getElem?_eq_some_iff.1 hy
    simp (disch := omega) [slices_Index_Lstring_string_l2, eSs, hy, hi, b_add]
  rcases first_or (fun i => l[i]? = some x) l.length with h | ⟨i, h1, h2, h3⟩
  · have key : iterL (slices_Index_Lstring_string_l2 n) n [eSs l, eS x, eI l.length, eI 0] = some (.inl []) := by
      refine iterL_run (fun i => [eSs l, eS x, eI l.length, eI i]) l.length rfl ?_ ?_ hn
      · intro i hi
        have hy := List.getElem?_eq_getElem hi
        rw [step i _ hy hi, if_neg]
        intro he
        exact h i hi (by rw [hy, he])
      · simp [slices_Index_Lstring_string_l2]
    have e : (eSs l) = .sl 1 (l.map fun s => [eS s]) := rfl
    simp [slices_Index_Lstring_stringL, slices_Index_Lstring_string, idxOf_none h]
    rw [e] at key ⊢
    simp [key]
  · have key : iterL (slices_Index_Lstring_string_l2 n) n [eSs l, eS x, eI l.length, eI 0] = some (.inr (eI i)) := by
      refine iterL_run (fun i => [eSs l, eS x, eI l.length, eI i]) i rfl ?_ ?_ (by omega)
      · intro j hj
        have hy := List.getElem?_eq_getElem (show j < l.length by omega)
        rw [step j _ hy (by omega), if_neg]
        intro he
        exact h3 j hj (by rw [hy, he])
      · rw [step i x h2 h1, if_pos rfl]
    simp [slices_Index_Lstring_stringL, slices_Index_Lstring_string, idxOf_eq h3 h2]
    have e : (eSs l) = .sl 1 (l.map fun s => [eS s]) := rfl
    rw [e] at key ⊢
    simp [key]
theorem slices_Contains_ok (n : Nat) (l : List ByteArray) (x : ByteArray) (hn : l.length < n) (hl : l.length < 4000000000000000000) : slices_Contains_Lstring_stringL n [eSs l, eS x] = some (eB (has x l)) := by
  simp [slices_Contains_Lstring_stringL, slices_Contains_Lstring_string, slices_Index_ok n l x hn hl, idx_mem]
theorem ref29_among_ok (n : Nat) (l : List ByteArray) (x : ByteArray) (hn : l.length < n) (hl : l.length < 4000000000000000000) : ref29_amongL n [eSs l, eS x] = some (eB (has x l)) := by
  have step : ∀ (i : Nat) (y : ByteArray), l[i]? = some y → i < l.length → ref29_among_l2 n [eSs l, eS x, eI i] = if y = x then some (.inr (.inr (eB true))) else some (.inl [eSs l, eS x, eI (i + 1 : Nat)]) := by
    intro i y hy hi
    obtain ⟨_, rfl⟩ := List.getElem?_eq_some_iff.1 hy
    simp (disch := omega) [ref29_among_l2, eSs, hy, hi, b_add]
  rcases first_or (fun i => l[i]? = some x) l.length with h | ⟨i, h1, h2, h3⟩
  · have key : iterL (ref29_among_l2 n) n [eSs l, eS x, eI 0] = some (.inl []) := by
      refine iterL_run (fun i => [eSs l, eS x, eI i]) l.length rfl ?_ ?_ hn
      · intro i hi
        have hy := List.getElem?_eq_getElem hi
        rw [step i _ hy hi, if_neg]
        intro he
        exact h i hi (by rw [hy, he])
      · simp [ref29_among_l2, eSs]
    simp [ref29_amongL, ref29_among, key, mem_no h]
  · have key : iterL (ref29_among_l2 n) n [eSs l, eS x, eI 0] = some (.inr (eB true)) := by
      refine iterL_run (fun i => [eSs l, eS x, eI i]) i rfl ?_ ?_ (by omega)
      · intro j hj
        have hy := List.getElem?_eq_getElem (show j < l.length by omega)
        rw [step j _ hy (by omega), if_neg]
        intro he
        exact h3 j hj (by rw [hy, he])
      · rw [step i x h2 h1, if_pos rfl]
    simp [ref29_amongL, ref29_among, key, mem_yes h2]
theorem ref29_Words_ok (n : Nat) : ref29_WordsL n [] = some (eSs words) := rfl
theorem words_eq : (D.sl 1 (wordsD.map fun c => [c])) = eSs words := rfl
theorem lexi_Is_ok (n : Nat) (s : ByteArray) (hn : s.size + 24 < n) (hs : s.size ≤ 9223372036854775807) : lexi_IsL n [eS s] = some (eB (isName s)) := by
  have hw : words.length = 24 := rfl
  have h1 := lexi_row_ok n s (by omega) hs
  have h2 := slices_Contains_ok n words s (by omega) (by omega)
  rcases firstB s with ⟨b1, hz⟩ | ⟨b, b1, hz, hb⟩
  · simp [lexi_IsL, lexi_Is, b1, isName, hz]
  · simp only [lexi_IsL, lexi_Is, isName, goOn, hb, sixP_zero hb, lexi_letter_ok, h1, h2, words_eq, s_neq, b1, hz, lensP_S, b_leq, b_eql, u_not, obind_s]
    cases decide ((s.size : Int) ≤ 24) <;> cases letterB b.toNat <;> cases ((rowN insideB s : Int) == (s.size : Int)) <;> cases has s words <;> rfl
theorem ref29_Is_ok (n : Nat) (s : ByteArray) (hn : s.size + 24 < n) (hs : s.size ≤ 9223372036854775807) : ref29_IsL n [eS s] = some (eB (isName s)) := by
  have hw : words.length = 24 := rfl
  have h1 := ref29_row_ok n s (by omega) hs
  have h2 := ref29_among_ok n words s (by omega) (by omega)
  rcases firstB s with ⟨b1, hz⟩ | ⟨b, b1, hz, hb⟩
  · simp only [ref29_IsL, ref29_Is, lensP_S, b_geq, obind_s, hz]
    simp [isName, hz]
  · simp only [ref29_IsL, ref29_Is, isName, goOn, hb, sixP_zero hb, ref29_letter_ok, h1, h2, ref29_Words_ok, hz, lensP_S, b_leq, b_geq, b_eql, u_not, obind_s]
    cases decide ((s.size : Int) ≤ 24) <;> cases letterB b.toNat <;> cases ((rowN insideB s : Int) == (s.size : Int)) <;> cases has s words <;> rfl
end Go.Am
namespace Go.Am
set_option linter.unusedVariables false
set_option linter.unusedSimpArgs false

theorem mm_max (a b : Int) : mmP true [eI a, eI b] = some (eI (if b > a then b else a)) := by
  simp [mmP, intMM, mmFold, eI, toDo]
theorem mm_min (a b : Int) : mmP false [eI a, eI b] = some (eI (if b < a then b else a)) := by
  simp [mmP, intMM, mmFold, eI, toDo]
theorem vcells_one (v : V) : (v.cells.length == 4 && v.cells.all D.one) = true := rfl
theorem same_ok (n : Nat) (w v : V) : typing_Vars_1L n [w.d, .ref v.cells 0] = some (eB (decide (w.name = v.name))) := by
  simp [typing_Vars_1L, typing_Vars_1, V.d, V.cells]
theorem vIndex_ok (n : Nat) (l : List V) (v : V) (hn : l.length < n) (hl : l.length < 4000000000000000000) :
    slices_IndexFunc_Lapi_Var_api_Var_typing_Vars_1L n [eVs l, .fn (.func fid_typing_Vars_1) [] [.ref v.cells 0]] = some (eI (idxOf v.name (l.map V.name))) := by
  have hle : (l.map V.name).length = l.length := by simp
  have step : ∀ (i : Nat) (y : V), l[i]? = some y → i < l.length → slices_IndexFunc_Lapi_Var_api_Var_typing_Vars_1_l2 n [eVs l, .ref v.cells 0, eI l.length, eI i] = if y.name = v.name then some (.inr (.inr (eI i))) else some (.inl [eVs l, .ref v.cells 0, eI l.length, eI (i + 1 : Nat)]) := by
    intro i y hy hi
    obtain ⟨_, rfl⟩ := List.getElem?_eq_some_iff.1 hy
    have h1 := same_ok n l[i] v
    simp only [V.d, V.cells] at h1
    simp (disch := omega) [slices_IndexFunc_Lapi_Var_api_Var_typing_Vars_1_l2, eVs, hi, b_add, V.cells, h1]
  have e0 : ∀ x, slices_IndexFunc_Lapi_Var_api_Var_typing_Vars_1L n [eVs l, .fn (.func fid_typing_Vars_1) [] [x]] = obind (iterL (slices_IndexFunc_Lapi_Var_api_Var_typing_Vars_1_l2 n) n [eVs l, x, eI l.length, eI 0]) (jnX fun ls => some (eI (-1))) := by
    intro x
    simp only [slices_IndexFunc_Lapi_Var_api_Var_typing_Vars_1L, fnOf_self, slices_IndexFunc_Lapi_Var_api_Var_typing_Vars_1]
    simp [eVs]
  rw [e0]
  rcases first_or (fun i => (l.map V.name)[i]? = some v.name) l.length with h | ⟨i, h1, h2, h3⟩
  · have key : iterL (slices_IndexFunc_Lapi_Var_api_Var_typing_Vars_1_l2 n) n [eVs l, .ref v.cells 0, eI l.length, eI 0] = some (.inl []) := by
      refine iterL_run (fun i => [eVs l, .ref v.cells 0, eI l.length, eI i]) l.length rfl ?_ ?_ hn
      · intro i hi
        have hy := List.getElem?_eq_getElem hi
        rw [step i _ hy hi, if_neg]
        intro he
        exact h i hi (by rw [List.getElem?_map, hy, ← he]; rfl)
      · simp [slices_IndexFunc_Lapi_Var_api_Var_typing_Vars_1_l2]
    rw [key, idxOf_none (by rw [hle]; exact h)]
    rfl
  · have key : iterL (slices_IndexFunc_Lapi_Var_api_Var_typing_Vars_1_l2 n) n [eVs l, .ref v.cells 0, eI l.length, eI 0] = some (.inr (eI i)) := by
      refine iterL_run (fun i => [eVs l, .ref v.cells 0, eI l.length, eI i]) i rfl ?_ ?_ (by omega)
      · intro j hj
        have hy := List.getElem?_eq_getElem (show j < l.length by omega)
        rw [step j _ hy (by omega), if_neg]
        intro he
        exact h3 j hj (by rw [List.getElem?_map, hy, ← he]; rfl)
      · have hy := List.getElem?_eq_getElem h1
        rw [step i _ hy h1, if_pos]
        rw [List.getElem?_map, hy] at h2
        simpa using h2
    rw [key, idxOf_eq h3 h2]
    rfl
theorem vContains_ok (n : Nat) (l : List V) (v : V) (hn : l.length < n) (hl : l.length < 4000000000000000000) :
    slices_ContainsFunc_Lapi_Var_api_Var_typing_Vars_1L n [eVs l, .fn (.func fid_typing_Vars_1) [] [.ref v.cells 0]] = some (eB (has v.name (l.map V.name))) := by
  simp only [slices_ContainsFunc_Lapi_Var_api_Var_typing_Vars_1L, fnOf_self, slices_ContainsFunc_Lapi_Var_api_Var_typing_Vars_1, vIndex_ok n l v hn hl]
  simp [idx_mem]
@[simp] theorem flat_eB {b : Bool} : (eB b).flat = true := rfl
@[simp] theorem flat_eI {b : Int} : (eI b).flat = true := rfl
theorem subP_take {k : Nat} {es : List (List D)} {i : Nat} (h : i ≤ es.length) : subP k (.sl k es) none (some (eI (i : Int))) = some (.sl k (es.take i)) := by
  simp [subP, bndP, eI, h]

def B3 (v : V) : Bool := v.bool && (v.lo != 0 || v.hi != 0)
def B2 (v : V) : Bool := !v.bool && (decide (v.lo > v.hi) || outB v || decide (IntKind.i64.wrap (v.hi - v.lo) ≥ 64))
theorem varErr_B (seen : List V) (v : V) : varErr seen v = if !isName v.name then 12 else if has v.name (seen.map V.name) then 6 else if B3 v then 3 else if B2 v then 2 else 0 := rfl
/-- Every variable's ends fit an int, its name is no giant. -/
def VsOk (l : List V) : Prop := l.length < 1000000000000 ∧ ∀ v ∈ l, inI v.lo ∧ inI v.hi ∧ v.name.size ≤ 9223372036854775807

theorem typing_Vars_step (n : Nat) (l : List V) (hl : VsOk l) (hn : l.length < n) (hnn : ∀ v ∈ l, v.name.size + 24 < n) (i : Nat) (hi : i < l.length) :
    typing_Vars_l2 n [eVs l, eVs l, eI l.length, eI i] = if vErrAt l i = 0 then some (.inl [eVs l, eVs l, eI l.length, eI (i + 1 : Nat)]) else some (.inr (.inr (.tup [eI i, eI (vErrAt l i)]))) := by
  have hy := List.getElem?_eq_getElem hi
  have hv := hl.2 _ (List.getElem_mem hi)
  have hlen := hl.1
  have e : vErrAt l i = varErr (l.take i) l[i] := by simp only [vErrAt, hy]
  rw [e]
  generalize hw : l[i] = v at *
  have h1 := lexi_Is_ok n v.name (hnn v (hw ▸ List.getElem_mem hi)) (by omega)
  have h2 := vContains_ok n (l.take i) v (by rw [List.length_take]; omega) (by rw [List.length_take]; omega)
  have h3 : subP 4 (eVs l) none (some (eI (i : Int))) = some (eVs (l.take i)) := by
    rw [eVs, subP_take (by simp; omega), List.map_take.symm]; rfl
  have h4 : ixP 4 (eVs l) (eI (i : Int)) = some v.cells := by simp [eVs, hy, hw]
  have h5 : binP false .lss (eI (i : Int)) (eI (l.length : Int)) = some (eB true) := by simp [hi]
  have h6 : binP false .add (eI (i : Int)) (eI 1) = some (eI (i + 1 : Nat)) := by rw [b_add (by omega) (by omega)]; rfl
  have h7 : binP false .sub (eI v.hi) (eI v.lo) = some (eI (IntKind.i64.wrap (v.hi - v.lo))) := rfl
  have h8 : atP true 4 0 v.cells = some v.d := rfl
  have h9 : aggP 4 v.d = true := rfl
  have c0 : celD v.d 0 = eS v.name := rfl
  have c1 : celD v.d 1 = eB v.bool := rfl
  have c2 : celD v.d 2 = eI v.lo := rfl
  have c3 : celD v.d 3 = eI v.hi := rfl
  have c4 : (D.ref [eS v.name, eB v.bool, eI v.lo, eI v.hi] 0) = .ref v.cells 0 := rfl
  have g1 : outB v = (decide ((if v.hi > v.lo then v.hi else v.lo) > 255) || decide ((if v.hi < v.lo then v.hi else v.lo) < -255)) := rfl
  rw [varErr_B]
  simp only [typing_Vars_l2, pd_0, pd_s, h5, obind_s, oif_b, if_true, h4, h8, h9, og_t, c0, c1, c2, c3, c4, mm_max, mm_min, h1, h2, h3, u_not, b_gtr, b_lss, flat_eB, b_neq, h6, h7, b_geq]
  rw [B3, B2, g1]
  cases isName v.name
  · cases decide ((if v.hi > v.lo then v.hi else v.lo) > 255) <;> simp
  cases has v.name ((l.take i).map V.name)
  rotate_left
  · cases decide ((if v.hi > v.lo then v.hi else v.lo) > 255) <;> simp
  generalize decide ((if v.hi > v.lo then v.hi else v.lo) > 255) = p1
  generalize decide ((if v.hi < v.lo then v.hi else v.lo) < -255) = p2
  generalize decide (v.lo > v.hi) = p3
  generalize decide (IntKind.i64.wrap (v.hi - v.lo) ≥ 64) = p4
  generalize (v.lo != 0) = p5
  generalize (v.hi != 0) = p6
  cases v.bool <;> cases p1 <;> cases p2 <;> cases p3 <;> cases p4 <;> cases p5 <;> cases p6 <;> rfl

theorem typing_Vars_ok (n : Nat) (l : List V) (hl : VsOk l) (hn : l.length < n) (hnn : ∀ v ∈ l, v.name.size + 24 < n) :
    typing_VarsL n [eVs l] = some (.tup [eI (firstErr l).1, eI (firstErr l).2]) := by
  have e0 : typing_VarsL n [eVs l] = obind (iterL (typing_Vars_l2 n) n [eVs l, eVs l, eI l.length, eI 0]) (jnX fun ls => some (D.tup [eI 0, eI 0])) := by
    simp [typing_VarsL, typing_Vars, eVs]
  rw [e0]
  rcases first_or (fun i => vErrAt l i ≠ 0) l.length with h | ⟨i, h1, h2, h3⟩
  · have h' : ∀ j : Nat, j < l.length → vErrAt l j = 0 := fun j hj => by simpa using h j hj
    have key : iterL (typing_Vars_l2 n) n [eVs l, eVs l, eI l.length, eI 0] = some (.inl []) := by
      refine iterL_run (fun i => [eVs l, eVs l, eI l.length, eI i]) l.length rfl ?_ ?_ hn
      · intro i hi
        rw [typing_Vars_step n l hl hn hnn i hi, if_pos (h' i hi)]
      · simp [typing_Vars_l2]
    rw [key, firstErr_none h']
    rfl
  · have h' : ∀ j : Nat, j < i → vErrAt l j = 0 := fun j hj => by simpa using h3 j hj
    have key : iterL (typing_Vars_l2 n) n [eVs l, eVs l, eI l.length, eI 0] = some (.inr (.tup [eI i, eI (vErrAt l i)])) := by
      refine iterL_run (fun i => [eVs l, eVs l, eI l.length, eI i]) i rfl ?_ ?_ (by omega)
      · intro j hj
        rw [typing_Vars_step n l hl hn hnn j (by omega), if_pos (h' j hj)]
      · rw [typing_Vars_step n l hl hn hnn i h1, if_neg h2]
    rw [key, firstErr_eq h' h1 rfl h2]
    rfl

/-! ### Spans, bits -/
@[simp] theorem cv64 {a : Int} : cvP .u64 (eI a) = some (.val (.int .u64 (IntKind.u64.wrap a))) := rfl
theorem cvI {k : IntKind} {a : Int} : cvP .i64 (.val (.int k a)) = some (eI (IntKind.i64.wrap a)) := rfl
theorem typing_Span_ok (n : Nat) (v : V) (h1 : inI v.lo) (h2 : inI v.hi) : typing_SpanL n [v.d] = some (eI v.span) := by
  have c1 : celD v.d 1 = eB v.bool := rfl
  have c2 : celD v.d 2 = eI v.lo := rfl
  have c3 : celD v.d 3 = eI v.hi := rfl
  have h9 : aggP 4 v.d = true := rfl
  simp only [typing_SpanL, typing_Span, h9, og_t, c1, c2, c3, oif_b, b_gtr, obind_s, cv64, cvI]
  cases hb : v.bool with
  | true => simp [V.span_bool hb]
  | false =>
    by_cases hlt : v.lo > v.hi
    · simp [V.span_none hb hlt, hlt]
    · have hle : v.lo ≤ v.hi := by omega
      have e1 : binP false .sub (.val (.int .u64 (IntKind.u64.wrap v.hi))) (.val (.int .u64 (IntKind.u64.wrap v.lo))) = some (.val (.int .u64 (v.hi - v.lo))) := by
        show some (D.val (.int .u64 (IntKind.u64.wrap (IntKind.u64.wrap v.hi - IntKind.u64.wrap v.lo)))) = _
        rw [u64_sub h1 h2 hle]
      have e2 : binP false .lss (.val (.int .u64 (v.hi - v.lo))) (.val (.int .u64 1073741824)) = some (eB (decide (v.hi - v.lo < 1073741824))) := rfl
      simp only [hlt, decide_false, Bool.false_eq_true, if_false, e1, e2, obind_s, oif_b]
      by_cases hm : v.hi - v.lo < 1073741824
      · rw [V.span_some hb hle hm]
        simp only [hm, decide_true, if_true, cvI, obind_s, wrap64 _ (show -9223372036854775808 ≤ v.hi - v.lo by omega) (by omega)]
        rw [b_add (by omega) (by omega)]
        rfl
      · rw [V.span_many hb hle (by omega)]
        simp [hm]
theorem ref36_Span_ok (n : Nat) (v : V) (h1 : inI v.lo) (h2 : inI v.hi) : ref36_SpanL n [v.d] = some (eI v.span) := by
  have c1 : celD v.d 1 = eB v.bool := rfl
  have c2 : celD v.d 2 = eI v.lo := rfl
  have c3 : celD v.d 3 = eI v.hi := rfl
  have h9 : aggP 4 v.d = true := rfl
  simp only [ref36_SpanL, ref36_Span, h9, og_t, c1, c2, c3, oif_b, b_gtr, obind_s, cv64]
  cases hb : v.bool with
  | true => simp [V.span_bool hb]
  | false =>
    by_cases hlt : v.lo > v.hi
    · simp [V.span_none hb hlt, hlt]
    · have hle : v.lo ≤ v.hi := by omega
      have e1 : binP false .sub (.val (.int .u64 (IntKind.u64.wrap v.hi))) (.val (.int .u64 (IntKind.u64.wrap v.lo))) = some (.val (.int .u64 (v.hi - v.lo))) := by
        show some (D.val (.int .u64 (IntKind.u64.wrap (IntKind.u64.wrap v.hi - IntKind.u64.wrap v.lo)))) = _
        rw [u64_sub h1 h2 hle]
      have e2 : binP false .gtr (.val (.int .u64 (v.hi - v.lo))) (.val (.int .u64 1073741824)) = some (eB (decide (v.hi - v.lo > 1073741824))) := rfl
      simp only [hlt, decide_false, Bool.false_eq_true, if_false, e1, e2, obind_s, oif_b]
      by_cases hm : v.hi - v.lo > 1073741824
      · rw [V.span_many hb hle (by omega)]
        simp only [hm, decide_true, if_true, obind_s, jnX_l, pd_0, cvI]
        rfl
      · simp only [hm, decide_false, Bool.false_eq_true, if_false, obind_s, jnX_l, pd_0, cvI, wrap64 _ (show -9223372036854775808 ≤ v.hi - v.lo by omega) (by omega)]
        rw [b_add (by omega) (by omega)]
        simp only [obind_s]
        by_cases he : v.hi - v.lo = 1073741824
        · rw [V.span_many hb hle (by omega), he]; rfl
        · rw [V.span_some hb hle (by omega)]
theorem V.span_le (v : V) : 0 ≤ v.span ∧ v.span ≤ 1073741825 := by
  unfold V.span
  split
  · omega
  · split
    · omega
    · split <;> omega
theorem pow62 {i : Nat} (h : i ≤ 62) : ((2 : Int) ^ i) ≤ 4611686018427387904 ∧ 0 < (2 : Int) ^ i := by
  have h1 : (2 : Nat) ^ i ≤ 2 ^ 62 := Nat.pow_le_pow_right (by omega) h
  have h3 : ((2 ^ i : Nat) : Int) = 2 ^ i := by simp
  have h2 : (0 : Int) < 2 ^ i := Int.pow_pos (by omega)
  omega
theorem shl_one {bt : Bool} {i : Nat} (h : i ≤ 62) : binP bt .shl (eI 1) (eI (i : Int)) = some (eI ((2 : Int) ^ i)) := by
  have hneg : ¬ ((i : Int) < 0) := by omega
  have hm : min i IntKind.i64.bits = i := by simp [IntKind.bits]; omega
  obtain ⟨h1, h2⟩ := pow62 h
  have e : IntKind.i64.wrap (1 * 2 ^ (min i IntKind.i64.bits)) = 2 ^ i := by
    rw [hm, Int.one_mul]; exact wrap64 _ (by omega) (by omega)
  simp only [binP, eI, toDo, hneg, if_false, Int.toNat_natCast]
  rw [e]
theorem bitsOf_spec {n : Int} (h : n ≤ 1073741825) : bitsOf n ≤ 62 ∧ (∀ j : Nat, j < bitsOf n → (2 : Int) ^ j < n) ∧ n ≤ 2 ^ bitsOf n := by
  rcases first_or (fun i => n ≤ (2 : Int) ^ i) 40 with h1 | ⟨i, h1, h2, h3⟩
  · exact absurd h (by have := h1 39 (by omega); simp at this; omega)
  · have h3' : ∀ j : Nat, j < i → (2 : Int) ^ j < n := fun j hj => by have := h3 j hj; omega
    rw [bitsOf_eq h3' h2]
    exact ⟨by omega, h3', h2⟩
theorem num_Bits_ok (n : Nat) (k : Int) (hk : k ≤ 1073741825) (hn : 63 < n) : num_BitsL n [eI k] = some (eI (bitsOf k)) := by
  obtain ⟨h1, h2, h3⟩ := bitsOf_spec hk
  have key : iterL (num_Bits_l2 n) n [eI k, eI 0] = some (.inr (eI (bitsOf k))) := by
    refine iterL_run (fun i => [eI k, eI i]) (bitsOf k) rfl ?_ ?_ (by omega)
    · intro i hi
      have := h2 i hi
      simp (disch := omega) [num_Bits_l2, shl_one, b_add, show ((i : Int) < 63) by omega, show ¬ (k ≤ (2 : Int) ^ i) by omega]
    · simp (disch := omega) [num_Bits_l2, shl_one, show ((bitsOf k : Int) < 63) by omega, h3]
  simp [num_BitsL, num_Bits, key]
theorem ref01_Bits_ok (n : Nat) (k : Int) (h0 : -1000 ≤ k) (hk : k ≤ 1073741825) (hn : 63 < n) : ref01_BitsL n [eI k] = some (eI (bitsOf k)) := by
  have key : ∀ (m : Nat) (k : Int) (acc n' : Nat), bitsOf k = m → k ≤ 1073741825 → acc + m ≤ 1000 → m < n' → iterL (ref01_Bits_l2 n) n' [eI k, eI acc] = some (.inl [eI (acc + m : Nat)]) := by
    intro m
    induction m with
    | zero =>
      intro k acc n' hm hk ha hn'
      obtain ⟨n', rfl⟩ : ∃ q, n' = q + 1 := ⟨n' - 1, by omega⟩
      have hk1 : ¬ k > 1 := by
        intro hc
        have := bitsOf_half hc
        omega
      rw [iterL_s]
      simp [ref01_Bits_l2, hk1]
    | succ m ih =>
      intro k acc n' hm hk ha hn'
      obtain ⟨n', rfl⟩ : ∃ q, n' = q + 1 := ⟨n' - 1, by omega⟩
      have hk1 : k > 1 := by
        refine Classical.byContradiction fun hc => ?_
        have : bitsOf k = 0 := by unfold bitsOf; rw [if_pos (by omega)]
        omega
      have hh := bitsOf_half hk1
      have e1 : k.tdiv 2 = k / 2 := Int.tdiv_eq_ediv_of_nonneg (by omega)
      have e2 : k.tmod 2 = k % 2 := Int.tmod_eq_emod_of_nonneg (by omega)
      have hle := (bitsOf_spec hk).1
      have ih' := ih (k / 2 + k % 2) (acc + 1) n' (by omega) (by omega) (by omega) (by omega)
      rw [iterL_s]
      simp (disch := omega) [ref01_Bits_l2, hk1, b_quo, b_rem, e1, e2, wrap64, b_add]
      have e3 : ((acc : Int) + 1) = ((acc + 1 : Nat) : Int) := by omega
      rw [e3, ih']
      congr 4
      omega
  have := key (bitsOf k) k 0 n rfl hk (by have := (bitsOf_spec hk).1; omega) (by have := (bitsOf_spec hk).1; omega)
  simp only [Nat.zero_add] at this
  have e : (eI ((0 : Nat) : Int)) = eI 0 := rfl
  rw [e] at this
  simp [ref01_BitsL, ref01_Bits, this]
end Go.Am
namespace Go.Am
set_option linter.unusedVariables false
set_option linter.unusedSimpArgs false

theorem ref36_number_ok (n : Nat) (k : Int) : ref36_numberL n [eI k] = some (eB (decide (k ≥ -255) && decide (k ≤ 255))) := by
  simp only [ref36_numberL, ref36_number, b_geq, b_leq, obind_s]
  cases decide (k ≥ -255) <;> cases decide (k ≤ 255) <;> rfl

theorem ref36_l7_step (n : Nat) (l : List V) (i k : Nat) (hi : i < l.length) (hk : k < i) (hlen : l.length < 1000000000000) :
    ref36_Vars_l7 n [eVs l, eI i, eI k] = if (l[k]'(by omega)).name = l[i].name then some (.inr (.inr (.inr (.inr (.inr (.tup [eI i, eI 6])))))) else some (.inl [eVs l, eI i, eI (k + 1 : Nat)]) := by
  have hki : k < l.length := by omega
  have h1 : l[k]? = some l[k] := List.getElem?_eq_getElem hki
  have h2 : l[i]? = some l[i] := List.getElem?_eq_getElem hi
  simp (disch := omega) [ref36_Vars_l7, eVs, hk, b_add, hki, hi, V.cells]
theorem ref36_l7_ok (n : Nat) (l : List V) (i : Nat) (hi : i < l.length) (hlen : l.length < 1000000000000) (hn : l.length < n) :
    iterL (ref36_Vars_l7 n) n [eVs l, eI i, eI 0] = if has l[i].name ((l.take i).map V.name) = true then some (.inr (.inr (.inr (.inr (.tup [eI i, eI 6]))))) else some (.inl [eVs l, eI i]) := by
  rcases first_or (fun k => (l.map V.name)[k]? = some l[i].name) i with h | ⟨k, h1, h2, h3⟩
  · rw [hasNone h, if_neg (by simp)]
    refine iterL_run (fun k => [eVs l, eI i, eI k]) i rfl ?_ ?_ (by omega)
    · intro k hk
      rw [ref36_l7_step n l i k hi hk hlen, if_neg]
      intro he
      refine h k hk ?_
      rw [List.getElem?_map, List.getElem?_eq_getElem (show k < l.length by omega), ← he]; rfl
    · simp [ref36_Vars_l7]
  · have hkl : k < l.length := by omega
    have hw := List.getElem?_eq_getElem hkl
    have hname : (l[k]).name = l[i].name := by
      rw [List.getElem?_map, hw] at h2; simpa using h2
    rw [← hname, hasSome h1 hw, if_pos rfl]
    refine iterL_run (fun k => [eVs l, eI i, eI k]) k rfl ?_ ?_ (by omega)
    · intro j hj
      rw [ref36_l7_step n l i j hi (by omega) hlen, if_neg]
      intro he
      refine h3 j hj ?_
      rw [List.getElem?_map, List.getElem?_eq_getElem (show j < l.length by omega), ← he]; rfl
    · rw [ref36_l7_step n l i k hi h1 hlen, if_pos hname]

theorem ref36_Vars_step (n : Nat) (l : List V) (hl : VsOk l) (hn : l.length < n) (hnn : ∀ v ∈ l, v.name.size + 24 < n) (i : Nat) (hi : i < l.length) :
    ref36_Vars_l2 n [eVs l, eI i] = if vErrAt l i = 0 then some (.inl [eVs l, eI (i + 1 : Nat)]) else some (.inr (.inr (.tup [eI i, eI (vErrAt l i)]))) := by
  have hy := List.getElem?_eq_getElem hi
  have hv := hl.2 _ (List.getElem_mem hi)
  have hlen := hl.1
  have h7 := ref36_l7_ok n l i hi hl.1 hn
  have e : vErrAt l i = varErr (l.take i) l[i] := by simp only [vErrAt, hy]
  rw [e]
  generalize hw : l[i] = v at *
  have h1 := ref29_Is_ok n v.name (hnn v (hw ▸ List.getElem_mem hi)) (by omega)
  have h4 : ixP 4 (eVs l) (eI (i : Int)) = some v.cells := by simp [eVs, hy, hw]
  have h5 : binP false .lss (eI (i : Int)) (eI (l.length : Int)) = some (eB true) := by simp [hi]
  have h55 : lenP (eVs l) = some (eI l.length) := by simp [eVs]
  have h6 : binP false .add (eI (i : Int)) (eI 1) = some (eI (i + 1 : Nat)) := by rw [b_add (by omega) (by omega)]; rfl
  have h8 : atP true 4 0 v.cells = some v.d := rfl
  have c0 : atP false 1 0 v.cells = some (eS v.name) := rfl
  have c1 : atP false 1 1 v.cells = some (eB v.bool) := rfl
  have c2 : atP false 1 2 v.cells = some (eI v.lo) := rfl
  have c3 : atP false 1 3 v.cells = some (eI v.hi) := rfl
  have h9 := ref36_Span_ok n v hv.1 hv.2.1
  rw [varErr_B]
  rw [show B2 v = _ from refB2 ⟨hv.1, hv.2.1, by omega⟩]
  simp only [ref36_Vars_l2, pd_0, pd_s, h55, h5, obind_s, oif_b, if_true, h4, h8, c0, c1, c2, c3, h1, h7, u_not, b_gtr, b_lss, b_neq, h6, b_geq, ref36_number_ok, h9]
  rw [B3]
  cases isName v.name
  · simp
  cases has v.name ((l.take i).map V.name)
  rotate_left
  · simp
  simp only [Bool.not_true, Bool.false_eq_true, if_false, obind_s, jnX_l, pd_0, pd_s, h4, h8, c0, c1, c2, c3, b_gtr, b_neq, ref36_number_ok, h9, u_not]
  generalize (decide (v.lo ≥ -255) && decide (v.lo ≤ 255)) = p1
  generalize (decide (v.hi ≥ -255) && decide (v.hi ≤ 255)) = p2
  generalize decide (v.lo > v.hi) = p3
  generalize decide (v.span > 64) = p4
  generalize (v.lo != 0) = p5
  generalize (v.hi != 0) = p6
  cases v.bool <;> cases p1 <;> cases p2 <;> cases p3 <;> cases p4 <;> cases p5 <;> cases p6 <;> simp [h6]

theorem ref36_Vars_ok (n : Nat) (l : List V) (hl : VsOk l) (hn : l.length < n) (hnn : ∀ v ∈ l, v.name.size + 24 < n) :
    ref36_VarsL n [eVs l] = some (.tup [eI (firstErr l).1, eI (firstErr l).2]) := by
  have e0 : ref36_VarsL n [eVs l] = obind (iterL (ref36_Vars_l2 n) n [eVs l, eI 0]) (jnX fun ls => some (D.tup [eI 0, eI 0])) := rfl
  rw [e0]
  rcases first_or (fun i => vErrAt l i ≠ 0) l.length with h | ⟨i, h1, h2, h3⟩
  · have h' : ∀ j : Nat, j < l.length → vErrAt l j = 0 := fun j hj => by simpa using h j hj
    have key : iterL (ref36_Vars_l2 n) n [eVs l, eI 0] = some (.inl []) := by
      refine iterL_run (fun i => [eVs l, eI i]) l.length rfl ?_ ?_ hn
      · intro i hi
        rw [ref36_Vars_step n l hl hn hnn i hi, if_pos (h' i hi)]
      · simp [ref36_Vars_l2, eVs]
    rw [key, firstErr_none h']
    rfl
  · have h' : ∀ j : Nat, j < i → vErrAt l j = 0 := fun j hj => by simpa using h3 j hj
    have key : iterL (ref36_Vars_l2 n) n [eVs l, eI 0] = some (.inr (.tup [eI i, eI (vErrAt l i)])) := by
      refine iterL_run (fun i => [eVs l, eI i]) i rfl ?_ ?_ (by omega)
      · intro j hj
        rw [ref36_Vars_step n l hl hn hnn j (by omega), if_pos (h' j hj)]
      · rw [ref36_Vars_step n l hl hn hnn i h1, if_neg h2]
    rw [key, firstErr_eq h' h1 rfl h2]
    rfl

/-! ### Layouts -/
def bitsV (v : V) : Nat := bitsOf v.span
def atSum (l : List V) (i : Nat) : Nat := ((l.take i).map bitsV).sum
def total (l : List V) : Nat := (l.map bitsV).sum
/-- The layout of variables, as both texts lay it. -/
def layBits (l : List V) : List (List D) := l.map fun v => [eI (bitsV v)]
def layAt (l : List V) (i : Nat) : List (List D) := (List.range i).map fun j => [eI (atSum l j)]
def layD (l : List V) : D := .agg [eVs l, .sl 1 (layBits l), .sl 1 (layAt l l.length)]
def noLay : D := .agg [.val (.slice none 0 0), .val (.slice none 0 0), .val (.slice none 0 0)]
def ofErr (l : List V) : Int := if (firstErr l).2 ≠ 0 then (firstErr l).2 else if total l > 30 then 18 else 0
def ofD (l : List V) : D := .tup [if ofErr l = 0 then layD l else noLay, eI (ofErr l)]
theorem bitsV_le (v : V) : bitsV v ≤ 62 := (bitsOf_spec (V.span_le v).2).1
theorem atSum_succ {l : List V} {i : Nat} (h : i < l.length) : atSum l (i + 1) = atSum l i + bitsV l[i] := by
  simp only [atSum]
  rw [List.take_add_one, List.getElem?_eq_getElem h]
  simp only [Option.toList_some, List.map_append, List.map_cons, List.map_nil, List.sum_append, List.sum_cons, List.sum_nil, Nat.add_zero]
theorem atSum_le (l : List V) : ∀ i : Nat, atSum l i ≤ 62 * i
  | 0 => by simp [atSum]
  | i + 1 => by
    by_cases h : i < l.length
    · have := atSum_le l i
      have := bitsV_le l[i]
      rw [atSum_succ h]; omega
    · have := atSum_le l i
      have e : atSum l (i + 1) = atSum l i := by simp only [atSum]; rw [List.take_of_length_le (by omega), List.take_of_length_le (by omega)]
      omega
theorem atSum_all (l : List V) : atSum l l.length = total l := by simp [atSum, total]
theorem layAt_succ (l : List V) (i : Nat) : layAt l (i + 1) = layAt l i ++ [[eI (atSum l i)]] := by simp [layAt, List.range_succ]
theorem layBits_succ {l : List V} {i : Nat} (h : i < l.length) : layBits (l.take (i + 1)) = layBits (l.take i) ++ [[eI (bitsV l[i])]] := by
  simp only [layBits]
  rw [List.take_add_one, List.getElem?_eq_getElem h]
  simp only [Option.toList_some, List.map_append, List.map_cons, List.map_nil]
@[simp] theorem layBits_length (l : List V) : (layBits l).length = l.length := by simp [layBits]
@[simp] theorem layAt_length (l : List V) (i : Nat) : (layAt l i).length = i := by simp [layAt]

theorem enc_Of_ok (n : Nat) (l : List V) (hl : VsOk l) (hn : l.length < n) (hn2 : 63 < n) (hnn : ∀ v ∈ l, v.name.size + 24 < n) : enc_OfL n [eVs l] = some (ofD l) := by
  have hv := typing_Vars_ok n l hl hn hnn
  have hlen := hl.1
  simp only [enc_OfL, enc_Of, hv, obind_s, extP_tup, List.getElem?_cons_zero, List.getElem?_cons_succ, b_neq, oif_b]
  by_cases h0 : (firstErr l).2 = 0
  · have e1 : ((firstErr l).2 != 0) = false := by simp [h0]
    simp only [e1, Bool.false_eq_true, if_false]
    have key : iterL (enc_Of_l8 n) n [eI 0, eVs l, eI l.length, eI 0, .sl 4 (l.map V.cells), .sl 1 [], .sl 1 []] = some (.inl [eI (total l), .sl 4 (l.map V.cells), .sl 1 (layBits l), .sl 1 (layAt l l.length)]) := by
      refine iterL_run (fun i => [eI (atSum l i), eVs l, eI l.length, eI i, .sl 4 (l.map V.cells), .sl 1 (layBits (l.take i)), .sl 1 (layAt l i)]) l.length rfl ?_ ?_ hn
      · intro i hi
        have hs := typing_Span_ok n l[i] (hl.2 _ (List.getElem_mem hi)).1 (hl.2 _ (List.getElem_mem hi)).2.1
        have hb := num_Bits_ok n l[i].span (V.span_le _).2 hn2
        have h4 : ixP 4 (eVs l) (eI (i : Int)) = some l[i].cells := by simp [eVs, hi]
        have h8 : atP true 4 0 l[i].cells = some l[i].d := rfl
        have h9 : aggP 4 l[i].d = true := rfl
        have hc : (D.agg [celD l[i].d 0, celD l[i].d 1, celD l[i].d 2, celD l[i].d 3]) = l[i].d := rfl
        have r1 : roomP (i + 1) 8 = true := roomP_ok (by omega) (by omega)
        have a1 := atSum_le l i
        have a2 := bitsV_le l[i]
        have e3 : binP false .add (eI (atSum l i : Int)) (eI (bitsOf l[i].span : Int)) = some (eI (atSum l (i + 1) : Int)) := by
          rw [b_add (by omega) (by have : bitsV l[i] = bitsOf l[i].span := rfl; omega), atSum_succ hi]
          congr 2
        have e4 : binP false .add (eI (i : Int)) (eI 1) = some (eI (i + 1 : Nat)) := by rw [b_add (by omega) (by omega)]; rfl
        have e5 : binP false .lss (eI (i : Int)) (eI (l.length : Int)) = some (eB true) := by simp [hi]
        have hlt : (layBits (l.take i)).length = i := by simp; omega
        simp only [enc_Of_l8, pd_0, pd_s, e5, obind_s, oif_b, if_true, h4, h8, h9, og_t, hc, hs, hb, oneP_I, esD_sl, e3, e4, hlt, layAt_length, List.length_cons, List.length_nil, Nat.zero_add, r1]
        simp only [true_or, decide_true, Nat.zero_lt_one, Bool.and_self, og_t]
        rw [layBits_succ hi, layAt_succ]
        rfl
      · simp [enc_Of_l8, atSum_all]
    have m1 : lenP (eVs l) = some (eI l.length) := by simp [eVs]
    have m2 : makeP 40 (eI l.length) (eI l.length) = some l.length := by
      have g1 : (0 : Int) ≤ (l.length : Int) ∧ (l.length : Int) ≤ (l.length : Int) ∧ ((40 : Nat) : Int) * (l.length : Int) ≤ 281474976710656 ∧ (l.length : Int) ≤ 9223372036854775807 := by omega
      simp only [makeP, eI]
      rw [if_pos g1]; simp
    have m3 : elP (eVs l) = some (4, l.map V.cells) := rfl
    simp only [m1, m2, m3, obind_s, true_or, decide_true, og_t, nilP_nil, List.length_map, List.length_replicate, Nat.min_self]
    rw [List.take_of_length_le (by simp), List.drop_of_length_le (by simp), List.append_nil, key]
    simp only [obind_s, jnX_l, pd_0, b_gtr, oif_b, pd_s, esD_sl]
    by_cases ht : total l > 30
    · have e2 : ofErr l = 18 := by simp [ofErr, h0, ht]
      have : (total l : Int) > 30 := by omega
      simp only [this, decide_true, if_true, ofD, e2]
      rfl
    · have e2 : ofErr l = 0 := by simp [ofErr, h0, ht]
      have : ¬ ((total l : Int) > 30) := by omega
      simp only [this, decide_false, Bool.false_eq_true, if_false, ofD, e2, if_true]
      rfl
  · have e1 : ((firstErr l).2 != 0) = true := by simp [h0]
    have e2 : ofErr l = (firstErr l).2 := by simp [ofErr, h0]
    simp only [e1, if_true, ofD, e2, h0, if_false]
    rfl
theorem ref37_Of_ok (n : Nat) (l : List V) (hl : VsOk l) (hn : l.length < n) (hn2 : 63 < n) (hnn : ∀ v ∈ l, v.name.size + 24 < n) : ref37_OfL n [eVs l] = some (ofD l) := by
  have hv := ref36_Vars_ok n l hl hn hnn
  have hlen := hl.1
  simp only [ref37_OfL, ref37_Of, hv, obind_s, extP_tup, List.getElem?_cons_zero, List.getElem?_cons_succ, b_neq, oif_b]
  by_cases h0 : (firstErr l).2 = 0
  · have e1 : ((firstErr l).2 != 0) = false := by simp [h0]
    simp only [e1, Bool.false_eq_true, if_false]
    have key : iterL (ref37_Of_l7 n) n [eVs l, eI 0, eI 0, .val (.slice none 0 0), .val (.slice none 0 0), .val (.slice none 0 0), eVs l, .sl 1 [], .sl 1 []] =
        some (.inl [eI (total l), .val (.slice none 0 0), .val (.slice none 0 0), .val (.slice none 0 0), eVs l, .sl 1 (layBits l), .sl 1 (layAt l l.length)]) := by
      refine iterL_run (fun i => [eVs l, eI (atSum l i), eI i, .val (.slice none 0 0), .val (.slice none 0 0), .val (.slice none 0 0), eVs l, .sl 1 (layBits (l.take i)), .sl 1 (layAt l i)]) l.length rfl ?_ ?_ hn
      · intro i hi
        have hs := ref36_Span_ok n l[i] (hl.2 _ (List.getElem_mem hi)).1 (hl.2 _ (List.getElem_mem hi)).2.1
        have hb := ref01_Bits_ok n l[i].span (by have := (V.span_le l[i]).1; omega) (V.span_le _).2 hn2
        have h4 : ixP 4 (eVs l) (eI (i : Int)) = some l[i].cells := by simp [eVs, hi]
        have h8 : atP true 4 0 l[i].cells = some l[i].d := rfl
        have r1 : roomP (i + 1) 8 = true := roomP_ok (by omega) (by omega)
        have a1 := atSum_le l i
        have a2 := bitsV_le l[i]
        have e3 : binP false .add (eI (atSum l i : Int)) (eI (bitsOf l[i].span : Int)) = some (eI (atSum l (i + 1) : Int)) := by
          rw [b_add (by omega) (by have : bitsV l[i] = bitsOf l[i].span := rfl; omega), atSum_succ hi]
          congr 2
        have e4 : binP false .add (eI (i : Int)) (eI 1) = some (eI (i + 1 : Nat)) := by rw [b_add (by omega) (by omega)]; rfl
        have e5 : binP false .lss (eI (i : Int)) (eI (l.length : Int)) = some (eB true) := by simp [hi]
        have m1 : lenP (eVs l) = some (eI l.length) := by simp [eVs]
        have hlt : (layBits (l.take i)).length = i := by simp; omega
        simp only [ref37_Of_l7, pd_0, pd_s, m1, e5, obind_s, oif_b, if_true, h4, h8, og_t, hs, hb, oneP_I, esD_sl, e3, e4, hlt, layAt_length, List.length_cons, List.length_nil, Nat.zero_add, r1]
        simp only [true_or, decide_true, Nat.zero_lt_one, Bool.and_self, og_t]
        rw [layBits_succ hi, layAt_succ]
        rfl
      · have m1 : lenP (eVs l) = some (eI l.length) := by simp [eVs]
        simp [ref37_Of_l7, atSum_all, m1]
    have o1 : oneP (eVs l) = true := rfl
    have o2 : aggP 3 (D.agg [eVs l, .val (.slice none 0 0), .val (.slice none 0 0)]) = true := rfl
    have o3 : celD (D.agg [eVs l, .val (.slice none 0 0), .val (.slice none 0 0)]) 0 = eVs l := rfl
    have o4 : celD (D.agg [eVs l, .val (.slice none 0 0), .val (.slice none 0 0)]) 1 = .val (.slice none 0 0) := rfl
    have o5 : celD (D.agg [eVs l, .val (.slice none 0 0), .val (.slice none 0 0)]) 2 = .val (.slice none 0 0) := rfl
    simp only [o1, o2, o3, o4, o5, og_t, nilP_nil, key]
    simp only [obind_s, jnX_l, pd_0, b_gtr, oif_b, pd_s, esD_sl, o1, og_t]
    by_cases ht : total l > 30
    · have e2 : ofErr l = 18 := by simp [ofErr, h0, ht]
      have : (total l : Int) > 30 := by omega
      simp only [this, decide_true, if_true, ofD, e2]
      rfl
    · have e2 : ofErr l = 0 := by simp [ofErr, h0, ht]
      have : ¬ ((total l : Int) > 30) := by omega
      simp only [this, decide_false, Bool.false_eq_true, if_false, ofD, e2, if_true]
      rfl
  · have e1 : ((firstErr l).2 != 0) = true := by simp [h0]
    have e2 : ofErr l = (firstErr l).2 := by simp [ofErr, h0]
    simp only [e1, if_true, ofD, e2, h0, if_false]
    rfl
end Go.Am
namespace Go.Am
set_option linter.unusedVariables false
set_option linter.unusedSimpArgs false

/-! ### Lists that are compared -/
theorem nilsl_len : lenP (.val (.slice none 0 0)) = some (eI 0) := rfl
/-- A list of ints, nil or not. -/
inductive IsL (enc : List D → Prop) : D → List (List D) → Prop where
  | nil : IsL enc (.val (.slice none 0 0)) []
  | sl (es : List (List D)) : IsL enc (.sl 1 es) es
theorem IsL.len {p : List D → Prop} {x : D} {es : List (List D)} (h : IsL p x es) : lenP x = some (eI es.length) := by cases h <;> rfl
theorem IsL.ix {p : List D → Prop} {x : D} {es : List (List D)} (h : IsL p x es) {i : Nat} (hi : i < es.length) : ixP 1 x (eI (i : Int)) = es[i]? := by
  cases h with
  | nil => cases hi
  | sl es => simp
theorem law37_same_ok (n : Nat) (x y : D) (a b : List Int) (hx : IsL (fun _ => True) x (a.map fun k => [eI k])) (hy : IsL (fun _ => True) y (b.map fun k => [eI k])) (hn : a.length < n) (hl : a.length < 1000000000000) :
    law37_sameL n [x, y] = some (eB (decide (a = b))) := by
  have lx := hx.len
  have ly := hy.len
  simp only [List.length_map] at lx ly
  simp only [law37_sameL, law37_same, lx, ly, obind_s, b_neq, oif_b]
  by_cases hlen : a.length = b.length
  · have e1 : (((a.length : Nat) : Int) != ((b.length : Nat) : Int)) = false := by simp [hlen]
    simp only [e1, Bool.false_eq_true, if_false]
    have step : ∀ i (hi : i < a.length), law37_same_l4 n [x, y, eI a.length, eI i] = if a[i] = b[i]'(by omega) then some (.inl [x, y, eI a.length, eI (i + 1 : Nat)]) else some (.inr (.inr (eB false))) := by
      intro i hi
      have h1 := hx.ix (i := i) (by simpa using hi)
      have h2 := hy.ix (i := i) (by simp; omega)
      have hb : i < b.length := by omega
      have e2 : binP false .add (eI (i : Int)) (eI 1) = some (eI (i + 1 : Nat)) := by rw [b_add (by omega) (by omega)]; rfl
      simp only [law37_same_l4, pd_0, pd_s, h1, h2, e2]
      by_cases he : a[i] = b[i] <;> simp [hi, hb, he]
    rcases first_or (fun i => a[i]? ≠ b[i]?) a.length with h | ⟨i, h1, h2, h3⟩
    · have hab : a = b := by
        apply List.ext_getElem?
        intro i
        by_cases hi : i < a.length
        · have := h i hi; simpa using this
        · rw [List.getElem?_eq_none (by omega), List.getElem?_eq_none (by omega)]
      have key : iterL (law37_same_l4 n) n [x, y, eI a.length, eI 0] = some (.inl []) := by
        refine iterL_run (fun i => [x, y, eI a.length, eI i]) a.length rfl ?_ ?_ hn
        · intro i hi
          rw [step i hi, if_pos]
          subst hab; rfl
        · simp [law37_same_l4]
      rw [key]
      simp [hab]
    · have hib : i < b.length := by omega
      have hne : a[i] ≠ b[i] := by
        intro he
        rw [List.getElem?_eq_getElem h1, List.getElem?_eq_getElem hib, he] at h2
        exact h2 rfl
      have key : iterL (law37_same_l4 n) n [x, y, eI a.length, eI 0] = some (.inr (eB false)) := by
        refine iterL_run (fun i => [x, y, eI a.length, eI i]) i rfl ?_ ?_ (by omega)
        · intro j hj
          have hj1 : j < a.length := by omega
          have hj2 : j < b.length := by omega
          rw [step j hj1, if_pos]
          have := h3 j hj
          simp only [ne_eq, Decidable.not_not] at this
          rw [List.getElem?_eq_getElem hj1, List.getElem?_eq_getElem hj2] at this
          exact Option.some.inj this
        · rw [step i h1, if_neg hne]
      rw [key]
      have : a ≠ b := by rintro rfl; exact hne rfl
      simp [this]
  · have e1 : (((a.length : Nat) : Int) != ((b.length : Nat) : Int)) = true := by simp; omega
    have : a ≠ b := by rintro rfl; exact hlen rfl
    simp [e1, this]
theorem law37_bits_ok (n : Nat) (x y : D) (a b : List Bool) (hx : IsL (fun _ => True) x (a.map fun k => [eB k])) (hy : IsL (fun _ => True) y (b.map fun k => [eB k])) (hn : a.length < n) (hl : a.length < 1000000000000) :
    law37_bitsL n [x, y] = some (eB (decide (a = b))) := by
  have lx := hx.len
  have ly := hy.len
  simp only [List.length_map] at lx ly
  simp only [law37_bitsL, law37_bits, lx, ly, obind_s, b_neq, oif_b]
  by_cases hlen : a.length = b.length
  · have e1 : (((a.length : Nat) : Int) != ((b.length : Nat) : Int)) = false := by simp [hlen]
    simp only [e1, Bool.false_eq_true, if_false]
    have step : ∀ i (hi : i < a.length), law37_bits_l4 n [x, y, eI a.length, eI i] = if a[i] = b[i]'(by omega) then some (.inl [x, y, eI a.length, eI (i + 1 : Nat)]) else some (.inr (.inr (eB false))) := by
      intro i hi
      have h1 := hx.ix (i := i) (by simpa using hi)
      have h2 := hy.ix (i := i) (by simp; omega)
      have hb : i < b.length := by omega
      have e2 : binP false .add (eI (i : Int)) (eI 1) = some (eI (i + 1 : Nat)) := by rw [b_add (by omega) (by omega)]; rfl
      simp only [law37_bits_l4, pd_0, pd_s, h1, h2, e2]
      by_cases he : a[i] = b[i] <;> simp [hi, hb, he]
    rcases first_or (fun i => a[i]? ≠ b[i]?) a.length with h | ⟨i, h1, h2, h3⟩
    · have hab : a = b := by
        apply List.ext_getElem?
        intro i
        by_cases hi : i < a.length
        · have := h i hi; simpa using this
        · rw [List.getElem?_eq_none (by omega), List.getElem?_eq_none (by omega)]
      have key : iterL (law37_bits_l4 n) n [x, y, eI a.length, eI 0] = some (.inl []) := by
        refine iterL_run (fun i => [x, y, eI a.length, eI i]) a.length rfl ?_ ?_ hn
        · intro i hi
          rw [step i hi, if_pos]
          subst hab; rfl
        · simp [law37_bits_l4]
      rw [key]
      simp [hab]
    · have hib : i < b.length := by omega
      have hne : a[i] ≠ b[i] := by
        intro he
        rw [List.getElem?_eq_getElem h1, List.getElem?_eq_getElem hib, he] at h2
        exact h2 rfl
      have key : iterL (law37_bits_l4 n) n [x, y, eI a.length, eI 0] = some (.inr (eB false)) := by
        refine iterL_run (fun i => [x, y, eI a.length, eI i]) i rfl ?_ ?_ (by omega)
        · intro j hj
          have hj1 : j < a.length := by omega
          have hj2 : j < b.length := by omega
          rw [step j hj1, if_pos]
          have := h3 j hj
          simp only [ne_eq, Decidable.not_not] at this
          rw [List.getElem?_eq_getElem hj1, List.getElem?_eq_getElem hj2] at this
          exact Option.some.inj this
        · rw [step i h1, if_neg hne]
      rw [key]
      have : a ≠ b := by rintro rfl; exact hne rfl
      simp [this]
  · have e1 : (((a.length : Nat) : Int) != ((b.length : Nat) : Int)) = true := by simp; omega
    have : a ≠ b := by rintro rfl; exact hlen rfl
    simp [e1, this]
end Go.Am
namespace Go.Am
set_option linter.unusedVariables false
set_option linter.unusedSimpArgs false

/-! ### Good variables -/
def lov (v : V) : Int := if v.bool then 0 else v.lo
def hiv (v : V) : Int := if v.bool then 1 else v.hi
structure Vg (v : V) : Prop where
  le : lov v ≤ hiv v
  lo : -255 ≤ lov v
  hi : hiv v ≤ 255
  span : v.span = hiv v - lov v + 1
  wide : hiv v - lov v < 2 ^ bitsV v
theorem vg_of {seen : List V} {v : V} (hv : v.ok) (h : varErr seen v = 0) : Vg v := by
  rw [varErr_B] at h
  have h1 : B3 v = false := by
    cases hb : B3 v with
    | false => rfl
    | true =>
      rw [hb] at h
      exfalso
      revert h
      cases isName v.name <;> cases has v.name (seen.map V.name) <;> simp
  have h2 : B2 v = false := by
    cases hb : B2 v with
    | false => rfl
    | true =>
      rw [hb, h1] at h
      exfalso
      revert h
      cases isName v.name <;> cases has v.name (seen.map V.name) <;> simp
  rw [show B2 v = _ from refB2 hv] at h2
  have hw : v.span = hiv v - lov v + 1 → (lov v ≤ hiv v) → hiv v - lov v < 2 ^ bitsV v := by
    intro hs _
    have := (bitsOf_spec (V.span_le v).2).2.2
    have e : bitsV v = bitsOf v.span := rfl
    rw [e]
    omega
  cases hb : v.bool with
  | true =>
    have e1 : lov v = 0 := by simp [lov, hb]
    have e2 : hiv v = 1 := by simp [hiv, hb]
    have e3 : v.span = hiv v - lov v + 1 := by rw [e1, e2, V.span_bool hb]; rfl
    exact ⟨by omega, by omega, by omega, e3, hw e3 (by omega)⟩
  | false =>
    have e1 : lov v = v.lo := by simp [lov, hb]
    have e2 : hiv v = v.hi := by simp [hiv, hb]
    simp only [hb, Bool.not_false, Bool.true_and, Bool.or_eq_false_iff, decide_eq_false_iff_not, Bool.not_eq_false', Bool.and_eq_true, decide_eq_true_eq] at h2
    have e3 : v.span = hiv v - lov v + 1 := by rw [e1, e2, V.span_some hb (by omega) (by omega)]
    exact ⟨by omega, by omega, by omega, e3, hw e3 (by omega)⟩
/-- Variables that both texts take. -/
structure Good (l : List V) : Prop where
  ok : VsOk l
  err : ofErr l = 0
theorem Good.first {l : List V} (h : Good l) : (firstErr l).2 = 0 ∧ total l ≤ 30 := by
  have := h.err
  unfold ofErr at this
  split at this
  · rename_i h1; exact absurd this h1
  · rename_i h1
    split at this
    · cases this
    · exact ⟨by simpa using h1, by omega⟩
theorem Good.vg {l : List V} (h : Good l) {i : Nat} (hi : i < l.length) : Vg l[i] := by
  have h0 : vErrAt l i = 0 := by
    refine Classical.byContradiction fun hc => ?_
    rcases first_or (fun i => vErrAt l i ≠ 0) l.length with h1 | ⟨j, h1, h2, h3⟩
    · exact h1 i hi hc
    · have := firstErr_eq (fun k hk => by simpa using h3 k hk) h1 rfl h2
      have h4 := h.first.1
      rw [this] at h4
      exact h2 h4
  have hv := h.ok.2 _ (List.getElem_mem hi)
  simp only [vErrAt, List.getElem?_eq_getElem hi] at h0
  exact vg_of ⟨hv.1, hv.2.1, by omega⟩ h0
theorem atSum_mono (l : List V) {i j : Nat} (h : i ≤ j) : atSum l i ≤ atSum l j := by
  induction j with
  | zero => have : i = 0 := by omega
            subst this; exact Nat.le_refl _
  | succ j ih =>
    by_cases he : i = j + 1
    · subst he; exact Nat.le_refl _
    · have h1 := ih (by omega)
      by_cases hj : j < l.length
      · rw [atSum_succ hj]; omega
      · have e : atSum l (j + 1) = atSum l j := by simp only [atSum]; rw [List.take_of_length_le (by omega), List.take_of_length_le (by omega)]
        omega
theorem Good.at {l : List V} (h : Good l) {i : Nat} (hi : i < l.length) : atSum l i + bitsV l[i] ≤ total l ∧ total l ≤ 30 := by
  have := atSum_mono l (show i + 1 ≤ l.length by omega)
  rw [atSum_succ hi, atSum_all] at this
  exact ⟨this, h.first.2⟩
theorem Good.short {l : List V} (h : Good l) {i : Nat} (hi : i < l.length) : bitsV l[i] ≤ 30 := by
  have := h.at hi; omega

/-! ### Numbers as bits, the least first -/
def bitL : Nat → Int → List Bool
  | 0, _ => []
  | k + 1, m => (m % 2 == 1) :: bitL k (m / 2)
def valL : List Bool → Int
  | [] => 0
  | b :: r => (if b then 1 else 0) + 2 * valL r
@[simp] theorem bitL_length : ∀ (k : Nat) (m : Int), (bitL k m).length = k
  | 0, _ => rfl
  | k + 1, m => by simp [bitL, bitL_length k]
theorem valL_nonneg : ∀ l : List Bool, 0 ≤ valL l
  | [] => Int.le_refl 0
  | b :: r => by have := valL_nonneg r; simp only [valL]; split <;> omega
theorem valL_lt : ∀ l : List Bool, valL l < 2 ^ l.length
  | [] => by simp [valL]
  | b :: r => by
    have := valL_lt r
    simp only [valL, List.length_cons, Int.pow_succ]
    split <;> omega
theorem val_bit : ∀ (k : Nat) (m : Int), 0 ≤ m → m < 2 ^ k → valL (bitL k m) = m
  | 0, m, h0, h1 => by simp at h1; simp only [bitL, valL]; omega
  | k + 1, m, h0, h1 => by
    rw [Int.pow_succ] at h1
    have := val_bit k (m / 2) (by omega) (by omega)
    simp only [bitL, valL, this, beq_iff_eq]
    split <;> omega
theorem bit_val : ∀ l : List Bool, bitL l.length (valL l) = l
  | [] => rfl
  | b :: r => by
    have h0 := valL_nonneg r
    have ih := bit_val r
    simp only [List.length_cons, bitL]
    have e1 : valL (b :: r) / 2 = valL r := by simp only [valL]; split <;> omega
    have e2 : (valL (b :: r) % 2 == 1) = b := by
      simp only [valL]
      cases b
      · first | (simp; done) | (simp; omega)
      · first | (simp; done) | (simp; omega)
    rw [e1, e2, ih]
theorem valL_append : ∀ (l : List Bool) (b : Bool), valL (l ++ [b]) = valL l + (if b then 2 ^ l.length else 0)
  | [], b => by cases b <;> simp [valL]
  | c :: r, b => by
    have := valL_append r b
    simp only [List.cons_append, valL, this, List.length_cons, Int.pow_succ]
    cases b <;> simp <;> omega

/-! ### The small functions -/
theorem enc_lo_ok (n : Nat) (v : V) : enc_loL n [v.d] = some (eI (lov v)) := by
  have c1 : celD v.d 1 = eB v.bool := rfl
  have c2 : celD v.d 2 = eI v.lo := rfl
  have h9 : aggP 4 v.d = true := rfl
  simp only [enc_loL, enc_lo, h9, og_t, c1, c2, oif_b, lov]
  cases v.bool <;> simp
theorem ref37_ends_ok (n : Nat) (v : V) : ref37_endsL n [v.d] = some (.tup [eI (lov v), eI (hiv v)]) := by
  have c1 : celD v.d 1 = eB v.bool := rfl
  have c2 : celD v.d 2 = eI v.lo := rfl
  have c3 : celD v.d 3 = eI v.hi := rfl
  have h9 : aggP 4 v.d = true := rfl
  simp only [ref37_endsL, ref37_ends, h9, og_t, c1, c2, c3, oif_b, lov, hiv]
  cases v.bool <;> simp
theorem one_VsD (l : List V) : oneP (eVs l) = true := rfl
theorem lay_agg (l : List V) : aggP 3 (layD l) = true := rfl
theorem lay_again (l : List V) : (D.agg [celD (layD l) 0, celD (layD l) 1, celD (layD l) 2]) = layD l := rfl
theorem lay0 (l : List V) : celD (layD l) 0 = eVs l := rfl
theorem lay1 (l : List V) : celD (layD l) 1 = .sl 1 (layBits l) := rfl
theorem lay2 (l : List V) : celD (layD l) 2 = .sl 1 (layAt l l.length) := rfl
theorem bits_ix {l : List V} {i : Nat} (hi : i < l.length) : ixP 1 (.sl 1 (layBits l)) (eI (i : Int)) = some [eI (bitsV l[i])] := by
  simp [layBits, hi]
theorem at_ix {l : List V} {i : Nat} (hi : i < l.length) : ixP 1 (.sl 1 (layAt l l.length)) (eI (i : Int)) = some [eI (atSum l i)] := by
  simp [layAt, hi]
theorem at_1 {x : D} : atP false 1 0 [x] = some x := rfl
theorem add1 {i : Nat} (h : i < 1000000000000) : binP false .add (eI (i : Int)) (eI 1) = some (eI (i + 1 : Nat)) := by rw [b_add (by omega) (by omega)]; rfl
theorem lss_t {i k : Nat} (h : i < k) : binP false .lss (eI (i : Int)) (eI (k : Int)) = some (eB true) := by simp [h]
theorem lss_f {i k : Nat} (h : k ≤ i) : binP false .lss (eI (i : Int)) (eI (k : Int)) = some (eB false) := by rw [b_lss, decide_eq_false (by omega)]
theorem vs_len (l : List V) : lenP (eVs l) = some (eI l.length) := by simp [eVs]
theorem vs_ix {l : List V} {i : Nat} (hi : i < l.length) : ixP 4 (eVs l) (eI (i : Int)) = some l[i].cells := by simp [eVs, hi]
theorem v_at (v : V) : atP true 4 0 v.cells = some v.d := rfl
theorem v_agg (v : V) : aggP 4 v.d = true := rfl
theorem v_again (v : V) : (D.agg [celD v.d 0, celD v.d 1, celD v.d 2, celD v.d 3]) = v.d := rfl

theorem enc_Total_ok (n : Nat) (l : List V) (hg : Good l) (hn : l.length < n) : enc_Layout_TotalL n [layD l] = some (eI (total l)) := by
  have hlen := hg.ok.1
  have key : iterL (enc_Layout_Total_l3 n) n [eI 0, .sl 1 (layBits l), eI l.length, eI 0] = some (.inl [eI (total l)]) := by
    refine iterL_run (fun i => [eI (atSum l i), .sl 1 (layBits l), eI l.length, eI i]) l.length rfl ?_ ?_ hn
    · intro i hi
      have := hg.at hi
      have e : binP false .add (eI (atSum l i : Int)) (eI (bitsV l[i] : Int)) = some (eI (atSum l (i + 1) : Int)) := by
        rw [b_add (by omega) (by omega), atSum_succ hi]; rfl
      simp only [enc_Layout_Total_l3, pd_0, pd_s, lss_t hi, obind_s, oif_b, if_true, bits_ix hi, at_1, e, add1 (show i < 1000000000000 by omega)]
    · simp [enc_Layout_Total_l3, atSum_all]
  simp only [enc_Layout_TotalL, enc_Layout_Total, lay_agg, og_t, lay1, lenP_sl, layBits_length, obind_s, key, jnX_l, pd_0]
theorem ref37_Total_ok (n : Nat) (l : List V) (hg : Good l) (hn : l.length < n) : ref37_TotalL n [layD l] = some (eI (total l)) := by
  have hlen := hg.ok.1
  have key : iterL (ref37_Total_l3 n) n [eI 0, eI 0, eVs l, .sl 1 (layBits l), .sl 1 (layAt l l.length)] = some (.inl [eI (total l)]) := by
    refine iterL_run (fun i => [eI (atSum l i), eI i, eVs l, .sl 1 (layBits l), .sl 1 (layAt l l.length)]) l.length rfl ?_ ?_ hn
    · intro i hi
      have := hg.at hi
      have e : binP false .add (eI (atSum l i : Int)) (eI (bitsV l[i] : Int)) = some (eI (atSum l (i + 1) : Int)) := by
        rw [b_add (by omega) (by omega), atSum_succ hi]; rfl
      simp only [ref37_Total_l3, pd_0, pd_s, lenP_sl, layBits_length, lss_t hi, obind_s, oif_b, if_true, bits_ix hi, at_1, e, add1 (show i < 1000000000000 by omega)]
    · simp [ref37_Total_l3, atSum_all]
  simp only [ref37_TotalL, ref37_Total, lay_agg, og_t, lay0, lay1, lay2, obind_s, key, jnX_l, pd_0]

/-- A value within a variable's range. -/
def okAt (l : List V) (s : List Int) (i : Nat) : Prop := ∃ v x, l[i]? = some v ∧ s[i]? = some x ∧ lov v ≤ x ∧ x ≤ hiv v
instance (l : List V) (s : List Int) (i : Nat) : Decidable (okAt l s i) :=
  match hl : l[i]?, hs : s[i]? with
  | some v, some x => if h : lov v ≤ x ∧ x ≤ hiv v then .isTrue ⟨v, x, hl, hs, h⟩ else .isFalse (by rintro ⟨v', x', h1, h2, h3⟩; rw [hl] at h1; rw [hs] at h2; cases h1; cases h2; exact h h3)
  | none, _ => .isFalse (by rintro ⟨v', x', h1, h2, h3⟩; rw [hl] at h1; cases h1)
  | some _, none => .isFalse (by rintro ⟨v', x', h1, h2, h3⟩; rw [hs] at h2; cases h2)
/-- A state of these variables. -/
def isState (l : List V) (s : List Int) : Prop := s.length = l.length ∧ ∀ i : Nat, i < l.length → okAt l s i
def modD (l : List V) : D := .agg [eVs l, .val (.slice none 0 0), .val (.slice none 0 0), .val (.slice none 0 0), .val (.slice none 0 0), .val (.slice none 0 0), .val (.slice none 0 0), .val (.slice none 0 0)]
theorem is_ix {s : List Int} {i : Nat} (hi : i < s.length) : ixP 1 (eIs s) (eI (i : Int)) = some [eI s[i]] := by simp [eIs, hi]
theorem is_len (s : List Int) : lenP (eIs s) = some (eI s.length) := by simp [eIs]
theorem okAt_iff {l : List V} {s : List Int} {i : Nat} (hl : i < l.length) (hs : i < s.length) : okAt l s i ↔ lov l[i] ≤ s[i] ∧ s[i] ≤ hiv l[i] := by
  constructor
  · rintro ⟨v, x, h1, h2, h3⟩
    rw [List.getElem?_eq_getElem hl] at h1
    rw [List.getElem?_eq_getElem hs] at h2
    cases h1; cases h2; exact h3
  · intro h
    exact ⟨_, _, List.getElem?_eq_getElem hl, List.getElem?_eq_getElem hs, h⟩
theorem typing_Is_ok (n : Nat) (l : List V) (s : List Int) (hl : l.length < 1000000000000) (hn : l.length < n) [Decidable (isState l s)] : typing_IsL n [modD l, eIs s] = some (eB (decide (isState l s))) := by
  have m0 : celD (modD l) 0 = eVs l := rfl
  have m1 : aggP 8 (modD l) = true := rfl
  simp only [typing_IsL, typing_Is, m0, m1, og_t, is_len, vs_len, obind_s, b_neq, oif_b]
  by_cases hlen : s.length = l.length
  · have e1 : (((s.length : Nat) : Int) != ((l.length : Nat) : Int)) = false := by simp [hlen]
    simp only [e1, Bool.false_eq_true, if_false]
    have step : ∀ i, i < l.length → typing_Is_l4 n [eIs s, eVs l, eI l.length, eI i] = if okAt l s i then some (.inl [eIs s, eVs l, eI l.length, eI (i + 1 : Nat)]) else some (.inr (.inr (eB false))) := by
      intro i hi
      have hs : i < s.length := by omega
      have c1 : celD l[i].d 1 = eB l[i].bool := rfl
      have c2 : celD l[i].d 2 = eI l[i].lo := rfl
      have c3 : celD l[i].d 3 = eI l[i].hi := rfl
      have e2 : (if l[i].bool = true then (some (.inl [eIs s, eI i, eI 0, eI 1, eVs l, eI l.length, eI i]) : Option (List D ⊕ (List D ⊕ (List D ⊕ D)))) else some (.inl [eIs s, eI i, eI l[i].lo, eI l[i].hi, eVs l, eI l.length, eI i])) = some (.inl [eIs s, eI i, eI (lov l[i]), eI (hiv l[i]), eVs l, eI l.length, eI i]) := by
        simp only [lov, hiv]; cases l[i].bool <;> simp
      simp only [typing_Is_l4, pd_0, pd_s, lss_t hi, obind_s, oif_b, if_true, vs_ix hi, v_at, v_agg, og_t, c1, c2, c3, e2, jnX_l, is_ix hs, at_1, b_lss, b_gtr, add1 (show i < 1000000000000 by omega)]
      by_cases g1 : s[i] < lov l[i]
      · have : ¬ okAt l s i := by rw [okAt_iff hi hs]; omega
        simp [g1, this]
      · by_cases g2 : s[i] > hiv l[i]
        · have : ¬ okAt l s i := by rw [okAt_iff hi hs]; omega
          simp [g1, g2, this]
        · have : okAt l s i := by rw [okAt_iff hi hs]; omega
          simp [g1, g2, this]
    rcases first_or (fun i => ¬ okAt l s i) l.length with h | ⟨i, h1, h2, h3⟩
    · have hs : isState l s := ⟨hlen, fun i hi => by simpa using h i hi⟩
      have key : iterL (typing_Is_l4 n) n [eIs s, eVs l, eI l.length, eI 0] = some (.inl []) := by
        refine iterL_run (fun i => [eIs s, eVs l, eI l.length, eI i]) l.length rfl ?_ ?_ hn
        · intro i hi
          rw [step i hi, if_pos (hs.2 i hi)]
        · simp [typing_Is_l4]
      rw [key]; simp [hs]
    · have hs : ¬ isState l s := fun hs => h2 (hs.2 i h1)
      have key : iterL (typing_Is_l4 n) n [eIs s, eVs l, eI l.length, eI 0] = some (.inr (eB false)) := by
        refine iterL_run (fun i => [eIs s, eVs l, eI l.length, eI i]) i rfl ?_ ?_ (by omega)
        · intro j hj
          rw [step j (by omega), if_pos]
          have := h3 j hj; simpa using this
        · rw [step i h1, if_neg h2]
      rw [key]; simp [hs]
  · have e1 : (((s.length : Nat) : Int) != ((l.length : Nat) : Int)) = true := by simp; omega
    have hs : ¬ isState l s := fun hs => hlen hs.1
    simp [e1, hs]
end Go.Am
namespace Go.Am
set_option linter.unusedVariables false
set_option linter.unusedSimpArgs false

def bD (l : List Bool) : List (List D) := l.map fun b => [eB b]
def iD (l : List Int) : List (List D) := l.map fun b => [eI b]
@[simp] theorem bD_length (l : List Bool) : (bD l).length = l.length := by simp [bD]
@[simp] theorem iD_length (l : List Int) : (iD l).length = l.length := by simp [iD]
theorem bD_append (a b : List Bool) : bD (a ++ b) = bD a ++ bD b := by simp [bD]
theorem iD_append (a b : List Int) : iD (a ++ b) = iD a ++ iD b := by simp [iD]

/-! ### Code -/
def pieceC (l : List V) (s : List Int) (i : Nat) : List Bool := match l[i]?, s[i]? with
  | some v, some x => bitL (bitsV v) (x - lov v)
  | _, _ => []
def codeP (l : List V) (s : List Int) (n : Nat) : List Bool := (List.range n).flatMap (pieceC l s)
theorem codeP_succ (l : List V) (s : List Int) (n : Nat) : codeP l s (n + 1) = codeP l s n ++ pieceC l s n := by simp [codeP, List.range_succ]
theorem pieceC_at {l : List V} {s : List Int} {i : Nat} (hl : i < l.length) (hs : i < s.length) : pieceC l s i = bitL (bitsV l[i]) (s[i] - lov l[i]) := by
  simp [pieceC, hl, hs]
theorem codeP_length (l : List V) (s : List Int) (h : s.length = l.length) : ∀ n : Nat, n ≤ l.length → (codeP l s n).length = atSum l n
  | 0, _ => by simp [codeP, atSum]
  | n + 1, hn => by
    have := codeP_length l s h n (by omega)
    rw [codeP_succ, List.length_append, this, pieceC_at (by omega) (by omega), bitL_length, atSum_succ (by omega)]

theorem half_bits {m : Int} (h : 0 ≤ m) : binP false .rem (eI m) (eI 2) = some (eI (m % 2)) ∧ binP false .quo (eI m) (eI 2) = some (eI (m / 2)) ∨ m > 4611686018427387904 := by
  by_cases hm : m > 4611686018427387904
  · exact .inr hm
  · refine .inl ⟨?_, ?_⟩
    · rw [b_rem (by omega), Int.tmod_eq_emod_of_nonneg h]
    · rw [b_quo (by omega), Int.tdiv_eq_ediv_of_nonneg h, wrap64 _ (by omega) (by omega)]
theorem enc_Code_l8_ok (n : Nat) (x0 x2 x3 x4 x7 x8 x9 : D) (k : Nat) (hk : k ≤ 1000) : ∀ (r : Nat) (m : Int) (j n' : Nat) (acc : List Bool), j + r = k → 0 ≤ m → m < 1000000 → r < n' → acc.length + r ≤ 1000000000000 →
    iterL (enc_Layout_Code_l8 n) n' [x0, eI m, x2, x3, x4, eI k, eI j, x7, x8, x9, .sl 1 (bD acc)] = some (.inl [x0, x2, x3, x4, x7, x8, x9, .sl 1 (bD (acc ++ bitL r m))]) := by
  intro r
  induction r with
  | zero =>
    intro m j n' acc hj h0 h1 hn ha
    obtain ⟨n', rfl⟩ : ∃ q, n' = q + 1 := ⟨n' - 1, by omega⟩
    have : j = k := by omega
    subst this
    rw [iterL_s]
    simp [enc_Layout_Code_l8, bitL]
  | succ r ih =>
    intro m j n' acc hj h0 h1 hn ha
    obtain ⟨n', rfl⟩ : ∃ q, n' = q + 1 := ⟨n' - 1, by omega⟩
    rcases half_bits h0 with ⟨e1, e2⟩ | hbig
    · have r1 : roomP (acc.length + 1) 1 = true := roomP_ok (by omega) (by omega)
      have ih' := ih (m / 2) (j + 1) n' (acc ++ [m % 2 == 1]) (by omega) (by omega) (by omega) (by omega) (by simp; omega)
      rw [iterL_s]
      simp only [enc_Layout_Code_l8, pd_0, pd_s, lss_t (show j < k by omega), obind_s, oif_b, if_true, e1, e2, b_eql, oneP_B, og_t, esD_sl, bD_length, List.length_cons, List.length_nil, Nat.zero_add, r1, add1 (show j < 1000000000000 by omega)]
      simp only [true_or, decide_true, Nat.zero_lt_one, Bool.and_self, og_t]
      have e3 : bD acc ++ [[eB (m % 2 == 1)]] = bD (acc ++ [m % 2 == 1]) := by rw [bD_append]; rfl
      rw [e3]
      simp only [obind_s]
      rw [ih']
      simp [bitL]
    · omega
theorem ref37_Code_l12_ok (n : Nat) (x0 x4 x6 : D) (l : List V) (i : Nat) (hi : i < l.length) (hk : bitsV l[i] ≤ 1000) : ∀ (r : Nat) (m : Int) (j n' : Nat) (acc : List Bool), j + r = bitsV l[i] → 0 ≤ m → m < 1000000 → r < n' → acc.length + r ≤ 1000000000000 →
    iterL (ref37_Code_l12 n) n' [x0, eI i, eI m, eI j, x4, .sl 1 (layBits l), x6, .sl 1 (bD acc)] = some (.inl [x0, eI i, x4, .sl 1 (layBits l), x6, .sl 1 (bD (acc ++ bitL r m))]) := by
  intro r
  induction r with
  | zero =>
    intro m j n' acc hj h0 h1 hn ha
    obtain ⟨n', rfl⟩ : ∃ q, n' = q + 1 := ⟨n' - 1, by omega⟩
    rw [iterL_s]
    simp only [ref37_Code_l12, pd_0, pd_s, bits_ix hi, obind_s, at_1, lss_f (show bitsV l[i] ≤ j by omega), oif_b, Bool.false_eq_true, if_false, inrX_s, bitL, List.append_nil, esD_sl]
  | succ r ih =>
    intro m j n' acc hj h0 h1 hn ha
    obtain ⟨n', rfl⟩ : ∃ q, n' = q + 1 := ⟨n' - 1, by omega⟩
    rcases half_bits h0 with ⟨e1, e2⟩ | hbig
    · have r1 : roomP (acc.length + 1) 1 = true := roomP_ok (by omega) (by omega)
      have ih' := ih (m / 2) (j + 1) n' (acc ++ [m % 2 == 1]) (by omega) (by omega) (by omega) (by omega) (by simp; omega)
      rw [iterL_s]
      simp only [ref37_Code_l12, pd_0, pd_s, bits_ix hi, at_1, lss_t (show j < bitsV l[i] by omega), obind_s, oif_b, if_true, e1, e2, b_eql, oneP_B, og_t, esD_sl, bD_length, List.length_cons, List.length_nil, Nat.zero_add, r1, add1 (show j < 1000000000000 by omega)]
      simp only [true_or, decide_true, Nat.zero_lt_one, Bool.and_self, og_t]
      have e3 : bD acc ++ [[eB (m % 2 == 1)]] = bD (acc ++ [m % 2 == 1]) := by rw [bD_append]; rfl
      rw [e3]
      simp only [obind_s]
      rw [ih']
      simp [bitL]
    · omega
def nilSl : D := .val (.slice none 0 0)
open Classical in
/-- The code of a state, as both texts give it. -/
noncomputable def codeD (l : List V) (s : List Int) : D := if isState l s then .tup [.sl 1 (bD (codeP l s l.length)), eI 0] else .tup [nilSl, eI 21]
theorem Good.small {l : List V} (h : Good l) {i : Nat} (hi : i < l.length) {s : List Int} (hs : i < s.length) (ho : okAt l s i) : 0 ≤ s[i] - lov l[i] ∧ s[i] - lov l[i] < 1000000 ∧ -1000 ≤ lov l[i] ∧ s[i] ≤ 1000 ∧ -1000 ≤ s[i] := by
  have hv := h.vg hi
  rw [okAt_iff hi hs] at ho
  have := hv.lo; have := hv.hi
  omega

theorem enc_Code_ok (n : Nat) (l : List V) (s : List Int) (hg : Good l) (hn : l.length + 100 < n) : enc_Layout_CodeL n [layD l, eIs s] = some (codeD l s) := by
  have hlen := hg.ok.1
  haveI := Classical.propDecidable (isState l s)
  have hI := typing_Is_ok n l s hg.ok.1 (by omega)
  have hm : (D.agg [eVs l, D.val (Value.slice none 0 0), D.val (Value.slice none 0 0), D.val (Value.slice none 0 0), D.val (Value.slice none 0 0), D.val (Value.slice none 0 0), D.val (Value.slice none 0 0), D.val (Value.slice none 0 0)]) = modD l := rfl
  simp only [enc_Layout_CodeL, enc_Layout_Code, lay_agg, og_t, lay0, lay1, lay2, one_VsD, hm, hI, obind_s, u_not, oif_b]
  by_cases hs : isState l s
  · have key : iterL (enc_Layout_Code_l4 n) n [eIs s, eVs l, eI l.length, eI 0, eVs l, .sl 1 (layBits l), .sl 1 (layAt l l.length), .sl 1 []] = some (.inl [.sl 1 (bD (codeP l s l.length))]) := by
      refine iterL_run (fun i => [eIs s, eVs l, eI l.length, eI i, eVs l, .sl 1 (layBits l), .sl 1 (layAt l l.length), .sl 1 (bD (codeP l s i))]) l.length rfl ?_ ?_ (by omega)
      · intro i hi
        have his : i < s.length := by rw [hs.1]; exact hi
        obtain ⟨q1, q2, q3, q4, q5⟩ := hg.small hi his (hs.2 i hi)
        have hb := hg.short hi
        have ht := hg.at hi
        have hcl := codeP_length l s hs.1 i (by omega)
        have inner := enc_Code_l8_ok n (eIs s) (eVs l) (eI l.length) (eI i) (eVs l) (.sl 1 (layBits l)) (.sl 1 (layAt l l.length)) (bitsV l[i]) (by omega) (bitsV l[i]) (s[i] - lov l[i]) 0 n (codeP l s i) (by omega) q1 q2 (by omega) (by omega)
        have e0 : (eI ((0 : Nat) : Int)) = eI 0 := rfl
        rw [e0] at inner
        have hsub : binP false .sub (eI s[i]) (eI (lov l[i])) = some (eI (s[i] - lov l[i])) := by rw [b_sub (by omega) (by omega)]
        simp only [enc_Layout_Code_l4, pd_0, pd_s, lss_t hi, obind_s, oif_b, if_true, vs_ix hi, v_at, v_agg, og_t, is_ix his, at_1, v_again, enc_lo_ok, hsub, bits_ix hi, esD_sl, inner, jnX_l, add1 (show i < 1000000000000 by omega)]
        rw [codeP_succ, pieceC_at hi his]
      · simp [enc_Layout_Code_l4]
    have e1 : (!decide (isState l s)) = false := by simp [hs]
    simp only [e1, Bool.false_eq_true, if_false, vs_len, obind_s, nilP_nil, og_t, key, jnX_l, pd_0, esD_sl]
    rw [codeD, if_pos hs]
  · have e1 : (!decide (isState l s)) = true := by simp [hs]
    simp only [e1, if_true]
    rw [codeD, if_neg hs]
    rfl
theorem ref37_Code_ok (n : Nat) (l : List V) (s : List Int) (hg : Good l) (hn : l.length + 100 < n) : ref37_CodeL n [layD l, eIs s] = some (codeD l s) := by
  have hlen := hg.ok.1
  haveI := Classical.propDecidable (isState l s)
  simp only [ref37_CodeL, ref37_Code, lay_agg, og_t, lay0, lay1, lay2, is_len, vs_len, obind_s, b_neq, oif_b]
  by_cases hle : s.length = l.length
  · have e1 : (((s.length : Nat) : Int) != ((l.length : Nat) : Int)) = false := by simp [hle]
    simp only [e1, Bool.false_eq_true, if_false, nilP_nil, og_t]
    have good : ∀ i, i < l.length → okAt l s i → ref37_Code_l5 n [eIs s, eI i, eVs l, .sl 1 (layBits l), .sl 1 (layAt l l.length), .sl 1 (bD (codeP l s i))] = some (.inl [eIs s, eI (i + 1 : Nat), eVs l, .sl 1 (layBits l), .sl 1 (layAt l l.length), .sl 1 (bD (codeP l s (i + 1)))]) := by
      intro i hi ho
      have his : i < s.length := by omega
      obtain ⟨q1, q2, q3, q4, q5⟩ := hg.small hi his ho
      have hb := hg.short hi
      have ht := hg.at hi
      have hcl := codeP_length l s hle i (by omega)
      have inner := ref37_Code_l12_ok n (eIs s) (eVs l) (.sl 1 (layAt l l.length)) l i hi (by omega) (bitsV l[i]) (s[i] - lov l[i]) 0 n (codeP l s i) (by omega) q1 q2 (by omega) (by omega)
      have e0 : (eI ((0 : Nat) : Int)) = eI 0 := rfl
      rw [e0] at inner
      have hsub : binP false .sub (eI s[i]) (eI (lov l[i])) = some (eI (s[i] - lov l[i])) := by rw [b_sub (by omega) (by omega)]
      have ho' := (okAt_iff hi his).1 ho
      have g1 : decide (s[i] < lov l[i]) = false := by simp; omega
      have g2 : decide (s[i] > hiv l[i]) = false := by simp; omega
      simp only [ref37_Code_l5, pd_0, pd_s, is_len, lss_t his, obind_s, oif_b, if_true, vs_ix hi, v_at, ref37_ends_ok, extP_tup, List.getElem?_cons_zero, List.getElem?_cons_succ, is_ix his, at_1, b_lss, b_gtr, g1, g2, gD_b, pick_b, Bool.false_eq_true, if_false, hsub, esD_sl, inner, jnX_l, add1 (show i < 1000000000000 by omega)]
      rw [codeP_succ, pieceC_at hi his]
    have bad : ∀ i, i < l.length → ¬ okAt l s i → ∀ acc, ref37_Code_l5 n [eIs s, eI i, eVs l, .sl 1 (layBits l), .sl 1 (layAt l l.length), acc] = some (.inr (.inr (.tup [nilSl, eI 21]))) := by
      intro i hi ho acc
      have his : i < s.length := by omega
      rw [okAt_iff hi his] at ho
      simp only [ref37_Code_l5, pd_0, pd_s, is_len, lss_t his, obind_s, oif_b, if_true, vs_ix hi, v_at, ref37_ends_ok, extP_tup, List.getElem?_cons_zero, List.getElem?_cons_succ, is_ix his, at_1, b_lss, b_gtr]
      by_cases g1 : s[i] < lov l[i]
      · simp [g1, nilSl]
      · have g2 : s[i] > hiv l[i] := by omega
        simp [g1, g2, nilSl]
    rcases first_or (fun i => ¬ okAt l s i) l.length with h | ⟨i, h1, h2, h3⟩
    · have hs : isState l s := ⟨hle, fun i hi => by simpa using h i hi⟩
      have key : iterL (ref37_Code_l5 n) n [eIs s, eI 0, eVs l, .sl 1 (layBits l), .sl 1 (layAt l l.length), .sl 1 []] = some (.inl [.sl 1 (bD (codeP l s l.length))]) := by
        refine iterL_run (fun i => [eIs s, eI i, eVs l, .sl 1 (layBits l), .sl 1 (layAt l l.length), .sl 1 (bD (codeP l s i))]) l.length rfl ?_ ?_ (by omega)
        · exact fun i hi => good i hi (hs.2 i hi)
        · simp [ref37_Code_l5, is_len, hle]
      simp only [key, obind_s, jnX_l, pd_0, esD_sl]
      rw [codeD, if_pos hs]
    · have hs : ¬ isState l s := fun hs => h2 (hs.2 i h1)
      have key : iterL (ref37_Code_l5 n) n [eIs s, eI 0, eVs l, .sl 1 (layBits l), .sl 1 (layAt l l.length), .sl 1 []] = some (.inr (.tup [nilSl, eI 21])) := by
        refine iterL_run (fun i => [eIs s, eI i, eVs l, .sl 1 (layBits l), .sl 1 (layAt l l.length), .sl 1 (bD (codeP l s i))]) i rfl ?_ ?_ (by omega)
        · intro j hj
          have := h3 j hj
          exact good j (by omega) (by simpa using this)
        · exact bad i h1 h2 _
      simp only [key, obind_s, jnX_r]
      rw [codeD, if_neg hs]
  · have e1 : (((s.length : Nat) : Int) != ((l.length : Nat) : Int)) = true := by simp; omega
    have hs : ¬ isState l s := fun hs => hle hs.1
    simp only [e1, if_true]
    rw [codeD, if_neg hs]
    rfl
end Go.Am
namespace Go.Am
set_option linter.unusedVariables false
set_option linter.unusedSimpArgs false

/-! ### State -/
def chunk (B : List Bool) (a k : Nat) : List Bool := (B.drop a).take k
theorem chunk_length {B : List Bool} {a k : Nat} (h : a + k ≤ B.length) : (chunk B a k).length = k := by simp [chunk]; omega
theorem chunk_at {B : List Bool} {a k j : Nat} (h : a + k ≤ B.length) (hj : j < k) : (chunk B a k)[j]? = B[a + j]? := by
  simp [chunk, List.getElem?_take, hj]
theorem chunk_succ {B : List Bool} {a j : Nat} (h : a + j < B.length) : chunk B a (j + 1) = chunk B a j ++ [B[a + j]] := by
  simp only [chunk]
  rw [List.take_add_one, List.getElem?_drop, List.getElem?_eq_getElem h]
  rfl
theorem chunk_drop {B : List Bool} {a k j : Nat} (h : a + k ≤ B.length) (hj : j < k) : (chunk B a k).drop j = B[a + j]'(by omega) :: (chunk B a k).drop (j + 1) := by
  have hl := chunk_length h
  rw [List.drop_eq_getElem_cons (by omega)]
  congr 1
  have := chunk_at h hj
  rw [List.getElem?_eq_getElem (by omega), List.getElem?_eq_getElem (by omega)] at this
  exact Option.some.inj this
theorem val_small {l : List Bool} (h : l.length ≤ 40) : 0 ≤ valL l ∧ valL l < 1099511627776 := by
  have h1 := valL_nonneg l
  have h2 := valL_lt l
  have h3 : (2 : Int) ^ l.length ≤ 2 ^ 40 := by
    have := Nat.pow_le_pow_right (show 0 < 2 by omega) h
    have e1 : ((2 ^ l.length : Nat) : Int) = 2 ^ l.length := by simp
    have e2 : ((2 ^ 40 : Nat) : Int) = 2 ^ 40 := by simp
    omega
  have h4 : (2 : Int) ^ 40 = 1099511627776 := by decide
  omega
theorem b_ix {B : List Bool} {i : Nat} (h : i < B.length) : ixP 1 (eBs B) (eI (i : Int)) = some [eB B[i]] := by simp [eBs, h]
theorem b_len (B : List Bool) : lenP (eBs B) = some (eI B.length) := by simp [eBs]

theorem enc_State_l8_ok (n : Nat) (B : List Bool) (l : List V) (i : Nat) (hi : i < l.length) (x3 x4 x5 x8 x9 x12 x13 x14 x15 : D) (acc : List (List D)) (k : Nat) (hk : k ≤ 40) (ha : atSum l i + k ≤ B.length) (hB : B.length ≤ 1000000) : ∀ (r j n' : Nat), j + r = k → r < n' →
    iterL (enc_Layout_State_l8 n) n' [eBs B, eI i, eI (valL (chunk B (atSum l i) j)), x3, x4, x5, eI k, eI j, x8, x9, .sl 1 (layAt l l.length), .sl 1 acc, x12, x13, x14, x15] =
      some (.inl [eBs B, eI (valL (chunk B (atSum l i) k)), x3, x4, x5, x8, x9, .sl 1 (layAt l l.length), .sl 1 acc, x12, x13, x14, x15]) := by
  intro r
  induction r with
  | zero =>
    intro j n' hj hn
    obtain ⟨n', rfl⟩ : ∃ q, n' = q + 1 := ⟨n' - 1, by omega⟩
    have : j = k := by omega
    subst this
    rw [iterL_s]
    simp only [enc_Layout_State_l8, pd_0, pd_s, lss_f (Nat.le_refl j), obind_s, oif_b, Bool.false_eq_true, if_false, inrX_s, esD_sl]
  | succ r ih =>
    intro j n' hj hn
    obtain ⟨n', rfl⟩ : ∃ q, n' = q + 1 := ⟨n' - 1, by omega⟩
    have hlt : atSum l i + j < B.length := by omega
    have ih' := ih (j + 1) n' (by omega) (by omega)
    have e1 : binP false .add (eI (atSum l i : Int)) (eI (j : Int)) = some (eI ((atSum l i + j : Nat) : Int)) := by
      rw [b_add (by omega) (by omega)]; congr 2
    have hv := val_small (l := chunk B (atSum l i) j) (by simp [chunk]; omega)
    have hp := pow62 (show j ≤ 62 by omega)
    have hcl : (chunk B (atSum l i) j).length = j := chunk_length (by omega)
    have e2 : valL (chunk B (atSum l i) (j + 1)) = valL (chunk B (atSum l i) j) + (if B[atSum l i + j] then 2 ^ j else 0) := by
      rw [chunk_succ hlt, valL_append, hcl]
    have hp2 : (2 : Int) ^ j ≤ 1099511627776 := by
      have := Nat.pow_le_pow_right (show 0 < 2 by omega) (show j ≤ 40 by omega)
      have q1 : ((2 ^ j : Nat) : Int) = 2 ^ j := by simp
      have q2 : ((2 ^ 40 : Nat) : Int) = 1099511627776 := by decide
      omega
    have e3 : binP false .add (eI (valL (chunk B (atSum l i) j))) (eI ((2 : Int) ^ j)) = some (eI (valL (chunk B (atSum l i) j) + 2 ^ j)) := by
      rw [b_add (by omega) (by omega)]
    rw [iterL_s]
    simp only [enc_Layout_State_l8, pd_0, pd_s, lss_t (show j < k by omega), obind_s, oif_b, if_true, at_ix hi, at_1, e1, b_ix hlt, shl_one (show j ≤ 62 by omega), e3, esD_sl, add1 (show j < 1000000000000 by omega)]
    rw [e2] at ih'
    cases hb : B[atSum l i + j] with
    | true =>
      rw [hb] at ih'
      simp only [if_true, obind_s, jnX_l, pd_0, pd_s, esD_sl, add1 (show j < 1000000000000 by omega)] at ih' ⊢
      exact ih'
    | false =>
      rw [hb] at ih'
      simp only [Bool.false_eq_true, if_false, obind_s, jnX_l, pd_0, pd_s, esD_sl, Int.add_zero, add1 (show j < 1000000000000 by omega)] at ih' ⊢
      exact ih'
theorem ref37_State_l10_ok (n : Nat) (B : List Bool) (l : List V) (i : Nat) (hi : i < l.length) (x2 x3 x6 x7 : D) (acc : List (List D)) (k : Nat) (hk : k ≤ 40) (ha : atSum l i + k ≤ B.length) (hB : B.length ≤ 1000000) : ∀ (j n' : Nat), j ≤ k → j < n' →
    iterL (ref37_State_l10 n) n' [eBs B, eI i, x2, x3, eI (valL ((chunk B (atSum l i) k).drop j)), eI ((j : Int) - 1), x6, x7, .sl 1 (layAt l l.length), .sl 1 acc] =
      some (.inl [eBs B, eI i, x2, x3, eI (valL (chunk B (atSum l i) k)), x6, x7, .sl 1 (layAt l l.length), .sl 1 acc]) := by
  intro j
  induction j with
  | zero =>
    intro n' hj hn
    obtain ⟨n', rfl⟩ : ∃ q, n' = q + 1 := ⟨n' - 1, by omega⟩
    rw [iterL_s]
    simp [ref37_State_l10]
  | succ j ih =>
    intro n' hj hn
    obtain ⟨n', rfl⟩ : ∃ q, n' = q + 1 := ⟨n' - 1, by omega⟩
    have hlt : atSum l i + j < B.length := by omega
    have ih' := ih n' (by omega) (by omega)
    have e0 : (((j + 1 : Nat) : Int) - 1) = (j : Int) := by omega
    have e1 : binP false .add (eI (atSum l i : Int)) (eI (j : Int)) = some (eI ((atSum l i + j : Nat) : Int)) := by
      rw [b_add (by omega) (by omega)]; congr 2
    have hv := val_small (l := (chunk B (atSum l i) k).drop (j + 1)) (by simp [chunk]; omega)
    have e2 : valL ((chunk B (atSum l i) k).drop j) = (if B[atSum l i + j] then 1 else 0) + 2 * valL ((chunk B (atSum l i) k).drop (j + 1)) := by
      rw [chunk_drop ha (by omega)]; rfl
    have e3 : binP false .mul (eI 2) (eI (valL ((chunk B (atSum l i) k).drop (j + 1)))) = some (eI (2 * valL ((chunk B (atSum l i) k).drop (j + 1)))) := by
      rw [b_mul (by omega) (by omega)]
    have e4 : binP false .add (eI (2 * valL ((chunk B (atSum l i) k).drop (j + 1)))) (eI 1) = some (eI (2 * valL ((chunk B (atSum l i) k).drop (j + 1)) + 1)) := by
      rw [b_add (by omega) (by omega)]
    have e5 : binP false .geq (eI (j : Int)) (eI 0) = some (eB true) := by simp
    have e6 : binP false .sub (eI (j : Int)) (eI 1) = some (eI ((j : Int) - 1)) := by rw [b_sub (by omega) (by omega)]
    rw [iterL_s, e0]
    simp only [ref37_State_l10, pd_0, pd_s, e5, obind_s, oif_b, if_true, at_ix hi, at_1, e1, b_ix hlt, e3, e4, esD_sl]
    rw [e2] at ih'
    cases hb : B[atSum l i + j] with
    | true =>
      rw [hb] at ih'
      simp only [if_true, obind_s, jnX_l, pd_0, pd_s, esD_sl, e6] at ih' ⊢
      rw [Int.add_comm]  at ih'
      exact ih'
    | false =>
      rw [hb] at ih'
      simp only [Bool.false_eq_true, if_false, obind_s, jnX_l, pd_0, pd_s, esD_sl, Int.zero_add, e6] at ih' ⊢
      exact ih'

def stAt (l : List V) (B : List Bool) (i : Nat) : Int := match l[i]? with
  | some v => lov v + valL (chunk B (atSum l i) (bitsV v))
  | none => 0
def stateP (l : List V) (B : List Bool) (n : Nat) : List Int := (List.range n).map (stAt l B)
theorem stateP_succ (l : List V) (B : List Bool) (n : Nat) : stateP l B (n + 1) = stateP l B n ++ [stAt l B n] := by simp [stateP, List.range_succ]
@[simp] theorem stateP_length (l : List V) (B : List Bool) (n : Nat) : (stateP l B n).length = n := by simp [stateP]
def fitsAt (l : List V) (B : List Bool) (i : Nat) : Prop := ∃ v, l[i]? = some v ∧ valL (chunk B (atSum l i) (bitsV v)) ≤ hiv v - lov v
theorem fitsAt_iff {l : List V} {B : List Bool} {i : Nat} (hi : i < l.length) : fitsAt l B i ↔ valL (chunk B (atSum l i) (bitsV l[i])) ≤ hiv l[i] - lov l[i] := by
  constructor
  · rintro ⟨v, h1, h2⟩
    rw [List.getElem?_eq_getElem hi] at h1; cases h1; exact h2
  · exact fun h => ⟨_, List.getElem?_eq_getElem hi, h⟩
def isCode (l : List V) (B : List Bool) : Prop := ∀ i : Nat, i < l.length → fitsAt l B i
open Classical in
noncomputable def stateD (l : List V) (B : List Bool) : D := if B.length = total l then (if isCode l B then .tup [.sl 1 (iD (stateP l B l.length)), eI 0] else .tup [nilSl, eI 21]) else .tup [nilSl, eI 3]

theorem enc_State_ok (n : Nat) (l : List V) (B : List Bool) (hg : Good l) (hn : l.length + 100 < n) (hB : B.length ≤ 1000000) : enc_Layout_StateL n [layD l, eBs B] = some (stateD l B) := by
  have hlen := hg.ok.1
  have hT : enc_Layout_TotalL n [.agg [eVs l, .sl 1 (layBits l), .sl 1 (layAt l l.length)]] = some (eI (total l)) := enc_Total_ok n l hg (by omega)
  simp only [enc_Layout_StateL, enc_Layout_State, lay_agg, og_t, lay_again, lay0, lay1, lay2, b_len, hT, obind_s, b_neq, oif_b, vs_len]
  by_cases hle : B.length = total l
  · have e1 : (((B.length : Nat) : Int) != ((total l : Nat) : Int)) = false := by simp [hle]
    simp only [e1, Bool.false_eq_true, if_false, nilP_nil, og_t]
    have common : ∀ i (hi : i < l.length), -255 ≤ lov l[i] ∧ lov l[i] ≤ 255 ∧ 0 ≤ valL (chunk B (atSum l i) (bitsV l[i])) ∧ valL (chunk B (atSum l i) (bitsV l[i])) < 1099511627776 ∧ bitsV l[i] ≤ 40 ∧ atSum l i + bitsV l[i] ≤ B.length := by
      intro i hi
      have hv := hg.vg hi
      have ht := hg.at hi
      have := hv.le; have := hv.lo; have := hv.hi
      have h5 := val_small (l := chunk B (atSum l i) (bitsV l[i])) (by simp [chunk]; omega)
      omega
    have good : ∀ i, i < l.length → fitsAt l B i → enc_Layout_State_l4 n [eBs B, eVs l, eI l.length, eI i, eVs l, .sl 1 (layBits l), .sl 1 (layAt l l.length), .sl 1 (iD (stateP l B i))] = some (.inl [eBs B, eVs l, eI l.length, eI (i + 1 : Nat), eVs l, .sl 1 (layBits l), .sl 1 (layAt l l.length), .sl 1 (iD (stateP l B (i + 1)))]) := by
      intro i hi ho
      obtain ⟨q1, q2, q3, q4, q5, q6⟩ := common i hi
      have inner := enc_State_l8_ok n B l i hi (eVs l) (eI l.length) (eI i) (eVs l) (.sl 1 (layBits l)) (celD l[i].d 0) (celD l[i].d 1) (celD l[i].d 2) (celD l[i].d 3) (iD (stateP l B i)) (bitsV l[i]) q5 q6 hB (bitsV l[i]) 0 n (by omega) (by omega)
      have e0 : (eI ((0 : Nat) : Int)) = eI 0 := rfl
      have e00 : valL (chunk B (atSum l i) 0) = 0 := by simp [chunk, valL]
      rw [e0, e00] at inner
      have hs := typing_Span_ok n l[i] (hg.ok.2 _ (List.getElem_mem hi)).1 (hg.ok.2 _ (List.getElem_mem hi)).2.1
      rw [fitsAt_iff hi] at ho
      have hge : decide (valL (chunk B (atSum l i) (bitsV l[i])) ≥ l[i].span) = false := by have := (hg.vg hi).span; simp; omega
      have r1 : roomP (i + 1) 8 = true := roomP_ok (by omega) (by omega)
      have e5 : binP false .add (eI (lov l[i])) (eI (valL (chunk B (atSum l i) (bitsV l[i])))) = some (eI (stAt l B i)) := by
        rw [b_add (by omega) (by omega)]; simp [stAt, hi]
      simp only [enc_Layout_State_l4, pd_0, pd_s, lss_t hi, obind_s, oif_b, if_true, vs_ix hi, v_at, v_agg, og_t, bits_ix hi, at_1, esD_sl, inner, jnX_l, v_again, hs, b_geq, hge, Bool.false_eq_true, if_false, enc_lo_ok, e5, oneP_I, iD_length, stateP_length, List.length_cons, List.length_nil, Nat.zero_add, r1, add1 (show i < 1000000000000 by omega)]
      simp only [true_or, decide_true, Nat.zero_lt_one, Bool.and_self, og_t, obind_s, jnX_l, pd_0, pd_s, esD_sl, add1 (show i < 1000000000000 by omega)]
      rw [stateP_succ, iD_append]
      rfl
    have bad : ∀ i, i < l.length → ¬ fitsAt l B i → enc_Layout_State_l4 n [eBs B, eVs l, eI l.length, eI i, eVs l, .sl 1 (layBits l), .sl 1 (layAt l l.length), .sl 1 (iD (stateP l B i))] = some (.inr (.inr (.tup [nilSl, eI 21]))) := by
      intro i hi ho
      obtain ⟨q1, q2, q3, q4, q5, q6⟩ := common i hi
      have inner := enc_State_l8_ok n B l i hi (eVs l) (eI l.length) (eI i) (eVs l) (.sl 1 (layBits l)) (celD l[i].d 0) (celD l[i].d 1) (celD l[i].d 2) (celD l[i].d 3) (iD (stateP l B i)) (bitsV l[i]) q5 q6 hB (bitsV l[i]) 0 n (by omega) (by omega)
      have e0 : (eI ((0 : Nat) : Int)) = eI 0 := rfl
      have e00 : valL (chunk B (atSum l i) 0) = 0 := by simp [chunk, valL]
      rw [e0, e00] at inner
      have hs := typing_Span_ok n l[i] (hg.ok.2 _ (List.getElem_mem hi)).1 (hg.ok.2 _ (List.getElem_mem hi)).2.1
      rw [fitsAt_iff hi] at ho
      have hge : decide (valL (chunk B (atSum l i) (bitsV l[i])) ≥ l[i].span) = true := by have := (hg.vg hi).span; simp; omega
      simp only [enc_Layout_State_l4, pd_0, pd_s, lss_t hi, obind_s, oif_b, if_true, vs_ix hi, v_at, v_agg, og_t, bits_ix hi, at_1, esD_sl, inner, jnX_l, v_again, hs, b_geq, hge]
      rfl
    haveI : DecidablePred (fun i => ¬ fitsAt l B i) := fun _ => Classical.propDecidable _
    rcases first_or (fun i => ¬ fitsAt l B i) l.length with h | ⟨i, h1, h2, h3⟩
    · have hs : isCode l B := fun i hi => by simpa using h i hi
      have key : iterL (enc_Layout_State_l4 n) n [eBs B, eVs l, eI l.length, eI 0, eVs l, .sl 1 (layBits l), .sl 1 (layAt l l.length), .sl 1 []] = some (.inl [.sl 1 (iD (stateP l B l.length))]) := by
        refine iterL_run (fun i => [eBs B, eVs l, eI l.length, eI i, eVs l, .sl 1 (layBits l), .sl 1 (layAt l l.length), .sl 1 (iD (stateP l B i))]) l.length rfl ?_ ?_ (by omega)
        · exact fun i hi => good i hi (hs i hi)
        · simp [enc_Layout_State_l4]
      simp only [key, obind_s, jnX_l, pd_0, esD_sl]
      rw [stateD, if_pos hle, if_pos hs]
    · have hs : ¬ isCode l B := fun hs => h2 (hs i h1)
      have key : iterL (enc_Layout_State_l4 n) n [eBs B, eVs l, eI l.length, eI 0, eVs l, .sl 1 (layBits l), .sl 1 (layAt l l.length), .sl 1 []] = some (.inr (.tup [nilSl, eI 21])) := by
        refine iterL_run (fun i => [eBs B, eVs l, eI l.length, eI i, eVs l, .sl 1 (layBits l), .sl 1 (layAt l l.length), .sl 1 (iD (stateP l B i))]) i rfl ?_ ?_ (by omega)
        · intro j hj
          have := h3 j hj
          exact good j (by omega) (by simpa using this)
        · exact bad i h1 h2
      simp only [key, obind_s, jnX_r]
      rw [stateD, if_pos hle, if_neg hs]
  · have e1 : (((B.length : Nat) : Int) != ((total l : Nat) : Int)) = true := by simp; omega
    simp only [e1, if_true]
    rw [stateD, if_neg hle]
    rfl
theorem ref37_State_ok (n : Nat) (l : List V) (B : List Bool) (hg : Good l) (hn : l.length + 100 < n) (hB : B.length ≤ 1000000) : ref37_StateL n [layD l, eBs B] = some (stateD l B) := by
  have hlen := hg.ok.1
  have hT : ref37_TotalL n [.agg [eVs l, .sl 1 (layBits l), .sl 1 (layAt l l.length)]] = some (eI (total l)) := ref37_Total_ok n l hg (by omega)
  simp only [ref37_StateL, ref37_State, lay_agg, og_t, lay_again, lay0, lay1, lay2, b_len, hT, obind_s, b_neq, oif_b, vs_len]
  by_cases hle : B.length = total l
  · have e1 : (((B.length : Nat) : Int) != ((total l : Nat) : Int)) = false := by simp [hle]
    simp only [e1, Bool.false_eq_true, if_false, nilP_nil, og_t]
    have common : ∀ i (hi : i < l.length), -255 ≤ lov l[i] ∧ lov l[i] ≤ 255 ∧ -255 ≤ hiv l[i] ∧ hiv l[i] ≤ 255 ∧ 0 ≤ valL (chunk B (atSum l i) (bitsV l[i])) ∧ valL (chunk B (atSum l i) (bitsV l[i])) < 1099511627776 ∧ bitsV l[i] ≤ 40 ∧ atSum l i + bitsV l[i] ≤ B.length := by
      intro i hi
      have hv := hg.vg hi
      have ht := hg.at hi
      have := hv.le; have := hv.lo; have := hv.hi
      have h5 := val_small (l := chunk B (atSum l i) (bitsV l[i])) (by simp [chunk]; omega)
      omega
    have inn : ∀ i (hi : i < l.length), iterL (ref37_State_l10 n) n [eBs B, eI i, eI (lov l[i]), eI (hiv l[i]), eI 0, eI ((bitsV l[i] : Int) - 1), eVs l, .sl 1 (layBits l), .sl 1 (layAt l l.length), .sl 1 (iD (stateP l B i))] =
        some (.inl [eBs B, eI i, eI (lov l[i]), eI (hiv l[i]), eI (valL (chunk B (atSum l i) (bitsV l[i]))), eVs l, .sl 1 (layBits l), .sl 1 (layAt l l.length), .sl 1 (iD (stateP l B i))]) := by
      intro i hi
      obtain ⟨q1, q2, q3, q4, q5, q6, q7, q8⟩ := common i hi
      have inner := ref37_State_l10_ok n B l i hi (eI (lov l[i])) (eI (hiv l[i])) (eVs l) (.sl 1 (layBits l)) (iD (stateP l B i)) (bitsV l[i]) q7 q8 hB (bitsV l[i]) n (Nat.le_refl _) (by omega)
      have e00 : valL ((chunk B (atSum l i) (bitsV l[i])).drop (bitsV l[i])) = 0 := by
        rw [List.drop_of_length_le (by rw [chunk_length q8]; exact Nat.le_refl _)]; rfl
      rw [e00] at inner
      exact inner
    have sub1 : ∀ k : Nat, k ≤ 40 → binP false .sub (eI (k : Int)) (eI 1) = some (eI ((k : Int) - 1)) := by intro k hk; rw [b_sub (by omega) (by omega)]
    have good : ∀ i, i < l.length → fitsAt l B i → ref37_State_l5 n [eBs B, eI i, eVs l, .sl 1 (layBits l), .sl 1 (layAt l l.length), .sl 1 (iD (stateP l B i))] = some (.inl [eBs B, eI (i + 1 : Nat), eVs l, .sl 1 (layBits l), .sl 1 (layAt l l.length), .sl 1 (iD (stateP l B (i + 1)))]) := by
      intro i hi ho
      obtain ⟨q1, q2, q3, q4, q5, q6, q7, q8⟩ := common i hi
      rw [fitsAt_iff hi] at ho
      have hgt : decide (valL (chunk B (atSum l i) (bitsV l[i])) > hiv l[i] - lov l[i]) = false := by simp; omega
      have r1 : roomP (i + 1) 8 = true := roomP_ok (by omega) (by omega)
      have e4 : binP false .sub (eI (hiv l[i])) (eI (lov l[i])) = some (eI (hiv l[i] - lov l[i])) := by rw [b_sub (by omega) (by omega)]
      have e5 : binP false .add (eI (lov l[i])) (eI (valL (chunk B (atSum l i) (bitsV l[i])))) = some (eI (stAt l B i)) := by
        rw [b_add (by omega) (by omega)]; simp [stAt, hi]
      simp only [ref37_State_l5, pd_0, pd_s, vs_len, lss_t hi, obind_s, oif_b, if_true, vs_ix hi, v_at, ref37_ends_ok, extP_tup, List.getElem?_cons_zero, List.getElem?_cons_succ, bits_ix hi, at_1, sub1 _ q7, esD_sl, inn i hi, jnX_l, e4, b_gtr, hgt, Bool.false_eq_true, if_false, e5, oneP_I, og_t, iD_length, stateP_length, List.length_cons, List.length_nil, Nat.zero_add, r1, add1 (show i < 1000000000000 by omega)]
      simp only [true_or, decide_true, Nat.zero_lt_one, Bool.and_self, og_t, obind_s, jnX_l, pd_0, pd_s, esD_sl, add1 (show i < 1000000000000 by omega)]
      rw [stateP_succ, iD_append]
      rfl
    have bad : ∀ i, i < l.length → ¬ fitsAt l B i → ref37_State_l5 n [eBs B, eI i, eVs l, .sl 1 (layBits l), .sl 1 (layAt l l.length), .sl 1 (iD (stateP l B i))] = some (.inr (.inr (.tup [nilSl, eI 21]))) := by
      intro i hi ho
      obtain ⟨q1, q2, q3, q4, q5, q6, q7, q8⟩ := common i hi
      rw [fitsAt_iff hi] at ho
      have hgt : decide (valL (chunk B (atSum l i) (bitsV l[i])) > hiv l[i] - lov l[i]) = true := by simp; omega
      have e4 : binP false .sub (eI (hiv l[i])) (eI (lov l[i])) = some (eI (hiv l[i] - lov l[i])) := by rw [b_sub (by omega) (by omega)]
      simp only [ref37_State_l5, pd_0, pd_s, vs_len, lss_t hi, obind_s, oif_b, if_true, vs_ix hi, v_at, ref37_ends_ok, extP_tup, List.getElem?_cons_zero, List.getElem?_cons_succ, bits_ix hi, at_1, sub1 _ q7, esD_sl, inn i hi, jnX_l, e4, b_gtr, hgt]
      rfl
    haveI : DecidablePred (fun i => ¬ fitsAt l B i) := fun _ => Classical.propDecidable _
    rcases first_or (fun i => ¬ fitsAt l B i) l.length with h | ⟨i, h1, h2, h3⟩
    · have hs : isCode l B := fun i hi => by simpa using h i hi
      have key : iterL (ref37_State_l5 n) n [eBs B, eI 0, eVs l, .sl 1 (layBits l), .sl 1 (layAt l l.length), .sl 1 []] = some (.inl [.sl 1 (iD (stateP l B l.length))]) := by
        refine iterL_run (fun i => [eBs B, eI i, eVs l, .sl 1 (layBits l), .sl 1 (layAt l l.length), .sl 1 (iD (stateP l B i))]) l.length rfl ?_ ?_ (by omega)
        · exact fun i hi => good i hi (hs i hi)
        · simp [ref37_State_l5, vs_len]
      simp only [key, obind_s, jnX_l, pd_0, esD_sl]
      rw [stateD, if_pos hle, if_pos hs]
    · have hs : ¬ isCode l B := fun hs => h2 (hs i h1)
      have key : iterL (ref37_State_l5 n) n [eBs B, eI 0, eVs l, .sl 1 (layBits l), .sl 1 (layAt l l.length), .sl 1 []] = some (.inr (.tup [nilSl, eI 21])) := by
        refine iterL_run (fun i => [eBs B, eI i, eVs l, .sl 1 (layBits l), .sl 1 (layAt l l.length), .sl 1 (iD (stateP l B i))]) i rfl ?_ ?_ (by omega)
        · intro j hj
          have := h3 j hj
          exact good j (by omega) (by simpa using this)
        · exact bad i h1 h2
      simp only [key, obind_s, jnX_r]
      rw [stateD, if_pos hle, if_neg hs]
  · have e1 : (((B.length : Nat) : Int) != ((total l : Nat) : Int)) = true := by simp; omega
    simp only [e1, if_true]
    rw [stateD, if_neg hle]
    rfl
end Go.Am
namespace Go.Am
set_option maxHeartbeats 4000000 in
theorem lives_ok (n : Nat) : law37_livesL (n + 200) [] = some (eB true) := by kernel_rfl
end Go.Am
namespace Go.Am
set_option linter.unusedVariables false
set_option linter.unusedSimpArgs false

theorem noLay_agg : aggP 3 noLay = true := rfl
theorem eB_and {a b : Bool} : (if a = true then eB b else undefD) = if a = true then eB b else undefD := rfl
theorem codeD_0 (l : List V) (s : List Int) : ∃ x es e, codeD l s = .tup [x, eI e] ∧ IsL (fun _ => True) x (bD es) ∧ es.length ≤ total l ∧ (e = 0 ↔ isState l s) ∧ (isState l s → es = codeP l s l.length) := by
  unfold codeD
  by_cases h : isState l s
  · rw [if_pos h]
    exact ⟨_, codeP l s l.length, 0, rfl, .sl _, by rw [codeP_length l s h.1 _ (Nat.le_refl _), atSum_all]; exact Nat.le_refl _, by simp [h], fun _ => rfl⟩
  · rw [if_neg h]
    exact ⟨_, [], 21, rfl, .nil, by simp, by simp [h], fun h' => absurd h' h⟩
theorem stateD_0 (l : List V) (B : List Bool) : ∃ x es e, stateD l B = .tup [x, eI e] ∧ IsL (fun _ => True) x (iD es) ∧ es.length ≤ l.length ∧ (e = 0 ↔ B.length = total l ∧ isCode l B) ∧ (B.length = total l ∧ isCode l B → es = stateP l B l.length) := by
  unfold stateD
  by_cases h : B.length = total l
  · rw [if_pos h]
    by_cases h' : isCode l B
    · rw [if_pos h']
      exact ⟨_, stateP l B l.length, 0, rfl, .sl _, by simp, by simp [h, h'], fun _ => rfl⟩
    · rw [if_neg h']
      exact ⟨_, [], 21, rfl, .nil, by simp, by simp [h'], fun hh => absurd hh.2 h'⟩
  · rw [if_neg h]
    exact ⟨_, [], 3, rfl, .nil, by simp, by simp [h], fun hh => absurd hh.1 h⟩

theorem ofD_parts (l : List V) : ∃ x, ofD l = .tup [x, eI (ofErr l)] ∧ (ofErr l = 0 → x = layD l) ∧ aggP 3 x = true := by
  refine ⟨_, rfl, fun h => by rw [if_pos h], ?_⟩
  split <;> rfl

theorem EncCodes_ok (n : Nat) (l : List V) (s : List Int) (B : List Bool) (hv : ∀ v ∈ l, inI v.lo ∧ inI v.hi ∧ v.name.size ≤ 9223372036854775807) (hn : 9223372036854776807 < n) :
    law37_EncCodesL n [eVs l, eIs s, eBs B] = some (eB true) := by
  obtain ⟨n', rfl⟩ : ∃ q, n = q + 200 := ⟨n - 200, by omega⟩
  have hL := lives_ok n'
  generalize n' + 200 = n at *
  simp -implicitDefEqProofs only [law37_EncCodesL, law37_EncCodes]
  simp -implicitDefEqProofs only [hL]
  clear hL
  simp -implicitDefEqProofs only [vs_len, is_len, b_len, obind_s, b_gtr, gD_b, pick_b, ite_some, oif_b]
  by_cases g1 : (l.length : Int) > 40
  · simp [g1]
  have hl : VsOk l := ⟨by omega, hv⟩
  have hnn : ∀ v ∈ l, v.name.size + 24 < n := fun v h => by have := (hv v h).2.2; omega
  have h1 := enc_Of_ok n l hl (by omega) (by omega) hnn
  have h2 := ref37_Of_ok n l hl (by omega) (by omega) hnn
  obtain ⟨x, hx1, hx2, hx3⟩ := ofD_parts l
  rw [hx1] at h1 h2
  by_cases g2 : (s.length : Int) > 100
  · simp [g1, g2]
  by_cases g3 : (B.length : Int) > 100
  · simp [g1, g2, g3]
  have e0 : decide ((l.length : Int) > 40) = false := by simpa using g1
  have e1 : decide ((s.length : Int) > 100) = false := by simpa using g2
  have e2 : decide ((B.length : Int) > 100) = false := by simpa using g3
  simp -implicitDefEqProofs only [e0, e1, e2, gD_b, pick_b, obind_s, if_true, Bool.false_eq_true, if_false, oif_b, h1, h2, extP_tup, List.getElem?_cons_zero, List.getElem?_cons_succ, hx3, og_t, b_neq]
  have e3 : (ofErr l != ofErr l) = false := by simp
  simp -implicitDefEqProofs only [e3, Bool.false_eq_true, if_false]
  by_cases hz : ofErr l = 0
  · have hg : Good l := ⟨hl, hz⟩
    have hxl := hx2 hz
    subst hxl
    have e4 : (ofErr l != 0) = false := by simp [hz]
    simp -implicitDefEqProofs only [e4, Bool.false_eq_true, if_false]
    have c1 := enc_Code_ok n l s hg (by omega)
    have c2 := ref37_Code_ok n l s hg (by omega)
    have c3 := enc_State_ok n l B hg (by omega) (by omega)
    have c4 := ref37_State_ok n l B hg (by omega) (by omega)
    obtain ⟨y, ys, ye, y1, y2, y3, _⟩ := codeD_0 l s
    obtain ⟨z, zs, ze, z1, z2, z3, _⟩ := stateD_0 l B
    rw [y1] at c1 c2
    rw [z1] at c3 c4
    have ht := hg.first.2
    have hb := law37_bits_ok n y y ys ys y2 y2 (by omega) (by omega)
    have hs := law37_same_ok n z z zs zs z2 z2 (by omega) (by omega)
    have e5 : (ye == ye) = true := by simp
    have e6 : (ze == ze) = true := by simp
    simp -implicitDefEqProofs only [lay_again, c1, c2, c3, c4, obind_s, extP_tup, List.getElem?_cons_zero, List.getElem?_cons_succ, b_eql, e5, e6, gD_b, if_true, hb, hs, decide_true, pick_b]
  · have e4 : (ofErr l != 0) = true := by simp [hz]
    simp -implicitDefEqProofs only [e4, if_true]
end Go.Am
namespace Go.Am
set_option linter.unusedVariables false
set_option linter.unusedSimpArgs false

/-! ### The numbers of a variable's bits -/
def seg (a k : Nat) (c : Int) : List Int := (List.range k).map fun (j : Nat) => 2 * ((a : Int) + (j : Int)) + c
@[simp] theorem seg_length (a k : Nat) (c : Int) : (seg a k c).length = k := by simp [seg]
theorem seg_succ (a k : Nat) (c : Int) : seg a (k + 1) c = seg a k c ++ [2 * ((a : Int) + (k : Int)) + c] := by simp [seg, List.range_succ]
theorem seg_zero (a : Nat) (c : Int) : seg a 0 c = [] := rfl
theorem seg_append (a k c : Nat) (d : Int) : ∀ m : Nat, seg a k d ++ seg (a + k) m d = seg a (k + m) d
  | 0 => by simp [seg_zero]
  | m + 1 => by
    rw [seg_succ, ← List.append_assoc, seg_append a k c d m, ← Nat.add_assoc, seg_succ]
    congr 3
    push_cast
    omega
theorem seg_at (a k : Nat) (c : Int) {j : Nat} (hj : j < k) : (seg a k c)[j]? = some (2 * ((a : Int) + (j : Int)) + c) := by simp [seg, hj]
theorem iD_snoc (a : List Int) (x : Int) : iD a ++ [[eI x]] = iD (a ++ [x]) := by rw [iD_append]; rfl

theorem twice {a j : Nat} (ha : a ≤ 1000) (hj : j ≤ 1000) : binP false .add (eI (a : Int)) (eI (j : Int)) = some (eI ((a : Int) + (j : Int))) ∧ binP false .mul (eI 2) (eI ((a : Int) + (j : Int))) = some (eI (2 * ((a : Int) + (j : Int)))) := by
  exact ⟨b_add (by omega) (by omega), b_mul (by omega) (by omega)⟩
theorem iD_ix {s : List Int} {i : Nat} (hi : i < s.length) : ixP 1 (.sl 1 (iD s)) (eI (i : Int)) = some [eI s[i]] := by simp [iD, hi]
theorem iD_len (s : List Int) : lenP (.sl 1 (iD s)) = some (eI s.length) := by simp [iD]

theorem enc_Now_ok (n : Nat) (l : List V) (hg : Good l) (hn : 100 < n) {i : Nat} (hi : i < l.length) :
    enc_Layout_NowL n [layD l, eI (i : Int)] = some (.sl 1 (iD (seg (atSum l i) (bitsV l[i]) 0))) := by
  have hat := hg.at hi
  have hsh := hg.short hi
  have e0 : decide ((i : Int) < 0) = false := by simp
  have e1 : decide ((i : Int) ≥ (l.length : Int)) = false := by simp [hi]
  have key : iterL (enc_Layout_Now_l5 n) n [eI (i : Int), eI (bitsV l[i] : Int), eI 0, eVs l, .sl 1 (layBits l), .sl 1 (layAt l l.length), .sl 1 []] = some (.inl [.sl 1 (iD (seg (atSum l i) (bitsV l[i]) 0))]) := by
    refine iterL_run (fun j => [eI (i : Int), eI (bitsV l[i] : Int), eI (j : Int), eVs l, .sl 1 (layBits l), .sl 1 (layAt l l.length), .sl 1 (iD (seg (atSum l i) j 0))]) (bitsV l[i]) rfl ?_ ?_ (by omega)
    · intro j hj
      obtain ⟨t1, t2⟩ := twice (a := atSum l i) (j := j) (by omega) (by omega)
      have r1 : roomP (j + 1) 8 = true := roomP_ok (by omega) (by omega)
      simp only [enc_Layout_Now_l5, pd_0, pd_s, lss_t hj, obind_s, oif_b, if_true, at_ix hi, at_1, t1, t2, oneP_I, og_t, esD_sl, iD_length, seg_length, List.length_cons, List.length_nil, Nat.zero_add, r1, add1 (show j < 1000000000000 by omega)]
      simp only [true_or, decide_true, Nat.zero_lt_one, Bool.and_self, og_t, iD_snoc, seg_succ, Int.add_zero]
    · simp only [enc_Layout_Now_l5, pd_0, pd_s, lss_f (Nat.le_refl _), obind_s, oif_b, Bool.false_eq_true, if_false, inrX_s, esD_sl]
  simp only [enc_Layout_NowL, enc_Layout_Now, lay_agg, lay0, lay1, lay2, og_t, b_lss, e0, obind_s, gD_b, if_true, lenP_sl, layBits_length, b_geq, e1, pick_b, Bool.false_eq_true, if_false, oif_b, bits_ix hi, at_1, nilP_nil, key, jnX_l, pd_0, esD_sl]
theorem enc_Now_out (n : Nat) (l : List V) (i : Int) (h : i < 0 ∨ (l.length : Int) ≤ i) :
    enc_Layout_NowL n [layD l, eI i] = some nilSl := by
  by_cases h0 : i < 0
  · have e0 : decide (i < 0) = true := by simp [h0]
    simp only [enc_Layout_NowL, enc_Layout_Now, lay_agg, og_t, b_lss, e0, obind_s, gD_b, if_false, Bool.true_eq_false, pick_b, if_true, oif_b]
    rfl
  · have e0 : decide (i < 0) = false := by simp; omega
    have e1 : decide (i ≥ (l.length : Int)) = true := by simp; omega
    simp only [enc_Layout_NowL, enc_Layout_Now, lay_agg, lay1, lenP_sl, layBits_length, og_t, b_lss, e0, obind_s, gD_b, b_geq, e1, pick_b, if_true, Bool.false_eq_true, if_false, oif_b]
    rfl
theorem enc_Next_ok (n : Nat) (l : List V) (hg : Good l) (hn : 100 < n) {i : Nat} (hi : i < l.length) :
    enc_Layout_NextL n [layD l, eI (i : Int)] = some (.sl 1 (iD (seg (atSum l i) (bitsV l[i]) 1))) := by
  have hat := hg.at hi
  have hsh := hg.short hi
  have hnow := enc_Now_ok n l hg hn hi
  generalize hS : seg (atSum l i) (bitsV l[i]) 0 = S at hnow
  have hSl : S.length = bitsV l[i] := by rw [← hS]; simp
  have key : iterL (enc_Layout_Next_l3 n) n [.sl 1 (iD S), eI (S.length : Int), eI 0, .sl 1 []] = some (.inl [.sl 1 (iD (seg (atSum l i) (bitsV l[i]) 1))]) := by
    refine iterL_run (fun j => [.sl 1 (iD S), eI (S.length : Int), eI (j : Int), .sl 1 (iD (seg (atSum l i) j 1))]) (bitsV l[i]) rfl ?_ ?_ (by omega)
    · intro j hj
      have hjS : j < S.length := by omega
      have hv : S[j] = 2 * ((atSum l i : Int) + (j : Int)) := by
        have := seg_at (atSum l i) (bitsV l[i]) 0 hj
        rw [hS, List.getElem?_eq_getElem hjS] at this
        simpa using this
      have r1 : roomP (j + 1) 8 = true := roomP_ok (by omega) (by omega)
      have t1 : binP false .add (eI (2 * ((atSum l i : Int) + (j : Int)))) (eI 1) = some (eI (2 * ((atSum l i : Int) + (j : Int)) + 1)) := b_add (by omega) (by omega)
      simp only [enc_Layout_Next_l3, pd_0, pd_s, lss_t hjS, obind_s, oif_b, if_true, iD_ix hjS, hv, at_1, t1, oneP_I, og_t, esD_sl, iD_length, seg_length, List.length_cons, List.length_nil, Nat.zero_add, r1, add1 (show j < 1000000000000 by omega)]
      simp only [true_or, decide_true, Nat.zero_lt_one, Bool.and_self, og_t, iD_snoc, seg_succ]
    · simp only [enc_Layout_Next_l3, pd_0, pd_s, lss_f (show S.length ≤ bitsV l[i] by omega), obind_s, oif_b, Bool.false_eq_true, if_false, inrX_s, esD_sl]
  simp only [enc_Layout_NextL, enc_Layout_Next, lay_agg, lay_again, og_t, hnow, obind_s, iD_len, nilP_nil, key, jnX_l, pd_0, esD_sl]
theorem enc_Next_out (n : Nat) (l : List V) (i : Int) (hn : 0 < n) (h : i < 0 ∨ (l.length : Int) ≤ i) :
    enc_Layout_NextL n [layD l, eI i] = some (.sl 1 []) := by
  have hnow := enc_Now_out n l i h
  obtain ⟨n', rfl⟩ : ∃ q, n = q + 1 := ⟨n - 1, by omega⟩
  have hl : lenP nilSl = some (eI 0) := rfl
  have key : iterL (enc_Layout_Next_l3 (n' + 1)) (n' + 1) [nilSl, eI 0, eI 0, .sl 1 []] = some (.inl [.sl 1 []]) := by
    rw [iterL_s]
    rfl
  simp only [enc_Layout_NextL, enc_Layout_Next, lay_agg, lay_again, og_t, hnow, obind_s, hl, nilP_nil, key, jnX_l, pd_0, esD_sl]

/-! ### Numbers -/
def pieceN (l : List V) (i c : Int) (k : Nat) : List Int := if i = k ∨ i < 0 then (match l[k]? with
  | some v => seg (atSum l k) (bitsV v) c
  | none => []) else []
def numsP (l : List V) (i c : Int) (k : Nat) : List Int := (List.range k).flatMap (pieceN l i c)
theorem numsP_succ (l : List V) (i c : Int) (k : Nat) : numsP l i c (k + 1) = numsP l i c k ++ pieceN l i c k := by simp [numsP, List.range_succ]
theorem numsP_len (l : List V) (i c : Int) : ∀ k : Nat, k ≤ l.length → (numsP l i c k).length ≤ atSum l k
  | 0, _ => by simp [numsP, atSum]
  | k + 1, hk => by
    have ih := numsP_len l i c k (by omega)
    rw [numsP_succ, List.length_append, atSum_succ (show k < l.length by omega)]
    have : (pieceN l i c k).length ≤ bitsV l[k] := by
      unfold pieceN
      split
      · rw [List.getElem?_eq_getElem (show k < l.length by omega)]; simp
      · simp
    omega
theorem numsP_all (l : List V) (i c : Int) (h : i < 0) : ∀ k : Nat, k ≤ l.length → numsP l i c k = seg 0 (atSum l k) c
  | 0, _ => by simp [numsP, atSum, seg_zero]
  | k + 1, hk => by
    have ih := numsP_all l i c h k (by omega)
    have hk' : k < l.length := by omega
    rw [numsP_succ, ih, atSum_succ hk', ← seg_append 0 (atSum l k) 0 c (bitsV l[k])]
    congr 1
    unfold pieceN
    rw [if_pos (Or.inr h), List.getElem?_eq_getElem hk']
    simp
theorem numsP_one (l : List V) (i : Nat) (c : Int) : ∀ k : Nat, k ≤ l.length → numsP l (i : Int) c k = if h : i < k ∧ i < l.length then seg (atSum l i) (bitsV l[i]) c else []
  | 0, _ => by simp [numsP]
  | k + 1, hk => by
    have ih := numsP_one l i c k (by omega)
    have hk' : k < l.length := by omega
    rw [numsP_succ, ih]
    by_cases hik : i = k
    · subst hik
      rw [dif_neg (by omega), dif_pos ⟨by omega, hk'⟩]
      unfold pieceN
      rw [if_pos (Or.inl rfl), List.getElem?_eq_getElem hk']
      rfl
    · have hp : pieceN l (i : Int) c k = [] := by
        unfold pieceN
        rw [if_neg (by omega)]
      rw [hp, List.append_nil]
      by_cases h : i < k
      · rw [dif_pos ⟨h, by omega⟩, dif_pos ⟨by omega, by omega⟩]
      · rw [dif_neg (by omega), dif_neg (by omega)]
end Go.Am
namespace Go.Am
set_option linter.unusedVariables false
set_option linter.unusedSimpArgs false

theorem ref37_Numbers_ok (n : Nat) (l : List V) (hg : Good l) (hn : l.length + 100 < n) (i : Int) (c : Int) (hc : 0 ≤ c ∧ c ≤ 1) :
    ref37_NumbersL n [layD l, eI i, eI c] = some (.sl 1 (iD (numsP l i c l.length))) := by
  have hlen := hg.ok.1
  have step : ∀ k (hk : k < l.length), ref37_Numbers_l3 n [eI i, eI c, eI (k : Int), eVs l, .sl 1 (layBits l), .sl 1 (layAt l l.length), .sl 1 (iD (numsP l i c k))] =
      some (.inl [eI i, eI c, eI (k + 1 : Nat), eVs l, .sl 1 (layBits l), .sl 1 (layAt l l.length), .sl 1 (iD (numsP l i c (k + 1)))]) := by
    intro k hk
    have hat := hg.at hk
    have hsh := hg.short hk
    have hnl := numsP_len l i c k (by omega)
    have hcond : ∀ j : Nat, j < bitsV l[k] → (if i = k ∨ i < 0 then true else false) = true → ref37_Numbers_l6 n [eI i, eI c, eI (k : Int), eI (j : Int), eVs l, .sl 1 (layBits l), .sl 1 (layAt l l.length), .sl 1 (iD (numsP l i c k ++ seg (atSum l k) j c))] =
        some (.inl [eI i, eI c, eI (k : Int), eI (j + 1 : Nat), eVs l, .sl 1 (layBits l), .sl 1 (layAt l l.length), .sl 1 (iD (numsP l i c k ++ seg (atSum l k) (j + 1) c))]) := by
      intro j hj hi
      obtain ⟨t1, t2⟩ := twice (a := atSum l k) (j := j) (by omega) (by omega)
      have t3 : binP false .add (eI (2 * ((atSum l k : Int) + (j : Int)))) (eI c) = some (eI (2 * ((atSum l k : Int) + (j : Int)) + c)) := b_add (by omega) (by omega)
      have r1 : roomP ((numsP l i c k).length + j + 1) 8 = true := roomP_ok (by omega) (by omega)
      have hi' : i = k ∨ i < 0 := by
        by_cases h : i = k ∨ i < 0
        · exact h
        · simp [h] at hi
      have e1 : (if ((i == (k : Int)) = true) then eB true else if (i == (k : Int)) = false then eB (decide (i < 0)) else undefD) = eB true := by
        rcases hi' with h | h
        · simp [h]
        · by_cases h2 : i = k
          · simp [h2]
          · simp [h, h2]
      have gd : ∀ (b : Bool) (x : D), (if b = false then some x else some undefD) = some (if b = false then x else undefD) := by intro b x; cases b <;> rfl
      simp only [ref37_Numbers_l6, pd_0, pd_s, bits_ix hk, at_1, obind_s, lss_t hj, gD_b, if_true, b_eql, b_lss, gd, pick_b, e1, oif_b, at_ix hk, t1, t2, t3, oneP_I, og_t, esD_sl, iD_length, List.length_append, seg_length, List.length_cons, List.length_nil, Nat.zero_add, r1, add1 (show j < 1000000000000 by omega)]
      simp only [true_or, decide_true, Nat.zero_lt_one, Bool.and_self, og_t, iD_snoc, seg_succ, List.append_assoc]
    have hstop : ∀ (j : Nat) (A : List Int), (bitsV l[k] ≤ j ∨ ¬ (i = k ∨ i < 0)) → ref37_Numbers_l6 n [eI i, eI c, eI (k : Int), eI (j : Int), eVs l, .sl 1 (layBits l), .sl 1 (layAt l l.length), .sl 1 (iD A)] =
        some (.inr (.inl [eI i, eI c, eI (k : Int), eVs l, .sl 1 (layBits l), .sl 1 (layAt l l.length), .sl 1 (iD A)])) := by
      intro j A hj
      by_cases hb : bitsV l[k] ≤ j
      · simp only [ref37_Numbers_l6, pd_0, pd_s, bits_ix hk, at_1, obind_s, lss_f hb, gD_b, Bool.false_eq_true, if_false, gD_u, pick_b, oif_b, inrX_s, esD_sl]
      · have h2 : ¬ (i = k ∨ i < 0) := by omega
        have e2 : (i == (k : Int)) = false := by simp; omega
        have e3 : decide (i < 0) = false := by simp; omega
        simp only [ref37_Numbers_l6, pd_0, pd_s, bits_ix hk, at_1, obind_s, lss_t (show j < bitsV l[k] by omega), gD_b, if_true, b_eql, e2, e3, b_lss, pick_b, Bool.false_eq_true, if_false, oif_b, inrX_s, esD_sl]
    have inner : iterL (ref37_Numbers_l6 n) n [eI i, eI c, eI (k : Int), eI 0, eVs l, .sl 1 (layBits l), .sl 1 (layAt l l.length), .sl 1 (iD (numsP l i c k))] =
        some (.inl [eI i, eI c, eI (k : Int), eVs l, .sl 1 (layBits l), .sl 1 (layAt l l.length), .sl 1 (iD (numsP l i c (k + 1)))]) := by
      rw [numsP_succ]
      by_cases h : i = k ∨ i < 0
      · have hp : pieceN l i c k = seg (atSum l k) (bitsV l[k]) c := by
          unfold pieceN; rw [if_pos h, List.getElem?_eq_getElem hk]
        rw [hp]
        refine iterL_run (fun j => [eI i, eI c, eI (k : Int), eI (j : Int), eVs l, .sl 1 (layBits l), .sl 1 (layAt l l.length), .sl 1 (iD (numsP l i c k ++ seg (atSum l k) j c))]) (bitsV l[k]) (by rw [seg_zero, List.append_nil]; rfl) (fun j hj => hcond j hj (by rw [if_pos h])) (hstop _ _ (.inl (Nat.le_refl _))) (by omega)
      · have hp : pieceN l i c k = [] := by unfold pieceN; rw [if_neg h]
        rw [hp, List.append_nil]
        exact iterL_run (fun j => [eI i, eI c, eI (k : Int), eI (j : Int), eVs l, .sl 1 (layBits l), .sl 1 (layAt l l.length), .sl 1 (iD (numsP l i c k))]) 0 rfl (fun j hj => absurd hj (by omega)) (hstop 0 _ (.inr h)) (by omega)
    simp only [ref37_Numbers_l3, pd_0, pd_s, vs_len, lss_t hk, obind_s, oif_b, if_true, esD_sl, inner, jnX_l, add1 (show k < 1000000000000 by omega)]
  have key : iterL (ref37_Numbers_l3 n) n [eI i, eI c, eI 0, eVs l, .sl 1 (layBits l), .sl 1 (layAt l l.length), .sl 1 []] = some (.inl [.sl 1 (iD (numsP l i c l.length))]) := by
    refine iterL_run (fun k => [eI i, eI c, eI (k : Int), eVs l, .sl 1 (layBits l), .sl 1 (layAt l l.length), .sl 1 (iD (numsP l i c k))]) l.length rfl (fun k hk => step k hk) ?_ (by omega)
    simp only [ref37_Numbers_l3, pd_0, pd_s, vs_len, lss_f (Nat.le_refl _), obind_s, oif_b, Bool.false_eq_true, if_false, inrX_s, esD_sl]
  simp only [ref37_NumbersL, ref37_Numbers, lay_agg, lay0, lay1, lay2, og_t, nilP_nil, key, obind_s, jnX_l, pd_0, esD_sl]

theorem enc_Index_ok (n : Nat) (l : List V) (x : ByteArray) (hn : l.length < n) (hl : l.length < 1000000000000) :
    ∃ r : Int, enc_Layout_IndexL n [layD l, eS x] = some (eI r) ∧ ref37_IndexL n [layD l, eS x] = some (eI r) := by
  have hcell : ∀ v : V, celD v.d 0 = eS v.name := fun _ => rfl
  have hat0 : ∀ v : V, atP false 1 0 v.cells = some (eS v.name) := fun _ => rfl
  have step : ∀ i (hi : i < l.length), enc_Layout_Index_l2 n [eS x, eVs l, eI l.length, eI (i : Int)] = if l[i].name = x then some (.inr (.inr (eI (i : Int)))) else some (.inl [eS x, eVs l, eI l.length, eI (i + 1 : Nat)]) := by
    intro i hi
    simp only [enc_Layout_Index_l2, pd_0, pd_s, lss_t hi, obind_s, oif_b, if_true, vs_ix hi, v_at, v_agg, og_t, hcell, s_eql, decide_eq_true_eq, inrX_s, add1 (show i < 1000000000000 by omega)]
  have step' : ∀ i (hi : i < l.length), ref37_Index_l2 n [eS x, eI (i : Int), eVs l, .sl 1 (layBits l), .sl 1 (layAt l l.length)] = if l[i].name = x then some (.inr (.inr (eI (i : Int)))) else some (.inl [eS x, eI (i + 1 : Nat), eVs l, .sl 1 (layBits l), .sl 1 (layAt l l.length)]) := by
    intro i hi
    simp only [ref37_Index_l2, pd_0, pd_s, vs_len, lss_t hi, obind_s, oif_b, if_true, vs_ix hi, hat0, s_eql, decide_eq_true_eq, inrX_s, add1 (show i < 1000000000000 by omega)]
  rcases first_or (fun i => (l[i]?).map V.name = some x) l.length with h | ⟨i, h1, h2, h3⟩
  · have hne : ∀ i (hi : i < l.length), l[i].name ≠ x := by
      intro i hi he
      exact h i hi (by rw [List.getElem?_eq_getElem hi]; simp [he])
    have k1 : iterL (enc_Layout_Index_l2 n) n [eS x, eVs l, eI l.length, eI 0] = some (.inl []) := by
      refine iterL_run (fun i => [eS x, eVs l, eI l.length, eI (i : Int)]) l.length rfl (fun i hi => by rw [step i hi, if_neg (hne i hi)]) ?_ hn
      simp only [enc_Layout_Index_l2, pd_0, pd_s, lss_f (Nat.le_refl _), obind_s, oif_b, Bool.false_eq_true, if_false, inrX_s]
    have k2 : iterL (ref37_Index_l2 n) n [eS x, eI 0, eVs l, .sl 1 (layBits l), .sl 1 (layAt l l.length)] = some (.inl []) := by
      refine iterL_run (fun i => [eS x, eI (i : Int), eVs l, .sl 1 (layBits l), .sl 1 (layAt l l.length)]) l.length rfl (fun i hi => by rw [step' i hi, if_neg (hne i hi)]) ?_ hn
      simp only [ref37_Index_l2, pd_0, pd_s, vs_len, lss_f (Nat.le_refl _), obind_s, oif_b, Bool.false_eq_true, if_false, inrX_s]
    refine ⟨-1, ?_, ?_⟩
    · simp only [enc_Layout_IndexL, enc_Layout_Index, lay_agg, lay0, og_t, vs_len, obind_s, k1, jnX_l]
    · simp only [ref37_IndexL, ref37_Index, lay_agg, lay0, lay1, lay2, og_t, obind_s, k2, jnX_l]
  · have he : l[i].name = x := by rw [List.getElem?_eq_getElem h1] at h2; simpa using h2
    have hne : ∀ j (hj : j < i), (l[j]'(by omega)).name ≠ x := by
      intro j hj hh
      exact h3 j hj (by rw [List.getElem?_eq_getElem (by omega)]; simp [hh])
    have k1 : iterL (enc_Layout_Index_l2 n) n [eS x, eVs l, eI l.length, eI 0] = some (.inr (eI (i : Int))) := by
      refine iterL_run (fun i => [eS x, eVs l, eI l.length, eI (i : Int)]) i rfl (fun j hj => by rw [step j (by omega), if_neg (hne j hj)]) ?_ (by omega)
      rw [step i h1, if_pos he]
    have k2 : iterL (ref37_Index_l2 n) n [eS x, eI 0, eVs l, .sl 1 (layBits l), .sl 1 (layAt l l.length)] = some (.inr (eI (i : Int))) := by
      refine iterL_run (fun i => [eS x, eI (i : Int), eVs l, .sl 1 (layBits l), .sl 1 (layAt l l.length)]) i rfl (fun j hj => by rw [step' j (by omega), if_neg (hne j hj)]) ?_ (by omega)
      rw [step' i h1, if_pos he]
    refine ⟨(i : Int), ?_, ?_⟩
    · simp only [enc_Layout_IndexL, enc_Layout_Index, lay_agg, lay0, og_t, vs_len, obind_s, k1, jnX_r]
    · simp only [ref37_IndexL, ref37_Index, lay_agg, lay0, lay1, lay2, og_t, obind_s, k2, jnX_r]
end Go.Am
namespace Go.Am
set_option linter.unusedVariables false
set_option linter.unusedSimpArgs false

/-! ### Code and State undo each other -/
theorem codeP_split (l : List V) (s : List Int) (i : Nat) : ∀ m : Nat, ∃ r, codeP l s (i + 1 + m) = codeP l s i ++ pieceC l s i ++ r
  | 0 => ⟨[], by rw [Nat.add_zero, codeP_succ, List.append_nil]⟩
  | m + 1 => by
    obtain ⟨r, hr⟩ := codeP_split l s i m
    exact ⟨r ++ pieceC l s (i + 1 + m), by rw [← Nat.add_assoc, codeP_succ, hr, List.append_assoc]⟩
theorem chunk_code (l : List V) (s : List Int) (h : s.length = l.length) {i : Nat} (hi : i < l.length) :
    chunk (codeP l s l.length) (atSum l i) (bitsV l[i]) = bitL (bitsV l[i]) (s[i] - lov l[i]) := by
  obtain ⟨r, hr⟩ := codeP_split l s i (l.length - (i + 1))
  rw [show i + 1 + (l.length - (i + 1)) = l.length by omega] at hr
  have hl := codeP_length l s h i (by omega)
  rw [pieceC_at hi (by omega)] at hr
  rw [hr, chunk, List.append_assoc, ← hl, List.drop_left]
  exact List.take_left' (by simp)
theorem back_state (l : List V) (s : List Int) (hg : Good l) (hs : isState l s) : isCode l (codeP l s l.length) ∧ stateP l (codeP l s l.length) l.length = s := by
  have hv : ∀ i (hi : i < l.length), valL (chunk (codeP l s l.length) (atSum l i) (bitsV l[i])) = s[i]'(by rw [hs.1]; exact hi) - lov l[i] := by
    intro i hi
    have his : i < s.length := by rw [hs.1]; exact hi
    obtain ⟨q1, q2⟩ := (okAt_iff hi his).1 (hs.2 i hi)
    have hvg := hg.vg hi
    have hw := hvg.wide
    rw [chunk_code l s hs.1 hi]
    exact val_bit _ _ (by omega) (by omega)
  refine ⟨fun i hi => ?_, ?_⟩
  · have his : i < s.length := by rw [hs.1]; exact hi
    obtain ⟨q1, q2⟩ := (okAt_iff hi his).1 (hs.2 i hi)
    rw [fitsAt_iff hi, hv i hi]
    omega
  · apply List.ext_getElem
    · simp [hs.1]
    · intro i h1 h2
      have hi : i < l.length := by simpa using h1
      have hvi := hv i hi
      simp only [stateP, List.getElem_map, List.getElem_range, stAt, List.getElem?_eq_getElem hi]
      omega
theorem back_code (l : List V) (B : List Bool) (hg : Good l) (hB : B.length = total l) (hc : isCode l B) : isState l (stateP l B l.length) ∧ codeP l (stateP l B l.length) l.length = B := by
  have hsl : (stateP l B l.length).length = l.length := by simp
  have hst : ∀ i (hi : i < l.length), (stateP l B l.length)[i]'(by omega) = lov l[i] + valL (chunk B (atSum l i) (bitsV l[i])) := by
    intro i hi
    simp only [stateP, List.getElem_map, List.getElem_range, stAt, List.getElem?_eq_getElem hi]
  have hstate : isState l (stateP l B l.length) := by
    refine ⟨hsl, fun i hi => ?_⟩
    rw [okAt_iff hi (by omega), hst i hi]
    have := (fitsAt_iff hi).1 (hc i hi)
    have := valL_nonneg (chunk B (atSum l i) (bitsV l[i]))
    omega
  refine ⟨hstate, ?_⟩
  have go : ∀ k : Nat, k ≤ l.length → codeP l (stateP l B l.length) k = B.take (atSum l k) := by
    intro k
    induction k with
    | zero => intro _; simp [codeP, atSum]
    | succ k ih =>
      intro hk
      have hk' : k < l.length := by omega
      have hat := hg.at hk'
      rw [codeP_succ, ih (by omega), pieceC_at hk' (by omega), hst k hk', atSum_succ hk', List.take_add]
      congr 1
      have hcl := chunk_length (B := B) (a := atSum l k) (k := bitsV l[k]) (by omega)
      have := bit_val (chunk B (atSum l k) (bitsV l[k]))
      rw [hcl] at this
      rw [show lov l[k] + valL (chunk B (atSum l k) (bitsV l[k])) - lov l[k] = valL (chunk B (atSum l k) (bitsV l[k])) by omega, this]
      rfl
  rw [go l.length (Nat.le_refl _), atSum_all, ← hB, List.take_length]

/-! ### The last loop -/
theorem EncBack_l18_ok (n : Nat) (l : List V) (hg : Good l) (hn : l.length + 100 < n) :
    iterL (law37_EncBack_l18 n) n [eI 0, eI l.length, eI 0, eVs l, .sl 1 (layBits l), .sl 1 (layAt l l.length)] = some (.inl [eI (total l), eVs l, .sl 1 (layBits l), .sl 1 (layAt l l.length)]) := by
  have hlen := hg.ok.1
  have hlay : (D.agg [eVs l, .sl 1 (layBits l), .sl 1 (layAt l l.length)]) = layD l := rfl
  refine iterL_run (fun i => [eI (atSum l i : Int), eI l.length, eI (i : Int), eVs l, .sl 1 (layBits l), .sl 1 (layAt l l.length)]) l.length rfl ?_ ?_ (by omega)
  · intro i hi
    have hat := hg.at hi
    have hsh := hg.short hi
    have h1 := enc_Next_ok n l hg (by omega) hi
    have h2 := enc_Now_ok n l hg (by omega) hi
    have e3 : ((((seg (atSum l i) (bitsV l[i]) 1).length : Nat) : Int) != (((seg (atSum l i) (bitsV l[i]) 0).length : Nat) : Int)) = false := by simp
    have inner : iterL (law37_EncBack_l24 n) n [eI (atSum l i : Int), .sl 1 (iD (seg (atSum l i) (bitsV l[i]) 1)), eI l.length, eI (i : Int), .sl 1 (iD (seg (atSum l i) (bitsV l[i]) 0)), eI ((seg (atSum l i) (bitsV l[i]) 0).length : Int), eI 0, eVs l, .sl 1 (layBits l), .sl 1 (layAt l l.length)] =
        some (.inl [eI (atSum l (i + 1) : Int), eI l.length, eI (i : Int), eVs l, .sl 1 (layBits l), .sl 1 (layAt l l.length)]) := by
      refine iterL_run (fun j => [eI ((atSum l i + j : Nat) : Int), .sl 1 (iD (seg (atSum l i) (bitsV l[i]) 1)), eI l.length, eI (i : Int), .sl 1 (iD (seg (atSum l i) (bitsV l[i]) 0)), eI ((seg (atSum l i) (bitsV l[i]) 0).length : Int), eI (j : Int), eVs l, .sl 1 (layBits l), .sl 1 (layAt l l.length)]) (bitsV l[i]) rfl ?_ ?_ (by omega)
      · intro j hj
        have s0 : j < (seg (atSum l i) (bitsV l[i]) 0).length := by simpa using hj
        have s1 : j < (seg (atSum l i) (bitsV l[i]) 1).length := by simpa using hj
        have v0 : (seg (atSum l i) (bitsV l[i]) 0)[j] = 2 * ((atSum l i + j : Nat) : Int) := by
          have := seg_at (atSum l i) (bitsV l[i]) 0 hj
          rw [List.getElem?_eq_getElem s0] at this
          have := Option.some.inj this
          push_cast
          omega
        have v1 : (seg (atSum l i) (bitsV l[i]) 1)[j] = 2 * ((atSum l i + j : Nat) : Int) + 1 := by
          have := seg_at (atSum l i) (bitsV l[i]) 1 hj
          rw [List.getElem?_eq_getElem s1] at this
          have := Option.some.inj this
          push_cast
          omega
        have m1 : binP false .mul (eI 2) (eI ((atSum l i + j : Nat) : Int)) = some (eI (2 * ((atSum l i + j : Nat) : Int))) := b_mul (by omega) (by omega)
        have m2 : binP false .add (eI (2 * ((atSum l i + j : Nat) : Int))) (eI 1) = some (eI (2 * ((atSum l i + j : Nat) : Int) + 1)) := b_add (by omega) (by omega)
        have m3 : binP false .add (eI ((atSum l i + j : Nat) : Int)) (eI 1) = some (eI ((atSum l i + (j + 1) : Nat) : Int)) := add1 (i := atSum l i + j) (by omega)
        simp only [law37_EncBack_l24, pd_0, pd_s, lss_t s0, obind_s, oif_b, if_true, iD_ix s0, iD_ix s1, v0, v1, at_1, m1, m2, b_neq, bne_self_eq_false, gD_b, pick_b, Bool.false_eq_true, if_false, m3, add1 (show j < 1000000000000 by omega)]
      · simp only [law37_EncBack_l24, pd_0, pd_s, lss_f (show (seg (atSum l i) (bitsV l[i]) 0).length ≤ bitsV l[i] by simp), obind_s, oif_b, Bool.false_eq_true, if_false, inrX_s, atSum_succ hi]
    simp only [law37_EncBack_l18, pd_0, pd_s, lss_t hi, obind_s, oif_b, if_true, hlay, h1, h2, iD_len, b_neq, e3, Bool.false_eq_true, if_false, inner, jnX_l, add1 (show i < 1000000000000 by omega)]
  · simp only [law37_EncBack_l18, pd_0, pd_s, lss_f (Nat.le_refl _), obind_s, oif_b, Bool.false_eq_true, if_false, inrX_s, atSum_all]

theorem bD_eq (B : List Bool) : (D.sl 1 (bD B)) = eBs B := rfl
theorem iD_eq (s : List Int) : (D.sl 1 (iD s)) = eIs s := rfl

theorem EncBack_ok (n : Nat) (l : List V) (s : List Int) (B : List Bool) (hv : ∀ v ∈ l, inI v.lo ∧ inI v.hi ∧ v.name.size ≤ 9223372036854775807) (hn : 9223372036854776807 < n) :
    law37_EncBackL n [eVs l, eIs s, eBs B] = some (eB true) := by
  obtain ⟨n', rfl⟩ : ∃ q, n = q + 200 := ⟨n - 200, by omega⟩
  have hL := lives_ok n'
  generalize n' + 200 = n at *
  simp only [law37_EncBackL, law37_EncBack]
  simp only [hL]
  clear hL
  simp -implicitDefEqProofs only [vs_len, is_len, b_len, obind_s, b_gtr, gD_b, pick_b, ite_some, oif_b]
  by_cases g1 : (l.length : Int) > 40
  · simp [g1]
  have hl : VsOk l := ⟨by omega, hv⟩
  have hnn : ∀ v ∈ l, v.name.size + 24 < n := fun v h => by have := (hv v h).2.2; omega
  have h1 := enc_Of_ok n l hl (by omega) (by omega) hnn
  obtain ⟨x, hx1, hx2, hx3⟩ := ofD_parts l
  rw [hx1] at h1
  by_cases g2 : (s.length : Int) > 100
  · simp [g1, g2]
  by_cases g3 : (B.length : Int) > 100
  · simp [g1, g2, g3]
  have e0 : decide ((l.length : Int) > 40) = false := by simpa using g1
  have e1 : decide ((s.length : Int) > 100) = false := by simpa using g2
  have e2 : decide ((B.length : Int) > 100) = false := by simpa using g3
  simp -implicitDefEqProofs only [e0, e1, e2, gD_b, pick_b, obind_s, if_true, Bool.false_eq_true, if_false, oif_b, h1, extP_tup, List.getElem?_cons_zero, List.getElem?_cons_succ, hx3, og_t, b_neq]
  by_cases hz : ofErr l = 0
  · have hg : Good l := ⟨hl, hz⟩
    have hxl := hx2 hz
    subst hxl
    have e4 : (ofErr l != 0) = false := by simp [hz]
    simp -implicitDefEqProofs only [e4, Bool.false_eq_true, if_false, lay_again]
    have hT := enc_Total_ok n l hg (by omega)
    have hloop := EncBack_l18_ok n l hg (by omega)
    have hlay : (D.agg [celD (layD l) 0, celD (layD l) 1, celD (layD l) 2]) = layD l := rfl
    have hlay2 : (D.agg [eVs l, .sl 1 (layBits l), .sl 1 (layAt l l.length)]) = layD l := rfl
    have ht := hg.first.2
    have e7 : ((total l : Int) == (total l : Int)) = true := by simp
    -- the first half, the second half
    have c1 := enc_Code_ok n l s hg (by omega)
    have c2 := enc_State_ok n l B hg (by omega) (by omega)
    have e6 : ((21 : Int) == 0) = false := by decide
    have e8 : ((3 : Int) == 0) = false := by decide
    have hlive : ∀ x : D, (some x = some x) := fun _ => rfl
    by_cases hs : isState l s
    · obtain ⟨b1, b2⟩ := back_state l s hg hs
      have hcl := codeP_length l s hs.1 l.length (Nat.le_refl _)
      rw [atSum_all] at hcl
      rw [codeD, if_pos hs] at c1
      have c3 := enc_State_ok n l (codeP l s l.length) hg (by omega) (by omega)
      rw [stateD, if_pos hcl, if_pos b1, b2] at c3
      have hsame := law37_same_ok n (.sl 1 (iD s)) (eIs s) s s (.sl _) (.sl _) (by omega) (by omega)
      have e5 : (((codeP l s l.length).length : Int) != (total l : Int)) = false := by simp [hcl]
      simp -implicitDefEqProofs only [c1, bD_eq, c3, obind_s, extP_tup, List.getElem?_cons_zero, List.getElem?_cons_succ, b_eql, beq_self_eq_true, oif_b, if_true, b_neq, bne_self_eq_false, gD_b, hsame, decide_true, u_not, Bool.not_true, pick_b, Bool.false_eq_true, if_false, b_len, hT, e5, jnX_l, pd_0, pd_s, hlay]
      by_cases hB : B.length = total l
      · by_cases hc : isCode l B
        · obtain ⟨d1, d2⟩ := back_code l B hg hB hc
          rw [stateD, if_pos hB, if_pos hc] at c2
          have c4 := enc_Code_ok n l (stateP l B l.length) hg (by omega)
          rw [codeD, if_pos d1, d2] at c4
          have hbits := law37_bits_ok n (eBs B) (eBs B) B B (.sl _) (.sl _) (by omega) (by omega)
          simp -implicitDefEqProofs only [c2, iD_eq, c4, obind_s, extP_tup, List.getElem?_cons_zero, List.getElem?_cons_succ, b_eql, beq_self_eq_true, oif_b, if_true, b_neq, bne_self_eq_false, gD_b, hbits, bD_eq, decide_true, u_not, Bool.not_true, pick_b, Bool.false_eq_true, if_false, jnX_l, pd_0, pd_s, hlay, lay0, lay1, lay2, vs_len, hloop, hlay2, hT]
        · rw [stateD, if_pos hB, if_neg hc] at c2
          simp -implicitDefEqProofs only [c2, obind_s, extP_tup, List.getElem?_cons_zero, List.getElem?_cons_succ, b_eql, e6, oif_b, Bool.false_eq_true, if_false, jnX_l, pd_0, pd_s, hlay, lay0, lay1, lay2, vs_len, hloop, hlay2, hT, beq_self_eq_true, gD_b, if_true, pick_b]
      · rw [stateD, if_neg hB] at c2
        simp -implicitDefEqProofs only [c2, obind_s, extP_tup, List.getElem?_cons_zero, List.getElem?_cons_succ, b_eql, e8, oif_b, Bool.false_eq_true, if_false, jnX_l, pd_0, pd_s, hlay, lay0, lay1, lay2, vs_len, hloop, hlay2, hT, beq_self_eq_true, gD_b, if_true, pick_b]
    · rw [codeD, if_neg hs] at c1
      simp -implicitDefEqProofs only [c1, obind_s, extP_tup, List.getElem?_cons_zero, List.getElem?_cons_succ, b_eql, e6, oif_b, Bool.false_eq_true, if_false, jnX_l, pd_0, pd_s, hlay]
      by_cases hB : B.length = total l
      · by_cases hc : isCode l B
        · obtain ⟨d1, d2⟩ := back_code l B hg hB hc
          rw [stateD, if_pos hB, if_pos hc] at c2
          have c4 := enc_Code_ok n l (stateP l B l.length) hg (by omega)
          rw [codeD, if_pos d1, d2] at c4
          have hbits := law37_bits_ok n (eBs B) (eBs B) B B (.sl _) (.sl _) (by omega) (by omega)
          simp -implicitDefEqProofs only [c2, iD_eq, c4, obind_s, extP_tup, List.getElem?_cons_zero, List.getElem?_cons_succ, b_eql, beq_self_eq_true, oif_b, if_true, b_neq, bne_self_eq_false, gD_b, hbits, bD_eq, decide_true, u_not, Bool.not_true, pick_b, Bool.false_eq_true, if_false, jnX_l, pd_0, pd_s, hlay, lay0, lay1, lay2, vs_len, hloop, hlay2, hT]
        · rw [stateD, if_pos hB, if_neg hc] at c2
          simp -implicitDefEqProofs only [c2, obind_s, extP_tup, List.getElem?_cons_zero, List.getElem?_cons_succ, b_eql, e6, oif_b, Bool.false_eq_true, if_false, jnX_l, pd_0, pd_s, hlay, lay0, lay1, lay2, vs_len, hloop, hlay2, hT, beq_self_eq_true, gD_b, if_true, pick_b]
      · rw [stateD, if_neg hB] at c2
        simp -implicitDefEqProofs only [c2, obind_s, extP_tup, List.getElem?_cons_zero, List.getElem?_cons_succ, b_eql, e8, oif_b, Bool.false_eq_true, if_false, jnX_l, pd_0, pd_s, hlay, lay0, lay1, lay2, vs_len, hloop, hlay2, hT, beq_self_eq_true, gD_b, if_true, pick_b]
  · have e4 : (ofErr l != 0) = true := by simp [hz]
    simp -implicitDefEqProofs only [e4, if_true]
end Go.Am
namespace Go.Am
set_option linter.unusedVariables false
set_option linter.unusedSimpArgs false

/-! ### All numbers -/
theorem cut_lo {n i : Nat} (h : i ≤ n) : cutP n (some (eI (i : Int))) none = some (i, n - i) := by
  simp [cutP, bndP, eI, h]
theorem make_n {t : Nat} (h : t ≤ 1000) : makeP 8 (eI (t : Int)) (eI (t : Int)) = some t := by
  simp only [makeP, eI]
  rw [if_pos ⟨by omega, by omega, by omega, by omega⟩]
  simp
/-- What the row holds after i variables. -/
def allR (l : List V) (c : Int) (i : Nat) : List (List D) := iD (seg 0 (atSum l i) c) ++ List.replicate (total l - atSum l i) [eI 0]
theorem allR_length (l : List V) (c : Int) (i : Nat) (h : atSum l i ≤ total l) : (allR l c i).length = total l := by simp [allR]; omega
theorem allR_zero (l : List V) (c : Int) : allR l c 0 = List.replicate (total l) [eI 0] := by simp [allR, atSum, seg_zero, iD]
theorem allR_succ (l : List V) (hg : Good l) (c : Int) {i : Nat} (hi : i < l.length) :
    (allR l c i).take (atSum l i) ++ (iD (seg (atSum l i) (bitsV l[i]) c)).take (min (bitsV l[i]) (total l - atSum l i)) ++ (allR l c i).drop (atSum l i + min (bitsV l[i]) (total l - atSum l i)) = allR l c (i + 1) := by
  have hat := hg.at hi
  have hmin : min (bitsV l[i]) (total l - atSum l i) = bitsV l[i] := by omega
  have hA : (iD (seg 0 (atSum l i) c)).length = atSum l i := by simp
  rw [hmin]
  have e1 : (allR l c i).take (atSum l i) = iD (seg 0 (atSum l i) c) := by rw [allR]; exact List.take_left' hA
  have e2 : (iD (seg (atSum l i) (bitsV l[i]) c)).take (bitsV l[i]) = iD (seg (atSum l i) (bitsV l[i]) c) := List.take_of_length_le (by simp)
  have e3 : (allR l c i).drop (atSum l i + bitsV l[i]) = List.replicate (total l - atSum l (i + 1)) [eI 0] := by
    rw [allR, ← List.drop_drop, List.drop_left' hA, List.drop_replicate, atSum_succ hi]
    congr 1
    omega
  have e4 : seg 0 (atSum l (i + 1)) c = seg 0 (atSum l i) c ++ seg (atSum l i) (bitsV l[i]) c := by
    have := seg_append 0 (atSum l i) 0 c (bitsV l[i])
    rw [Nat.zero_add] at this
    rw [atSum_succ hi, this]
  rw [e1, e2, e3, allR, e4, iD_append]
theorem allR_all (l : List V) (c : Int) : allR l c l.length = iD (seg 0 (total l) c) := by simp [allR, atSum_all]

theorem el_iD (s : List Int) : elP (.sl 1 (iD s)) = some (1, iD s) := rfl
theorem enc_AllNow_ok (n : Nat) (l : List V) (hg : Good l) (hn : l.length + 100 < n) : enc_Layout_AllNowL n [layD l] = some (.sl 1 (iD (seg 0 (total l) 0))) := by
  have hlen := hg.ok.1
  have hT := enc_Total_ok n l hg (by omega)
  have ht := hg.first.2
  have hlay : (D.agg [eVs l, .sl 1 (layBits l), .sl 1 (layAt l l.length)]) = layD l := rfl
  have key : iterL (enc_Layout_all_enc_Layout_Now_l3 n) n [eI l.length, eI 0, eVs l, .sl 1 (layBits l), .sl 1 (layAt l l.length), .sl 1 (List.replicate (total l) [eI 0])] = some (.inl [.sl 1 (iD (seg 0 (total l) 0))]) := by
    refine iterL_run (fun i => [eI l.length, eI (i : Int), eVs l, .sl 1 (layBits l), .sl 1 (layAt l l.length), .sl 1 (allR l 0 i)]) l.length (by rw [allR_zero]; rfl) ?_ ?_ (by omega)
    · intro i hi
      have hat := hg.at hi
      have h1 := enc_Now_ok n l hg (by omega) hi
      have hR := allR_length l 0 i (by omega)
      have hs := allR_succ l hg 0 hi
      have e1 : decide (atSum l i + (total l - atSum l i) ≤ total l) = true := by simp; omega
      simp -implicitDefEqProofs only [enc_Layout_all_enc_Layout_Now_l3, pd_0, pd_s, lss_t hi, obind_s, oif_b, if_true, at_ix hi, at_1, esD_sl, hR, cut_lo (show atSum l i ≤ total l by omega), hlay, h1, el_iD, true_or, decide_true, og_t, e1, iD_length, seg_length, hs, add1 (show i < 1000000000000 by omega)]
    · simp only [enc_Layout_all_enc_Layout_Now_l3, pd_0, pd_s, lss_f (Nat.le_refl _), obind_s, oif_b, Bool.false_eq_true, if_false, inrX_s, esD_sl, allR_all]
  have hf : isFc fid_enc_Layout_Now (D.val (.func (.func fid_enc_Layout_Now) #[] #[])) = true := by rfl
  have hz : [D.val (Value.int .i64 0)] = [eI 0] := rfl
  have hall : enc_Layout_all_enc_Layout_NowL n [layD l, D.val (.func (.func fid_enc_Layout_Now) #[] #[])] = some (.sl 1 (iD (seg 0 (total l) 0))) := by
    simp -implicitDefEqProofs only [enc_Layout_all_enc_Layout_NowL, hf, og_t, enc_Layout_all_enc_Layout_Now, lay_agg, lay_again, hT, obind_s, make_n (show total l ≤ 1000 by omega)]
    simp -implicitDefEqProofs only [lay0, lay1, lay2, vs_len, obind_s, hz, key, jnX_l, pd_0, esD_sl]
  simp -implicitDefEqProofs only [enc_Layout_AllNowL, enc_Layout_AllNow, lay_agg, og_t, lay_again, hall, obind_s]
theorem enc_AllNext_ok (n : Nat) (l : List V) (hg : Good l) (hn : l.length + 100 < n) : enc_Layout_AllNextL n [layD l] = some (.sl 1 (iD (seg 0 (total l) 1))) := by
  have hlen := hg.ok.1
  have hT := enc_Total_ok n l hg (by omega)
  have ht := hg.first.2
  have hlay : (D.agg [eVs l, .sl 1 (layBits l), .sl 1 (layAt l l.length)]) = layD l := rfl
  have key : iterL (enc_Layout_all_enc_Layout_Next_l3 n) n [eI l.length, eI 0, eVs l, .sl 1 (layBits l), .sl 1 (layAt l l.length), .sl 1 (List.replicate (total l) [eI 0])] = some (.inl [.sl 1 (iD (seg 0 (total l) 1))]) := by
    refine iterL_run (fun i => [eI l.length, eI (i : Int), eVs l, .sl 1 (layBits l), .sl 1 (layAt l l.length), .sl 1 (allR l 1 i)]) l.length (by rw [allR_zero]; rfl) ?_ ?_ (by omega)
    · intro i hi
      have hat := hg.at hi
      have h1 := enc_Next_ok n l hg (by omega) hi
      have hR := allR_length l 1 i (by omega)
      have hs := allR_succ l hg 1 hi
      have e1 : decide (atSum l i + (total l - atSum l i) ≤ total l) = true := by simp; omega
      simp -implicitDefEqProofs only [enc_Layout_all_enc_Layout_Next_l3, pd_0, pd_s, lss_t hi, obind_s, oif_b, if_true, at_ix hi, at_1, esD_sl, hR, cut_lo (show atSum l i ≤ total l by omega), hlay, h1, el_iD, true_or, decide_true, og_t, e1, iD_length, seg_length, hs, add1 (show i < 1000000000000 by omega)]
    · simp only [enc_Layout_all_enc_Layout_Next_l3, pd_0, pd_s, lss_f (Nat.le_refl _), obind_s, oif_b, Bool.false_eq_true, if_false, inrX_s, esD_sl, allR_all]
  have hf : isFc fid_enc_Layout_Next (D.val (.func (.func fid_enc_Layout_Next) #[] #[])) = true := by rfl
  have hz : [D.val (Value.int .i64 0)] = [eI 0] := rfl
  have hall : enc_Layout_all_enc_Layout_NextL n [layD l, D.val (.func (.func fid_enc_Layout_Next) #[] #[])] = some (.sl 1 (iD (seg 0 (total l) 1))) := by
    simp -implicitDefEqProofs only [enc_Layout_all_enc_Layout_NextL, hf, og_t, enc_Layout_all_enc_Layout_Next, lay_agg, lay_again, hT, obind_s, make_n (show total l ≤ 1000 by omega)]
    simp -implicitDefEqProofs only [lay0, lay1, lay2, vs_len, obind_s, hz, key, jnX_l, pd_0, esD_sl]
  simp -implicitDefEqProofs only [enc_Layout_AllNextL, enc_Layout_AllNext, lay_agg, og_t, lay_again, hall, obind_s]
end Go.Am
namespace Go.Am
set_option linter.unusedVariables false
set_option linter.unusedSimpArgs false

theorem eqv_V (v : V) : eqvP [.string, .bool, .int .i64, .int .i64] .neq v.d v.d = some (eB false) := by
  have hb : (v.name == v.name) = true := by rw [bytesEq]; simp
  simp [eqvP, V.d, V.cells, aggBin, eqFlat, Instr.sameNow, eS, eB, eI, toDo, hb]

theorem EncLays_l8_ok (n : Nat) (l : List V) (a1 a2 w x y : D) (x' y' : D) (hn : l.length < n) (hl : l.length < 1000000000000) :
    iterL (law37_EncLays_l8 n) n [a1, a2, w, eI l.length, eI 0, eVs l, x, y, eVs l, x', y'] = some (.inl [a1, a2, w, eVs l, x, y, eVs l, x', y']) := by
  refine iterL_run (fun i => [a1, a2, w, eI l.length, eI (i : Int), eVs l, x, y, eVs l, x', y']) l.length rfl ?_ ?_ hn
  · intro i hi
    simp only [law37_EncLays_l8, pd_0, pd_s, lss_t hi, obind_s, oif_b, if_true, vs_ix hi, v_at, eqv_V, Bool.false_eq_true, if_false, add1 (show i < 1000000000000 by omega)]
  · simp only [law37_EncLays_l8, pd_0, pd_s, lss_f (Nat.le_refl _), obind_s, oif_b, Bool.false_eq_true, if_false, inrX_s]

theorem layBits_iD (l : List V) : (D.sl 1 (layBits l)) = .sl 1 (iD (l.map fun v => (bitsV v : Int))) := by simp [layBits, iD]
theorem layAt_iD (l : List V) : (D.sl 1 (layAt l l.length)) = .sl 1 (iD ((List.range l.length).map fun j => (atSum l j : Int))) := by simp [layAt, iD, Function.comp_def]
theorem same_refl (n : Nat) (a : List Int) (hn : a.length < n) (hl : a.length < 1000000000000) : law37_sameL n [.sl 1 (iD a), .sl 1 (iD a)] = some (eB true) := by
  have := law37_same_ok n (.sl 1 (iD a)) (.sl 1 (iD a)) a a (.sl _) (.sl _) hn hl
  simpa using this
theorem same_nil (n : Nat) (hn : 0 < n) : law37_sameL n [nilSl, nilSl] = some (eB true) := by
  have := law37_same_ok n nilSl nilSl [] [] .nil .nil (by simpa using hn) (by simp)
  simpa using this
theorem same_nil_sl (n : Nat) (hn : 0 < n) : law37_sameL n [nilSl, .sl 1 []] = some (eB true) := by
  have := law37_same_ok n nilSl (.sl 1 []) [] [] .nil (.sl []) (by simpa using hn) (by simp)
  simpa using this
theorem same_sl_sl (n : Nat) (hn : 0 < n) : law37_sameL n [.sl 1 [], .sl 1 []] = some (eB true) := by
  have := law37_same_ok n (.sl 1 []) (.sl 1 []) [] [] (.sl []) (.sl []) (by simpa using hn) (by simp)
  simpa using this
theorem nil_len : lenP nilSl = some (eI 0) := rfl

theorem EncLays_ok (n : Nat) (l : List V) (i : Int) (x : ByteArray) (hv : ∀ v ∈ l, inI v.lo ∧ inI v.hi ∧ v.name.size ≤ 9223372036854775807) (hn : 9223372036854776807 < n) :
    law37_EncLaysL n [eVs l, eI i, eS x] = some (eB true) := by
  obtain ⟨n', rfl⟩ : ∃ q, n = q + 200 := ⟨n - 200, by omega⟩
  have hL := lives_ok n'
  generalize n' + 200 = n at *
  simp only [law37_EncLaysL, law37_EncLays]
  simp only [hL]
  clear hL
  simp -implicitDefEqProofs only [vs_len, obind_s, b_gtr, oif_b]
  by_cases g1 : (l.length : Int) > 40
  · simp [g1]
  have hl : VsOk l := ⟨by omega, hv⟩
  have hnn : ∀ v ∈ l, v.name.size + 24 < n := fun v h => by have := (hv v h).2.2; omega
  have h1 := enc_Of_ok n l hl (by omega) (by omega) hnn
  have h2 := ref37_Of_ok n l hl (by omega) (by omega) hnn
  have e0 : decide ((l.length : Int) > 40) = false := by simpa using g1
  by_cases hz : ofErr l = 0
  · have hg : Good l := ⟨hl, hz⟩
    have ho : ofD l = .tup [layD l, eI 0] := by rw [ofD, if_pos hz, hz]
    rw [ho] at h1 h2
    have ht := hg.first.2
    have s1 : law37_sameL n [.sl 1 (layBits l), .sl 1 (layBits l)] = some (eB true) := by rw [layBits_iD]; exact same_refl n _ (by simp; omega) (by simp; omega)
    have s2 : law37_sameL n [.sl 1 (layAt l l.length), .sl 1 (layAt l l.length)] = some (eB true) := by rw [layAt_iD]; exact same_refl n _ (by simp; omega) (by simp; omega)
    have e1 : ((0 : Int) != 0) = false := by decide
    have e2 : ((l.length : Int) != (l.length : Int)) = false := by simp
    have hloop := EncLays_l8_ok n l (eI i) (eS x) (eI 0) (.sl 1 (layBits l)) (.sl 1 (layAt l l.length)) (.sl 1 (layBits l)) (.sl 1 (layAt l l.length)) (by omega) (by omega)
    have hlay : (D.agg [eVs l, .sl 1 (layBits l), .sl 1 (layAt l l.length)]) = layD l := rfl
    simp -implicitDefEqProofs only [e0, Bool.false_eq_true, if_false, h1, h2, obind_s, extP_tup, List.getElem?_cons_zero, List.getElem?_cons_succ, lay_agg, og_t, b_neq, e1, gD_b, if_true, lay0, lay1, lay2, s1, s2, u_not, Bool.not_true, pick_b, vs_len, e2, oif_b, hloop, jnX_l, pd_0, pd_s, hlay]
    have hT1 := enc_Total_ok n l hg (by omega)
    have hT2 := ref37_Total_ok n l hg (by omega)
    have hA1 := enc_AllNow_ok n l hg (by omega)
    have hA2 := enc_AllNext_ok n l hg (by omega)
    have hN1 := ref37_Numbers_ok n l hg (by omega) (-1) 0 (by omega)
    have hN2 := ref37_Numbers_ok n l hg (by omega) (-1) 1 (by omega)
    rw [numsP_all l (-1) 0 (by omega) l.length (Nat.le_refl _), atSum_all] at hN1
    rw [numsP_all l (-1) 1 (by omega) l.length (Nat.le_refl _), atSum_all] at hN2
    have sA1 := same_refl n (seg 0 (total l) 0) (by simp; omega) (by simp; omega)
    have sA2 := same_refl n (seg 0 (total l) 1) (by simp; omega) (by simp; omega)
    obtain ⟨r, hI1, hI2⟩ := enc_Index_ok n l x (by omega) (by omega)
    have eT : ((total l : Int) == (total l : Int)) = true := by simp
    have eR : (r == r) = true := by simp
    by_cases hi0 : i < 0
    · have k1 := enc_Now_out n l i (.inl hi0)
      have k2 := enc_Next_out n l i (by omega) (.inl hi0)
      have d1 : decide (i < 0) = true := by simp [hi0]
      have z0 : (((0 : Nat) : Int)) = 0 := rfl
      simp -implicitDefEqProofs only [k1, k2, obind_s, b_lss, d1, oif_b, if_true, nil_len, b_neq, e1, gD_b, lenP_sl, List.length_nil, z0, pick_b, Bool.false_eq_true, if_false, jnX_l, pd_0, pd_s, hlay, hT1, hT2, b_eql, eT, hA1, hN1, sA1, hA2, hN2, sA2, hI1, hI2, eR]
    · obtain ⟨j, rfl⟩ : ∃ j : Nat, i = (j : Int) := ⟨i.toNat, by omega⟩
      have d1 : decide ((j : Int) < 0) = false := by simp
      have m1 := ref37_Numbers_ok n l hg (by omega) (j : Int) 0 (by omega)
      have m2 := ref37_Numbers_ok n l hg (by omega) (j : Int) 1 (by omega)
      rw [numsP_one l j 0 l.length (Nat.le_refl _)] at m1
      rw [numsP_one l j 1 l.length (Nat.le_refl _)] at m2
      by_cases hj : j < l.length
      · have hat := hg.at hj
        have k1 := enc_Now_ok n l hg (by omega) hj
        have k2 := enc_Next_ok n l hg (by omega) hj
        rw [dif_pos ⟨hj, hj⟩] at m1 m2
        have t1 := same_refl n (seg (atSum l j) (bitsV l[j]) 0) (by simp; omega) (by simp; omega)
        have t2 := same_refl n (seg (atSum l j) (bitsV l[j]) 1) (by simp; omega) (by simp; omega)
        simp -implicitDefEqProofs only [k1, k2, obind_s, b_lss, d1, oif_b, Bool.false_eq_true, if_false, m1, m2, t1, t2, u_not, Bool.not_true, gD_b, if_true, pick_b, jnX_l, pd_0, pd_s, hlay, hT1, hT2, b_eql, eT, hA1, hN1, sA1, hA2, hN2, sA2, hI1, hI2, eR]
      · have k1 := enc_Now_out n l j (.inr (by omega))
        have k2 := enc_Next_out n l j (by omega) (.inr (by omega))
        rw [dif_neg (by omega)] at m1 m2
        have t1 : law37_sameL n [nilSl, .sl 1 (iD [])] = some (eB true) := same_nil_sl n (by omega)
        have t2 : law37_sameL n [.sl 1 [], .sl 1 (iD [])] = some (eB true) := same_sl_sl n (by omega)
        simp -implicitDefEqProofs only [k1, k2, obind_s, b_lss, d1, oif_b, Bool.false_eq_true, if_false, m1, m2, t1, t2, u_not, Bool.not_true, gD_b, if_true, pick_b, jnX_l, pd_0, pd_s, hlay, hT1, hT2, b_eql, eT, hA1, hN1, sA1, hA2, hN2, sA2, hI1, hI2, eR]
  · obtain ⟨y, hx1, hx2, hx3⟩ := ofD_parts l
    have ho : ofD l = .tup [noLay, eI (ofErr l)] := by rw [ofD, if_neg hz]
    rw [ho] at h1 h2
    have e4 : (ofErr l != 0) = true := by simp [hz]
    have e5 : (ofErr l != ofErr l) = false := by simp
    have n0 : celD noLay 0 = nilSl := rfl
    have n1 : celD noLay 1 = nilSl := rfl
    have n2 : celD noLay 2 = nilSl := rfl
    have na : aggP 3 noLay = true := rfl
    have sn := same_nil n (by omega)
    have e6 : ((0 : Int) != 0) = false := by decide
    obtain ⟨n'', rfl⟩ : ∃ q, n = q + 1 := ⟨n - 1, by omega⟩
    have hloop : iterL (law37_EncLays_l8 (n'' + 1)) (n'' + 1) [eI i, eS x, eI (ofErr l), eI 0, eI 0, nilSl, nilSl, nilSl, nilSl, nilSl, nilSl] = some (.inl [eI i, eS x, eI (ofErr l), nilSl, nilSl, nilSl, nilSl, nilSl, nilSl]) := by
      rw [iterL_s]; rfl
    simp -implicitDefEqProofs only [e0, Bool.false_eq_true, if_false, h1, h2, obind_s, extP_tup, List.getElem?_cons_zero, List.getElem?_cons_succ, na, og_t, b_neq, e5, gD_b, if_true, n0, n1, n2, sn, u_not, Bool.not_true, pick_b, nil_len, e6, oif_b, hloop, jnX_l, pd_0, pd_s, e4]
end Go.Am
