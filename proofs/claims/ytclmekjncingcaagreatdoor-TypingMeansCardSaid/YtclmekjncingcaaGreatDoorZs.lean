/- Laws, on data. No condition. -/
import Derived.Test.YtclmekjncingcaaGreatDoorEngC
import Derived.Test.YtclmekjncingcaaGreatDoorCode
import Derived.Test.YtclmekjncingcaaGreatDoorEngS
import Derived.Test.YtclmekjncingcaaGreatDoorEngD
import Derived.Test.YtclmekjncingcaaGreatDoorWs
import Derived.Test.YtclmekjncingcaaGreatDoorLaws
import Derived.Test.YtclmekjncingcaaGreatDoorTies
set_option linter.all false
set_option linter.unnecessarySimpa false
attribute [simp] Go.Am.atP_t
namespace Go.Am
set_option linter.unusedVariables false
set_option linter.unusedSimpArgs false

section
variable {bt : Bool} {a b : Int}
@[simp] theorem b8_lss : binP bt .lss (eU8 a) (.val (.int .u8 b)) = some (eB (decide (a < b))) := rfl
@[simp] theorem b8_leq : binP bt .leq (eU8 a) (.val (.int .u8 b)) = some (eB (decide (a ≤ b))) := rfl
@[simp] theorem b8_gtr : binP bt .gtr (eU8 a) (.val (.int .u8 b)) = some (eB (decide (a > b))) := rfl
@[simp] theorem b8_geq : binP bt .geq (eU8 a) (.val (.int .u8 b)) = some (eB (decide (a ≥ b))) := rfl
@[simp] theorem b8_eql : binP bt .eql (eU8 a) (.val (.int .u8 b)) = some (eB (a == b)) := rfl
end
theorem sixP_some {s : ByteArray} {i : Nat} {b : UInt8} (h : s[i]? = some b) : sixP (eS s) (eI (i : Int)) = some (eU8 b.toNat) := by
  simp [sixP, eS, eI, strIdx, h, toDo, eU8]
theorem sixP_zero {s : ByteArray} {b : UInt8} (h : s[0]? = some b) : sixP (eS s) (eI 0) = some (eU8 b.toNat) := sixP_some (i := 0) h
theorem lexi_letter_ok (n : Nat) (c : Int) : lexi_letterL n [eU8 c] = some (eB (letterB c)) := by
  simp only [lexi_letterL, lexi_letter, letterB, b8_geq, b8_leq, obind_s]
  cases decide (c ≥ 97) <;> cases decide (c ≤ 122) <;> cases decide (c ≥ 65) <;> cases decide (c ≤ 90) <;> rfl
theorem lexi_digit_ok (n : Nat) (c : Int) : lexi_digitL n [eU8 c] = some (eB (digitB c)) := by
  simp only [lexi_digitL, lexi_digit, digitB, b8_geq, b8_leq, obind_s]
  cases decide (c ≥ 48) <;> cases decide (c ≤ 57) <;> rfl
theorem lexi_inside_ok (n : Nat) (c : Int) : lexi_insideL n [eU8 c] = some (eB (insideB c)) := by
  simp only [lexi_insideL, lexi_inside, insideB, lexi_letter_ok, lexi_digit_ok, b8_eql, obind_s]
  cases letterB c <;> cases digitB c <;> cases (c == 95) <;> rfl
theorem rowN_spec (p : Int → Bool) (s : ByteArray) : (∀ j : Nat, j < rowN p s → goOn p s j = true) ∧ goOn p s (rowN p s) = false ∧ rowN p s ≤ s.size := by
  unfold rowN
  cases h : (List.range (s.size + 1)).find? (fun i => !goOn p s i) with
  | none =>
    exfalso
    have h1 := List.find?_eq_none.1 h s.size (by simp)
    have : goOn p s s.size = true := by simpa using h1
    exact absurd (goOn_lt this) (Nat.lt_irrefl _)
  | some m =>
    rw [List.find?_range_eq_some] at h
    obtain ⟨h1, h2, h3⟩ := h
    refine ⟨fun j hj => by simpa using h3 j hj, by simpa using h1, by show m ≤ s.size; simp at h2; omega⟩
theorem goOn_some {p : Int → Bool} {s : ByteArray} {i : Nat} (h : goOn p s i = true) : ∃ b : UInt8, s[i]? = some b ∧ p b.toNat = true := by
  unfold goOn at h
  split at h
  · exact ⟨_, by assumption, h⟩
  · cases h
theorem goOn_false {p : Int → Bool} {s : ByteArray} {i : Nat} (h : goOn p s i = false) : (s[i]? = none ∧ s.size ≤ i) ∨ ∃ b : UInt8, s[i]? = some b ∧ i < s.size ∧ p b.toNat = false := by
  unfold goOn at h
  split at h
  · rename_i b hb
    refine .inr ⟨b, hb, ?_, h⟩
    rw [getB] at hb
    by_cases h1 : i < s.size
    · exact h1
    · rw [dif_neg h1] at hb; cases hb
  · rename_i hb
    refine .inl ⟨hb, ?_⟩
    rw [getB] at hb
    by_cases h1 : i < s.size
    · rw [dif_pos h1] at hb; cases hb
    · omega

theorem lexi_row_ok (n : Nat) (s : ByteArray) (hn : s.size < n) (hs : s.size ≤ 9223372036854775807) : lexi_row_lexi_insideL n [eS s, .val (.func (.func fid_lexi_inside) #[] #[])] = some (eI (rowN insideB s)) := by
  obtain ⟨h1, h2, h3⟩ := rowN_spec insideB s
  have key : iterL (lexi_row_lexi_inside_l2 n) n [eS s, eI 0] = some (.inl [eI (rowN insideB s)]) := by
    refine iterL_run (fun i => [eS s, eI i]) (rowN insideB s) rfl ?_ ?_ (by omega)
    · intro i hi
      obtain ⟨b, hb, hp⟩ := goOn_some (h1 i hi)
      simp (disch := omega) [lexi_row_lexi_inside_l2, sixP_some hb, lexi_inside_ok, hp, b_add, show i < s.size by omega]
    · rcases goOn_false h2 with ⟨hb, hp⟩ | ⟨b, hb, hlt, hp⟩
      · simp [lexi_row_lexi_inside_l2, show ¬ (rowN insideB s < s.size) by omega]
      · simp [lexi_row_lexi_inside_l2, sixP_some hb, lexi_inside_ok, hp, hlt]
  simp [lexi_row_lexi_insideL, lexi_row_lexi_inside, key]
theorem first_or (p : Nat → Prop) [DecidablePred p] : ∀ m : Nat, (∀ j : Nat, j < m → ¬ p j) ∨ ∃ i, i < m ∧ p i ∧ ∀ j : Nat, j < i → ¬ p j
  | 0 => .inl (by intro j hj; omega)
  | m + 1 => by
    rcases first_or p m with h | ⟨i, h1, h2, h3⟩
    · by_cases hm : p m
      · exact .inr ⟨m, by omega, hm, h⟩
      · refine .inl fun j hj => ?_
        by_cases hjm : j = m
        · subst hjm; exact hm
        · exact h j (by omega)
    · exact .inr ⟨i, by omega, h2, h3⟩

theorem slices_Index_ok (n : Nat) (l : List ByteArray) (x : ByteArray) (hn : l.length < n) (hl : l.length < 4000000000000000000) : slices_Index_Lstring_stringL n [eSs l, eS x] = some (eI (idxOf x l)) := by
  have step : ∀ (i : Nat) (y : ByteArray), l[i]? = some y → i < l.length → slices_Index_Lstring_string_l2 n [eSs l, eS x, eI l.length, eI i] = if x = y then some (.inr (.inr (eI i))) else some (.inl [eSs l, eS x, eI l.length, eI (i + 1 : Nat)]) := by
    intro i y hy hi
    obtain ⟨_, rfl⟩ := List.getElem?_eq_some_iff.1 hy
    simp (disch := omega) [slices_Index_Lstring_string_l2, eSs, hy, hi, b_add]
  rcases first_or (fun i => l[i]? = some x) l.length with h | ⟨i, h1, h2, h3⟩
  · have key : iterL (slices_Index_Lstring_string_l2 n) n [eSs l, eS x, eI l.length, eI 0] = some (.inl []) := by
      refine iterL_run (fun i => [eSs l, eS x, eI l.length, eI i]) l.length rfl ?_ ?_ hn
      · intro i hi
        have hy := List.getElem?_eq_getElem hi
        rw [step i _ hy hi, if_neg]
        intro he
        exact h i hi (by rw [hy, he])
      · simp [slices_Index_Lstring_string_l2]
    have e : (eSs l) = .sl 1 (l.map fun s => [eS s]) := rfl
    simp [slices_Index_Lstring_stringL, slices_Index_Lstring_string, idxOf_none h]
    rw [e] at key ⊢
    simp [key]
  · have key : iterL (slices_Index_Lstring_string_l2 n) n [eSs l, eS x, eI l.length, eI 0] = some (.inr (eI i)) := by
      refine iterL_run (fun i => [eSs l, eS x, eI l.length, eI i]) i rfl ?_ ?_ (by omega)
      · intro j hj
        have hy := List.getElem?_eq_getElem (show j < l.length by omega)
        rw [step j _ hy (by omega), if_neg]
        intro he
        exact h3 j hj (by rw [hy, he])
      · rw [step i x h2 h1, if_pos rfl]
    simp [slices_Index_Lstring_stringL, slices_Index_Lstring_string, idxOf_eq h3 h2]
    have e : (eSs l) = .sl 1 (l.map fun s => [eS s]) := rfl
    rw [e] at key ⊢
    simp [key]
theorem slices_Contains_ok (n : Nat) (l : List ByteArray) (x : ByteArray) (hn : l.length < n) (hl : l.length < 4000000000000000000) : slices_Contains_Lstring_stringL n [eSs l, eS x] = some (eB (has x l)) := by
  simp [slices_Contains_Lstring_stringL, slices_Contains_Lstring_string, slices_Index_ok n l x hn hl, idx_mem]
theorem words_eq : (D.sl 1 (wordsD.map fun c => [c])) = eSs words := rfl
theorem lexi_Is_ok (n : Nat) (s : ByteArray) (hn : s.size + 24 < n) (hs : s.size ≤ 9223372036854775807) : lexi_IsL n [eS s] = some (eB (isName s)) := by
  have hw : words.length = 24 := rfl
  have h1 := lexi_row_ok n s (by omega) hs
  have h2 := slices_Contains_ok n words s (by omega) (by omega)
  rcases firstB s with ⟨b1, hz⟩ | ⟨b, b1, hz, hb⟩
  · simp [lexi_IsL, lexi_Is, b1, isName, hz]
  · simp only [lexi_IsL, lexi_Is, isName, goOn, hb, sixP_zero hb, lexi_letter_ok, h1, h2, words_eq, s_neq, b1, hz, lensP_S, b_leq, b_eql, u_not, obind_s]
    cases decide ((s.size : Int) ≤ 24) <;> cases letterB b.toNat <;> cases ((rowN insideB s : Int) == (s.size : Int)) <;> cases has s words <;> rfl
end Go.Am
namespace Go.Am
set_option linter.unusedVariables false
set_option linter.unusedSimpArgs false

theorem same_ok (n : Nat) (w v : V) : typing_Vars_1L n [w.d, .ref v.cells 0] = some (eB (decide (w.name = v.name))) := by
  simp [typing_Vars_1L, typing_Vars_1, V.d, V.cells]
theorem vIndex_ok (n : Nat) (l : List V) (v : V) (hn : l.length < n) (hl : l.length < 4000000000000000000) :
    slices_IndexFunc_Lapi_Var_api_Var_typing_Vars_1L n [eVs l, .fn (.func fid_typing_Vars_1) [] [.ref v.cells 0]] = some (eI (idxOf v.name (l.map V.name))) := by
  have hle : (l.map V.name).length = l.length := by simp
  have step : ∀ (i : Nat) (y : V), l[i]? = some y → i < l.length → slices_IndexFunc_Lapi_Var_api_Var_typing_Vars_1_l2 n [eVs l, .ref v.cells 0, eI l.length, eI i] = if y.name = v.name then some (.inr (.inr (eI i))) else some (.inl [eVs l, .ref v.cells 0, eI l.length, eI (i + 1 : Nat)]) := by
    intro i y hy hi
    obtain ⟨_, rfl⟩ := List.getElem?_eq_some_iff.1 hy
    have h1 := same_ok n l[i] v
    simp only [V.d, V.cells] at h1
    simp (disch := omega) [slices_IndexFunc_Lapi_Var_api_Var_typing_Vars_1_l2, eVs, hi, b_add, V.cells, h1]
  have e0 : ∀ x, slices_IndexFunc_Lapi_Var_api_Var_typing_Vars_1L n [eVs l, .fn (.func fid_typing_Vars_1) [] [x]] = obind (iterL (slices_IndexFunc_Lapi_Var_api_Var_typing_Vars_1_l2 n) n [eVs l, x, eI l.length, eI 0]) (jnX fun ls => some (eI (-1))) := by
    intro x
    simp only [slices_IndexFunc_Lapi_Var_api_Var_typing_Vars_1L, fnOf_self, slices_IndexFunc_Lapi_Var_api_Var_typing_Vars_1]
    simp [eVs]
  rw [e0]
  rcases first_or (fun i => (l.map V.name)[i]? = some v.name) l.length with h | ⟨i, h1, h2, h3⟩
  · have key : iterL (slices_IndexFunc_Lapi_Var_api_Var_typing_Vars_1_l2 n) n [eVs l, .ref v.cells 0, eI l.length, eI 0] = some (.inl []) := by
      refine iterL_run (fun i => [eVs l, .ref v.cells 0, eI l.length, eI i]) l.length rfl ?_ ?_ hn
      · intro i hi
        have hy := List.getElem?_eq_getElem hi
        rw [step i _ hy hi, if_neg]
        intro he
        exact h i hi (by rw [List.getElem?_map, hy, ← he]; rfl)
      · simp [slices_IndexFunc_Lapi_Var_api_Var_typing_Vars_1_l2]
    rw [key, idxOf_none (by rw [hle]; exact h)]
    rfl
  · have key : iterL (slices_IndexFunc_Lapi_Var_api_Var_typing_Vars_1_l2 n) n [eVs l, .ref v.cells 0, eI l.length, eI 0] = some (.inr (eI i)) := by
      refine iterL_run (fun i => [eVs l, .ref v.cells 0, eI l.length, eI i]) i rfl ?_ ?_ (by omega)
      · intro j hj
        have hy := List.getElem?_eq_getElem (show j < l.length by omega)
        rw [step j _ hy (by omega), if_neg]
        intro he
        exact h3 j hj (by rw [List.getElem?_map, hy, ← he]; rfl)
      · have hy := List.getElem?_eq_getElem h1
        rw [step i _ hy h1, if_pos]
        rw [List.getElem?_map, hy] at h2
        simpa using h2
    rw [key, idxOf_eq h3 h2]
    rfl
theorem vContains_ok (n : Nat) (l : List V) (v : V) (hn : l.length < n) (hl : l.length < 4000000000000000000) :
    slices_ContainsFunc_Lapi_Var_api_Var_typing_Vars_1L n [eVs l, .fn (.func fid_typing_Vars_1) [] [.ref v.cells 0]] = some (eB (has v.name (l.map V.name))) := by
  simp only [slices_ContainsFunc_Lapi_Var_api_Var_typing_Vars_1L, fnOf_self, slices_ContainsFunc_Lapi_Var_api_Var_typing_Vars_1, vIndex_ok n l v hn hl]
  simp [idx_mem]
theorem subP_take {k : Nat} {es : List (List D)} {i : Nat} (h : i ≤ es.length) : subP k (.sl k es) none (some (eI (i : Int))) = some (.sl k (es.take i)) := by
  simp [subP, bndP, eI, h]

def B3 (v : V) : Bool := v.bool && (v.lo != 0 || v.hi != 0)
def B2 (v : V) : Bool := !v.bool && (decide (v.lo > v.hi) || outB v || decide (IntKind.i64.wrap (v.hi - v.lo) ≥ 64))
theorem varErr_B (seen : List V) (v : V) : varErr seen v = if !isName v.name then 12 else if has v.name (seen.map V.name) then 6 else if B3 v then 3 else if B2 v then 2 else 0 := rfl
/-- Every variable's ends fit an int, its name is no giant. -/
def VsOk (l : List V) : Prop := l.length < 1000000000000 ∧ ∀ v ∈ l, inI v.lo ∧ inI v.hi ∧ v.name.size ≤ 9223372036854775807

theorem typing_Vars_step (n : Nat) (l : List V) (hl : VsOk l) (hn : l.length < n) (hnn : ∀ v ∈ l, v.name.size + 24 < n) (i : Nat) (hi : i < l.length) :
    typing_Vars_l2 n [eVs l, eVs l, eI l.length, eI i] = if vErrAt l i = 0 then some (.inl [eVs l, eVs l, eI l.length, eI (i + 1 : Nat)]) else some (.inr (.inr (.tup [eI i, eI (vErrAt l i)]))) := by
  have hy := List.getElem?_eq_getElem hi
  have hv := hl.2 _ (List.getElem_mem hi)
  have hlen := hl.1
  have e : vErrAt l i = varErr (l.take i) l[i] := by simp only [vErrAt, hy]
  rw [e]
  generalize hw : l[i] = v at *
  have h1 := lexi_Is_ok n v.name (hnn v (hw ▸ List.getElem_mem hi)) (by omega)
  have h2 := vContains_ok n (l.take i) v (by rw [List.length_take]; omega) (by rw [List.length_take]; omega)
  have h3 : subP 4 (eVs l) none (some (eI (i : Int))) = some (eVs (l.take i)) := by
    rw [eVs, subP_take (by simp; omega), List.map_take.symm]; rfl
  have h4 : ixP 4 (eVs l) (eI (i : Int)) = some v.cells := by simp [eVs, hy, hw]
  have h5 : binP false .lss (eI (i : Int)) (eI (l.length : Int)) = some (eB true) := by simp [hi]
  have h6 : binP false .add (eI (i : Int)) (eI 1) = some (eI (i + 1 : Nat)) := by rw [b_add (by omega) (by omega)]; rfl
  have h7 : binP false .sub (eI v.hi) (eI v.lo) = some (eI (IntKind.i64.wrap (v.hi - v.lo))) := rfl
  have h8 : atP true 4 0 v.cells = some v.d := rfl
  have h9 : aggP 4 v.d = true := rfl
  have c0 : celD v.d 0 = eS v.name := rfl
  have c1 : celD v.d 1 = eB v.bool := rfl
  have c2 : celD v.d 2 = eI v.lo := rfl
  have c3 : celD v.d 3 = eI v.hi := rfl
  have c4 : (D.ref [eS v.name, eB v.bool, eI v.lo, eI v.hi] 0) = .ref v.cells 0 := rfl
  have g1 : outB v = (decide ((if v.hi > v.lo then v.hi else v.lo) > 255) || decide ((if v.hi < v.lo then v.hi else v.lo) < -255)) := rfl
  rw [varErr_B]
  simp only [typing_Vars_l2, pd_0, pd_s, h5, obind_s, oif_b, if_true, h4, h8, h9, og_t, c0, c1, c2, c3, c4, mm_max, mm_min, h1, h2, h3, u_not, b_gtr, b_lss, flat_eB, b_neq, h6, h7, b_geq]
  rw [B3, B2, g1]
  cases isName v.name
  · cases decide ((if v.hi > v.lo then v.hi else v.lo) > 255) <;> simp
  cases has v.name ((l.take i).map V.name)
  rotate_left
  · cases decide ((if v.hi > v.lo then v.hi else v.lo) > 255) <;> simp
  generalize decide ((if v.hi > v.lo then v.hi else v.lo) > 255) = p1
  generalize decide ((if v.hi < v.lo then v.hi else v.lo) < -255) = p2
  generalize decide (v.lo > v.hi) = p3
  generalize decide (IntKind.i64.wrap (v.hi - v.lo) ≥ 64) = p4
  generalize (v.lo != 0) = p5
  generalize (v.hi != 0) = p6
  cases v.bool <;> cases p1 <;> cases p2 <;> cases p3 <;> cases p4 <;> cases p5 <;> cases p6 <;> rfl

theorem typing_Vars_ok (n : Nat) (l : List V) (hl : VsOk l) (hn : l.length < n) (hnn : ∀ v ∈ l, v.name.size + 24 < n) :
    typing_VarsL n [eVs l] = some (.tup [eI (firstErr l).1, eI (firstErr l).2]) := by
  have e0 : typing_VarsL n [eVs l] = obind (iterL (typing_Vars_l2 n) n [eVs l, eVs l, eI l.length, eI 0]) (jnX fun ls => some (D.tup [eI 0, eI 0])) := by
    simp [typing_VarsL, typing_Vars, eVs]
  rw [e0]
  rcases first_or (fun i => vErrAt l i ≠ 0) l.length with h | ⟨i, h1, h2, h3⟩
  · have h' : ∀ j : Nat, j < l.length → vErrAt l j = 0 := fun j hj => by simpa using h j hj
    have key : iterL (typing_Vars_l2 n) n [eVs l, eVs l, eI l.length, eI 0] = some (.inl []) := by
      refine iterL_run (fun i => [eVs l, eVs l, eI l.length, eI i]) l.length rfl ?_ ?_ hn
      · intro i hi
        rw [typing_Vars_step n l hl hn hnn i hi, if_pos (h' i hi)]
      · simp [typing_Vars_l2]
    rw [key, firstErr_none h']
    rfl
  · have h' : ∀ j : Nat, j < i → vErrAt l j = 0 := fun j hj => by simpa using h3 j hj
    have key : iterL (typing_Vars_l2 n) n [eVs l, eVs l, eI l.length, eI 0] = some (.inr (.tup [eI i, eI (vErrAt l i)])) := by
      refine iterL_run (fun i => [eVs l, eVs l, eI l.length, eI i]) i rfl ?_ ?_ (by omega)
      · intro j hj
        rw [typing_Vars_step n l hl hn hnn j (by omega), if_pos (h' j hj)]
      · rw [typing_Vars_step n l hl hn hnn i h1, if_neg h2]
    rw [key, firstErr_eq h' h1 rfl h2]
    rfl

/-! ### Spans, bits -/
@[simp] theorem cv64 {a : Int} : cvP .u64 (eI a) = some (.val (.int .u64 (IntKind.u64.wrap a))) := rfl
theorem cvI {k : IntKind} {a : Int} : cvP .i64 (.val (.int k a)) = some (eI (IntKind.i64.wrap a)) := rfl
theorem typing_Span_ok (n : Nat) (v : V) (h1 : inI v.lo) (h2 : inI v.hi) : typing_SpanL n [v.d] = some (eI v.span) := by
  have c1 : celD v.d 1 = eB v.bool := rfl
  have c2 : celD v.d 2 = eI v.lo := rfl
  have c3 : celD v.d 3 = eI v.hi := rfl
  have h9 : aggP 4 v.d = true := rfl
  simp only [typing_SpanL, typing_Span, h9, og_t, c1, c2, c3, oif_b, b_gtr, obind_s, cv64, cvI]
  cases hb : v.bool with
  | true => simp [V.span_bool hb]
  | false =>
    by_cases hlt : v.lo > v.hi
    · simp [V.span_none hb hlt, hlt]
    · have hle : v.lo ≤ v.hi := by omega
      have e1 : binP false .sub (.val (.int .u64 (IntKind.u64.wrap v.hi))) (.val (.int .u64 (IntKind.u64.wrap v.lo))) = some (.val (.int .u64 (v.hi - v.lo))) := by
        show some (D.val (.int .u64 (IntKind.u64.wrap (IntKind.u64.wrap v.hi - IntKind.u64.wrap v.lo)))) = _
        rw [u64_sub h1 h2 hle]
      have e2 : binP false .lss (.val (.int .u64 (v.hi - v.lo))) (.val (.int .u64 1073741824)) = some (eB (decide (v.hi - v.lo < 1073741824))) := rfl
      simp only [hlt, decide_false, Bool.false_eq_true, if_false, e1, e2, obind_s, oif_b]
      by_cases hm : v.hi - v.lo < 1073741824
      · rw [V.span_some hb hle hm]
        simp only [hm, decide_true, if_true, cvI, obind_s, wrap64 _ (show -9223372036854775808 ≤ v.hi - v.lo by omega) (by omega)]
        rw [b_add (by omega) (by omega)]
        rfl
      · rw [V.span_many hb hle (by omega)]
        simp [hm]
theorem ref36_Span_ok (n : Nat) (v : V) (h1 : inI v.lo) (h2 : inI v.hi) : ref36_SpanL n [v.d] = some (eI v.span) := by
  have c1 : celD v.d 1 = eB v.bool := rfl
  have c2 : celD v.d 2 = eI v.lo := rfl
  have c3 : celD v.d 3 = eI v.hi := rfl
  have h9 : aggP 4 v.d = true := rfl
  simp only [ref36_SpanL, ref36_Span, h9, og_t, c1, c2, c3, oif_b, b_gtr, obind_s, cv64]
  cases hb : v.bool with
  | true => simp [V.span_bool hb]
  | false =>
    by_cases hlt : v.lo > v.hi
    · simp [V.span_none hb hlt, hlt]
    · have hle : v.lo ≤ v.hi := by omega
      have e1 : binP false .sub (.val (.int .u64 (IntKind.u64.wrap v.hi))) (.val (.int .u64 (IntKind.u64.wrap v.lo))) = some (.val (.int .u64 (v.hi - v.lo))) := by
        show some (D.val (.int .u64 (IntKind.u64.wrap (IntKind.u64.wrap v.hi - IntKind.u64.wrap v.lo)))) = _
        rw [u64_sub h1 h2 hle]
      have e2 : binP false .gtr (.val (.int .u64 (v.hi - v.lo))) (.val (.int .u64 1073741824)) = some (eB (decide (v.hi - v.lo > 1073741824))) := rfl
      simp only [hlt, decide_false, Bool.false_eq_true, if_false, e1, e2, obind_s, oif_b]
      by_cases hm : v.hi - v.lo > 1073741824
      · rw [V.span_many hb hle (by omega)]
        simp only [hm, decide_true, if_true, obind_s, jnX_l, pd_0, cvI]
        rfl
      · simp only [hm, decide_false, Bool.false_eq_true, if_false, obind_s, jnX_l, pd_0, cvI, wrap64 _ (show -9223372036854775808 ≤ v.hi - v.lo by omega) (by omega)]
        rw [b_add (by omega) (by omega)]
        simp only [obind_s]
        by_cases he : v.hi - v.lo = 1073741824
        · rw [V.span_many hb hle (by omega), he]; rfl
        · rw [V.span_some hb hle (by omega)]
theorem V.span_le (v : V) : 0 ≤ v.span ∧ v.span ≤ 1073741825 := by
  unfold V.span
  split
  · omega
  · split
    · omega
    · split <;> omega
theorem pow62 {i : Nat} (h : i ≤ 62) : ((2 : Int) ^ i) ≤ 4611686018427387904 ∧ 0 < (2 : Int) ^ i := by
  have h1 : (2 : Nat) ^ i ≤ 2 ^ 62 := Nat.pow_le_pow_right (by omega) h
  have h3 : ((2 ^ i : Nat) : Int) = 2 ^ i := by simp
  have h2 : (0 : Int) < 2 ^ i := Int.pow_pos (by omega)
  omega
theorem shl_one {bt : Bool} {i : Nat} (h : i ≤ 62) : binP bt .shl (eI 1) (eI (i : Int)) = some (eI ((2 : Int) ^ i)) := by
  have hneg : ¬ ((i : Int) < 0) := by omega
  have hm : min i IntKind.i64.bits = i := by simp [IntKind.bits]; omega
  obtain ⟨h1, h2⟩ := pow62 h
  have e : IntKind.i64.wrap (1 * 2 ^ (min i IntKind.i64.bits)) = 2 ^ i := by
    rw [hm, Int.one_mul]; exact wrap64 _ (by omega) (by omega)
  simp only [binP, eI, toDo, hneg, if_false, Int.toNat_natCast]
  rw [e]
theorem bitsOf_spec {n : Int} (h : n ≤ 1073741825) : bitsOf n ≤ 62 ∧ (∀ j : Nat, j < bitsOf n → (2 : Int) ^ j < n) ∧ n ≤ 2 ^ bitsOf n := by
  rcases first_or (fun i => n ≤ (2 : Int) ^ i) 40 with h1 | ⟨i, h1, h2, h3⟩
  · exact absurd h (by have := h1 39 (by omega); simp at this; omega)
  · have h3' : ∀ j : Nat, j < i → (2 : Int) ^ j < n := fun j hj => by have := h3 j hj; omega
    rw [bitsOf_eq h3' h2]
    exact ⟨by omega, h3', h2⟩
theorem num_Bits_ok (n : Nat) (k : Int) (hk : k ≤ 1073741825) (hn : 63 < n) : num_BitsL n [eI k] = some (eI (bitsOf k)) := by
  obtain ⟨h1, h2, h3⟩ := bitsOf_spec hk
  have key : iterL (num_Bits_l2 n) n [eI k, eI 0] = some (.inr (eI (bitsOf k))) := by
    refine iterL_run (fun i => [eI k, eI i]) (bitsOf k) rfl ?_ ?_ (by omega)
    · intro i hi
      have := h2 i hi
      simp (disch := omega) [num_Bits_l2, shl_one, b_add, show ((i : Int) < 63) by omega, show ¬ (k ≤ (2 : Int) ^ i) by omega]
    · simp (disch := omega) [num_Bits_l2, shl_one, show ((bitsOf k : Int) < 63) by omega, h3]
  simp [num_BitsL, num_Bits, key]
end Go.Am
namespace Go.Am
set_option linter.unusedVariables false
set_option linter.unusedSimpArgs false

end Go.Am
namespace Go.Am
set_option linter.unusedVariables false
set_option linter.unusedSimpArgs false
def idxS (l : List Sp) (x : ByteArray) : Option Nat := l.findIdx? (fun d => decide (d.name = x))
def ixI : Option Nat → Int
  | some i => (i : Int)
  | none => -1
theorem ixI_ge (o : Option Nat) : decide (ixI o ≥ 0) = o.isSome := by
  cases o with
  | none => rfl
  | some i => simp [ixI]
theorem ixI_lt (o : Option Nat) : decide (ixI o < 0) = o.isNone := by
  cases o with
  | none => rfl
  | some i => exact decide_eq_false (show ¬ ((i : Int) < 0) by omega)
theorem findIdx_cons {α : Type} (p : α → Bool) (a : α) (r : List α) : (a :: r).findIdx? p = if p a then some 0 else (r.findIdx? p).map (· + 1) := by
  rw [List.findIdx?_cons]
theorem V.n0 (v : V) : celD v.d 0 = eS v.name := rfl
theorem V.a4 (v : V) : atP true 4 0 v.cells = some v.d := rfl
theorem V.g4 (v : V) : aggP 4 v.d = true := rfl
theorem Df.n0 (v : Df) : celD v.d 0 = eS v.name := rfl
theorem Df.a5 (v : Df) : atP true 5 0 v.cells = some v.d := rfl
theorem Df.g5 (v : Df) : aggP 5 v.d = true := by unfold Df.d Df.cells; simp
theorem Sp.n0 (v : Sp) : celD v.d 0 = eS v.name := rfl
theorem Sp.a7 (v : Sp) : atP true 7 0 v.cells = some v.d := rfl
theorem Sp.g7 (v : Sp) : aggP 7 v.d = true := Sp.agg v
theorem typing_named_wrong_1_ok (n : Nat) (d : V) (x : ByteArray) : typing_named_wrong_1L n [d.d, .ref [eS x] 0] = some (eB (decide (d.name = x))) := by
  show typing_named_wrong_1 n d.d [eS x] = _
  simp only [typing_named_wrong_1, go_sem, atP_f, V.g4, V.n0]
theorem slices_IndexFunc_Lapi_Var_api_Var_typing_named_wrong_1_ok (n : Nat) (l : List V) (x : ByteArray) (hn : l.length < n) (hb : l.length < 1000000000) : slices_IndexFunc_Lapi_Var_api_Var_typing_named_wrong_1L n [eVs l, D.fn (.func fid_typing_named_wrong_1) [] [.ref [eS x] 0]] = some (eI (ixI (idxV l x))) := by
  have e0 : (eI ((0 : Nat) : Int)) = eI 0 := rfl
  have hi := iterL_list (f := slices_IndexFunc_Lapi_Var_api_Var_typing_named_wrong_1_l2 n) l (fun i (_ : Unit) => [eVs l, .ref [eS x] 0, eI l.length, eI (i : Int)]) (fun r _ => match idxV r x with
    | some j => (Sum.inr (eI ((l.length - r.length + j : Nat) : Int)) : List D ⊕ D)
    | none => .inl []) (fun _ _ => True) ?_ ?_ n 0 () trivial (by omega) (Nat.zero_le _)
  · rw [e0, List.drop_zero, Nat.sub_self] at hi
    have hh : slices_IndexFunc_Lapi_Var_api_Var_typing_named_wrong_1L n [eVs l, D.fn (.func fid_typing_named_wrong_1) [] [.ref [eS x] 0]] = slices_IndexFunc_Lapi_Var_api_Var_typing_named_wrong_1 n (eVs l) (.ref [eS x] 0) := by
      simp only [slices_IndexFunc_Lapi_Var_api_Var_typing_named_wrong_1L, fnOf_self]
    rw [hh]
    cases hq : idxV l x with
    | none =>
      rw [hq] at hi
      simp only [slices_IndexFunc_Lapi_Var_api_Var_typing_named_wrong_1, go_sem, eVs_len, hi, ixI]
    | some j =>
      rw [hq] at hi
      simp only [Nat.zero_add] at hi
      simp only [slices_IndexFunc_Lapi_Var_api_Var_typing_named_wrong_1, go_sem, eVs_len, hi, ixI]
  · intro _ _
    have : idxV [] x = none := rfl
    simp only [slices_IndexFunc_Lapi_Var_api_Var_typing_named_wrong_1_l2, go_sem, decide_eq_false (show ¬ ((l.length : Int) < l.length) by omega), this]
  · intro i a _ ha hi _
    have hjl := decide_eq_true (show ((i : Int) < (l.length : Int)) by omega)
    have hc : idxV (a :: l.drop (i + 1)) x = if decide (a.name = x) = true then some 0 else (idxV (l.drop (i + 1)) x).map (· + 1) := findIdx_cons _ a _
    have e : l.length - (a :: l.drop (i + 1)).length = i := by simp; omega
    have e' : l.length - (l.drop (i + 1)).length = i + 1 := by simp; omega
    have h1 := typing_named_wrong_1_ok n a x
    by_cases hx : a.name = x
    · right
      rw [decide_eq_true hx] at h1 hc
      rw [hc, if_pos rfl, e]
      simp only [slices_IndexFunc_Lapi_Var_api_Var_typing_named_wrong_1_l2, go_sem, hjl, eVs_ix ha, V.a4, h1, Nat.add_zero]
    · left
      rw [decide_eq_false hx] at h1 hc
      rw [hc, if_neg (by simp), e, e']
      refine ⟨(), ?_, ?_, trivial⟩
      · simp only [slices_IndexFunc_Lapi_Var_api_Var_typing_named_wrong_1_l2, go_sem, hjl, eVs_ix ha, V.a4, h1, add1 (bt := false) (i := i) (by omega)]
      · cases idxV (l.drop (i + 1)) x with
        | none => rfl
        | some j => simp; omega
theorem slices_ContainsFunc_Lapi_Var_api_Var_typing_named_wrong_1_ok (n : Nat) (l : List V) (x : ByteArray) (hn : l.length < n) (hb : l.length < 1000000000) : slices_ContainsFunc_Lapi_Var_api_Var_typing_named_wrong_1L n [eVs l, D.fn (.func fid_typing_named_wrong_1) [] [.ref [eS x] 0]] = some (eB (idxV l x).isSome) := by
  have hh : slices_ContainsFunc_Lapi_Var_api_Var_typing_named_wrong_1L n [eVs l, D.fn (.func fid_typing_named_wrong_1) [] [.ref [eS x] 0]] = slices_ContainsFunc_Lapi_Var_api_Var_typing_named_wrong_1 n (eVs l) (.ref [eS x] 0) := by
    simp only [slices_ContainsFunc_Lapi_Var_api_Var_typing_named_wrong_1L, fnOf_self]
  rw [hh]
  simp only [slices_ContainsFunc_Lapi_Var_api_Var_typing_named_wrong_1, go_sem, slices_IndexFunc_Lapi_Var_api_Var_typing_named_wrong_1_ok n l x hn hb, ixI_ge]
theorem typing_named_wrong_2_ok (n : Nat) (d : Df) (x : ByteArray) : typing_named_wrong_2L n [d.d, .ref [eS x] 0] = some (eB (decide (d.name = x))) := by
  show typing_named_wrong_2 n d.d [eS x] = _
  simp only [typing_named_wrong_2, go_sem, atP_f, Df.g5, Df.n0]
theorem slices_IndexFunc_typing_named_api_Def_typing_named_wrong_2_ok (n : Nat) (l : List Df) (x : ByteArray) (hn : l.length < n) (hb : l.length < 1000000000) : slices_IndexFunc_typing_named_api_Def_typing_named_wrong_2L n [eDs l, D.fn (.func fid_typing_named_wrong_2) [] [.ref [eS x] 0]] = some (eI (ixI (idxD l x))) := by
  have e0 : (eI ((0 : Nat) : Int)) = eI 0 := rfl
  have hi := iterL_list (f := slices_IndexFunc_typing_named_api_Def_typing_named_wrong_2_l2 n) l (fun i (_ : Unit) => [eDs l, .ref [eS x] 0, eI l.length, eI (i : Int)]) (fun r _ => match idxD r x with
    | some j => (Sum.inr (eI ((l.length - r.length + j : Nat) : Int)) : List D ⊕ D)
    | none => .inl []) (fun _ _ => True) ?_ ?_ n 0 () trivial (by omega) (Nat.zero_le _)
  · rw [e0, List.drop_zero, Nat.sub_self] at hi
    have hh : slices_IndexFunc_typing_named_api_Def_typing_named_wrong_2L n [eDs l, D.fn (.func fid_typing_named_wrong_2) [] [.ref [eS x] 0]] = slices_IndexFunc_typing_named_api_Def_typing_named_wrong_2 n (eDs l) (.ref [eS x] 0) := by
      simp only [slices_IndexFunc_typing_named_api_Def_typing_named_wrong_2L, fnOf_self]
    rw [hh]
    cases hq : idxD l x with
    | none =>
      rw [hq] at hi
      simp only [slices_IndexFunc_typing_named_api_Def_typing_named_wrong_2, go_sem, eDs_len, hi, ixI]
    | some j =>
      rw [hq] at hi
      simp only [Nat.zero_add] at hi
      simp only [slices_IndexFunc_typing_named_api_Def_typing_named_wrong_2, go_sem, eDs_len, hi, ixI]
  · intro _ _
    have : idxD [] x = none := rfl
    simp only [slices_IndexFunc_typing_named_api_Def_typing_named_wrong_2_l2, go_sem, decide_eq_false (show ¬ ((l.length : Int) < l.length) by omega), this]
  · intro i a _ ha hi _
    have hjl := decide_eq_true (show ((i : Int) < (l.length : Int)) by omega)
    have hc : idxD (a :: l.drop (i + 1)) x = if decide (a.name = x) = true then some 0 else (idxD (l.drop (i + 1)) x).map (· + 1) := findIdx_cons _ a _
    have e : l.length - (a :: l.drop (i + 1)).length = i := by simp; omega
    have e' : l.length - (l.drop (i + 1)).length = i + 1 := by simp; omega
    have h1 := typing_named_wrong_2_ok n a x
    by_cases hx : a.name = x
    · right
      rw [decide_eq_true hx] at h1 hc
      rw [hc, if_pos rfl, e]
      simp only [slices_IndexFunc_typing_named_api_Def_typing_named_wrong_2_l2, go_sem, hjl, eDs_ix ha, Df.a5, h1, Nat.add_zero]
    · left
      rw [decide_eq_false hx] at h1 hc
      rw [hc, if_neg (by simp), e, e']
      refine ⟨(), ?_, ?_, trivial⟩
      · simp only [slices_IndexFunc_typing_named_api_Def_typing_named_wrong_2_l2, go_sem, hjl, eDs_ix ha, Df.a5, h1, add1 (bt := false) (i := i) (by omega)]
      · cases idxD (l.drop (i + 1)) x with
        | none => rfl
        | some j => simp; omega
theorem slices_ContainsFunc_typing_named_api_Def_typing_named_wrong_2_ok (n : Nat) (l : List Df) (x : ByteArray) (hn : l.length < n) (hb : l.length < 1000000000) : slices_ContainsFunc_typing_named_api_Def_typing_named_wrong_2L n [eDs l, D.fn (.func fid_typing_named_wrong_2) [] [.ref [eS x] 0]] = some (eB (idxD l x).isSome) := by
  have hh : slices_ContainsFunc_typing_named_api_Def_typing_named_wrong_2L n [eDs l, D.fn (.func fid_typing_named_wrong_2) [] [.ref [eS x] 0]] = slices_ContainsFunc_typing_named_api_Def_typing_named_wrong_2 n (eDs l) (.ref [eS x] 0) := by
    simp only [slices_ContainsFunc_typing_named_api_Def_typing_named_wrong_2L, fnOf_self]
  rw [hh]
  simp only [slices_ContainsFunc_typing_named_api_Def_typing_named_wrong_2, go_sem, slices_IndexFunc_typing_named_api_Def_typing_named_wrong_2_ok n l x hn hb, ixI_ge]
theorem typing_nexts_wrong_1_ok (n : Nat) (d : V) (x : ByteArray) : typing_nexts_wrong_1L n [d.d, .ref [eS x] 0] = some (eB (decide (d.name = x))) := by
  show typing_nexts_wrong_1 n d.d [eS x] = _
  simp only [typing_nexts_wrong_1, go_sem, atP_f, V.g4, V.n0]
theorem slices_IndexFunc_Lapi_Var_api_Var_typing_nexts_wrong_1_ok (n : Nat) (l : List V) (x : ByteArray) (hn : l.length < n) (hb : l.length < 1000000000) : slices_IndexFunc_Lapi_Var_api_Var_typing_nexts_wrong_1L n [eVs l, D.fn (.func fid_typing_nexts_wrong_1) [] [.ref [eS x] 0]] = some (eI (ixI (idxV l x))) := by
  have e0 : (eI ((0 : Nat) : Int)) = eI 0 := rfl
  have hi := iterL_list (f := slices_IndexFunc_Lapi_Var_api_Var_typing_nexts_wrong_1_l2 n) l (fun i (_ : Unit) => [eVs l, .ref [eS x] 0, eI l.length, eI (i : Int)]) (fun r _ => match idxV r x with
    | some j => (Sum.inr (eI ((l.length - r.length + j : Nat) : Int)) : List D ⊕ D)
    | none => .inl []) (fun _ _ => True) ?_ ?_ n 0 () trivial (by omega) (Nat.zero_le _)
  · rw [e0, List.drop_zero, Nat.sub_self] at hi
    have hh : slices_IndexFunc_Lapi_Var_api_Var_typing_nexts_wrong_1L n [eVs l, D.fn (.func fid_typing_nexts_wrong_1) [] [.ref [eS x] 0]] = slices_IndexFunc_Lapi_Var_api_Var_typing_nexts_wrong_1 n (eVs l) (.ref [eS x] 0) := by
      simp only [slices_IndexFunc_Lapi_Var_api_Var_typing_nexts_wrong_1L, fnOf_self]
    rw [hh]
    cases hq : idxV l x with
    | none =>
      rw [hq] at hi
      simp only [slices_IndexFunc_Lapi_Var_api_Var_typing_nexts_wrong_1, go_sem, eVs_len, hi, ixI]
    | some j =>
      rw [hq] at hi
      simp only [Nat.zero_add] at hi
      simp only [slices_IndexFunc_Lapi_Var_api_Var_typing_nexts_wrong_1, go_sem, eVs_len, hi, ixI]
  · intro _ _
    have : idxV [] x = none := rfl
    simp only [slices_IndexFunc_Lapi_Var_api_Var_typing_nexts_wrong_1_l2, go_sem, decide_eq_false (show ¬ ((l.length : Int) < l.length) by omega), this]
  · intro i a _ ha hi _
    have hjl := decide_eq_true (show ((i : Int) < (l.length : Int)) by omega)
    have hc : idxV (a :: l.drop (i + 1)) x = if decide (a.name = x) = true then some 0 else (idxV (l.drop (i + 1)) x).map (· + 1) := findIdx_cons _ a _
    have e : l.length - (a :: l.drop (i + 1)).length = i := by simp; omega
    have e' : l.length - (l.drop (i + 1)).length = i + 1 := by simp; omega
    have h1 := typing_nexts_wrong_1_ok n a x
    by_cases hx : a.name = x
    · right
      rw [decide_eq_true hx] at h1 hc
      rw [hc, if_pos rfl, e]
      simp only [slices_IndexFunc_Lapi_Var_api_Var_typing_nexts_wrong_1_l2, go_sem, hjl, eVs_ix ha, V.a4, h1, Nat.add_zero]
    · left
      rw [decide_eq_false hx] at h1 hc
      rw [hc, if_neg (by simp), e, e']
      refine ⟨(), ?_, ?_, trivial⟩
      · simp only [slices_IndexFunc_Lapi_Var_api_Var_typing_nexts_wrong_1_l2, go_sem, hjl, eVs_ix ha, V.a4, h1, add1 (bt := false) (i := i) (by omega)]
      · cases idxV (l.drop (i + 1)) x with
        | none => rfl
        | some j => simp; omega
theorem typing_nexts_wrong_2_ok (n : Nat) (d : Df) (x : ByteArray) : typing_nexts_wrong_2L n [d.d, .ref [eS x] 0] = some (eB (decide (d.name = x))) := by
  show typing_nexts_wrong_2 n d.d [eS x] = _
  simp only [typing_nexts_wrong_2, go_sem, atP_f, Df.g5, Df.n0]
theorem slices_IndexFunc_typing_nexts_api_Def_typing_nexts_wrong_2_ok (n : Nat) (l : List Df) (x : ByteArray) (hn : l.length < n) (hb : l.length < 1000000000) : slices_IndexFunc_typing_nexts_api_Def_typing_nexts_wrong_2L n [eDs l, D.fn (.func fid_typing_nexts_wrong_2) [] [.ref [eS x] 0]] = some (eI (ixI (idxD l x))) := by
  have e0 : (eI ((0 : Nat) : Int)) = eI 0 := rfl
  have hi := iterL_list (f := slices_IndexFunc_typing_nexts_api_Def_typing_nexts_wrong_2_l2 n) l (fun i (_ : Unit) => [eDs l, .ref [eS x] 0, eI l.length, eI (i : Int)]) (fun r _ => match idxD r x with
    | some j => (Sum.inr (eI ((l.length - r.length + j : Nat) : Int)) : List D ⊕ D)
    | none => .inl []) (fun _ _ => True) ?_ ?_ n 0 () trivial (by omega) (Nat.zero_le _)
  · rw [e0, List.drop_zero, Nat.sub_self] at hi
    have hh : slices_IndexFunc_typing_nexts_api_Def_typing_nexts_wrong_2L n [eDs l, D.fn (.func fid_typing_nexts_wrong_2) [] [.ref [eS x] 0]] = slices_IndexFunc_typing_nexts_api_Def_typing_nexts_wrong_2 n (eDs l) (.ref [eS x] 0) := by
      simp only [slices_IndexFunc_typing_nexts_api_Def_typing_nexts_wrong_2L, fnOf_self]
    rw [hh]
    cases hq : idxD l x with
    | none =>
      rw [hq] at hi
      simp only [slices_IndexFunc_typing_nexts_api_Def_typing_nexts_wrong_2, go_sem, eDs_len, hi, ixI]
    | some j =>
      rw [hq] at hi
      simp only [Nat.zero_add] at hi
      simp only [slices_IndexFunc_typing_nexts_api_Def_typing_nexts_wrong_2, go_sem, eDs_len, hi, ixI]
  · intro _ _
    have : idxD [] x = none := rfl
    simp only [slices_IndexFunc_typing_nexts_api_Def_typing_nexts_wrong_2_l2, go_sem, decide_eq_false (show ¬ ((l.length : Int) < l.length) by omega), this]
  · intro i a _ ha hi _
    have hjl := decide_eq_true (show ((i : Int) < (l.length : Int)) by omega)
    have hc : idxD (a :: l.drop (i + 1)) x = if decide (a.name = x) = true then some 0 else (idxD (l.drop (i + 1)) x).map (· + 1) := findIdx_cons _ a _
    have e : l.length - (a :: l.drop (i + 1)).length = i := by simp; omega
    have e' : l.length - (l.drop (i + 1)).length = i + 1 := by simp; omega
    have h1 := typing_nexts_wrong_2_ok n a x
    by_cases hx : a.name = x
    · right
      rw [decide_eq_true hx] at h1 hc
      rw [hc, if_pos rfl, e]
      simp only [slices_IndexFunc_typing_nexts_api_Def_typing_nexts_wrong_2_l2, go_sem, hjl, eDs_ix ha, Df.a5, h1, Nat.add_zero]
    · left
      rw [decide_eq_false hx] at h1 hc
      rw [hc, if_neg (by simp), e, e']
      refine ⟨(), ?_, ?_, trivial⟩
      · simp only [slices_IndexFunc_typing_nexts_api_Def_typing_nexts_wrong_2_l2, go_sem, hjl, eDs_ix ha, Df.a5, h1, add1 (bt := false) (i := i) (by omega)]
      · cases idxD (l.drop (i + 1)) x with
        | none => rfl
        | some j => simp; omega
theorem slices_ContainsFunc_typing_nexts_api_Def_typing_nexts_wrong_2_ok (n : Nat) (l : List Df) (x : ByteArray) (hn : l.length < n) (hb : l.length < 1000000000) : slices_ContainsFunc_typing_nexts_api_Def_typing_nexts_wrong_2L n [eDs l, D.fn (.func fid_typing_nexts_wrong_2) [] [.ref [eS x] 0]] = some (eB (idxD l x).isSome) := by
  have hh : slices_ContainsFunc_typing_nexts_api_Def_typing_nexts_wrong_2L n [eDs l, D.fn (.func fid_typing_nexts_wrong_2) [] [.ref [eS x] 0]] = slices_ContainsFunc_typing_nexts_api_Def_typing_nexts_wrong_2 n (eDs l) (.ref [eS x] 0) := by
    simp only [slices_ContainsFunc_typing_nexts_api_Def_typing_nexts_wrong_2L, fnOf_self]
  rw [hh]
  simp only [slices_ContainsFunc_typing_nexts_api_Def_typing_nexts_wrong_2, go_sem, slices_IndexFunc_typing_nexts_api_Def_typing_nexts_wrong_2_ok n l x hn hb, ixI_ge]
theorem typing_ringed_wrong_1_ok (n : Nat) (d : Df) (x : ByteArray) : typing_ringed_wrong_1L n [d.d, .ref [eS x] 0] = some (eB (decide (d.name = x))) := by
  show typing_ringed_wrong_1 n d.d [eS x] = _
  simp only [typing_ringed_wrong_1, go_sem, atP_f, Df.g5, Df.n0]
theorem slices_IndexFunc_typing_ringed_api_Def_typing_ringed_wrong_1_ok (n : Nat) (l : List Df) (x : ByteArray) (hn : l.length < n) (hb : l.length < 1000000000) : slices_IndexFunc_typing_ringed_api_Def_typing_ringed_wrong_1L n [eDs l, D.fn (.func fid_typing_ringed_wrong_1) [] [.ref [eS x] 0]] = some (eI (ixI (idxD l x))) := by
  have e0 : (eI ((0 : Nat) : Int)) = eI 0 := rfl
  have hi := iterL_list (f := slices_IndexFunc_typing_ringed_api_Def_typing_ringed_wrong_1_l2 n) l (fun i (_ : Unit) => [eDs l, .ref [eS x] 0, eI l.length, eI (i : Int)]) (fun r _ => match idxD r x with
    | some j => (Sum.inr (eI ((l.length - r.length + j : Nat) : Int)) : List D ⊕ D)
    | none => .inl []) (fun _ _ => True) ?_ ?_ n 0 () trivial (by omega) (Nat.zero_le _)
  · rw [e0, List.drop_zero, Nat.sub_self] at hi
    have hh : slices_IndexFunc_typing_ringed_api_Def_typing_ringed_wrong_1L n [eDs l, D.fn (.func fid_typing_ringed_wrong_1) [] [.ref [eS x] 0]] = slices_IndexFunc_typing_ringed_api_Def_typing_ringed_wrong_1 n (eDs l) (.ref [eS x] 0) := by
      simp only [slices_IndexFunc_typing_ringed_api_Def_typing_ringed_wrong_1L, fnOf_self]
    rw [hh]
    cases hq : idxD l x with
    | none =>
      rw [hq] at hi
      simp only [slices_IndexFunc_typing_ringed_api_Def_typing_ringed_wrong_1, go_sem, eDs_len, hi, ixI]
    | some j =>
      rw [hq] at hi
      simp only [Nat.zero_add] at hi
      simp only [slices_IndexFunc_typing_ringed_api_Def_typing_ringed_wrong_1, go_sem, eDs_len, hi, ixI]
  · intro _ _
    have : idxD [] x = none := rfl
    simp only [slices_IndexFunc_typing_ringed_api_Def_typing_ringed_wrong_1_l2, go_sem, decide_eq_false (show ¬ ((l.length : Int) < l.length) by omega), this]
  · intro i a _ ha hi _
    have hjl := decide_eq_true (show ((i : Int) < (l.length : Int)) by omega)
    have hc : idxD (a :: l.drop (i + 1)) x = if decide (a.name = x) = true then some 0 else (idxD (l.drop (i + 1)) x).map (· + 1) := findIdx_cons _ a _
    have e : l.length - (a :: l.drop (i + 1)).length = i := by simp; omega
    have e' : l.length - (l.drop (i + 1)).length = i + 1 := by simp; omega
    have h1 := typing_ringed_wrong_1_ok n a x
    by_cases hx : a.name = x
    · right
      rw [decide_eq_true hx] at h1 hc
      rw [hc, if_pos rfl, e]
      simp only [slices_IndexFunc_typing_ringed_api_Def_typing_ringed_wrong_1_l2, go_sem, hjl, eDs_ix ha, Df.a5, h1, Nat.add_zero]
    · left
      rw [decide_eq_false hx] at h1 hc
      rw [hc, if_neg (by simp), e, e']
      refine ⟨(), ?_, ?_, trivial⟩
      · simp only [slices_IndexFunc_typing_ringed_api_Def_typing_ringed_wrong_1_l2, go_sem, hjl, eDs_ix ha, Df.a5, h1, add1 (bt := false) (i := i) (by omega)]
      · cases idxD (l.drop (i + 1)) x with
        | none => rfl
        | some j => simp; omega
theorem typing_specs_wrong_1_ok (n : Nat) (d : Sp) (x : ByteArray) : typing_specs_wrong_1L n [d.d, .ref [eS x] 0] = some (eB (decide (d.name = x))) := by
  show typing_specs_wrong_1 n d.d [eS x] = _
  simp only [typing_specs_wrong_1, go_sem, atP_f, Sp.g7, Sp.n0]
theorem slices_IndexFunc_typing_specs_api_Spec_typing_specs_wrong_1_ok (n : Nat) (l : List Sp) (x : ByteArray) (hn : l.length < n) (hb : l.length < 1000000000) : slices_IndexFunc_typing_specs_api_Spec_typing_specs_wrong_1L n [eSps l, D.fn (.func fid_typing_specs_wrong_1) [] [.ref [eS x] 0]] = some (eI (ixI (idxS l x))) := by
  have e0 : (eI ((0 : Nat) : Int)) = eI 0 := rfl
  have hi := iterL_list (f := slices_IndexFunc_typing_specs_api_Spec_typing_specs_wrong_1_l2 n) l (fun i (_ : Unit) => [eSps l, .ref [eS x] 0, eI l.length, eI (i : Int)]) (fun r _ => match idxS r x with
    | some j => (Sum.inr (eI ((l.length - r.length + j : Nat) : Int)) : List D ⊕ D)
    | none => .inl []) (fun _ _ => True) ?_ ?_ n 0 () trivial (by omega) (Nat.zero_le _)
  · rw [e0, List.drop_zero, Nat.sub_self] at hi
    have hh : slices_IndexFunc_typing_specs_api_Spec_typing_specs_wrong_1L n [eSps l, D.fn (.func fid_typing_specs_wrong_1) [] [.ref [eS x] 0]] = slices_IndexFunc_typing_specs_api_Spec_typing_specs_wrong_1 n (eSps l) (.ref [eS x] 0) := by
      simp only [slices_IndexFunc_typing_specs_api_Spec_typing_specs_wrong_1L, fnOf_self]
    rw [hh]
    cases hq : idxS l x with
    | none =>
      rw [hq] at hi
      simp only [slices_IndexFunc_typing_specs_api_Spec_typing_specs_wrong_1, go_sem, eSps_len, hi, ixI]
    | some j =>
      rw [hq] at hi
      simp only [Nat.zero_add] at hi
      simp only [slices_IndexFunc_typing_specs_api_Spec_typing_specs_wrong_1, go_sem, eSps_len, hi, ixI]
  · intro _ _
    have : idxS [] x = none := rfl
    simp only [slices_IndexFunc_typing_specs_api_Spec_typing_specs_wrong_1_l2, go_sem, decide_eq_false (show ¬ ((l.length : Int) < l.length) by omega), this]
  · intro i a _ ha hi _
    have hjl := decide_eq_true (show ((i : Int) < (l.length : Int)) by omega)
    have hc : idxS (a :: l.drop (i + 1)) x = if decide (a.name = x) = true then some 0 else (idxS (l.drop (i + 1)) x).map (· + 1) := findIdx_cons _ a _
    have e : l.length - (a :: l.drop (i + 1)).length = i := by simp; omega
    have e' : l.length - (l.drop (i + 1)).length = i + 1 := by simp; omega
    have h1 := typing_specs_wrong_1_ok n a x
    by_cases hx : a.name = x
    · right
      rw [decide_eq_true hx] at h1 hc
      rw [hc, if_pos rfl, e]
      simp only [slices_IndexFunc_typing_specs_api_Spec_typing_specs_wrong_1_l2, go_sem, hjl, eSps_ix ha, Sp.a7, h1, Nat.add_zero]
    · left
      rw [decide_eq_false hx] at h1 hc
      rw [hc, if_neg (by simp), e, e']
      refine ⟨(), ?_, ?_, trivial⟩
      · simp only [slices_IndexFunc_typing_specs_api_Spec_typing_specs_wrong_1_l2, go_sem, hjl, eSps_ix ha, Sp.a7, h1, add1 (bt := false) (i := i) (by omega)]
      · cases idxS (l.drop (i + 1)) x with
        | none => rfl
        | some j => simp; omega
theorem slices_ContainsFunc_typing_specs_api_Spec_typing_specs_wrong_1_ok (n : Nat) (l : List Sp) (x : ByteArray) (hn : l.length < n) (hb : l.length < 1000000000) : slices_ContainsFunc_typing_specs_api_Spec_typing_specs_wrong_1L n [eSps l, D.fn (.func fid_typing_specs_wrong_1) [] [.ref [eS x] 0]] = some (eB (idxS l x).isSome) := by
  have hh : slices_ContainsFunc_typing_specs_api_Spec_typing_specs_wrong_1L n [eSps l, D.fn (.func fid_typing_specs_wrong_1) [] [.ref [eS x] 0]] = slices_ContainsFunc_typing_specs_api_Spec_typing_specs_wrong_1 n (eSps l) (.ref [eS x] 0) := by
    simp only [slices_ContainsFunc_typing_specs_api_Spec_typing_specs_wrong_1L, fnOf_self]
  rw [hh]
  simp only [slices_ContainsFunc_typing_specs_api_Spec_typing_specs_wrong_1, go_sem, slices_IndexFunc_typing_specs_api_Spec_typing_specs_wrong_1_ok n l x hn hb, ixI_ge]
end Go.Am
namespace Go.Am
set_option linter.unusedVariables false
set_option linter.unusedSimpArgs false
/-! ### A way of writing a term that types and checks do not see -/
structure Sm (f : Tm → Tm) : Prop where
  op : ∀ t, (f t).op = t.op
  num : ∀ t, (f t).num = t.num
  name : ∀ t, (f t).name = t.name
  kids : ∀ t, (f t).kids = t.kids.map f
theorem sm_fl1 : Sm fl1 := ⟨fun t => by rw [fl1_eq]; rfl, fun t => by rw [fl1_eq]; rfl, fun t => by rw [fl1_eq]; rfl, fun t => by rw [fl1_eq]; rfl⟩
theorem sm_fls : Sm fls := ⟨fun t => by rw [fls_eq]; rfl, fun t => by rw [fls_eq]; rfl, fun t => by rw [fls_eq]; rfl, fun t => by rw [fls_eq]; rfl⟩
theorem typL_sm (vs : List V) (nx : Bool) (f : Tm → Tm) : ∀ (ks : List Tm), (∀ k ∈ ks, typ vs nx (f k) = typ vs nx k) → typL vs nx (ks.map f) = typL vs nx ks
  | [], _ => rfl
  | k :: r, h => by rw [List.map_cons, typL, typL, h k (by simp), typL_sm vs nx f r fun k hk => h k (by simp [hk])]
theorem joinY_sm {f : Tm → Tm} (hf : Sm f) (t : Tm) (l : List Y) : joinY (f t) l = joinY t l := by
  unfold joinY
  rw [hf.op, hf.kids, List.getElem?_map]
  cases hk : t.kids[1]? with
  | none => rfl
  | some k => simp only [Option.map_some, hf.op, hf.num]
theorem typ_sm {f : Tm → Tm} (hf : Sm f) (vs : List V) (nx : Bool) (t : Tm) : typ vs nx (f t) = typ vs nx t := by
  refine Tm.ind (P := fun t => typ vs nx (f t) = typ vs nx t) ?_ t
  intro t ih
  have h3 : leafV vs nx (f t) = leafV vs nx t := by simp only [leafV, hf.op, hf.num, hf.name]
  rw [typ_eq, typ_eq vs nx t, hf.op, hf.kids, h3, typL_sm vs nx f t.kids ih, joinY_sm hf]
theorem wrongT_sm {f : Tm → Tm} (hf : Sm f) (t : Tm) : wrongT (f t) = wrongT t := by
  simp only [wrongT, hf.op, hf.num, hf.name, hf.kids, List.length_map]
theorem chkL_sm (f : Tm → Tm) : ∀ (ks : List Tm), (∀ k ∈ ks, ∀ d n, chk (f k) d n = chk k d n) → ∀ d n, chkL (ks.map f) d n = chkL ks d n
  | [], _, _, _ => rfl
  | k :: r, h, d, n => by rw [List.map_cons, chkL, chkL, h k (by simp), chkL_sm f r fun k hk => h k (by simp [hk])]
theorem chk_sm {f : Tm → Tm} (hf : Sm f) (t : Tm) : ∀ d n, chk (f t) d n = chk t d n := by
  refine Tm.ind (P := fun t => ∀ d n, chk (f t) d n = chk t d n) ?_ t
  intro t ih d n
  rw [chk_eq, chk_eq t, wrongT_sm hf, hf.kids, chkL_sm f t.kids ih]
theorem typeR_sm {f : Tm → Tm} (hf : Sm f) (vs : List V) (nx : Bool) (t : Tm) : typeR vs nx (f t) = typeR vs nx t := by
  unfold typeR; rw [chk_sm hf, typ_sm hf]
/-! ### A term of a module -/
/-- What both Inlines come to. -/
structure InP (l : List Df) (t : Tm) (p : Tm × Int) : Prop where
  a : ∀ n, 301000000 < n → defs_InlineL n [t.d, eDs l] = some (.tup [(if p.2 = 0 then fl1 p.1 else T0).d, eI p.2])
  b : ∀ n, 301000000 < n → ref35_InlineL n [t.d, eDs l] = some (.tup [(if p.2 = 0 then fls p.1 else T0).d, eI p.2])
  x : p.2 = 0 → p.1.Ok ∧ p.1.sz ≤ 12300 ∧ (chk p.1 1 0).1 = 0 ∧ (fl1 p.1).Ok ∧ (fls p.1).Ok ∧ ∃ h, ExpH l h t p.1
theorem inp_ex {l : List Df} (hl : DL 12300 l) (hl8 : l.length ≤ 100) (t : Tm) (hok : t.Ok) (ht : t.sz ≤ 12300) : ∃ p, InP l t p := by
  by_cases h0 : (chk t 1 0).1 = 0
  case neg => exact ⟨(T0, (chk t 1 0).1), fun n hn => by rw [if_neg h0]; exact (defs_Inline_ok hl n t hok ht (by omega)).1 h0, fun n hn => by rw [if_neg h0]; exact (ref35_Inline_ok hl n t hok ht (by omega)).1 h0, fun h => absurd h h0⟩
  cases hr : nrB l t with
  | false => exact ⟨(T0, 14), fun n hn => (defs_Inline_ok hl n t hok ht (by omega)).2.1 h0 hr, fun n hn => (ref35_Inline_ok hl n t hok ht (by omega)).2.1 h0 hr, fun h => by cases h⟩
  | true =>
    obtain ⟨X, hX⟩ := exp_of hl ht ((nrB_iff l t).1 hr)
    have hH : (l.length + 1) * (12300 + 1) + 12300 ≤ 1300000 := by omega
    generalize (l.length + 1) * (12300 + 1) + 12300 = hh at *
    have A : ∀ n, 301000000 < n → _ := fun n hn => (defs_Inline_ok hl n t hok ht (by omega)).2.2 _ X h0 hr hX (by omega)
    have B : ∀ n, 301000000 < n → _ := fun n hn => (ref35_Inline_ok hl n t hok ht (by omega)).2.2 _ X h0 hr hX (by omega)
    obtain ⟨c1, c2⟩ := trn_chk X 1 0 (by omega)
    rw [c1] at A
    by_cases h3 : (chk X 1 0).1 = 0
    case neg =>
      simp only [h3, if_false] at A B
      exact ⟨(T0, (chk X 1 0).1), fun n hn => by rw [if_neg h3]; exact A n hn, fun n hn => by rw [if_neg h3]; exact B n hn, fun h => absurd h h3⟩
    simp only [h3, if_true] at A B
    have hf := trn_fl1 X 1 0 (by omega) h3
    have hXo := hX.ok hl hok ht
    have hsz := chk_sz X 1 0 h3
    have hps := (chk_pos X 1 0).2 h3
    have hfok := (trn_fit hl hX hok ht).1
    rw [hf] at A hfok
    exact ⟨(X, 0), A, B, fun _ => ⟨hXo.1, by simp only; omega, h3, hfok, fls_ok X hXo.1, hh, hX⟩⟩
open Classical in
noncomputable def inX (l : List Df) (t : Tm) : Tm × Int := if h : ∃ p, InP l t p then Classical.choose h else (T0, 0)
theorem inX_ok {l : List Df} {t : Tm} (h : ∃ p, InP l t p) : InP l t (inX l t) := by
  unfold inX
  rw [dif_pos h]
  exact Classical.choose_spec h
/-- The type of a term of a module. -/
noncomputable def tyM (m : Md) (nx : Bool) (t : Tm) : Y × Int := if (inX m.defs t).2 ≠ 0 then (Y0, (inX m.defs t).2) else typeR m.vars nx (inX m.defs t).1
noncomputable def trM (m : Md) (nx : Bool) (t : Tm) : Int := if ((tyM m nx t).2 == 0 && !(tyM m nx t).1.b) = true then 13 else (tyM m nx t).2
/-- A module that is not too great. -/
structure MSz (m : Md) : Prop where
  d : DL 12300 m.defs
  dl : m.defs.length ≤ 100
  vl : m.vars.length ≤ 100
theorem MSz.inx {m : Md} (h : MSz m) {t : Tm} (hok : t.Ok) (ht : t.sz ≤ 12300) : InP m.defs t (inX m.defs t) := inX_ok (inp_ex h.d h.dl t hok ht)
theorem Y0_d : D.agg [eB false, eI 0, eI 0] = Y0.d := rfl
theorem Yc0 (y : Y) : celD y.d 0 = eB y.b := rfl
theorem Yc1 (y : Y) : celD y.d 1 = eI y.lo := rfl
theorem Yc2 (y : Y) : celD y.d 2 = eI y.hi := rfl
theorem Yag (y : Y) : aggP 3 y.d = true := rfl
theorem Ydd (y : Y) : D.agg [eB y.b, eI y.lo, eI y.hi] = y.d := rfl
section
variable {m : Md} (hm : MSz m) (n : Nat) (hn : 301000000 < n)
include hm hn
theorem typing_typed_ok {t : Tm} (hok : t.Ok) (ht : t.sz ≤ 12300) (nx : Bool) : typing_typedL n [m.d, t.d, eB nx] = some (.tup [(tyM m nx t).1.d, eI (tyM m nx t).2]) := by
  have hP := hm.inx hok ht
  have hvl := hm.vl
  unfold tyM
  generalize inX m.defs t = p at *
  have hA := hP.a n hn
  by_cases h0 : p.2 = 0
  · obtain ⟨x1, x2, x3, x4, x5, _⟩ := hP.x h0
    have hz : (p.2 != 0) = false := by simp [h0]
    rw [if_pos h0] at hA
    have hT := terms_Type_ok n m.vars (fl1 p.1) nx (by rw [fl1_sz]; omega) x4 (by omega)
    rw [typeR_sm sm_fl1] at hT
    rw [if_neg (by simpa using h0)]
    simp only [typing_typedL, typing_typed, go_sem, Md.agg, Md.c0, Md.c1, hA, hz, hT, Yag, Yc0, Yc1, Yc2, Ydd]
  · have hz : (p.2 != 0) = true := by simpa using h0
    rw [if_neg h0] at hA
    rw [if_pos h0]
    simp only [typing_typedL, typing_typed, go_sem, Md.agg, Md.c0, Md.c1, hA, hz, Y0_d]
theorem typing_truth_ok {t : Tm} (hok : t.Ok) (ht : t.sz ≤ 12300) (nx : Bool) : typing_truthL n [m.d, t.d, eB nx] = some (eI (trM m nx t)) := by
  have hT := typing_typed_ok hm n hn hok ht nx
  unfold trM
  by_cases h : ((tyM m nx t).2 == 0 && !(tyM m nx t).1.b) = true
  · rw [if_pos h]
    simp only [typing_truthL, typing_truth, go_sem, Md.agg, Md.c0, Md.c1, Md.c2, Md.c3, Md.c4, Md.c5, Md.c6, Md.c7, Md.eta, hT, Yag, Yc0, h]
  · have h' : ((tyM m nx t).2 == 0 && !(tyM m nx t).1.b) = false := by simpa using h
    rw [if_neg h]
    simp only [typing_truthL, typing_truth, go_sem, Md.agg, Md.c0, Md.c1, Md.c2, Md.c3, Md.c4, Md.c5, Md.c6, Md.c7, Md.eta, hT, Yag, Yc0, h']
end
end Go.Am
namespace Go.Am
set_option linter.unusedVariables false
set_option linter.unusedSimpArgs false
/-! ### Search in breadth -/
def mkB (N : Nat) (S : List Nat) : List (List D) := (List.range N).map fun j => [eB (decide (j ∈ S))]
def eMk (N : Nat) (S : List Nat) : D := .sl 1 (mkB N S)
theorem mkB_len (N : Nat) (S : List Nat) : (mkB N S).length = N := by simp [mkB]
theorem mkB_get {N : Nat} {S : List Nat} {k : Nat} (h : k < N) : (mkB N S)[k]? = some [eB (decide (k ∈ S))] := by simp [mkB, h]
theorem mkB_nil (N : Nat) : List.replicate N [eB false] = mkB N [] := by
  apply List.ext_getElem?
  intro j
  by_cases h : j < N
  · rw [mkB_get h]; simp [h]
  · rw [List.getElem?_eq_none (by simp; omega), List.getElem?_eq_none (by rw [mkB_len]; omega)]
theorem mkB_set {N : Nat} {S : List Nat} {k : Nat} (h : k < N) : (mkB N S).set k [eB true] = mkB N (S ++ [k]) := by
  apply List.ext_getElem?
  intro j
  by_cases hj : j < N
  · rw [mkB_get hj, List.getElem?_set]
    by_cases e : k = j
    · subst e; simp [mkB_len, h]
    · rw [if_neg e, mkB_get hj]
      have : (j ∈ S ++ [k]) ↔ j ∈ S := by simp; omega
      simp only [this]
  · rw [List.getElem?_eq_none (by simp [mkB_len]; omega), List.getElem?_eq_none (by rw [mkB_len]; omega)]
def adS (S : List Nat) (ks : List Nat) : List Nat := ks.foldl (fun S k => if k ∈ S then S else S ++ [k]) S
theorem adS_cons (S : List Nat) (k : Nat) (r : List Nat) : adS S (k :: r) = adS (if k ∈ S then S else S ++ [k]) r := rfl
structure AdP (N : Nat) (S ks R : List Nat) : Prop where
  inv : SInv N R
  pre : ∃ T, R = S ++ T
  mem : ∀ k ∈ ks, k ∈ R
  of : ∀ x ∈ R, x ∈ S ∨ x ∈ ks
theorem adS_p {N : Nat} : ∀ (ks S : List Nat), SInv N S → (∀ k ∈ ks, k < N) → AdP N S ks (adS S ks)
  | [], S, h, _ => ⟨h, ⟨[], by simp [adS]⟩, by simp, fun x hx => .inl hx⟩
  | k :: r, S, h, hk => by
    rw [adS_cons]
    by_cases hks : k ∈ S
    · rw [if_pos hks]
      have g := adS_p r S h fun x hx => hk x (by simp [hx])
      obtain ⟨T, hT⟩ := g.pre
      refine ⟨g.inv, g.pre, fun x hx => ?_, fun x hx => (g.of x hx).elim .inl fun h => .inr (by simp [h])⟩
      rcases List.mem_cons.1 hx with rfl | hx
      · rw [hT]; simp [hks]
      · exact g.mem x hx
    · rw [if_neg hks]
      have g := adS_p r (S ++ [k]) (h.snoc (hk k (by simp)) hks) fun x hx => hk x (by simp [hx])
      obtain ⟨T, hT⟩ := g.pre
      refine ⟨g.inv, ⟨[k] ++ T, by rw [hT]; simp⟩, fun x hx => ?_, fun x hx => ?_⟩
      · rcases List.mem_cons.1 hx with rfl | hx
        · rw [hT]; simp
        · exact g.mem x hx
      · rcases g.of x hx with h | h
        · rcases List.mem_append.1 h with h | h
          · exact .inl h
          · simp at h; subst h; exact .inr (by simp)
        · exact .inr (by simp [h])
def bfsS (to : Nat → List Nat) (i : Nat) : Nat → Nat → List Nat → List Nat
  | 0, _, S => S
  | m + 1, k, S => match (i :: S)[k]? with
    | some x => bfsS to i m (k + 1) (adS S (to x))
    | none => S
structure BInv (to : Nat → List Nat) (N i k : Nat) (S : List Nat) : Prop where
  inv : SInv N S
  le : k ≤ S.length + 1
  clo : ∀ j x, j < k → (i :: S)[j]? = some x → ∀ y ∈ to x, y ∈ S
  rch : ∀ x ∈ S, ∃ j ∈ to i, RchN to j x
theorem RchN.snoc {to : Nat → List Nat} {i j k : Nat} (h : RchN to i j) (h' : k ∈ to j) : RchN to i k := h.trans (.step j k k h' (.refl k))
theorem BInv.next {to : Nat → List Nat} {N i k : Nat} {S : List Nat} (h : BInv to N i k S) (hto : ∀ i, ∀ k ∈ to i, k < N) {x : Nat} (hx : (i :: S)[k]? = some x) : BInv to N i (k + 1) (adS S (to x)) := by
  have g := adS_p (to x) S h.inv (hto x)
  obtain ⟨T, hT⟩ := g.pre
  have hk : k < S.length + 1 := by
    have := (List.getElem?_eq_some_iff.1 hx).1
    simpa using this
  have hsame : ∀ j y, j ≤ k → (i :: adS S (to x))[j]? = some y → (i :: S)[j]? = some y := by
    intro j y hj hy
    rw [hT, ← List.cons_append, List.getElem?_append_left (by simp; omega)] at hy
    exact hy
  refine ⟨g.inv, by rw [hT]; simp; omega, ?_, ?_⟩
  · intro j y hj hy z hz
    have hy' := hsame j y (by omega) hy
    by_cases e : j = k
    · subst e
      rw [hx] at hy'
      cases hy'
      exact g.mem z hz
    · have := h.clo j y (by omega) hy' z hz
      rw [hT]; simp [this]
  · intro y hy
    rcases g.of y hy with h1 | h1
    · exact h.rch y h1
    · cases k with
      | zero =>
        simp at hx; subst hx
        exact ⟨y, h1, .refl y⟩
      | succ k =>
        have hxS : x ∈ S := List.mem_of_getElem? (by simpa using hx)
        obtain ⟨j, hj, hr⟩ := h.rch x hxS
        exact ⟨j, hj, hr.snoc h1⟩
theorem bfsS_ok {to : Nat → List Nat} {N i : Nat} (hto : ∀ i, ∀ k ∈ to i, k < N) : ∀ (m k : Nat) (S : List Nat), BInv to N i k S → N + 1 - k < m → (i ∈ bfsS to i m k S ↔ ∃ j ∈ to i, RchN to j i)
  | 0, _, _, _, h => absurd h (Nat.not_lt_zero _)
  | m + 1, k, S, h, hm => by
    rw [bfsS]
    have hlen := h.inv.len
    cases hx : (i :: S)[k]? with
    | some x =>
      have hk : k < S.length + 1 := by
        have := (List.getElem?_eq_some_iff.1 hx).1
        simpa using this
      exact bfsS_ok hto m (k + 1) _ (h.next hto hx) (by omega)
    | none =>
      have hk : S.length + 1 ≤ k := by
        have := List.getElem?_eq_none_iff.1 hx
        simpa using this
      refine ⟨fun hi => h.rch i hi, ?_⟩
      have hcl : ∀ a b, RchN to a b → a ∈ S → b ∈ S := by
        intro a b hab
        induction hab with
        | refl => exact fun h => h
        | step p q r hpq _ ih =>
          intro hp
          obtain ⟨j, hj⟩ := List.mem_iff_getElem?.1 hp
          have hjl := (List.getElem?_eq_some_iff.1 hj).1
          exact ih (h.clo (j + 1) p (by omega) (by simpa using hj) q hpq)
      rintro ⟨j, hj, hr⟩
      exact hcl j i hr (h.clo 0 i (by omega) (by simp) j hj)
theorem BInv.start (to : Nat → List Nat) (N i : Nat) : BInv to N i 0 [] := ⟨⟨by simp, by simp⟩, by simp, by intro j x h; omega, by simp⟩
theorem eNs_sl (x : List Nat) : D.sl 1 (esD (eNs x)) = eNs x := rfl
theorem eNs_el (x : List Nat) : (esD (eNs x)).length = x.length := by simp [eNs]
theorem eNs_sn (x : List Nat) (k : Nat) : D.sl 1 (esD (eNs x) ++ [[eI (k : Int)]]) = eNs (x ++ [k]) := by simp [eNs]
theorem eNs_get {x : List Nat} {j k : Nat} (h : x[j]? = some k) : (esD (eNs x))[j]? = some [eI (k : Int)] := by simp [eNs, h]
theorem eMk_sl (N : Nat) (x : List Nat) : D.sl 1 (esD (eMk N x)) = eMk N x := rfl
theorem eMk_el (N : Nat) (x : List Nat) : (esD (eMk N x)).length = N := mkB_len N x
theorem eMk_get {N : Nat} {S : List Nat} {k : Nat} (h : k < N) : (esD (eMk N S))[k]? = some [eB (decide (k ∈ S))] := mkB_get h
theorem eMk_set {N : Nat} {S : List Nat} {k : Nat} (h : k < N) {w : Bool} : D.sl 1 ((esD (eMk N S)).set k (setSegD [eB w] 0 [eB true])) = eMk N (S ++ [k]) := by
  show D.sl 1 ((mkB N S).set k [eB true]) = _
  rw [mkB_set h]; rfl
theorem atB (b : Bool) : atP false 1 0 [eB b] = some (eB b) := rfl
theorem atI (i : Int) : atP false 1 0 [eI i] = some (eI i) := rfl
theorem atS (s : ByteArray) : atP false 1 0 [eS s] = some (eS s) := rfl
theorem gD_tt {p : Option D} : gD (eB true) true p = p := rfl
theorem gD_ft {p : Option D} : gD (eB false) true p = some undefD := rfl
theorem pickP_tt {a b : D} : pickP (eB true) a b = some a := rfl
theorem pickP_ff {a b : D} : pickP (eB false) a b = some b := rfl
theorem idxD_lt' {l : List Df} {x : ByteArray} {k : Nat} (h : idxD l x = some k) : k < l.length := by
  obtain ⟨_, _, _, h⟩ := idxD_lt h
  exact h
theorem ringed_l7_ok (n : Nat) (l : List Df) {B : Nat} (hl : DL B l) (i k : Nat) (ns : List ByteArray) (S : List Nat) (hS : SInv l.length S) (hk : k ≤ S.length + 1) (hB : ns.length ≤ B) (hn : 2 * B + 100 < n) :
    iterL (typing_ringed_wrong_l7 n) n [eDs l, eI (i : Int), eSs ns, eI ns.length, eI 0, eMk l.length S, eNs ((i :: S).drop k)] = some (.inl [eDs l, eI (i : Int), eMk l.length (adS S (ns.filterMap (idxD l))), eNs ((i :: adS S (ns.filterMap (idxD l))).drop k)]) := by
  have hlen := hl.len
  have hb := hl.b
  have hi := iterL_list (f := typing_ringed_wrong_l7 n) ns (fun j (s : List Nat) => [eDs l, eI (i : Int), eSs ns, eI ns.length, eI (j : Int), eMk l.length s, eNs ((i :: s).drop k)])
    (fun r s => (.inl [eDs l, eI (i : Int), eMk l.length (adS s (r.filterMap (idxD l))), eNs ((i :: adS s (r.filterMap (idxD l))).drop k)] : List D ⊕ (List D ⊕ (List D ⊕ (List D ⊕ D)))))
    (fun j s => SInv l.length s ∧ k ≤ s.length + 1)
    (fun s _ => by simp only [typing_ringed_wrong_l7, go_sem, decide_eq_false (show ¬ ((ns.length : Int) < ns.length) by omega), eMk_sl, eNs_sl]; rfl) ?_ n 0 S ⟨hS, hk⟩ (by omega) (Nat.zero_le _)
  · exact hi
  · rintro j x s hx hj ⟨h1, h2⟩
    have hI := slices_IndexFunc_typing_ringed_api_Def_typing_ringed_wrong_1_ok n l x (by omega) (by omega)
    have hsl := h1.len
    have hjl := decide_eq_true (show ((j : Int) < (ns.length : Int)) by omega)
    left
    cases hd : idxD l x with
    | none =>
      rw [hd] at hI
      refine ⟨s, ?_, by simp [hd], h1, h2⟩
      have hge : decide (ixI none ≥ 0) = false := rfl
      simp only [typing_ringed_wrong_l7, go_sem, hjl, eSs_ix hx, atS, hI, hge, gD_ft, pickP_ff, eMk_sl, eNs_sl, add1 (bt := false) (i := j) (by omega)]
    | some y =>
      have hy := idxD_lt' hd
      rw [hd] at hI
      have hge : decide ((y : Int) ≥ 0) = true := decide_eq_true (by omega)
      have hnp : numP l.length (eI (y : Int)) = some y := by rw [numP_nat, if_pos hy]
      have hii : ixI (some y) = (y : Int) := rfl
      by_cases hys : y ∈ s
      · refine ⟨s, ?_, by simp [hd, adS_cons, hys], h1, h2⟩
        simp only [typing_ringed_wrong_l7, go_sem, hjl, eSs_ix hx, atS, hI, hii, hge, eMk_el, hnp, eMk_get hy, atB, decide_eq_true hys, gD_tt, pickP_tt, eMk_sl, eNs_sl, add1 (bt := false) (i := j) (by omega)]
      · have h3 := h1.snoc hy hys
        refine ⟨s ++ [y], ?_, by simp only [List.filterMap_cons, hd, adS_cons, if_neg hys], h3, by simp; omega⟩
        have e1 : (i :: (s ++ [y])).drop k = (i :: s).drop k ++ [y] := by rw [← List.cons_append, List.drop_append_of_le_length (by simpa using h2)]
        have hrm : roomP (((i :: s).drop k).length + 1) 8 = true := roomP_ok (by simp; omega) (by simp; omega)
        rw [e1]
        simp only [typing_ringed_wrong_l7, go_sem, hjl, eSs_ix hx, atS, hI, hii, hge, eMk_el, hnp, eMk_get hy, atB, decide_eq_false hys, gD_tt, pickP_tt, eNs_el, List.length_cons, List.length_nil, Nat.zero_add, hrm, eMk_set hy, eNs_sn, eMk_sl, eNs_sl, add1 (bt := false) (i := j) (by omega)]
theorem ringed_l3_ok (n : Nat) (l : List Df) {B : Nat} (hl : DL B l) (i : Nat) (hil : i < l.length) (hn : 4 * B + 200 < n) : ∀ (m k : Nat) (S : List Nat), BInv (to l) l.length i k S → l.length + 1 - k < m →
    iterL (typing_ringed_wrong_l3 n) m [eDs l, eI (i : Int), eMk l.length S, eNs ((i :: S).drop k)] = some (.inl [eI (i : Int), eMk l.length (bfsS (to l) i m k S)])
  | 0, _, _, _, h => absurd h (Nat.not_lt_zero _)
  | m + 1, k, S, h, hm => by
    have hlen := hl.len
    have hb := hl.b
    rw [iterL_s, bfsS]
    have hSl := h.inv.len
    have hle := h.le
    cases hx : (i :: S)[k]? with
    | none =>
      have hk : S.length + 1 ≤ k := by
        have := List.getElem?_eq_none_iff.1 hx
        simpa using this
      have e0 : (i :: S).drop k = [] := List.drop_eq_nil_of_le (by simpa using hk)
      rw [e0]
      have e1 : (esD (eNs [])).length = 0 := rfl
      have e2 : decide (((0 : Nat) : Int) > 0) = false := rfl
      simp only [typing_ringed_wrong_l3, go_sem, e1, e2, eMk_sl]
    | some x =>
      have hk : k < S.length + 1 := by
        have := (List.getElem?_eq_some_iff.1 hx).1
        simpa using this
      have hxl : x < l.length := by
        cases k with
        | zero => simp at hx; omega
        | succ k => exact h.inv.2 x (List.mem_of_getElem? (by simpa using hx))
      obtain ⟨d, hd⟩ : ∃ d, l[x]? = some d := ⟨l[x], List.getElem?_eq_getElem hxl⟩
      have hdm := hl.e d (List.mem_of_getElem? hd)
      have hnx := h.next (fun i k hk => to_lt i k hk) hx
      have ih := ringed_l3_ok n l hl i hil hn m (k + 1) _ hnx (by omega)
      have hN := terms_Names_ok n d.e (by omega) hdm.1 (by omega)
      have hnm := nmT_len d.e
      have h7 := ringed_l7_ok n l hl i k (nmT 3 d.e []) S h.inv hle (by omega) (by omega)
      have hto : (nmT 3 d.e []).filterMap (idxD l) = to l x := by rw [to_some hd]; rfl
      rw [hto] at h7
      obtain ⟨T, hT⟩ := (adS_p (N := l.length) (to l x) S h.inv (to_lt x)).pre
      have hql : ((i :: adS S (to l x)).drop k).length = (adS S (to l x)).length + 1 - k := by simp
      have hal := hnx.le
      have hlen1 : ((i :: S).drop k).length = S.length + 1 - k := by simp
      have hgt : decide (((((i :: S).drop k).length : Nat) : Int) > 0) = true := decide_eq_true (by rw [hlen1]; omega)
      have hg0 : ((i :: S).drop k)[0]? = some x := by rw [List.getElem?_drop]; exact hx
      have hnp : numP ((i :: S).drop k).length (eI 0) = some 0 := by
        have : (eI 0) = eI ((0 : Nat) : Int) := rfl
        rw [this, numP_nat, if_pos (by rw [hlen1]; omega)]
      have hcut : cutP ((i :: adS S (to l x)).drop k).length (some (eI 1)) none = some (1, ((i :: adS S (to l x)).drop k).length - 1) := by
        have h1 : 1 ≤ ((i :: adS S (to l x)).drop k).length := by rw [hql]; omega
        generalize ((i :: adS S (to l x)).drop k).length = q at *
        have : (eI 1) = eI ((1 : Nat) : Int) := rfl
        rw [this]
        simp [cutP, bndP, eI, h1]
      have hle2 : decide (1 + (((i :: adS S (to l x)).drop k).length - 1) ≤ ((i :: adS S (to l x)).drop k).length) = true := decide_eq_true (by rw [hql]; omega)
      have etk : D.sl 1 (((esD (eNs ((i :: adS S (to l x)).drop k))).drop 1).take (((i :: adS S (to l x)).drop k).length - 1)) = eNs ((i :: adS S (to l x)).drop (k + 1)) := by
        have e3 : ((((i :: adS S (to l x)).drop k).drop 1).take (((i :: adS S (to l x)).drop k).length - 1)) = (i :: adS S (to l x)).drop (k + 1) := by
          rw [List.drop_drop, List.take_of_length_le]
          simp; omega
        show D.sl 1 (((((i :: adS S (to l x)).drop k).map fun (i : Nat) => [eI (i : Int)]).drop 1).take _) = eNs _
        rw [← e3]
        unfold eNs
        simp only [List.map_take, List.map_drop]
      simp only [typing_ringed_wrong_l3, go_sem, eNs_el, hgt, hnp, eNs_get hg0, atI, eDs_ix hd, Df.at1, hN, eSs_len, eMk_sl, eNs_sl, h7, hcut, hle2, etk, ih]
theorem typing_ringed_wrong_ok (n : Nat) (m : Md) {l : List Df} {B : Nat} (hl : DL B l) (i : Nat) (hi : i < l.length) (hn : 4 * B + 200 < n) : typing_ringed_wrongL n [eDs l, m.d, eI (i : Int)] = some (eI (if ringB l i = true then 14 else 0)) := by
  have hlen := hl.len
  have hb := hl.b
  have h3 := ringed_l3_ok n l hl i hi hn n 0 [] (BInv.start _ _ _) (by omega)
  have hiff := bfsS_ok (fun i k hk => to_lt i k hk) n 0 [] (BInv.start (to l) l.length i) (by omega)
  rw [← ringB_iff l i] at hiff
  generalize bfsS (to l) i n 0 [] = S at *
  have hmk : makeP 1 (eI (l.length : Int)) (eI (l.length : Int)) = some l.length := by simp [makeP, eI]; omega
  have e1 : D.sl 1 (List.replicate l.length [eB false]) = eMk l.length [] := by rw [mkB_nil]; rfl
  have e2 : D.sl 1 [[eI (i : Int)]] = eNs ((i :: []).drop 0) := rfl
  have hnp : numP l.length (eI (i : Int)) = some i := by rw [numP_nat, if_pos hi]
  simp only [typing_ringed_wrongL, typing_ringed_wrong, go_sem, Md.agg, eDs_len, hmk, e1, e2, h3, eMk_el, hnp, eMk_get hi, atB]
  by_cases h : ringB l i = true
  · rw [if_pos h, if_pos (decide_eq_true (hiff.2 h))]
  · rw [if_neg h, if_neg (by simpa using fun hh => h (hiff.1 hh))]
end Go.Am
namespace Go.Am
set_option linter.unusedVariables false
set_option linter.unusedSimpArgs false
/-! ### The first error of a list -/
def fE (e : Nat → Int) : Nat → Nat → Int × Int
  | 0, _ => (0, 0)
  | m + 1, i => if e i = 0 then fE e m (i + 1) else ((i : Int), e i)
theorem fE_zero (e : Nat → Int) : ∀ (m i : Nat), (fE e m i).2 = 0 ↔ ∀ j, i ≤ j → j < i + m → e j = 0
  | 0, i => by simp [fE]; intro j h1 h2; omega
  | m + 1, i => by
    rw [fE]
    by_cases h : e i = 0
    · rw [if_pos h, fE_zero e m (i + 1)]
      constructor
      · intro h1 j h2 h3
        by_cases hj : j = i
        · subst hj; exact h
        · exact h1 j (by omega) (by omega)
      · intro h1 j h2 h3; exact h1 j (by omega) (by omega)
    · rw [if_neg h]
      exact ⟨fun h1 => absurd h1 h, fun h1 => absurd (h1 i (Nat.le_refl _) (by omega)) h⟩
theorem iterL_err {γ : Type} {f : List D → Option (List D ⊕ (List D ⊕ γ))} (I : Nat → List D) (e : Nat → Int) (N : Nat) (L : List D) (W : Int × Int → γ)
    (hs : ∀ i, i < N → f (I i) = some (if e i = 0 then .inl (I (i + 1)) else .inr (.inr (W ((i : Int), e i))))) (he : f (I N) = some (.inr (.inl L))) :
    ∀ (m i n : Nat), i + m = N → m < n → iterL f n (I i) = some (if (fE e m i).2 = 0 then .inl L else .inr (W (fE e m i)))
  | 0, i, n, h, hn => by
    obtain ⟨k, rfl⟩ : ∃ k, n = k + 1 := ⟨n - 1, by omega⟩
    have : i = N := by omega
    subst this
    rw [iterL_s, he]; rfl
  | m + 1, i, n, h, hn => by
    obtain ⟨k, rfl⟩ : ∃ k, n = k + 1 := ⟨n - 1, by omega⟩
    rw [iterL_s, hs i (by omega), fE]
    by_cases h0 : e i = 0
    · rw [if_pos h0, if_pos h0]
      exact iterL_err I e N L W hs he m (i + 1) k (by omega) (by omega)
    · rw [if_neg h0, if_neg h0]
      simp only [obind_s, if_neg h0]
/-! ### A module whose check is asked -/
structure MOk (m : Md) (n : Nat) : Prop where
  sz : MSz m
  big : 302000000 < n
  vo : VsOk m.vars
  vn : ∀ v ∈ m.vars, v.name.size + 24 < n
  dn : ∀ d ∈ m.defs, d.name.size + 24 < n ∧ d.name.size ≤ 9223372036854775807
  init : m.init.length ≤ 100 ∧ ∀ t ∈ m.init, t.Ok ∧ t.sz ≤ 12300
  invar : m.invar.length ≤ 100 ∧ ∀ t ∈ m.invar, t.Ok ∧ t.sz ≤ 12300
  next : m.next.length ≤ 100 ∧ ∀ d ∈ m.next, d.e.Ok ∧ d.e.sz ≤ 12300
  trans : m.trans.length ≤ 100 ∧ ∀ t ∈ m.trans, t.Ok ∧ t.sz ≤ 12300
  fair : m.fair.length ≤ 100 ∧ ∀ t ∈ m.fair, t.Ok ∧ t.sz ≤ 12300
  specs : m.specs.length ≤ 100 ∧ ∀ s ∈ m.specs, (s.f.Ok ∧ s.f.sz ≤ 12300) ∧ s.name.size + 24 < n ∧ s.name.size ≤ 9223372036854775807
noncomputable section
mutual
def fmM (m : Md) : Fm → Int
  | .mk o t b ks => if o = 1 then trM m false t else fmML m ks
def fmML (m : Md) : List Fm → Int
  | [] => 0
  | k :: r => if fmM m k = 0 then fmML m r else fmM m k
end
theorem fmM_eq (m : Md) (f : Fm) : fmM m f = if f.op = 1 then trM m false f.e else fmML m f.kids := by cases f; rw [fmM]; rfl
def nmE (m : Md) (i : Nat) : Int := match m.defs[i]? with
  | some d => if isName d.name = true then (if ((idxV m.vars d.name).isSome || (idxD (m.defs.take i) d.name).isSome) = true then 6 else 0) else 12
  | none => 0
def rgE (m : Md) (i : Nat) : Int := if ringB m.defs i = true then 14 else 0
def mtE (m : Md) (i : Nat) : Int := match m.defs[i]? with
  | some d => (tyM m false d.e).2
  | none => 0
def tmE (m : Md) (l : List Tm) (nx : Bool) (i : Nat) : Int := match l[i]? with
  | some t => trM m nx t
  | none => 0
def nxE (m : Md) (i : Nat) : Int := match m.next[i]? with
  | some d => match idxV m.vars d.name with
    | none => 12
    | some k => if (idxD (m.next.take i) d.name).isSome = true then 6 else if ((tyM m false d.e).2 == 0 && ((tyM m false d.e).1.b != (m.vars[k]?.map V.bool).getD false)) = true then 13 else (tyM m false d.e).2
  | none => 0
def spE (m : Md) (i : Nat) : Int := match m.specs[i]? with
  | some s => if isName s.name = true then (if (idxS (m.specs.take i) s.name).isSome = true then 6 else if chkF s.f = 0 then fmM m s.f else chkF s.f) else 12
  | none => 0
end
theorem eDs_take {l : List Df} {i : Nat} (h : i ≤ l.length) : subP 5 (eDs l) none (some (eI (i : Int))) = some (eDs (l.take i)) := by
  rw [eDs, subP_take (by simpa using h)]
  simp [eDs, List.map_take]
theorem eSps_take {l : List Sp} {i : Nat} (h : i ≤ l.length) : subP 7 (eSps l) none (some (eI (i : Int))) = some (eSps (l.take i)) := by
  rw [eSps, subP_take (by simpa using h)]
  simp [eSps, List.map_take]
theorem typing_formula_ok {m : Md} (hm : MSz m) : ∀ (n : Nat) (f : Fm), 301000000 + f.sz < n → f.Ok → f.sz ≤ 12300 → typing_formulaL n [m.d, f.d] = some (eI (fmM m f))
  | 0, _, h, _, _ => absurd h (Nat.not_lt_zero _)
  | n + 1, f, hn, hok, hs => by
    have hse := f.sz_e
    have hkl := f.sz_len
    rw [fmM_eq]
    have hT := typing_truth_ok hm n (by omega) hok.e (by omega) false
    have hlen : lenP (rowD 6 f.nl (Fm.rows f.kids)) = some (eI f.kids.length) := by simp
    have hl := iterL_list (f := typing_formula_l4 (typing_formulaL n) n) f.kids (fun i (_ : Unit) => [rowD 6 f.nl (Fm.rows f.kids), eI f.kids.length, eI (i : Int), eVs m.vars, eDs m.defs, eTs m.init, eTs m.invar, eDs m.next, eTs m.trans, eTs m.fair, eSps m.specs])
      (fun r _ => if fmML m r = 0 then (.inl [] : List D ⊕ D) else .inr (eI (fmML m r))) (fun _ _ => True) ?_ ?_ n 0 () trivial (by have := f.sz_len; omega) (Nat.zero_le _)
    · have e0 : (eI ((0 : Nat) : Int)) = eI 0 := rfl
      rw [e0, List.drop_zero] at hl
      show typing_formula (typing_formulaL n) n m.d f.d = _
      by_cases h1 : f.op = 1
      · have h1' : (f.op == 1) = true := by simp [h1]
        simp only [typing_formula, go_sem, Md.agg, h1', if_pos h1, Md.c0, Md.c1, Md.c2, Md.c3, Md.c4, Md.c5, Md.c6, Md.c7, Md.eta, hT]
      · have h1' : (f.op == 1) = false := by simpa using h1
        simp only [typing_formula, go_sem, Md.agg, h1', if_neg h1, Md.c0, Md.c1, Md.c2, Md.c3, Md.c4, Md.c5, Md.c6, Md.c7, Md.eta, hlen, hl]
        by_cases h0 : fmML m f.kids = 0
        · rw [if_pos h0, h0, jnX_l]
        · rw [if_neg h0, jnX_r]
    · intro _ _
      simp only [typing_formula_l4, go_sem, decide_eq_false (show ¬ ((f.kids.length : Int) < f.kids.length) by omega), fmML]
    · intro i a _ ha hi _
      have hmem := List.mem_of_getElem? ha
      have hz := Fm.sz_kid hmem
      have hr := typing_formula_ok hm n a (by omega) (hok.kid hmem) (by omega)
      have hjl := decide_eq_true (show ((i : Int) < (f.kids.length : Int)) by omega)
      by_cases h0 : fmM m a = 0
      · left
        rw [h0] at hr
        refine ⟨(), ?_, by simp only [fmML, h0, if_true], trivial⟩
        have hz : ((0 : Int) != 0) = false := rfl
        simp only [typing_formula_l4, go_sem, hjl, Fm.ixP_kid ha, Md.eta, hr, hz, add1 (bt := false) (i := i) (by omega)]
      · right
        have hz : (fmM m a != 0) = true := by simpa using h0
        simp only [typing_formula_l4, go_sem, hjl, Fm.ixP_kid ha, Md.eta, hr, hz, fmML, if_neg h0]
/-! ### A single declaration -/
section
variable {m : Md} {n : Nat} (hm : MOk m n)
include hm
theorem typing_named_wrong_ok (i : Nat) (hi : i < m.defs.length) : typing_named_wrongL n [eDs m.defs, m.d, eI (i : Int)] = some (eI (nmE m i)) := by
  have hb := hm.big
  have hdl := hm.sz.dl
  have hvl := hm.sz.vl
  obtain ⟨d, hd⟩ : ∃ d, m.defs[i]? = some d := ⟨m.defs[i], List.getElem?_eq_getElem hi⟩
  have hdn := hm.dn d (List.mem_of_getElem? hd)
  have hN := lexi_Is_ok n d.name (by omega) hdn.2
  have hV := slices_ContainsFunc_Lapi_Var_api_Var_typing_named_wrong_1_ok n m.vars d.name (by omega) (by omega)
  have hD := slices_ContainsFunc_typing_named_api_Def_typing_named_wrong_2_ok n (m.defs.take i) d.name (by simp; omega) (by simp; omega)
  have hs := eDs_take (l := m.defs) (i := i) (by omega)
  simp only [nmE, hd]
  cases h1 : isName d.name with
  | false => simp only [typing_named_wrongL, typing_named_wrong, go_sem, Md.agg, eDs_ix hd, Df.at0, hN, h1]
  | true =>
    cases h2 : (idxV m.vars d.name).isSome with
    | true => simp only [typing_named_wrongL, typing_named_wrong, go_sem, Md.agg, Md.c0, eDs_ix hd, Df.at0, hN, h1, hV, h2]
    | false =>
      cases h3 : (idxD (m.defs.take i) d.name).isSome with
      | true => simp only [typing_named_wrongL, typing_named_wrong, go_sem, Md.agg, Md.c0, eDs_ix hd, Df.at0, hN, h1, hV, h2, hs, hD, h3, Bool.or_false, Bool.false_or]
      | false => simp only [typing_named_wrongL, typing_named_wrong, go_sem, Md.agg, Md.c0, eDs_ix hd, Df.at0, hN, h1, hV, h2, hs, hD, h3, Bool.or_false, Bool.false_or]
theorem typing_meant_wrong_ok (i : Nat) (hi : i < m.defs.length) : typing_meant_wrongL n [eDs m.defs, m.d, eI (i : Int)] = some (eI (mtE m i)) := by
  have hb := hm.big
  obtain ⟨d, hd⟩ : ∃ d, m.defs[i]? = some d := ⟨m.defs[i], List.getElem?_eq_getElem hi⟩
  have hdm := hm.sz.d.e d (List.mem_of_getElem? hd)
  have hT := typing_typed_ok hm.sz n (by omega) hdm.1 hdm.2 false
  simp only [mtE, hd]
  simp only [typing_meant_wrongL, typing_meant_wrong, go_sem, Md.agg, Md.c0, Md.c1, Md.c2, Md.c3, Md.c4, Md.c5, Md.c6, Md.c7, Md.eta, eDs_ix hd, Df.at1, hT, Yag]
theorem typing_truths_wrong_ok (l : List Tm) (hl : ∀ t ∈ l, t.Ok ∧ t.sz ≤ 12300) (k : Int) (nx : Bool) (i : Nat) (hi : i < l.length) : typing_truths_wrongL n [.agg [eI k, eTs l, eB nx], m.d, eI (i : Int)] = some (eI (tmE m l nx i)) := by
  have hb := hm.big
  obtain ⟨t, ht⟩ : ∃ t, l[i]? = some t := ⟨l[i], List.getElem?_eq_getElem hi⟩
  have htm := hl t (List.mem_of_getElem? ht)
  have hT := typing_truth_ok hm.sz n (by omega) htm.1 htm.2 nx
  have ha : aggP 3 (.agg [eI k, eTs l, eB nx]) = true := rfl
  have c1 : celD (.agg [eI k, eTs l, eB nx]) 1 = eTs l := rfl
  have c2 : celD (.agg [eI k, eTs l, eB nx]) 2 = eB nx := rfl
  simp only [tmE, ht]
  simp only [typing_truths_wrongL, typing_truths_wrong, go_sem, ha, c1, c2, Md.agg, Md.c0, Md.c1, Md.c2, Md.c3, Md.c4, Md.c5, Md.c6, Md.c7, Md.eta, eTs_ix ht, hT]
theorem typing_nexts_wrong_ok (i : Nat) (hi : i < m.next.length) : typing_nexts_wrongL n [eDs m.next, m.d, eI (i : Int)] = some (eI (nxE m i)) := by
  have hb := hm.big
  have hnl := hm.next.1
  have hvl := hm.sz.vl
  obtain ⟨d, hd⟩ : ∃ d, m.next[i]? = some d := ⟨m.next[i], List.getElem?_eq_getElem hi⟩
  have hdm := hm.next.2 d (List.mem_of_getElem? hd)
  have hT := typing_typed_ok hm.sz n (by omega) hdm.1 hdm.2 false
  have hV := slices_IndexFunc_Lapi_Var_api_Var_typing_nexts_wrong_1_ok n m.vars d.name (by omega) (by omega)
  have hD := slices_ContainsFunc_typing_nexts_api_Def_typing_nexts_wrong_2_ok n (m.next.take i) d.name (by simp; omega) (by simp; omega)
  have hs := eDs_take (l := m.next) (i := i) (by omega)
  simp only [nxE, hd]
  cases h1 : idxV m.vars d.name with
  | none =>
    have h0 : decide (ixI none < 0) = true := rfl
    simp only [typing_nexts_wrongL, typing_nexts_wrong, go_sem, Md.agg, Md.c0, eDs_ix hd, Df.at0, hV, h1, h0]
  | some k =>
    have h0 : decide (ixI (some k) < 0) = false := by rw [ixI_lt]; rfl
    have hkl : k < m.vars.length := by
      have := List.findIdx?_eq_some_iff_getElem.1 h1
      exact this.1
    obtain ⟨v, hv⟩ : ∃ v, m.vars[k]? = some v := ⟨m.vars[k], List.getElem?_eq_getElem hkl⟩
    have hvx : ixP 4 (eVs m.vars) (eI (ixI (some k))) = some v.cells := eVs_ix hv
    have hvb : atP false 1 1 v.cells = some (eB v.bool) := rfl
    simp only [hv, Option.map_some, Option.getD_some]
    cases h3 : (idxD (m.next.take i) d.name).isSome with
    | true => simp only [typing_nexts_wrongL, typing_nexts_wrong, go_sem, Md.agg, Md.c0, eDs_ix hd, Df.at0, hV, h1, h0, hs, hD, h3]
    | false =>
      generalize tyM m false d.e = y at *
      have hne : binP true .neq (eB y.1.b) (eB v.bool) = some (eB (y.1.b != v.bool)) := rfl
      simp only [typing_nexts_wrongL, typing_nexts_wrong, go_sem, Md.agg, Md.c0, Md.c1, Md.c2, Md.c3, Md.c4, Md.c5, Md.c6, Md.c7, Md.eta, eDs_ix hd, Df.at0, Df.at1, hV, h1, h0, hs, hD, h3, hT, Yag, Yc0, hvx, hvb, hne]
      by_cases hc : (y.2 == 0 && (y.1.b != v.bool)) = true
      · rw [if_pos hc, if_pos hc]
      · rw [if_neg hc, if_neg hc]
theorem typing_specs_wrong_ok (i : Nat) (hi : i < m.specs.length) : typing_specs_wrongL n [eSps m.specs, m.d, eI (i : Int)] = some (eI (spE m i)) := by
  have hb := hm.big
  have hsl := hm.specs.1
  obtain ⟨s, hs⟩ : ∃ s, m.specs[i]? = some s := ⟨m.specs[i], List.getElem?_eq_getElem hi⟩
  obtain ⟨⟨hf, hfz⟩, hs2, hs3⟩ := hm.specs.2 s (List.mem_of_getElem? hs)
  have hN := lexi_Is_ok n s.name (by omega) hs3
  have hD := slices_ContainsFunc_typing_specs_api_Spec_typing_specs_wrong_1_ok n (m.specs.take i) s.name (by simp; omega) (by simp; omega)
  have hsub := eSps_take (l := m.specs) (i := i) (by omega)
  have hC := forms_Check_ok n s.f (by omega) hf (by omega)
  have hF := typing_formula_ok hm.sz n s.f (by omega) hf hfz
  simp only [spE, hs]
  cases h1 : isName s.name with
  | false => simp only [typing_specs_wrongL, typing_specs_wrong, go_sem, Md.agg, eSps_ix hs, Sp.at0, hN, h1]
  | true =>
    cases h3 : (idxS (m.specs.take i) s.name).isSome with
    | true => simp only [typing_specs_wrongL, typing_specs_wrong, go_sem, Md.agg, eSps_ix hs, Sp.at0, hN, h1, hsub, hD, h3]
    | false =>
      by_cases h4 : chkF s.f = 0
      · have h4' : (chkF s.f != 0) = false := by simp [h4]
        simp only [typing_specs_wrongL, typing_specs_wrong, go_sem, Md.agg, Md.c0, Md.c1, Md.c2, Md.c3, Md.c4, Md.c5, Md.c6, Md.c7, Md.eta, eSps_ix hs, Sp.at0, Sp.at1, hN, h1, hsub, hD, h3, hC, h4', if_pos h4, hF]
      · have h4' : (chkF s.f != 0) = true := by simpa using h4
        simp only [typing_specs_wrongL, typing_specs_wrong, go_sem, Md.agg, Md.c0, Md.c1, Md.c2, Md.c3, Md.c4, Md.c5, Md.c6, Md.c7, Md.eta, eSps_ix hs, Sp.at0, Sp.at1, hN, h1, hsub, hD, h3, hC, h4', if_neg h4]
end
end Go.Am
namespace Go.Am
set_option linter.unusedVariables false
set_option linter.unusedSimpArgs false
section
variable {m : Md} {n : Nat} (hm : MOk m n)
include hm
end
end Go.Am
namespace Go.Am
set_option linter.unusedVariables false
set_option linter.unusedSimpArgs false
/-! ### Bits and states -/
def sumB : List V → Nat
  | [] => 0
  | v :: r => bitsOf v.span + sumB r
theorem V.ag (v : V) : D.agg [celD v.d 0, celD v.d 1, celD v.d 2, celD v.d 3] = v.d := rfl
theorem typing_Bits_ok (n : Nat) (m : Md) (hv : VsOk m.vars) (hl : m.vars.length ≤ 100) (hn : 200 < n) : typing_BitsL n [m.d] = some (eI (sumB m.vars : Nat)) := by
  have hi := iterL_list (f := typing_Bits_l3 n) m.vars (fun i (s : Nat) => [eI (s : Int), eVs m.vars, eI m.vars.length, eI (i : Int)]) (fun r s => (.inl [eI ((s + sumB r : Nat) : Int)] : List D ⊕ D)) (fun i s => s ≤ 62 * i) ?_ ?_ n 0 0 (by simp) (by omega) (Nat.zero_le _)
  · have e0 : (eI ((0 : Nat) : Int)) = eI 0 := rfl
    rw [e0, List.drop_zero, Nat.zero_add] at hi
    simp only [typing_BitsL, typing_Bits, go_sem, Md.agg, Md.c0, eVs_len, hi]
  · intro s hs
    simp only [typing_Bits_l3, go_sem, decide_eq_false (show ¬ ((m.vars.length : Int) < m.vars.length) by omega), sumB, Nat.add_zero]
  · intro i v s hv' hi hs
    obtain ⟨h1, h2, _⟩ := hv.2 v (List.mem_of_getElem? hv')
    have hsp := typing_Span_ok n v h1 h2
    have hb := num_Bits_ok n v.span (V.span_le v).2 (by omega)
    have hb1 := (bitsOf_spec (V.span_le v).2).1
    have hil := decide_eq_true (show ((i : Int) < (m.vars.length : Int)) by omega)
    have hadd : binP false .add (eI (s : Int)) (eI (bitsOf v.span : Nat)) = some (eI ((s + bitsOf v.span : Nat) : Int)) := by
      rw [b_add (by omega) (by omega)]; rfl
    left
    refine ⟨s + bitsOf v.span, ?_, by rw [sumB, Nat.add_assoc], by omega⟩
    simp only [typing_Bits_l3, go_sem, hil, eVs_ix hv', V.a4, V.g4, V.ag, hsp, hb, hadd, add1 (bt := false) (i := i) (by omega)]
/-- The product of the spans, left alone where it is too great. -/
def prS : List V → Int → Int
  | [], a => a
  | v :: r, a => prS r (if a ≤ 1073741824 then a * max v.span 1 else a)
theorem prS_big : ∀ (l : List V) (a : Int), ¬ a ≤ 1073741824 → prS l a = a
  | [], a, _ => rfl
  | v :: r, a, h => by rw [prS, if_neg h, prS_big r a h]
def noneV (l : List V) : Bool := l.any fun v => v.span == 0
def stM (l : List V) : Int × Bool := if noneV l = true then (0, true) else if prS l 1 > 1073741824 then (0, false) else (prS l 1, true)
theorem mm1 {a : Int} : mmP true [eI a, eI 1] = some (eI (max a 1)) := by
  rw [mm_max]
  congr 2
  split <;> omega
theorem mul_bdS {a k : Int} (h1 : 1 ≤ a) (h2 : a ≤ 1073741824) (h3 : 0 ≤ k) (h4 : k ≤ 1073741825) : 1 ≤ a * max k 1 ∧ a * max k 1 ≤ 1152921505680588800 := by
  have h5 : 1 ≤ max k 1 := by omega
  have h6 : max k 1 ≤ 1073741825 := by omega
  generalize max k 1 = q at *
  constructor
  · have := Int.mul_le_mul h1 h5 (by omega) (by omega); simpa using this
  · have := Int.mul_le_mul h2 h6 (by omega) (by omega); exact this
theorem typing_States_ok (n : Nat) (m : Md) (hv : VsOk m.vars) (hl : m.vars.length ≤ 100) (hn : 200 < n) : typing_StatesL n [m.d] = some (.tup [eI (stM m.vars).1, eB (stM m.vars).2]) := by
  have hi := iterL_list (f := typing_States_l3 n) m.vars (fun i (s : Int × Bool) => [eI s.1, eB s.2, eVs m.vars, eI m.vars.length, eI (i : Int)]) (fun r s => (.inl [eI (prS r s.1), eB (s.2 || noneV r)] : List D ⊕ D)) (fun i s => 1 ≤ s.1 ∧ s.1 ≤ 1152921505680588800) ?_ ?_ n 0 (1, false) (by simp) (by omega) (Nat.zero_le _)
  · have e0 : (eI ((0 : Nat) : Int)) = eI 0 := rfl
    rw [e0, List.drop_zero, Bool.false_or] at hi
    unfold stM
    cases h1 : noneV m.vars with
    | true => rw [h1] at hi; simp only [typing_StatesL, typing_States, go_sem, Md.agg, Md.c0, eVs_len, hi]
    | false =>
      rw [h1] at hi
      by_cases h2 : prS m.vars 1 > 1073741824
      · simp only [typing_StatesL, typing_States, go_sem, Md.agg, Md.c0, eVs_len, hi, decide_eq_true h2, if_pos h2]
      · simp only [typing_StatesL, typing_States, go_sem, Md.agg, Md.c0, eVs_len, hi, decide_eq_false h2, if_neg h2]
  · intro s hs
    simp only [typing_States_l3, go_sem, decide_eq_false (show ¬ ((m.vars.length : Int) < m.vars.length) by omega), prS, noneV, List.any_nil, Bool.or_false]
  · intro i v s hv' hi hs
    obtain ⟨h1, h2, _⟩ := hv.2 v (List.mem_of_getElem? hv')
    have hsp := typing_Span_ok n v h1 h2
    have hsl := V.span_le v
    have hil := decide_eq_true (show ((i : Int) < (m.vars.length : Int)) by omega)
    have hnone : ∀ r, noneV (v :: r) = (v.span == 0 || noneV r) := fun r => rfl
    left
    by_cases hc : s.1 ≤ 1073741824
    · have hb := mul_bdS hs.1 hc hsl.1 hsl.2
      refine ⟨(s.1 * max v.span 1, s.2 || v.span == 0), ?_, by rw [prS, if_pos hc, hnone, Bool.or_assoc], hb⟩
      simp only [typing_States_l3, go_sem, hil, eVs_ix hv', V.a4, V.g4, V.ag, hsp, decide_eq_true hc, mm1, b_mul (bt := false) (a := s.1) (b := max v.span 1) (by omega) (by omega), add1 (bt := false) (i := i) (by omega)]
    · refine ⟨(s.1, s.2 || v.span == 0), ?_, by rw [prS, if_neg hc, hnone, Bool.or_assoc], hs⟩
      simp only [typing_States_l3, go_sem, hil, eVs_ix hv', V.a4, V.g4, V.ag, hsp, decide_eq_false hc, add1 (bt := false) (i := i) (by omega)]
theorem ref36_States_ok (n : Nat) (m : Md) (hv : VsOk m.vars) (hl : m.vars.length ≤ 100) (hn : 200 < n) : ref36_StatesL n [m.d] = some (.tup [eI (stM m.vars).1, eB (stM m.vars).2]) := by
  have h3 := iterL_list (f := ref36_States_l3 n) m.vars (fun i (_ : Unit) => [eI 1, eI (i : Int), eVs m.vars, eDs m.defs, eTs m.init, eTs m.invar, eDs m.next, eTs m.trans, eTs m.fair, eSps m.specs]) (fun r _ => (if noneV r = true then .inr (.tup [eI 0, eB true]) else .inl [eI 1, eVs m.vars, eDs m.defs, eTs m.init, eTs m.invar, eDs m.next, eTs m.trans, eTs m.fair, eSps m.specs] : List D ⊕ D)) (fun _ _ => True) ?_ ?_ n 0 () trivial (by omega) (Nat.zero_le _)
  · have e0 : (eI ((0 : Nat) : Int)) = eI 0 := rfl
    rw [e0, List.drop_zero] at h3
    unfold stM
    by_cases h1 : noneV m.vars = true
    · rw [if_pos h1] at h3 ⊢
      simp only [ref36_StatesL, ref36_States, go_sem, Md.agg, Md.c0, Md.c1, Md.c2, Md.c3, Md.c4, Md.c5, Md.c6, Md.c7, h3]
    · rw [if_neg h1] at h3 ⊢
      have hpos : ∀ v ∈ m.vars, v.span ≠ 0 := by
        intro v hv hz
        apply h1
        unfold noneV
        rw [List.any_eq_true]
        exact ⟨v, hv, by simp [hz]⟩
      have h8 := iterL_list (f := ref36_States_l8 n) m.vars (fun i (s : Int) => [eI s, eI (i : Int), eVs m.vars, eDs m.defs, eTs m.init, eTs m.invar, eDs m.next, eTs m.trans, eTs m.fair, eSps m.specs]) (fun r s => (if prS r s > 1073741824 then .inr (.tup [eI 0, eB false]) else .inl [eI (prS r s)] : List D ⊕ D)) (fun i s => 1 ≤ s ∧ s ≤ 1073741824) ?_ ?_ n 0 1 (by simp) (by omega) (Nat.zero_le _)
      · rw [e0, List.drop_zero] at h8
        by_cases h2 : prS m.vars 1 > 1073741824
        · rw [if_pos h2] at h8 ⊢
          simp only [ref36_StatesL, ref36_States, go_sem, Md.agg, Md.c0, Md.c1, Md.c2, Md.c3, Md.c4, Md.c5, Md.c6, Md.c7, h3, h8]
        · rw [if_neg h2] at h8 ⊢
          simp only [ref36_StatesL, ref36_States, go_sem, Md.agg, Md.c0, Md.c1, Md.c2, Md.c3, Md.c4, Md.c5, Md.c6, Md.c7, h3, h8]
      · intro s hs
        have : ¬ s > 1073741824 := by omega
        rw [prS, if_neg this]
        simp only [ref36_States_l8, go_sem, eVs_len, decide_eq_false (show ¬ ((m.vars.length : Int) < m.vars.length) by omega)]
      · intro i v s hv' hi hs
        have hmem := List.mem_of_getElem? hv'
        obtain ⟨h1, h2, _⟩ := hv.2 v hmem
        have hsp := ref36_Span_ok n v h1 h2
        have hsl := V.span_le v
        have hp := hpos v hmem
        have hmx : max v.span 1 = v.span := by omega
        have hb := mul_bdS hs.1 hs.2 hsl.1 hsl.2
        rw [hmx] at hb
        have hil := decide_eq_true (show ((i : Int) < (m.vars.length : Int)) by omega)
        by_cases hc : s * v.span > 1073741824
        · right
          rw [prS, if_pos hs.2, hmx, prS_big _ _ (by omega), if_pos hc]
          simp only [ref36_States_l8, go_sem, eVs_len, hil, eVs_ix hv', V.a4, hsp, b_mul (bt := false) (a := s) (b := v.span) (by omega) (by omega), decide_eq_true hc]
        · left
          refine ⟨s * v.span, ?_, by rw [prS, if_pos hs.2, hmx], by omega⟩
          simp only [ref36_States_l8, go_sem, eVs_len, hil, eVs_ix hv', V.a4, hsp, b_mul (bt := false) (a := s) (b := v.span) (by omega) (by omega), decide_eq_false hc, add1 (bt := false) (i := i) (by omega)]
  · intro _ _
    have : ¬ (noneV [] = true) := by simp [noneV]
    simp only [ref36_States_l3, go_sem, eVs_len, decide_eq_false (show ¬ ((m.vars.length : Int) < m.vars.length) by omega), if_neg this]
  · intro i v _ hv' hi _
    obtain ⟨h1, h2, _⟩ := hv.2 v (List.mem_of_getElem? hv')
    have hsp := ref36_Span_ok n v h1 h2
    have hil := decide_eq_true (show ((i : Int) < (m.vars.length : Int)) by omega)
    have hnone : noneV (v :: m.vars.drop (i + 1)) = (v.span == 0 || noneV (m.vars.drop (i + 1))) := rfl
    by_cases hz : v.span = 0
    · right
      have hz' : (v.span == 0) = true := by simp [hz]
      rw [hnone, hz', Bool.true_or, if_pos rfl]
      simp only [ref36_States_l3, go_sem, eVs_len, hil, eVs_ix hv', V.a4, hsp, hz']
    · left
      have hz' : (v.span == 0) = false := by simpa using hz
      rw [hnone, hz', Bool.false_or]
      exact ⟨(), by simp only [ref36_States_l3, go_sem, eVs_len, hil, eVs_ix hv', V.a4, hsp, hz', add1 (bt := false) (i := i) (by omega)], rfl, trivial⟩
end Go.Am
namespace Go.Am
set_option linter.unusedVariables false
set_option linter.unusedSimpArgs false
def seqM : List (Int × (Int × Int)) → Int × (Int × Int)
  | [] => (0, (0, 0))
  | a :: r => if a.2.2 = 0 then seqM r else a
theorem iterL_seq {γ : Type} {f : List D → Option (List D ⊕ (List D ⊕ γ))} (L : List (Int × (Int × Int))) (I : Nat → List D) (E : List D) (W : Int × (Int × Int) → γ)
    (hs : ∀ i a, L[i]? = some a → f (I i) = some (if a.2.2 = 0 then .inl (I (i + 1)) else .inr (.inr (W a)))) (he : f (I L.length) = some (.inr (.inl E))) (n : Nat) (hn : L.length < n) :
    iterL f n (I 0) = some (if (seqM L).2.2 = 0 then .inl E else .inr (W (seqM L))) := by
  have h := iterL_list (f := f) L (fun i (_ : Unit) => I i) (fun r _ => (if (seqM r).2.2 = 0 then .inl E else .inr (W (seqM r)) : List D ⊕ γ)) (fun _ _ => True) (fun _ _ => by rw [he]; rfl) ?_ n 0 () trivial (by omega) (Nat.zero_le _)
  · exact h
  · intro i a _ ha hi _
    have h1 := hs i a ha
    by_cases h0 : a.2.2 = 0
    · left
      rw [if_pos h0] at h1
      exact ⟨(), h1, by rw [seqM, if_pos h0], trivial⟩
    · right
      rw [if_neg h0] at h1
      rw [h1, seqM, if_neg h0, if_neg h0]
def lnM (m : Md) : List Nat := [m.vars.length, m.defs.length, m.init.length, m.invar.length, m.next.length, m.trans.length, m.fair.length, m.specs.length]
def lnE (m : Md) (i : Nat) : Int := if 64 < (lnM m)[i]?.getD 0 then 18 else 0
noncomputable def grM (m : Md) : List (Int × (Int × Int)) := [(2, fE (nmE m) m.defs.length 0), (2, fE (rgE m) m.defs.length 0), (2, fE (mtE m) m.defs.length 0), (3, fE (tmE m m.init false) m.init.length 0), (4, fE (tmE m m.invar false) m.invar.length 0), (5, fE (nxE m) m.next.length 0), (6, fE (tmE m m.trans true) m.trans.length 0), (7, fE (tmE m m.fair false) m.fair.length 0), (8, fE (spE m) m.specs.length 0)]
noncomputable def chM (m : Md) : Int × (Int × Int) :=
  if (fE (lnE m) 8 0).2 = 0 then
    if (firstErr m.vars).2 = 0 then
      if 30 < sumB m.vars then (1, (0, 18)) else seqM (grM m)
    else (1, firstErr m.vars)
  else ((fE (lnE m) 8 0).1 + 1, (64, 18))
def chD (q : Int × (Int × Int)) : D := .tup [.agg [eI q.1, eI q.2.1], eI q.2.2]
theorem seqM_nil (L : List (Int × (Int × Int))) (h : (seqM L).2.2 = 0) : seqM L = (0, (0, 0)) := by
  induction L with
  | nil => rfl
  | cons a r ih =>
    rw [seqM] at h ⊢
    by_cases h0 : a.2.2 = 0
    · rw [if_pos h0] at h ⊢; exact ih h
    · rw [if_neg h0] at h; exact absurd h h0
theorem ifcP_i {t : Nat} {x : D} : ifcP (.ifc t x) = some (t, x) := rfl
def arL (m : Md) : D := .agg ((lnM m).map fun (k : Nat) => eI (k : Int))
def ar9 (m : Md) : D := .agg [.ifc 61 (eDs m.defs), .ifc 62 (eDs m.defs), .ifc 63 (eDs m.defs), .ifc 65 (.agg [eI 3, eTs m.init, eB false]), .ifc 65 (.agg [eI 4, eTs m.invar, eB false]), .ifc 66 (eDs m.next), .ifc 65 (.agg [eI 6, eTs m.trans, eB true]), .ifc 65 (.agg [eI 7, eTs m.fair, eB false]), .ifc 67 (eSps m.specs)]
theorem iT_61_61 {γ : Type} {a b : Option γ} : ifT 61 61 a b = a := rfl
theorem iT_62_61 {γ : Type} {a b : Option γ} : ifT 62 61 a b = b := rfl
theorem iT_62_62 {γ : Type} {a b : Option γ} : ifT 62 62 a b = a := rfl
theorem iT_63_61 {γ : Type} {a b : Option γ} : ifT 63 61 a b = b := rfl
theorem iT_63_62 {γ : Type} {a b : Option γ} : ifT 63 62 a b = b := rfl
theorem iT_63_63 {γ : Type} {a b : Option γ} : ifT 63 63 a b = a := rfl
theorem iT_65_61 {γ : Type} {a b : Option γ} : ifT 65 61 a b = b := rfl
theorem iT_65_62 {γ : Type} {a b : Option γ} : ifT 65 62 a b = b := rfl
theorem iT_65_63 {γ : Type} {a b : Option γ} : ifT 65 63 a b = b := rfl
theorem iT_65_65 {γ : Type} {a b : Option γ} : ifT 65 65 a b = a := rfl
theorem iT_66_61 {γ : Type} {a b : Option γ} : ifT 66 61 a b = b := rfl
theorem iT_66_62 {γ : Type} {a b : Option γ} : ifT 66 62 a b = b := rfl
theorem iT_66_63 {γ : Type} {a b : Option γ} : ifT 66 63 a b = b := rfl
theorem iT_66_65 {γ : Type} {a b : Option γ} : ifT 66 65 a b = b := rfl
theorem iT_66_66 {γ : Type} {a b : Option γ} : ifT 66 66 a b = a := rfl
theorem iT_67_61 {γ : Type} {a b : Option γ} : ifT 67 61 a b = b := rfl
theorem iT_67_62 {γ : Type} {a b : Option γ} : ifT 67 62 a b = b := rfl
theorem iT_67_63 {γ : Type} {a b : Option γ} : ifT 67 63 a b = b := rfl
theorem iT_67_65 {γ : Type} {a b : Option γ} : ifT 67 65 a b = b := rfl
theorem iT_67_66 {γ : Type} {a b : Option γ} : ifT 67 66 a b = b := rfl
theorem iT_67_67 {γ : Type} {a b : Option γ} : ifT 67 67 a b = a := rfl
section
variable {m : Md} {n : Nat} (hm : MOk m n)
include hm
theorem typing_Check_l2_ok : iterL (typing_Check_l2 n) n [arL m, eI 0, eVs m.vars, eDs m.defs, eTs m.init, eTs m.invar, eDs m.next, eTs m.trans, eTs m.fair, eSps m.specs, eI 0, eI 0] = some (if (fE (lnE m) 8 0).2 = 0 then .inl [eVs m.vars, eDs m.defs, eTs m.init, eTs m.invar, eDs m.next, eTs m.trans, eTs m.fair, eSps m.specs, eI 0, eI 0] else .inr (chD ((fE (lnE m) 8 0).1 + 1, (64, 18)))) := by
  have hb := hm.big
  refine iterL_err (f := typing_Check_l2 n) (fun i => [arL m, eI (i : Int), eVs m.vars, eDs m.defs, eTs m.init, eTs m.invar, eDs m.next, eTs m.trans, eTs m.fair, eSps m.specs, eI 0, eI 0]) (lnE m) 8 _ (fun p => chD (p.1 + 1, (64, 18))) ?_ ?_ 8 0 n (by omega) (by omega)
  · intro i hi
    obtain ⟨k, hk⟩ : ∃ k, (lnM m)[i]? = some k := ⟨_, List.getElem?_eq_getElem hi⟩
    have hil := decide_eq_true (show ((i : Int) < 8) by omega)
    have hnp : numP 8 (eI (i : Int)) = some i := by rw [numP_nat, if_pos hi]
    have hf : fldP false 1 (i * 1) (arL m) = some (eI (k : Int)) := by
      unfold arL
      rw [Nat.mul_one, fldP_agg, atP_f, List.getElem?_map, hk]; rfl
    have h1i : binP false .add (eI 1) (eI (i : Int)) = some (eI ((i : Int) + 1)) := by rw [b_add (by omega) (by omega)]; congr 2; omega
    have hL : lnE m i = if 64 < k then 18 else 0 := by unfold lnE; rw [hk]; rfl
    by_cases hc : 64 < k
    · rw [hL, if_pos hc, if_neg (by decide)]
      simp only [typing_Check_l2, go_sem, hil, hnp, hf, decide_eq_true (show ((k : Int) > 64) by omega), h1i, chD]
    · rw [hL, if_neg hc, if_pos rfl]
      simp only [typing_Check_l2, go_sem, hil, hnp, hf, decide_eq_false (show ¬ ((k : Int) > 64) by omega), add1 (bt := false) (i := i) (by omega)]
  · simp only [typing_Check_l2, go_sem, show decide (((8 : Nat) : Int) < 8) = false from rfl]
theorem l16_61 (A J : D) : iterL (typing_Check_l16 n) n [D.ifc 61 (eDs m.defs), A, J, eI m.defs.length, eI 0, eVs m.vars, eDs m.defs, eTs m.init, eTs m.invar, eDs m.next, eTs m.trans, eTs m.fair, eSps m.specs, eI 0, eI 0] = some (if (fE (nmE m) m.defs.length 0).2 = 0 then .inl [A, J, eVs m.vars, eDs m.defs, eTs m.init, eTs m.invar, eDs m.next, eTs m.trans, eTs m.fair, eSps m.specs, eI 0, eI 0] else .inr (.inr (.inr (.inr (chD (2, fE (nmE m) m.defs.length 0)))))) := by
  have hb := hm.big
  have hN := hm.sz.dl
  refine iterL_err (f := typing_Check_l16 n) (fun i => [D.ifc 61 (eDs m.defs), A, J, eI m.defs.length, eI (i : Int), eVs m.vars, eDs m.defs, eTs m.init, eTs m.invar, eDs m.next, eTs m.trans, eTs m.fair, eSps m.specs, eI 0, eI 0]) (nmE m) (m.defs.length) _ (fun p => .inr (.inr (.inr (chD (2, p))))) ?_ ?_ _ 0 n (by omega) (by omega)
  · intro i hi
    have hil := decide_eq_true (show ((i : Int) < ((m.defs.length : Nat) : Int)) by omega)
    have hw := typing_named_wrong_ok hm i hi
    change typing_named_wrongL n [_, m.d, eI (i : Int)] = some (eI (nmE m i)) at hw
    by_cases hc : nmE m i = 0
    · have hc' : (nmE m i != 0) = false := by simp [hc]
      rw [if_pos hc]
      simp only [typing_Check_l16, go_sem, hil, ifcP_i, iT_61_61, Md.eta, hw, hc', add1 (bt := false) (i := i) (by omega)]
    · have hc' : (nmE m i != 0) = true := by simpa using hc
      rw [if_neg hc]
      simp only [typing_Check_l16, go_sem, hil, ifcP_i, iT_61_61, Md.eta, hw, hc', typing_named_kindL, typing_named_kind, chD]
  · simp only [typing_Check_l16, go_sem, decide_eq_false (show ¬ (((m.defs.length : Nat) : Int) < ((m.defs.length : Nat) : Int)) by omega)]
theorem l16_62 (A J : D) : iterL (typing_Check_l16 n) n [D.ifc 62 (eDs m.defs), A, J, eI m.defs.length, eI 0, eVs m.vars, eDs m.defs, eTs m.init, eTs m.invar, eDs m.next, eTs m.trans, eTs m.fair, eSps m.specs, eI 0, eI 0] = some (if (fE (rgE m) m.defs.length 0).2 = 0 then .inl [A, J, eVs m.vars, eDs m.defs, eTs m.init, eTs m.invar, eDs m.next, eTs m.trans, eTs m.fair, eSps m.specs, eI 0, eI 0] else .inr (.inr (.inr (.inr (chD (2, fE (rgE m) m.defs.length 0)))))) := by
  have hb := hm.big
  have hN := hm.sz.dl
  refine iterL_err (f := typing_Check_l16 n) (fun i => [D.ifc 62 (eDs m.defs), A, J, eI m.defs.length, eI (i : Int), eVs m.vars, eDs m.defs, eTs m.init, eTs m.invar, eDs m.next, eTs m.trans, eTs m.fair, eSps m.specs, eI 0, eI 0]) (rgE m) (m.defs.length) _ (fun p => .inr (.inr (.inr (chD (2, p))))) ?_ ?_ _ 0 n (by omega) (by omega)
  · intro i hi
    have hil := decide_eq_true (show ((i : Int) < ((m.defs.length : Nat) : Int)) by omega)
    have hw := typing_ringed_wrong_ok n m hm.sz.d i hi (by omega)
    change typing_ringed_wrongL n [_, m.d, eI (i : Int)] = some (eI (rgE m i)) at hw
    by_cases hc : rgE m i = 0
    · have hc' : (rgE m i != 0) = false := by simp [hc]
      rw [if_pos hc]
      simp only [typing_Check_l16, go_sem, hil, ifcP_i, iT_62_61, iT_62_62, Md.eta, hw, hc', add1 (bt := false) (i := i) (by omega)]
    · have hc' : (rgE m i != 0) = true := by simpa using hc
      rw [if_neg hc]
      simp only [typing_Check_l16, go_sem, hil, ifcP_i, iT_62_61, iT_62_62, Md.eta, hw, hc', typing_ringed_kindL, typing_ringed_kind, chD]
  · simp only [typing_Check_l16, go_sem, decide_eq_false (show ¬ (((m.defs.length : Nat) : Int) < ((m.defs.length : Nat) : Int)) by omega)]
theorem l16_63 (A J : D) : iterL (typing_Check_l16 n) n [D.ifc 63 (eDs m.defs), A, J, eI m.defs.length, eI 0, eVs m.vars, eDs m.defs, eTs m.init, eTs m.invar, eDs m.next, eTs m.trans, eTs m.fair, eSps m.specs, eI 0, eI 0] = some (if (fE (mtE m) m.defs.length 0).2 = 0 then .inl [A, J, eVs m.vars, eDs m.defs, eTs m.init, eTs m.invar, eDs m.next, eTs m.trans, eTs m.fair, eSps m.specs, eI 0, eI 0] else .inr (.inr (.inr (.inr (chD (2, fE (mtE m) m.defs.length 0)))))) := by
  have hb := hm.big
  have hN := hm.sz.dl
  refine iterL_err (f := typing_Check_l16 n) (fun i => [D.ifc 63 (eDs m.defs), A, J, eI m.defs.length, eI (i : Int), eVs m.vars, eDs m.defs, eTs m.init, eTs m.invar, eDs m.next, eTs m.trans, eTs m.fair, eSps m.specs, eI 0, eI 0]) (mtE m) (m.defs.length) _ (fun p => .inr (.inr (.inr (chD (2, p))))) ?_ ?_ _ 0 n (by omega) (by omega)
  · intro i hi
    have hil := decide_eq_true (show ((i : Int) < ((m.defs.length : Nat) : Int)) by omega)
    have hw := typing_meant_wrong_ok hm i hi
    change typing_meant_wrongL n [_, m.d, eI (i : Int)] = some (eI (mtE m i)) at hw
    by_cases hc : mtE m i = 0
    · have hc' : (mtE m i != 0) = false := by simp [hc]
      rw [if_pos hc]
      simp only [typing_Check_l16, go_sem, hil, ifcP_i, iT_63_61, iT_63_62, iT_63_63, Md.eta, hw, hc', add1 (bt := false) (i := i) (by omega)]
    · have hc' : (mtE m i != 0) = true := by simpa using hc
      rw [if_neg hc]
      simp only [typing_Check_l16, go_sem, hil, ifcP_i, iT_63_61, iT_63_62, iT_63_63, Md.eta, hw, hc', typing_meant_kindL, typing_meant_kind, chD]
  · simp only [typing_Check_l16, go_sem, decide_eq_false (show ¬ (((m.defs.length : Nat) : Int) < ((m.defs.length : Nat) : Int)) by omega)]
theorem l16_65 (l : List Tm) (hl : l.length ≤ 100 ∧ ∀ t ∈ l, t.Ok ∧ t.sz ≤ 12300) (k : Int) (nx : Bool) (A J : D) : iterL (typing_Check_l16 n) n [D.ifc 65 (D.agg [eI k, eTs l, eB nx]), A, J, eI l.length, eI 0, eVs m.vars, eDs m.defs, eTs m.init, eTs m.invar, eDs m.next, eTs m.trans, eTs m.fair, eSps m.specs, eI 0, eI 0] = some (if (fE (tmE m l nx) l.length 0).2 = 0 then .inl [A, J, eVs m.vars, eDs m.defs, eTs m.init, eTs m.invar, eDs m.next, eTs m.trans, eTs m.fair, eSps m.specs, eI 0, eI 0] else .inr (.inr (.inr (.inr (chD (k, fE (tmE m l nx) l.length 0)))))) := by
  have hb := hm.big
  have hN := hl.1
  have hc0 : celD (D.agg [eI k, eTs l, eB nx]) 0 = eI k := rfl
  have ha3 : aggP 3 (D.agg [eI k, eTs l, eB nx]) = true := rfl
  refine iterL_err (f := typing_Check_l16 n) (fun i => [D.ifc 65 (D.agg [eI k, eTs l, eB nx]), A, J, eI l.length, eI (i : Int), eVs m.vars, eDs m.defs, eTs m.init, eTs m.invar, eDs m.next, eTs m.trans, eTs m.fair, eSps m.specs, eI 0, eI 0]) (tmE m l nx) (l.length) _ (fun p => .inr (.inr (.inr (chD (k, p))))) ?_ ?_ _ 0 n (by omega) (by omega)
  · intro i hi
    have hil := decide_eq_true (show ((i : Int) < ((l.length : Nat) : Int)) by omega)
    have hw := typing_truths_wrong_ok hm l hl.2 k nx i hi
    change typing_truths_wrongL n [_, m.d, eI (i : Int)] = some (eI (tmE m l nx i)) at hw
    by_cases hc : tmE m l nx i = 0
    · have hc' : (tmE m l nx i != 0) = false := by simp [hc]
      rw [if_pos hc]
      simp only [typing_Check_l16, go_sem, hil, ifcP_i, iT_65_61, iT_65_62, iT_65_63, iT_65_65, Md.eta, hw, hc', add1 (bt := false) (i := i) (by omega)]
    · have hc' : (tmE m l nx i != 0) = true := by simpa using hc
      rw [if_neg hc]
      simp only [typing_Check_l16, go_sem, hil, ifcP_i, iT_65_61, iT_65_62, iT_65_63, iT_65_65, Md.eta, hw, hc', typing_truths_kindL, typing_truths_kind, hc0, ha3, chD]
  · simp only [typing_Check_l16, go_sem, decide_eq_false (show ¬ (((l.length : Nat) : Int) < ((l.length : Nat) : Int)) by omega)]
theorem l16_66 (A J : D) : iterL (typing_Check_l16 n) n [D.ifc 66 (eDs m.next), A, J, eI m.next.length, eI 0, eVs m.vars, eDs m.defs, eTs m.init, eTs m.invar, eDs m.next, eTs m.trans, eTs m.fair, eSps m.specs, eI 0, eI 0] = some (if (fE (nxE m) m.next.length 0).2 = 0 then .inl [A, J, eVs m.vars, eDs m.defs, eTs m.init, eTs m.invar, eDs m.next, eTs m.trans, eTs m.fair, eSps m.specs, eI 0, eI 0] else .inr (.inr (.inr (.inr (chD (5, fE (nxE m) m.next.length 0)))))) := by
  have hb := hm.big
  have hN := hm.next.1
  refine iterL_err (f := typing_Check_l16 n) (fun i => [D.ifc 66 (eDs m.next), A, J, eI m.next.length, eI (i : Int), eVs m.vars, eDs m.defs, eTs m.init, eTs m.invar, eDs m.next, eTs m.trans, eTs m.fair, eSps m.specs, eI 0, eI 0]) (nxE m) (m.next.length) _ (fun p => .inr (.inr (.inr (chD (5, p))))) ?_ ?_ _ 0 n (by omega) (by omega)
  · intro i hi
    have hil := decide_eq_true (show ((i : Int) < ((m.next.length : Nat) : Int)) by omega)
    have hw := typing_nexts_wrong_ok hm i hi
    change typing_nexts_wrongL n [_, m.d, eI (i : Int)] = some (eI (nxE m i)) at hw
    by_cases hc : nxE m i = 0
    · have hc' : (nxE m i != 0) = false := by simp [hc]
      rw [if_pos hc]
      simp only [typing_Check_l16, go_sem, hil, ifcP_i, iT_66_61, iT_66_62, iT_66_63, iT_66_65, iT_66_66, Md.eta, hw, hc', add1 (bt := false) (i := i) (by omega)]
    · have hc' : (nxE m i != 0) = true := by simpa using hc
      rw [if_neg hc]
      simp only [typing_Check_l16, go_sem, hil, ifcP_i, iT_66_61, iT_66_62, iT_66_63, iT_66_65, iT_66_66, Md.eta, hw, hc', typing_nexts_kindL, typing_nexts_kind, chD]
  · simp only [typing_Check_l16, go_sem, decide_eq_false (show ¬ (((m.next.length : Nat) : Int) < ((m.next.length : Nat) : Int)) by omega)]
theorem l16_67 (A J : D) : iterL (typing_Check_l16 n) n [D.ifc 67 (eSps m.specs), A, J, eI m.specs.length, eI 0, eVs m.vars, eDs m.defs, eTs m.init, eTs m.invar, eDs m.next, eTs m.trans, eTs m.fair, eSps m.specs, eI 0, eI 0] = some (if (fE (spE m) m.specs.length 0).2 = 0 then .inl [A, J, eVs m.vars, eDs m.defs, eTs m.init, eTs m.invar, eDs m.next, eTs m.trans, eTs m.fair, eSps m.specs, eI 0, eI 0] else .inr (.inr (.inr (.inr (chD (8, fE (spE m) m.specs.length 0)))))) := by
  have hb := hm.big
  have hN := hm.specs.1
  refine iterL_err (f := typing_Check_l16 n) (fun i => [D.ifc 67 (eSps m.specs), A, J, eI m.specs.length, eI (i : Int), eVs m.vars, eDs m.defs, eTs m.init, eTs m.invar, eDs m.next, eTs m.trans, eTs m.fair, eSps m.specs, eI 0, eI 0]) (spE m) (m.specs.length) _ (fun p => .inr (.inr (.inr (chD (8, p))))) ?_ ?_ _ 0 n (by omega) (by omega)
  · intro i hi
    have hil := decide_eq_true (show ((i : Int) < ((m.specs.length : Nat) : Int)) by omega)
    have hw := typing_specs_wrong_ok hm i hi
    change typing_specs_wrongL n [_, m.d, eI (i : Int)] = some (eI (spE m i)) at hw
    by_cases hc : spE m i = 0
    · have hc' : (spE m i != 0) = false := by simp [hc]
      rw [if_pos hc]
      simp only [typing_Check_l16, go_sem, hil, ifcP_i, iT_67_61, iT_67_62, iT_67_63, iT_67_65, iT_67_66, iT_67_67, Md.eta, hw, hc', add1 (bt := false) (i := i) (by omega)]
    · have hc' : (spE m i != 0) = true := by simpa using hc
      rw [if_neg hc]
      simp only [typing_Check_l16, go_sem, hil, ifcP_i, iT_67_61, iT_67_62, iT_67_63, iT_67_65, iT_67_66, iT_67_67, Md.eta, hw, hc', typing_specs_kindL, typing_specs_kind, chD]
  · simp only [typing_Check_l16, go_sem, decide_eq_false (show ¬ (((m.specs.length : Nat) : Int) < ((m.specs.length : Nat) : Int)) by omega)]
theorem l13_0 : typing_Check_l13 n [ar9 m, eI 0, eVs m.vars, eDs m.defs, eTs m.init, eTs m.invar, eDs m.next, eTs m.trans, eTs m.fair, eSps m.specs, eI 0, eI 0] = some (if (fE (nmE m) m.defs.length 0).2 = 0 then .inl [ar9 m, eI 1, eVs m.vars, eDs m.defs, eTs m.init, eTs m.invar, eDs m.next, eTs m.trans, eTs m.fair, eSps m.specs, eI 0, eI 0] else .inr (.inr (chD (2, fE (nmE m) m.defs.length 0)))) := by
  have h16 := l16_61 hm (ar9 m) (eI 0)
  have hil : decide ((0 : Int) < 9) = true := rfl
  have hnp : numP 9 (eI 0) = some 0 := rfl
  have hf : fldP false 1 (0 * 1) (ar9 m) = some (D.ifc 61 (eDs m.defs)) := rfl
  have hmn : typing_named_manyL n [eDs m.defs] = some (eI m.defs.length) := by simp only [typing_named_manyL, typing_named_many, go_sem, eDs_len]
  have hadd : binP false .add (eI 0) (eI 1) = some (eI 1) := b_add (by decide) (by decide)
  by_cases hc : (fE (nmE m) m.defs.length 0).2 = 0
  · rw [if_pos hc] at h16 ⊢
    simp only [typing_Check_l13, go_sem, hil, hnp, hf, ifcP_i, iT_61_61, hmn, h16, hadd]
  · rw [if_neg hc] at h16 ⊢
    simp only [typing_Check_l13, go_sem, hil, hnp, hf, ifcP_i, iT_61_61, hmn, h16]
theorem l13_1 : typing_Check_l13 n [ar9 m, eI 1, eVs m.vars, eDs m.defs, eTs m.init, eTs m.invar, eDs m.next, eTs m.trans, eTs m.fair, eSps m.specs, eI 0, eI 0] = some (if (fE (rgE m) m.defs.length 0).2 = 0 then .inl [ar9 m, eI 2, eVs m.vars, eDs m.defs, eTs m.init, eTs m.invar, eDs m.next, eTs m.trans, eTs m.fair, eSps m.specs, eI 0, eI 0] else .inr (.inr (chD (2, fE (rgE m) m.defs.length 0)))) := by
  have h16 := l16_62 hm (ar9 m) (eI 1)
  have hil : decide ((1 : Int) < 9) = true := rfl
  have hnp : numP 9 (eI 1) = some 1 := rfl
  have hf : fldP false 1 (1 * 1) (ar9 m) = some (D.ifc 62 (eDs m.defs)) := rfl
  have hmn : typing_ringed_manyL n [eDs m.defs] = some (eI m.defs.length) := by simp only [typing_ringed_manyL, typing_ringed_many, go_sem, eDs_len]
  have hadd : binP false .add (eI 1) (eI 1) = some (eI 2) := b_add (by decide) (by decide)
  by_cases hc : (fE (rgE m) m.defs.length 0).2 = 0
  · rw [if_pos hc] at h16 ⊢
    simp only [typing_Check_l13, go_sem, hil, hnp, hf, ifcP_i, iT_62_61, iT_62_62, hmn, h16, hadd]
  · rw [if_neg hc] at h16 ⊢
    simp only [typing_Check_l13, go_sem, hil, hnp, hf, ifcP_i, iT_62_61, iT_62_62, hmn, h16]
theorem l13_2 : typing_Check_l13 n [ar9 m, eI 2, eVs m.vars, eDs m.defs, eTs m.init, eTs m.invar, eDs m.next, eTs m.trans, eTs m.fair, eSps m.specs, eI 0, eI 0] = some (if (fE (mtE m) m.defs.length 0).2 = 0 then .inl [ar9 m, eI 3, eVs m.vars, eDs m.defs, eTs m.init, eTs m.invar, eDs m.next, eTs m.trans, eTs m.fair, eSps m.specs, eI 0, eI 0] else .inr (.inr (chD (2, fE (mtE m) m.defs.length 0)))) := by
  have h16 := l16_63 hm (ar9 m) (eI 2)
  have hil : decide ((2 : Int) < 9) = true := rfl
  have hnp : numP 9 (eI 2) = some 2 := rfl
  have hf : fldP false 1 (2 * 1) (ar9 m) = some (D.ifc 63 (eDs m.defs)) := rfl
  have hmn : typing_meant_manyL n [eDs m.defs] = some (eI m.defs.length) := by simp only [typing_meant_manyL, typing_meant_many, go_sem, eDs_len]
  have hadd : binP false .add (eI 2) (eI 1) = some (eI 3) := b_add (by decide) (by decide)
  by_cases hc : (fE (mtE m) m.defs.length 0).2 = 0
  · rw [if_pos hc] at h16 ⊢
    simp only [typing_Check_l13, go_sem, hil, hnp, hf, ifcP_i, iT_63_61, iT_63_62, iT_63_63, hmn, h16, hadd]
  · rw [if_neg hc] at h16 ⊢
    simp only [typing_Check_l13, go_sem, hil, hnp, hf, ifcP_i, iT_63_61, iT_63_62, iT_63_63, hmn, h16]
theorem l13_3 : typing_Check_l13 n [ar9 m, eI 3, eVs m.vars, eDs m.defs, eTs m.init, eTs m.invar, eDs m.next, eTs m.trans, eTs m.fair, eSps m.specs, eI 0, eI 0] = some (if (fE (tmE m m.init false) m.init.length 0).2 = 0 then .inl [ar9 m, eI 4, eVs m.vars, eDs m.defs, eTs m.init, eTs m.invar, eDs m.next, eTs m.trans, eTs m.fair, eSps m.specs, eI 0, eI 0] else .inr (.inr (chD (3, fE (tmE m m.init false) m.init.length 0)))) := by
  have h16 := l16_65 hm m.init hm.init 3 false (ar9 m) (eI 3)
  have hil : decide ((3 : Int) < 9) = true := rfl
  have hnp : numP 9 (eI 3) = some 3 := rfl
  have hf : fldP false 1 (3 * 1) (ar9 m) = some (D.ifc 65 (D.agg [eI 3, eTs m.init, eB false])) := rfl
  have hmn : typing_truths_manyL n [D.agg [eI 3, eTs m.init, eB false]] = some (eI m.init.length) := by
    have h3 : aggP 3 (D.agg [eI 3, eTs m.init, eB false]) = true := rfl
    have h4 : celD (D.agg [eI 3, eTs m.init, eB false]) 1 = eTs m.init := rfl
    simp only [typing_truths_manyL, typing_truths_many, go_sem, h3, h4, eTs_len]
  have hadd : binP false .add (eI 3) (eI 1) = some (eI 4) := b_add (by decide) (by decide)
  by_cases hc : (fE (tmE m m.init false) m.init.length 0).2 = 0
  · rw [if_pos hc] at h16 ⊢
    simp only [typing_Check_l13, go_sem, hil, hnp, hf, ifcP_i, iT_65_61, iT_65_62, iT_65_63, iT_65_65, hmn, h16, hadd]
  · rw [if_neg hc] at h16 ⊢
    simp only [typing_Check_l13, go_sem, hil, hnp, hf, ifcP_i, iT_65_61, iT_65_62, iT_65_63, iT_65_65, hmn, h16]
theorem l13_4 : typing_Check_l13 n [ar9 m, eI 4, eVs m.vars, eDs m.defs, eTs m.init, eTs m.invar, eDs m.next, eTs m.trans, eTs m.fair, eSps m.specs, eI 0, eI 0] = some (if (fE (tmE m m.invar false) m.invar.length 0).2 = 0 then .inl [ar9 m, eI 5, eVs m.vars, eDs m.defs, eTs m.init, eTs m.invar, eDs m.next, eTs m.trans, eTs m.fair, eSps m.specs, eI 0, eI 0] else .inr (.inr (chD (4, fE (tmE m m.invar false) m.invar.length 0)))) := by
  have h16 := l16_65 hm m.invar hm.invar 4 false (ar9 m) (eI 4)
  have hil : decide ((4 : Int) < 9) = true := rfl
  have hnp : numP 9 (eI 4) = some 4 := rfl
  have hf : fldP false 1 (4 * 1) (ar9 m) = some (D.ifc 65 (D.agg [eI 4, eTs m.invar, eB false])) := rfl
  have hmn : typing_truths_manyL n [D.agg [eI 4, eTs m.invar, eB false]] = some (eI m.invar.length) := by
    have h3 : aggP 3 (D.agg [eI 4, eTs m.invar, eB false]) = true := rfl
    have h4 : celD (D.agg [eI 4, eTs m.invar, eB false]) 1 = eTs m.invar := rfl
    simp only [typing_truths_manyL, typing_truths_many, go_sem, h3, h4, eTs_len]
  have hadd : binP false .add (eI 4) (eI 1) = some (eI 5) := b_add (by decide) (by decide)
  by_cases hc : (fE (tmE m m.invar false) m.invar.length 0).2 = 0
  · rw [if_pos hc] at h16 ⊢
    simp only [typing_Check_l13, go_sem, hil, hnp, hf, ifcP_i, iT_65_61, iT_65_62, iT_65_63, iT_65_65, hmn, h16, hadd]
  · rw [if_neg hc] at h16 ⊢
    simp only [typing_Check_l13, go_sem, hil, hnp, hf, ifcP_i, iT_65_61, iT_65_62, iT_65_63, iT_65_65, hmn, h16]
theorem l13_5 : typing_Check_l13 n [ar9 m, eI 5, eVs m.vars, eDs m.defs, eTs m.init, eTs m.invar, eDs m.next, eTs m.trans, eTs m.fair, eSps m.specs, eI 0, eI 0] = some (if (fE (nxE m) m.next.length 0).2 = 0 then .inl [ar9 m, eI 6, eVs m.vars, eDs m.defs, eTs m.init, eTs m.invar, eDs m.next, eTs m.trans, eTs m.fair, eSps m.specs, eI 0, eI 0] else .inr (.inr (chD (5, fE (nxE m) m.next.length 0)))) := by
  have h16 := l16_66 hm (ar9 m) (eI 5)
  have hil : decide ((5 : Int) < 9) = true := rfl
  have hnp : numP 9 (eI 5) = some 5 := rfl
  have hf : fldP false 1 (5 * 1) (ar9 m) = some (D.ifc 66 (eDs m.next)) := rfl
  have hmn : typing_nexts_manyL n [eDs m.next] = some (eI m.next.length) := by simp only [typing_nexts_manyL, typing_nexts_many, go_sem, eDs_len]
  have hadd : binP false .add (eI 5) (eI 1) = some (eI 6) := b_add (by decide) (by decide)
  by_cases hc : (fE (nxE m) m.next.length 0).2 = 0
  · rw [if_pos hc] at h16 ⊢
    simp only [typing_Check_l13, go_sem, hil, hnp, hf, ifcP_i, iT_66_61, iT_66_62, iT_66_63, iT_66_65, iT_66_66, hmn, h16, hadd]
  · rw [if_neg hc] at h16 ⊢
    simp only [typing_Check_l13, go_sem, hil, hnp, hf, ifcP_i, iT_66_61, iT_66_62, iT_66_63, iT_66_65, iT_66_66, hmn, h16]
theorem l13_6 : typing_Check_l13 n [ar9 m, eI 6, eVs m.vars, eDs m.defs, eTs m.init, eTs m.invar, eDs m.next, eTs m.trans, eTs m.fair, eSps m.specs, eI 0, eI 0] = some (if (fE (tmE m m.trans true) m.trans.length 0).2 = 0 then .inl [ar9 m, eI 7, eVs m.vars, eDs m.defs, eTs m.init, eTs m.invar, eDs m.next, eTs m.trans, eTs m.fair, eSps m.specs, eI 0, eI 0] else .inr (.inr (chD (6, fE (tmE m m.trans true) m.trans.length 0)))) := by
  have h16 := l16_65 hm m.trans hm.trans 6 true (ar9 m) (eI 6)
  have hil : decide ((6 : Int) < 9) = true := rfl
  have hnp : numP 9 (eI 6) = some 6 := rfl
  have hf : fldP false 1 (6 * 1) (ar9 m) = some (D.ifc 65 (D.agg [eI 6, eTs m.trans, eB true])) := rfl
  have hmn : typing_truths_manyL n [D.agg [eI 6, eTs m.trans, eB true]] = some (eI m.trans.length) := by
    have h3 : aggP 3 (D.agg [eI 6, eTs m.trans, eB true]) = true := rfl
    have h4 : celD (D.agg [eI 6, eTs m.trans, eB true]) 1 = eTs m.trans := rfl
    simp only [typing_truths_manyL, typing_truths_many, go_sem, h3, h4, eTs_len]
  have hadd : binP false .add (eI 6) (eI 1) = some (eI 7) := b_add (by decide) (by decide)
  by_cases hc : (fE (tmE m m.trans true) m.trans.length 0).2 = 0
  · rw [if_pos hc] at h16 ⊢
    simp only [typing_Check_l13, go_sem, hil, hnp, hf, ifcP_i, iT_65_61, iT_65_62, iT_65_63, iT_65_65, hmn, h16, hadd]
  · rw [if_neg hc] at h16 ⊢
    simp only [typing_Check_l13, go_sem, hil, hnp, hf, ifcP_i, iT_65_61, iT_65_62, iT_65_63, iT_65_65, hmn, h16]
theorem l13_7 : typing_Check_l13 n [ar9 m, eI 7, eVs m.vars, eDs m.defs, eTs m.init, eTs m.invar, eDs m.next, eTs m.trans, eTs m.fair, eSps m.specs, eI 0, eI 0] = some (if (fE (tmE m m.fair false) m.fair.length 0).2 = 0 then .inl [ar9 m, eI 8, eVs m.vars, eDs m.defs, eTs m.init, eTs m.invar, eDs m.next, eTs m.trans, eTs m.fair, eSps m.specs, eI 0, eI 0] else .inr (.inr (chD (7, fE (tmE m m.fair false) m.fair.length 0)))) := by
  have h16 := l16_65 hm m.fair hm.fair 7 false (ar9 m) (eI 7)
  have hil : decide ((7 : Int) < 9) = true := rfl
  have hnp : numP 9 (eI 7) = some 7 := rfl
  have hf : fldP false 1 (7 * 1) (ar9 m) = some (D.ifc 65 (D.agg [eI 7, eTs m.fair, eB false])) := rfl
  have hmn : typing_truths_manyL n [D.agg [eI 7, eTs m.fair, eB false]] = some (eI m.fair.length) := by
    have h3 : aggP 3 (D.agg [eI 7, eTs m.fair, eB false]) = true := rfl
    have h4 : celD (D.agg [eI 7, eTs m.fair, eB false]) 1 = eTs m.fair := rfl
    simp only [typing_truths_manyL, typing_truths_many, go_sem, h3, h4, eTs_len]
  have hadd : binP false .add (eI 7) (eI 1) = some (eI 8) := b_add (by decide) (by decide)
  by_cases hc : (fE (tmE m m.fair false) m.fair.length 0).2 = 0
  · rw [if_pos hc] at h16 ⊢
    simp only [typing_Check_l13, go_sem, hil, hnp, hf, ifcP_i, iT_65_61, iT_65_62, iT_65_63, iT_65_65, hmn, h16, hadd]
  · rw [if_neg hc] at h16 ⊢
    simp only [typing_Check_l13, go_sem, hil, hnp, hf, ifcP_i, iT_65_61, iT_65_62, iT_65_63, iT_65_65, hmn, h16]
theorem l13_8 : typing_Check_l13 n [ar9 m, eI 8, eVs m.vars, eDs m.defs, eTs m.init, eTs m.invar, eDs m.next, eTs m.trans, eTs m.fair, eSps m.specs, eI 0, eI 0] = some (if (fE (spE m) m.specs.length 0).2 = 0 then .inl [ar9 m, eI 9, eVs m.vars, eDs m.defs, eTs m.init, eTs m.invar, eDs m.next, eTs m.trans, eTs m.fair, eSps m.specs, eI 0, eI 0] else .inr (.inr (chD (8, fE (spE m) m.specs.length 0)))) := by
  have h16 := l16_67 hm (ar9 m) (eI 8)
  have hil : decide ((8 : Int) < 9) = true := rfl
  have hnp : numP 9 (eI 8) = some 8 := rfl
  have hf : fldP false 1 (8 * 1) (ar9 m) = some (D.ifc 67 (eSps m.specs)) := rfl
  have hmn : typing_specs_manyL n [eSps m.specs] = some (eI m.specs.length) := by simp only [typing_specs_manyL, typing_specs_many, go_sem, eSps_len]
  have hadd : binP false .add (eI 8) (eI 1) = some (eI 9) := b_add (by decide) (by decide)
  by_cases hc : (fE (spE m) m.specs.length 0).2 = 0
  · rw [if_pos hc] at h16 ⊢
    simp only [typing_Check_l13, go_sem, hil, hnp, hf, ifcP_i, iT_67_61, iT_67_62, iT_67_63, iT_67_65, iT_67_66, iT_67_67, hmn, h16, hadd]
  · rw [if_neg hc] at h16 ⊢
    simp only [typing_Check_l13, go_sem, hil, hnp, hf, ifcP_i, iT_67_61, iT_67_62, iT_67_63, iT_67_65, iT_67_66, iT_67_67, hmn, h16]
theorem typing_Check_l13_ok : iterL (typing_Check_l13 n) n [ar9 m, eI 0, eVs m.vars, eDs m.defs, eTs m.init, eTs m.invar, eDs m.next, eTs m.trans, eTs m.fair, eSps m.specs, eI 0, eI 0] = some (if (seqM (grM m)).2.2 = 0 then .inl [eI 0, eI 0] else .inr (chD (seqM (grM m)))) := by
  have hb := hm.big
  refine iterL_seq (f := typing_Check_l13 n) (grM m) (fun i => [ar9 m, eI (i : Int), eVs m.vars, eDs m.defs, eTs m.init, eTs m.invar, eDs m.next, eTs m.trans, eTs m.fair, eSps m.specs, eI 0, eI 0]) [eI 0, eI 0] chD ?_ ?_ n (by show 9 < n; omega)
  · intro i a ha
    match i, ha with
    | 0, ha => cases ha; exact l13_0 hm
    | 1, ha => cases ha; exact l13_1 hm
    | 2, ha => cases ha; exact l13_2 hm
    | 3, ha => cases ha; exact l13_3 hm
    | 4, ha => cases ha; exact l13_4 hm
    | 5, ha => cases ha; exact l13_5 hm
    | 6, ha => cases ha; exact l13_6 hm
    | 7, ha => cases ha; exact l13_7 hm
    | 8, ha => cases ha; exact l13_8 hm
    | j + 9, ha => cases ha
  · show typing_Check_l13 n [ar9 m, eI 9, eVs m.vars, eDs m.defs, eTs m.init, eTs m.invar, eDs m.next, eTs m.trans, eTs m.fair, eSps m.specs, eI 0, eI 0] = _
    simp only [typing_Check_l13, go_sem, show decide ((9 : Int) < 9) = false from rfl]
theorem typing_Check_ok : typing_CheckL n [m.d] = some (chD (chM m)) := by
  have hb := hm.big
  have h2 := typing_Check_l2_ok hm
  have h13 := typing_Check_l13_ok hm
  have hV := typing_Vars_ok n m.vars hm.vo (by have := hm.sz.vl; omega) hm.vn
  have hB := typing_Bits_ok n m hm.vo hm.sz.vl (by omega)
  have ea : D.agg [eI (m.vars.length : Int), eI (m.defs.length : Int), eI (m.init.length : Int), eI (m.invar.length : Int), eI (m.next.length : Int), eI (m.trans.length : Int), eI (m.fair.length : Int), eI (m.specs.length : Int)] = arL m := rfl
  have e9 : D.agg [.ifc 61 (eDs m.defs), .ifc 62 (eDs m.defs), .ifc 63 (eDs m.defs), .ifc 65 (.agg [eI 3, eTs m.init, eB false]), .ifc 65 (.agg [eI 4, eTs m.invar, eB false]), .ifc 66 (eDs m.next), .ifc 65 (.agg [eI 6, eTs m.trans, eB true]), .ifc 65 (.agg [eI 7, eTs m.fair, eB false]), .ifc 67 (eSps m.specs)] = ar9 m := rfl
  have o4 : ∀ l, oneP (eTs l) = true := fun _ => rfl
  have oi : ∀ t x, oneP (D.ifc t x) = true := fun _ _ => rfl
  unfold chM
  by_cases c1 : (fE (lnE m) 8 0).2 = 0
  case neg =>
    rw [if_neg c1] at h2 ⊢
    simp only [typing_CheckL, typing_Check, go_sem, Md.agg, Md.c0, Md.c1, Md.c2, Md.c3, Md.c4, Md.c5, Md.c6, Md.c7, Md.eta, eVs_len, eDs_len, eTs_len, eSps_len, ea, h2]
  rw [if_pos c1] at h2 ⊢
  by_cases c2 : (firstErr m.vars).2 = 0
  case neg =>
    have c2' : ((firstErr m.vars).2 != 0) = true := by simpa using c2
    rw [if_neg c2]
    simp only [typing_CheckL, typing_Check, go_sem, Md.agg, Md.c0, Md.c1, Md.c2, Md.c3, Md.c4, Md.c5, Md.c6, Md.c7, Md.eta, eVs_len, eDs_len, eTs_len, eSps_len, ea, h2, hV, c2', chD]
  have c2' : ((firstErr m.vars).2 != 0) = false := by simp [c2]
  rw [if_pos c2]
  by_cases c3 : 30 < sumB m.vars
  · have c3' := decide_eq_true (show ((sumB m.vars : Nat) : Int) > 30 by omega)
    rw [if_pos c3]
    simp only [typing_CheckL, typing_Check, go_sem, Md.agg, Md.c0, Md.c1, Md.c2, Md.c3, Md.c4, Md.c5, Md.c6, Md.c7, Md.eta, eVs_len, eDs_len, eTs_len, eSps_len, ea, h2, hV, c2', hB, c3', chD]
  have c3' := decide_eq_false (show ¬ ((sumB m.vars : Nat) : Int) > 30 by omega)
  rw [if_neg c3]
  by_cases c4 : (seqM (grM m)).2.2 = 0
  · rw [if_pos c4] at h13
    rw [seqM_nil _ c4]
    simp only [typing_CheckL, typing_Check, go_sem, Md.agg, Md.c0, Md.c1, Md.c2, Md.c3, Md.c4, Md.c5, Md.c6, Md.c7, Md.eta, eVs_len, eDs_len, eTs_len, eSps_len, ea, h2, hV, c2', hB, c3', o4, oi, e9, h13, chD]
  · rw [if_neg c4] at h13
    simp only [typing_CheckL, typing_Check, go_sem, Md.agg, Md.c0, Md.c1, Md.c2, Md.c3, Md.c4, Md.c5, Md.c6, Md.c7, Md.eta, eVs_len, eDs_len, eTs_len, eSps_len, ea, h2, hV, c2', hB, c3', o4, oi, e9, h13]
end
end Go.Am
namespace Go.Am
set_option linter.unusedVariables false
def tsTy (n : Nat) : Ty := .slice 4 56 (termTy n)
def spTy (n : Nat) : Ty := .slice 7 104 (.struct [.str, formTy n])
def mdTy (n : Nat) : Ty := .struct [tyVs, dfTy n, tsTy n, tsTy n, dfTy n, tsTy n, tsTy n, spTy n]
theorem tsTy_dp (n : Nat) : ∀ m, m ≤ n → (tsTy n).dp m = true
  | 0, _ => rfl
  | m + 1, h => by
    have := termTy_dp n m (by omega)
    simp only [tsTy, Ty.dp, this]
theorem spTy_dp (n : Nat) : ∀ m, m ≤ n → (spTy n).dp m = true
  | 0, _ => rfl
  | 1, _ => by simp [spTy, Ty.dp]
  | m + 2, h => by
    have h1 := formTy_dp n m (by omega)
    have h2 : Ty.dp m .str = true := dp_noStop m .str rfl
    simp only [spTy, Ty.dp, dpL, h1, h2, Bool.and_true]
theorem mdTy_dp (n : Nat) : ∀ m, m ≤ n → (mdTy n).dp m = true
  | 0, _ => rfl
  | m + 1, h => by
    have h0 : Ty.dp m tyVs = true := dp_noStop m tyVs rfl
    simp only [mdTy, Ty.dp, dpL, h0, dfTy_dp n m (by omega), tsTy_dp n m (by omega), spTy_dp n m (by omega), Bool.and_true]
theorem mdF_ok {P : Program} {t tv td tt ts tm tf : TypeId} (h : ∀ a b c d e f g i, tyOk P (.struct [a, b, c, d, e, f, g, i]) t = (tyOk P a tv && (tyOk P b td && (tyOk P c tt && (tyOk P d tt && (tyOk P e td && (tyOk P f tt && (tyOk P g tt && (tyOk P i ts && true)))))))))
    (hv : tyOk P tyVs tv = true) (hd : FOkT P dfTy td) (ht : ∀ y, tyOk P (.slice 4 56 y) tt = tyOk P y tm) (hm : FOkT P termTy tm) (hs : ∀ y, tyOk P (.slice 7 104 (.struct [.str, y])) ts = (tyOk P y tf && true)) (hf : FOkT P formTy tf) (hl : decide (t < P.types.size) = true) : FOkT P mdTy t :=
  ⟨fun n => mdTy_dp n n (Nat.le_refl _), fun n => by
    rw [mdTy, h, hv, hd.ok n, tsTy, ht, hm.ok n, spTy, hs, hf.ok n]; rfl, of_decide_eq_true hl, fun n => rfl⟩
end Go.Am
namespace Go.Am
set_option linter.unusedVariables false
/-- What the reading of a module says of it. -/
structure MdW (m : Md) : Prop where
  v : ∀ x ∈ m.vars, V.ok x
  d : ∀ x ∈ m.defs, x.Ok
  i : ∀ x ∈ m.init, x.Ok
  iv : ∀ x ∈ m.invar, x.Ok
  n : ∀ x ∈ m.next, x.Ok
  t : ∀ x ∈ m.trans, x.Ok
  f : ∀ x ∈ m.fair, x.Ok
  s : ∀ x ∈ m.specs, x.name.size ≤ 140737488351232 ∧ x.f.Ok
theorem wt_Sp2 {n : Nat} {x : List D} (h : Wt (.struct [.str, formTy n]) x) : ∃ d : Sp, x = d.cells ∧ d.name.size ≤ 140737488351232 ∧ d.f.Ok := by
  obtain ⟨a, b, rfl, ha, c, e, rfl, hc, rfl⟩ := h
  obtain ⟨s, rfl, hs⟩ := wt_str ha
  obtain ⟨t, rfl, ht⟩ := wt_Fm n hc
  exact ⟨⟨s, t⟩, by simp [Sp.cells, Fm.cells_eq], hs, ht⟩
theorem wt_MdW {n : Nat} {d : D} (h : WtP (mdTy n) d) : ∃ m : Md, d = m.d ∧ MdW m := by
  obtain ⟨ds, rfl, a0, b0, rfl, h0, a1, b1, rfl, h1, a2, b2, rfl, h2, a3, b3, rfl, h3, a4, b4, rfl, h4, a5, b5, rfl, h5, a6, b6, rfl, h6, a7, b7, rfl, h7, rfl⟩ := h
  obtain ⟨e0, rfl, _, _, w0⟩ := h0
  obtain ⟨e1, rfl, _, _, w1⟩ := h1
  obtain ⟨e2, rfl, _, _, w2⟩ := h2
  obtain ⟨e3, rfl, _, _, w3⟩ := h3
  obtain ⟨e4, rfl, _, _, w4⟩ := h4
  obtain ⟨e5, rfl, _, _, w5⟩ := h5
  obtain ⟨e6, rfl, _, _, w6⟩ := h6
  obtain ⟨e7, rfl, _, _, w7⟩ := h7
  obtain ⟨l0, rfl, q0⟩ := list_of V.cells V.ok e0 fun x hx => wt_V (w0 x hx).2
  obtain ⟨l1, rfl, q1⟩ := list_of Df.cells Df.Ok e1 fun x hx => wt_Df (w1 x hx).2
  obtain ⟨l2, rfl, q2⟩ := list_of Tm.cells Tm.Ok e2 fun x hx => wt_Tm n (w2 x hx).2
  obtain ⟨l3, rfl, q3⟩ := list_of Tm.cells Tm.Ok e3 fun x hx => wt_Tm n (w3 x hx).2
  obtain ⟨l4, rfl, q4⟩ := list_of Df.cells Df.Ok e4 fun x hx => wt_Df (w4 x hx).2
  obtain ⟨l5, rfl, q5⟩ := list_of Tm.cells Tm.Ok e5 fun x hx => wt_Tm n (w5 x hx).2
  obtain ⟨l6, rfl, q6⟩ := list_of Tm.cells Tm.Ok e6 fun x hx => wt_Tm n (w6 x hx).2
  obtain ⟨l7, rfl, q7⟩ := list_of Sp.cells (fun s => s.name.size ≤ 140737488351232 ∧ s.f.Ok) e7 fun x hx => wt_Sp2 (w7 x hx).2
  exact ⟨⟨l0, l1, l2, l3, l4, l5, l6, l7⟩, by simp only [Md.d, eVs, eDs, eTs, eSps, Tm.rows_map]; rfl, ⟨q0, q1, q2, q3, q4, q5, q6, q7⟩⟩
end Go.Am
namespace Go.Am
theorem lives36_ok (n : Nat) : law36_livesL (n + 200) [] = some (eB true) := by kernel_rfl
end Go.Am
namespace Go.Am
set_option linter.unusedVariables false
set_option linter.unusedSimpArgs false
/-! ### How small -/
theorem eTs_row (l : List Tm) : eTs l = rowD 4 false (Tm.rows l) := by rw [rowD_f]; rfl
theorem ref36_terms_ok : ∀ (n : Nat) (l : List Tm) (nl : Bool) (m : Int), Tm.szL l + 5 < n → (∀ t ∈ l, t.Ok) → l.length ≤ 140737488355328 → -1 ≤ m → m < 1000000 → ref36_termsL n [rowD 4 nl (Tm.rows l), eI m] = some (eI (tmsL l m))
  | 0, l, _, _, h, _, _, _, _ => absurd h (Nat.not_lt_zero _)
  | n + 1, l, nl, m, hn, hok, hlen, h1, h2 => by
    have hszl := Tm.szL_len l
    have hl := iterL_list (f := ref36_terms_l2 (ref36_termsL n) n) l (fun i (s : Int) => [rowD 4 nl (Tm.rows l), eI s, eI (i : Int)])
      (fun r s => (.inl [eI (tmsL r s)] : List D ⊕ D)) (fun i s => -1 ≤ s ∧ s ≤ m)
      (fun s _ => by simp [ref36_terms_l2, tmsL]) ?_ n 0 m (by omega) (by omega) (Nat.zero_le _)
    · have e0 : (eI ((0 : Nat) : Int)) = eI 0 := rfl
      rw [e0] at hl
      simp only [List.drop_zero] at hl
      simp only [ref36_termsL, ref36_terms, go_sem, hl]
    · intro i a s ha hi hs
      have hm := List.mem_of_getElem? ha
      have hz := Tm.szL_mem hm
      have hao := hok a hm
      have hal := hao.len
      have hsa : Tm.szL a.kids < a.sz := by cases a; simp only [Tm.sz, Tm.kids]; omega
      by_cases h0 : 0 ≤ s
      · have hr := ref36_terms_ok n a.kids a.nl (s - 1) (by omega) (fun t ht => hao.kid ht) (by omega) (by omega) (by omega)
        rw [← tmsT_eq] at hr
        have hb := tmsT_bd a (s - 1) (by omega)
        have hx : ixP 4 (rowD 4 nl (Tm.rows l)) (eI (i : Int)) = some a.cells := Tm.ixP_kid ha
        have ha3 : atP false 1 3 a.cells = some (rowD 4 a.nl (Tm.rows a.kids)) := by rw [atP_f, Tm.at3]
        left
        refine ⟨tmsT a (s - 1), ?_, by simp [tmsL, h0], by omega⟩
        simp only [ref36_terms_l2, go_sem, decide_eq_true (show ((i : Int) < (l.length : Int)) by omega), decide_eq_true (show s ≥ 0 by omega), hx, ha3, b_sub (bt := false) (a := s) (b := 1) (by omega) (by omega), hr, add1 (bt := false) (i := i) (by omega)]
      · right
        simp only [ref36_terms_l2, go_sem, decide_eq_true (show ((i : Int) < (l.length : Int)) by omega), decide_eq_false (show ¬ s ≥ 0 by omega), tmsL, if_neg h0]
def dfsM : List Df → Int → Int
  | [], m => m
  | d :: r, m => if 0 ≤ m then dfsM r (tmsL [d.e] m) else m
theorem dfsM_bd : ∀ (l : List Df) (m : Int), -1 ≤ m → -1 ≤ dfsM l m ∧ dfsM l m ≤ m ∧ (0 ≤ dfsM l m → ∀ d ∈ l, (d.e.sz : Int) ≤ 5 * m + 2)
  | [], m, h => by simp only [dfsM]; exact ⟨h, Int.le_refl _, fun _ d hd => absurd hd (by simp)⟩
  | d :: r, m, h => by
    rw [dfsM]
    split
    · have h1 := tmsL_bd [d.e] m h
      have h2 := dfsM_bd r (tmsL [d.e] m) h1.1
      have h3 : Tm.szL [d.e] = 1 + d.e.sz := by simp only [Tm.szL]; omega
      rw [h3] at h1
      refine ⟨h2.1, by omega, fun h4 e he => ?_⟩
      rcases List.mem_cons.1 he with rfl | he
      · have := h1.2.2 (by omega); omega
      · have := h2.2.2 h4 e he; omega
    · exact ⟨h, Int.le_refl _, fun h4 => by omega⟩
def spsM : List Sp → Int → Option Int
  | [], m => some m
  | s :: r, m => if 0 ≤ m then (if manyB s.f 200 = true then spsM r (m - 10) else none) else some m
theorem spsM_bd : ∀ (l : List Sp) (m k : Int), spsM l m = some k → 0 ≤ k → 0 ≤ m ∧ ∀ s ∈ l, (s.f.sz : Int) ≤ 1000
  | [], m, k, h, hk => by simp only [spsM, Option.some.injEq] at h; subst h; exact ⟨hk, fun s hs => absurd hs (by simp)⟩
  | s :: r, m, k, h, hk => by
    rw [spsM] at h
    split at h
    · rename_i h0
      split at h
      · rename_i hm
        have h1 := spsM_bd r (m - 10) k h hk
        refine ⟨h0, fun e he => ?_⟩
        rcases List.mem_cons.1 he with rfl | he
        · have := manyB_sz hm (by omega); omega
        · exact h1.2 e he
      · cases h
    · simp only [Option.some.injEq] at h; omega
def l70 (m : Md) : Bool := decide ((m.vars.length : Int) > 70) || decide ((m.defs.length : Int) > 70) || decide ((m.init.length : Int) > 70) || decide ((m.invar.length : Int) > 70) || decide ((m.next.length : Int) > 70) || decide ((m.trans.length : Int) > 70) || decide ((m.fair.length : Int) > 70) || decide ((m.specs.length : Int) > 70)
def mo4 (m : Md) : Int := tmsL m.fair (tmsL m.trans (tmsL m.invar (tmsL m.init 400)))
def smM (m : Md) : Bool := !l70 m && match spsM m.specs (dfsM m.next (dfsM m.defs (mo4 m))) with
  | some k => decide (k ≥ 0)
  | none => false
theorem l70_f {m : Md} (h : l70 m = false) : m.vars.length ≤ 70 ∧ m.defs.length ≤ 70 ∧ m.init.length ≤ 70 ∧ m.invar.length ≤ 70 ∧ m.next.length ≤ 70 ∧ m.trans.length ≤ 70 ∧ m.fair.length ≤ 70 ∧ m.specs.length ≤ 70 := by
  simp only [l70, Bool.or_eq_false_iff, decide_eq_false_iff_not] at h
  omega
theorem tmsL_sz {l : List Tm} {m : Int} (h : 0 ≤ tmsL l m) (hm : -1 ≤ m) : ∀ t ∈ l, (t.sz : Int) + 1 ≤ 5 * m := by
  intro t ht
  have h1 := (tmsL_bd l m hm).2.2 h
  have h2 := Tm.szL_mem ht
  omega
structure Sml (m : Md) : Prop where
  l : l70 m = false
  i : ∀ t ∈ m.init, t.sz ≤ 2100
  iv : ∀ t ∈ m.invar, t.sz ≤ 2100
  t : ∀ t ∈ m.trans, t.sz ≤ 2100
  f : ∀ t ∈ m.fair, t.sz ≤ 2100
  d : ∀ d ∈ m.defs, d.e.sz ≤ 2100
  n : ∀ d ∈ m.next, d.e.sz ≤ 2100
  s : ∀ s ∈ m.specs, s.f.sz ≤ 1000
theorem smM_t {m : Md} (h : smM m = true) : Sml m := by
  unfold smM at h
  rw [Bool.and_eq_true] at h
  obtain ⟨h1, h2⟩ := h
  cases hs : spsM m.specs (dfsM m.next (dfsM m.defs (mo4 m))) with
  | none => rw [hs] at h2; cases h2
  | some k =>
    rw [hs] at h2
    have hk := of_decide_eq_true h2
    have b1 := tmsL_bd m.init 400 (by omega)
    have b2 := tmsL_bd m.invar _ b1.1
    have b3 := tmsL_bd m.trans _ b2.1
    have b4 := tmsL_bd m.fair _ b3.1
    have b5 := dfsM_bd m.defs _ b4.1
    have b6 := dfsM_bd m.next _ b5.1
    have b7 := spsM_bd _ _ _ hs hk
    unfold mo4 at b7
    have c1 := tmsL_sz (l := m.init) (m := 400) (by omega) (by omega)
    have c2 := tmsL_sz (l := m.invar) (m := tmsL m.init 400) (by omega) (by omega)
    have c3 := tmsL_sz (l := m.trans) (m := tmsL m.invar (tmsL m.init 400)) (by omega) (by omega)
    have c4 := tmsL_sz (l := m.fair) (m := tmsL m.trans (tmsL m.invar (tmsL m.init 400))) (by omega) (by omega)
    have c5 := b5.2.2 (by omega)
    have c6 := b6.2.2 (by omega)
    exact ⟨by simpa using h1, fun t ht => by have := c1 t ht; omega, fun t ht => by have := c2 t ht; omega, fun t ht => by have := c3 t ht; omega, fun t ht => by have := c4 t ht; omega, fun t ht => by have := c5 t ht; omega, fun t ht => by have := c6 t ht; omega, fun t ht => by have := b7.2 t ht; omega⟩
/-- Enough steps for what is read. -/
structure Fu (m : Md) (n : Nat) : Prop where
  i : Tm.szL m.init + 5 < n
  iv : Tm.szL m.invar + 5 < n
  t : Tm.szL m.trans + 5 < n
  f : Tm.szL m.fair + 5 < n
  d : ∀ d ∈ m.defs, d.e.sz + 10 < n
  x : ∀ d ∈ m.next, d.e.sz + 10 < n
  s : ∀ s ∈ m.specs, s.f.sz + 20 < n
section
variable {m : Md} {n : Nat} (hw : MdW m) (hf : Fu m n) (hl : l70 m = false) (hn : 1000 < n)
include hw hf hl hn
theorem Small_l8_ok (m0 : Int) (h1 : -1 ≤ m0) (h2 : m0 < 1000) : iterL (ref36_Small_l8 n) n [eI m0, eI 0, eVs m.vars, eDs m.defs, eTs m.init, eTs m.invar, eDs m.next, eTs m.trans, eTs m.fair, eSps m.specs] = some (.inl [eI (dfsM m.defs m0), eVs m.vars, eDs m.defs, eTs m.init, eTs m.invar, eDs m.next, eTs m.trans, eTs m.fair, eSps m.specs]) := by
  have hl7 := l70_f hl
  have hi := iterL_list (f := ref36_Small_l8 n) m.defs (fun i (s : Int) => [eI s, eI (i : Int), eVs m.vars, eDs m.defs, eTs m.init, eTs m.invar, eDs m.next, eTs m.trans, eTs m.fair, eSps m.specs])
    (fun r s => (.inl [eI (dfsM r s), eVs m.vars, eDs m.defs, eTs m.init, eTs m.invar, eDs m.next, eTs m.trans, eTs m.fair, eSps m.specs] : List D ⊕ D)) (fun i s => -1 ≤ s ∧ s ≤ m0)
    (fun s _ => by simp only [ref36_Small_l8, go_sem, eDs_len, decide_eq_false (show ¬ ((m.defs.length : Int) < m.defs.length) by omega), gD_ft, pickP_ff, dfsM]) ?_ n 0 m0 (by omega) (by omega) (Nat.zero_le _)
  · exact hi
  · intro i d s hd hi hs
    have hmem := List.mem_of_getElem? hd
    have hdo := hw.d d hmem
    have hds := hf.d d hmem
    have hil := decide_eq_true (show ((i : Int) < (m.defs.length : Int)) by omega)
    have h3 : Tm.szL [d.e] = 1 + d.e.sz := by simp only [Tm.szL]; omega
    by_cases h0 : 0 ≤ s
    · have hr := ref36_terms_ok n [d.e] false s (by omega) (by simpa using hdo.2) (by simp) (by omega) (by omega)
      have er : rowD 4 false (Tm.rows [d.e]) = D.sl 4 [[eI d.e.op, eI d.e.num, eS d.e.name, rowD 4 d.e.nl (Tm.rows d.e.kids)]] := by
        rw [rowD_f]; simp only [Tm.rows, Tm.cells_eq]
      rw [er] at hr
      have hb := tmsL_bd [d.e] s (by omega)
      left
      refine ⟨tmsL [d.e] s, ?_, by rw [dfsM, if_pos h0], by omega⟩
      simp only [ref36_Small_l8, go_sem, eDs_len, hil, decide_eq_true (show s ≥ 0 by omega), eDs_ix hd, Df.at1, Tm.aggP_d, hr, add1 (bt := false) (i := i) (by omega)]
    · right
      simp only [ref36_Small_l8, go_sem, eDs_len, hil, decide_eq_false (show ¬ s ≥ 0 by omega), dfsM, if_neg h0]
theorem Small_l12_ok (m0 : Int) (h1 : -1 ≤ m0) (h2 : m0 < 1000) : iterL (ref36_Small_l12 n) n [eI m0, eI 0, eVs m.vars, eDs m.defs, eTs m.init, eTs m.invar, eDs m.next, eTs m.trans, eTs m.fair, eSps m.specs] = some (.inl [eI (dfsM m.next m0), eVs m.vars, eDs m.defs, eTs m.init, eTs m.invar, eDs m.next, eTs m.trans, eTs m.fair, eSps m.specs]) := by
  have hl7 := l70_f hl
  have hi := iterL_list (f := ref36_Small_l12 n) m.next (fun i (s : Int) => [eI s, eI (i : Int), eVs m.vars, eDs m.defs, eTs m.init, eTs m.invar, eDs m.next, eTs m.trans, eTs m.fair, eSps m.specs])
    (fun r s => (.inl [eI (dfsM r s), eVs m.vars, eDs m.defs, eTs m.init, eTs m.invar, eDs m.next, eTs m.trans, eTs m.fair, eSps m.specs] : List D ⊕ D)) (fun i s => -1 ≤ s ∧ s ≤ m0)
    (fun s _ => by simp only [ref36_Small_l12, go_sem, eDs_len, decide_eq_false (show ¬ ((m.next.length : Int) < m.next.length) by omega), gD_ft, pickP_ff, dfsM]) ?_ n 0 m0 (by omega) (by omega) (Nat.zero_le _)
  · exact hi
  · intro i d s hd hi hs
    have hmem := List.mem_of_getElem? hd
    have hdo := hw.n d hmem
    have hds := hf.x d hmem
    have hil := decide_eq_true (show ((i : Int) < (m.next.length : Int)) by omega)
    have h3 : Tm.szL [d.e] = 1 + d.e.sz := by simp only [Tm.szL]; omega
    by_cases h0 : 0 ≤ s
    · have hr := ref36_terms_ok n [d.e] false s (by omega) (by simpa using hdo.2) (by simp) (by omega) (by omega)
      have er : rowD 4 false (Tm.rows [d.e]) = D.sl 4 [[eI d.e.op, eI d.e.num, eS d.e.name, rowD 4 d.e.nl (Tm.rows d.e.kids)]] := by
        rw [rowD_f]; simp only [Tm.rows, Tm.cells_eq]
      rw [er] at hr
      have hb := tmsL_bd [d.e] s (by omega)
      left
      refine ⟨tmsL [d.e] s, ?_, by rw [dfsM, if_pos h0], by omega⟩
      simp only [ref36_Small_l12, go_sem, eDs_len, hil, decide_eq_true (show s ≥ 0 by omega), eDs_ix hd, Df.at1, Tm.aggP_d, hr, add1 (bt := false) (i := i) (by omega)]
    · right
      simp only [ref36_Small_l12, go_sem, eDs_len, hil, decide_eq_false (show ¬ s ≥ 0 by omega), dfsM, if_neg h0]
theorem Small_l16_ok (m0 : Int) (h1 : -1 ≤ m0) (h2 : m0 < 1000) : iterL (ref36_Small_l16 n) n [eI m0, eI 0, eVs m.vars, eDs m.defs, eTs m.init, eTs m.invar, eDs m.next, eTs m.trans, eTs m.fair, eSps m.specs] = some (match spsM m.specs m0 with | some k => .inl [eI k] | none => .inr (eB false)) := by
  have hl7 := l70_f hl
  have hi := iterL_list (f := ref36_Small_l16 n) m.specs (fun i (s : Int) => [eI s, eI (i : Int), eVs m.vars, eDs m.defs, eTs m.init, eTs m.invar, eDs m.next, eTs m.trans, eTs m.fair, eSps m.specs])
    (fun r s => (match spsM r s with | some k => .inl [eI k] | none => .inr (eB false) : List D ⊕ D)) (fun i s => -10 ≤ s ∧ s ≤ m0)
    (fun s _ => by simp only [ref36_Small_l16, go_sem, eSps_len, decide_eq_false (show ¬ ((m.specs.length : Int) < m.specs.length) by omega), gD_ft, pickP_ff, spsM]) ?_ n 0 m0 (by omega) (by omega) (Nat.zero_le _)
  · exact hi
  · intro i d s hd hi hs
    have hmem := List.mem_of_getElem? hd
    have hdo := hw.s d hmem
    have hds := hf.s d hmem
    have hM := ref32_Many_ok n d.f 200 (by omega) hdo.2 (by omega) (by omega)
    have hil := decide_eq_true (show ((i : Int) < (m.specs.length : Int)) by omega)
    by_cases h0 : 0 ≤ s
    · cases hm : manyB d.f 200 with
      | true =>
        left
        refine ⟨s - 10, ?_, by rw [spsM, if_pos h0, if_pos hm], by omega⟩
        simp only [ref36_Small_l16, go_sem, eSps_len, hil, decide_eq_true (show s ≥ 0 by omega), eSps_ix hd, Sp.at1, hM, hm, b_sub (bt := false) (a := s) (b := 10) (by omega) (by omega), add1 (bt := false) (i := i) (by omega)]
      | false =>
        right
        rw [spsM, if_pos h0, if_neg (by rw [hm]; decide)]
        simp only [ref36_Small_l16, go_sem, eSps_len, hil, decide_eq_true (show s ≥ 0 by omega), eSps_ix hd, Sp.at1, hM, hm]
    · right
      rw [spsM, if_neg h0]
      simp only [ref36_Small_l16, go_sem, eSps_len, hil, decide_eq_false (show ¬ s ≥ 0 by omega)]
end
theorem ref36_Small_ok {m : Md} {n : Nat} (hw : MdW m) (hf : Fu m n) (hn : 1000 < n) : ref36_SmallL n [m.d] = some (eB (smM m)) := by
  cases hl : l70 m with
  | true =>
    have hl' := hl
    unfold l70 at hl'
    simp only [ref36_SmallL, ref36_Small, go_sem, Md.agg, Md.c0, Md.c1, Md.c2, Md.c3, Md.c4, Md.c5, Md.c6, Md.c7, eVs_len, eDs_len, eTs_len, eSps_len, smM, hl', hl, Bool.false_and]
  | false =>
    have hl7 := l70_f hl
    have hl' := hl
    unfold l70 at hl'
    have b1 := tmsL_bd m.init 400 (by omega)
    have b2 := tmsL_bd m.invar _ b1.1
    have b3 := tmsL_bd m.trans _ b2.1
    have b4 := tmsL_bd m.fair _ b3.1
    have b5 := dfsM_bd m.defs _ b4.1
    have b6 := dfsM_bd m.next _ b5.1
    have t1 := ref36_terms_ok n m.init false 400 hf.i hw.i (by omega) (by omega) (by omega)
    have t2 := ref36_terms_ok n m.invar false _ hf.iv hw.iv (by omega) b1.1 (by omega)
    have t3 := ref36_terms_ok n m.trans false _ hf.t hw.t (by omega) b2.1 (by omega)
    have t4 := ref36_terms_ok n m.fair false _ hf.f hw.f (by omega) b3.1 (by omega)
    simp only [← eTs_row] at t1 t2 t3 t4
    have h8 := Small_l8_ok hw hf hl hn _ b4.1 (by omega)
    have h12 := Small_l12_ok hw hf hl hn _ b5.1 (by omega)
    have h16 := Small_l16_ok hw hf hl hn _ b6.1 (by omega)
    cases hs : spsM m.specs (dfsM m.next (dfsM m.defs (mo4 m))) with
    | none =>
      have hs' := hs
      unfold mo4 at hs'
      rw [hs'] at h16
      simp only [ref36_SmallL, ref36_Small, go_sem, Md.agg, Md.c0, Md.c1, Md.c2, Md.c3, Md.c4, Md.c5, Md.c6, Md.c7, eVs_len, eDs_len, eTs_len, eSps_len, smM, hl', hl, hs, t1, t2, t3, t4, h8, h12, h16]
    | some k =>
      have hs' := hs
      unfold mo4 at hs'
      rw [hs'] at h16
      simp only [ref36_SmallL, ref36_Small, go_sem, Md.agg, Md.c0, Md.c1, Md.c2, Md.c3, Md.c4, Md.c5, Md.c6, Md.c7, eVs_len, eDs_len, eTs_len, eSps_len, smM, hl', hl, hs, t1, t2, t3, t4, h8, h12, h16]
/-! ### The law -/
theorem mok_of {m : Md} {n : Nat} (hw : MdW m) (h : Sml m) (hn : 18446744073709551616 < n) : MOk m n := by
  have hl7 := l70_f h.l
  refine ⟨⟨⟨by omega, fun d hd => ⟨(hw.d d hd).2, by have := h.d d hd; omega⟩, by omega⟩, by omega, by omega⟩, by omega, ⟨by omega, fun v hv => hw.v v hv⟩, fun v hv => ?_, fun d hd => ?_, ⟨by omega, fun t ht => ⟨hw.i t ht, by have := h.i t ht; omega⟩⟩, ⟨by omega, fun t ht => ⟨hw.iv t ht, by have := h.iv t ht; omega⟩⟩, ⟨by omega, fun d hd => ⟨(hw.n d hd).2, by have := h.n d hd; omega⟩⟩, ⟨by omega, fun t ht => ⟨hw.t t ht, by have := h.t t ht; omega⟩⟩, ⟨by omega, fun t ht => ⟨hw.f t ht, by have := h.f t ht; omega⟩⟩, ⟨by omega, fun s hs => ?_⟩⟩
  · have := (hw.v v hv).2.2; omega
  · have := (hw.d d hd).1; omega
  · have := hw.s s hs; have := h.s s hs; exact ⟨⟨(hw.s s hs).2, by omega⟩, by omega, by omega⟩
end Go.Am
namespace Go.Am
set_option linter.unusedVariables false
set_option linter.unusedSimpArgs false
theorem seqM_zero : ∀ (L : List (Int × (Int × Int))), (seqM L).2.2 = 0 ↔ ∀ x ∈ L, x.2.2 = 0
  | [] => by simp [seqM]
  | x :: r => by
    rw [seqM]
    by_cases h : x.2.2 = 0
    · rw [if_pos h, seqM_zero r]; simp [h]
    · rw [if_neg h]; simp [h]
/-- A module in which Check finds nothing. -/
structure Free (m : Md) : Prop where
  l : ∀ x ∈ lnM m, x ≤ 64
  v : (firstErr m.vars).2 = 0
  b : ¬ 30 < sumB m.vars
  nm : (fE (nmE m) m.defs.length 0).2 = 0
  rg : (fE (rgE m) m.defs.length 0).2 = 0
  mt : (fE (mtE m) m.defs.length 0).2 = 0
  i : (fE (tmE m m.init false) m.init.length 0).2 = 0
  iv : (fE (tmE m m.invar false) m.invar.length 0).2 = 0
  nx : (fE (nxE m) m.next.length 0).2 = 0
  t : (fE (tmE m m.trans true) m.trans.length 0).2 = 0
  f : (fE (tmE m m.fair false) m.fair.length 0).2 = 0
  s : (fE (spE m) m.specs.length 0).2 = 0
theorem lnE_zero (m : Md) : (fE (lnE m) 8 0).2 = 0 ↔ ∀ x ∈ lnM m, x ≤ 64 := by
  have hl : (lnM m).length = 8 := rfl
  rw [fE_zero]
  constructor
  · intro h x hx
    obtain ⟨i, hi⟩ := List.mem_iff_getElem?.1 hx
    have hil := (List.getElem?_eq_some_iff.1 hi).1
    have := h i (by omega) (by omega)
    unfold lnE at this
    rw [hi, Option.getD_some] at this
    by_cases hc : 64 < x
    · rw [if_pos hc] at this; exact absurd this (by decide)
    · omega
  · intro h j h1 h2
    have hj : j < (lnM m).length := by omega
    have := h _ (List.getElem_mem hj)
    unfold lnE
    rw [List.getElem?_eq_getElem hj, Option.getD_some, if_neg (by omega)]
theorem chM_free {m : Md} : (chM m).2.2 = 0 ↔ Free m := by
  unfold chM
  constructor
  · intro h
    by_cases c1 : (fE (lnE m) 8 0).2 = 0
    case neg => rw [if_neg c1] at h; exact absurd h (show ¬ (18 : Int) = 0 by decide)
    rw [if_pos c1] at h
    by_cases c2 : (firstErr m.vars).2 = 0
    case neg => rw [if_neg c2] at h; exact absurd h c2
    rw [if_pos c2] at h
    by_cases c3 : 30 < sumB m.vars
    · rw [if_pos c3] at h; exact absurd h (show ¬ (18 : Int) = 0 by decide)
    rw [if_neg c3, seqM_zero] at h
    unfold grM at h
    simp only [List.forall_mem_cons] at h
    obtain ⟨h1, h2, h3, h4, h5, h6, h7, h8, h9, _⟩ := h
    exact ⟨(lnE_zero m).1 c1, c2, c3, h1, h2, h3, h4, h5, h6, h7, h8, h9⟩
  · intro h
    rw [if_pos ((lnE_zero m).2 h.l), if_pos h.v, if_neg h.b, seqM_zero]
    unfold grM
    simp only [List.forall_mem_cons]
    exact ⟨h.nm, h.rg, h.mt, h.i, h.iv, h.nx, h.t, h.f, h.s, fun x hx => absurd hx (by simp)⟩
theorem chM_nil {m : Md} (h : Free m) : chM m = (0, (0, 0)) := by
  have h0 := chM_free.2 h
  have hs : (seqM (grM m)).2.2 = 0 := by
    unfold chM at h0
    rw [if_pos ((lnE_zero m).2 h.l), if_pos h.v, if_neg h.b] at h0
    exact h0
  unfold chM
  rw [if_pos ((lnE_zero m).2 h.l), if_pos h.v, if_neg h.b, seqM_nil _ hs]
end Go.Am
namespace Go.Am
theorem most_of {α : Type} (f : α → Nat) : ∀ l : List α, ∃ S, ∀ x ∈ l, f x ≤ S
  | [] => ⟨0, by simp⟩
  | a :: r => by
    obtain ⟨S, h⟩ := most_of f r
    exact ⟨S + f a, fun x hx => by rcases List.mem_cons.1 hx with rfl | hx; omega; have := h x hx; omega⟩
theorem fu_ex (m : Md) : ∃ n, 18446744073709551616 < n ∧ Fu m n := by
  obtain ⟨A, hA⟩ := most_of (fun d : Df => d.e.sz) m.defs
  obtain ⟨B, hB⟩ := most_of (fun d : Df => d.e.sz) m.next
  obtain ⟨C, hC⟩ := most_of (fun d : Sp => d.f.sz) m.specs
  exact ⟨18446744073709551617 + 30 + A + B + C + Tm.szL m.init + Tm.szL m.invar + Tm.szL m.trans + Tm.szL m.fair, by omega, by omega, by omega, by omega, by omega, fun d hd => by have := hA d hd; omega, fun d hd => by have := hB d hd; omega, fun d hd => by have := hC d hd; omega⟩
end Go.Am
namespace Go.Am
set_option linter.unusedVariables false
set_option linter.unusedSimpArgs false
/-! ### All valuations -/
def eLs (l : List (List Int)) : D := .sl 1 (l.map fun s => [eIs s])
def loV (v : V) : Int := if v.bool = true then 0 else v.lo
def extV (v : V) (s : List Int) : List (List Int) := (List.range v.span.toNat).map fun (j : Nat) => s ++ [loV v + (j : Int)]
def exAll : List V → List (List Int) → List (List Int)
  | [], out => out
  | v :: r, out => exAll r (out.flatMap (extV v))
def prN : List V → Nat
  | [] => 1
  | v :: r => v.span.toNat * prN r
/-- Ends of a variable that Check lets pass. -/
def VGood (v : V) : Prop := 1 ≤ v.span ∧ v.span ≤ 64 ∧ -2000000 ≤ loV v ∧ loV v ≤ 2000000
theorem eLs_sl (l : List (List Int)) : D.sl 1 (esD (eLs l)) = eLs l := rfl
theorem eLs_el (l : List (List Int)) : (esD (eLs l)).length = l.length := by simp [eLs]
theorem eLs_get {l : List (List Int)} {j : Nat} {s : List Int} (h : l[j]? = some s) : (esD (eLs l))[j]? = some [eIs s] := by simp [eLs, h]
theorem eLs_sn (l : List (List Int)) (s : List Int) : D.sl 1 (esD (eLs l) ++ [[eIs s]]) = eLs (l ++ [s]) := by simp [eLs]
theorem eIs_elP (s : List Int) : elP (eIs s) = some (1, s.map fun (x : Int) => [eI x]) := rfl
theorem eIs_one (s : List Int) : oneP (eIs s) = true := rfl
section
variable (m : Md) (n : Nat)
theorem All_l16_ok (hv : VsOk m.vars) (hn : 5000 < n) (i k : Nat) (v : V) (hvi : m.vars[i]? = some v) (hg : VGood v) (out : List (List Int)) (s : List Int) (hs : out[k]? = some s) (hsl : s.length ≤ 200) (hol : out.length ≤ 100) (nx : List (List Int)) (hnl : nx.length ≤ 100000) :
    iterL (ref36_All_l16 n) n [eI (i : Int), eI (loV v), eI (k : Int), eI 0, eVs m.vars, eDs m.defs, eTs m.init, eTs m.invar, eDs m.next, eTs m.trans, eTs m.fair, eSps m.specs, eLs out, eLs nx] = some (.inl [eI (i : Int), eI (loV v), eI (k : Int), eVs m.vars, eDs m.defs, eTs m.init, eTs m.invar, eDs m.next, eTs m.trans, eTs m.fair, eSps m.specs, eLs out, eLs (nx ++ extV v s)]) := by
  obtain ⟨g1, g2, g3, g4⟩ := hg
  obtain ⟨i1, i2, _⟩ := hv.2 v (List.mem_of_getElem? hvi)
  have hsp := ref36_Span_ok n v i1 i2
  have hkl := (List.getElem?_eq_some_iff.1 hs).1
  have hspn : v.span = (v.span.toNat : Int) := by omega
  have hi := iterL_list (f := ref36_All_l16 n) (List.range v.span.toNat) (fun j (q : List (List Int)) => [eI (i : Int), eI (loV v), eI (k : Int), eI (j : Int), eVs m.vars, eDs m.defs, eTs m.init, eTs m.invar, eDs m.next, eTs m.trans, eTs m.fair, eSps m.specs, eLs out, eLs q])
    (fun r q => (.inl [eI (i : Int), eI (loV v), eI (k : Int), eVs m.vars, eDs m.defs, eTs m.init, eTs m.invar, eDs m.next, eTs m.trans, eTs m.fair, eSps m.specs, eLs out, eLs (q ++ r.map fun (j : Nat) => s ++ [loV v + (j : Int)])] : List D ⊕ (List D ⊕ (List D ⊕ (List D ⊕ (List D ⊕ (List D ⊕ (List D ⊕ D))))))))
    (fun j q => q.length ≤ 100000 + j) ?_ ?_ n 0 nx (by omega) (by simp; omega) (Nat.zero_le _)
  · exact hi
  · intro q hq
    have hlt : decide (((List.range v.span.toNat).length : Int) < v.span) = false := decide_eq_false (by rw [List.length_range]; omega)
    simp only [ref36_All_l16, go_sem, eVs_ix hvi, V.a4, hsp, hlt, eLs_sl, List.map_nil, List.append_nil]
  · intro j a q ha hj hq
    rw [List.length_range] at hj
    have haj : a = j := by
      have := (List.getElem?_eq_some_iff.1 ha).2
      simpa using this.symm
    subst haj
    have hlt : decide ((a : Int) < v.span) = true := decide_eq_true (by omega)
    have hnp : numP out.length (eI (k : Int)) = some k := by rw [numP_nat, if_pos hkl]
    have hadd : binP false .add (eI (loV v)) (eI (a : Int)) = some (eI (loV v + (a : Int))) := b_add (by omega) (by omega)
    have r1 : roomP s.length 8 = true := roomP_ok (by omega) (by omega)
    have r2 : roomP (s.length + 1) 8 = true := roomP_ok (by omega) (by omega)
    have r3 : roomP (q.length + 1) 24 = true := roomP_ok (by omega) (by omega)
    have hat : atP false 1 0 [eIs s] = some (eIs s) := rfl
    have hdec : (decide (True ∨ (s.map fun (x : Int) => [eI x]) = []) && decide (0 < 1)) = true := by simp
    have h11 : ((1 : Nat) = 1) = True := eq_self 1
    left
    refine ⟨q ++ [s ++ [loV v + (a : Int)]], ?_, by simp, by simp; omega⟩
    simp only [ref36_All_l16, go_sem, eVs_ix hvi, V.a4, hsp, hlt, eLs_el, hnp, eLs_get hs, hat, eIs_elP, h11, hdec, List.length_nil, List.length_map, List.nil_append, r1, hadd, List.length_cons, Nat.zero_add, List.length_append, r2]
    have e1 : D.sl 1 ((s.map fun (x : Int) => [eI x]) ++ [[eI (loV v + (a : Int))]]) = eIs (s ++ [loV v + (a : Int)]) := by simp [eIs]
    simp only [e1, eIs_one, go_sem, r3, add1 (bt := false) (i := a) (by omega), eLs_sn, eLs_sl]
theorem All_l13_ok (hv : VsOk m.vars) (hn : 5000 < n) (i : Nat) (v : V) (hvi : m.vars[i]? = some v) (hg : VGood v) (out : List (List Int)) (hsl : ∀ s ∈ out, s.length ≤ 200) (hol : out.length ≤ 100) :
    iterL (ref36_All_l13 n) n [eI (i : Int), eI (loV v), eI 0, eVs m.vars, eDs m.defs, eTs m.init, eTs m.invar, eDs m.next, eTs m.trans, eTs m.fair, eSps m.specs, eLs out, eLs []] = some (.inl [eI (i : Int), eVs m.vars, eDs m.defs, eTs m.init, eTs m.invar, eDs m.next, eTs m.trans, eTs m.fair, eSps m.specs, eLs (out.flatMap (extV v))]) := by
  have hi := iterL_list (f := ref36_All_l13 n) out (fun j (q : List (List Int)) => [eI (i : Int), eI (loV v), eI (j : Int), eVs m.vars, eDs m.defs, eTs m.init, eTs m.invar, eDs m.next, eTs m.trans, eTs m.fair, eSps m.specs, eLs out, eLs q])
    (fun r q => (.inl [eI (i : Int), eVs m.vars, eDs m.defs, eTs m.init, eTs m.invar, eDs m.next, eTs m.trans, eTs m.fair, eSps m.specs, eLs (q ++ r.flatMap (extV v))] : List D ⊕ (List D ⊕ (List D ⊕ (List D ⊕ D)))))
    (fun j q => q.length ≤ 64 * j) ?_ ?_ n 0 [] (by simp) (by omega) (Nat.zero_le _)
  · exact hi
  · intro q hq
    simp only [ref36_All_l13, go_sem, eLs_el, decide_eq_false (show ¬ ((out.length : Int) < out.length) by omega), eLs_sl, List.flatMap_nil, List.append_nil]
  · intro j s q hs hj hq
    have hjl := decide_eq_true (show ((j : Int) < (out.length : Int)) by omega)
    have h16 := All_l16_ok m n hv hn i j v hvi hg out s hs (hsl s (List.mem_of_getElem? hs)) hol q (by omega)
    have hel : (extV v s).length ≤ 64 := by
      have := hg.2.1
      simp only [extV, List.length_map, List.length_range]; omega
    left
    refine ⟨q ++ extV v s, ?_, by simp [List.flatMap_cons], by simp; omega⟩
    simp only [ref36_All_l13, go_sem, eLs_el, hjl, eLs_sl, h16, add1 (bt := false) (i := j) (by omega)]
theorem extV_len (v : V) (s : List Int) : (extV v s).length = v.span.toNat := by simp [extV]
theorem flat_len (v : V) : ∀ out : List (List Int), (out.flatMap (extV v)).length = out.length * v.span.toNat
  | [] => by simp
  | s :: r => by rw [List.flatMap_cons, List.length_append, flat_len v r, extV_len, List.length_cons, Nat.succ_mul, Nat.add_comm]
theorem prN_pos : ∀ (l : List V), (∀ v ∈ l, VGood v) → 1 ≤ prN l
  | [], _ => Nat.le_refl 1
  | v :: r, h => by
    have h1 := (h v (by simp)).1
    have h2 := prN_pos r fun w hw => h w (by simp [hw])
    have : 1 ≤ v.span.toNat := by omega
    rw [prN]
    exact Nat.mul_le_mul this h2
theorem exAll_len : ∀ (l : List V) (out : List (List Int)), (exAll l out).length = out.length * prN l
  | [], out => by simp [exAll, prN]
  | v :: r, out => by rw [exAll, exAll_len r, flat_len, prN, Nat.mul_assoc]
theorem extV_mem {v : V} {s t : List Int} (h : t ∈ extV v s) : t.length = s.length + 1 := by
  simp only [extV, List.mem_map] at h
  obtain ⟨j, _, rfl⟩ := h
  simp
theorem ref36_All_ok (hv : VsOk m.vars) (hn : 5000 < n) (hl : m.vars.length ≤ 100) (hg : ∀ v ∈ m.vars, VGood v) (hp : prN m.vars ≤ 24) (hst : stM m.vars = ((prN m.vars : Int), true)) : ref36_AllL n [m.d, eI 24] = some (eLs (exAll m.vars [[]])) := by
  have hS := ref36_States_ok n m hv hl (by omega)
  rw [hst] at hS
  have hgt : decide (((prN m.vars : Nat) : Int) > 24) = false := decide_eq_false (by omega)
  have hi := iterL_list (f := ref36_All_l6 n) m.vars (fun i (q : List (List Int)) => [eI (i : Int), eVs m.vars, eDs m.defs, eTs m.init, eTs m.invar, eDs m.next, eTs m.trans, eTs m.fair, eSps m.specs, eLs q])
    (fun r q => (.inl [eLs (exAll r q)] : List D ⊕ D)) (fun i q => q.length * prN (m.vars.drop i) ≤ 24 ∧ ∀ s ∈ q, s.length = i) ?_ ?_ n 0 [[]] ⟨by simpa using hp, by simp⟩ (by omega) (Nat.zero_le _)
  · have e0 : (eI ((0 : Nat) : Int)) = eI 0 := rfl
    have e1 : D.sl 1 [[D.sl 1 ([] : List (List D))]] = eLs [[]] := rfl
    have o1 : oneP (D.sl 1 ([] : List (List D))) = true := rfl
    rw [e0, List.drop_zero] at hi
    simp only [ref36_AllL, ref36_All, go_sem, Md.agg, Md.c0, Md.c1, Md.c2, Md.c3, Md.c4, Md.c5, Md.c6, Md.c7, Md.eta, hS, hgt, o1, e1, hi, eLs_sl, Bool.or_self]
  · intro q hq
    simp only [ref36_All_l6, go_sem, eVs_len, decide_eq_false (show ¬ ((m.vars.length : Int) < m.vars.length) by omega), eLs_sl, exAll]
  · rintro i v q hvi hi ⟨h1, h2⟩
    have hgv := hg v (List.mem_of_getElem? hvi)
    have hd : m.vars.drop i = v :: m.vars.drop (i + 1) := by
      obtain ⟨hil, rfl⟩ := List.getElem?_eq_some_iff.1 hvi
      exact List.drop_eq_getElem_cons hil
    have hpp := prN_pos (m.vars.drop i) fun w hw => hg w (List.mem_of_mem_drop hw)
    have hql : q.length ≤ 24 := Nat.le_trans (Nat.le_mul_of_pos_right _ hpp) h1
    have h13 := All_l13_ok m n hv hn i v hvi hgv q (fun s hs => by rw [h2 s hs]; omega) (by omega)
    have hjl := decide_eq_true (show ((i : Int) < (m.vars.length : Int)) by omega)
    have a2 : atP false 1 2 v.cells = some (eI v.lo) := rfl
    have a1 : atP false 1 1 v.cells = some (eB v.bool) := rfl
    have e1 : D.sl 1 ([] : List (List D)) = eLs [] := rfl
    left
    refine ⟨q.flatMap (extV v), ?_, rfl, ?_, ?_⟩
    · cases hb : v.bool with
      | true =>
        have hlo : loV v = 0 := by simp [loV, hb]
        rw [hlo] at h13
        simp only [ref36_All_l6, go_sem, eVs_len, hjl, eVs_ix hvi, a2, a1, hb, e1, eLs_sl, h13, add1 (bt := false) (i := i) (by omega)]
      | false =>
        have hlo : loV v = v.lo := by simp [loV, hb]
        rw [hlo] at h13
        simp only [ref36_All_l6, go_sem, eVs_len, hjl, eVs_ix hvi, a2, a1, hb, e1, eLs_sl, h13, add1 (bt := false) (i := i) (by omega)]
    · rw [flat_len]
      rw [hd, prN] at h1
      rw [Nat.mul_assoc]; exact h1
    · intro t ht
      obtain ⟨s, hs, hts⟩ := List.mem_flatMap.1 ht
      rw [extV_mem hts, h2 s hs]
end
/-! ### They are in range -/
theorem ranged_snoc {l : List V} {s : List Int} (h : ranged l s) {v : V} {x : Int} (hx : if v.bool then x = 0 ∨ x = 1 else v.lo ≤ x ∧ x ≤ v.hi) : ranged (l ++ [v]) (s ++ [x]) := by
  refine ⟨by simp [h.1], fun i w y hw hy => ?_⟩
  rcases Nat.lt_trichotomy i l.length with hi | hi | hi
  · rw [List.getElem?_append_left hi] at hw
    rw [List.getElem?_append_left (by rw [h.1]; exact hi)] at hy
    exact h.2 i w y hw hy
  · subst hi
    rw [List.getElem?_append_right (Nat.le_refl _)] at hw
    rw [List.getElem?_append_right (by rw [h.1]; exact Nat.le_refl _)] at hy
    simp [h.1] at hw hy
    subst hw; subst hy; exact hx
  · rw [List.getElem?_eq_none (by simp; omega)] at hw; cases hw
theorem ext_rng {v : V} {j : Nat} (hj : j < v.span.toNat) (hg : VGood v) : if v.bool then (loV v + (j : Int) = 0 ∨ loV v + (j : Int) = 1) else v.lo ≤ loV v + (j : Int) ∧ loV v + (j : Int) ≤ v.hi := by
  have g2 := hg.2.1
  unfold V.span at hj g2
  unfold loV
  cases hb : v.bool with
  | true =>
    rw [hb] at hj g2
    simp only [if_true] at hj ⊢
    omega
  | false =>
    rw [hb] at hj g2
    simp only [Bool.false_eq_true, if_false] at hj g2 ⊢
    split at hj
    · simp at hj
    · split at hj
      · omega
      · rename_i h1 h2
        rw [if_neg h1, if_neg h2] at g2; omega
theorem exAll_rng : ∀ (r pre : List V) (out : List (List Int)), (∀ v ∈ r, VGood v) → (∀ s ∈ out, ranged pre s) → ∀ s ∈ exAll r out, ranged (pre ++ r) s
  | [], pre, out, _, h, s, hs => by rw [List.append_nil]; exact h s hs
  | v :: r, pre, out, hg, h, s, hs => by
    rw [exAll] at hs
    have := exAll_rng r (pre ++ [v]) (out.flatMap (extV v)) (fun w hw => hg w (by simp [hw])) (fun t ht => ?_) s hs
    · rw [List.append_assoc] at this; exact this
    · obtain ⟨q, hq, htq⟩ := List.mem_flatMap.1 ht
      simp only [extV, List.mem_map, List.mem_range] at htq
      obtain ⟨j, hj, rfl⟩ := htq
      exact ranged_snoc (h q hq) (ext_rng hj (hg v (by simp)))
theorem all_rng {l : List V} (hg : ∀ v ∈ l, VGood v) : ∀ s ∈ exAll l [[]], ranged l s := by
  have := exAll_rng l [] [[]] hg (fun s hs => by simp at hs; subst hs; exact ⟨rfl, fun i v x hv => by simp at hv⟩)
  simpa using this
end Go.Am
namespace Go.Am
set_option linter.unusedVariables false
set_option linter.unusedSimpArgs false
/-! ### Types without a next are types with one -/
theorem typL_next {vs : List V} : ∀ {l : List Tm}, (typL vs false l).2 = 0 → (∀ k ∈ l, typ vs true k = typ vs false k) → typL vs true l = typL vs false l
  | [], _, _ => rfl
  | t :: r, h, hk => by
    have h1 := typL_kid h
    rw [typL, typL, hk t (by simp)]
    have h0 := h1 t (by simp)
    rw [typL, if_neg (by simpa using h0)] at h
    have h2 : (typL vs false r).2 = 0 := by
      by_cases hc : (typL vs false r).2 = 0
      · exact hc
      · rw [if_pos (by simpa using hc)] at h; exact h
    rw [typL_next h2 fun k hkm => hk k (by simp [hkm])]
theorem typ_next {vs : List V} (t : Tm) : Valid t → (typ vs false t).2 = 0 → typ vs true t = typ vs false t := by
  refine Tm.ind (P := fun t => Valid t → (typ vs false t).2 = 0 → typ vs true t = typ vs false t) ?_ t
  intro t ih hv h
  have hk : ∀ k ∈ t.kids, (typ vs false k).2 = 0 := fun k hk => typ_kid hv h hk
  rw [typ_eq] at h
  rw [typ_eq, typ_eq vs false]
  by_cases h4 : t.op ≤ 4
  · rw [if_pos h4] at h ⊢
    rw [if_pos h4]
    unfold leafV at h ⊢
    by_cases h1 : t.op = 1
    · simp only [if_pos h1]
    by_cases h2 : t.op = 2
    · simp only [if_neg h1, if_pos h2]
    simp only [if_neg h1, if_neg h2] at h ⊢
    cases hi : idxV vs t.name with
    | none => rfl
    | some i =>
      rw [hi] at h
      simp only at h ⊢
      by_cases h5 : t.op = 4
      · rw [if_pos ⟨h5, trivial⟩] at h; exact absurd h (show ¬ (24 : Int) = 0 by decide)
      · rw [if_neg (by simp), if_neg (by simp [h5])]
  · rw [if_neg h4] at h ⊢
    rw [if_neg h4]
    have h0 : (typL vs false t.kids).2 = 0 := by
      by_cases hc : (typL vs false t.kids).2 = 0
      · exact hc
      · rw [if_pos (by simpa using hc)] at h; exact h
    rw [typL_next h0 fun k hkm => ih k hkm (hv.kid hkm) (hk k hkm)]
theorem typeR_true {vs : List V} {nx : Bool} {t : Tm} (h : (typeR vs nx t).2 = 0) : typeR vs true t = typeR vs nx t ∧ Valid t ∧ (typ vs true t).2 = 0 ∧ (typeR vs nx t).1 = (typ vs true t).1 := by
  obtain ⟨h1, h2⟩ := typeR_ok h
  have hc : ¬ (chk t 1 0).1 ≠ 0 := by
    intro hc
    unfold typeR at h
    rw [if_pos hc] at h; exact hc h
  have e : typ vs true t = typ vs nx t := by
    cases nx with
    | true => rfl
    | false => exact typ_next t h1 h2
  unfold typeR
  rw [if_neg hc, if_neg hc, e]
  exact ⟨rfl, h1, h2, rfl⟩
/-! ### Terms have values of their types -/
def loY (y : Y) : Int := if y.b = true then 0 else y.lo
def hiY (y : Y) : Int := if y.b = true then 1 else y.hi
theorem within_lh {y : Y} {v : Int} (h : within y v) : loY y ≤ v ∧ v ≤ hiY y := by
  unfold within at h
  unfold loY hiY
  cases hb : y.b <;> rw [hb] at h <;> simp at h ⊢ <;> omega
theorem eLs_ix {l : List (List Int)} {j : Nat} {s : List Int} (h : l[j]? = some s) : ixP 1 (eLs l) (eI (j : Int)) = some [eIs s] := by simp [eLs, h]
theorem eLs_len (l : List (List Int)) : lenP (eLs l) = some (eI l.length) := by simp [eLs]
section
variable (m : Md) (n : Nat) (vl : m.vars.length ≤ 100) (t : Tm) (hok : t.Ok) (hn : t.sz + 5000 < n) (nx : Bool) (all : List (List Int)) (hal : all.length ≤ 100) (lo hi : Int)
  (hE : ∀ s ∈ all, ∀ s' ∈ all, ∃ v, evalR m.vars t s s' = (v, true) ∧ lo ≤ v ∧ v ≤ hi)
include vl hok hn hal hE
theorem Comes_l14_ok (i : Nat) (hi' : i < all.length) : iterL (ref36_Comes_l14 n) n [eB nx, eLs all, eI lo, eI hi, eI (i : Int), eI 0, eVs m.vars, eDs m.defs, eTs m.init, eTs m.invar, eDs m.next, eTs m.trans, eTs m.fair, eSps m.specs, eI t.op, eI t.num, eS t.name, rowD 4 t.nl (Tm.rows t.kids)] =
    some (.inl [eB nx, eLs all, eI lo, eI hi, eI (i : Int), eVs m.vars, eDs m.defs, eTs m.init, eTs m.invar, eDs m.next, eTs m.trans, eTs m.fair, eSps m.specs, eI t.op, eI t.num, eS t.name, rowD 4 t.nl (Tm.rows t.kids)]) := by
  obtain ⟨s, hs⟩ : ∃ s, all[i]? = some s := ⟨all[i], List.getElem?_eq_getElem hi'⟩
  have h := iterL_list (f := ref36_Comes_l14 n) all (fun k (_ : Unit) => [eB nx, eLs all, eI lo, eI hi, eI (i : Int), eI (k : Int), eVs m.vars, eDs m.defs, eTs m.init, eTs m.invar, eDs m.next, eTs m.trans, eTs m.fair, eSps m.specs, eI t.op, eI t.num, eS t.name, rowD 4 t.nl (Tm.rows t.kids)])
    (fun r _ => (.inl [eB nx, eLs all, eI lo, eI hi, eI (i : Int), eVs m.vars, eDs m.defs, eTs m.init, eTs m.invar, eDs m.next, eTs m.trans, eTs m.fair, eSps m.specs, eI t.op, eI t.num, eS t.name, rowD 4 t.nl (Tm.rows t.kids)] : List D ⊕ (List D ⊕ (List D ⊕ (List D ⊕ D)))))
    (fun _ _ => True) ?_ ?_ n 0 () trivial (by omega) (Nat.zero_le _)
  · exact h
  · intro _ _
    simp only [ref36_Comes_l14, go_sem, eLs_len, decide_eq_false (show ¬ ((all.length : Int) < all.length) by omega)]
  · intro k s' _ hs' hk _
    left
    refine ⟨(), ?_, rfl, trivial⟩
    have hjl := decide_eq_true (show ((k : Int) < (all.length : Int)) by omega)
    obtain ⟨v, e1, e2, e3⟩ := hE s (List.mem_of_getElem? hs) s' (List.mem_of_getElem? hs')
    have hv := ref30_Eval_ok n m.vars t s s' (by omega) hok (by omega)
    rw [e1] at hv
    have hr : resD (v, true) = .tup [eI v, eB true] := rfl
    rw [hr] at hv
    have hat : ∀ q, atP false 1 0 [eIs q] = some (eIs q) := fun _ => rfl
    by_cases hc : (!nx && decide ((k : Int) > 0)) = true
    · simp only [ref36_Comes_l14, go_sem, eLs_len, hjl, hc, add1 (bt := false) (i := k) (by omega)]
    · have hc' : (!nx && decide ((k : Int) > 0)) = false := by simpa using hc
      simp only [ref36_Comes_l14, go_sem, eLs_len, hjl, hc', eLs_ix hs, eLs_ix hs', hat, hv, decide_eq_false (show ¬ v < lo by omega), decide_eq_false (show ¬ v > hi by omega), Bool.or_self, add1 (bt := false) (i := k) (by omega)]
theorem Comes_l11_ok : iterL (ref36_Comes_l11 n) n [eB nx, eLs all, eI lo, eI hi, eI 0, eVs m.vars, eDs m.defs, eTs m.init, eTs m.invar, eDs m.next, eTs m.trans, eTs m.fair, eSps m.specs, eI t.op, eI t.num, eS t.name, rowD 4 t.nl (Tm.rows t.kids)] = some (.inl []) := by
  have h := iterL_list (f := ref36_Comes_l11 n) all (fun k (_ : Unit) => [eB nx, eLs all, eI lo, eI hi, eI (k : Int), eVs m.vars, eDs m.defs, eTs m.init, eTs m.invar, eDs m.next, eTs m.trans, eTs m.fair, eSps m.specs, eI t.op, eI t.num, eS t.name, rowD 4 t.nl (Tm.rows t.kids)])
    (fun r _ => (.inl [] : List D ⊕ D)) (fun _ _ => True) ?_ ?_ n 0 () trivial (by omega) (Nat.zero_le _)
  · exact h
  · intro _ _
    simp only [ref36_Comes_l11, go_sem, eLs_len, decide_eq_false (show ¬ ((all.length : Int) < all.length) by omega)]
  · intro k s' _ hs' hk _
    left
    refine ⟨(), ?_, rfl, trivial⟩
    have hjl := decide_eq_true (show ((k : Int) < (all.length : Int)) by omega)
    have h14 := Comes_l14_ok m n vl t hok hn nx all hal lo hi hE k hk
    simp only [ref36_Comes_l11, go_sem, eLs_len, hjl, h14, add1 (bt := false) (i := k) (by omega)]
end
theorem ref36_Comes_ok {m : Md} (hm : MSz m) (n : Nat) (hn : 301000000 < n) {t : Tm} (hok : t.Ok) (ht : t.sz ≤ 12300) (nx : Bool) (h0 : (tyM m nx t).2 = 0) (all : List (List Int)) (hal : all.length ≤ 100) (hr : ∀ s ∈ all, ranged m.vars s) : ref36_ComesL n [m.d, t.d, eB nx, eLs all] = some (eB true) := by
  have hP := hm.inx hok ht
  have hvl := hm.vl
  unfold tyM at h0
  generalize inX m.defs t = p at *
  have hA := hP.b n hn
  have hp : p.2 = 0 := by
    by_cases hc : p.2 = 0
    · exact hc
    · rw [if_pos (by simpa using hc)] at h0; exact absurd h0 hc
  rw [if_neg (by simpa using hp)] at h0
  obtain ⟨x1, x2, x3, x4, x5, _⟩ := hP.x hp
  rw [if_pos hp, hp] at hA
  rw [← typeR_sm sm_fls] at h0
  have hsz := fls_sz p.1
  generalize fls p.1 = q at *
  have hT := ref30_Type_ok n m.vars q nx (by omega) x5 (by omega)
  obtain ⟨f1, f2, f3, f4⟩ := typeR_true h0
  generalize hy : (typeR m.vars nx q).1 = y at *
  rw [h0] at hT
  have hE : ∀ s ∈ all, ∀ s' ∈ all, ∃ v, evalR m.vars q s s' = (v, true) ∧ loY y ≤ v ∧ v ≤ hiY y := by
    intro s hs s' hs'
    obtain ⟨g1, g2⟩ := typ_within (hr s hs) (hr s' hs') q f2 f3
    rw [← f4] at g2
    refine ⟨(valR m.vars s s' q).1, ?_, within_lh g2⟩
    unfold evalR
    rw [if_neg (by rw [f1, h0]; simpa using (hr s hs).1)]
    exact Prod.ext rfl g1
  have h11 := Comes_l11_ok m n hvl q x5 (by omega) nx all hal (loY y) (hiY y) hE
  have hz : ((0 : Int) != 0) = false := rfl
  cases hb : y.b with
  | true =>
    have e1 : loY y = 0 := by simp [loY, hb]
    have e2 : hiY y = 1 := by simp [hiY, hb]
    rw [e1, e2] at h11
    simp only [ref36_ComesL, ref36_Comes, go_sem, Md.agg, Md.c0, Md.c1, Md.c2, Md.c3, Md.c4, Md.c5, Md.c6, Md.c7, hA, hz, hT, Yag, Yc0, Yc1, Yc2, hb, h11]
  | false =>
    have e1 : loY y = y.lo := by simp [loY, hb]
    have e2 : hiY y = y.hi := by simp [hiY, hb]
    rw [e1, e2] at h11
    simp only [ref36_ComesL, ref36_Comes, go_sem, Md.agg, Md.c0, Md.c1, Md.c2, Md.c3, Md.c4, Md.c5, Md.c6, Md.c7, hA, hz, hT, Yag, Yc0, Yc1, Yc2, hb, h11]
end Go.Am
namespace Go.Am
set_option linter.unusedVariables false
set_option linter.unusedSimpArgs false
theorem typing_Is_t (n : Nat) (m : Md) (s : List Int) (hl : m.vars.length ≤ 100) (hn : 200 < n) (hr : ranged m.vars s) : typing_IsL n [m.d, eIs s] = some (eB true) := by
  have hlen : ((s.length : Int) != (m.vars.length : Int)) = false := by rw [hr.1]; simp
  have h := iterL_list (f := typing_Is_l4 n) m.vars (fun k (_ : Unit) => [eIs s, eVs m.vars, eI m.vars.length, eI (k : Int)])
    (fun r _ => (.inl [] : List D ⊕ D)) (fun _ _ => True) ?_ ?_ n 0 () trivial (by omega) (Nat.zero_le _)
  · have e0 : (eI ((0 : Nat) : Int)) = eI 0 := rfl
    rw [e0] at h
    simp only [typing_IsL, typing_Is, go_sem, Md.agg, Md.c0, eIs_lenP, eVs_len, hlen, h]
  · intro _ _
    simp only [typing_Is_l4, go_sem, decide_eq_false (show ¬ ((m.vars.length : Int) < m.vars.length) by omega)]
  · intro k v _ hv hk _
    have hks : k < s.length := by rw [hr.1]; exact hk
    obtain ⟨x, hx⟩ : ∃ x, s[k]? = some x := ⟨s[k], List.getElem?_eq_getElem hks⟩
    have hrr := hr.2 k v x hv hx
    have hjl := decide_eq_true (show ((k : Int) < (m.vars.length : Int)) by omega)
    have c1 : celD v.d 1 = eB v.bool := rfl
    have c2 : celD v.d 2 = eI v.lo := rfl
    have c3 : celD v.d 3 = eI v.hi := rfl
    left
    refine ⟨(), ?_, rfl, trivial⟩
    cases hb : v.bool with
    | true =>
      rw [hb] at hrr
      simp only [if_true] at hrr
      simp only [typing_Is_l4, go_sem, hjl, eVs_ix hv, V.a4, V.g4, c1, c2, c3, hb, eIs_ix hx, atI, decide_eq_false (show ¬ x < 0 by omega), decide_eq_false (show ¬ x > 1 by omega), Bool.or_self, add1 (bt := false) (i := k) (by omega)]
    | false =>
      rw [hb] at hrr
      simp only [Bool.false_eq_true, if_false] at hrr
      simp only [typing_Is_l4, go_sem, hjl, eVs_ix hv, V.a4, V.g4, c1, c2, c3, hb, eIs_ix hx, atI, decide_eq_false (show ¬ x < v.lo by omega), decide_eq_false (show ¬ x > v.hi by omega), Bool.or_self, add1 (bt := false) (i := k) (by omega)]
/-! ### What Check lets pass -/
theorem firstErr_all {l : List V} (h : (firstErr l).2 = 0) : ∀ i v, l[i]? = some v → varErr (l.take i) v = 0 := by
  intro i v hv
  have hil := (List.getElem?_eq_some_iff.1 hv).1
  unfold firstErr at h
  cases hf : (List.range l.length).find? (fun i => vErrAt l i != 0) with
  | none =>
    have := List.find?_eq_none.1 hf i (by simp; exact hil)
    unfold vErrAt at this
    rw [hv] at this
    simpa using this
  | some j =>
    rw [hf] at h
    have := List.find?_some hf
    simp only at h
    rw [h] at this
    cases this
theorem vgood_of {l : List V} (h : (firstErr l).2 = 0) : ∀ v ∈ l, VGood v := by
  intro v hv
  obtain ⟨i, hi⟩ := List.mem_iff_getElem?.1 hv
  have h0 := firstErr_all h i v hi
  unfold varErr at h0
  split at h0
  · cases h0
  split at h0
  · cases h0
  split at h0
  · cases h0
  split at h0
  · cases h0
  rename_i h1 h2 h3 h4
  unfold VGood loV V.span
  cases hb : v.bool with
  | true => simp
  | false =>
    rw [hb] at h4
    simp only [Bool.not_false, Bool.true_and, Bool.or_eq_true, decide_eq_true_eq, not_or, outB] at h4
    obtain ⟨⟨g1, g2, g3⟩, g4⟩ := h4
    have b1 : v.hi ≤ 255 := by
      by_cases hc : v.hi > v.lo
      · rw [if_pos hc] at g2; omega
      · rw [if_neg hc] at g2; omega
    have b2 : -255 ≤ v.lo := by
      by_cases hc : v.hi < v.lo
      · omega
      · rw [if_neg hc] at g3; omega
    rw [wrap64 _ (by omega) (by omega)] at g4
    simp only [Bool.false_eq_true, if_false, if_neg g1, if_pos (show v.hi - v.lo < 1073741824 by omega)]
    omega
theorem prS_eq : ∀ (l : List V) (a : Int), 1 ≤ a → (∀ v ∈ l, 1 ≤ v.span) → prS l a ≤ 1073741824 → prS l a = a * (prN l : Nat)
  | [], a, _, _, _ => by simp [prS, prN]
  | v :: r, a, h1, h2, h3 => by
    have hv := h2 v (by simp)
    by_cases hc : a ≤ 1073741824
    · have hm : max v.span 1 = v.span := by omega
      rw [prS, if_pos hc, hm] at h3 ⊢
      have hpos : 1 ≤ a * v.span := by
        have := Int.mul_le_mul h1 hv (by omega) (by omega); simpa using this
      rw [prS_eq r _ hpos (fun w hw => h2 w (by simp [hw])) h3, prN]
      have : v.span = (v.span.toNat : Int) := by omega
      rw [Int.mul_assoc]
      congr 1
      rw [Int.natCast_mul, ← this]
    · rw [prS_big _ _ hc] at h3; omega
theorem stM_good {l : List V} (hg : ∀ v ∈ l, VGood v) (h1 : (stM l).2 = true) (h2 : (stM l).1 ≤ 24) : prN l ≤ 24 ∧ stM l = ((prN l : Int), true) := by
  have hn : noneV l = false := by
    unfold noneV
    rw [Bool.eq_false_iff, ne_eq, List.any_eq_true]
    rintro ⟨v, hv, hz⟩
    have := (hg v hv).1
    have : v.span = 0 := by simpa using hz
    omega
  unfold stM at h1 h2 ⊢
  rw [hn] at h1 h2 ⊢
  simp only [Bool.false_eq_true, if_false] at h1 h2 ⊢
  by_cases hc : prS l 1 > 1073741824
  · rw [if_pos hc] at h1; cases h1
  · rw [if_neg hc] at h2 ⊢
    have e := prS_eq l 1 (by omega) (fun v hv => (hg v hv).1) (by omega)
    rw [Int.one_mul] at e
    rw [e] at h2 ⊢
    simp only at h2
    exact ⟨by omega, rfl⟩
theorem trM_ty {m : Md} {nx : Bool} {t : Tm} (h : trM m nx t = 0) : (tyM m nx t).2 = 0 := by
  unfold trM at h
  split at h
  · cases h
  · exact h
theorem tmE_ty {m : Md} {l : List Tm} {nx : Bool} (h : (fE (tmE m l nx) l.length 0).2 = 0) : ∀ t ∈ l, (tyM m nx t).2 = 0 := by
  intro t ht
  obtain ⟨i, hi⟩ := List.mem_iff_getElem?.1 ht
  have hil := (List.getElem?_eq_some_iff.1 hi).1
  have := (fE_zero _ _ _).1 h i (by omega) (by omega)
  simp only [tmE, hi] at this
  exact trM_ty this
theorem mtE_ty {m : Md} (h : (fE (mtE m) m.defs.length 0).2 = 0) : ∀ d ∈ m.defs, (tyM m false d.e).2 = 0 := by
  intro t ht
  obtain ⟨i, hi⟩ := List.mem_iff_getElem?.1 ht
  have hil := (List.getElem?_eq_some_iff.1 hi).1
  have := (fE_zero _ _ _).1 h i (by omega) (by omega)
  simp only [mtE, hi] at this
  exact this
theorem nxE_ty {m : Md} (h : (fE (nxE m) m.next.length 0).2 = 0) : ∀ d ∈ m.next, (tyM m false d.e).2 = 0 := by
  intro t ht
  obtain ⟨i, hi⟩ := List.mem_iff_getElem?.1 ht
  have hil := (List.getElem?_eq_some_iff.1 hi).1
  have h0 := (fE_zero _ _ _).1 h i (by omega) (by omega)
  simp only [nxE, hi] at h0
  split at h0
  · cases h0
  · split at h0
    · cases h0
    · split at h0
      · cases h0
      · exact h0
/-! ### The law -/
theorem eTs_el (l : List Tm) : (esD (eTs l)).length = l.length := by simp [eTs]
theorem eTs_sl (l : List Tm) : D.sl 4 (esD (eTs l)) = eTs l := rfl
theorem eTs_sn (l : List Tm) (t : Tm) : D.sl 4 (esD (eTs l) ++ [[eI t.op, eI t.num, eS t.name, rowD 4 t.nl (Tm.rows t.kids)]]) = eTs (l ++ [t]) := by
  simp [eTs, Tm.rows_map, Tm.cells_eq]
section
variable {m : Md} {n : Nat} (hm : MOk m n) (all : List (List Int)) (hal : all.length ≤ 100) (hr : ∀ s ∈ all, ranged m.vars s)
include hm hal
theorem Means_l11_ok (hr : ∀ s ∈ all, ranged m.vars s) : iterL (law36_TypingMeans_l11 n) n [eLs all, eI 0, eVs m.vars, eDs m.defs, eTs m.init, eTs m.invar, eDs m.next, eTs m.trans, eTs m.fair, eSps m.specs] = some (.inl [eLs all, eVs m.vars, eDs m.defs, eTs m.init, eTs m.invar, eDs m.next, eTs m.trans, eTs m.fair, eSps m.specs]) := by
  have hb := hm.big
  have h := iterL_list (f := law36_TypingMeans_l11 n) all (fun k (_ : Unit) => [eLs all, eI (k : Int), eVs m.vars, eDs m.defs, eTs m.init, eTs m.invar, eDs m.next, eTs m.trans, eTs m.fair, eSps m.specs])
    (fun r _ => (.inl [eLs all, eVs m.vars, eDs m.defs, eTs m.init, eTs m.invar, eDs m.next, eTs m.trans, eTs m.fair, eSps m.specs] : List D ⊕ D)) (fun _ _ => True) ?_ ?_ n 0 () trivial (by omega) (Nat.zero_le _)
  · exact h
  · intro _ _
    simp only [law36_TypingMeans_l11, go_sem, eLs_len, decide_eq_false (show ¬ ((all.length : Int) < all.length) by omega)]
  · intro k s _ hs hk _
    have hjl := decide_eq_true (show ((k : Int) < (all.length : Int)) by omega)
    have hI := typing_Is_t n m s hm.sz.vl (by omega) (hr s (List.mem_of_getElem? hs))
    have hat : atP false 1 0 [eIs s] = some (eIs s) := rfl
    left
    exact ⟨(), by simp only [law36_TypingMeans_l11, go_sem, eLs_len, hjl, eLs_ix hs, hat, Md.eta, hI, add1 (bt := false) (i := k) (by omega)], rfl, trivial⟩
theorem Means_l17_ok (L : List Tm) (hL : L.length ≤ 1000) : iterL (law36_TypingMeans_l17 n) n [eLs all, eI 0, eVs m.vars, eDs m.defs, eTs m.init, eTs m.invar, eDs m.next, eTs m.trans, eTs m.fair, eSps m.specs, eTs L] = some (.inl [eLs all, eVs m.vars, eDs m.defs, eTs m.init, eTs m.invar, eDs m.next, eTs m.trans, eTs m.fair, eSps m.specs, eTs (L ++ m.defs.map Df.e)]) := by
  have hb := hm.big
  have hdl := hm.sz.dl
  have h := iterL_list (f := law36_TypingMeans_l17 n) m.defs (fun k (q : List Tm) => [eLs all, eI (k : Int), eVs m.vars, eDs m.defs, eTs m.init, eTs m.invar, eDs m.next, eTs m.trans, eTs m.fair, eSps m.specs, eTs q])
    (fun r q => (.inl [eLs all, eVs m.vars, eDs m.defs, eTs m.init, eTs m.invar, eDs m.next, eTs m.trans, eTs m.fair, eSps m.specs, eTs (q ++ r.map Df.e)] : List D ⊕ D)) (fun k q => q.length ≤ 1000 + k) ?_ ?_ n 0 L (by omega) (by omega) (Nat.zero_le _)
  · exact h
  · intro q _
    simp only [law36_TypingMeans_l17, go_sem, eDs_len, decide_eq_false (show ¬ ((m.defs.length : Int) < m.defs.length) by omega), eTs_sl, List.map_nil, List.append_nil]
  · intro k d q hd hk hq
    have hjl := decide_eq_true (show ((k : Int) < (m.defs.length : Int)) by omega)
    have r1 : roomP (q.length + 1) 56 = true := roomP_ok (by omega) (by omega)
    left
    refine ⟨q ++ [d.e], ?_, by simp, by simp; omega⟩
    simp only [law36_TypingMeans_l17, go_sem, eDs_len, hjl, eDs_ix hd, Df.at1, eTs_el, List.length_cons, List.length_nil, Nat.zero_add, r1, eTs_sn, add1 (bt := false) (i := k) (by omega)]
theorem Means_l21_ok (L : List Tm) (hL : L.length ≤ 1000) : iterL (law36_TypingMeans_l21 n) n [eLs all, eI 0, eVs m.vars, eDs m.defs, eTs m.init, eTs m.invar, eDs m.next, eTs m.trans, eTs m.fair, eSps m.specs, eTs L] = some (.inl [eLs all, eVs m.vars, eDs m.defs, eTs m.init, eTs m.invar, eDs m.next, eTs m.trans, eTs m.fair, eSps m.specs, eTs (L ++ m.next.map Df.e)]) := by
  have hb := hm.big
  have hdl := hm.next.1
  have h := iterL_list (f := law36_TypingMeans_l21 n) m.next (fun k (q : List Tm) => [eLs all, eI (k : Int), eVs m.vars, eDs m.defs, eTs m.init, eTs m.invar, eDs m.next, eTs m.trans, eTs m.fair, eSps m.specs, eTs q])
    (fun r q => (.inl [eLs all, eVs m.vars, eDs m.defs, eTs m.init, eTs m.invar, eDs m.next, eTs m.trans, eTs m.fair, eSps m.specs, eTs (q ++ r.map Df.e)] : List D ⊕ D)) (fun k q => q.length ≤ 1000 + k) ?_ ?_ n 0 L (by omega) (by omega) (Nat.zero_le _)
  · exact h
  · intro q _
    simp only [law36_TypingMeans_l21, go_sem, eDs_len, decide_eq_false (show ¬ ((m.next.length : Int) < m.next.length) by omega), eTs_sl, List.map_nil, List.append_nil]
  · intro k d q hd hk hq
    have hjl := decide_eq_true (show ((k : Int) < (m.next.length : Int)) by omega)
    have r1 : roomP (q.length + 1) 56 = true := roomP_ok (by omega) (by omega)
    left
    refine ⟨q ++ [d.e], ?_, by simp, by simp; omega⟩
    simp only [law36_TypingMeans_l21, go_sem, eDs_len, hjl, eDs_ix hd, Df.at1, eTs_el, List.length_cons, List.length_nil, Nat.zero_add, r1, eTs_sn, add1 (bt := false) (i := k) (by omega)]
theorem Means_l25_ok (hr : ∀ s ∈ all, ranged m.vars s) (L : List Tm) (hL : L.length ≤ 100000) (ht : ∀ t ∈ L, t.Ok ∧ t.sz ≤ 12300 ∧ (tyM m false t).2 = 0) : iterL (law36_TypingMeans_l25 n) n [eLs all, eI 0, eVs m.vars, eDs m.defs, eTs m.init, eTs m.invar, eDs m.next, eTs m.trans, eTs m.fair, eSps m.specs, eTs L] = some (.inl [eLs all, eVs m.vars, eDs m.defs, eTs m.init, eTs m.invar, eDs m.next, eTs m.trans, eTs m.fair, eSps m.specs]) := by
  have hb := hm.big
  have h := iterL_list (f := law36_TypingMeans_l25 n) L (fun k (_ : Unit) => [eLs all, eI (k : Int), eVs m.vars, eDs m.defs, eTs m.init, eTs m.invar, eDs m.next, eTs m.trans, eTs m.fair, eSps m.specs, eTs L])
    (fun r _ => (.inl [eLs all, eVs m.vars, eDs m.defs, eTs m.init, eTs m.invar, eDs m.next, eTs m.trans, eTs m.fair, eSps m.specs] : List D ⊕ D)) (fun _ _ => True) ?_ ?_ n 0 () trivial (by omega) (Nat.zero_le _)
  · exact h
  · intro _ _
    simp only [law36_TypingMeans_l25, go_sem, eTs_el, decide_eq_false (show ¬ ((L.length : Int) < L.length) by omega)]
  · intro k t _ hk' hk _
    have hjl := decide_eq_true (show ((k : Int) < (L.length : Int)) by omega)
    have hnp : numP L.length (eI (k : Int)) = some k := by rw [numP_nat, if_pos hk]
    have hg : (esD (eTs L))[k]? = some t.cells := Tm.rows_get hk'
    obtain ⟨t1, t2, t3⟩ := ht t (List.mem_of_getElem? hk')
    have hC := ref36_Comes_ok hm.sz n (by omega) t1 t2 false t3 all hal hr
    left
    exact ⟨(), by simp only [law36_TypingMeans_l25, go_sem, eTs_el, hjl, hnp, hg, Md.eta, hC, eTs_sl, add1 (bt := false) (i := k) (by omega)], rfl, trivial⟩
theorem Means_l30_ok (hr : ∀ s ∈ all, ranged m.vars s) (ht : ∀ t ∈ m.trans, (tyM m true t).2 = 0) : iterL (law36_TypingMeans_l30 n) n [eLs all, eI 0, eVs m.vars, eDs m.defs, eTs m.init, eTs m.invar, eDs m.next, eTs m.trans, eTs m.fair, eSps m.specs] = some (.inl []) := by
  have hb := hm.big
  have hL := hm.trans.1
  have h := iterL_list (f := law36_TypingMeans_l30 n) m.trans (fun k (_ : Unit) => [eLs all, eI (k : Int), eVs m.vars, eDs m.defs, eTs m.init, eTs m.invar, eDs m.next, eTs m.trans, eTs m.fair, eSps m.specs])
    (fun r _ => (.inl [] : List D ⊕ D)) (fun _ _ => True) ?_ ?_ n 0 () trivial (by omega) (Nat.zero_le _)
  · exact h
  · intro _ _
    simp only [law36_TypingMeans_l30, go_sem, eTs_len, decide_eq_false (show ¬ ((m.trans.length : Int) < m.trans.length) by omega)]
  · intro k t _ hk' hk _
    have hjl := decide_eq_true (show ((k : Int) < (m.trans.length : Int)) by omega)
    have hmem := List.mem_of_getElem? hk'
    obtain ⟨t1, t2⟩ := hm.trans.2 t hmem
    have hC := ref36_Comes_ok hm.sz n (by omega) t1 t2 true (ht t hmem) all hal hr
    left
    exact ⟨(), by simp only [law36_TypingMeans_l30, go_sem, eTs_len, hjl, eTs_ix hk', Md.eta, hC, add1 (bt := false) (i := k) (by omega)], rfl, trivial⟩
end
theorem eTs_elP (l : List Tm) : elP (eTs l) = some (4, Tm.rows l) := rfl
theorem TypingMeans_ok {m : Md} {n : Nat} (hw : MdW m) (hf : Fu m n) (hn : 18446744073709551616 < n) : law36_TypingMeansL n [m.d] = some (eB true) := by
  have hS := ref36_Small_ok hw hf (by omega)
  have hL : law36_livesL n [] = some (eB true) := by
    obtain ⟨k, rfl⟩ : ∃ k, n = k + 200 := ⟨n - 200, by omega⟩
    exact lives36_ok k
  cases hs : smM m with
  | false => rw [hs] at hS; simp only [law36_TypingMeansL, law36_TypingMeans, go_sem, Md.agg, Md.c0, Md.c1, Md.c2, Md.c3, Md.c4, Md.c5, Md.c6, Md.c7, Md.eta, hS, hL]
  | true =>
    rw [hs] at hS
    have hsm := smM_t hs
    have hl7 := l70_f hsm.l
    have hm := mok_of (n := n) hw hsm (by omega)
    have hb := hm.big
    have hC := typing_Check_ok hm
    have hT := typing_States_ok n m hm.vo hm.sz.vl (by omega)
    by_cases hgo : ((chM m).2.2 != 0 || !(stM m.vars).2 || decide ((stM m.vars).1 > 24)) = true
    · generalize chM m = q at *
      generalize stM m.vars = p at *
      unfold chD at hC
      simp only [law36_TypingMeansL, law36_TypingMeans, go_sem, Md.agg, Md.c0, Md.c1, Md.c2, Md.c3, Md.c4, Md.c5, Md.c6, Md.c7, Md.eta, hS, hL, hC, hT, hgo]
    have hgo' : ((chM m).2.2 != 0 || !(stM m.vars).2 || decide ((stM m.vars).1 > 24)) = false := by simpa using hgo
    simp only [Bool.or_eq_false_iff, Bool.not_eq_false', decide_eq_false_iff_not] at hgo'
    obtain ⟨⟨c1, c2⟩, c3⟩ := hgo'
    have c1' : (chM m).2.2 = 0 := by simpa using c1
    have hfr := chM_free.1 c1'
    have hg := vgood_of hfr.v
    obtain ⟨p1, p2⟩ := stM_good hg c2 (by omega)
    have q := chM_nil hfr
    rw [q] at hC
    rw [p2] at hT
    have hA := ref36_All_ok m n hm.vo (by omega) hm.sz.vl hg p1 p2
    have hlen := exAll_len m.vars [[]]
    rw [List.length_singleton, Nat.one_mul] at hlen
    have hrg := all_rng hg
    generalize exAll m.vars [[]] = all at *
    have hal : all.length ≤ 100 := by omega
    have L11 := Means_l11_ok hm all hal hrg
    have hi := hm.init
    have hiv := hm.invar
    have hfa := hm.fair
    have hnx := hm.next
    have hdl := hm.sz.dl
    have L17 := Means_l17_ok hm all hal (m.init ++ m.invar ++ m.fair) (by simp; omega)
    have L21 := Means_l21_ok hm all hal (m.init ++ m.invar ++ m.fair ++ m.defs.map Df.e) (by simp; omega)
    have L25 := Means_l25_ok hm all hal hrg (m.init ++ m.invar ++ m.fair ++ m.defs.map Df.e ++ m.next.map Df.e) (by simp; omega) (by
      intro t ht
      simp only [List.mem_append, List.mem_map] at ht
      rcases ht with (((ht | ht) | ht) | ⟨d, hd, rfl⟩) | ⟨d, hd, rfl⟩
      · exact ⟨(hi.2 t ht).1, (hi.2 t ht).2, tmE_ty hfr.i t ht⟩
      · exact ⟨(hiv.2 t ht).1, (hiv.2 t ht).2, tmE_ty hfr.iv t ht⟩
      · exact ⟨(hfa.2 t ht).1, (hfa.2 t ht).2, tmE_ty hfr.f t ht⟩
      · exact ⟨(hm.sz.d.e d hd).1, (hm.sz.d.e d hd).2, mtE_ty hfr.mt d hd⟩
      · exact ⟨(hnx.2 d hd).1, (hnx.2 d hd).2, nxE_ty hfr.nx d hd⟩)
    have L30 := Means_l30_ok hm all hal hrg (tmE_ty hfr.t)
    have hne : (((prN m.vars : Nat) : Int) != ((prN m.vars : Nat) : Int)) = false := by simp
    have hgt : decide (((prN m.vars : Nat) : Int) > 24) = false := decide_eq_false (by omega)
    have h0 : ((0 : Int) != 0) = false := rfl
    have h44 : ((4 : Nat) = 4) = True := eq_self 4
    have hdec : ∀ es : List (List D), (decide (True ∨ es = []) && decide (0 < 4)) = true := by intro es; simp
    have r1 : roomP m.init.length 56 = true := roomP_ok (by omega) (by omega)
    have r2 : roomP (m.init.length + m.invar.length) 56 = true := roomP_ok (by omega) (by omega)
    have r3 : roomP (m.init.length + m.invar.length + m.fair.length) 56 = true := roomP_ok (by omega) (by omega)
    have ea : D.sl 4 (Tm.rows m.init ++ Tm.rows m.invar ++ Tm.rows m.fair) = eTs (m.init ++ m.invar ++ m.fair) := by simp [eTs, Tm.rows_map]
    unfold chD at hC
    simp only [law36_TypingMeansL, law36_TypingMeans, go_sem, Md.agg, Md.c0, Md.c1, Md.c2, Md.c3, Md.c4, Md.c5, Md.c6, Md.c7, Md.eta, hS, hL, hC, hT, h0, Bool.or_self, hgt, hA, eLs_len, hlen, hne, L11, eTs_elP, h44, hdec, List.nil_append, List.length_nil, Nat.zero_add, List.length_append, r1, r2, r3, ea, L17, eTs_sl, L21, L25, L30]
end Go.Am
