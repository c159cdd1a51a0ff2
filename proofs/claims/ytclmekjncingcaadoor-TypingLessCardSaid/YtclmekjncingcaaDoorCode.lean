/- What each function of the seat computes, on data. No condition. -/
import Derived.Test.YtclmekjncingcaaDoorEngC
set_option linter.all false
set_option linter.unnecessarySimpa false
namespace Go.Am
set_option linter.unusedVariables false
def wordsD : List D := [eS ⟨#[65]⟩, eS ⟨#[65, 70]⟩, eS ⟨#[65, 71]⟩, eS ⟨#[65, 88]⟩, eS ⟨#[69]⟩, eS ⟨#[69, 70]⟩, eS ⟨#[69, 71]⟩, eS ⟨#[69, 88]⟩, eS ⟨#[85]⟩, eS ⟨#[98, 111, 111, 108]⟩, eS ⟨#[100, 101, 102]⟩, eS ⟨#[101, 108, 115, 101]⟩, eS ⟨#[102, 97, 105, 114]⟩, eS ⟨#[102, 97, 108, 115, 101]⟩, eS ⟨#[105, 102]⟩, eS ⟨#[105, 110, 105, 116]⟩, eS ⟨#[105, 110, 118, 97, 114]⟩, eS ⟨#[109, 111, 100]⟩, eS ⟨#[110, 101, 120, 116]⟩, eS ⟨#[115, 112, 101, 99]⟩, eS ⟨#[116, 104, 101, 110]⟩, eS ⟨#[116, 114, 97, 110, 115]⟩, eS ⟨#[116, 114, 117, 101]⟩, eS ⟨#[118, 97, 114]⟩]
abbrev fid_typing_Vars_1 : Nat := 19
abbrev fid_lexi_inside : Nat := 30
abbrev fid_typing_named_wrong_1 : Nat := 60
abbrev fid_typing_named_wrong_2 : Nat := 62
abbrev fid_typing_ringed_wrong_1 : Nat := 69
abbrev fid_terms_Names_1 : Nat := 71
abbrev fid_terms_Check_1 : Nat := 86
abbrev fid_defs_reached_1 : Nat := 88
abbrev fid_defs_inline_1 : Nat := 89
abbrev fid_typing_nexts_wrong_1 : Nat := 102
abbrev fid_typing_nexts_wrong_2 : Nat := 104
abbrev fid_typing_specs_wrong_1 : Nat := 110
abbrev fid_forms_Check_1 : Nat := 115
def law36_name (n : Nat) (a0 : D) : Option D :=
 og (oneP a0) <|
 og (aggP 4 (D.agg [(eI 3), (eI 0), a0, (D.val (.slice none 0 0))])) <|
 some (D.agg [(eI 3), (eI 0), a0, (D.val (.slice none 0 0))])

def law36_nameL (n : Nat) : List D → Option D
  | [a0] => law36_name n a0
  | _ => none
def law36_num (n : Nat) (a0 : D) : Option D :=
 og (oneP a0) <|
 og (aggP 4 (D.agg [(eI 1), a0, (eS ⟨#[]⟩), (D.val (.slice none 0 0))])) <|
 some (D.agg [(eI 1), a0, (eS ⟨#[]⟩), (D.val (.slice none 0 0))])

def law36_numL (n : Nat) : List D → Option D
  | [a0] => law36_num n a0
  | _ => none
def law36_counter (n : Nat) : Option D :=
 obind (law36_nameL n [(eS ⟨#[110]⟩)]) fun v3 =>
 og (aggP 4 v3) <|
 obind (law36_numL n [(eI 2)]) fun v5 =>
 obind (law36_numL n [(eI 1)]) fun v9 =>
 obind (law36_numL n [(eI 0)]) fun v12 =>
 og (aggP 4 (D.agg [(celD v3 0), (celD v3 1), (celD v3 2), (celD v3 3)])) <|
 og (aggP 4 v5) <|
 og (oneP (D.sl 4 [[(celD v3 0), (celD v3 1), (celD v3 2), (celD v3 3)], [(celD v5 0), (celD v5 1), (celD v5 2), (celD v5 3)]])) <|
 og (aggP 4 (D.agg [(celD v3 0), (celD v3 1), (celD v3 2), (celD v3 3)])) <|
 og (aggP 4 v9) <|
 og (oneP (D.sl 4 [[(celD v3 0), (celD v3 1), (celD v3 2), (celD v3 3)], [(celD v9 0), (celD v9 1), (celD v9 2), (celD v9 3)]])) <|
 og (aggP 4 (D.agg [(eI 12), (eI 0), (eS ⟨#[]⟩), (D.sl 4 [[(celD v3 0), (celD v3 1), (celD v3 2), (celD v3 3)], [(celD v5 0), (celD v5 1), (celD v5 2), (celD v5 3)]])])) <|
 og (aggP 4 (D.agg [(eI 14), (eI 0), (eS ⟨#[]⟩), (D.sl 4 [[(celD v3 0), (celD v3 1), (celD v3 2), (celD v3 3)], [(celD v9 0), (celD v9 1), (celD v9 2), (celD v9 3)]])])) <|
 og (aggP 4 v12) <|
 og (aggP 5 (D.agg [(eS ⟨#[110]⟩), (eI 18), (eI 0), (eS ⟨#[]⟩), (D.sl 4 [[(eI 12), (eI 0), (eS ⟨#[]⟩), (D.sl 4 [[(celD v3 0), (celD v3 1), (celD v3 2), (celD v3 3)], [(celD v5 0), (celD v5 1), (celD v5 2), (celD v5 3)]])], [(eI 14), (eI 0), (eS ⟨#[]⟩), (D.sl 4 [[(celD v3 0), (celD v3 1), (celD v3 2), (celD v3 3)], [(celD v9 0), (celD v9 1), (celD v9 2), (celD v9 3)]])], [(celD v12 0), (celD v12 1), (celD v12 2), (celD v12 3)]])])) <|
 some (D.agg [(D.sl 4 [[(eS ⟨#[110]⟩), (eB false), (eI 0), (eI 2)]]), (D.val (.slice none 0 0)), (D.val (.slice none 0 0)), (D.val (.slice none 0 0)), (D.sl 5 [[(eS ⟨#[110]⟩), (eI 18), (eI 0), (eS ⟨#[]⟩), (D.sl 4 [[(eI 12), (eI 0), (eS ⟨#[]⟩), (D.sl 4 [[(celD v3 0), (celD v3 1), (celD v3 2), (celD v3 3)], [(celD v5 0), (celD v5 1), (celD v5 2), (celD v5 3)]])], [(eI 14), (eI 0), (eS ⟨#[]⟩), (D.sl 4 [[(celD v3 0), (celD v3 1), (celD v3 2), (celD v3 3)], [(celD v9 0), (celD v9 1), (celD v9 2), (celD v9 3)]])], [(celD v12 0), (celD v12 1), (celD v12 2), (celD v12 3)]])]]), (D.val (.slice none 0 0)), (D.val (.slice none 0 0)), (D.val (.slice none 0 0))])

def law36_counterL (n : Nat) : List D → Option D
  | [] => law36_counter n
  | _ => none
def lexi_letter (n : Nat) (a0 : D) : Option D :=
 obind (binP false .geq a0 (D.val (.int .u8 97))) fun v4 =>
 obind (gD v4 true (
 obind (binP false .leq a0 (D.val (.int .u8 122))) fun v7 =>
 some v7
)) fun v7 =>
 obind (pickP v4 v7 (eB false)) fun v8 =>
 obind (gD v8 false (
 obind (binP false .geq a0 (D.val (.int .u8 65))) fun v11 =>
 some v11
)) fun v12 =>
 obind (gD v12 true (
 obind (binP false .leq a0 (D.val (.int .u8 90))) fun v14 =>
 some v14
)) fun v14 =>
 obind (gD v8 false (
 obind (pickP v12 v14 (eB false)) fun v15 =>
 some v15
)) fun v15 =>
 obind (pickP v8 (eB true) v15) fun v16 =>
 some v16

def lexi_letterL (n : Nat) : List D → Option D
  | [a0] => lexi_letter n a0
  | _ => none
def lexi_digit (n : Nat) (a0 : D) : Option D :=
 obind (binP false .geq a0 (D.val (.int .u8 48))) fun v4 =>
 obind (gD v4 true (
 obind (binP false .leq a0 (D.val (.int .u8 57))) fun v7 =>
 some v7
)) fun v7 =>
 obind (pickP v4 v7 (eB false)) fun v8 =>
 some v8

def lexi_digitL (n : Nat) : List D → Option D
  | [a0] => lexi_digit n a0
  | _ => none
def lexi_inside (n : Nat) (a0 : D) : Option D :=
 obind (lexi_letterL n [a0]) fun v4 =>
 obind (gD v4 false (
 obind (lexi_digitL n [a0]) fun v7 =>
 some v7
)) fun v7 =>
 obind (pickP v4 (eB true) v7) fun v8 =>
 obind (gD v8 false (
 obind (binP false .eql a0 (D.val (.int .u8 95))) fun v11 =>
 some v11
)) fun v11 =>
 obind (pickP v8 (eB true) v11) fun v12 =>
 some v12

def lexi_insideL (n : Nat) : List D → Option D
  | [a0] => lexi_inside n a0
  | _ => none
def lexi_row_lexi_inside_l2 (n : Nat) (ls : List D) : Option (List D ⊕ (List D ⊕ D)) :=
 obind (lensP (pd ls 0)) fun v8 =>
 obind (binP false .lss (pd ls 1) v8) fun v9 =>
 obind (gD v9 true (
 obind (sixP (pd ls 0) (pd ls 1)) fun v14 =>
 obind (lexi_insideL n [v14]) fun v15 =>
 some v15
)) fun v15 =>
 obind (pickP v9 v15 (eB false)) fun v16 =>
 oif v16 (
 obind (binP false .add (pd ls 1) (eI 1)) fun v18 =>
 some (.inl [(pd ls 0), v18])
) (
 inrX (
 some (.inl [(pd ls 1)])
)
)

def lexi_row_lexi_inside (n : Nat) (a0 : D) : Option D :=
 obind (
 iterL (lexi_row_lexi_inside_l2 n) n [a0, (eI 0)]
) <| jnX fun ls =>
 some (pd ls 0)

def lexi_row_lexi_insideL (n : Nat) : List D → Option D
  | [a0, a1] => og (isFc fid_lexi_inside a1) (lexi_row_lexi_inside n a0)
  | _ => none
def slices_Index_Lstring_string_l2 (n : Nat) (ls : List D) : Option (List D ⊕ (List D ⊕ D)) :=
 obind (binP false .lss (pd ls 3) (pd ls 2)) fun v9 =>
 oif v9 (
 obind (ixP 1 (pd ls 0) (pd ls 3)) fun c14 =>
 obind (atP false 1 0 c14) fun v15 =>
 obind (binP false .eql (pd ls 1) v15) fun v16 =>
 oif v16 (
 inrX (
 inrX (
 some (pd ls 3)
)
)
) (
 obind (binP false .add (pd ls 3) (eI 1)) fun v18 =>
 some (.inl [(pd ls 0), (pd ls 1), (pd ls 2), v18])
)
) (
 inrX (
 some (.inl [])
)
)

def slices_Index_Lstring_string (n : Nat) (a0 : D) (a1 : D) : Option D :=
 obind (lenP a0) fun v7 =>
 obind (
 iterL (slices_Index_Lstring_string_l2 n) n [a0, a1, v7, (eI 0)]
) <| jnX fun ls =>
 some (eI (-1))

def slices_Index_Lstring_stringL (n : Nat) : List D → Option D
  | [a0, a1] => slices_Index_Lstring_string n a0 a1
  | _ => none
def slices_Contains_Lstring_string (n : Nat) (a0 : D) (a1 : D) : Option D :=
 obind (slices_Index_Lstring_stringL n [a0, a1]) fun v7 =>
 obind (binP false .geq v7 (eI 0)) fun v8 =>
 some v8

def slices_Contains_Lstring_stringL (n : Nat) : List D → Option D
  | [a0, a1] => slices_Contains_Lstring_string n a0 a1
  | _ => none
def lexi_Is (n : Nat) (a0 : D) : Option D :=
 obind (binP false .neq a0 (eS ⟨#[]⟩)) fun v4 =>
 obind (gD v4 true (
 obind (lensP a0) fun v7 =>
 obind (binP false .leq v7 (eI 24)) fun v8 =>
 some v8
)) fun v8 =>
 obind (pickP v4 v8 (eB false)) fun v9 =>
 obind (gD v9 true (
 obind (sixP a0 (eI 0)) fun v12 =>
 obind (lexi_letterL n [v12]) fun v13 =>
 some v13
)) fun v13 =>
 obind (pickP v9 v13 (eB false)) fun v14 =>
 obind (gD v14 true (
 obind (lexi_row_lexi_insideL n [a0, (D.val (.func (.func fid_lexi_inside) #[] #[]))]) fun v17 =>
 obind (lensP a0) fun v19 =>
 obind (binP false .eql v17 v19) fun v20 =>
 some v20
)) fun v20 =>
 obind (pickP v14 v20 (eB false)) fun v21 =>
 obind (gD v21 true (
 obind (slices_Contains_Lstring_stringL n [(D.sl 1 ((wordsD).map fun c => [c])), a0]) fun v25 =>
 obind (unP .not v25) fun v26 =>
 some v26
)) fun v26 =>
 obind (pickP v21 v26 (eB false)) fun v27 =>
 some v27

def lexi_IsL (n : Nat) : List D → Option D
  | [a0] => lexi_Is n a0
  | _ => none
def typing_Vars_1 (n : Nat) (a0 : D) (x1 : List D) : Option D :=
 og (aggP 4 a0) <|
 obind (atP false 1 0 x1) fun v7 =>
 obind (binP false .eql (celD a0 0) v7) fun v8 =>
 some v8

def typing_Vars_1L (n : Nat) : List D → Option D
  | [a0, a1] => (match a1 with | .ref x1 0 => typing_Vars_1 n a0 x1 | _ => none)
  | _ => none
def slices_IndexFunc_Lapi_Var_api_Var_typing_Vars_1_l2 (n : Nat) (ls : List D) : Option (List D ⊕ (List D ⊕ D)) :=
 obind (binP false .lss (pd ls 3) (pd ls 2)) fun v9 =>
 oif v9 (
 obind (ixP 4 (pd ls 0) (pd ls 3)) fun c14 =>
 obind (atP true 4 0 c14) fun v15 =>
 obind (typing_Vars_1L n [v15, (pd ls 1)]) fun v16 =>
 oif v16 (
 inrX (
 inrX (
 some (pd ls 3)
)
)
) (
 obind (binP false .add (pd ls 3) (eI 1)) fun v18 =>
 some (.inl [(pd ls 0), (pd ls 1), (pd ls 2), v18])
)
) (
 inrX (
 some (.inl [])
)
)

def slices_IndexFunc_Lapi_Var_api_Var_typing_Vars_1 (n : Nat) (a0 : D) (x1_0 : D) : Option D :=
 obind (lenP a0) fun v7 =>
 obind (
 iterL (slices_IndexFunc_Lapi_Var_api_Var_typing_Vars_1_l2 n) n [a0, x1_0, v7, (eI 0)]
) <| jnX fun ls =>
 some (eI (-1))

def slices_IndexFunc_Lapi_Var_api_Var_typing_Vars_1L (n : Nat) : List D → Option D
  | [a0, a1] => (match fnOf fid_typing_Vars_1 a1 with | some [x1_0] => slices_IndexFunc_Lapi_Var_api_Var_typing_Vars_1 n a0 x1_0 | _ => none)
  | _ => none
def slices_ContainsFunc_Lapi_Var_api_Var_typing_Vars_1 (n : Nat) (a0 : D) (x1_0 : D) : Option D :=
 obind (slices_IndexFunc_Lapi_Var_api_Var_typing_Vars_1L n [a0, (D.fn (.func fid_typing_Vars_1) [] [x1_0])]) fun v7 =>
 obind (binP false .geq v7 (eI 0)) fun v8 =>
 some v8

def slices_ContainsFunc_Lapi_Var_api_Var_typing_Vars_1L (n : Nat) : List D → Option D
  | [a0, a1] => (match fnOf fid_typing_Vars_1 a1 with | some [x1_0] => slices_ContainsFunc_Lapi_Var_api_Var_typing_Vars_1 n a0 x1_0 | _ => none)
  | _ => none
def typing_Vars_l2 (n : Nat) (ls : List D) : Option (List D ⊕ (List D ⊕ D)) :=
 obind (binP false .lss (pd ls 3) (pd ls 2)) fun v11 =>
 oif v11 (
 obind (ixP 4 (pd ls 1) (pd ls 3)) fun c13 =>
 obind (atP true 4 0 c13) fun v14 =>
 og (aggP 4 v14) <|
 obind (mmP true [(celD v14 2), (celD v14 3)]) fun v20 =>
 obind (binP false .gtr v20 (eI 255)) fun v21 =>
 obind (gD v21 false (
 obind (mmP false [(celD v14 2), (celD v14 3)]) fun v27 =>
 obind (binP false .lss v27 (eI (-255))) fun v28 =>
 some v28
)) fun v28 =>
 obind (pickP v21 (eB true) v28) fun v29 =>
 obind (lexi_IsL n [(celD v14 0)]) fun v33 =>
 obind (unP .not v33) fun v34 =>
 oif v34 (
 inrX (
 inrX (
 some (D.tup [(pd ls 3), (eI 12)])
)
)
) (
 obind (subP 4 (pd ls 0) none (some (pd ls 3))) fun v39 =>
 obind (slices_ContainsFunc_Lapi_Var_api_Var_typing_Vars_1L n [v39, (D.fn (.func fid_typing_Vars_1) [] [(D.ref [(celD v14 0), (celD v14 1), (celD v14 2), (celD v14 3)] 0)])]) fun v41 =>
 og v41.flat <|
 oif v41 (
 inrX (
 inrX (
 some (D.tup [(pd ls 3), (eI 6)])
)
)
) (
 obind (gD (celD v14 1) true (
 obind (binP false .neq (celD v14 2) (eI 0)) fun v49 =>
 some v49
)) fun v50 =>
 obind (gD v50 false (
 obind (binP false .neq (celD v14 3) (eI 0)) fun v53 =>
 some v53
)) fun v53 =>
 obind (gD (celD v14 1) true (
 obind (pickP v50 (eB true) v53) fun v54 =>
 some v54
)) fun v54 =>
 obind (pickP (celD v14 1) v54 (eB false)) fun v55 =>
 oif v55 (
 inrX (
 inrX (
 some (D.tup [(pd ls 3), (eI 3)])
)
)
) (
 obind (unP .not (celD v14 1)) fun v60 =>
 obind (gD v60 true (
 obind (binP false .gtr (celD v14 2) (celD v14 3)) fun v66 =>
 some v66
)) fun v67 =>
 obind (gD v67 false (
 some v29
)) fun v68 =>
 obind (gD v60 true (
 obind (pickP v67 (eB true) v68) fun v69 =>
 some v69
)) fun v70 =>
 obind (gD v70 false (
 obind (binP false .sub (celD v14 3) (celD v14 2)) fun v75 =>
 obind (binP false .geq v75 (eI 64)) fun v76 =>
 some v76
)) fun v76 =>
 obind (gD v60 true (
 obind (pickP v70 (eB true) v76) fun v77 =>
 some v77
)) fun v77 =>
 obind (pickP v60 v77 (eB false)) fun v78 =>
 oif v78 (
 inrX (
 inrX (
 some (D.tup [(pd ls 3), (eI 2)])
)
)
) (
 obind (binP false .add (pd ls 3) (eI 1)) fun v80 =>
 some (.inl [(pd ls 0), (pd ls 1), (pd ls 2), v80])
)
)
)
)
) (
 inrX (
 some (.inl [])
)
)

def typing_Vars (n : Nat) (a0 : D) : Option D :=
 obind (lenP a0) fun v9 =>
 obind (
 iterL (typing_Vars_l2 n) n [a0, a0, v9, (eI 0)]
) <| jnX fun ls =>
 some (D.tup [(eI 0), (eI 0)])

def typing_VarsL (n : Nat) : List D → Option D
  | [a0] => typing_Vars n a0
  | _ => none
def typing_Span (n : Nat) (a0 : D) : Option D :=
 og (aggP 4 a0) <|
 oif (celD a0 1) (
 some (eI 2)
) (
 obind (binP false .gtr (celD a0 2) (celD a0 3)) fun v12 =>
 oif v12 (
 some (eI 0)
) (
 obind (cvP .u64 (celD a0 3)) fun v15 =>
 obind (cvP .u64 (celD a0 2)) fun v18 =>
 obind (binP false .sub v15 v18) fun v19 =>
 obind (binP false .lss v19 (D.val (.int .u64 1073741824))) fun v21 =>
 oif v21 (
 obind (cvP .i64 v19) fun v23 =>
 obind (binP false .add v23 (eI 1)) fun v24 =>
 some v24
) (
 some (eI 1073741825)
)
)
)

def typing_SpanL (n : Nat) : List D → Option D
  | [a0] => typing_Span n a0
  | _ => none
def num_Bits_l2 (n : Nat) (ls : List D) : Option (List D ⊕ (List D ⊕ D)) :=
 obind (binP false .lss (pd ls 1) (eI 63)) fun v5 =>
 oif v5 (
 obind (binP false .shl (eI 1) (pd ls 1)) fun v9 =>
 obind (binP false .leq (pd ls 0) v9) fun v10 =>
 oif v10 (
 inrX (
 inrX (
 some (pd ls 1)
)
)
) (
 obind (binP false .add (pd ls 1) (eI 1)) fun v12 =>
 some (.inl [(pd ls 0), v12])
)
) (
 inrX (
 some (.inl [])
)
)

def num_Bits (n : Nat) (a0 : D) : Option D :=
 obind (
 iterL (num_Bits_l2 n) n [a0, (eI 0)]
) <| jnX fun ls =>
 some (eI 63)

def num_BitsL (n : Nat) : List D → Option D
  | [a0] => num_Bits n a0
  | _ => none
def typing_Bits_l3 (n : Nat) (ls : List D) : Option (List D ⊕ (List D ⊕ D)) :=
 obind (binP false .lss (pd ls 3) (pd ls 2)) fun v10 =>
 oif v10 (
 obind (ixP 4 (pd ls 1) (pd ls 3)) fun c11 =>
 obind (atP true 4 0 c11) fun v12 =>
 og (aggP 4 v12) <|
 obind (typing_SpanL n [(D.agg [(celD v12 0), (celD v12 1), (celD v12 2), (celD v12 3)])]) fun v15 =>
 obind (num_BitsL n [v15]) fun v16 =>
 obind (binP false .add (pd ls 0) v16) fun v17 =>
 obind (binP false .add (pd ls 3) (eI 1)) fun v18 =>
 some (.inl [v17, (pd ls 1), (pd ls 2), v18])
) (
 inrX (
 some (.inl [(pd ls 0)])
)
)

def typing_Bits (n : Nat) (a0 : D) : Option D :=
 og (aggP 8 a0) <|
 obind (lenP (celD a0 0)) fun v8 =>
 obind (
 iterL (typing_Bits_l3 n) n [(eI 0), (celD a0 0), v8, (eI 0)]
) <| jnX fun ls =>
 some (pd ls 0)

def typing_BitsL (n : Nat) : List D → Option D
  | [a0] => typing_Bits n a0
  | _ => none
def typing_specs_many (n : Nat) (a0 : D) : Option D :=
 obind (lenP a0) fun v4 =>
 some v4

def typing_specs_manyL (n : Nat) : List D → Option D
  | [a0] => typing_specs_many n a0
  | _ => none
def typing_nexts_many (n : Nat) (a0 : D) : Option D :=
 obind (lenP a0) fun v4 =>
 some v4

def typing_nexts_manyL (n : Nat) : List D → Option D
  | [a0] => typing_nexts_many n a0
  | _ => none
def typing_truths_many (n : Nat) (a0 : D) : Option D :=
 og (aggP 3 a0) <|
 obind (lenP (celD a0 1)) fun v5 =>
 some v5

def typing_truths_manyL (n : Nat) : List D → Option D
  | [a0] => typing_truths_many n a0
  | _ => none
def typing_meant_many (n : Nat) (a0 : D) : Option D :=
 obind (lenP a0) fun v4 =>
 some v4

def typing_meant_manyL (n : Nat) : List D → Option D
  | [a0] => typing_meant_many n a0
  | _ => none
def typing_ringed_many (n : Nat) (a0 : D) : Option D :=
 obind (lenP a0) fun v4 =>
 some v4

def typing_ringed_manyL (n : Nat) : List D → Option D
  | [a0] => typing_ringed_many n a0
  | _ => none
def typing_named_many (n : Nat) (a0 : D) : Option D :=
 obind (lenP a0) fun v4 =>
 some v4

def typing_named_manyL (n : Nat) : List D → Option D
  | [a0] => typing_named_many n a0
  | _ => none
def typing_specs_wrong_1 (n : Nat) (a0 : D) (x1 : List D) : Option D :=
 og (aggP 7 a0) <|
 obind (atP false 1 0 x1) fun v6 =>
 obind (binP false .eql (celD a0 0) v6) fun v7 =>
 some v7

def typing_specs_wrong_1L (n : Nat) : List D → Option D
  | [a0, a1] => (match a1 with | .ref x1 0 => typing_specs_wrong_1 n a0 x1 | _ => none)
  | _ => none
def slices_IndexFunc_typing_specs_api_Spec_typing_specs_wrong_1_l2 (n : Nat) (ls : List D) : Option (List D ⊕ (List D ⊕ D)) :=
 obind (binP false .lss (pd ls 3) (pd ls 2)) fun v9 =>
 oif v9 (
 obind (ixP 7 (pd ls 0) (pd ls 3)) fun c14 =>
 obind (atP true 7 0 c14) fun v15 =>
 obind (typing_specs_wrong_1L n [v15, (pd ls 1)]) fun v16 =>
 oif v16 (
 inrX (
 inrX (
 some (pd ls 3)
)
)
) (
 obind (binP false .add (pd ls 3) (eI 1)) fun v18 =>
 some (.inl [(pd ls 0), (pd ls 1), (pd ls 2), v18])
)
) (
 inrX (
 some (.inl [])
)
)

def slices_IndexFunc_typing_specs_api_Spec_typing_specs_wrong_1 (n : Nat) (a0 : D) (x1_0 : D) : Option D :=
 obind (lenP a0) fun v7 =>
 obind (
 iterL (slices_IndexFunc_typing_specs_api_Spec_typing_specs_wrong_1_l2 n) n [a0, x1_0, v7, (eI 0)]
) <| jnX fun ls =>
 some (eI (-1))

def slices_IndexFunc_typing_specs_api_Spec_typing_specs_wrong_1L (n : Nat) : List D → Option D
  | [a0, a1] => (match fnOf fid_typing_specs_wrong_1 a1 with | some [x1_0] => slices_IndexFunc_typing_specs_api_Spec_typing_specs_wrong_1 n a0 x1_0 | _ => none)
  | _ => none
def slices_ContainsFunc_typing_specs_api_Spec_typing_specs_wrong_1 (n : Nat) (a0 : D) (x1_0 : D) : Option D :=
 obind (slices_IndexFunc_typing_specs_api_Spec_typing_specs_wrong_1L n [a0, (D.fn (.func fid_typing_specs_wrong_1) [] [x1_0])]) fun v7 =>
 obind (binP false .geq v7 (eI 0)) fun v8 =>
 some v8

def slices_ContainsFunc_typing_specs_api_Spec_typing_specs_wrong_1L (n : Nat) : List D → Option D
  | [a0, a1] => (match fnOf fid_typing_specs_wrong_1 a1 with | some [x1_0] => slices_ContainsFunc_typing_specs_api_Spec_typing_specs_wrong_1 n a0 x1_0 | _ => none)
  | _ => none
def terms_kids (n : Nat) (a0 : D) : Option D :=
 obind (binP false .eql a0 (eI 1)) fun v6 =>
 obind (
 oif v6 (
 some (.inl [a0, v6])
) (
 obind (binP false .eql a0 (eI 2)) fun v7 =>
 obind (
 oif v7 (
 some (.inl [a0, v7])
) (
 obind (binP false .eql a0 (eI 3)) fun v8 =>
 obind (
 oif v8 (
 some (.inl [a0, v8])
) (
 obind (binP false .eql a0 (eI 4)) fun v9 =>
 some (.inl [a0, v9])
)
) <| jnX fun ls =>
 some (.inl [(pd ls 0), (pd ls 1)])
)
) <| jnX fun ls =>
 some (.inl [(pd ls 0), (pd ls 1)])
)
) <| jnX fun ls =>
 oif (pd ls 1) (
 some (D.tup [(eI 0), (eI 0)])
) (
 obind (binP false .eql (pd ls 0) (eI 5)) fun v11 =>
 oif v11 (
 some (D.tup [(eI 1), (eI 1)])
) (
 obind (binP false .eql (pd ls 0) (eI 6)) fun v13 =>
 obind (
 oif v13 (
 some (.inl [(pd ls 0), v13])
) (
 obind (binP false .eql (pd ls 0) (eI 7)) fun v14 =>
 some (.inl [(pd ls 0), v14])
)
) <| jnX fun ls =>
 oif (pd ls 1) (
 some (D.tup [(eI 1), (eI 64)])
) (
 obind (binP false .eql (pd ls 0) (eI 8)) fun v16 =>
 obind (
 oif v16 (
 some (.inl [(pd ls 0), v16])
) (
 obind (binP false .eql (pd ls 0) (eI 9)) fun v17 =>
 obind (
 oif v17 (
 some (.inl [(pd ls 0), v17])
) (
 obind (binP false .eql (pd ls 0) (eI 10)) fun v18 =>
 obind (
 oif v18 (
 some (.inl [(pd ls 0), v18])
) (
 obind (binP false .eql (pd ls 0) (eI 11)) fun v19 =>
 obind (
 oif v19 (
 some (.inl [(pd ls 0), v19])
) (
 obind (binP false .eql (pd ls 0) (eI 12)) fun v20 =>
 obind (
 oif v20 (
 some (.inl [(pd ls 0), v20])
) (
 obind (binP false .eql (pd ls 0) (eI 13)) fun v21 =>
 obind (
 oif v21 (
 some (.inl [(pd ls 0), v21])
) (
 obind (binP false .eql (pd ls 0) (eI 14)) fun v22 =>
 obind (
 oif v22 (
 some (.inl [(pd ls 0), v22])
) (
 obind (binP false .eql (pd ls 0) (eI 15)) fun v23 =>
 obind (
 oif v23 (
 some (.inl [(pd ls 0), v23])
) (
 obind (binP false .eql (pd ls 0) (eI 16)) fun v24 =>
 obind (
 oif v24 (
 some (.inl [(pd ls 0), v24])
) (
 obind (binP false .eql (pd ls 0) (eI 17)) fun v25 =>
 some (.inl [(pd ls 0), v25])
)
) <| jnX fun ls =>
 some (.inl [(pd ls 0), (pd ls 1)])
)
) <| jnX fun ls =>
 some (.inl [(pd ls 0), (pd ls 1)])
)
) <| jnX fun ls =>
 some (.inl [(pd ls 0), (pd ls 1)])
)
) <| jnX fun ls =>
 some (.inl [(pd ls 0), (pd ls 1)])
)
) <| jnX fun ls =>
 some (.inl [(pd ls 0), (pd ls 1)])
)
) <| jnX fun ls =>
 some (.inl [(pd ls 0), (pd ls 1)])
)
) <| jnX fun ls =>
 some (.inl [(pd ls 0), (pd ls 1)])
)
) <| jnX fun ls =>
 some (.inl [(pd ls 0), (pd ls 1)])
)
) <| jnX fun ls =>
 oif (pd ls 1) (
 some (D.tup [(eI 2), (eI 2)])
) (
 obind (binP false .eql (pd ls 0) (eI 18)) fun v27 =>
 oif v27 (
 some (D.tup [(eI 3), (eI 3)])
) (
 some (D.tup [(eI (-1)), (eI (-1))])
)
)
)
)
)

def terms_kidsL (n : Nat) : List D → Option D
  | [a0] => terms_kids n a0
  | _ => none
def terms_wrong (n : Nat) (a0 : D) : Option D :=
 og (aggP 4 a0) <|
 obind (terms_kidsL n [(celD a0 0)]) fun v11 =>
 obind (extP 0 v11) fun v12 =>
 obind (extP 1 v11) fun v13 =>
 obind (binP false .lss v12 (eI 0)) fun v15 =>
 oif v15 (
 some (eI 11)
) (
 obind (
 obind (binP false .eql (celD a0 0) (eI 1)) fun v19 =>
 obind (
 oif v19 (
 some (.inl [v12, v13, (eI (-255)), (eI 255), (celD a0 0), (celD a0 1), (celD a0 2), (celD a0 3)])
) (
 obind (binP false .eql (celD a0 0) (eI 2)) fun v21 =>
 obind (
 oif v21 (
 some (.inl [v12, v13, (eI 0), (eI 1), (celD a0 0), (celD a0 1), (celD a0 2), (celD a0 3)])
) (
 some (.inl [v12, v13, (eI 0), (eI 0), (celD a0 0), (celD a0 1), (celD a0 2), (celD a0 3)])
)
) <| jnX fun ls =>
 some (.inl [(pd ls 0), (pd ls 1), (pd ls 2), (pd ls 3), (pd ls 4), (pd ls 5), (pd ls 6), (pd ls 7)])
)
) <| jnX fun ls =>
 some (.inl [(pd ls 0), (pd ls 1), (pd ls 2), (pd ls 3), (pd ls 4), (pd ls 5), (pd ls 6), (pd ls 7)])
) <| jnX fun ls =>
 obind (binP false .eql (pd ls 4) (eI 3)) fun v24 =>
 obind (gD v24 false (
 obind (binP false .eql (pd ls 4) (eI 4)) fun v28 =>
 some v28
)) fun v28 =>
 obind (pickP v24 (eB true) v28) fun v29 =>
 obind (binP false .lss (pd ls 5) (pd ls 2)) fun v34 =>
 obind (gD v34 false (
 obind (binP false .gtr (pd ls 5) (pd ls 3)) fun v39 =>
 some v39
)) fun v39 =>
 obind (pickP v34 (eB true) v39) fun v40 =>
 oif v40 (
 some (eI 2)
) (
 obind (gD v29 true (
 obind (binP false .eql (pd ls 6) (eS ⟨#[]⟩)) fun v46 =>
 some v46
)) fun v47 =>
 obind (gD v47 false (
 obind (lensP (pd ls 6)) fun v50 =>
 obind (binP false .gtr v50 (eI 24)) fun v51 =>
 some v51
)) fun v51 =>
 obind (gD v29 true (
 obind (pickP v47 (eB true) v51) fun v52 =>
 some v52
)) fun v52 =>
 obind (pickP v29 v52 (eB false)) fun v53 =>
 obind (gD v53 false (
 obind (unP .not v29) fun v56 =>
 some v56
)) fun v57 =>
 obind (gD v57 true (
 obind (binP false .neq (pd ls 6) (eS ⟨#[]⟩)) fun v60 =>
 some v60
)) fun v60 =>
 obind (gD v53 false (
 obind (pickP v57 v60 (eB false)) fun v61 =>
 some v61
)) fun v61 =>
 obind (pickP v53 (eB true) v61) fun v62 =>
 oif v62 (
 some (eI 12)
) (
 obind (lenP (pd ls 7)) fun v66 =>
 obind (binP false .lss v66 (pd ls 0)) fun v68 =>
 obind (gD v68 false (
 obind (lenP (pd ls 7)) fun v72 =>
 obind (binP false .gtr v72 (pd ls 1)) fun v74 =>
 some v74
)) fun v74 =>
 obind (pickP v68 (eB true) v74) fun v75 =>
 oif v75 (
 some (eI 3)
) (
 some (eI 0)
)
)
)
)

def terms_wrongL (n : Nat) : List D → Option D
  | [a0] => terms_wrong n a0
  | _ => none
def terms_Check_1_h (n : Nat) (ls : List D) : Option (List D) :=
 og (aggP 4 (pd ls 0)) <|
 obind (binP false .add (pd ls 2) (eI 1)) fun v8 =>
 og (oneP v8) <|
 obind (binP false .gtr (pd ls 1) (eI 64)) fun v10 =>
 obind (
 oif v10 (
 some (.inl [(eI 17), v8])
) (
 obind (terms_wrongL n [(D.agg [(celD (pd ls 0) 0), (celD (pd ls 0) 1), (celD (pd ls 0) 2), (celD (pd ls 0) 3)])]) fun v12 =>
 og (oneP v12) <|
 obind (binP false .eql v12 (eI 0)) fun v14 =>
 obind (gD v14 true (
 obind (binP false .gtr v8 (eI 4096)) fun v17 =>
 some v17
)) fun v17 =>
 obind (pickP v14 v17 (eB false)) fun v18 =>
 obind (
 oif v18 (
 some (.inl [(eI 4), v8])
) (
 some (.inl [v12, v8])
)
) <| jnX fun ls =>
 some (.inl [(pd ls 0), (pd ls 1)])
)
) <| jnX fun ls =>
 obind (binP false .eql (pd ls 0) (eI 0)) fun v20 =>
 some [v20, (pd ls 1), (pd ls 0)]

def terms_put_h_l2 (n : Nat) (ls : List D) : Option (List D ⊕ (List D ⊕ (List D))) :=
 obind (binP false .gtr (pd ls 1) (eI 0)) fun v9 =>
 obind (gD v9 true (
 obind (binP false .sub (pd ls 1) (eI 1)) fun v13 =>
 obind (numP ((esD (pd ls 2))).length v13) fun j14 =>
 obind (((esD (pd ls 2)))[j14]?) fun e15 =>
 obind (atP false 1 0 e15) fun v15 =>
 obind (binP false .gtr v15 (pd ls 0)) fun v17 =>
 some v17
)) fun v17 =>
 obind (pickP v9 v17 (eB false)) fun v18 =>
 oif v18 (
 obind (binP false .sub (pd ls 1) (eI 1)) fun v20 =>
 some (.inl [(pd ls 0), v20, (D.sl 1 (esD (pd ls 2)))])
) (
 inrX (
 some (.inl [(pd ls 0), (pd ls 1), (D.sl 1 (esD (pd ls 2)))])
)
)

def terms_put_h (n : Nat) (ls : List D) : Option (List D) :=
 obind (
 iterL (terms_put_h_l2 n) n [(pd ls 0), (eI ((esD (pd ls 1))).length), (D.sl 1 (esD (pd ls 1)))]
) <| jnX fun ls =>
 obind (binP false .gtr (pd ls 1) (eI 0)) fun v22 =>
 obind (gD v22 true (
 obind (binP false .sub (pd ls 1) (eI 1)) fun v26 =>
 obind (numP ((esD (pd ls 2))).length v26) fun j27 =>
 obind (((esD (pd ls 2)))[j27]?) fun e28 =>
 obind (atP false 1 0 e28) fun v28 =>
 obind (binP false .eql v28 (pd ls 0)) fun v30 =>
 some v30
)) fun v30 =>
 obind (pickP v22 v30 (eB false)) fun v31 =>
 oif v31 (
 some [(D.sl 1 (esD (pd ls 2)))]
) (
 og (roomP (((esD (pd ls 2))).length + ([[(eS ⟨#[]⟩)]]).length) 16) <|
 obind (binP false .add (pd ls 1) (eI 1)) fun v38 =>
 obind (cutP (((esD (pd ls 2)) ++ [[(eS ⟨#[]⟩)]])).length (some v38) none) fun p39 =>
 obind (cutP (((esD (pd ls 2)) ++ [[(eS ⟨#[]⟩)]])).length (some (pd ls 1)) none) fun p42 =>
 og (decide (p42.1 + p42.2 ≤ (((esD (pd ls 2)) ++ [[(eS ⟨#[]⟩)]])).length)) <|
 og (decide (p39.1 + p39.2 ≤ (((esD (pd ls 2)) ++ [[(eS ⟨#[]⟩)]])).length)) <|
 obind (numP (((((esD (pd ls 2)) ++ [[(eS ⟨#[]⟩)]])).take p39.1 ++ (((((esD (pd ls 2)) ++ [[(eS ⟨#[]⟩)]])).drop p42.1).take p42.2).take (min (((((esD (pd ls 2)) ++ [[(eS ⟨#[]⟩)]])).drop p42.1).take p42.2).length p39.2) ++ (((esD (pd ls 2)) ++ [[(eS ⟨#[]⟩)]])).drop (p39.1 + (min (((((esD (pd ls 2)) ++ [[(eS ⟨#[]⟩)]])).drop p42.1).take p42.2).length p39.2)))).length (pd ls 1)) fun j47 =>
 og (oneP (pd ls 0)) <|
 obind ((((((esD (pd ls 2)) ++ [[(eS ⟨#[]⟩)]])).take p39.1 ++ (((((esD (pd ls 2)) ++ [[(eS ⟨#[]⟩)]])).drop p42.1).take p42.2).take (min (((((esD (pd ls 2)) ++ [[(eS ⟨#[]⟩)]])).drop p42.1).take p42.2).length p39.2) ++ (((esD (pd ls 2)) ++ [[(eS ⟨#[]⟩)]])).drop (p39.1 + (min (((((esD (pd ls 2)) ++ [[(eS ⟨#[]⟩)]])).drop p42.1).take p42.2).length p39.2))))[j47]?) fun w1 =>
 some [(D.sl 1 ((((((esD (pd ls 2)) ++ [[(eS ⟨#[]⟩)]])).take p39.1 ++ (((((esD (pd ls 2)) ++ [[(eS ⟨#[]⟩)]])).drop p42.1).take p42.2).take (min (((((esD (pd ls 2)) ++ [[(eS ⟨#[]⟩)]])).drop p42.1).take p42.2).length p39.2) ++ (((esD (pd ls 2)) ++ [[(eS ⟨#[]⟩)]])).drop (p39.1 + (min (((((esD (pd ls 2)) ++ [[(eS ⟨#[]⟩)]])).drop p42.1).take p42.2).length p39.2)))).set j47 (setSegD w1 0 [(pd ls 0)])))]
)

def terms_Names_1_h (n : Nat) (ls : List D) : Option (List D) :=
 og (aggP 4 (pd ls 0)) <|
 obind (
 obind (binP false .eql (celD (pd ls 0) 0) (eI 3)) fun v10 =>
 obind (
 oif v10 (
 obind (terms_put_h n [(celD (pd ls 0) 2), (D.sl 1 (esD (pd ls 2)))]) fun h1 =>
 some (.inl [(D.sl 1 (esD (pd h1 0))), (D.sl 1 (esD (pd ls 3)))])
) (
 obind (binP false .eql (celD (pd ls 0) 0) (eI 4)) fun v16 =>
 obind (
 oif v16 (
 obind (terms_put_h n [(celD (pd ls 0) 2), (D.sl 1 (esD (pd ls 3)))]) fun h2 =>
 some (.inl [(D.sl 1 (esD (pd ls 2))), (D.sl 1 (esD (pd h2 0)))])
) (
 some (.inl [(D.sl 1 (esD (pd ls 2))), (D.sl 1 (esD (pd ls 3)))])
)
) <| jnX fun ls =>
 some (.inl [(D.sl 1 (esD (pd ls 0))), (D.sl 1 (esD (pd ls 1)))])
)
) <| jnX fun ls =>
 some (.inl [(D.sl 1 (esD (pd ls 0))), (D.sl 1 (esD (pd ls 1)))])
) <| jnX fun ls =>
 some [(eB true), (D.sl 1 (esD (pd ls 0))), (D.sl 1 (esD (pd ls 1)))]

def terms_walk_h_terms_Check_1_l4 (r_terms_walk_h_terms_Check_1 : List D → Option (List D)) (n : Nat) (ls : List D) : Option (List D ⊕ (List D ⊕ (List D))) :=
 obind (binP false .lss (pd ls 3) (pd ls 2)) fun v18 =>
 oif v18 (
 obind (ixP 4 (pd ls 1) (pd ls 3)) fun c19 =>
 obind (atP true 4 0 c19) fun v20 =>
 og (aggP 4 v20) <|
 obind (binP false .add (pd ls 0) (eI 1)) fun v23 =>
 obind (r_terms_walk_h_terms_Check_1 [(D.agg [(celD v20 0), (celD v20 1), (celD v20 2), (celD v20 3)]), v23, (pd ls 4), (pd ls 5)]) fun h2 =>
 obind (unP .not (pd h2 0)) fun v26 =>
 oif v26 (
 inrX (
 inrX (
 some [(eB false), (pd h2 1), (pd h2 2)]
)
)
) (
 obind (binP false .add (pd ls 3) (eI 1)) fun v27 =>
 some (.inl [(pd ls 0), (pd ls 1), (pd ls 2), v27, (pd h2 1), (pd h2 2)])
)
) (
 inrX (
 some (.inl [(pd ls 4), (pd ls 5)])
)
)

def terms_walk_h_terms_Check_1 (r_terms_walk_h_terms_Check_1 : List D → Option (List D)) (n : Nat) (ls : List D) : Option (List D) :=
 og (aggP 4 (pd ls 0)) <|
 obind (terms_Check_1_h n [(D.agg [(celD (pd ls 0) 0), (celD (pd ls 0) 1), (celD (pd ls 0) 2), (celD (pd ls 0) 3)]), (pd ls 1), (pd ls 2), (pd ls 3)]) fun h1 =>
 obind (unP .not (pd h1 0)) fun v13 =>
 oif v13 (
 some [(eB false), (pd h1 1), (pd h1 2)]
) (
 obind (lenP (celD (pd ls 0) 3)) fun v16 =>
 obind (
 iterL (terms_walk_h_terms_Check_1_l4 r_terms_walk_h_terms_Check_1 n) n [(pd ls 1), (celD (pd ls 0) 3), v16, (eI 0), (pd h1 1), (pd h1 2)]
) <| jnX fun ls =>
 some [(eB true), (pd ls 0), (pd ls 1)]
)

def terms_walk_h_terms_Check_1L : Nat → List D → Option (List D)
  | 0, _ => none
  | n + 1, ls => terms_walk_h_terms_Check_1 (terms_walk_h_terms_Check_1L n) n ls
def terms_Check (n : Nat) (a0 : D) : Option D :=
 og (aggP 4 a0) <|
 obind (terms_walk_h_terms_Check_1L n [(D.agg [(celD a0 0), (celD a0 1), (celD a0 2), (celD a0 3)]), (eI 1), (eI 0), (eI 0)]) fun h1 =>
 some (pd h1 2)

def terms_CheckL (n : Nat) : List D → Option D
  | [a0] => terms_Check n a0
  | _ => none
def terms_walk_h_terms_Names_1_l4 (r_terms_walk_h_terms_Names_1 : List D → Option (List D)) (n : Nat) (ls : List D) : Option (List D ⊕ (List D ⊕ (List D))) :=
 obind (binP false .lss (pd ls 3) (pd ls 2)) fun v18 =>
 oif v18 (
 obind (ixP 4 (pd ls 1) (pd ls 3)) fun c19 =>
 obind (atP true 4 0 c19) fun v20 =>
 og (aggP 4 v20) <|
 obind (binP false .add (pd ls 0) (eI 1)) fun v23 =>
 obind (r_terms_walk_h_terms_Names_1 [(D.agg [(celD v20 0), (celD v20 1), (celD v20 2), (celD v20 3)]), v23, (D.sl 1 (esD (pd ls 4))), (D.sl 1 (esD (pd ls 5)))]) fun h2 =>
 obind (unP .not (pd h2 0)) fun v26 =>
 oif v26 (
 inrX (
 inrX (
 some [(eB false), (D.sl 1 (esD (pd h2 1))), (D.sl 1 (esD (pd h2 2)))]
)
)
) (
 obind (binP false .add (pd ls 3) (eI 1)) fun v27 =>
 some (.inl [(pd ls 0), (pd ls 1), (pd ls 2), v27, (D.sl 1 (esD (pd h2 1))), (D.sl 1 (esD (pd h2 2)))])
)
) (
 inrX (
 some (.inl [(D.sl 1 (esD (pd ls 4))), (D.sl 1 (esD (pd ls 5)))])
)
)

def terms_walk_h_terms_Names_1 (r_terms_walk_h_terms_Names_1 : List D → Option (List D)) (n : Nat) (ls : List D) : Option (List D) :=
 og (aggP 4 (pd ls 0)) <|
 obind (terms_Names_1_h n [(D.agg [(celD (pd ls 0) 0), (celD (pd ls 0) 1), (celD (pd ls 0) 2), (celD (pd ls 0) 3)]), (pd ls 1), (D.sl 1 (esD (pd ls 2))), (D.sl 1 (esD (pd ls 3)))]) fun h1 =>
 obind (unP .not (pd h1 0)) fun v13 =>
 oif v13 (
 some [(eB false), (D.sl 1 (esD (pd h1 1))), (D.sl 1 (esD (pd h1 2)))]
) (
 obind (lenP (celD (pd ls 0) 3)) fun v16 =>
 obind (
 iterL (terms_walk_h_terms_Names_1_l4 r_terms_walk_h_terms_Names_1 n) n [(pd ls 1), (celD (pd ls 0) 3), v16, (eI 0), (D.sl 1 (esD (pd h1 1))), (D.sl 1 (esD (pd h1 2)))]
) <| jnX fun ls =>
 some [(eB true), (D.sl 1 (esD (pd ls 0))), (D.sl 1 (esD (pd ls 1)))]
)

def terms_walk_h_terms_Names_1L : Nat → List D → Option (List D)
  | 0, _ => none
  | n + 1, ls => terms_walk_h_terms_Names_1 (terms_walk_h_terms_Names_1L n) n ls
def terms_Names (n : Nat) (a0 : D) : Option D :=
 og (aggP 4 a0) <|
 obind (terms_walk_h_terms_Names_1L n [(D.agg [(celD a0 0), (celD a0 1), (celD a0 2), (celD a0 3)]), (eI 1), (D.sl 1 []), (D.sl 1 [])]) fun h1 =>
 some (D.tup [(D.sl 1 (esD (pd h1 1))), (D.sl 1 (esD (pd h1 2)))])

def terms_NamesL (n : Nat) : List D → Option D
  | [a0] => terms_Names n a0
  | _ => none
def forms_term (n : Nat) (a0 : D) : Option D :=
 og (aggP 6 a0) <|
 obind (binP false .neq (celD a0 0) (eI 1)) fun v8 =>
 oif v8 (
 some (eI 0)
) (
 obind (terms_CheckL n [(D.agg [(celD a0 1), (celD a0 2), (celD a0 3), (celD a0 4)])]) fun v11 =>
 obind (binP false .neq v11 (eI 0)) fun v13 =>
 oif v13 (
 some v11
) (
 obind (terms_NamesL n [(D.agg [(celD a0 1), (celD a0 2), (celD a0 3), (celD a0 4)])]) fun v18 =>
 obind (extP 0 v18) fun v19 =>
 obind (extP 1 v18) fun v20 =>
 obind (lenP v20) fun v22 =>
 obind (binP false .gtr v22 (eI 0)) fun v23 =>
 oif v23 (
 some (eI 24)
) (
 some (eI 0)
)
)
)

def forms_termL (n : Nat) : List D → Option D
  | [a0] => forms_term n a0
  | _ => none
def forms_kids (n : Nat) (a0 : D) : Option D :=
 obind (
 obind (binP false .eql a0 (eI 1)) fun v5 =>
 oif v5 (
 inrX (
 some (eI 0)
)
) (
 obind (binP false .eql a0 (eI 3)) fun v7 =>
 obind (
 oif v7 (
 some (.inl [a0, v7])
) (
 obind (binP false .eql a0 (eI 4)) fun v8 =>
 obind (
 oif v8 (
 some (.inl [a0, v8])
) (
 obind (binP false .eql a0 (eI 5)) fun v9 =>
 obind (
 oif v9 (
 some (.inl [a0, v9])
) (
 obind (binP false .eql a0 (eI 9)) fun v10 =>
 obind (
 oif v10 (
 some (.inl [a0, v10])
) (
 obind (binP false .eql a0 (eI 13)) fun v11 =>
 some (.inl [a0, v11])
)
) <| jnX fun ls =>
 some (.inl [(pd ls 0), (pd ls 1)])
)
) <| jnX fun ls =>
 some (.inl [(pd ls 0), (pd ls 1)])
)
) <| jnX fun ls =>
 some (.inl [(pd ls 0), (pd ls 1)])
)
) <| jnX fun ls =>
 oif (pd ls 1) (
 inrX (
 some (eI 2)
)
) (
 obind (binP false .eql (pd ls 0) (eI 2)) fun v13 =>
 obind (
 oif v13 (
 some (.inl [v13])
) (
 obind (binP false .eql (pd ls 0) (eI 6)) fun v14 =>
 obind (
 oif v14 (
 some (.inl [v14])
) (
 obind (binP false .eql (pd ls 0) (eI 7)) fun v15 =>
 obind (
 oif v15 (
 some (.inl [v15])
) (
 obind (binP false .eql (pd ls 0) (eI 8)) fun v16 =>
 obind (
 oif v16 (
 some (.inl [v16])
) (
 obind (binP false .eql (pd ls 0) (eI 10)) fun v17 =>
 obind (
 oif v17 (
 some (.inl [v17])
) (
 obind (binP false .eql (pd ls 0) (eI 11)) fun v18 =>
 obind (
 oif v18 (
 some (.inl [v18])
) (
 obind (binP false .eql (pd ls 0) (eI 12)) fun v19 =>
 some (.inl [v19])
)
) <| jnX fun ls =>
 some (.inl [(pd ls 0)])
)
) <| jnX fun ls =>
 some (.inl [(pd ls 0)])
)
) <| jnX fun ls =>
 some (.inl [(pd ls 0)])
)
) <| jnX fun ls =>
 some (.inl [(pd ls 0)])
)
) <| jnX fun ls =>
 some (.inl [(pd ls 0)])
)
) <| jnX fun ls =>
 oif (pd ls 0) (
 inrX (
 some (eI 1)
)
) (
 some (.inl [])
)
)
)
) <| jnX fun ls =>
 some (eI (-1))

def forms_kidsL (n : Nat) : List D → Option D
  | [a0] => forms_kids n a0
  | _ => none
def forms_Check_1_h (n : Nat) (ls : List D) : Option (List D) :=
 og (aggP 6 (pd ls 0)) <|
 obind (binP false .add (pd ls 2) (eI 1)) fun v11 =>
 og (oneP v11) <|
 obind (binP false .eql (celD (pd ls 0) 1) (eI 0)) fun v15 =>
 obind (gD v15 true (
 obind (binP false .eql (celD (pd ls 0) 2) (eI 0)) fun v20 =>
 some v20
)) fun v20 =>
 obind (pickP v15 v20 (eB false)) fun v21 =>
 obind (gD v21 true (
 obind (binP false .eql (celD (pd ls 0) 3) (eS ⟨#[]⟩)) fun v26 =>
 some v26
)) fun v26 =>
 obind (pickP v21 v26 (eB false)) fun v27 =>
 obind (gD v27 true (
 obind (lenP (celD (pd ls 0) 4)) fun v32 =>
 obind (binP false .eql v32 (eI 0)) fun v33 =>
 some v33
)) fun v33 =>
 obind (pickP v27 v33 (eB false)) fun v34 =>
 obind (forms_termL n [(D.agg [(celD (pd ls 0) 0), (celD (pd ls 0) 1), (celD (pd ls 0) 2), (celD (pd ls 0) 3), (celD (pd ls 0) 4), (celD (pd ls 0) 5)])]) fun v36 =>
 obind (forms_kidsL n [(celD (pd ls 0) 0)]) fun v39 =>
 obind (
 obind (binP false .gtr (pd ls 1) (eI 64)) fun v42 =>
 obind (
 oif v42 (
 some (.inl [(eI 17), v11])
) (
 obind (binP false .lss v39 (eI 0)) fun v45 =>
 obind (
 oif v45 (
 some (.inl [(eI 11), v11])
) (
 obind (binP false .neq v36 (eI 0)) fun v48 =>
 obind (
 oif v48 (
 og (oneP v36) <|
 some (.inl [v36, v11])
) (
 obind (lenP (celD (pd ls 0) 5)) fun v53 =>
 obind (binP false .neq v53 v39) fun v55 =>
 obind (gD v55 false (
 obind (binP false .neq (celD (pd ls 0) 0) (eI 1)) fun v59 =>
 some v59
)) fun v60 =>
 obind (gD v60 true (
 obind (unP .not v34) fun v62 =>
 some v62
)) fun v62 =>
 obind (gD v55 false (
 obind (pickP v60 v62 (eB false)) fun v63 =>
 some v63
)) fun v63 =>
 obind (pickP v55 (eB true) v63) fun v64 =>
 obind (
 oif v64 (
 some (.inl [(eI 3), v11])
) (
 obind (binP false .gtr v11 (eI 4096)) fun v67 =>
 obind (
 oif v67 (
 some (.inl [(eI 4), v11])
) (
 some (.inl [(pd ls 3), v11])
)
) <| jnX fun ls =>
 some (.inl [(pd ls 0), (pd ls 1)])
)
) <| jnX fun ls =>
 some (.inl [(pd ls 0), (pd ls 1)])
)
) <| jnX fun ls =>
 some (.inl [(pd ls 0), (pd ls 1)])
)
) <| jnX fun ls =>
 some (.inl [(pd ls 0), (pd ls 1)])
)
) <| jnX fun ls =>
 some (.inl [(pd ls 0), (pd ls 1)])
) <| jnX fun ls =>
 obind (binP false .eql (pd ls 0) (eI 0)) fun v69 =>
 some [v69, (pd ls 1), (pd ls 0)]

def forms_each_h_forms_Check_1_l4 (r_forms_each_h_forms_Check_1 : List D → Option (List D)) (n : Nat) (ls : List D) : Option (List D ⊕ (List D ⊕ (List D))) :=
 obind (binP false .lss (pd ls 3) (pd ls 2)) fun v18 =>
 oif v18 (
 obind (ixP 6 (pd ls 1) (pd ls 3)) fun c19 =>
 obind (atP true 6 0 c19) fun v20 =>
 og (aggP 6 v20) <|
 obind (binP false .add (pd ls 0) (eI 1)) fun v23 =>
 obind (r_forms_each_h_forms_Check_1 [(D.agg [(celD v20 0), (celD v20 1), (celD v20 2), (celD v20 3), (celD v20 4), (celD v20 5)]), v23, (pd ls 4), (pd ls 5)]) fun h2 =>
 obind (unP .not (pd h2 0)) fun v26 =>
 oif v26 (
 inrX (
 inrX (
 some [(eB false), (pd h2 1), (pd h2 2)]
)
)
) (
 obind (binP false .add (pd ls 3) (eI 1)) fun v27 =>
 some (.inl [(pd ls 0), (pd ls 1), (pd ls 2), v27, (pd h2 1), (pd h2 2)])
)
) (
 inrX (
 some (.inl [(pd ls 4), (pd ls 5)])
)
)

def forms_each_h_forms_Check_1 (r_forms_each_h_forms_Check_1 : List D → Option (List D)) (n : Nat) (ls : List D) : Option (List D) :=
 og (aggP 6 (pd ls 0)) <|
 obind (forms_Check_1_h n [(D.agg [(celD (pd ls 0) 0), (celD (pd ls 0) 1), (celD (pd ls 0) 2), (celD (pd ls 0) 3), (celD (pd ls 0) 4), (celD (pd ls 0) 5)]), (pd ls 1), (pd ls 2), (pd ls 3)]) fun h1 =>
 obind (unP .not (pd h1 0)) fun v13 =>
 oif v13 (
 some [(eB false), (pd h1 1), (pd h1 2)]
) (
 obind (lenP (celD (pd ls 0) 5)) fun v16 =>
 obind (
 iterL (forms_each_h_forms_Check_1_l4 r_forms_each_h_forms_Check_1 n) n [(pd ls 1), (celD (pd ls 0) 5), v16, (eI 0), (pd h1 1), (pd h1 2)]
) <| jnX fun ls =>
 some [(eB true), (pd ls 0), (pd ls 1)]
)

def forms_each_h_forms_Check_1L : Nat → List D → Option (List D)
  | 0, _ => none
  | n + 1, ls => forms_each_h_forms_Check_1 (forms_each_h_forms_Check_1L n) n ls
def forms_Check (n : Nat) (a0 : D) : Option D :=
 og (aggP 6 a0) <|
 obind (forms_each_h_forms_Check_1L n [(D.agg [(celD a0 0), (celD a0 1), (celD a0 2), (celD a0 3), (celD a0 4), (celD a0 5)]), (eI 1), (eI 0), (eI 0)]) fun h1 =>
 some (pd h1 2)

def forms_CheckL (n : Nat) : List D → Option D
  | [a0] => forms_Check n a0
  | _ => none
def defs_names_l3 (n : Nat) (ls : List D) : Option (List D ⊕ (List D ⊕ D)) :=
 obind (binP false .lss (pd ls 2) (pd ls 1)) fun v12 =>
 oif v12 (
 obind (
 obind (ixP 5 (pd ls 0) (pd ls 2)) fun c14 =>
 obind (atP true 5 0 c14) fun v15 =>
 og (aggP 5 v15) <|
 obind (lookP (.string) (.int .i64 0) true (mpD (pd ls 3)) (celD v15 0)) fun v20 =>
 obind (extP 0 v20) fun v21 =>
 obind (extP 1 v20) fun v22 =>
 obind (unP .not v22) fun v24 =>
 obind (
 oif v24 (
 obind (putP (.string) (mpD (pd ls 3)) (celD v15 0) (pd ls 2)) fun m8_1 =>
 some (.inl [(pd ls 0), (pd ls 1), (pd ls 2), (D.mp m8_1)])
) (
 some (.inl [(pd ls 0), (pd ls 1), (pd ls 2), (D.mp (mpD (pd ls 3)))])
)
) <| jnX fun ls =>
 some (.inl [(pd ls 0), (pd ls 1), (pd ls 2), (D.mp (mpD (pd ls 3)))])
) <| jnX fun ls =>
 obind (binP false .add (pd ls 2) (eI 1)) fun v29 =>
 some (.inl [(pd ls 0), (pd ls 1), v29, (D.mp (mpD (pd ls 3)))])
) (
 inrX (
 some (.inl [(D.mp (mpD (pd ls 3)))])
)
)

def defs_names (n : Nat) (a0 : D) : Option D :=
 obind (lenP a0) fun v10 =>
 obind (
 iterL (defs_names_l3 n) n [a0, v10, (eI 0), (D.mp [])]
) <| jnX fun ls =>
 some (D.mp (mpD (pd ls 0)))

def defs_namesL (n : Nat) : List D → Option D
  | [a0] => defs_names n a0
  | _ => none
def defs_links_l9 (n : Nat) (ls : List D) : Option (List D ⊕ (List D ⊕ (List D ⊕ (List D ⊕ (List D ⊕ D))))) :=
 obind (binP false .lss (pd ls 6) (pd ls 5)) fun v31 =>
 oif v31 (
 obind (
 obind (ixP 1 (pd ls 4) (pd ls 6)) fun c32 =>
 obind (atP false 1 0 c32) fun v33 =>
 obind (entP (pd ls 0)) fun es37 =>
 obind (lookP (.string) (.int .i64 0) true es37 v33) fun v37 =>
 obind (extP 0 v37) fun v38 =>
 obind (extP 1 v37) fun v39 =>
 obind (
 oif v39 (
 og (oneP v38) <|
 og (roomP (((esD (pd ls 8))).length + ([[v38]]).length) 8) <|
 some (.inl [(pd ls 0), (pd ls 1), (pd ls 2), (pd ls 3), (pd ls 4), (pd ls 5), (pd ls 6), (D.sl 1 (esD (pd ls 7))), (D.sl 1 ((esD (pd ls 8)) ++ [[v38]]))])
) (
 some (.inl [(pd ls 0), (pd ls 1), (pd ls 2), (pd ls 3), (pd ls 4), (pd ls 5), (pd ls 6), (D.sl 1 (esD (pd ls 7))), (D.sl 1 (esD (pd ls 8)))])
)
) <| jnX fun ls =>
 some (.inl [(pd ls 0), (pd ls 1), (pd ls 2), (pd ls 3), (pd ls 4), (pd ls 5), (pd ls 6), (D.sl 1 (esD (pd ls 7))), (D.sl 1 (esD (pd ls 8)))])
) <| jnX fun ls =>
 obind (binP false .add (pd ls 6) (eI 1)) fun v45 =>
 some (.inl [(pd ls 0), (pd ls 1), (pd ls 2), (pd ls 3), (pd ls 4), (pd ls 5), v45, (D.sl 1 (esD (pd ls 7))), (D.sl 1 (esD (pd ls 8)))])
) (
 inrX (
 some (.inl [(pd ls 0), (pd ls 1), (pd ls 2), (pd ls 3), (D.sl 1 (esD (pd ls 7))), (D.sl 1 (esD (pd ls 8)))])
)
)

def defs_links_l4 (n : Nat) (ls : List D) : Option (List D ⊕ (List D ⊕ D)) :=
 obind (binP false .lss (pd ls 3) (pd ls 2)) fun v19 =>
 oif v19 (
 obind (
 obind (ixP 5 (pd ls 1) (pd ls 3)) fun c20 =>
 obind (atP true 5 0 c20) fun v21 =>
 og (aggP 5 v21) <|
 obind (terms_NamesL n [(D.agg [(celD v21 1), (celD v21 2), (celD v21 3), (celD v21 4)])]) fun v25 =>
 obind (extP 0 v25) fun v26 =>
 obind (extP 1 v25) fun v27 =>
 obind (lenP v26) fun v29 =>
 obind (
 iterL (defs_links_l9 n) n [(pd ls 0), (pd ls 1), (pd ls 2), (pd ls 3), v26, v29, (eI 0), (D.sl 1 (esD (pd ls 4))), (D.sl 1 [])]
) <| jnX fun ls =>
 og (oneP (D.sl 1 (esD (pd ls 5)))) <|
 og (roomP (((esD (pd ls 4))).length + ([[(D.sl 1 (esD (pd ls 5)))]]).length) 24) <|
 some (.inl [(pd ls 0), (pd ls 1), (pd ls 2), (pd ls 3), (D.sl 1 ((esD (pd ls 4)) ++ [[(D.sl 1 (esD (pd ls 5)))]]))])
) <| jnX fun ls =>
 obind (binP false .add (pd ls 3) (eI 1)) fun v50 =>
 some (.inl [(pd ls 0), (pd ls 1), (pd ls 2), v50, (D.sl 1 (esD (pd ls 4)))])
) (
 inrX (
 some (.inl [(D.sl 1 (esD (pd ls 4)))])
)
)

def defs_links (n : Nat) (a0 : D) : Option D :=
 obind (defs_namesL n [a0]) fun v15 =>
 obind (lenP a0) fun v17 =>
 obind (
 iterL (defs_links_l4 n) n [v15, a0, v17, (eI 0), (D.sl 1 [])]
) <| jnX fun ls =>
 some (D.sl 1 (esD (pd ls 0)))

def defs_linksL (n : Nat) : List D → Option D
  | [a0] => defs_links n a0
  | _ => none
def defs_reached_1_h_l1 (r_defs_reached_1_h : List D → Option (List D)) (n : Nat) (ls : List D) : Option (List D ⊕ (List D ⊕ (List D))) :=
 obind (binP false .lss (pd ls 2) (pd ls 1)) fun v13 =>
 oif v13 (
 obind (
 obind (ixP 1 (pd ls 0) (pd ls 2)) fun c14 =>
 obind (atP false 1 0 c14) fun v15 =>
 obind (lookP (.int .i64) (.bool false) false (mpD (pd ls 4)) v15) fun v18 =>
 obind (unP .not v18) fun v19 =>
 obind (
 oif v19 (
 obind (putP (.int .i64) (mpD (pd ls 4)) v15 (eB true)) fun m9000_1 =>
 obind (r_defs_reached_1_h [v15, (pd ls 3), (D.mp m9000_1)]) fun h2 =>
 some (.inl [(pd ls 0), (pd ls 1), (pd ls 2), (pd h2 1), (D.mp (mpD (pd h2 2)))])
) (
 some (.inl [(pd ls 0), (pd ls 1), (pd ls 2), (pd ls 3), (D.mp (mpD (pd ls 4)))])
)
) <| jnX fun ls =>
 some (.inl [(pd ls 0), (pd ls 1), (pd ls 2), (pd ls 3), (D.mp (mpD (pd ls 4)))])
) <| jnX fun ls =>
 obind (binP false .add (pd ls 2) (eI 1)) fun v25 =>
 some (.inl [(pd ls 0), (pd ls 1), v25, (pd ls 3), (D.mp (mpD (pd ls 4)))])
) (
 inrX (
 some (.inl [(pd ls 3), (D.mp (mpD (pd ls 4)))])
)
)

def defs_reached_1_h (r_defs_reached_1_h : List D → Option (List D)) (n : Nat) (ls : List D) : Option (List D) :=
 obind (ixP 1 (pd ls 1) (pd ls 0)) fun c9 =>
 obind (atP false 1 0 c9) fun v10 =>
 obind (lenP v10) fun v11 =>
 obind (
 iterL (defs_reached_1_h_l1 r_defs_reached_1_h n) n [v10, v11, (eI 0), (pd ls 1), (D.mp (mpD (pd ls 2)))]
) <| jnX fun ls =>
 some [(D.tup []), (pd ls 0), (D.mp (mpD (pd ls 1)))]

def defs_reached_1_hL : Nat → List D → Option (List D)
  | 0, _ => none
  | n + 1, ls => defs_reached_1_h (defs_reached_1_hL n) n ls
def defs_reached_h_l5 (n : Nat) (ls : List D) : Option (List D ⊕ (List D ⊕ (List D))) :=
 obind (binP false .lss (pd ls 2) (pd ls 1)) fun v14 =>
 oif v14 (
 obind (ixP 1 (pd ls 0) (pd ls 2)) fun c15 =>
 obind (atP false 1 0 c15) fun v16 =>
 obind (defs_reached_1_hL n [v16, (pd ls 4), (D.mp (mpD (pd ls 3)))]) fun h1 =>
 obind (binP false .add (pd ls 2) (eI 1)) fun v20 =>
 some (.inl [(pd ls 0), (pd ls 1), v20, (D.mp (mpD (pd h1 2))), (pd h1 1)])
) (
 inrX (
 some (.inl [(D.mp (mpD (pd ls 3)))])
)
)

def defs_reached_h (n : Nat) (ls : List D) : Option (List D) :=
 og (oneP (pd ls 0)) <|
 obind (lenP (pd ls 1)) fun v12 =>
 obind (
 iterL (defs_reached_h_l5 n) n [(pd ls 1), v12, (eI 0), (D.mp []), (pd ls 0)]
) <| jnX fun ls =>
 some [(D.mp (mpD (pd ls 0)))]

def defs_reached_l5 (n : Nat) (ls : List D) : Option (List D ⊕ (List D ⊕ D)) :=
 obind (binP false .lss (pd ls 2) (pd ls 1)) fun v14 =>
 oif v14 (
 obind (ixP 1 (pd ls 0) (pd ls 2)) fun c15 =>
 obind (atP false 1 0 c15) fun v16 =>
 obind (defs_reached_1_hL n [v16, (pd ls 4), (D.mp (mpD (pd ls 3)))]) fun h1 =>
 obind (binP false .add (pd ls 2) (eI 1)) fun v20 =>
 some (.inl [(pd ls 0), (pd ls 1), v20, (D.mp (mpD (pd h1 2))), (pd h1 1)])
) (
 inrX (
 some (.inl [(D.mp (mpD (pd ls 3)))])
)
)

def defs_reached (n : Nat) (a0 : D) (a1 : D) : Option D :=
 og (oneP a0) <|
 obind (lenP a1) fun v12 =>
 obind (
 iterL (defs_reached_l5 n) n [a1, v12, (eI 0), (D.mp []), a0]
) <| jnX fun ls =>
 some (D.mp (mpD (pd ls 0)))

def defs_reachedL (n : Nat) : List D → Option D
  | [a0, a1] => defs_reached n a0 a1
  | _ => none
def defs_inline_1_h_l1 (r_defs_inline_1_h : List D → Option (List D)) (n : Nat) (ls : List D) : Option (List D ⊕ (List D ⊕ (List D))) :=
 obind (binP false .eql (pd ls 4) (eI 3)) fun v16 =>
 oif v16 (
 obind (entP (pd ls 1)) fun es21 =>
 obind (lookP (.string) (.int .i64 0) true es21 (pd ls 6)) fun v21 =>
 obind (extP 0 v21) fun v22 =>
 obind (extP 1 v21) fun v23 =>
 obind (unP .not v23) fun v25 =>
 oif v25 (
 inrX (
 some (.inl [(pd ls 0), (pd ls 3), (pd ls 4), (pd ls 5), (pd ls 6), (pd ls 7), (pd ls 8), (pd ls 9), (pd ls 10), (pd ls 11), (pd ls 1), (pd ls 2)])
)
) (
 obind (ixP 5 (pd ls 2) v22) fun c28 =>
 obind (atP true 4 1 c28) fun v30 =>
 og (aggP 4 v30) <|
 some (.inl [(pd ls 0), (pd ls 1), (pd ls 2), (pd ls 3), (celD v30 0), (celD v30 1), (celD v30 2), (celD v30 3), (pd ls 8), (pd ls 9), (pd ls 10), (pd ls 11)])
)
) (
 inrX (
 some (.inl [(pd ls 0), (pd ls 3), (pd ls 4), (pd ls 5), (pd ls 6), (pd ls 7), (pd ls 8), (pd ls 9), (pd ls 10), (pd ls 11), (pd ls 1), (pd ls 2)])
)
)

def defs_inline_1_h_l10 (r_defs_inline_1_h : List D → Option (List D)) (n : Nat) (ls : List D) : Option (List D ⊕ (List D ⊕ (List D))) :=
 obind (binP false .lss (pd ls 3) (pd ls 2)) fun v46 =>
 oif v46 (
 obind (
 obind (ixP 4 (pd ls 1) (pd ls 3)) fun c48 =>
 obind (atP true 4 0 c48) fun v49 =>
 og (aggP 4 v49) <|
 obind (binP false .leq (pd ls 0) (eI 64)) fun v51 =>
 obind (gD v51 true (
 obind (binP false .leq (pd ls 4) (eI 4096)) fun v54 =>
 some v54
)) fun v54 =>
 obind (pickP v51 v54 (eB false)) fun v55 =>
 obind (
 oif v55 (
 obind (binP false .add (pd ls 0) (eI 1)) fun v61 =>
 obind (r_defs_inline_1_h [(D.agg [(celD v49 0), (celD v49 1), (celD v49 2), (celD v49 3)]), v61, (pd ls 14), (pd ls 15), (pd ls 4)]) fun h1 =>
 obind (numP ((esD (pd ls 13))).length (pd ls 3)) fun j63 =>
 og (aggP 4 (pd h1 0)) <|
 obind (((esD (pd ls 13)))[j63]?) fun w2 =>
 some (.inl [(pd ls 0), (pd ls 1), (pd ls 2), (pd ls 3), (pd h1 3), (pd ls 5), (pd ls 6), (pd ls 7), (pd ls 8), (pd ls 9), (pd ls 10), (pd ls 11), (pd ls 12), (D.sl 4 (((esD (pd ls 13))).set j63 (setSegD w2 0 [(celD (pd h1 0) 0), (celD (pd h1 0) 1), (celD (pd h1 0) 2), (celD (pd h1 0) 3)]))), (pd h1 1), (pd h1 2)])
) (
 some (.inl [(pd ls 0), (pd ls 1), (pd ls 2), (pd ls 3), (pd ls 4), (pd ls 5), (pd ls 6), (pd ls 7), (pd ls 8), (pd ls 9), (pd ls 10), (pd ls 11), (pd ls 12), (D.sl 4 (esD (pd ls 13))), (pd ls 14), (pd ls 15)])
)
) <| jnX fun ls =>
 some (.inl [(pd ls 0), (pd ls 1), (pd ls 2), (pd ls 3), (pd ls 4), (pd ls 5), (pd ls 6), (pd ls 7), (pd ls 8), (pd ls 9), (pd ls 10), (pd ls 11), (pd ls 12), (D.sl 4 (esD (pd ls 13))), (pd ls 14), (pd ls 15)])
) <| jnX fun ls =>
 obind (binP false .add (pd ls 3) (eI 1)) fun v64 =>
 some (.inl [(pd ls 0), (pd ls 1), (pd ls 2), v64, (pd ls 4), (pd ls 5), (pd ls 6), (pd ls 7), (pd ls 8), (pd ls 9), (pd ls 10), (pd ls 11), (pd ls 12), (D.sl 4 (esD (pd ls 13))), (pd ls 14), (pd ls 15)])
) (
 inrX (
 some (.inl [(pd ls 5), (pd ls 6), (pd ls 7), (pd ls 8), (pd ls 9), (pd ls 10), (pd ls 11), (pd ls 12), (D.sl 4 (esD (pd ls 13))), (pd ls 14), (pd ls 15), (pd ls 4)])
)
)

def defs_inline_1_h (r_defs_inline_1_h : List D → Option (List D)) (n : Nat) (ls : List D) : Option (List D) :=
 og (aggP 4 (pd ls 0)) <|
 obind (
 iterL (defs_inline_1_h_l1 r_defs_inline_1_h n) n [(pd ls 1), (pd ls 2), (pd ls 3), (pd ls 4), (celD (pd ls 0) 0), (celD (pd ls 0) 1), (celD (pd ls 0) 2), (celD (pd ls 0) 3), (eI 0), (eI 0), (eS ⟨#[]⟩), (D.val (.slice none 0 0))]
) <| jnX fun ls =>
 obind (binP false .add (pd ls 1) (eI 1)) fun v32 =>
 og (oneP v32) <|
 obind (lenP (pd ls 5)) fun v35 =>
 obind (binP false .eql v35 (eI 0)) fun v36 =>
 oif v36 (
 og (aggP 4 (D.agg [(pd ls 2), (pd ls 3), (pd ls 4), (pd ls 5)])) <|
 some [(D.agg [(pd ls 2), (pd ls 3), (pd ls 4), (pd ls 5)]), (pd ls 10), (pd ls 11), v32]
) (
 obind (lenP (pd ls 5)) fun v40 =>
 obind (makeP 56 v40 v40) fun n41 =>
 obind (lenP (pd ls 5)) fun v44 =>
 obind (
 iterL (defs_inline_1_h_l10 r_defs_inline_1_h n) n [(pd ls 0), (pd ls 5), v44, (eI 0), v32, (pd ls 2), (pd ls 3), (pd ls 4), (pd ls 5), (pd ls 6), (pd ls 7), (pd ls 8), (pd ls 9), (D.sl 4 (List.replicate n41 [D.val (.int .i64 0), D.val (.int .i64 0), D.val (.string ⟨#[]⟩), D.val (.slice none 0 0)])), (pd ls 10), (pd ls 11)]
) <| jnX fun ls =>
 og (oneP (D.sl 4 (esD (pd ls 8)))) <|
 og (aggP 4 (D.agg [(pd ls 0), (pd ls 1), (pd ls 2), (D.sl 4 (esD (pd ls 8)))])) <|
 some [(D.agg [(pd ls 0), (pd ls 1), (pd ls 2), (D.sl 4 (esD (pd ls 8)))]), (pd ls 9), (pd ls 10), (pd ls 11)]
)

def defs_inline_1_hL : Nat → List D → Option (List D)
  | 0, _ => none
  | n + 1, ls => defs_inline_1_h (defs_inline_1_hL n) n ls
def defs_inline (n : Nat) (a0 : D) (a1 : D) : Option D :=
 og (aggP 4 a0) <|
 og (oneP a1) <|
 obind (defs_namesL n [a1]) fun v9 =>
 og (oneP v9) <|
 obind (defs_inline_1_hL n [(D.agg [(celD a0 0), (celD a0 1), (celD a0 2), (celD a0 3)]), (eI 1), v9, a1, (eI 0)]) fun h1 =>
 og (aggP 4 (pd h1 0)) <|
 some (D.agg [(celD (pd h1 0) 0), (celD (pd h1 0) 1), (celD (pd h1 0) 2), (celD (pd h1 0) 3)])

def defs_inlineL (n : Nat) : List D → Option D
  | [a0, a1] => defs_inline n a0 a1
  | _ => none
def defs_Inline_l8 (n : Nat) (ls : List D) : Option (List D ⊕ (List D ⊕ D)) :=
 obind (binP false .lss (pd ls 5) (pd ls 4)) fun v39 =>
 oif v39 (
 obind (
 obind (ixP 1 (pd ls 3) (pd ls 5)) fun c40 =>
 obind (atP false 1 0 c40) fun v41 =>
 obind (entP (pd ls 1)) fun es45 =>
 obind (lookP (.string) (.int .i64 0) true es45 v41) fun v45 =>
 obind (extP 0 v45) fun v46 =>
 obind (extP 1 v45) fun v47 =>
 obind (
 oif v47 (
 og (oneP v46) <|
 og (roomP (((esD (pd ls 14))).length + ([[v46]]).length) 8) <|
 some (.inl [(pd ls 0), (pd ls 1), (pd ls 2), (pd ls 3), (pd ls 4), (pd ls 5), (pd ls 6), (pd ls 7), (pd ls 8), (pd ls 9), (pd ls 10), (pd ls 11), (pd ls 12), (pd ls 13), (D.sl 1 ((esD (pd ls 14)) ++ [[v46]]))])
) (
 some (.inl [(pd ls 0), (pd ls 1), (pd ls 2), (pd ls 3), (pd ls 4), (pd ls 5), (pd ls 6), (pd ls 7), (pd ls 8), (pd ls 9), (pd ls 10), (pd ls 11), (pd ls 12), (pd ls 13), (D.sl 1 (esD (pd ls 14)))])
)
) <| jnX fun ls =>
 some (.inl [(pd ls 0), (pd ls 1), (pd ls 2), (pd ls 3), (pd ls 4), (pd ls 5), (pd ls 6), (pd ls 7), (pd ls 8), (pd ls 9), (pd ls 10), (pd ls 11), (pd ls 12), (pd ls 13), (D.sl 1 (esD (pd ls 14)))])
) <| jnX fun ls =>
 obind (binP false .add (pd ls 5) (eI 1)) fun v53 =>
 some (.inl [(pd ls 0), (pd ls 1), (pd ls 2), (pd ls 3), (pd ls 4), v53, (pd ls 6), (pd ls 7), (pd ls 8), (pd ls 9), (pd ls 10), (pd ls 11), (pd ls 12), (pd ls 13), (D.sl 1 (esD (pd ls 14)))])
) (
 inrX (
 some (.inl [(pd ls 0), (pd ls 2), (pd ls 6), (pd ls 7), (pd ls 8), (pd ls 9), (pd ls 10), (pd ls 11), (pd ls 12), (pd ls 13), (D.sl 1 (esD (pd ls 14)))])
)
)

def defs_Inline_l16 (n : Nat) (ls : List D) : Option (List D ⊕ (List D ⊕ D)) :=
 obind (binP false .lss (pd ls 4) (pd ls 3)) fun v60 =>
 oif v60 (
 obind (ixP 1 (pd ls 2) (pd ls 4)) fun c61 =>
 obind (atP false 1 0 c61) fun v62 =>
 obind (putP (.int .i64) (mpD (pd ls 13)) v62 (eB true)) fun m6010_2 =>
 obind (binP false .add (pd ls 4) (eI 1)) fun v65 =>
 some (.inl [(pd ls 0), (pd ls 1), (pd ls 2), (pd ls 3), v65, (pd ls 5), (pd ls 6), (pd ls 7), (pd ls 8), (pd ls 9), (pd ls 10), (pd ls 11), (pd ls 12), (D.mp m6010_2)])
) (
 inrX (
 some (.inl [(pd ls 0), (pd ls 1), (pd ls 5), (pd ls 6), (pd ls 7), (pd ls 8), (pd ls 9), (pd ls 10), (pd ls 11), (pd ls 12), (D.mp (mpD (pd ls 13)))])
)
)

def defs_Inline_l21 (n : Nat) (ls : List D) : Option (List D ⊕ (List D ⊕ D)) :=
 obind (binP false .lss (pd ls 3) (pd ls 2)) fun v69 =>
 oif v69 (
 obind (lookP (.int .i64) (.bool false) false (mpD (pd ls 12)) (pd ls 3)) fun v73 =>
 obind (gD v73 true (
 og (oneP (pd ls 3)) <|
 obind (defs_reachedL n [(pd ls 1), (D.sl 1 [[(pd ls 3)]])]) fun v78 =>
 obind (entP v78) fun es80 =>
 obind (lookP (.int .i64) (.bool false) false es80 (pd ls 3)) fun v80 =>
 some v80
)) fun v80 =>
 obind (pickP v73 v80 (eB false)) fun v81 =>
 oif v81 (
 inrX (
 inrX (
 some (D.tup [(D.agg [(eI 0), (eI 0), (eS ⟨#[]⟩), (D.val (.slice none 0 0))]), (eI 14)])
)
)
) (
 obind (binP false .add (pd ls 3) (eI 1)) fun v83 =>
 some (.inl [(pd ls 0), (pd ls 1), (pd ls 2), v83, (pd ls 4), (pd ls 5), (pd ls 6), (pd ls 7), (pd ls 8), (pd ls 9), (pd ls 10), (pd ls 11), (D.mp (mpD (pd ls 12)))])
)
) (
 inrX (
 some (.inl [(pd ls 0), (pd ls 4), (pd ls 5), (pd ls 6), (pd ls 7), (pd ls 8), (pd ls 9), (pd ls 10), (pd ls 11)])
)
)

def defs_Inline (n : Nat) (a0 : D) (a1 : D) : Option D :=
 og (aggP 4 a0) <|
 obind (terms_CheckL n [(D.agg [(celD a0 0), (celD a0 1), (celD a0 2), (celD a0 3)])]) fun v22 =>
 obind (binP false .neq v22 (eI 0)) fun v24 =>
 oif v24 (
 some (D.tup [(D.agg [(eI 0), (eI 0), (eS ⟨#[]⟩), (D.val (.slice none 0 0))]), v22])
) (
 obind (defs_namesL n [a1]) fun v28 =>
 obind (defs_linksL n [a1]) fun v30 =>
 obind (terms_NamesL n [(D.agg [(celD a0 0), (celD a0 1), (celD a0 2), (celD a0 3)])]) fun v33 =>
 obind (extP 0 v33) fun v34 =>
 obind (extP 1 v33) fun v35 =>
 obind (lenP v34) fun v37 =>
 obind (
 iterL (defs_Inline_l8 n) n [a1, v28, v30, v34, v37, (eI 0), (celD a0 0), (celD a0 1), (celD a0 2), (celD a0 3), (eI 0), (eI 0), (eS ⟨#[]⟩), (D.val (.slice none 0 0)), (D.sl 1 [])]
) <| jnX fun ls =>
 obind (defs_reached_h n [(pd ls 1), (D.sl 1 (esD (pd ls 10)))]) fun h1 =>
 obind (lenP (D.sl 1 (esD (pd ls 10)))) fun v58 =>
 obind (
 iterL (defs_Inline_l16 n) n [(pd ls 0), (pd ls 1), (D.sl 1 (esD (pd ls 10))), v58, (eI 0), (pd ls 2), (pd ls 3), (pd ls 4), (pd ls 5), (pd ls 6), (pd ls 7), (pd ls 8), (pd ls 9), (D.mp (mpD (pd h1 0)))]
) <| jnX fun ls =>
 obind (lenP (pd ls 0)) fun v67 =>
 obind (
 iterL (defs_Inline_l21 n) n [(pd ls 0), (pd ls 1), v67, (eI 0), (pd ls 2), (pd ls 3), (pd ls 4), (pd ls 5), (pd ls 6), (pd ls 7), (pd ls 8), (pd ls 9), (D.mp (mpD (pd ls 10)))]
) <| jnX fun ls =>
 obind (defs_inlineL n [(D.agg [(pd ls 1), (pd ls 2), (pd ls 3), (pd ls 4)]), (pd ls 0)]) fun v86 =>
 og (aggP 4 v86) <|
 obind (terms_CheckL n [(D.agg [(celD v86 0), (celD v86 1), (celD v86 2), (celD v86 3)])]) fun v88 =>
 obind (binP false .neq v88 (eI 0)) fun v90 =>
 oif v90 (
 some (D.tup [(D.agg [(eI 0), (eI 0), (eS ⟨#[]⟩), (D.val (.slice none 0 0))]), v88])
) (
 og (aggP 4 (D.agg [(celD v86 0), (celD v86 1), (celD v86 2), (celD v86 3)])) <|
 some (D.tup [(D.agg [(celD v86 0), (celD v86 1), (celD v86 2), (celD v86 3)]), (eI 0)])
)
)

def defs_InlineL (n : Nat) : List D → Option D
  | [a0, a1] => defs_Inline n a0 a1
  | _ => none
def terms_names_l3 (n : Nat) (ls : List D) : Option (List D ⊕ (List D ⊕ D)) :=
 obind (binP false .lss (pd ls 2) (pd ls 1)) fun v12 =>
 oif v12 (
 obind (
 obind (ixP 4 (pd ls 0) (pd ls 2)) fun c14 =>
 obind (atP true 4 0 c14) fun v15 =>
 og (aggP 4 v15) <|
 obind (lookP (.string) (.int .i64 0) true (mpD (pd ls 3)) (celD v15 0)) fun v20 =>
 obind (extP 0 v20) fun v21 =>
 obind (extP 1 v20) fun v22 =>
 obind (unP .not v22) fun v24 =>
 obind (
 oif v24 (
 obind (putP (.string) (mpD (pd ls 3)) (celD v15 0) (pd ls 2)) fun m8_1 =>
 some (.inl [(pd ls 0), (pd ls 1), (pd ls 2), (D.mp m8_1)])
) (
 some (.inl [(pd ls 0), (pd ls 1), (pd ls 2), (D.mp (mpD (pd ls 3)))])
)
) <| jnX fun ls =>
 some (.inl [(pd ls 0), (pd ls 1), (pd ls 2), (D.mp (mpD (pd ls 3)))])
) <| jnX fun ls =>
 obind (binP false .add (pd ls 2) (eI 1)) fun v29 =>
 some (.inl [(pd ls 0), (pd ls 1), v29, (D.mp (mpD (pd ls 3)))])
) (
 inrX (
 some (.inl [(D.mp (mpD (pd ls 3)))])
)
)

def terms_names (n : Nat) (a0 : D) : Option D :=
 obind (lenP a0) fun v10 =>
 obind (
 iterL (terms_names_l3 n) n [a0, v10, (eI 0), (D.mp [])]
) <| jnX fun ls =>
 some (D.mp (mpD (pd ls 0)))

def terms_namesL (n : Nat) : List D → Option D
  | [a0] => terms_names n a0
  | _ => none
def terms_span (n : Nat) (a0 : D) (a1 : D) : Option D :=
 obind (binP false .lss a0 (eI (-1048576))) fun v7 =>
 obind (gD v7 false (
 obind (binP false .gtr a1 (eI 1048576)) fun v10 =>
 some v10
)) fun v10 =>
 obind (pickP v7 (eB true) v10) fun v11 =>
 obind (gD v11 false (
 obind (binP false .gtr a0 a1) fun v15 =>
 some v15
)) fun v15 =>
 obind (pickP v11 (eB true) v15) fun v16 =>
 obind (gD v16 false (
 obind (binP false .sub a1 a0) fun v20 =>
 obind (binP false .gtr v20 (eI 4096)) fun v21 =>
 some v21
)) fun v21 =>
 obind (pickP v16 (eB true) v21) fun v22 =>
 oif v22 (
 some (D.tup [(D.agg [(eB false), (eI 0), (eI 0)]), (eI 2)])
) (
 og (oneP a0) <|
 og (oneP a1) <|
 og (aggP 3 (D.agg [(eB false), a0, a1])) <|
 some (D.tup [(D.agg [(eB false), a0, a1]), (eI 0)])
)

def terms_spanL (n : Nat) : List D → Option D
  | [a0, a1] => terms_span n a0 a1
  | _ => none
def terms_truths_l2 (n : Nat) (ls : List D) : Option (List D ⊕ (List D ⊕ D)) :=
 obind (binP false .lss (pd ls 2) (pd ls 1)) fun v9 =>
 oif v9 (
 obind (ixP 3 (pd ls 0) (pd ls 2)) fun c10 =>
 obind (atP true 3 0 c10) fun v11 =>
 og (aggP 3 v11) <|
 obind (unP .not (celD v11 0)) fun v14 =>
 oif v14 (
 inrX (
 inrX (
 some (D.tup [(D.agg [(eB false), (eI 0), (eI 0)]), (eI 13)])
)
)
) (
 obind (binP false .add (pd ls 2) (eI 1)) fun v16 =>
 some (.inl [(pd ls 0), (pd ls 1), v16, (pd ls 3), (pd ls 4), (pd ls 5)])
)
) (
 inrX (
 some (.inl [(pd ls 3), (pd ls 4), (pd ls 5)])
)
)

def terms_truths (n : Nat) (a0 : D) : Option D :=
 obind (lenP a0) fun v7 =>
 obind (
 iterL (terms_truths_l2 n) n [a0, v7, (eI 0), (eB false), (eI 0), (eI 0)]
) <| jnX fun ls =>
 some (D.tup [(D.agg [(eB true), (eI 0), (eI 0)]), (eI 0)])

def terms_truthsL (n : Nat) : List D → Option D
  | [a0] => terms_truths n a0
  | _ => none
def terms_reckoned (n : Nat) (a0 : D) (a1 : D) (a2 : D) : Option D :=
 og (aggP 3 a1) <|
 og (aggP 3 a2) <|
 obind (binP false .eql a0 (eI 15)) fun v13 =>
 obind (
 oif v13 (
 obind (unP .neg (celD a2 2)) fun v16 =>
 obind (unP .neg (celD a2 1)) fun v19 =>
 og (oneP v16) <|
 og (oneP v19) <|
 og (aggP 3 (D.agg [(eB false), v16, v19])) <|
 some (.inl [(eI 14), (celD a1 0), (celD a1 1), (celD a1 2), (eB false), v16, v19, (eB false), (eI 0), (eI 0)])
) (
 some (.inl [a0, (celD a1 0), (celD a1 1), (celD a1 2), (celD a2 0), (celD a2 1), (celD a2 2), (eB false), (eI 0), (eI 0)])
)
) <| jnX fun ls =>
 obind (binP false .eql (pd ls 0) (eI 14)) fun v22 =>
 oif v22 (
 obind (binP false .add (pd ls 2) (pd ls 5)) fun v27 =>
 obind (binP false .add (pd ls 3) (pd ls 6)) fun v32 =>
 obind (terms_spanL n [v27, v32]) fun v33 =>
 obind (extP 0 v33) fun v34 =>
 obind (extP 1 v33) fun v35 =>
 og (aggP 3 v34) <|
 some (D.tup [(D.agg [(celD v34 0), (celD v34 1), (celD v34 2)]), v35])
) (
 obind (binP false .mul (pd ls 2) (pd ls 5)) fun v40 =>
 obind (binP false .mul (pd ls 2) (pd ls 6)) fun v45 =>
 obind (binP false .mul (pd ls 3) (pd ls 5)) fun v50 =>
 obind (binP false .mul (pd ls 3) (pd ls 6)) fun v55 =>
 obind (mmP false [v40, v45, v50, v55]) fun v60 =>
 obind (mmP true [v40, v45, v50, v55]) fun v65 =>
 obind (terms_spanL n [v60, v65]) fun v66 =>
 obind (extP 0 v66) fun v67 =>
 obind (extP 1 v66) fun v68 =>
 og (aggP 3 v67) <|
 some (D.tup [(D.agg [(celD v67 0), (celD v67 1), (celD v67 2)]), v68])
)

def terms_reckonedL (n : Nat) : List D → Option D
  | [a0, a1, a2] => terms_reckoned n a0 a1 a2
  | _ => none
def terms_part (n : Nat) (a0 : D) (a1 : D) (a2 : D) (a3 : D) (a4 : D) : Option D :=
 og (aggP 4 a2) <|
 obind (
 obind (binP false .eql (celD a2 0) (eI 1)) fun v18 =>
 oif v18 (
 obind (terms_spanL n [(celD a2 1), (celD a2 1)]) fun v23 =>
 obind (extP 0 v23) fun v24 =>
 obind (extP 1 v23) fun v25 =>
 og (aggP 3 v24) <|
 inrX (
 some (D.tup [(D.agg [(celD v24 0), (celD v24 1), (celD v24 2)]), v25])
)
) (
 obind (binP false .eql (celD a2 0) (eI 2)) fun v27 =>
 oif v27 (
 inrX (
 some (D.tup [(D.agg [(eB true), (eI 0), (eI 0)]), (eI 0)])
)
) (
 obind (binP false .eql (celD a2 0) (eI 3)) fun v30 =>
 obind (
 oif v30 (
 some (.inl [a0, a1, a3, a4, (celD a2 0), v30, (celD a2 0), (celD a2 1), (celD a2 2), (celD a2 3), (eB false), (eI 0), (eI 0)])
) (
 obind (binP false .eql (celD a2 0) (eI 4)) fun v31 =>
 some (.inl [a0, a1, a3, a4, (celD a2 0), v31, (celD a2 0), (celD a2 1), (celD a2 2), (celD a2 3), (eB false), (eI 0), (eI 0)])
)
) <| jnX fun ls =>
 oif (pd ls 5) (
 obind (entP (pd ls 1)) fun es36 =>
 obind (lookP (.string) (.int .i64 0) true es36 (pd ls 8)) fun v36 =>
 obind (extP 0 v36) fun v37 =>
 obind (extP 1 v36) fun v38 =>
 obind (unP .not v38) fun v40 =>
 oif v40 (
 inrX (
 some (D.tup [(D.agg [(eB false), (eI 0), (eI 0)]), (eI 12)])
)
) (
 obind (binP false .eql (pd ls 6) (eI 4)) fun v44 =>
 obind (gD v44 true (
 obind (unP .not (pd ls 2)) fun v47 =>
 some v47
)) fun v47 =>
 obind (pickP v44 v47 (eB false)) fun v48 =>
 oif v48 (
 inrX (
 some (D.tup [(D.agg [(eB false), (eI 0), (eI 0)]), (eI 24)])
)
) (
 obind (ixP 4 (pd ls 0) v37) fun c52 =>
 obind (atP false 1 1 c52) fun v54 =>
 oif v54 (
 inrX (
 some (D.tup [(D.agg [(eB true), (eI 0), (eI 0)]), (eI 0)])
)
) (
 obind (ixP 4 (pd ls 0) v37) fun c58 =>
 obind (atP false 1 2 c58) fun v60 =>
 obind (ixP 4 (pd ls 0) v37) fun c63 =>
 obind (atP false 1 3 c63) fun v65 =>
 obind (terms_spanL n [v60, v65]) fun v66 =>
 obind (extP 0 v66) fun v67 =>
 obind (extP 1 v66) fun v68 =>
 og (aggP 3 v67) <|
 inrX (
 some (D.tup [(D.agg [(celD v67 0), (celD v67 1), (celD v67 2)]), v68])
)
)
)
)
) (
 obind (binP false .eql (pd ls 4) (eI 5)) fun v70 =>
 obind (
 oif v70 (
 some (.inl [(pd ls 3), (pd ls 4), v70, (pd ls 6), (pd ls 7), (pd ls 8), (pd ls 9), (pd ls 10), (pd ls 11), (pd ls 12)])
) (
 obind (binP false .eql (pd ls 4) (eI 6)) fun v71 =>
 obind (
 oif v71 (
 some (.inl [(pd ls 3), (pd ls 4), v71, (pd ls 6), (pd ls 7), (pd ls 8), (pd ls 9), (pd ls 10), (pd ls 11), (pd ls 12)])
) (
 obind (binP false .eql (pd ls 4) (eI 7)) fun v72 =>
 obind (
 oif v72 (
 some (.inl [(pd ls 3), (pd ls 4), v72, (pd ls 6), (pd ls 7), (pd ls 8), (pd ls 9), (pd ls 10), (pd ls 11), (pd ls 12)])
) (
 obind (binP false .eql (pd ls 4) (eI 8)) fun v73 =>
 obind (
 oif v73 (
 some (.inl [(pd ls 3), (pd ls 4), v73, (pd ls 6), (pd ls 7), (pd ls 8), (pd ls 9), (pd ls 10), (pd ls 11), (pd ls 12)])
) (
 obind (binP false .eql (pd ls 4) (eI 9)) fun v74 =>
 some (.inl [(pd ls 3), (pd ls 4), v74, (pd ls 6), (pd ls 7), (pd ls 8), (pd ls 9), (pd ls 10), (pd ls 11), (pd ls 12)])
)
) <| jnX fun ls =>
 some (.inl [(pd ls 0), (pd ls 1), (pd ls 2), (pd ls 3), (pd ls 4), (pd ls 5), (pd ls 6), (pd ls 7), (pd ls 8), (pd ls 9)])
)
) <| jnX fun ls =>
 some (.inl [(pd ls 0), (pd ls 1), (pd ls 2), (pd ls 3), (pd ls 4), (pd ls 5), (pd ls 6), (pd ls 7), (pd ls 8), (pd ls 9)])
)
) <| jnX fun ls =>
 some (.inl [(pd ls 0), (pd ls 1), (pd ls 2), (pd ls 3), (pd ls 4), (pd ls 5), (pd ls 6), (pd ls 7), (pd ls 8), (pd ls 9)])
)
) <| jnX fun ls =>
 oif (pd ls 2) (
 obind (terms_truthsL n [(pd ls 0)]) fun v76 =>
 obind (extP 0 v76) fun v77 =>
 obind (extP 1 v76) fun v78 =>
 og (aggP 3 v77) <|
 inrX (
 some (D.tup [(D.agg [(celD v77 0), (celD v77 1), (celD v77 2)]), v78])
)
) (
 obind (binP false .eql (pd ls 1) (eI 18)) fun v80 =>
 oif v80 (
 obind (ixP 3 (pd ls 0) (eI 0)) fun c82 =>
 obind (atP false 1 0 c82) fun v84 =>
 obind (unP .not v84) fun v85 =>
 obind (gD v85 false (
 obind (ixP 3 (pd ls 0) (eI 1)) fun c88 =>
 obind (atP false 1 0 c88) fun v90 =>
 obind (ixP 3 (pd ls 0) (eI 2)) fun c92 =>
 obind (atP false 1 0 c92) fun v94 =>
 obind (binP true .neq v90 v94) fun v95 =>
 some v95
)) fun v95 =>
 obind (pickP v85 (eB true) v95) fun v96 =>
 oif v96 (
 inrX (
 some (D.tup [(D.agg [(eB false), (eI 0), (eI 0)]), (eI 13)])
)
) (
 obind (ixP 3 (pd ls 0) (eI 1)) fun c99 =>
 obind (atP false 1 0 c99) fun v101 =>
 oif v101 (
 obind (ixP 3 (pd ls 0) (eI 1)) fun c103 =>
 obind (atP true 3 0 c103) fun v104 =>
 og (aggP 3 v104) <|
 inrX (
 some (D.tup [(D.agg [(celD v104 0), (celD v104 1), (celD v104 2)]), (eI 0)])
)
) (
 obind (ixP 3 (pd ls 0) (eI 1)) fun c106 =>
 obind (atP false 1 1 c106) fun v108 =>
 obind (ixP 3 (pd ls 0) (eI 2)) fun c110 =>
 obind (atP false 1 1 c110) fun v112 =>
 obind (mmP false [v108, v112]) fun v113 =>
 obind (ixP 3 (pd ls 0) (eI 1)) fun c115 =>
 obind (atP false 1 2 c115) fun v117 =>
 obind (ixP 3 (pd ls 0) (eI 2)) fun c119 =>
 obind (atP false 1 2 c119) fun v121 =>
 obind (mmP true [v117, v121]) fun v122 =>
 obind (terms_spanL n [v113, v122]) fun v123 =>
 obind (extP 0 v123) fun v124 =>
 obind (extP 1 v123) fun v125 =>
 og (aggP 3 v124) <|
 inrX (
 some (D.tup [(D.agg [(celD v124 0), (celD v124 1), (celD v124 2)]), v125])
)
)
)
) (
 obind (binP false .eql (pd ls 1) (eI 10)) fun v127 =>
 obind (
 oif v127 (
 some (.inl [(pd ls 0), v127, (pd ls 3), (pd ls 4), (pd ls 5), (pd ls 6), (pd ls 7), (pd ls 8), (pd ls 9)])
) (
 obind (binP false .eql (pd ls 1) (eI 11)) fun v128 =>
 some (.inl [(pd ls 0), v128, (pd ls 3), (pd ls 4), (pd ls 5), (pd ls 6), (pd ls 7), (pd ls 8), (pd ls 9)])
)
) <| jnX fun ls =>
 oif (pd ls 1) (
 obind (ixP 3 (pd ls 0) (eI 0)) fun c130 =>
 obind (atP false 1 0 c130) fun v132 =>
 obind (ixP 3 (pd ls 0) (eI 1)) fun c134 =>
 obind (atP false 1 0 c134) fun v136 =>
 obind (binP true .neq v132 v136) fun v137 =>
 oif v137 (
 inrX (
 some (D.tup [(D.agg [(eB false), (eI 0), (eI 0)]), (eI 13)])
)
) (
 inrX (
 some (D.tup [(D.agg [(eB true), (eI 0), (eI 0)]), (eI 0)])
)
)
) (
 some (.inl [(pd ls 0), (pd ls 2), (pd ls 3), (pd ls 4), (pd ls 5), (pd ls 6), (pd ls 7), (pd ls 8)])
)
)
)
)
)
)
) <| jnX fun ls =>
 obind (ixP 3 (pd ls 0) (eI 0)) fun c141 =>
 obind (atP false 1 0 c141) fun v143 =>
 obind (gD v143 false (
 obind (ixP 3 (pd ls 0) (eI 1)) fun c146 =>
 obind (atP false 1 0 c146) fun v148 =>
 some v148
)) fun v148 =>
 obind (pickP v143 (eB true) v148) fun v149 =>
 oif v149 (
 some (D.tup [(D.agg [(eB false), (eI 0), (eI 0)]), (eI 13)])
) (
 obind (binP false .eql (pd ls 1) (eI 12)) fun v165 =>
 obind (
 oif v165 (
 some (.inl [(pd ls 0), (pd ls 1), v165, (pd ls 1), (pd ls 2), (pd ls 3), (pd ls 4), (pd ls 5), (pd ls 6), (pd ls 7)])
) (
 obind (binP false .eql (pd ls 1) (eI 13)) fun v166 =>
 some (.inl [(pd ls 0), (pd ls 1), v166, (pd ls 1), (pd ls 2), (pd ls 3), (pd ls 4), (pd ls 5), (pd ls 6), (pd ls 7)])
)
) <| jnX fun ls =>
 oif (pd ls 2) (
 some (D.tup [(D.agg [(eB true), (eI 0), (eI 0)]), (eI 0)])
) (
 obind (binP false .eql (pd ls 1) (eI 17)) fun v169 =>
 oif v169 (
 obind (ixP 4 (pd ls 6) (eI 1)) fun c172 =>
 obind (atP true 4 0 c172) fun v173 =>
 og (aggP 4 v173) <|
 obind (binP false .neq (celD v173 0) (eI 1)) fun v176 =>
 obind (gD v176 false (
 obind (binP false .lss (celD v173 1) (eI 1)) fun v180 =>
 some v180
)) fun v180 =>
 obind (pickP v176 (eB true) v180) fun v181 =>
 oif v181 (
 some (D.tup [(D.agg [(eB false), (eI 0), (eI 0)]), (eI 2)])
) (
 obind (ixP 4 (pd ls 6) (eI 1)) fun c185 =>
 obind (atP false 1 1 c185) fun v187 =>
 obind (binP false .sub v187 (eI 1)) fun v188 =>
 obind (terms_spanL n [(eI 0), v188]) fun v189 =>
 obind (extP 0 v189) fun v190 =>
 obind (extP 1 v189) fun v191 =>
 og (aggP 3 v190) <|
 some (D.tup [(D.agg [(celD v190 0), (celD v190 1), (celD v190 2)]), v191])
)
) (
 obind (ixP 3 (pd ls 0) (eI 0)) fun c156 =>
 obind (atP true 3 0 c156) fun v157 =>
 obind (ixP 3 (pd ls 0) (eI 1)) fun c159 =>
 obind (atP true 3 0 c159) fun v160 =>
 obind (terms_reckonedL n [(pd ls 3), v157, v160]) fun v161 =>
 obind (extP 0 v161) fun v162 =>
 obind (extP 1 v161) fun v163 =>
 og (aggP 3 v162) <|
 some (D.tup [(D.agg [(celD v162 0), (celD v162 1), (celD v162 2)]), v163])
)
)
)

def terms_partL (n : Nat) : List D → Option D
  | [a0, a1, a2, a3, a4] => terms_part n a0 a1 a2 a3 a4
  | _ => none
def terms_typed_l3 (r_terms_typed : List D → Option D) (n : Nat) (ls : List D) : Option (List D ⊕ (List D ⊕ D)) :=
 obind (binP false .lss (pd ls 5) (pd ls 4)) fun v19 =>
 oif v19 (
 obind (ixP 4 (pd ls 3) (pd ls 5)) fun c20 =>
 obind (atP true 4 0 c20) fun v21 =>
 og (aggP 4 v21) <|
 obind (r_terms_typed [(pd ls 0), (pd ls 1), (D.agg [(celD v21 0), (celD v21 1), (celD v21 2), (celD v21 3)]), (pd ls 2)]) fun v27 =>
 obind (extP 0 v27) fun v28 =>
 obind (extP 1 v27) fun v29 =>
 og (aggP 3 v28) <|
 obind (binP false .neq v29 (eI 0)) fun v31 =>
 oif v31 (
 inrX (
 inrX (
 some (D.tup [(D.agg [(eB false), (eI 0), (eI 0)]), v29])
)
)
) (
 og (aggP 3 (D.agg [(celD v28 0), (celD v28 1), (celD v28 2)])) <|
 og (roomP (((esD (pd ls 13))).length + ([[(celD v28 0), (celD v28 1), (celD v28 2)]]).length) 24) <|
 obind (binP false .add (pd ls 5) (eI 1)) fun v38 =>
 some (.inl [(pd ls 0), (pd ls 1), (pd ls 2), (pd ls 3), (pd ls 4), v38, (pd ls 6), (pd ls 7), (pd ls 8), (pd ls 9), (pd ls 10), (pd ls 11), (pd ls 12), (D.sl 3 ((esD (pd ls 13)) ++ [[(celD v28 0), (celD v28 1), (celD v28 2)]]))])
)
) (
 inrX (
 some (.inl [(pd ls 0), (pd ls 1), (pd ls 2), (pd ls 6), (pd ls 7), (pd ls 8), (pd ls 9), (pd ls 10), (pd ls 11), (pd ls 12), (D.sl 3 (esD (pd ls 13)))])
)
)

def terms_typed (r_terms_typed : List D → Option D) (n : Nat) (a0 : D) (a1 : D) (a2 : D) (a3 : D) : Option D :=
 og (aggP 4 a2) <|
 obind (lenP (celD a2 3)) fun v17 =>
 obind (
 iterL (terms_typed_l3 r_terms_typed n) n [a0, a1, a3, (celD a2 3), v17, (eI 0), (celD a2 0), (celD a2 1), (celD a2 2), (celD a2 3), (eB false), (eI 0), (eI 0), (D.sl 3 [])]
) <| jnX fun ls =>
 obind (terms_partL n [(pd ls 0), (pd ls 1), (D.agg [(pd ls 3), (pd ls 4), (pd ls 5), (pd ls 6)]), (pd ls 2), (D.sl 3 (esD (pd ls 10)))]) fun v44 =>
 og v44.flat <|
 obind (extP 0 v44) fun v45 =>
 obind (extP 1 v44) fun v46 =>
 og (aggP 3 v45) <|
 some (D.tup [(D.agg [(celD v45 0), (celD v45 1), (celD v45 2)]), v46])

def terms_typedL : Nat → List D → Option D
  | 0, _ => none
  | n + 1, ds => match ds with
    | [a0, a1, a2, a3] => terms_typed (terms_typedL n) n a0 a1 a2 a3
    | _ => none
def terms_Type (n : Nat) (a0 : D) (a1 : D) (a2 : D) : Option D :=
 og (aggP 4 a1) <|
 obind (terms_CheckL n [(D.agg [(celD a1 0), (celD a1 1), (celD a1 2), (celD a1 3)])]) fun v10 =>
 obind (binP false .neq v10 (eI 0)) fun v12 =>
 oif v12 (
 some (D.tup [(D.agg [(eB false), (eI 0), (eI 0)]), v10])
) (
 obind (terms_namesL n [a0]) fun v17 =>
 obind (terms_typedL n [a0, v17, (D.agg [(celD a1 0), (celD a1 1), (celD a1 2), (celD a1 3)]), a2]) fun v20 =>
 obind (extP 0 v20) fun v21 =>
 obind (extP 1 v20) fun v22 =>
 og (aggP 3 v21) <|
 some (D.tup [(D.agg [(celD v21 0), (celD v21 1), (celD v21 2)]), v22])
)

def terms_TypeL (n : Nat) : List D → Option D
  | [a0, a1, a2] => terms_Type n a0 a1 a2
  | _ => none
def typing_typed (n : Nat) (a0 : D) (a1 : D) (a2 : D) : Option D :=
 og (aggP 8 a0) <|
 og (aggP 4 a1) <|
 obind (defs_InlineL n [(D.agg [(celD a1 0), (celD a1 1), (celD a1 2), (celD a1 3)]), (celD a0 1)]) fun v14 =>
 obind (extP 0 v14) fun v15 =>
 obind (extP 1 v14) fun v16 =>
 og (aggP 4 v15) <|
 obind (binP false .neq v16 (eI 0)) fun v18 =>
 oif v18 (
 some (D.tup [(D.agg [(eB false), (eI 0), (eI 0)]), v16])
) (
 obind (terms_TypeL n [(celD a0 0), (D.agg [(celD v15 0), (celD v15 1), (celD v15 2), (celD v15 3)]), a2]) fun v25 =>
 obind (extP 0 v25) fun v26 =>
 obind (extP 1 v25) fun v27 =>
 og (aggP 3 v26) <|
 some (D.tup [(D.agg [(celD v26 0), (celD v26 1), (celD v26 2)]), v27])
)

def typing_typedL (n : Nat) : List D → Option D
  | [a0, a1, a2] => typing_typed n a0 a1 a2
  | _ => none
def typing_truth (n : Nat) (a0 : D) (a1 : D) (a2 : D) : Option D :=
 og (aggP 8 a0) <|
 og (aggP 4 a1) <|
 obind (typing_typedL n [(D.agg [(celD a0 0), (celD a0 1), (celD a0 2), (celD a0 3), (celD a0 4), (celD a0 5), (celD a0 6), (celD a0 7)]), (D.agg [(celD a1 0), (celD a1 1), (celD a1 2), (celD a1 3)]), a2]) fun v13 =>
 obind (extP 0 v13) fun v14 =>
 obind (extP 1 v13) fun v15 =>
 og (aggP 3 v14) <|
 obind (binP false .eql v15 (eI 0)) fun v17 =>
 obind (gD v17 true (
 obind (unP .not (celD v14 0)) fun v21 =>
 some v21
)) fun v21 =>
 obind (pickP v17 v21 (eB false)) fun v22 =>
 oif v22 (
 some (eI 13)
) (
 some v15
)

def typing_truthL (n : Nat) : List D → Option D
  | [a0, a1, a2] => typing_truth n a0 a1 a2
  | _ => none
def typing_formula_l4 (r_typing_formula : List D → Option D) (n : Nat) (ls : List D) : Option (List D ⊕ (List D ⊕ D)) :=
 obind (binP false .lss (pd ls 2) (pd ls 1)) fun v19 =>
 oif v19 (
 obind (ixP 6 (pd ls 0) (pd ls 2)) fun c20 =>
 obind (atP true 6 0 c20) fun v21 =>
 og (aggP 6 v21) <|
 obind (r_typing_formula [(D.agg [(pd ls 3), (pd ls 4), (pd ls 5), (pd ls 6), (pd ls 7), (pd ls 8), (pd ls 9), (pd ls 10)]), (D.agg [(celD v21 0), (celD v21 1), (celD v21 2), (celD v21 3), (celD v21 4), (celD v21 5)])]) fun v24 =>
 obind (binP false .neq v24 (eI 0)) fun v26 =>
 oif v26 (
 inrX (
 inrX (
 some v24
)
)
) (
 obind (binP false .add (pd ls 2) (eI 1)) fun v28 =>
 some (.inl [(pd ls 0), (pd ls 1), v28, (pd ls 3), (pd ls 4), (pd ls 5), (pd ls 6), (pd ls 7), (pd ls 8), (pd ls 9), (pd ls 10)])
)
) (
 inrX (
 some (.inl [])
)
)

def typing_formula (r_typing_formula : List D → Option D) (n : Nat) (a0 : D) (a1 : D) : Option D :=
 og (aggP 8 a0) <|
 og (aggP 6 a1) <|
 obind (binP false .eql (celD a1 0) (eI 1)) fun v10 =>
 oif v10 (
 obind (typing_truthL n [(D.agg [(celD a0 0), (celD a0 1), (celD a0 2), (celD a0 3), (celD a0 4), (celD a0 5), (celD a0 6), (celD a0 7)]), (D.agg [(celD a1 1), (celD a1 2), (celD a1 3), (celD a1 4)]), (eB false)]) fun v14 =>
 some v14
) (
 obind (lenP (celD a1 5)) fun v17 =>
 obind (
 iterL (typing_formula_l4 r_typing_formula n) n [(celD a1 5), v17, (eI 0), (celD a0 0), (celD a0 1), (celD a0 2), (celD a0 3), (celD a0 4), (celD a0 5), (celD a0 6), (celD a0 7)]
) <| jnX fun ls =>
 some (eI 0)
)

def typing_formulaL : Nat → List D → Option D
  | 0, _ => none
  | n + 1, ds => match ds with
    | [a0, a1] => typing_formula (typing_formulaL n) n a0 a1
    | _ => none
def typing_specs_wrong (n : Nat) (a0 : D) (a1 : D) (a2 : D) : Option D :=
 og (aggP 8 a1) <|
 obind (ixP 7 a0 a2) fun c11 =>
 obind (atP false 1 0 c11) fun v13 =>
 og (oneP v13) <|
 obind (lexi_IsL n [v13]) fun v16 =>
 obind (unP .not v16) fun v17 =>
 oif v17 (
 some (eI 12)
) (
 obind (subP 7 a0 none (some a2)) fun v21 =>
 obind (slices_ContainsFunc_typing_specs_api_Spec_typing_specs_wrong_1L n [v21, (D.fn (.func fid_typing_specs_wrong_1) [] [(D.ref [v13] 0)])]) fun v23 =>
 og v23.flat <|
 oif v23 (
 some (eI 6)
) (
 obind (ixP 7 a0 a2) fun c26 =>
 obind (atP true 6 1 c26) fun v28 =>
 obind (forms_CheckL n [v28]) fun v29 =>
 obind (binP false .neq v29 (eI 0)) fun v31 =>
 oif v31 (
 some v29
) (
 obind (ixP 7 a0 a2) fun c36 =>
 obind (atP true 6 1 c36) fun v38 =>
 obind (typing_formulaL n [(D.agg [(celD a1 0), (celD a1 1), (celD a1 2), (celD a1 3), (celD a1 4), (celD a1 5), (celD a1 6), (celD a1 7)]), v38]) fun v39 =>
 some v39
)
)
)

def typing_specs_wrongL (n : Nat) : List D → Option D
  | [a0, a1, a2] => typing_specs_wrong n a0 a1 a2
  | _ => none
def typing_nexts_wrong_1 (n : Nat) (a0 : D) (x1 : List D) : Option D :=
 og (aggP 4 a0) <|
 obind (atP false 1 0 x1) fun v6 =>
 obind (binP false .eql (celD a0 0) v6) fun v7 =>
 some v7

def typing_nexts_wrong_1L (n : Nat) : List D → Option D
  | [a0, a1] => (match a1 with | .ref x1 0 => typing_nexts_wrong_1 n a0 x1 | _ => none)
  | _ => none
def slices_IndexFunc_Lapi_Var_api_Var_typing_nexts_wrong_1_l2 (n : Nat) (ls : List D) : Option (List D ⊕ (List D ⊕ D)) :=
 obind (binP false .lss (pd ls 3) (pd ls 2)) fun v9 =>
 oif v9 (
 obind (ixP 4 (pd ls 0) (pd ls 3)) fun c14 =>
 obind (atP true 4 0 c14) fun v15 =>
 obind (typing_nexts_wrong_1L n [v15, (pd ls 1)]) fun v16 =>
 oif v16 (
 inrX (
 inrX (
 some (pd ls 3)
)
)
) (
 obind (binP false .add (pd ls 3) (eI 1)) fun v18 =>
 some (.inl [(pd ls 0), (pd ls 1), (pd ls 2), v18])
)
) (
 inrX (
 some (.inl [])
)
)

def slices_IndexFunc_Lapi_Var_api_Var_typing_nexts_wrong_1 (n : Nat) (a0 : D) (x1_0 : D) : Option D :=
 obind (lenP a0) fun v7 =>
 obind (
 iterL (slices_IndexFunc_Lapi_Var_api_Var_typing_nexts_wrong_1_l2 n) n [a0, x1_0, v7, (eI 0)]
) <| jnX fun ls =>
 some (eI (-1))

def slices_IndexFunc_Lapi_Var_api_Var_typing_nexts_wrong_1L (n : Nat) : List D → Option D
  | [a0, a1] => (match fnOf fid_typing_nexts_wrong_1 a1 with | some [x1_0] => slices_IndexFunc_Lapi_Var_api_Var_typing_nexts_wrong_1 n a0 x1_0 | _ => none)
  | _ => none
def typing_nexts_wrong_2 (n : Nat) (a0 : D) (x1 : List D) : Option D :=
 og (aggP 5 a0) <|
 obind (atP false 1 0 x1) fun v6 =>
 obind (binP false .eql (celD a0 0) v6) fun v7 =>
 some v7

def typing_nexts_wrong_2L (n : Nat) : List D → Option D
  | [a0, a1] => (match a1 with | .ref x1 0 => typing_nexts_wrong_2 n a0 x1 | _ => none)
  | _ => none
def slices_IndexFunc_typing_nexts_api_Def_typing_nexts_wrong_2_l2 (n : Nat) (ls : List D) : Option (List D ⊕ (List D ⊕ D)) :=
 obind (binP false .lss (pd ls 3) (pd ls 2)) fun v9 =>
 oif v9 (
 obind (ixP 5 (pd ls 0) (pd ls 3)) fun c14 =>
 obind (atP true 5 0 c14) fun v15 =>
 obind (typing_nexts_wrong_2L n [v15, (pd ls 1)]) fun v16 =>
 oif v16 (
 inrX (
 inrX (
 some (pd ls 3)
)
)
) (
 obind (binP false .add (pd ls 3) (eI 1)) fun v18 =>
 some (.inl [(pd ls 0), (pd ls 1), (pd ls 2), v18])
)
) (
 inrX (
 some (.inl [])
)
)

def slices_IndexFunc_typing_nexts_api_Def_typing_nexts_wrong_2 (n : Nat) (a0 : D) (x1_0 : D) : Option D :=
 obind (lenP a0) fun v7 =>
 obind (
 iterL (slices_IndexFunc_typing_nexts_api_Def_typing_nexts_wrong_2_l2 n) n [a0, x1_0, v7, (eI 0)]
) <| jnX fun ls =>
 some (eI (-1))

def slices_IndexFunc_typing_nexts_api_Def_typing_nexts_wrong_2L (n : Nat) : List D → Option D
  | [a0, a1] => (match fnOf fid_typing_nexts_wrong_2 a1 with | some [x1_0] => slices_IndexFunc_typing_nexts_api_Def_typing_nexts_wrong_2 n a0 x1_0 | _ => none)
  | _ => none
def slices_ContainsFunc_typing_nexts_api_Def_typing_nexts_wrong_2 (n : Nat) (a0 : D) (x1_0 : D) : Option D :=
 obind (slices_IndexFunc_typing_nexts_api_Def_typing_nexts_wrong_2L n [a0, (D.fn (.func fid_typing_nexts_wrong_2) [] [x1_0])]) fun v7 =>
 obind (binP false .geq v7 (eI 0)) fun v8 =>
 some v8

def slices_ContainsFunc_typing_nexts_api_Def_typing_nexts_wrong_2L (n : Nat) : List D → Option D
  | [a0, a1] => (match fnOf fid_typing_nexts_wrong_2 a1 with | some [x1_0] => slices_ContainsFunc_typing_nexts_api_Def_typing_nexts_wrong_2 n a0 x1_0 | _ => none)
  | _ => none
def typing_nexts_wrong (n : Nat) (a0 : D) (a1 : D) (a2 : D) : Option D :=
 og (aggP 8 a1) <|
 obind (ixP 5 a0 a2) fun c13 =>
 obind (atP false 1 0 c13) fun v15 =>
 og (oneP v15) <|
 obind (slices_IndexFunc_Lapi_Var_api_Var_typing_nexts_wrong_1L n [(celD a1 0), (D.fn (.func fid_typing_nexts_wrong_1) [] [(D.ref [v15] 0)])]) fun v19 =>
 og v19.flat <|
 obind (binP false .lss v19 (eI 0)) fun v22 =>
 oif v22 (
 some (eI 12)
) (
 obind (subP 5 a0 none (some a2)) fun v26 =>
 obind (slices_ContainsFunc_typing_nexts_api_Def_typing_nexts_wrong_2L n [v26, (D.fn (.func fid_typing_nexts_wrong_2) [] [(D.ref [v15] 0)])]) fun v28 =>
 og v28.flat <|
 oif v28 (
 some (eI 6)
) (
 obind (ixP 5 a0 a2) fun c33 =>
 obind (atP true 4 1 c33) fun v35 =>
 obind (typing_typedL n [(D.agg [(celD a1 0), (celD a1 1), (celD a1 2), (celD a1 3), (celD a1 4), (celD a1 5), (celD a1 6), (celD a1 7)]), v35, (eB false)]) fun v36 =>
 obind (extP 0 v36) fun v37 =>
 obind (extP 1 v36) fun v38 =>
 og (aggP 3 v37) <|
 obind (binP false .eql v38 (eI 0)) fun v40 =>
 obind (gD v40 true (
 obind (ixP 4 (celD a1 0) v19) fun c47 =>
 obind (atP false 1 1 c47) fun v49 =>
 obind (binP true .neq (celD v37 0) v49) fun v50 =>
 some v50
)) fun v50 =>
 obind (pickP v40 v50 (eB false)) fun v51 =>
 oif v51 (
 some (eI 13)
) (
 some v38
)
)
)

def typing_nexts_wrongL (n : Nat) : List D → Option D
  | [a0, a1, a2] => typing_nexts_wrong n a0 a1 a2
  | _ => none
def typing_truths_wrong (n : Nat) (a0 : D) (a1 : D) (a2 : D) : Option D :=
 og (aggP 3 a0) <|
 og (aggP 8 a1) <|
 obind (ixP 4 (celD a0 1) a2) fun c11 =>
 obind (atP true 4 0 c11) fun v12 =>
 obind (typing_truthL n [(D.agg [(celD a1 0), (celD a1 1), (celD a1 2), (celD a1 3), (celD a1 4), (celD a1 5), (celD a1 6), (celD a1 7)]), v12, (celD a0 2)]) fun v15 =>
 some v15

def typing_truths_wrongL (n : Nat) : List D → Option D
  | [a0, a1, a2] => typing_truths_wrong n a0 a1 a2
  | _ => none
def typing_meant_wrong (n : Nat) (a0 : D) (a1 : D) (a2 : D) : Option D :=
 og (aggP 8 a1) <|
 obind (ixP 5 a0 a2) fun c13 =>
 obind (atP true 4 1 c13) fun v15 =>
 obind (typing_typedL n [(D.agg [(celD a1 0), (celD a1 1), (celD a1 2), (celD a1 3), (celD a1 4), (celD a1 5), (celD a1 6), (celD a1 7)]), v15, (eB false)]) fun v16 =>
 obind (extP 0 v16) fun v17 =>
 obind (extP 1 v16) fun v18 =>
 og (aggP 3 v17) <|
 some v18

def typing_meant_wrongL (n : Nat) : List D → Option D
  | [a0, a1, a2] => typing_meant_wrong n a0 a1 a2
  | _ => none
def typing_ringed_wrong_1 (n : Nat) (a0 : D) (x1 : List D) : Option D :=
 og (aggP 5 a0) <|
 obind (atP false 1 0 x1) fun v6 =>
 obind (binP false .eql (celD a0 0) v6) fun v7 =>
 some v7

def typing_ringed_wrong_1L (n : Nat) : List D → Option D
  | [a0, a1] => (match a1 with | .ref x1 0 => typing_ringed_wrong_1 n a0 x1 | _ => none)
  | _ => none
def slices_IndexFunc_typing_ringed_api_Def_typing_ringed_wrong_1_l2 (n : Nat) (ls : List D) : Option (List D ⊕ (List D ⊕ D)) :=
 obind (binP false .lss (pd ls 3) (pd ls 2)) fun v9 =>
 oif v9 (
 obind (ixP 5 (pd ls 0) (pd ls 3)) fun c14 =>
 obind (atP true 5 0 c14) fun v15 =>
 obind (typing_ringed_wrong_1L n [v15, (pd ls 1)]) fun v16 =>
 oif v16 (
 inrX (
 inrX (
 some (pd ls 3)
)
)
) (
 obind (binP false .add (pd ls 3) (eI 1)) fun v18 =>
 some (.inl [(pd ls 0), (pd ls 1), (pd ls 2), v18])
)
) (
 inrX (
 some (.inl [])
)
)

def slices_IndexFunc_typing_ringed_api_Def_typing_ringed_wrong_1 (n : Nat) (a0 : D) (x1_0 : D) : Option D :=
 obind (lenP a0) fun v7 =>
 obind (
 iterL (slices_IndexFunc_typing_ringed_api_Def_typing_ringed_wrong_1_l2 n) n [a0, x1_0, v7, (eI 0)]
) <| jnX fun ls =>
 some (eI (-1))

def slices_IndexFunc_typing_ringed_api_Def_typing_ringed_wrong_1L (n : Nat) : List D → Option D
  | [a0, a1] => (match fnOf fid_typing_ringed_wrong_1 a1 with | some [x1_0] => slices_IndexFunc_typing_ringed_api_Def_typing_ringed_wrong_1 n a0 x1_0 | _ => none)
  | _ => none
def typing_ringed_wrong_l7 (n : Nat) (ls : List D) : Option (List D ⊕ (List D ⊕ (List D ⊕ (List D ⊕ (List D ⊕ D))))) :=
 obind (binP false .lss (pd ls 4) (pd ls 3)) fun v38 =>
 oif v38 (
 obind (
 obind (ixP 1 (pd ls 2) (pd ls 4)) fun c39 =>
 obind (atP false 1 0 c39) fun v40 =>
 og (oneP v40) <|
 obind (slices_IndexFunc_typing_ringed_api_Def_typing_ringed_wrong_1L n [(pd ls 0), (D.fn (.func fid_typing_ringed_wrong_1) [] [(D.ref [v40] 0)])]) fun v43 =>
 og v43.flat <|
 obind (binP false .geq v43 (eI 0)) fun v45 =>
 obind (gD v45 true (
 obind (numP ((esD (pd ls 5))).length v43) fun j49 =>
 obind (((esD (pd ls 5)))[j49]?) fun e50 =>
 obind (atP false 1 0 e50) fun v50 =>
 obind (unP .not v50) fun v51 =>
 some v51
)) fun v51 =>
 obind (pickP v45 v51 (eB false)) fun v52 =>
 obind (
 oif v52 (
 obind (numP ((esD (pd ls 5))).length v43) fun j55 =>
 obind (((esD (pd ls 5)))[j55]?) fun w1 =>
 og (oneP v43) <|
 og (roomP (((esD (pd ls 6))).length + ([[v43]]).length) 8) <|
 some (.inl [(pd ls 0), (pd ls 1), (pd ls 2), (pd ls 3), (pd ls 4), (D.sl 1 (((esD (pd ls 5))).set j55 (setSegD w1 0 [(eB true)]))), (D.sl 1 ((esD (pd ls 6)) ++ [[v43]]))])
) (
 some (.inl [(pd ls 0), (pd ls 1), (pd ls 2), (pd ls 3), (pd ls 4), (D.sl 1 (esD (pd ls 5))), (D.sl 1 (esD (pd ls 6)))])
)
) <| jnX fun ls =>
 some (.inl [(pd ls 0), (pd ls 1), (pd ls 2), (pd ls 3), (pd ls 4), (D.sl 1 (esD (pd ls 5))), (D.sl 1 (esD (pd ls 6)))])
) <| jnX fun ls =>
 obind (binP false .add (pd ls 4) (eI 1)) fun v60 =>
 some (.inl [(pd ls 0), (pd ls 1), (pd ls 2), (pd ls 3), v60, (D.sl 1 (esD (pd ls 5))), (D.sl 1 (esD (pd ls 6)))])
) (
 inrX (
 some (.inl [(pd ls 0), (pd ls 1), (D.sl 1 (esD (pd ls 5))), (D.sl 1 (esD (pd ls 6)))])
)
)

def typing_ringed_wrong_l3 (n : Nat) (ls : List D) : Option (List D ⊕ (List D ⊕ D)) :=
 obind (binP false .gtr (eI ((esD (pd ls 3))).length) (eI 0)) fun v21 =>
 oif v21 (
 obind (
 obind (numP ((esD (pd ls 3))).length (eI 0)) fun j27 =>
 obind (((esD (pd ls 3)))[j27]?) fun e28 =>
 obind (atP false 1 0 e28) fun v28 =>
 obind (ixP 5 (pd ls 0) v28) fun c29 =>
 obind (atP true 4 1 c29) fun v31 =>
 obind (terms_NamesL n [v31]) fun v32 =>
 obind (extP 0 v32) fun v33 =>
 obind (extP 1 v32) fun v34 =>
 obind (lenP v33) fun v36 =>
 obind (
 iterL (typing_ringed_wrong_l7 n) n [(pd ls 0), (pd ls 1), v33, v36, (eI 0), (D.sl 1 (esD (pd ls 2))), (D.sl 1 (esD (pd ls 3)))]
) <| jnX fun ls =>
 some (.inl [(pd ls 0), (pd ls 1), (D.sl 1 (esD (pd ls 2))), (D.sl 1 (esD (pd ls 3)))])
) <| jnX fun ls =>
 obind (cutP ((esD (pd ls 3))).length (some (eI 1)) none) fun p23 =>
 og (decide (p23.1 + p23.2 ≤ ((esD (pd ls 3))).length)) <|
 some (.inl [(pd ls 0), (pd ls 1), (D.sl 1 (esD (pd ls 2))), (D.sl 1 ((((esD (pd ls 3))).drop p23.1).take p23.2))])
) (
 inrX (
 some (.inl [(pd ls 1), (D.sl 1 (esD (pd ls 2)))])
)
)

def typing_ringed_wrong (n : Nat) (a0 : D) (a1 : D) (a2 : D) : Option D :=
 og (aggP 8 a1) <|
 obind (lenP a0) fun v15 =>
 obind (makeP 1 v15 v15) fun n16 =>
 og (oneP a2) <|
 obind (
 iterL (typing_ringed_wrong_l3 n) n [a0, a2, (D.sl 1 (List.replicate n16 [(eB false)])), (D.sl 1 [[a2]])]
) <| jnX fun ls =>
 obind (numP ((esD (pd ls 1))).length (pd ls 0)) fun j63 =>
 obind (((esD (pd ls 1)))[j63]?) fun e64 =>
 obind (atP false 1 0 e64) fun v64 =>
 oif v64 (
 some (eI 14)
) (
 some (eI 0)
)

def typing_ringed_wrongL (n : Nat) : List D → Option D
  | [a0, a1, a2] => typing_ringed_wrong n a0 a1 a2
  | _ => none
def typing_named_wrong_1 (n : Nat) (a0 : D) (x1 : List D) : Option D :=
 og (aggP 4 a0) <|
 obind (atP false 1 0 x1) fun v6 =>
 obind (binP false .eql (celD a0 0) v6) fun v7 =>
 some v7

def typing_named_wrong_1L (n : Nat) : List D → Option D
  | [a0, a1] => (match a1 with | .ref x1 0 => typing_named_wrong_1 n a0 x1 | _ => none)
  | _ => none
def slices_IndexFunc_Lapi_Var_api_Var_typing_named_wrong_1_l2 (n : Nat) (ls : List D) : Option (List D ⊕ (List D ⊕ D)) :=
 obind (binP false .lss (pd ls 3) (pd ls 2)) fun v9 =>
 oif v9 (
 obind (ixP 4 (pd ls 0) (pd ls 3)) fun c14 =>
 obind (atP true 4 0 c14) fun v15 =>
 obind (typing_named_wrong_1L n [v15, (pd ls 1)]) fun v16 =>
 oif v16 (
 inrX (
 inrX (
 some (pd ls 3)
)
)
) (
 obind (binP false .add (pd ls 3) (eI 1)) fun v18 =>
 some (.inl [(pd ls 0), (pd ls 1), (pd ls 2), v18])
)
) (
 inrX (
 some (.inl [])
)
)

def slices_IndexFunc_Lapi_Var_api_Var_typing_named_wrong_1 (n : Nat) (a0 : D) (x1_0 : D) : Option D :=
 obind (lenP a0) fun v7 =>
 obind (
 iterL (slices_IndexFunc_Lapi_Var_api_Var_typing_named_wrong_1_l2 n) n [a0, x1_0, v7, (eI 0)]
) <| jnX fun ls =>
 some (eI (-1))

def slices_IndexFunc_Lapi_Var_api_Var_typing_named_wrong_1L (n : Nat) : List D → Option D
  | [a0, a1] => (match fnOf fid_typing_named_wrong_1 a1 with | some [x1_0] => slices_IndexFunc_Lapi_Var_api_Var_typing_named_wrong_1 n a0 x1_0 | _ => none)
  | _ => none
def slices_ContainsFunc_Lapi_Var_api_Var_typing_named_wrong_1 (n : Nat) (a0 : D) (x1_0 : D) : Option D :=
 obind (slices_IndexFunc_Lapi_Var_api_Var_typing_named_wrong_1L n [a0, (D.fn (.func fid_typing_named_wrong_1) [] [x1_0])]) fun v7 =>
 obind (binP false .geq v7 (eI 0)) fun v8 =>
 some v8

def slices_ContainsFunc_Lapi_Var_api_Var_typing_named_wrong_1L (n : Nat) : List D → Option D
  | [a0, a1] => (match fnOf fid_typing_named_wrong_1 a1 with | some [x1_0] => slices_ContainsFunc_Lapi_Var_api_Var_typing_named_wrong_1 n a0 x1_0 | _ => none)
  | _ => none
def typing_named_wrong_2 (n : Nat) (a0 : D) (x1 : List D) : Option D :=
 og (aggP 5 a0) <|
 obind (atP false 1 0 x1) fun v6 =>
 obind (binP false .eql (celD a0 0) v6) fun v7 =>
 some v7

def typing_named_wrong_2L (n : Nat) : List D → Option D
  | [a0, a1] => (match a1 with | .ref x1 0 => typing_named_wrong_2 n a0 x1 | _ => none)
  | _ => none
def slices_IndexFunc_typing_named_api_Def_typing_named_wrong_2_l2 (n : Nat) (ls : List D) : Option (List D ⊕ (List D ⊕ D)) :=
 obind (binP false .lss (pd ls 3) (pd ls 2)) fun v9 =>
 oif v9 (
 obind (ixP 5 (pd ls 0) (pd ls 3)) fun c14 =>
 obind (atP true 5 0 c14) fun v15 =>
 obind (typing_named_wrong_2L n [v15, (pd ls 1)]) fun v16 =>
 oif v16 (
 inrX (
 inrX (
 some (pd ls 3)
)
)
) (
 obind (binP false .add (pd ls 3) (eI 1)) fun v18 =>
 some (.inl [(pd ls 0), (pd ls 1), (pd ls 2), v18])
)
) (
 inrX (
 some (.inl [])
)
)

def slices_IndexFunc_typing_named_api_Def_typing_named_wrong_2 (n : Nat) (a0 : D) (x1_0 : D) : Option D :=
 obind (lenP a0) fun v7 =>
 obind (
 iterL (slices_IndexFunc_typing_named_api_Def_typing_named_wrong_2_l2 n) n [a0, x1_0, v7, (eI 0)]
) <| jnX fun ls =>
 some (eI (-1))

def slices_IndexFunc_typing_named_api_Def_typing_named_wrong_2L (n : Nat) : List D → Option D
  | [a0, a1] => (match fnOf fid_typing_named_wrong_2 a1 with | some [x1_0] => slices_IndexFunc_typing_named_api_Def_typing_named_wrong_2 n a0 x1_0 | _ => none)
  | _ => none
def slices_ContainsFunc_typing_named_api_Def_typing_named_wrong_2 (n : Nat) (a0 : D) (x1_0 : D) : Option D :=
 obind (slices_IndexFunc_typing_named_api_Def_typing_named_wrong_2L n [a0, (D.fn (.func fid_typing_named_wrong_2) [] [x1_0])]) fun v7 =>
 obind (binP false .geq v7 (eI 0)) fun v8 =>
 some v8

def slices_ContainsFunc_typing_named_api_Def_typing_named_wrong_2L (n : Nat) : List D → Option D
  | [a0, a1] => (match fnOf fid_typing_named_wrong_2 a1 with | some [x1_0] => slices_ContainsFunc_typing_named_api_Def_typing_named_wrong_2 n a0 x1_0 | _ => none)
  | _ => none
def typing_named_wrong (n : Nat) (a0 : D) (a1 : D) (a2 : D) : Option D :=
 og (aggP 8 a1) <|
 obind (ixP 5 a0 a2) fun c10 =>
 obind (atP false 1 0 c10) fun v12 =>
 og (oneP v12) <|
 obind (lexi_IsL n [v12]) fun v15 =>
 obind (unP .not v15) fun v16 =>
 oif v16 (
 some (eI 12)
) (
 obind (slices_ContainsFunc_Lapi_Var_api_Var_typing_named_wrong_1L n [(celD a1 0), (D.fn (.func fid_typing_named_wrong_1) [] [(D.ref [v12] 0)])]) fun v21 =>
 og v21.flat <|
 obind (
 oif v21 (
 some (.inl [v21])
) (
 obind (subP 5 a0 none (some a2)) fun v24 =>
 obind (slices_ContainsFunc_typing_named_api_Def_typing_named_wrong_2L n [v24, (D.fn (.func fid_typing_named_wrong_2) [] [(D.ref [v12] 0)])]) fun v26 =>
 og v26.flat <|
 some (.inl [v26])
)
) <| jnX fun ls =>
 oif (pd ls 0) (
 some (eI 6)
) (
 some (eI 0)
)
)

def typing_named_wrongL (n : Nat) : List D → Option D
  | [a0, a1, a2] => typing_named_wrong n a0 a1 a2
  | _ => none
def typing_specs_kind (n : Nat) (a0 : D) : Option D :=
 some (eI 8)

def typing_specs_kindL (n : Nat) : List D → Option D
  | [a0] => typing_specs_kind n a0
  | _ => none
def typing_nexts_kind (n : Nat) (a0 : D) : Option D :=
 some (eI 5)

def typing_nexts_kindL (n : Nat) : List D → Option D
  | [a0] => typing_nexts_kind n a0
  | _ => none
def typing_truths_kind (n : Nat) (a0 : D) : Option D :=
 og (aggP 3 a0) <|
 some (celD a0 0)

def typing_truths_kindL (n : Nat) : List D → Option D
  | [a0] => typing_truths_kind n a0
  | _ => none
def typing_meant_kind (n : Nat) (a0 : D) : Option D :=
 some (eI 2)

def typing_meant_kindL (n : Nat) : List D → Option D
  | [a0] => typing_meant_kind n a0
  | _ => none
def typing_ringed_kind (n : Nat) (a0 : D) : Option D :=
 some (eI 2)

def typing_ringed_kindL (n : Nat) : List D → Option D
  | [a0] => typing_ringed_kind n a0
  | _ => none
def typing_named_kind (n : Nat) (a0 : D) : Option D :=
 some (eI 2)

def typing_named_kindL (n : Nat) : List D → Option D
  | [a0] => typing_named_kind n a0
  | _ => none
def typing_Check_l2 (n : Nat) (ls : List D) : Option (List D ⊕ (List D ⊕ D)) :=
 obind (binP false .lss (pd ls 1) (eI 8)) fun v38 =>
 oif v38 (
 obind (numP 8 (pd ls 1)) fun j40 =>
 obind (fldP false 1 (j40 * 1) (pd ls 0)) fun v40 =>
 obind (binP false .gtr v40 (eI 64)) fun v42 =>
 oif v42 (
 obind (binP false .add (eI 1) (pd ls 1)) fun v44 =>
 og (oneP v44) <|
 og (aggP 2 (D.agg [v44, (eI 64)])) <|
 inrX (
 inrX (
 some (D.tup [(D.agg [v44, (eI 64)]), (eI 18)])
)
)
) (
 obind (binP false .add (pd ls 1) (eI 1)) fun v46 =>
 some (.inl [(pd ls 0), v46, (pd ls 2), (pd ls 3), (pd ls 4), (pd ls 5), (pd ls 6), (pd ls 7), (pd ls 8), (pd ls 9), (pd ls 10), (pd ls 11)])
)
) (
 inrX (
 some (.inl [(pd ls 2), (pd ls 3), (pd ls 4), (pd ls 5), (pd ls 6), (pd ls 7), (pd ls 8), (pd ls 9), (pd ls 10), (pd ls 11)])
)
)

def typing_Check_l16 (n : Nat) (ls : List D) : Option (List D ⊕ (List D ⊕ (List D ⊕ (List D ⊕ (List D ⊕ D))))) :=
 obind (binP false .lss (pd ls 4) (pd ls 3)) fun v100 =>
 oif v100 (
 obind (ifcP (pd ls 0)) fun q105 =>
 obind (ifT q105.1 69 (typing_named_wrongL n [q105.2, (D.agg [(pd ls 5), (pd ls 6), (pd ls 7), (pd ls 8), (pd ls 9), (pd ls 10), (pd ls 11), (pd ls 12)]), (pd ls 4)]) (ifT q105.1 70 (typing_ringed_wrongL n [q105.2, (D.agg [(pd ls 5), (pd ls 6), (pd ls 7), (pd ls 8), (pd ls 9), (pd ls 10), (pd ls 11), (pd ls 12)]), (pd ls 4)]) (ifT q105.1 71 (typing_meant_wrongL n [q105.2, (D.agg [(pd ls 5), (pd ls 6), (pd ls 7), (pd ls 8), (pd ls 9), (pd ls 10), (pd ls 11), (pd ls 12)]), (pd ls 4)]) (ifT q105.1 73 (typing_truths_wrongL n [q105.2, (D.agg [(pd ls 5), (pd ls 6), (pd ls 7), (pd ls 8), (pd ls 9), (pd ls 10), (pd ls 11), (pd ls 12)]), (pd ls 4)]) (ifT q105.1 74 (typing_nexts_wrongL n [q105.2, (D.agg [(pd ls 5), (pd ls 6), (pd ls 7), (pd ls 8), (pd ls 9), (pd ls 10), (pd ls 11), (pd ls 12)]), (pd ls 4)]) (ifT q105.1 75 (typing_specs_wrongL n [q105.2, (D.agg [(pd ls 5), (pd ls 6), (pd ls 7), (pd ls 8), (pd ls 9), (pd ls 10), (pd ls 11), (pd ls 12)]), (pd ls 4)]) (none))))))) fun v105 =>
 obind (binP false .neq v105 (eI 0)) fun v107 =>
 oif v107 (
 obind (ifcP (pd ls 0)) fun q109 =>
 obind (ifT q109.1 69 (typing_named_kindL n [q109.2]) (ifT q109.1 70 (typing_ringed_kindL n [q109.2]) (ifT q109.1 71 (typing_meant_kindL n [q109.2]) (ifT q109.1 73 (typing_truths_kindL n [q109.2]) (ifT q109.1 74 (typing_nexts_kindL n [q109.2]) (ifT q109.1 75 (typing_specs_kindL n [q109.2]) (none))))))) fun v109 =>
 og (oneP v109) <|
 og (oneP (pd ls 4)) <|
 og (aggP 2 (D.agg [v109, (pd ls 4)])) <|
 inrX (
 inrX (
 inrX (
 inrX (
 inrX (
 some (D.tup [(D.agg [v109, (pd ls 4)]), v105])
)
)
)
)
)
) (
 obind (binP false .add (pd ls 4) (eI 1)) fun v113 =>
 some (.inl [(pd ls 0), (pd ls 1), (pd ls 2), (pd ls 3), v113, (pd ls 5), (pd ls 6), (pd ls 7), (pd ls 8), (pd ls 9), (pd ls 10), (pd ls 11), (pd ls 12), (pd ls 13), (pd ls 14)])
)
) (
 inrX (
 some (.inl [(pd ls 1), (pd ls 2), (pd ls 5), (pd ls 6), (pd ls 7), (pd ls 8), (pd ls 9), (pd ls 10), (pd ls 11), (pd ls 12), (pd ls 13), (pd ls 14)])
)
)

def typing_Check_l13 (n : Nat) (ls : List D) : Option (List D ⊕ (List D ⊕ D)) :=
 obind (binP false .lss (pd ls 1) (eI 9)) fun v95 =>
 oif v95 (
 obind (
 obind (numP 9 (pd ls 1)) fun j96 =>
 obind (fldP false 1 (j96 * 1) (pd ls 0)) fun v96 =>
 obind (ifcP v96) fun q98 =>
 obind (ifT q98.1 69 (typing_named_manyL n [q98.2]) (ifT q98.1 70 (typing_ringed_manyL n [q98.2]) (ifT q98.1 71 (typing_meant_manyL n [q98.2]) (ifT q98.1 73 (typing_truths_manyL n [q98.2]) (ifT q98.1 74 (typing_nexts_manyL n [q98.2]) (ifT q98.1 75 (typing_specs_manyL n [q98.2]) (none))))))) fun v98 =>
 obind (
 iterL (typing_Check_l16 n) n [v96, (pd ls 0), (pd ls 1), v98, (eI 0), (pd ls 2), (pd ls 3), (pd ls 4), (pd ls 5), (pd ls 6), (pd ls 7), (pd ls 8), (pd ls 9), (pd ls 10), (pd ls 11)]
) <| jnX fun ls =>
 some (.inl [(pd ls 0), (pd ls 1), (pd ls 2), (pd ls 3), (pd ls 4), (pd ls 5), (pd ls 6), (pd ls 7), (pd ls 8), (pd ls 9), (pd ls 10), (pd ls 11)])
) <| jnX fun ls =>
 obind (binP false .add (pd ls 1) (eI 1)) fun v114 =>
 some (.inl [(pd ls 0), v114, (pd ls 2), (pd ls 3), (pd ls 4), (pd ls 5), (pd ls 6), (pd ls 7), (pd ls 8), (pd ls 9), (pd ls 10), (pd ls 11)])
) (
 inrX (
 some (.inl [(pd ls 10), (pd ls 11)])
)
)

def typing_Check (n : Nat) (a0 : D) : Option D :=
 og (aggP 8 a0) <|
 obind (lenP (celD a0 0)) fun v14 =>
 obind (lenP (celD a0 1)) fun v17 =>
 obind (lenP (celD a0 2)) fun v20 =>
 obind (lenP (celD a0 3)) fun v23 =>
 obind (lenP (celD a0 4)) fun v26 =>
 obind (lenP (celD a0 5)) fun v29 =>
 obind (lenP (celD a0 6)) fun v32 =>
 obind (lenP (celD a0 7)) fun v35 =>
 og (oneP v14) <|
 og (oneP v17) <|
 og (oneP v20) <|
 og (oneP v23) <|
 og (oneP v26) <|
 og (oneP v29) <|
 og (oneP v32) <|
 og (oneP v35) <|
 obind (
 iterL (typing_Check_l2 n) n [(D.agg [v14, v17, v20, v23, v26, v29, v32, v35]), (eI 0), (celD a0 0), (celD a0 1), (celD a0 2), (celD a0 3), (celD a0 4), (celD a0 5), (celD a0 6), (celD a0 7), (eI 0), (eI 0)]
) <| jnX fun ls =>
 obind (typing_VarsL n [(pd ls 0)]) fun v50 =>
 obind (extP 0 v50) fun v51 =>
 obind (extP 1 v50) fun v52 =>
 obind (binP false .neq v52 (eI 0)) fun v54 =>
 oif v54 (
 og (oneP v51) <|
 og (aggP 2 (D.agg [(eI 1), v51])) <|
 some (D.tup [(D.agg [(eI 1), v51]), v52])
) (
 obind (typing_BitsL n [(D.agg [(pd ls 0), (pd ls 1), (pd ls 2), (pd ls 3), (pd ls 4), (pd ls 5), (pd ls 6), (pd ls 7)])]) fun v59 =>
 obind (binP false .gtr v59 (eI 30)) fun v60 =>
 oif v60 (
 some (D.tup [(D.agg [(eI 1), (eI 0)]), (eI 18)])
) (
 og (oneP (pd ls 2)) <|
 og (oneP (pd ls 3)) <|
 og (oneP (pd ls 5)) <|
 og (oneP (pd ls 6)) <|
 og (oneP (D.ifc 69 (pd ls 1))) <|
 og (oneP (D.ifc 70 (pd ls 1))) <|
 og (oneP (D.ifc 71 (pd ls 1))) <|
 og (oneP (D.ifc 73 (D.agg [(eI 3), (pd ls 2), (eB false)]))) <|
 og (oneP (D.ifc 73 (D.agg [(eI 4), (pd ls 3), (eB false)]))) <|
 og (oneP (D.ifc 74 (pd ls 4))) <|
 og (oneP (D.ifc 73 (D.agg [(eI 6), (pd ls 5), (eB true)]))) <|
 og (oneP (D.ifc 73 (D.agg [(eI 7), (pd ls 6), (eB false)]))) <|
 og (oneP (D.ifc 75 (pd ls 7))) <|
 obind (
 iterL (typing_Check_l13 n) n [(D.agg [(D.ifc 69 (pd ls 1)), (D.ifc 70 (pd ls 1)), (D.ifc 71 (pd ls 1)), (D.ifc 73 (D.agg [(eI 3), (pd ls 2), (eB false)])), (D.ifc 73 (D.agg [(eI 4), (pd ls 3), (eB false)])), (D.ifc 74 (pd ls 4)), (D.ifc 73 (D.agg [(eI 6), (pd ls 5), (eB true)])), (D.ifc 73 (D.agg [(eI 7), (pd ls 6), (eB false)])), (D.ifc 75 (pd ls 7))]), (eI 0), (pd ls 0), (pd ls 1), (pd ls 2), (pd ls 3), (pd ls 4), (pd ls 5), (pd ls 6), (pd ls 7), (pd ls 8), (pd ls 9)]
) <| jnX fun ls =>
 some (D.tup [(D.agg [(eI 0), (eI 0)]), (eI 0)])
)
)

def typing_CheckL (n : Nat) : List D → Option D
  | [a0] => typing_Check n a0
  | _ => none
def typing_States_l3 (n : Nat) (ls : List D) : Option (List D ⊕ (List D ⊕ D)) :=
 obind (binP false .lss (pd ls 4) (pd ls 3)) fun v13 =>
 oif v13 (
 obind (
 obind (ixP 4 (pd ls 2) (pd ls 4)) fun c14 =>
 obind (atP true 4 0 c14) fun v15 =>
 og (aggP 4 v15) <|
 obind (typing_SpanL n [(D.agg [(celD v15 0), (celD v15 1), (celD v15 2), (celD v15 3)])]) fun v17 =>
 obind (gD (pd ls 1) false (
 obind (binP false .eql v17 (eI 0)) fun v21 =>
 some v21
)) fun v21 =>
 obind (pickP (pd ls 1) (eB true) v21) fun v22 =>
 obind (binP false .leq (pd ls 0) (eI 1073741824)) fun v24 =>
 obind (
 oif v24 (
 obind (mmP true [v17, (eI 1)]) fun v27 =>
 obind (binP false .mul (pd ls 0) v27) fun v28 =>
 some (.inl [v28, v22, (pd ls 2), (pd ls 3), (pd ls 4)])
) (
 some (.inl [(pd ls 0), v22, (pd ls 2), (pd ls 3), (pd ls 4)])
)
) <| jnX fun ls =>
 some (.inl [(pd ls 0), (pd ls 1), (pd ls 2), (pd ls 3), (pd ls 4)])
) <| jnX fun ls =>
 obind (binP false .add (pd ls 4) (eI 1)) fun v29 =>
 some (.inl [(pd ls 0), (pd ls 1), (pd ls 2), (pd ls 3), v29])
) (
 inrX (
 some (.inl [(pd ls 0), (pd ls 1)])
)
)

def typing_States (n : Nat) (a0 : D) : Option D :=
 og (aggP 8 a0) <|
 obind (lenP (celD a0 0)) fun v11 =>
 obind (
 iterL (typing_States_l3 n) n [(eI 1), (eB false), (celD a0 0), v11, (eI 0)]
) <| jnX fun ls =>
 oif (pd ls 1) (
 some (D.tup [(eI 0), (eB true)])
) (
 obind (binP false .gtr (pd ls 0) (eI 1073741824)) fun v34 =>
 oif v34 (
 some (D.tup [(eI 0), (eB false)])
) (
 some (D.tup [(pd ls 0), (eB true)])
)
)

def typing_StatesL (n : Nat) : List D → Option D
  | [a0] => typing_States n a0
  | _ => none
def typing_Is_l4 (n : Nat) (ls : List D) : Option (List D ⊕ (List D ⊕ D)) :=
 obind (binP false .lss (pd ls 3) (pd ls 2)) fun v19 =>
 oif v19 (
 obind (ixP 4 (pd ls 1) (pd ls 3)) fun c21 =>
 obind (atP true 4 0 c21) fun v22 =>
 og (aggP 4 v22) <|
 obind (
 oif (celD v22 1) (
 some (.inl [(pd ls 0), (pd ls 3), (eI 0), (eI 1), (pd ls 1), (pd ls 2), (pd ls 3)])
) (
 some (.inl [(pd ls 0), (pd ls 3), (celD v22 2), (celD v22 3), (pd ls 1), (pd ls 2), (pd ls 3)])
)
) <| jnX fun ls =>
 obind (ixP 1 (pd ls 0) (pd ls 1)) fun c31 =>
 obind (atP false 1 0 c31) fun v32 =>
 obind (binP false .lss v32 (pd ls 2)) fun v34 =>
 obind (gD v34 false (
 obind (ixP 1 (pd ls 0) (pd ls 1)) fun c38 =>
 obind (atP false 1 0 c38) fun v39 =>
 obind (binP false .gtr v39 (pd ls 3)) fun v41 =>
 some v41
)) fun v41 =>
 obind (pickP v34 (eB true) v41) fun v42 =>
 oif v42 (
 inrX (
 inrX (
 some (eB false)
)
)
) (
 obind (binP false .add (pd ls 6) (eI 1)) fun v43 =>
 some (.inl [(pd ls 0), (pd ls 4), (pd ls 5), v43])
)
) (
 inrX (
 some (.inl [])
)
)

def typing_Is (n : Nat) (a0 : D) (a1 : D) : Option D :=
 og (aggP 8 a0) <|
 obind (lenP a1) fun v10 =>
 obind (lenP (celD a0 0)) fun v13 =>
 obind (binP false .neq v10 v13) fun v14 =>
 oif v14 (
 some (eB false)
) (
 obind (lenP (celD a0 0)) fun v17 =>
 obind (
 iterL (typing_Is_l4 n) n [a1, (celD a0 0), v17, (eI 0)]
) <| jnX fun ls =>
 some (eB true)
)

def typing_IsL (n : Nat) : List D → Option D
  | [a0, a1] => typing_Is n a0 a1
  | _ => none
def law36_lives (n : Nat) : Option D :=
 obind (law36_counterL n []) fun v10 =>
 og (aggP 8 v10) <|
 obind (typing_CheckL n [(D.agg [(celD v10 0), (celD v10 1), (celD v10 2), (celD v10 3), (celD v10 4), (celD v10 5), (celD v10 6), (celD v10 7)])]) fun v13 =>
 obind (extP 0 v13) fun v14 =>
 obind (extP 1 v13) fun v15 =>
 og (aggP 2 v14) <|
 obind (typing_StatesL n [(D.agg [(celD v10 0), (celD v10 1), (celD v10 2), (celD v10 3), (celD v10 4), (celD v10 5), (celD v10 6), (celD v10 7)])]) fun v18 =>
 obind (extP 0 v18) fun v19 =>
 obind (extP 1 v18) fun v20 =>
 obind (eqvP [.int .i64, .int .i64] .neq (D.agg [(celD v14 0), (celD v14 1)]) (D.agg [(eI 0), (eI 0)])) fun v23 =>
 obind (gD v23 false (
 obind (binP false .neq v15 (eI 0)) fun v26 =>
 some v26
)) fun v26 =>
 obind (pickP v23 (eB true) v26) fun v27 =>
 obind (gD v27 false (
 obind (binP false .neq v19 (eI 3)) fun v30 =>
 some v30
)) fun v30 =>
 obind (pickP v27 (eB true) v30) fun v31 =>
 obind (gD v31 false (
 obind (unP .not v20) fun v34 =>
 some v34
)) fun v34 =>
 obind (pickP v31 (eB true) v34) fun v35 =>
 obind (gD v35 false (
 obind (typing_BitsL n [(D.agg [(celD v10 0), (celD v10 1), (celD v10 2), (celD v10 3), (celD v10 4), (celD v10 5), (celD v10 6), (celD v10 7)])]) fun v38 =>
 obind (binP false .neq v38 (eI 2)) fun v39 =>
 some v39
)) fun v39 =>
 obind (pickP v35 (eB true) v39) fun v40 =>
 obind (gD v40 false (
 obind (typing_IsL n [(D.agg [(celD v10 0), (celD v10 1), (celD v10 2), (celD v10 3), (celD v10 4), (celD v10 5), (celD v10 6), (celD v10 7)]), (D.sl 1 [[(eI 2)]])]) fun v44 =>
 og v44.flat <|
 obind (unP .not v44) fun v45 =>
 some v45
)) fun v45 =>
 obind (pickP v40 (eB true) v45) fun v46 =>
 oif v46 (
 some (eB false)
) (
 obind (law36_nameL n [(eS ⟨#[110]⟩)]) fun v47 =>
 og (aggP 4 v47) <|
 obind (typing_CheckL n [(D.agg [(celD v10 0), (celD v10 1), (D.sl 4 [[(celD v47 0), (celD v47 1), (celD v47 2), (celD v47 3)]]), (celD v10 3), (celD v10 4), (celD v10 5), (celD v10 6), (celD v10 7)])]) fun v52 =>
 og v52.flat <|
 obind (extP 0 v52) fun v53 =>
 obind (extP 1 v52) fun v54 =>
 og (aggP 2 v53) <|
 obind (law36_nameL n [(eS ⟨#[98]⟩)]) fun v55 =>
 og (aggP 4 v55) <|
 obind (law36_nameL n [(eS ⟨#[97]⟩)]) fun v57 =>
 og (aggP 4 v57) <|
 og (aggP 5 (D.agg [(eS ⟨#[97]⟩), (celD v55 0), (celD v55 1), (celD v55 2), (celD v55 3)])) <|
 og (aggP 5 (D.agg [(eS ⟨#[98]⟩), (celD v57 0), (celD v57 1), (celD v57 2), (celD v57 3)])) <|
 obind (typing_CheckL n [(D.agg [(celD v10 0), (D.sl 5 [[(eS ⟨#[97]⟩), (celD v55 0), (celD v55 1), (celD v55 2), (celD v55 3)], [(eS ⟨#[98]⟩), (celD v57 0), (celD v57 1), (celD v57 2), (celD v57 3)]]), (D.sl 4 [[(celD v47 0), (celD v47 1), (celD v47 2), (celD v47 3)]]), (celD v10 3), (celD v10 4), (celD v10 5), (celD v10 6), (celD v10 7)])]) fun v63 =>
 og v63.flat <|
 obind (extP 0 v63) fun v64 =>
 obind (extP 1 v63) fun v65 =>
 og (aggP 2 v64) <|
 obind (eqvP [.int .i64, .int .i64] .eql (D.agg [(celD v53 0), (celD v53 1)]) (D.agg [(eI 3), (eI 0)])) fun v68 =>
 obind (gD v68 true (
 obind (binP false .eql v54 (eI 13)) fun v71 =>
 some v71
)) fun v71 =>
 obind (pickP v68 v71 (eB false)) fun v72 =>
 obind (gD v72 true (
 obind (eqvP [.int .i64, .int .i64] .eql (D.agg [(celD v64 0), (celD v64 1)]) (D.agg [(eI 2), (eI 0)])) fun v76 =>
 some v76
)) fun v76 =>
 obind (pickP v72 v76 (eB false)) fun v77 =>
 obind (gD v77 true (
 obind (binP false .eql v65 (eI 14)) fun v80 =>
 some v80
)) fun v80 =>
 obind (pickP v77 v80 (eB false)) fun v81 =>
 some v81
)

def law36_livesL (n : Nat) : List D → Option D
  | [] => law36_lives n
  | _ => none
def ref36_terms_l2 (r_ref36_terms : List D → Option D) (n : Nat) (ls : List D) : Option (List D ⊕ (List D ⊕ D)) :=
 obind (lenP (pd ls 0)) fun v8 =>
 obind (binP false .lss (pd ls 2) v8) fun v9 =>
 obind (gD v9 true (
 obind (binP false .geq (pd ls 1) (eI 0)) fun v12 =>
 some v12
)) fun v12 =>
 obind (pickP v9 v12 (eB false)) fun v13 =>
 oif v13 (
 obind (ixP 4 (pd ls 0) (pd ls 2)) fun c18 =>
 obind (atP false 1 3 c18) fun v20 =>
 obind (binP false .sub (pd ls 1) (eI 1)) fun v22 =>
 obind (r_ref36_terms [v20, v22]) fun v23 =>
 obind (binP false .add (pd ls 2) (eI 1)) fun v15 =>
 some (.inl [(pd ls 0), v23, v15])
) (
 inrX (
 some (.inl [(pd ls 1)])
)
)

def ref36_terms (r_ref36_terms : List D → Option D) (n : Nat) (a0 : D) (a1 : D) : Option D :=
 obind (
 iterL (ref36_terms_l2 r_ref36_terms n) n [a0, a1, (eI 0)]
) <| jnX fun ls =>
 some (pd ls 0)

def ref36_termsL : Nat → List D → Option D
  | 0, _ => none
  | n + 1, ds => match ds with
    | [a0, a1] => ref36_terms (ref36_termsL n) n a0 a1
    | _ => none
def ref32_terms_l2 (r_ref32_terms : List D → Option D) (n : Nat) (ls : List D) : Option (List D ⊕ (List D ⊕ D)) :=
 obind (lenP (pd ls 5)) fun v9 =>
 obind (binP false .lss (pd ls 1) v9) fun v10 =>
 obind (gD v10 true (
 obind (binP false .geq (pd ls 0) (eI 0)) fun v13 =>
 some v13
)) fun v13 =>
 obind (pickP v10 v13 (eB false)) fun v14 =>
 oif v14 (
 obind (ixP 4 (pd ls 5) (pd ls 1)) fun c20 =>
 obind (atP true 4 0 c20) fun v21 =>
 obind (binP false .sub (pd ls 0) (eI 1)) fun v23 =>
 obind (r_ref32_terms [v21, v23]) fun v24 =>
 obind (binP false .add (pd ls 1) (eI 1)) fun v16 =>
 some (.inl [v24, v16, (pd ls 2), (pd ls 3), (pd ls 4), (pd ls 5)])
) (
 inrX (
 some (.inl [(pd ls 0)])
)
)

def ref32_terms (r_ref32_terms : List D → Option D) (n : Nat) (a0 : D) (a1 : D) : Option D :=
 og (aggP 4 a0) <|
 obind (
 iterL (ref32_terms_l2 r_ref32_terms n) n [a1, (eI 0), (celD a0 0), (celD a0 1), (celD a0 2), (celD a0 3)]
) <| jnX fun ls =>
 some (pd ls 0)

def ref32_termsL : Nat → List D → Option D
  | 0, _ => none
  | n + 1, ds => match ds with
    | [a0, a1] => ref32_terms (ref32_termsL n) n a0 a1
    | _ => none
def ref32_left_l3 (r_ref32_left : List D → Option D) (n : Nat) (ls : List D) : Option (List D ⊕ (List D ⊕ D)) :=
 obind (lenP (pd ls 7)) fun v14 =>
 obind (binP false .lss (pd ls 1) v14) fun v15 =>
 obind (gD v15 true (
 obind (binP false .geq (pd ls 0) (eI 0)) fun v18 =>
 some v18
)) fun v18 =>
 obind (pickP v15 v18 (eB false)) fun v19 =>
 oif v19 (
 obind (ixP 6 (pd ls 7) (pd ls 1)) fun c25 =>
 obind (atP true 6 0 c25) fun v26 =>
 obind (r_ref32_left [v26, (pd ls 0)]) fun v28 =>
 obind (binP false .add (pd ls 1) (eI 1)) fun v21 =>
 some (.inl [v28, v21, (pd ls 2), (pd ls 3), (pd ls 4), (pd ls 5), (pd ls 6), (pd ls 7)])
) (
 inrX (
 some (.inl [(pd ls 0)])
)
)

def ref32_left (r_ref32_left : List D → Option D) (n : Nat) (a0 : D) (a1 : D) : Option D :=
 og (aggP 6 a0) <|
 obind (binP false .sub a1 (eI 1)) fun v9 =>
 obind (ref32_termsL n [(D.agg [(celD a0 1), (celD a0 2), (celD a0 3), (celD a0 4)]), v9]) fun v10 =>
 obind (
 iterL (ref32_left_l3 r_ref32_left n) n [v10, (eI 0), (celD a0 0), (celD a0 1), (celD a0 2), (celD a0 3), (celD a0 4), (celD a0 5)]
) <| jnX fun ls =>
 some (pd ls 0)

def ref32_leftL : Nat → List D → Option D
  | 0, _ => none
  | n + 1, ds => match ds with
    | [a0, a1] => ref32_left (ref32_leftL n) n a0 a1
    | _ => none
def ref32_Many (n : Nat) (a0 : D) (a1 : D) : Option D :=
 og (aggP 6 a0) <|
 obind (ref32_leftL n [(D.agg [(celD a0 0), (celD a0 1), (celD a0 2), (celD a0 3), (celD a0 4), (celD a0 5)]), a1]) fun v7 =>
 obind (binP false .geq v7 (eI 0)) fun v8 =>
 some v8

def ref32_ManyL (n : Nat) : List D → Option D
  | [a0, a1] => ref32_Many n a0 a1
  | _ => none
def ref36_Small_l8 (n : Nat) (ls : List D) : Option (List D ⊕ (List D ⊕ D)) :=
 obind (lenP (pd ls 3)) fun v71 =>
 obind (binP false .lss (pd ls 1) v71) fun v72 =>
 obind (gD v72 true (
 obind (binP false .geq (pd ls 0) (eI 0)) fun v75 =>
 some v75
)) fun v75 =>
 obind (pickP v72 v75 (eB false)) fun v76 =>
 oif v76 (
 obind (ixP 5 (pd ls 3) (pd ls 1)) fun c82 =>
 obind (atP true 4 1 c82) fun v84 =>
 og (aggP 4 v84) <|
 obind (ref36_termsL n [(D.sl 4 [[(celD v84 0), (celD v84 1), (celD v84 2), (celD v84 3)]]), (pd ls 0)]) fun v87 =>
 og v87.flat <|
 obind (binP false .add (pd ls 1) (eI 1)) fun v78 =>
 some (.inl [v87, v78, (pd ls 2), (pd ls 3), (pd ls 4), (pd ls 5), (pd ls 6), (pd ls 7), (pd ls 8), (pd ls 9)])
) (
 inrX (
 some (.inl [(pd ls 0), (pd ls 2), (pd ls 3), (pd ls 4), (pd ls 5), (pd ls 6), (pd ls 7), (pd ls 8), (pd ls 9)])
)
)

def ref36_Small_l12 (n : Nat) (ls : List D) : Option (List D ⊕ (List D ⊕ D)) :=
 obind (lenP (pd ls 6)) fun v91 =>
 obind (binP false .lss (pd ls 1) v91) fun v92 =>
 obind (gD v92 true (
 obind (binP false .geq (pd ls 0) (eI 0)) fun v95 =>
 some v95
)) fun v95 =>
 obind (pickP v92 v95 (eB false)) fun v96 =>
 oif v96 (
 obind (ixP 5 (pd ls 6) (pd ls 1)) fun c102 =>
 obind (atP true 4 1 c102) fun v104 =>
 og (aggP 4 v104) <|
 obind (ref36_termsL n [(D.sl 4 [[(celD v104 0), (celD v104 1), (celD v104 2), (celD v104 3)]]), (pd ls 0)]) fun v107 =>
 og v107.flat <|
 obind (binP false .add (pd ls 1) (eI 1)) fun v98 =>
 some (.inl [v107, v98, (pd ls 2), (pd ls 3), (pd ls 4), (pd ls 5), (pd ls 6), (pd ls 7), (pd ls 8), (pd ls 9)])
) (
 inrX (
 some (.inl [(pd ls 0), (pd ls 2), (pd ls 3), (pd ls 4), (pd ls 5), (pd ls 6), (pd ls 7), (pd ls 8), (pd ls 9)])
)
)

def ref36_Small_l16 (n : Nat) (ls : List D) : Option (List D ⊕ (List D ⊕ D)) :=
 obind (lenP (pd ls 9)) fun v111 =>
 obind (binP false .lss (pd ls 1) v111) fun v112 =>
 obind (gD v112 true (
 obind (binP false .geq (pd ls 0) (eI 0)) fun v115 =>
 some v115
)) fun v115 =>
 obind (pickP v112 v115 (eB false)) fun v116 =>
 oif v116 (
 obind (ixP 7 (pd ls 9) (pd ls 1)) fun c122 =>
 obind (atP true 6 1 c122) fun v124 =>
 obind (ref32_ManyL n [v124, (eI 200)]) fun v125 =>
 obind (unP .not v125) fun v126 =>
 oif v126 (
 inrX (
 inrX (
 some (eB false)
)
)
) (
 obind (binP false .sub (pd ls 0) (eI 10)) fun v128 =>
 obind (binP false .add (pd ls 1) (eI 1)) fun v118 =>
 some (.inl [v128, v118, (pd ls 2), (pd ls 3), (pd ls 4), (pd ls 5), (pd ls 6), (pd ls 7), (pd ls 8), (pd ls 9)])
)
) (
 inrX (
 some (.inl [(pd ls 0)])
)
)

def ref36_Small (n : Nat) (a0 : D) : Option D :=
 og (aggP 8 a0) <|
 obind (lenP (celD a0 0)) fun v9 =>
 obind (binP false .gtr v9 (eI 70)) fun v10 =>
 obind (gD v10 false (
 obind (lenP (celD a0 1)) fun v14 =>
 obind (binP false .gtr v14 (eI 70)) fun v15 =>
 some v15
)) fun v15 =>
 obind (pickP v10 (eB true) v15) fun v16 =>
 obind (gD v16 false (
 obind (lenP (celD a0 2)) fun v20 =>
 obind (binP false .gtr v20 (eI 70)) fun v21 =>
 some v21
)) fun v21 =>
 obind (pickP v16 (eB true) v21) fun v22 =>
 obind (gD v22 false (
 obind (lenP (celD a0 3)) fun v26 =>
 obind (binP false .gtr v26 (eI 70)) fun v27 =>
 some v27
)) fun v27 =>
 obind (pickP v22 (eB true) v27) fun v28 =>
 obind (gD v28 false (
 obind (lenP (celD a0 4)) fun v32 =>
 obind (binP false .gtr v32 (eI 70)) fun v33 =>
 some v33
)) fun v33 =>
 obind (pickP v28 (eB true) v33) fun v34 =>
 obind (gD v34 false (
 obind (lenP (celD a0 5)) fun v38 =>
 obind (binP false .gtr v38 (eI 70)) fun v39 =>
 some v39
)) fun v39 =>
 obind (pickP v34 (eB true) v39) fun v40 =>
 obind (gD v40 false (
 obind (lenP (celD a0 6)) fun v44 =>
 obind (binP false .gtr v44 (eI 70)) fun v45 =>
 some v45
)) fun v45 =>
 obind (pickP v40 (eB true) v45) fun v46 =>
 obind (gD v46 false (
 obind (lenP (celD a0 7)) fun v50 =>
 obind (binP false .gtr v50 (eI 70)) fun v51 =>
 some v51
)) fun v51 =>
 obind (pickP v46 (eB true) v51) fun v52 =>
 oif v52 (
 some (eB false)
) (
 obind (ref36_termsL n [(celD a0 2), (eI 400)]) fun v55 =>
 obind (ref36_termsL n [(celD a0 3), v55]) fun v59 =>
 obind (ref36_termsL n [(celD a0 5), v59]) fun v63 =>
 obind (ref36_termsL n [(celD a0 6), v63]) fun v67 =>
 obind (
 iterL (ref36_Small_l8 n) n [v67, (eI 0), (celD a0 0), (celD a0 1), (celD a0 2), (celD a0 3), (celD a0 4), (celD a0 5), (celD a0 6), (celD a0 7)]
) <| jnX fun ls =>
 obind (
 iterL (ref36_Small_l12 n) n [(pd ls 0), (eI 0), (pd ls 1), (pd ls 2), (pd ls 3), (pd ls 4), (pd ls 5), (pd ls 6), (pd ls 7), (pd ls 8)]
) <| jnX fun ls =>
 obind (
 iterL (ref36_Small_l16 n) n [(pd ls 0), (eI 0), (pd ls 1), (pd ls 2), (pd ls 3), (pd ls 4), (pd ls 5), (pd ls 6), (pd ls 7), (pd ls 8)]
) <| jnX fun ls =>
 obind (binP false .geq (pd ls 0) (eI 0)) fun v130 =>
 some v130
)

def ref36_SmallL (n : Nat) : List D → Option D
  | [a0] => ref36_Small n a0
  | _ => none
def law36_TypingLess (n : Nat) (a0 : D) (a1 : D) (a2 : D) : Option D :=
 og (aggP 8 a0) <|
 obind (ref36_SmallL n [(D.agg [(celD a0 0), (celD a0 1), (celD a0 2), (celD a0 3), (celD a0 4), (celD a0 5), (celD a0 6), (celD a0 7)])]) fun v13 =>
 obind (unP .not v13) fun v14 =>
 oif v14 (
 obind (law36_livesL n []) fun v15 =>
 some v15
) (
 obind (typing_CheckL n [(D.agg [(celD a0 0), (celD a0 1), (celD a0 2), (celD a0 3), (celD a0 4), (celD a0 5), (celD a0 6), (celD a0 7)])]) fun v18 =>
 obind (extP 0 v18) fun v19 =>
 obind (extP 1 v18) fun v20 =>
 og (aggP 2 v19) <|
 obind (binP false .neq v20 (eI 0)) fun v22 =>
 oif v22 (
 obind (law36_livesL n []) fun v23 =>
 some v23
) (
 obind (cvP .i64 a2) fun v25 =>
 obind (cvP .i64 a1) fun v27 =>
 obind (binP false .rem v27 (eI 6)) fun v28 =>
 obind (
 obind (binP false .eql v28 (eI 0)) fun v39 =>
 obind (
 oif v39 (
 obind (lenP (celD a0 2)) fun v45 =>
 obind (mmP false [v25, v45]) fun v46 =>
 obind (subP 4 (celD a0 2) none (some v46)) fun v47 =>
 og (oneP v47) <|
 some (.inl [(celD a0 0), (celD a0 1), v47, (celD a0 3), (celD a0 4), (celD a0 5), (celD a0 6), (celD a0 7)])
) (
 obind (binP false .eql v28 (eI 1)) fun v50 =>
 obind (
 oif v50 (
 obind (lenP (celD a0 3)) fun v56 =>
 obind (mmP false [v25, v56]) fun v57 =>
 obind (subP 4 (celD a0 3) none (some v57)) fun v58 =>
 og (oneP v58) <|
 some (.inl [(celD a0 0), (celD a0 1), (celD a0 2), v58, (celD a0 4), (celD a0 5), (celD a0 6), (celD a0 7)])
) (
 obind (binP false .eql v28 (eI 2)) fun v61 =>
 obind (
 oif v61 (
 obind (lenP (celD a0 4)) fun v67 =>
 obind (mmP false [v25, v67]) fun v68 =>
 obind (subP 5 (celD a0 4) none (some v68)) fun v69 =>
 og (oneP v69) <|
 some (.inl [(celD a0 0), (celD a0 1), (celD a0 2), (celD a0 3), v69, (celD a0 5), (celD a0 6), (celD a0 7)])
) (
 obind (binP false .eql v28 (eI 3)) fun v72 =>
 obind (
 oif v72 (
 obind (lenP (celD a0 5)) fun v78 =>
 obind (mmP false [v25, v78]) fun v79 =>
 obind (subP 4 (celD a0 5) none (some v79)) fun v80 =>
 og (oneP v80) <|
 some (.inl [(celD a0 0), (celD a0 1), (celD a0 2), (celD a0 3), (celD a0 4), v80, (celD a0 6), (celD a0 7)])
) (
 obind (binP false .eql v28 (eI 4)) fun v83 =>
 obind (
 oif v83 (
 obind (lenP (celD a0 6)) fun v89 =>
 obind (mmP false [v25, v89]) fun v90 =>
 obind (subP 4 (celD a0 6) none (some v90)) fun v91 =>
 og (oneP v91) <|
 some (.inl [(celD a0 0), (celD a0 1), (celD a0 2), (celD a0 3), (celD a0 4), (celD a0 5), v91, (celD a0 7)])
) (
 obind (lenP (celD a0 7)) fun v34 =>
 obind (mmP false [v25, v34]) fun v35 =>
 obind (subP 7 (celD a0 7) none (some v35)) fun v36 =>
 og (oneP v36) <|
 some (.inl [(celD a0 0), (celD a0 1), (celD a0 2), (celD a0 3), (celD a0 4), (celD a0 5), (celD a0 6), v36])
)
) <| jnX fun ls =>
 some (.inl [(pd ls 0), (pd ls 1), (pd ls 2), (pd ls 3), (pd ls 4), (pd ls 5), (pd ls 6), (pd ls 7)])
)
) <| jnX fun ls =>
 some (.inl [(pd ls 0), (pd ls 1), (pd ls 2), (pd ls 3), (pd ls 4), (pd ls 5), (pd ls 6), (pd ls 7)])
)
) <| jnX fun ls =>
 some (.inl [(pd ls 0), (pd ls 1), (pd ls 2), (pd ls 3), (pd ls 4), (pd ls 5), (pd ls 6), (pd ls 7)])
)
) <| jnX fun ls =>
 some (.inl [(pd ls 0), (pd ls 1), (pd ls 2), (pd ls 3), (pd ls 4), (pd ls 5), (pd ls 6), (pd ls 7)])
)
) <| jnX fun ls =>
 some (.inl [(pd ls 0), (pd ls 1), (pd ls 2), (pd ls 3), (pd ls 4), (pd ls 5), (pd ls 6), (pd ls 7)])
) <| jnX fun ls =>
 obind (typing_CheckL n [(D.agg [(pd ls 0), (pd ls 1), (pd ls 2), (pd ls 3), (pd ls 4), (pd ls 5), (pd ls 6), (pd ls 7)])]) fun v95 =>
 obind (extP 0 v95) fun v96 =>
 obind (extP 1 v95) fun v97 =>
 og (aggP 2 v96) <|
 obind (eqvP [.int .i64, .int .i64] .eql (D.agg [(celD v96 0), (celD v96 1)]) (D.agg [(eI 0), (eI 0)])) fun v100 =>
 obind (gD v100 true (
 obind (binP false .eql v97 (eI 0)) fun v103 =>
 some v103
)) fun v103 =>
 obind (pickP v100 v103 (eB false)) fun v104 =>
 obind (gD v104 true (
 obind (law36_livesL n []) fun v106 =>
 some v106
)) fun v106 =>
 obind (pickP v104 v106 (eB false)) fun v107 =>
 some v107
)
)

def law36_TypingLessL (n : Nat) : List D → Option D
  | [a0, a1, a2] => law36_TypingLess n a0 a1 a2
  | _ => none
end Go.Am
