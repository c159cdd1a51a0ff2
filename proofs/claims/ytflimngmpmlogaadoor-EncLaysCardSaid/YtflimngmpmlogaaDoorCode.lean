/- What each function of the seat computes, on data. No condition. -/
import Derived.Test.YtflimngmpmlogaaDoorEngC
set_option linter.all false
set_option linter.unnecessarySimpa false
namespace Go.Am
set_option linter.unusedVariables false
def wordsD : List D := [eS ⟨#[65]⟩, eS ⟨#[65, 70]⟩, eS ⟨#[65, 71]⟩, eS ⟨#[65, 88]⟩, eS ⟨#[69]⟩, eS ⟨#[69, 70]⟩, eS ⟨#[69, 71]⟩, eS ⟨#[69, 88]⟩, eS ⟨#[85]⟩, eS ⟨#[98, 111, 111, 108]⟩, eS ⟨#[100, 101, 102]⟩, eS ⟨#[101, 108, 115, 101]⟩, eS ⟨#[102, 97, 105, 114]⟩, eS ⟨#[102, 97, 108, 115, 101]⟩, eS ⟨#[105, 102]⟩, eS ⟨#[105, 110, 105, 116]⟩, eS ⟨#[105, 110, 118, 97, 114]⟩, eS ⟨#[109, 111, 100]⟩, eS ⟨#[110, 101, 120, 116]⟩, eS ⟨#[115, 112, 101, 99]⟩, eS ⟨#[116, 104, 101, 110]⟩, eS ⟨#[116, 114, 97, 110, 115]⟩, eS ⟨#[116, 114, 117, 101]⟩, eS ⟨#[118, 97, 114]⟩]
abbrev fid_law37_lives : Nat := 6
abbrev fid_enc_Of : Nat := 7
abbrev fid_ref37_Of : Nat := 8
abbrev fid_enc_Layout_Code : Nat := 9
abbrev fid_ref37_Code : Nat := 10
abbrev fid_enc_Layout_State : Nat := 11
abbrev fid_ref37_State : Nat := 12
abbrev fid_law37_bits : Nat := 13
abbrev fid_law37_same : Nat := 14
abbrev fid_enc_Layout_Total : Nat := 15
abbrev fid_enc_Layout_Next : Nat := 16
abbrev fid_enc_Layout_Now : Nat := 17
abbrev fid_ref37_Numbers : Nat := 18
abbrev fid_ref37_Total : Nat := 19
abbrev fid_enc_Layout_AllNow : Nat := 20
abbrev fid_enc_Layout_AllNext : Nat := 21
abbrev fid_enc_Layout_Index : Nat := 22
abbrev fid_ref37_Index : Nat := 23
abbrev fid_typing_Vars : Nat := 24
abbrev fid_num_Bits : Nat := 25
abbrev fid_typing_Span : Nat := 26
abbrev fid_ref36_Vars : Nat := 27
abbrev fid_ref01_Bits : Nat := 28
abbrev fid_ref36_Span : Nat := 29
abbrev fid_typing_Is : Nat := 30
abbrev fid_enc_lo : Nat := 31
abbrev fid_ref37_ends : Nat := 32
abbrev fid_enc_Layout_all : Nat := 33
abbrev fid_typing_Vars_1 : Nat := 34
abbrev fid_lexi_Is : Nat := 35
abbrev fid_slices_ContainsFunc_Lapi_Var_api_Var : Nat := 36
abbrev fid_ref29_Is : Nat := 37
abbrev fid_ref36_number : Nat := 38
abbrev fid_lexi_letter : Nat := 39
abbrev fid_lexi_row : Nat := 40
abbrev fid_lexi_inside : Nat := 41
abbrev fid_slices_Contains_Lstring_string : Nat := 42
abbrev fid_slices_IndexFunc_Lapi_Var_api_Var : Nat := 43
abbrev fid_ref29_letter : Nat := 44
abbrev fid_ref29_row : Nat := 45
abbrev fid_ref29_among : Nat := 46
abbrev fid_ref29_Words : Nat := 47
abbrev fid_lexi_digit : Nat := 48
abbrev fid_slices_Index_Lstring_string : Nat := 49
abbrev fid_ref29_digit : Nat := 50
def lexi_letter (n : Nat) (a0 : D) : Option D :=
 obind (binP false .geq a0 (D.val (.int .u8 97))) fun v4 =>
 obind (gD v4 true (
 obind (binP false .leq a0 (D.val (.int .u8 122))) fun v7 =>
 some v7
)) fun v7 =>
 obind (pickP v4 v7 (eB false)) fun v8 =>
 obind (gD v8 false (
 obind (binP false .geq a0 (D.val (.int .u8 65))) fun v11 =>
 some v11
)) fun v12 =>
 obind (gD v12 true (
 obind (binP false .leq a0 (D.val (.int .u8 90))) fun v14 =>
 some v14
)) fun v14 =>
 obind (gD v8 false (
 obind (pickP v12 v14 (eB false)) fun v15 =>
 some v15
)) fun v15 =>
 obind (pickP v8 (eB true) v15) fun v16 =>
 some v16

def lexi_letterL (n : Nat) : List D → Option D
  | [a0] => lexi_letter n a0
  | _ => none
def lexi_digit (n : Nat) (a0 : D) : Option D :=
 obind (binP false .geq a0 (D.val (.int .u8 48))) fun v4 =>
 obind (gD v4 true (
 obind (binP false .leq a0 (D.val (.int .u8 57))) fun v7 =>
 some v7
)) fun v7 =>
 obind (pickP v4 v7 (eB false)) fun v8 =>
 some v8

def lexi_digitL (n : Nat) : List D → Option D
  | [a0] => lexi_digit n a0
  | _ => none
def lexi_inside (n : Nat) (a0 : D) : Option D :=
 obind (lexi_letterL n [a0]) fun v4 =>
 obind (gD v4 false (
 obind (lexi_digitL n [a0]) fun v7 =>
 some v7
)) fun v7 =>
 obind (pickP v4 (eB true) v7) fun v8 =>
 obind (gD v8 false (
 obind (binP false .eql a0 (D.val (.int .u8 95))) fun v11 =>
 some v11
)) fun v11 =>
 obind (pickP v8 (eB true) v11) fun v12 =>
 some v12

def lexi_insideL (n : Nat) : List D → Option D
  | [a0] => lexi_inside n a0
  | _ => none
def lexi_row_lexi_inside_l2 (n : Nat) (ls : List D) : Option (List D ⊕ (List D ⊕ D)) :=
 obind (lensP (pd ls 0)) fun v8 =>
 obind (binP false .lss (pd ls 1) v8) fun v9 =>
 obind (gD v9 true (
 obind (sixP (pd ls 0) (pd ls 1)) fun v14 =>
 obind (lexi_insideL n [v14]) fun v15 =>
 some v15
)) fun v15 =>
 obind (pickP v9 v15 (eB false)) fun v16 =>
 oif v16 (
 obind (binP false .add (pd ls 1) (eI 1)) fun v18 =>
 some (.inl [(pd ls 0), v18])
) (
 inrX (
 some (.inl [(pd ls 1)])
)
)

def lexi_row_lexi_inside (n : Nat) (a0 : D) : Option D :=
 obind (
 iterL (lexi_row_lexi_inside_l2 n) n [a0, (eI 0)]
) <| jnX fun ls =>
 some (pd ls 0)

def lexi_row_lexi_insideL (n : Nat) : List D → Option D
  | [a0, a1] => og (isFc fid_lexi_inside a1) (lexi_row_lexi_inside n a0)
  | _ => none
def slices_Index_Lstring_string_l2 (n : Nat) (ls : List D) : Option (List D ⊕ (List D ⊕ D)) :=
 obind (binP false .lss (pd ls 3) (pd ls 2)) fun v9 =>
 oif v9 (
 obind (ixP 1 (pd ls 0) (pd ls 3)) fun c14 =>
 obind (atP false 1 0 c14) fun v15 =>
 obind (binP false .eql (pd ls 1) v15) fun v16 =>
 oif v16 (
 inrX (
 inrX (
 some (pd ls 3)
)
)
) (
 obind (binP false .add (pd ls 3) (eI 1)) fun v18 =>
 some (.inl [(pd ls 0), (pd ls 1), (pd ls 2), v18])
)
) (
 inrX (
 some (.inl [])
)
)

def slices_Index_Lstring_string (n : Nat) (a0 : D) (a1 : D) : Option D :=
 obind (lenP a0) fun v7 =>
 obind (
 iterL (slices_Index_Lstring_string_l2 n) n [a0, a1, v7, (eI 0)]
) <| jnX fun ls =>
 some (eI (-1))

def slices_Index_Lstring_stringL (n : Nat) : List D → Option D
  | [a0, a1] => slices_Index_Lstring_string n a0 a1
  | _ => none
def slices_Contains_Lstring_string (n : Nat) (a0 : D) (a1 : D) : Option D :=
 obind (slices_Index_Lstring_stringL n [a0, a1]) fun v7 =>
 obind (binP false .geq v7 (eI 0)) fun v8 =>
 some v8

def slices_Contains_Lstring_stringL (n : Nat) : List D → Option D
  | [a0, a1] => slices_Contains_Lstring_string n a0 a1
  | _ => none
def lexi_Is (n : Nat) (a0 : D) : Option D :=
 obind (binP false .neq a0 (eS ⟨#[]⟩)) fun v4 =>
 obind (gD v4 true (
 obind (lensP a0) fun v7 =>
 obind (binP false .leq v7 (eI 24)) fun v8 =>
 some v8
)) fun v8 =>
 obind (pickP v4 v8 (eB false)) fun v9 =>
 obind (gD v9 true (
 obind (sixP a0 (eI 0)) fun v12 =>
 obind (lexi_letterL n [v12]) fun v13 =>
 some v13
)) fun v13 =>
 obind (pickP v9 v13 (eB false)) fun v14 =>
 obind (gD v14 true (
 obind (lexi_row_lexi_insideL n [a0, (D.val (.func (.func fid_lexi_inside) #[] #[]))]) fun v17 =>
 obind (lensP a0) fun v19 =>
 obind (binP false .eql v17 v19) fun v20 =>
 some v20
)) fun v20 =>
 obind (pickP v14 v20 (eB false)) fun v21 =>
 obind (gD v21 true (
 obind (slices_Contains_Lstring_stringL n [(D.sl 1 ((wordsD).map fun c => [c])), a0]) fun v25 =>
 obind (unP .not v25) fun v26 =>
 some v26
)) fun v26 =>
 obind (pickP v21 v26 (eB false)) fun v27 =>
 some v27

def lexi_IsL (n : Nat) : List D → Option D
  | [a0] => lexi_Is n a0
  | _ => none
def typing_Vars_1 (n : Nat) (a0 : D) (x1 : List D) : Option D :=
 og (aggP 4 a0) <|
 obind (atP false 1 0 x1) fun v7 =>
 obind (binP false .eql (celD a0 0) v7) fun v8 =>
 some v8

def typing_Vars_1L (n : Nat) : List D → Option D
  | [a0, a1] => (match a1 with | .ref x1 0 => typing_Vars_1 n a0 x1 | _ => none)
  | _ => none
def slices_IndexFunc_Lapi_Var_api_Var_typing_Vars_1_l2 (n : Nat) (ls : List D) : Option (List D ⊕ (List D ⊕ D)) :=
 obind (binP false .lss (pd ls 3) (pd ls 2)) fun v9 =>
 oif v9 (
 obind (ixP 4 (pd ls 0) (pd ls 3)) fun c14 =>
 obind (atP true 4 0 c14) fun v15 =>
 obind (typing_Vars_1L n [v15, (pd ls 1)]) fun v16 =>
 oif v16 (
 inrX (
 inrX (
 some (pd ls 3)
)
)
) (
 obind (binP false .add (pd ls 3) (eI 1)) fun v18 =>
 some (.inl [(pd ls 0), (pd ls 1), (pd ls 2), v18])
)
) (
 inrX (
 some (.inl [])
)
)

def slices_IndexFunc_Lapi_Var_api_Var_typing_Vars_1 (n : Nat) (a0 : D) (x1_0 : D) : Option D :=
 obind (lenP a0) fun v7 =>
 obind (
 iterL (slices_IndexFunc_Lapi_Var_api_Var_typing_Vars_1_l2 n) n [a0, x1_0, v7, (eI 0)]
) <| jnX fun ls =>
 some (eI (-1))

def slices_IndexFunc_Lapi_Var_api_Var_typing_Vars_1L (n : Nat) : List D → Option D
  | [a0, a1] => (match fnOf fid_typing_Vars_1 a1 with | some [x1_0] => slices_IndexFunc_Lapi_Var_api_Var_typing_Vars_1 n a0 x1_0 | _ => none)
  | _ => none
def slices_ContainsFunc_Lapi_Var_api_Var_typing_Vars_1 (n : Nat) (a0 : D) (x1_0 : D) : Option D :=
 obind (slices_IndexFunc_Lapi_Var_api_Var_typing_Vars_1L n [a0, (D.fn (.func fid_typing_Vars_1) [] [x1_0])]) fun v7 =>
 obind (binP false .geq v7 (eI 0)) fun v8 =>
 some v8

def slices_ContainsFunc_Lapi_Var_api_Var_typing_Vars_1L (n : Nat) : List D → Option D
  | [a0, a1] => (match fnOf fid_typing_Vars_1 a1 with | some [x1_0] => slices_ContainsFunc_Lapi_Var_api_Var_typing_Vars_1 n a0 x1_0 | _ => none)
  | _ => none
def typing_Vars_l2 (n : Nat) (ls : List D) : Option (List D ⊕ (List D ⊕ D)) :=
 obind (binP false .lss (pd ls 3) (pd ls 2)) fun v11 =>
 oif v11 (
 obind (ixP 4 (pd ls 1) (pd ls 3)) fun c13 =>
 obind (atP true 4 0 c13) fun v14 =>
 og (aggP 4 v14) <|
 obind (mmP true [(celD v14 2), (celD v14 3)]) fun v20 =>
 obind (binP false .gtr v20 (eI 255)) fun v21 =>
 obind (gD v21 false (
 obind (mmP false [(celD v14 2), (celD v14 3)]) fun v27 =>
 obind (binP false .lss v27 (eI (-255))) fun v28 =>
 some v28
)) fun v28 =>
 obind (pickP v21 (eB true) v28) fun v29 =>
 obind (lexi_IsL n [(celD v14 0)]) fun v33 =>
 obind (unP .not v33) fun v34 =>
 oif v34 (
 inrX (
 inrX (
 some (D.tup [(pd ls 3), (eI 12)])
)
)
) (
 obind (subP 4 (pd ls 0) none (some (pd ls 3))) fun v39 =>
 obind (slices_ContainsFunc_Lapi_Var_api_Var_typing_Vars_1L n [v39, (D.fn (.func fid_typing_Vars_1) [] [(D.ref [(celD v14 0), (celD v14 1), (celD v14 2), (celD v14 3)] 0)])]) fun v41 =>
 og v41.flat <|
 oif v41 (
 inrX (
 inrX (
 some (D.tup [(pd ls 3), (eI 6)])
)
)
) (
 obind (gD (celD v14 1) true (
 obind (binP false .neq (celD v14 2) (eI 0)) fun v49 =>
 some v49
)) fun v50 =>
 obind (gD v50 false (
 obind (binP false .neq (celD v14 3) (eI 0)) fun v53 =>
 some v53
)) fun v53 =>
 obind (gD (celD v14 1) true (
 obind (pickP v50 (eB true) v53) fun v54 =>
 some v54
)) fun v54 =>
 obind (pickP (celD v14 1) v54 (eB false)) fun v55 =>
 oif v55 (
 inrX (
 inrX (
 some (D.tup [(pd ls 3), (eI 3)])
)
)
) (
 obind (unP .not (celD v14 1)) fun v60 =>
 obind (gD v60 true (
 obind (binP false .gtr (celD v14 2) (celD v14 3)) fun v66 =>
 some v66
)) fun v67 =>
 obind (gD v67 false (
 some v29
)) fun v68 =>
 obind (gD v60 true (
 obind (pickP v67 (eB true) v68) fun v69 =>
 some v69
)) fun v70 =>
 obind (gD v70 false (
 obind (binP false .sub (celD v14 3) (celD v14 2)) fun v75 =>
 obind (binP false .geq v75 (eI 64)) fun v76 =>
 some v76
)) fun v76 =>
 obind (gD v60 true (
 obind (pickP v70 (eB true) v76) fun v77 =>
 some v77
)) fun v77 =>
 obind (pickP v60 v77 (eB false)) fun v78 =>
 oif v78 (
 inrX (
 inrX (
 some (D.tup [(pd ls 3), (eI 2)])
)
)
) (
 obind (binP false .add (pd ls 3) (eI 1)) fun v80 =>
 some (.inl [(pd ls 0), (pd ls 1), (pd ls 2), v80])
)
)
)
)
) (
 inrX (
 some (.inl [])
)
)

def typing_Vars (n : Nat) (a0 : D) : Option D :=
 obind (lenP a0) fun v9 =>
 obind (
 iterL (typing_Vars_l2 n) n [a0, a0, v9, (eI 0)]
) <| jnX fun ls =>
 some (D.tup [(eI 0), (eI 0)])

def typing_VarsL (n : Nat) : List D → Option D
  | [a0] => typing_Vars n a0
  | _ => none
def typing_Span (n : Nat) (a0 : D) : Option D :=
 og (aggP 4 a0) <|
 oif (celD a0 1) (
 some (eI 2)
) (
 obind (binP false .gtr (celD a0 2) (celD a0 3)) fun v12 =>
 oif v12 (
 some (eI 0)
) (
 obind (cvP .u64 (celD a0 3)) fun v15 =>
 obind (cvP .u64 (celD a0 2)) fun v18 =>
 obind (binP false .sub v15 v18) fun v19 =>
 obind (binP false .lss v19 (D.val (.int .u64 1073741824))) fun v21 =>
 oif v21 (
 obind (cvP .i64 v19) fun v23 =>
 obind (binP false .add v23 (eI 1)) fun v24 =>
 some v24
) (
 some (eI 1073741825)
)
)
)

def typing_SpanL (n : Nat) : List D → Option D
  | [a0] => typing_Span n a0
  | _ => none
def num_Bits_l2 (n : Nat) (ls : List D) : Option (List D ⊕ (List D ⊕ D)) :=
 obind (binP false .lss (pd ls 1) (eI 63)) fun v5 =>
 oif v5 (
 obind (binP false .shl (eI 1) (pd ls 1)) fun v9 =>
 obind (binP false .leq (pd ls 0) v9) fun v10 =>
 oif v10 (
 inrX (
 inrX (
 some (pd ls 1)
)
)
) (
 obind (binP false .add (pd ls 1) (eI 1)) fun v12 =>
 some (.inl [(pd ls 0), v12])
)
) (
 inrX (
 some (.inl [])
)
)

def num_Bits (n : Nat) (a0 : D) : Option D :=
 obind (
 iterL (num_Bits_l2 n) n [a0, (eI 0)]
) <| jnX fun ls =>
 some (eI 63)

def num_BitsL (n : Nat) : List D → Option D
  | [a0] => num_Bits n a0
  | _ => none
def enc_Of_l8 (n : Nat) (ls : List D) : Option (List D ⊕ (List D ⊕ D)) :=
 obind (binP false .lss (pd ls 3) (pd ls 2)) fun v30 =>
 oif v30 (
 obind (ixP 4 (pd ls 1) (pd ls 3)) fun c31 =>
 obind (atP true 4 0 c31) fun v32 =>
 og (aggP 4 v32) <|
 obind (typing_SpanL n [(D.agg [(celD v32 0), (celD v32 1), (celD v32 2), (celD v32 3)])]) fun v34 =>
 obind (num_BitsL n [v34]) fun v35 =>
 og (oneP v35) <|
 og (decide (1 = 1 ∨ [[v35]] = []) && decide (0 < 1)) <|
 og (roomP (((esD (pd ls 5))).length + ([[v35]]).length) 8) <|
 og (oneP (pd ls 0)) <|
 og (decide (1 = 1 ∨ [[(pd ls 0)]] = []) && decide (0 < 1)) <|
 og (roomP (((esD (pd ls 6))).length + ([[(pd ls 0)]]).length) 8) <|
 obind (binP false .add (pd ls 0) v35) fun v50 =>
 obind (binP false .add (pd ls 3) (eI 1)) fun v51 =>
 some (.inl [v50, (pd ls 1), (pd ls 2), v51, (D.sl 4 (esD (pd ls 4))), (D.sl 1 ((esD (pd ls 5)) ++ [[v35]])), (D.sl 1 ((esD (pd ls 6)) ++ [[(pd ls 0)]]))])
) (
 inrX (
 some (.inl [(pd ls 0), (D.sl 4 (esD (pd ls 4))), (D.sl 1 (esD (pd ls 5))), (D.sl 1 (esD (pd ls 6)))])
)
)

def enc_Of (n : Nat) (a0 : D) : Option D :=
 obind (typing_VarsL n [a0]) fun v12 =>
 obind (extP 0 v12) fun v13 =>
 obind (extP 1 v12) fun v14 =>
 obind (binP false .neq v14 (eI 0)) fun v16 =>
 oif v16 (
 og (aggP 3 (D.agg [(D.val (.slice none 0 0)), (D.val (.slice none 0 0)), (D.val (.slice none 0 0))])) <|
 some (D.tup [(D.agg [(celD (D.agg [(D.val (.slice none 0 0)), (D.val (.slice none 0 0)), (D.val (.slice none 0 0))]) 0), (celD (D.agg [(D.val (.slice none 0 0)), (D.val (.slice none 0 0)), (D.val (.slice none 0 0))]) 1), (celD (D.agg [(D.val (.slice none 0 0)), (D.val (.slice none 0 0)), (D.val (.slice none 0 0))]) 2)]), v14])
) (
 obind (lenP a0) fun v20 =>
 obind (makeP 40 v20 v20) fun n21 =>
 obind (elP a0) fun q26 =>
 og (decide (q26.1 = 4 ∨ q26.2 = [])) <|
 obind (lenP a0) fun v28 =>
 obind (
 og (nilP (D.val (.slice none 0 0))) <|
 og (nilP (D.val (.slice none 0 0))) <|
 iterL (enc_Of_l8 n) n [(eI 0), a0, v28, (eI 0), (D.sl 4 ((q26.2).take (min (q26.2).length ((List.replicate n21 [D.val (.string ⟨#[]⟩), D.val (.bool false), D.val (.int .i64 0), D.val (.int .i64 0)])).length) ++ ((List.replicate n21 [D.val (.string ⟨#[]⟩), D.val (.bool false), D.val (.int .i64 0), D.val (.int .i64 0)])).drop (min (q26.2).length ((List.replicate n21 [D.val (.string ⟨#[]⟩), D.val (.bool false), D.val (.int .i64 0), D.val (.int .i64 0)])).length))), (D.sl 1 []), (D.sl 1 [])]
) <| jnX fun ls =>
 obind (binP false .gtr (pd ls 0) (eI 30)) fun v53 =>
 oif v53 (
 og (aggP 3 (D.agg [(D.val (.slice none 0 0)), (D.val (.slice none 0 0)), (D.val (.slice none 0 0))])) <|
 some (D.tup [(D.agg [(celD (D.agg [(D.val (.slice none 0 0)), (D.val (.slice none 0 0)), (D.val (.slice none 0 0))]) 0), (celD (D.agg [(D.val (.slice none 0 0)), (D.val (.slice none 0 0)), (D.val (.slice none 0 0))]) 1), (celD (D.agg [(D.val (.slice none 0 0)), (D.val (.slice none 0 0)), (D.val (.slice none 0 0))]) 2)]), (eI 18)])
) (
 some (D.tup [(D.agg [(D.sl 4 (esD (pd ls 1))), (D.sl 1 (esD (pd ls 2))), (D.sl 1 (esD (pd ls 3)))]), (eI 0)])
)
)

def enc_OfL (n : Nat) : List D → Option D
  | [a0] => enc_Of n a0
  | _ => none
def enc_Layout_Total_l3 (n : Nat) (ls : List D) : Option (List D ⊕ (List D ⊕ D)) :=
 obind (binP false .lss (pd ls 3) (pd ls 2)) fun v10 =>
 oif v10 (
 obind (ixP 1 (pd ls 1) (pd ls 3)) fun c11 =>
 obind (atP false 1 0 c11) fun v12 =>
 obind (binP false .add (pd ls 0) v12) fun v15 =>
 obind (binP false .add (pd ls 3) (eI 1)) fun v16 =>
 some (.inl [v15, (pd ls 1), (pd ls 2), v16])
) (
 inrX (
 some (.inl [(pd ls 0)])
)
)

def enc_Layout_Total (n : Nat) (a0 : D) : Option D :=
 og (aggP 3 a0) <|
 obind (lenP (celD a0 1)) fun v8 =>
 obind (
 iterL (enc_Layout_Total_l3 n) n [(eI 0), (celD a0 1), v8, (eI 0)]
) <| jnX fun ls =>
 some (pd ls 0)

def enc_Layout_TotalL (n : Nat) : List D → Option D
  | [a0] => enc_Layout_Total n a0
  | _ => none
def typing_Is_l4 (n : Nat) (ls : List D) : Option (List D ⊕ (List D ⊕ D)) :=
 obind (binP false .lss (pd ls 3) (pd ls 2)) fun v19 =>
 oif v19 (
 obind (ixP 4 (pd ls 1) (pd ls 3)) fun c21 =>
 obind (atP true 4 0 c21) fun v22 =>
 og (aggP 4 v22) <|
 obind (
 oif (celD v22 1) (
 some (.inl [(pd ls 0), (pd ls 3), (eI 0), (eI 1), (pd ls 1), (pd ls 2), (pd ls 3)])
) (
 some (.inl [(pd ls 0), (pd ls 3), (celD v22 2), (celD v22 3), (pd ls 1), (pd ls 2), (pd ls 3)])
)
) <| jnX fun ls =>
 obind (ixP 1 (pd ls 0) (pd ls 1)) fun c31 =>
 obind (atP false 1 0 c31) fun v32 =>
 obind (binP false .lss v32 (pd ls 2)) fun v34 =>
 obind (gD v34 false (
 obind (ixP 1 (pd ls 0) (pd ls 1)) fun c38 =>
 obind (atP false 1 0 c38) fun v39 =>
 obind (binP false .gtr v39 (pd ls 3)) fun v41 =>
 some v41
)) fun v41 =>
 obind (pickP v34 (eB true) v41) fun v42 =>
 oif v42 (
 inrX (
 inrX (
 some (eB false)
)
)
) (
 obind (binP false .add (pd ls 6) (eI 1)) fun v43 =>
 some (.inl [(pd ls 0), (pd ls 4), (pd ls 5), v43])
)
) (
 inrX (
 some (.inl [])
)
)

def typing_Is (n : Nat) (a0 : D) (a1 : D) : Option D :=
 og (aggP 8 a0) <|
 obind (lenP a1) fun v10 =>
 obind (lenP (celD a0 0)) fun v13 =>
 obind (binP false .neq v10 v13) fun v14 =>
 oif v14 (
 some (eB false)
) (
 obind (lenP (celD a0 0)) fun v17 =>
 obind (
 iterL (typing_Is_l4 n) n [a1, (celD a0 0), v17, (eI 0)]
) <| jnX fun ls =>
 some (eB true)
)

def typing_IsL (n : Nat) : List D → Option D
  | [a0, a1] => typing_Is n a0 a1
  | _ => none
def enc_lo (n : Nat) (a0 : D) : Option D :=
 og (aggP 4 a0) <|
 oif (celD a0 1) (
 some (eI 0)
) (
 some (celD a0 2)
)

def enc_loL (n : Nat) : List D → Option D
  | [a0] => enc_lo n a0
  | _ => none
def enc_Layout_Code_l8 (n : Nat) (ls : List D) : Option (List D ⊕ (List D ⊕ (List D ⊕ (List D ⊕ (List D ⊕ D))))) :=
 obind (binP false .lss (pd ls 6) (pd ls 5)) fun v36 =>
 oif v36 (
 obind (binP false .rem (pd ls 1) (eI 2)) fun v39 =>
 obind (binP false .eql v39 (eI 1)) fun v40 =>
 og (oneP v40) <|
 og (decide (1 = 1 ∨ [[v40]] = []) && decide (0 < 1)) <|
 og (roomP (((esD (pd ls 10))).length + ([[v40]]).length) 1) <|
 obind (binP false .quo (pd ls 1) (eI 2)) fun v44 =>
 obind (binP false .add (pd ls 6) (eI 1)) fun v45 =>
 some (.inl [(pd ls 0), v44, (pd ls 2), (pd ls 3), (pd ls 4), (pd ls 5), v45, (pd ls 7), (pd ls 8), (pd ls 9), (D.sl 1 ((esD (pd ls 10)) ++ [[v40]]))])
) (
 inrX (
 some (.inl [(pd ls 0), (pd ls 2), (pd ls 3), (pd ls 4), (pd ls 7), (pd ls 8), (pd ls 9), (D.sl 1 (esD (pd ls 10)))])
)
)

def enc_Layout_Code_l4 (n : Nat) (ls : List D) : Option (List D ⊕ (List D ⊕ D)) :=
 obind (binP false .lss (pd ls 3) (pd ls 2)) fun v19 =>
 oif v19 (
 obind (
 obind (ixP 4 (pd ls 1) (pd ls 3)) fun c21 =>
 obind (atP true 4 0 c21) fun v22 =>
 og (aggP 4 v22) <|
 obind (ixP 1 (pd ls 0) (pd ls 3)) fun c25 =>
 obind (atP false 1 0 c25) fun v26 =>
 obind (enc_loL n [(D.agg [(celD v22 0), (celD v22 1), (celD v22 2), (celD v22 3)])]) fun v28 =>
 obind (binP false .sub v26 v28) fun v29 =>
 obind (ixP 1 (pd ls 5) (pd ls 3)) fun c33 =>
 obind (atP false 1 0 c33) fun v34 =>
 obind (
 iterL (enc_Layout_Code_l8 n) n [(pd ls 0), v29, (pd ls 1), (pd ls 2), (pd ls 3), v34, (eI 0), (pd ls 4), (pd ls 5), (pd ls 6), (D.sl 1 (esD (pd ls 7)))]
) <| jnX fun ls =>
 some (.inl [(pd ls 0), (pd ls 1), (pd ls 2), (pd ls 3), (pd ls 4), (pd ls 5), (pd ls 6), (D.sl 1 (esD (pd ls 7)))])
) <| jnX fun ls =>
 obind (binP false .add (pd ls 3) (eI 1)) fun v46 =>
 some (.inl [(pd ls 0), (pd ls 1), (pd ls 2), v46, (pd ls 4), (pd ls 5), (pd ls 6), (D.sl 1 (esD (pd ls 7)))])
) (
 inrX (
 some (.inl [(D.sl 1 (esD (pd ls 7)))])
)
)

def enc_Layout_Code (n : Nat) (a0 : D) (a1 : D) : Option D :=
 og (aggP 3 a0) <|
 og (oneP (celD a0 0)) <|
 obind (typing_IsL n [(D.agg [(celD a0 0), (D.val (.slice none 0 0)), (D.val (.slice none 0 0)), (D.val (.slice none 0 0)), (D.val (.slice none 0 0)), (D.val (.slice none 0 0)), (D.val (.slice none 0 0)), (D.val (.slice none 0 0))]), a1]) fun v13 =>
 obind (unP .not v13) fun v14 =>
 oif v14 (
 some (D.tup [(D.val (.slice none 0 0)), (eI 21)])
) (
 obind (lenP (celD a0 0)) fun v17 =>
 obind (
 og (nilP (D.val (.slice none 0 0))) <|
 iterL (enc_Layout_Code_l4 n) n [a1, (celD a0 0), v17, (eI 0), (celD a0 0), (celD a0 1), (celD a0 2), (D.sl 1 [])]
) <| jnX fun ls =>
 some (D.tup [(D.sl 1 (esD (pd ls 0))), (eI 0)])
)

def enc_Layout_CodeL (n : Nat) : List D → Option D
  | [a0, a1] => enc_Layout_Code n a0 a1
  | _ => none
def enc_Layout_State_l8 (n : Nat) (ls : List D) : Option (List D ⊕ (List D ⊕ (List D ⊕ (List D ⊕ (List D ⊕ D))))) :=
 obind (binP false .lss (pd ls 7) (pd ls 6)) fun v29 =>
 oif v29 (
 obind (
 obind (ixP 1 (pd ls 10) (pd ls 1)) fun c35 =>
 obind (atP false 1 0 c35) fun v36 =>
 obind (binP false .add v36 (pd ls 7)) fun v38 =>
 obind (ixP 1 (pd ls 0) v38) fun c39 =>
 obind (atP false 1 0 c39) fun v40 =>
 obind (
 oif v40 (
 obind (binP false .shl (eI 1) (pd ls 7)) fun v43 =>
 obind (binP false .add (pd ls 2) v43) fun v44 =>
 some (.inl [(pd ls 0), (pd ls 1), v44, (pd ls 3), (pd ls 4), (pd ls 5), (pd ls 6), (pd ls 7), (pd ls 8), (pd ls 9), (pd ls 10), (D.sl 1 (esD (pd ls 11))), (pd ls 12), (pd ls 13), (pd ls 14), (pd ls 15)])
) (
 some (.inl [(pd ls 0), (pd ls 1), (pd ls 2), (pd ls 3), (pd ls 4), (pd ls 5), (pd ls 6), (pd ls 7), (pd ls 8), (pd ls 9), (pd ls 10), (D.sl 1 (esD (pd ls 11))), (pd ls 12), (pd ls 13), (pd ls 14), (pd ls 15)])
)
) <| jnX fun ls =>
 some (.inl [(pd ls 0), (pd ls 1), (pd ls 2), (pd ls 3), (pd ls 4), (pd ls 5), (pd ls 6), (pd ls 7), (pd ls 8), (pd ls 9), (pd ls 10), (D.sl 1 (esD (pd ls 11))), (pd ls 12), (pd ls 13), (pd ls 14), (pd ls 15)])
) <| jnX fun ls =>
 obind (binP false .add (pd ls 7) (eI 1)) fun v45 =>
 some (.inl [(pd ls 0), (pd ls 1), (pd ls 2), (pd ls 3), (pd ls 4), (pd ls 5), (pd ls 6), v45, (pd ls 8), (pd ls 9), (pd ls 10), (D.sl 1 (esD (pd ls 11))), (pd ls 12), (pd ls 13), (pd ls 14), (pd ls 15)])
) (
 inrX (
 some (.inl [(pd ls 0), (pd ls 2), (pd ls 3), (pd ls 4), (pd ls 5), (pd ls 8), (pd ls 9), (pd ls 10), (D.sl 1 (esD (pd ls 11))), (pd ls 12), (pd ls 13), (pd ls 14), (pd ls 15)])
)
)

def enc_Layout_State_l4 (n : Nat) (ls : List D) : Option (List D ⊕ (List D ⊕ D)) :=
 obind (binP false .lss (pd ls 3) (pd ls 2)) fun v19 =>
 oif v19 (
 obind (
 obind (ixP 4 (pd ls 1) (pd ls 3)) fun c21 =>
 obind (atP true 4 0 c21) fun v22 =>
 og (aggP 4 v22) <|
 obind (ixP 1 (pd ls 5) (pd ls 3)) fun c26 =>
 obind (atP false 1 0 c26) fun v27 =>
 obind (
 iterL (enc_Layout_State_l8 n) n [(pd ls 0), (pd ls 3), (eI 0), (pd ls 1), (pd ls 2), (pd ls 3), v27, (eI 0), (pd ls 4), (pd ls 5), (pd ls 6), (D.sl 1 (esD (pd ls 7))), (celD v22 0), (celD v22 1), (celD v22 2), (celD v22 3)]
) <| jnX fun ls =>
 obind (typing_SpanL n [(D.agg [(pd ls 9), (pd ls 10), (pd ls 11), (pd ls 12)])]) fun v48 =>
 obind (binP false .geq (pd ls 1) v48) fun v49 =>
 oif v49 (
 inrX (
 inrX (
 inrX (
 some (D.tup [(D.val (.slice none 0 0)), (eI 21)])
)
)
)
) (
 obind (enc_loL n [(D.agg [(pd ls 9), (pd ls 10), (pd ls 11), (pd ls 12)])]) fun v52 =>
 obind (binP false .add v52 (pd ls 1)) fun v54 =>
 og (oneP v54) <|
 og (decide (1 = 1 ∨ [[v54]] = []) && decide (0 < 1)) <|
 og (roomP (((esD (pd ls 8))).length + ([[v54]]).length) 8) <|
 some (.inl [(pd ls 0), (pd ls 2), (pd ls 3), (pd ls 4), (pd ls 5), (pd ls 6), (pd ls 7), (D.sl 1 ((esD (pd ls 8)) ++ [[v54]]))])
)
) <| jnX fun ls =>
 obind (binP false .add (pd ls 3) (eI 1)) fun v57 =>
 some (.inl [(pd ls 0), (pd ls 1), (pd ls 2), v57, (pd ls 4), (pd ls 5), (pd ls 6), (D.sl 1 (esD (pd ls 7)))])
) (
 inrX (
 some (.inl [(D.sl 1 (esD (pd ls 7)))])
)
)

def enc_Layout_State (n : Nat) (a0 : D) (a1 : D) : Option D :=
 og (aggP 3 a0) <|
 obind (lenP a1) fun v11 =>
 obind (enc_Layout_TotalL n [(D.agg [(celD a0 0), (celD a0 1), (celD a0 2)])]) fun v13 =>
 obind (binP false .neq v11 v13) fun v14 =>
 oif v14 (
 some (D.tup [(D.val (.slice none 0 0)), (eI 3)])
) (
 obind (lenP (celD a0 0)) fun v17 =>
 obind (
 og (nilP (D.val (.slice none 0 0))) <|
 iterL (enc_Layout_State_l4 n) n [a1, (celD a0 0), v17, (eI 0), (celD a0 0), (celD a0 1), (celD a0 2), (D.sl 1 [])]
) <| jnX fun ls =>
 some (D.tup [(D.sl 1 (esD (pd ls 0))), (eI 0)])
)

def enc_Layout_StateL (n : Nat) : List D → Option D
  | [a0, a1] => enc_Layout_State n a0 a1
  | _ => none
def enc_Layout_Index_l2 (n : Nat) (ls : List D) : Option (List D ⊕ (List D ⊕ D)) :=
 obind (binP false .lss (pd ls 3) (pd ls 2)) fun v11 =>
 oif v11 (
 obind (ixP 4 (pd ls 1) (pd ls 3)) fun c13 =>
 obind (atP true 4 0 c13) fun v14 =>
 og (aggP 4 v14) <|
 obind (binP false .eql (celD v14 0) (pd ls 0)) fun v18 =>
 oif v18 (
 inrX (
 inrX (
 some (pd ls 3)
)
)
) (
 obind (binP false .add (pd ls 3) (eI 1)) fun v20 =>
 some (.inl [(pd ls 0), (pd ls 1), (pd ls 2), v20])
)
) (
 inrX (
 some (.inl [])
)
)

def enc_Layout_Index (n : Nat) (a0 : D) (a1 : D) : Option D :=
 og (aggP 3 a0) <|
 obind (lenP (celD a0 0)) fun v9 =>
 obind (
 iterL (enc_Layout_Index_l2 n) n [a1, (celD a0 0), v9, (eI 0)]
) <| jnX fun ls =>
 some (eI (-1))

def enc_Layout_IndexL (n : Nat) : List D → Option D
  | [a0, a1] => enc_Layout_Index n a0 a1
  | _ => none
def law37_lives (n : Nat) : Option D :=
 og (oneP (eS ⟨#[97]⟩)) <|
 og (oneP (eB true)) <|
 og (oneP (eS ⟨#[110]⟩)) <|
 og (oneP (eI (-1))) <|
 og (oneP (eI 3)) <|
 og (aggP 4 (D.agg [(eS ⟨#[97]⟩), (eB true), (D.val (.int .i64 0)), (D.val (.int .i64 0))])) <|
 og (aggP 4 (D.agg [(eS ⟨#[110]⟩), (D.val (.bool false)), (eI (-1)), (eI 3)])) <|
 obind (enc_OfL n [(D.sl 4 [[(celD (D.agg [(eS ⟨#[97]⟩), (eB true), (D.val (.int .i64 0)), (D.val (.int .i64 0))]) 0), (celD (D.agg [(eS ⟨#[97]⟩), (eB true), (D.val (.int .i64 0)), (D.val (.int .i64 0))]) 1), (celD (D.agg [(eS ⟨#[97]⟩), (eB true), (D.val (.int .i64 0)), (D.val (.int .i64 0))]) 2), (celD (D.agg [(eS ⟨#[97]⟩), (eB true), (D.val (.int .i64 0)), (D.val (.int .i64 0))]) 3)], [(celD (D.agg [(eS ⟨#[110]⟩), (D.val (.bool false)), (eI (-1)), (eI 3)]) 0), (celD (D.agg [(eS ⟨#[110]⟩), (D.val (.bool false)), (eI (-1)), (eI 3)]) 1), (celD (D.agg [(eS ⟨#[110]⟩), (D.val (.bool false)), (eI (-1)), (eI 3)]) 2), (celD (D.agg [(eS ⟨#[110]⟩), (D.val (.bool false)), (eI (-1)), (eI 3)]) 3)]])]) fun v11 =>
 obind (extP 0 v11) fun v12 =>
 obind (extP 1 v11) fun v13 =>
 og (aggP 3 v12) <|
 obind (binP false .neq v13 (eI 0)) fun v15 =>
 obind (gD v15 false (
 obind (enc_Layout_TotalL n [(D.agg [(celD v12 0), (celD v12 1), (celD v12 2)])]) fun v18 =>
 obind (binP false .neq v18 (eI 4)) fun v19 =>
 some v19
)) fun v19 =>
 obind (pickP v15 (eB true) v19) fun v20 =>
 oif v20 (
 some (eB false)
) (
 og (oneP (eI 1)) <|
 og (oneP (eI 2)) <|
 obind (enc_Layout_CodeL n [(D.agg [(celD v12 0), (celD v12 1), (celD v12 2)]), (D.sl 1 [[(eI 1)], [(eI 2)]])]) fun v24 =>
 obind (extP 0 v24) fun v25 =>
 obind (extP 1 v24) fun v26 =>
 og (oneP (eB true)) <|
 og (oneP (eB true)) <|
 og (oneP (eB false)) <|
 og (oneP (eB true)) <|
 obind (enc_Layout_StateL n [(D.agg [(celD v12 0), (celD v12 1), (celD v12 2)]), (D.sl 1 [[(eB true)], [(eB true)], [(eB false)], [(eB true)]])]) fun v30 =>
 obind (extP 0 v30) fun v31 =>
 obind (extP 1 v30) fun v32 =>
 obind (binP false .eql v26 (eI 0)) fun v34 =>
 obind (gD v34 true (
 obind (lenP v25) fun v37 =>
 obind (binP false .eql v37 (eI 4)) fun v38 =>
 some v38
)) fun v38 =>
 obind (pickP v34 v38 (eB false)) fun v39 =>
 obind (gD v39 true (
 obind (ixP 1 v25 (eI 0)) fun c42 =>
 obind (atP false 1 0 c42) fun v43 =>
 some v43
)) fun v43 =>
 obind (pickP v39 v43 (eB false)) fun v44 =>
 obind (gD v44 true (
 obind (ixP 1 v25 (eI 1)) fun c47 =>
 obind (atP false 1 0 c47) fun v48 =>
 some v48
)) fun v48 =>
 obind (pickP v44 v48 (eB false)) fun v49 =>
 obind (gD v49 true (
 obind (ixP 1 v25 (eI 2)) fun c52 =>
 obind (atP false 1 0 c52) fun v53 =>
 some v53
)) fun v53 =>
 obind (pickP v49 v53 (eB false)) fun v54 =>
 obind (gD v54 true (
 obind (ixP 1 v25 (eI 3)) fun c57 =>
 obind (atP false 1 0 c57) fun v58 =>
 obind (unP .not v58) fun v59 =>
 some v59
)) fun v59 =>
 obind (pickP v54 v59 (eB false)) fun v60 =>
 obind (gD v60 true (
 obind (binP false .eql v32 (eI 21)) fun v63 =>
 some v63
)) fun v63 =>
 obind (pickP v60 v63 (eB false)) fun v64 =>
 obind (gD v64 true (
 obind (enc_Layout_IndexL n [(D.agg [(celD v12 0), (celD v12 1), (celD v12 2)]), (eS ⟨#[110]⟩)]) fun v67 =>
 obind (binP false .eql v67 (eI 1)) fun v68 =>
 some v68
)) fun v68 =>
 obind (pickP v64 v68 (eB false)) fun v69 =>
 some v69
)

def law37_livesL (n : Nat) : List D → Option D
  | [] => law37_lives n
  | _ => none
def ref29_letter (n : Nat) (a0 : D) : Option D :=
 obind (binP false .geq a0 (D.val (.int .u8 97))) fun v4 =>
 obind (gD v4 true (
 obind (binP false .leq a0 (D.val (.int .u8 122))) fun v7 =>
 some v7
)) fun v7 =>
 obind (pickP v4 v7 (eB false)) fun v8 =>
 obind (gD v8 false (
 obind (binP false .geq a0 (D.val (.int .u8 65))) fun v11 =>
 some v11
)) fun v12 =>
 obind (gD v12 true (
 obind (binP false .leq a0 (D.val (.int .u8 90))) fun v14 =>
 some v14
)) fun v14 =>
 obind (gD v8 false (
 obind (pickP v12 v14 (eB false)) fun v15 =>
 some v15
)) fun v15 =>
 obind (pickP v8 (eB true) v15) fun v16 =>
 some v16

def ref29_letterL (n : Nat) : List D → Option D
  | [a0] => ref29_letter n a0
  | _ => none
def ref29_digit (n : Nat) (a0 : D) : Option D :=
 obind (binP false .geq a0 (D.val (.int .u8 48))) fun v4 =>
 obind (gD v4 true (
 obind (binP false .leq a0 (D.val (.int .u8 57))) fun v7 =>
 some v7
)) fun v7 =>
 obind (pickP v4 v7 (eB false)) fun v8 =>
 some v8

def ref29_digitL (n : Nat) : List D → Option D
  | [a0] => ref29_digit n a0
  | _ => none
def ref29_row_l1 (n : Nat) (ls : List D) : Option (List D ⊕ (List D ⊕ D)) :=
 obind (lensP (pd ls 0)) fun v9 =>
 obind (binP false .lss (pd ls 1) v9) fun v10 =>
 obind (gD v10 true (
 obind (sixP (pd ls 0) (pd ls 1)) fun v14 =>
 obind (ref29_digitL n [v14]) fun v15 =>
 some v15
)) fun v16 =>
 obind (gD v16 false (
 obind (unP .not (pd ls 2)) fun v18 =>
 some v18
)) fun v19 =>
 obind (gD v19 true (
 obind (sixP (pd ls 0) (pd ls 1)) fun v22 =>
 obind (ref29_letterL n [v22]) fun v23 =>
 some v23
)) fun v24 =>
 obind (gD v24 false (
 obind (sixP (pd ls 0) (pd ls 1)) fun v27 =>
 obind (binP false .eql v27 (D.val (.int .u8 95))) fun v28 =>
 some v28
)) fun v28 =>
 obind (gD v19 true (
 obind (pickP v24 (eB true) v28) fun v29 =>
 some v29
)) fun v29 =>
 obind (gD v16 false (
 obind (pickP v19 v29 (eB false)) fun v30 =>
 some v30
)) fun v30 =>
 obind (gD v10 true (
 obind (pickP v16 (eB true) v30) fun v31 =>
 some v31
)) fun v31 =>
 obind (pickP v10 v31 (eB false)) fun v32 =>
 oif v32 (
 obind (binP false .add (pd ls 1) (eI 1)) fun v34 =>
 some (.inl [(pd ls 0), v34, (pd ls 2)])
) (
 inrX (
 some (.inl [(pd ls 1)])
)
)

def ref29_row (n : Nat) (a0 : D) (a1 : D) (a2 : D) : Option D :=
 obind (
 iterL (ref29_row_l1 n) n [a0, a1, a2]
) <| jnX fun ls =>
 some (pd ls 0)

def ref29_rowL (n : Nat) : List D → Option D
  | [a0, a1, a2] => ref29_row n a0 a1 a2
  | _ => none
def ref29_Words (n : Nat) : Option D :=
 og (oneP (eS ⟨#[65]⟩)) <|
 og (oneP (eS ⟨#[65, 70]⟩)) <|
 og (oneP (eS ⟨#[65, 71]⟩)) <|
 og (oneP (eS ⟨#[65, 88]⟩)) <|
 og (oneP (eS ⟨#[69]⟩)) <|
 og (oneP (eS ⟨#[69, 70]⟩)) <|
 og (oneP (eS ⟨#[69, 71]⟩)) <|
 og (oneP (eS ⟨#[69, 88]⟩)) <|
 og (oneP (eS ⟨#[85]⟩)) <|
 og (oneP (eS ⟨#[98, 111, 111, 108]⟩)) <|
 og (oneP (eS ⟨#[100, 101, 102]⟩)) <|
 og (oneP (eS ⟨#[101, 108, 115, 101]⟩)) <|
 og (oneP (eS ⟨#[102, 97, 105, 114]⟩)) <|
 og (oneP (eS ⟨#[102, 97, 108, 115, 101]⟩)) <|
 og (oneP (eS ⟨#[105, 102]⟩)) <|
 og (oneP (eS ⟨#[105, 110, 105, 116]⟩)) <|
 og (oneP (eS ⟨#[105, 110, 118, 97, 114]⟩)) <|
 og (oneP (eS ⟨#[109, 111, 100]⟩)) <|
 og (oneP (eS ⟨#[110, 101, 120, 116]⟩)) <|
 og (oneP (eS ⟨#[115, 112, 101, 99]⟩)) <|
 og (oneP (eS ⟨#[116, 104, 101, 110]⟩)) <|
 og (oneP (eS ⟨#[116, 114, 97, 110, 115]⟩)) <|
 og (oneP (eS ⟨#[116, 114, 117, 101]⟩)) <|
 og (oneP (eS ⟨#[118, 97, 114]⟩)) <|
 some (D.sl 1 [[(eS ⟨#[65]⟩)], [(eS ⟨#[65, 70]⟩)], [(eS ⟨#[65, 71]⟩)], [(eS ⟨#[65, 88]⟩)], [(eS ⟨#[69]⟩)], [(eS ⟨#[69, 70]⟩)], [(eS ⟨#[69, 71]⟩)], [(eS ⟨#[69, 88]⟩)], [(eS ⟨#[85]⟩)], [(eS ⟨#[98, 111, 111, 108]⟩)], [(eS ⟨#[100, 101, 102]⟩)], [(eS ⟨#[101, 108, 115, 101]⟩)], [(eS ⟨#[102, 97, 105, 114]⟩)], [(eS ⟨#[102, 97, 108, 115, 101]⟩)], [(eS ⟨#[105, 102]⟩)], [(eS ⟨#[105, 110, 105, 116]⟩)], [(eS ⟨#[105, 110, 118, 97, 114]⟩)], [(eS ⟨#[109, 111, 100]⟩)], [(eS ⟨#[110, 101, 120, 116]⟩)], [(eS ⟨#[115, 112, 101, 99]⟩)], [(eS ⟨#[116, 104, 101, 110]⟩)], [(eS ⟨#[116, 114, 97, 110, 115]⟩)], [(eS ⟨#[116, 114, 117, 101]⟩)], [(eS ⟨#[118, 97, 114]⟩)]])

def ref29_WordsL (n : Nat) : List D → Option D
  | [] => ref29_Words n
  | _ => none
def ref29_among_l2 (n : Nat) (ls : List D) : Option (List D ⊕ (List D ⊕ D)) :=
 obind (lenP (pd ls 0)) fun v8 =>
 obind (binP false .lss (pd ls 2) v8) fun v9 =>
 oif v9 (
 obind (ixP 1 (pd ls 0) (pd ls 2)) fun c14 =>
 obind (atP false 1 0 c14) fun v15 =>
 obind (binP false .eql v15 (pd ls 1)) fun v17 =>
 oif v17 (
 inrX (
 inrX (
 some (eB true)
)
)
) (
 obind (binP false .add (pd ls 2) (eI 1)) fun v11 =>
 some (.inl [(pd ls 0), (pd ls 1), v11])
)
) (
 inrX (
 some (.inl [])
)
)

def ref29_among (n : Nat) (a0 : D) (a1 : D) : Option D :=
 obind (
 iterL (ref29_among_l2 n) n [a0, a1, (eI 0)]
) <| jnX fun ls =>
 some (eB false)

def ref29_amongL (n : Nat) : List D → Option D
  | [a0, a1] => ref29_among n a0 a1
  | _ => none
def ref29_Is (n : Nat) (a0 : D) : Option D :=
 obind (lensP a0) fun v4 =>
 obind (binP false .geq v4 (eI 1)) fun v5 =>
 obind (gD v5 true (
 obind (lensP a0) fun v8 =>
 obind (binP false .leq v8 (eI 24)) fun v9 =>
 some v9
)) fun v9 =>
 obind (pickP v5 v9 (eB false)) fun v10 =>
 obind (gD v10 true (
 obind (sixP a0 (eI 0)) fun v13 =>
 obind (ref29_letterL n [v13]) fun v14 =>
 some v14
)) fun v14 =>
 obind (pickP v10 v14 (eB false)) fun v15 =>
 obind (gD v15 true (
 obind (ref29_rowL n [a0, (eI 0), (eB false)]) fun v18 =>
 obind (lensP a0) fun v20 =>
 obind (binP false .eql v18 v20) fun v21 =>
 some v21
)) fun v21 =>
 obind (pickP v15 v21 (eB false)) fun v22 =>
 obind (gD v22 true (
 obind (ref29_WordsL n []) fun v24 =>
 obind (ref29_amongL n [v24, a0]) fun v26 =>
 obind (unP .not v26) fun v27 =>
 some v27
)) fun v27 =>
 obind (pickP v22 v27 (eB false)) fun v28 =>
 some v28

def ref29_IsL (n : Nat) : List D → Option D
  | [a0] => ref29_Is n a0
  | _ => none
def ref36_number (n : Nat) (a0 : D) : Option D :=
 obind (binP false .geq a0 (eI (-255))) fun v4 =>
 obind (gD v4 true (
 obind (binP false .leq a0 (eI 255)) fun v7 =>
 some v7
)) fun v7 =>
 obind (pickP v4 v7 (eB false)) fun v8 =>
 some v8

def ref36_numberL (n : Nat) : List D → Option D
  | [a0] => ref36_number n a0
  | _ => none
def ref36_Span (n : Nat) (a0 : D) : Option D :=
 og (aggP 4 a0) <|
 oif (celD a0 1) (
 some (eI 2)
) (
 obind (binP false .gtr (celD a0 2) (celD a0 3)) fun v10 =>
 oif v10 (
 some (eI 0)
) (
 obind (cvP .u64 (celD a0 3)) fun v13 =>
 obind (cvP .u64 (celD a0 2)) fun v16 =>
 obind (binP false .sub v13 v16) fun v17 =>
 obind (binP false .gtr v17 (D.val (.int .u64 1073741824))) fun v19 =>
 obind (
 oif v19 (
 some (.inl [(D.val (.int .u64 1073741824))])
) (
 some (.inl [v17])
)
) <| jnX fun ls =>
 obind (cvP .i64 (pd ls 0)) fun v21 =>
 obind (binP false .add v21 (eI 1)) fun v22 =>
 some v22
)
)

def ref36_SpanL (n : Nat) : List D → Option D
  | [a0] => ref36_Span n a0
  | _ => none
def ref36_Vars_l7 (n : Nat) (ls : List D) : Option (List D ⊕ (List D ⊕ (List D ⊕ (List D ⊕ (List D ⊕ D))))) :=
 obind (binP false .lss (pd ls 2) (pd ls 1)) fun v22 =>
 oif v22 (
 obind (ixP 4 (pd ls 0) (pd ls 2)) fun c27 =>
 obind (atP false 1 0 c27) fun v29 =>
 obind (ixP 4 (pd ls 0) (pd ls 1)) fun c32 =>
 obind (atP false 1 0 c32) fun v34 =>
 obind (binP false .eql v29 v34) fun v35 =>
 oif v35 (
 inrX (
 inrX (
 inrX (
 inrX (
 inrX (
 some (D.tup [(pd ls 1), (eI 6)])
)
)
)
)
)
) (
 obind (binP false .add (pd ls 2) (eI 1)) fun v24 =>
 some (.inl [(pd ls 0), (pd ls 1), v24])
)
) (
 inrX (
 some (.inl [(pd ls 0), (pd ls 1)])
)
)

def ref36_Vars_l2 (n : Nat) (ls : List D) : Option (List D ⊕ (List D ⊕ D)) :=
 obind (lenP (pd ls 0)) fun v8 =>
 obind (binP false .lss (pd ls 1) v8) fun v9 =>
 oif v9 (
 obind (
 obind (ixP 4 (pd ls 0) (pd ls 1)) fun c14 =>
 obind (atP false 1 0 c14) fun v16 =>
 obind (ref29_IsL n [v16]) fun v17 =>
 obind (unP .not v17) fun v18 =>
 oif v18 (
 inrX (
 inrX (
 inrX (
 some (D.tup [(pd ls 1), (eI 12)])
)
)
)
) (
 obind (
 iterL (ref36_Vars_l7 n) n [(pd ls 0), (pd ls 1), (eI 0)]
) <| jnX fun ls =>
 obind (ixP 4 (pd ls 0) (pd ls 1)) fun c39 =>
 obind (atP false 1 1 c39) fun v41 =>
 obind (gD v41 true (
 obind (ixP 4 (pd ls 0) (pd ls 1)) fun c45 =>
 obind (atP false 1 2 c45) fun v47 =>
 obind (binP false .neq v47 (eI 0)) fun v48 =>
 some v48
)) fun v49 =>
 obind (gD v49 false (
 obind (ixP 4 (pd ls 0) (pd ls 1)) fun c52 =>
 obind (atP false 1 3 c52) fun v54 =>
 obind (binP false .neq v54 (eI 0)) fun v55 =>
 some v55
)) fun v55 =>
 obind (gD v41 true (
 obind (pickP v49 (eB true) v55) fun v56 =>
 some v56
)) fun v56 =>
 obind (pickP v41 v56 (eB false)) fun v57 =>
 oif v57 (
 inrX (
 inrX (
 inrX (
 some (D.tup [(pd ls 1), (eI 3)])
)
)
)
) (
 obind (ixP 4 (pd ls 0) (pd ls 1)) fun c61 =>
 obind (atP false 1 1 c61) fun v63 =>
 obind (unP .not v63) fun v64 =>
 obind (gD v64 true (
 obind (ixP 4 (pd ls 0) (pd ls 1)) fun c68 =>
 obind (atP false 1 2 c68) fun v70 =>
 obind (ixP 4 (pd ls 0) (pd ls 1)) fun c73 =>
 obind (atP false 1 3 c73) fun v75 =>
 obind (binP false .gtr v70 v75) fun v76 =>
 some v76
)) fun v77 =>
 obind (gD v77 false (
 obind (ixP 4 (pd ls 0) (pd ls 1)) fun c80 =>
 obind (atP false 1 2 c80) fun v82 =>
 obind (ref36_numberL n [v82]) fun v83 =>
 obind (unP .not v83) fun v84 =>
 some v84
)) fun v84 =>
 obind (gD v64 true (
 obind (pickP v77 (eB true) v84) fun v85 =>
 some v85
)) fun v86 =>
 obind (gD v86 false (
 obind (ixP 4 (pd ls 0) (pd ls 1)) fun c89 =>
 obind (atP false 1 3 c89) fun v91 =>
 obind (ref36_numberL n [v91]) fun v92 =>
 obind (unP .not v92) fun v93 =>
 some v93
)) fun v93 =>
 obind (gD v64 true (
 obind (pickP v86 (eB true) v93) fun v94 =>
 some v94
)) fun v95 =>
 obind (gD v95 false (
 obind (ixP 4 (pd ls 0) (pd ls 1)) fun c98 =>
 obind (atP true 4 0 c98) fun v99 =>
 obind (ref36_SpanL n [v99]) fun v100 =>
 obind (binP false .gtr v100 (eI 64)) fun v101 =>
 some v101
)) fun v101 =>
 obind (gD v64 true (
 obind (pickP v95 (eB true) v101) fun v102 =>
 some v102
)) fun v102 =>
 obind (pickP v64 v102 (eB false)) fun v103 =>
 oif v103 (
 inrX (
 inrX (
 inrX (
 some (D.tup [(pd ls 1), (eI 2)])
)
)
)
) (
 some (.inl [(pd ls 0), (pd ls 1)])
)
)
)
) <| jnX fun ls =>
 obind (binP false .add (pd ls 1) (eI 1)) fun v11 =>
 some (.inl [(pd ls 0), v11])
) (
 inrX (
 some (.inl [])
)
)

def ref36_Vars (n : Nat) (a0 : D) : Option D :=
 obind (
 iterL (ref36_Vars_l2 n) n [a0, (eI 0)]
) <| jnX fun ls =>
 some (D.tup [(eI 0), (eI 0)])

def ref36_VarsL (n : Nat) : List D → Option D
  | [a0] => ref36_Vars n a0
  | _ => none
def ref01_Bits_l2 (n : Nat) (ls : List D) : Option (List D ⊕ (List D ⊕ D)) :=
 obind (binP false .gtr (pd ls 0) (eI 1)) fun v5 =>
 oif v5 (
 obind (binP false .quo (pd ls 0) (eI 2)) fun v7 =>
 obind (binP false .rem (pd ls 0) (eI 2)) fun v9 =>
 obind (binP false .add v7 v9) fun v10 =>
 obind (binP false .add (pd ls 1) (eI 1)) fun v12 =>
 some (.inl [v10, v12])
) (
 inrX (
 some (.inl [(pd ls 1)])
)
)

def ref01_Bits (n : Nat) (a0 : D) : Option D :=
 obind (
 iterL (ref01_Bits_l2 n) n [a0, (eI 0)]
) <| jnX fun ls =>
 some (pd ls 0)

def ref01_BitsL (n : Nat) : List D → Option D
  | [a0] => ref01_Bits n a0
  | _ => none
def ref37_Of_l7 (n : Nat) (ls : List D) : Option (List D ⊕ (List D ⊕ D)) :=
 obind (lenP (pd ls 0)) fun v23 =>
 obind (binP false .lss (pd ls 2) v23) fun v24 =>
 oif v24 (
 obind (ixP 4 (pd ls 0) (pd ls 2)) fun c29 =>
 obind (atP true 4 0 c29) fun v30 =>
 obind (ref36_SpanL n [v30]) fun v31 =>
 obind (ref01_BitsL n [v31]) fun v32 =>
 og (oneP v32) <|
 og (decide (1 = 1 ∨ [[v32]] = []) && decide (0 < 1)) <|
 og (roomP (((esD (pd ls 7))).length + ([[v32]]).length) 8) <|
 og (oneP (pd ls 1)) <|
 og (decide (1 = 1 ∨ [[(pd ls 1)]] = []) && decide (0 < 1)) <|
 og (roomP (((esD (pd ls 8))).length + ([[(pd ls 1)]]).length) 8) <|
 obind (binP false .add (pd ls 1) v32) fun v47 =>
 obind (binP false .add (pd ls 2) (eI 1)) fun v26 =>
 some (.inl [(pd ls 0), v47, v26, (pd ls 3), (pd ls 4), (pd ls 5), (pd ls 6), (D.sl 1 ((esD (pd ls 7)) ++ [[v32]])), (D.sl 1 ((esD (pd ls 8)) ++ [[(pd ls 1)]]))])
) (
 inrX (
 some (.inl [(pd ls 1), (pd ls 3), (pd ls 4), (pd ls 5), (pd ls 6), (D.sl 1 (esD (pd ls 7))), (D.sl 1 (esD (pd ls 8)))])
)
)

def ref37_Of (n : Nat) (a0 : D) : Option D :=
 obind (ref36_VarsL n [a0]) fun v12 =>
 obind (extP 0 v12) fun v13 =>
 obind (extP 1 v12) fun v14 =>
 obind (binP false .neq v14 (eI 0)) fun v16 =>
 oif v16 (
 og (aggP 3 (D.agg [(D.val (.slice none 0 0)), (D.val (.slice none 0 0)), (D.val (.slice none 0 0))])) <|
 some (D.tup [(D.agg [(celD (D.agg [(D.val (.slice none 0 0)), (D.val (.slice none 0 0)), (D.val (.slice none 0 0))]) 0), (celD (D.agg [(D.val (.slice none 0 0)), (D.val (.slice none 0 0)), (D.val (.slice none 0 0))]) 1), (celD (D.agg [(D.val (.slice none 0 0)), (D.val (.slice none 0 0)), (D.val (.slice none 0 0))]) 2)]), v14])
) (
 og (oneP a0) <|
 og (aggP 3 (D.agg [a0, (D.val (.slice none 0 0)), (D.val (.slice none 0 0))])) <|
 obind (
 og (nilP (celD (D.agg [a0, (D.val (.slice none 0 0)), (D.val (.slice none 0 0))]) 1)) <|
 og (nilP (celD (D.agg [a0, (D.val (.slice none 0 0)), (D.val (.slice none 0 0))]) 2)) <|
 iterL (ref37_Of_l7 n) n [a0, (eI 0), (eI 0), (D.val (.slice none 0 0)), (D.val (.slice none 0 0)), (D.val (.slice none 0 0)), (celD (D.agg [a0, (D.val (.slice none 0 0)), (D.val (.slice none 0 0))]) 0), (D.sl 1 []), (D.sl 1 [])]
) <| jnX fun ls =>
 obind (binP false .gtr (pd ls 0) (eI 30)) fun v49 =>
 oif v49 (
 og (aggP 3 (D.agg [(D.val (.slice none 0 0)), (D.val (.slice none 0 0)), (D.val (.slice none 0 0))])) <|
 some (D.tup [(D.agg [(celD (D.agg [(D.val (.slice none 0 0)), (D.val (.slice none 0 0)), (D.val (.slice none 0 0))]) 0), (celD (D.agg [(D.val (.slice none 0 0)), (D.val (.slice none 0 0)), (D.val (.slice none 0 0))]) 1), (celD (D.agg [(D.val (.slice none 0 0)), (D.val (.slice none 0 0)), (D.val (.slice none 0 0))]) 2)]), (eI 18)])
) (
 og (oneP (pd ls 4)) <|
 some (D.tup [(D.agg [(pd ls 4), (D.sl 1 (esD (pd ls 5))), (D.sl 1 (esD (pd ls 6)))]), (eI 0)])
)
)

def ref37_OfL (n : Nat) : List D → Option D
  | [a0] => ref37_Of n a0
  | _ => none
def ref37_ends (n : Nat) (a0 : D) : Option D :=
 og (aggP 4 a0) <|
 oif (celD a0 1) (
 some (D.tup [(eI 0), (eI 1)])
) (
 some (D.tup [(celD a0 2), (celD a0 3)])
)

def ref37_endsL (n : Nat) : List D → Option D
  | [a0] => ref37_ends n a0
  | _ => none
def ref37_Code_l12 (n : Nat) (ls : List D) : Option (List D ⊕ (List D ⊕ (List D ⊕ (List D ⊕ (List D ⊕ D))))) :=
 obind (ixP 1 (pd ls 5) (pd ls 1)) fun c57 =>
 obind (atP false 1 0 c57) fun v58 =>
 obind (binP false .lss (pd ls 3) v58) fun v59 =>
 oif v59 (
 obind (binP false .rem (pd ls 2) (eI 2)) fun v64 =>
 obind (binP false .eql v64 (eI 1)) fun v65 =>
 og (oneP v65) <|
 og (decide (1 = 1 ∨ [[v65]] = []) && decide (0 < 1)) <|
 og (roomP (((esD (pd ls 7))).length + ([[v65]]).length) 1) <|
 obind (binP false .quo (pd ls 2) (eI 2)) fun v69 =>
 obind (binP false .add (pd ls 3) (eI 1)) fun v61 =>
 some (.inl [(pd ls 0), (pd ls 1), v69, v61, (pd ls 4), (pd ls 5), (pd ls 6), (D.sl 1 ((esD (pd ls 7)) ++ [[v65]]))])
) (
 inrX (
 some (.inl [(pd ls 0), (pd ls 1), (pd ls 4), (pd ls 5), (pd ls 6), (D.sl 1 (esD (pd ls 7)))])
)
)

def ref37_Code_l5 (n : Nat) (ls : List D) : Option (List D ⊕ (List D ⊕ D)) :=
 obind (lenP (pd ls 0)) fun v20 =>
 obind (binP false .lss (pd ls 1) v20) fun v21 =>
 oif v21 (
 obind (
 obind (ixP 4 (pd ls 2) (pd ls 1)) fun c28 =>
 obind (atP true 4 0 c28) fun v29 =>
 obind (ref37_endsL n [v29]) fun v30 =>
 obind (extP 0 v30) fun v31 =>
 obind (extP 1 v30) fun v32 =>
 obind (ixP 1 (pd ls 0) (pd ls 1)) fun c35 =>
 obind (atP false 1 0 c35) fun v36 =>
 obind (binP false .lss v36 v31) fun v38 =>
 obind (gD v38 false (
 obind (ixP 1 (pd ls 0) (pd ls 1)) fun c42 =>
 obind (atP false 1 0 c42) fun v43 =>
 obind (binP false .gtr v43 v32) fun v45 =>
 some v45
)) fun v45 =>
 obind (pickP v38 (eB true) v45) fun v46 =>
 oif v46 (
 inrX (
 inrX (
 inrX (
 some (D.tup [(D.val (.slice none 0 0)), (eI 21)])
)
)
)
) (
 obind (ixP 1 (pd ls 0) (pd ls 1)) fun c49 =>
 obind (atP false 1 0 c49) fun v50 =>
 obind (binP false .sub v50 v31) fun v52 =>
 obind (
 iterL (ref37_Code_l12 n) n [(pd ls 0), (pd ls 1), v52, (eI 0), (pd ls 2), (pd ls 3), (pd ls 4), (D.sl 1 (esD (pd ls 5)))]
) <| jnX fun ls =>
 some (.inl [(pd ls 0), (pd ls 1), (pd ls 2), (pd ls 3), (pd ls 4), (D.sl 1 (esD (pd ls 5)))])
)
) <| jnX fun ls =>
 obind (binP false .add (pd ls 1) (eI 1)) fun v23 =>
 some (.inl [(pd ls 0), v23, (pd ls 2), (pd ls 3), (pd ls 4), (D.sl 1 (esD (pd ls 5)))])
) (
 inrX (
 some (.inl [(D.sl 1 (esD (pd ls 5)))])
)
)

def ref37_Code (n : Nat) (a0 : D) (a1 : D) : Option D :=
 og (aggP 3 a0) <|
 obind (lenP a1) fun v13 =>
 obind (lenP (celD a0 0)) fun v16 =>
 obind (binP false .neq v13 v16) fun v17 =>
 oif v17 (
 some (D.tup [(D.val (.slice none 0 0)), (eI 21)])
) (
 obind (
 og (nilP (D.val (.slice none 0 0))) <|
 iterL (ref37_Code_l5 n) n [a1, (eI 0), (celD a0 0), (celD a0 1), (celD a0 2), (D.sl 1 [])]
) <| jnX fun ls =>
 some (D.tup [(D.sl 1 (esD (pd ls 0))), (eI 0)])
)

def ref37_CodeL (n : Nat) : List D → Option D
  | [a0, a1] => ref37_Code n a0 a1
  | _ => none
def ref37_Total_l3 (n : Nat) (ls : List D) : Option (List D ⊕ (List D ⊕ D)) :=
 obind (lenP (pd ls 3)) fun v8 =>
 obind (binP false .lss (pd ls 1) v8) fun v9 =>
 oif v9 (
 obind (ixP 1 (pd ls 3) (pd ls 1)) fun c16 =>
 obind (atP false 1 0 c16) fun v17 =>
 obind (binP false .add (pd ls 0) v17) fun v18 =>
 obind (binP false .add (pd ls 1) (eI 1)) fun v11 =>
 some (.inl [v18, v11, (pd ls 2), (pd ls 3), (pd ls 4)])
) (
 inrX (
 some (.inl [(pd ls 0)])
)
)

def ref37_Total (n : Nat) (a0 : D) : Option D :=
 og (aggP 3 a0) <|
 obind (
 iterL (ref37_Total_l3 n) n [(eI 0), (eI 0), (celD a0 0), (celD a0 1), (celD a0 2)]
) <| jnX fun ls =>
 some (pd ls 0)

def ref37_TotalL (n : Nat) : List D → Option D
  | [a0] => ref37_Total n a0
  | _ => none
def ref37_State_l10 (n : Nat) (ls : List D) : Option (List D ⊕ (List D ⊕ (List D ⊕ (List D ⊕ (List D ⊕ D))))) :=
 obind (binP false .geq (pd ls 5) (eI 0)) fun v40 =>
 oif v40 (
 obind (
 obind (binP false .mul (eI 2) (pd ls 4)) fun v44 =>
 obind (ixP 1 (pd ls 8) (pd ls 1)) fun c49 =>
 obind (atP false 1 0 c49) fun v50 =>
 obind (binP false .add v50 (pd ls 5)) fun v52 =>
 obind (ixP 1 (pd ls 0) v52) fun c53 =>
 obind (atP false 1 0 c53) fun v54 =>
 obind (
 oif v54 (
 obind (binP false .add v44 (eI 1)) fun v56 =>
 some (.inl [(pd ls 0), (pd ls 1), (pd ls 2), (pd ls 3), v56, (pd ls 5), (pd ls 6), (pd ls 7), (pd ls 8), (D.sl 1 (esD (pd ls 9)))])
) (
 some (.inl [(pd ls 0), (pd ls 1), (pd ls 2), (pd ls 3), v44, (pd ls 5), (pd ls 6), (pd ls 7), (pd ls 8), (D.sl 1 (esD (pd ls 9)))])
)
) <| jnX fun ls =>
 some (.inl [(pd ls 0), (pd ls 1), (pd ls 2), (pd ls 3), (pd ls 4), (pd ls 5), (pd ls 6), (pd ls 7), (pd ls 8), (D.sl 1 (esD (pd ls 9)))])
) <| jnX fun ls =>
 obind (binP false .sub (pd ls 5) (eI 1)) fun v42 =>
 some (.inl [(pd ls 0), (pd ls 1), (pd ls 2), (pd ls 3), (pd ls 4), v42, (pd ls 6), (pd ls 7), (pd ls 8), (D.sl 1 (esD (pd ls 9)))])
) (
 inrX (
 some (.inl [(pd ls 0), (pd ls 1), (pd ls 2), (pd ls 3), (pd ls 4), (pd ls 6), (pd ls 7), (pd ls 8), (D.sl 1 (esD (pd ls 9)))])
)
)

def ref37_State_l5 (n : Nat) (ls : List D) : Option (List D ⊕ (List D ⊕ D)) :=
 obind (lenP (pd ls 2)) fun v20 =>
 obind (binP false .lss (pd ls 1) v20) fun v21 =>
 oif v21 (
 obind (
 obind (ixP 4 (pd ls 2) (pd ls 1)) fun c28 =>
 obind (atP true 4 0 c28) fun v29 =>
 obind (ref37_endsL n [v29]) fun v30 =>
 obind (extP 0 v30) fun v31 =>
 obind (extP 1 v30) fun v32 =>
 obind (ixP 1 (pd ls 3) (pd ls 1)) fun c36 =>
 obind (atP false 1 0 c36) fun v37 =>
 obind (binP false .sub v37 (eI 1)) fun v38 =>
 obind (
 iterL (ref37_State_l10 n) n [(pd ls 0), (pd ls 1), v31, v32, (eI 0), v38, (pd ls 2), (pd ls 3), (pd ls 4), (D.sl 1 (esD (pd ls 5)))]
) <| jnX fun ls =>
 obind (binP false .sub (pd ls 3) (pd ls 2)) fun v60 =>
 obind (binP false .gtr (pd ls 4) v60) fun v61 =>
 oif v61 (
 inrX (
 inrX (
 inrX (
 some (D.tup [(D.val (.slice none 0 0)), (eI 21)])
)
)
)
) (
 obind (binP false .add (pd ls 2) (pd ls 4)) fun v65 =>
 og (oneP v65) <|
 og (decide (1 = 1 ∨ [[v65]] = []) && decide (0 < 1)) <|
 og (roomP (((esD (pd ls 8))).length + ([[v65]]).length) 8) <|
 some (.inl [(pd ls 0), (pd ls 1), (pd ls 5), (pd ls 6), (pd ls 7), (D.sl 1 ((esD (pd ls 8)) ++ [[v65]]))])
)
) <| jnX fun ls =>
 obind (binP false .add (pd ls 1) (eI 1)) fun v23 =>
 some (.inl [(pd ls 0), v23, (pd ls 2), (pd ls 3), (pd ls 4), (D.sl 1 (esD (pd ls 5)))])
) (
 inrX (
 some (.inl [(D.sl 1 (esD (pd ls 5)))])
)
)

def ref37_State (n : Nat) (a0 : D) (a1 : D) : Option D :=
 og (aggP 3 a0) <|
 obind (lenP a1) fun v13 =>
 obind (ref37_TotalL n [(D.agg [(celD a0 0), (celD a0 1), (celD a0 2)])]) fun v15 =>
 obind (binP false .neq v13 v15) fun v16 =>
 oif v16 (
 some (D.tup [(D.val (.slice none 0 0)), (eI 3)])
) (
 obind (
 og (nilP (D.val (.slice none 0 0))) <|
 iterL (ref37_State_l5 n) n [a1, (eI 0), (celD a0 0), (celD a0 1), (celD a0 2), (D.sl 1 [])]
) <| jnX fun ls =>
 some (D.tup [(D.sl 1 (esD (pd ls 0))), (eI 0)])
)

def ref37_StateL (n : Nat) : List D → Option D
  | [a0, a1] => ref37_State n a0 a1
  | _ => none
def law37_bits_l4 (n : Nat) (ls : List D) : Option (List D ⊕ (List D ⊕ D)) :=
 obind (binP false .lss (pd ls 3) (pd ls 2)) fun v14 =>
 oif v14 (
 obind (ixP 1 (pd ls 0) (pd ls 3)) fun c18 =>
 obind (atP false 1 0 c18) fun v19 =>
 obind (ixP 1 (pd ls 1) (pd ls 3)) fun c22 =>
 obind (atP false 1 0 c22) fun v23 =>
 obind (binP true .neq v19 v23) fun v24 =>
 oif v24 (
 inrX (
 inrX (
 some (eB false)
)
)
) (
 obind (binP false .add (pd ls 3) (eI 1)) fun v25 =>
 some (.inl [(pd ls 0), (pd ls 1), (pd ls 2), v25])
)
) (
 inrX (
 some (.inl [])
)
)

def law37_bits (n : Nat) (a0 : D) (a1 : D) : Option D :=
 obind (lenP a0) fun v7 =>
 obind (lenP a1) fun v9 =>
 obind (binP false .neq v7 v9) fun v10 =>
 oif v10 (
 some (eB false)
) (
 obind (lenP a0) fun v12 =>
 obind (
 iterL (law37_bits_l4 n) n [a0, a1, v12, (eI 0)]
) <| jnX fun ls =>
 some (eB true)
)

def law37_bitsL (n : Nat) : List D → Option D
  | [a0, a1] => law37_bits n a0 a1
  | _ => none
def law37_same_l4 (n : Nat) (ls : List D) : Option (List D ⊕ (List D ⊕ D)) :=
 obind (binP false .lss (pd ls 3) (pd ls 2)) fun v14 =>
 oif v14 (
 obind (ixP 1 (pd ls 0) (pd ls 3)) fun c18 =>
 obind (atP false 1 0 c18) fun v19 =>
 obind (ixP 1 (pd ls 1) (pd ls 3)) fun c22 =>
 obind (atP false 1 0 c22) fun v23 =>
 obind (binP false .neq v19 v23) fun v24 =>
 oif v24 (
 inrX (
 inrX (
 some (eB false)
)
)
) (
 obind (binP false .add (pd ls 3) (eI 1)) fun v25 =>
 some (.inl [(pd ls 0), (pd ls 1), (pd ls 2), v25])
)
) (
 inrX (
 some (.inl [])
)
)

def law37_same (n : Nat) (a0 : D) (a1 : D) : Option D :=
 obind (lenP a0) fun v7 =>
 obind (lenP a1) fun v9 =>
 obind (binP false .neq v7 v9) fun v10 =>
 oif v10 (
 some (eB false)
) (
 obind (lenP a0) fun v12 =>
 obind (
 iterL (law37_same_l4 n) n [a0, a1, v12, (eI 0)]
) <| jnX fun ls =>
 some (eB true)
)

def law37_sameL (n : Nat) : List D → Option D
  | [a0, a1] => law37_same n a0 a1
  | _ => none
def law37_EncCodes (n : Nat) (a0 : D) (a1 : D) (a2 : D) : Option D :=
 obind (lenP a0) fun v18 =>
 obind (binP false .gtr v18 (eI 40)) fun v19 =>
 obind (gD v19 false (
 obind (lenP a1) fun v22 =>
 obind (binP false .gtr v22 (eI 100)) fun v23 =>
 some v23
)) fun v23 =>
 obind (pickP v19 (eB true) v23) fun v24 =>
 obind (gD v24 false (
 obind (lenP a2) fun v27 =>
 obind (binP false .gtr v27 (eI 100)) fun v28 =>
 some v28
)) fun v28 =>
 obind (pickP v24 (eB true) v28) fun v29 =>
 oif v29 (
 obind (law37_livesL n []) fun v30 =>
 some v30
) (
 obind (enc_OfL n [a0]) fun v33 =>
 obind (extP 0 v33) fun v34 =>
 obind (extP 1 v33) fun v35 =>
 og (aggP 3 v34) <|
 obind (ref37_OfL n [a0]) fun v38 =>
 obind (extP 0 v38) fun v39 =>
 obind (extP 1 v38) fun v40 =>
 og (aggP 3 v39) <|
 obind (binP false .neq v35 v40) fun v43 =>
 oif v43 (
 some (eB false)
) (
 obind (binP false .neq v40 (eI 0)) fun v45 =>
 oif v45 (
 obind (law37_livesL n []) fun v46 =>
 some v46
) (
 obind (enc_Layout_CodeL n [(D.agg [(celD v34 0), (celD v34 1), (celD v34 2)]), a1]) fun v50 =>
 obind (extP 0 v50) fun v51 =>
 obind (extP 1 v50) fun v52 =>
 obind (ref37_CodeL n [(D.agg [(celD v39 0), (celD v39 1), (celD v39 2)]), a1]) fun v56 =>
 obind (extP 0 v56) fun v57 =>
 obind (extP 1 v56) fun v58 =>
 obind (enc_Layout_StateL n [(D.agg [(celD v34 0), (celD v34 1), (celD v34 2)]), a2]) fun v62 =>
 obind (extP 0 v62) fun v63 =>
 obind (extP 1 v62) fun v64 =>
 obind (ref37_StateL n [(D.agg [(celD v39 0), (celD v39 1), (celD v39 2)]), a2]) fun v68 =>
 obind (extP 0 v68) fun v69 =>
 obind (extP 1 v68) fun v70 =>
 obind (binP false .eql v52 v58) fun v73 =>
 obind (gD v73 true (
 obind (law37_bitsL n [v51, v57]) fun v77 =>
 some v77
)) fun v77 =>
 obind (pickP v73 v77 (eB false)) fun v78 =>
 obind (gD v78 true (
 obind (binP false .eql v64 v70) fun v82 =>
 some v82
)) fun v82 =>
 obind (pickP v78 v82 (eB false)) fun v83 =>
 obind (gD v83 true (
 obind (law37_sameL n [v63, v69]) fun v87 =>
 some v87
)) fun v87 =>
 obind (pickP v83 v87 (eB false)) fun v88 =>
 obind (gD v88 true (
 obind (law37_livesL n []) fun v90 =>
 some v90
)) fun v90 =>
 obind (pickP v88 v90 (eB false)) fun v91 =>
 some v91
)
)
)

def law37_EncCodesL (n : Nat) : List D → Option D
  | [a0, a1, a2] => law37_EncCodes n a0 a1 a2
  | _ => none
def enc_Layout_Now_l5 (n : Nat) (ls : List D) : Option (List D ⊕ (List D ⊕ D)) :=
 obind (binP false .lss (pd ls 2) (pd ls 1)) fun v22 =>
 oif v22 (
 obind (ixP 1 (pd ls 5) (pd ls 0)) fun c28 =>
 obind (atP false 1 0 c28) fun v29 =>
 obind (binP false .add v29 (pd ls 2)) fun v31 =>
 obind (binP false .mul (eI 2) v31) fun v32 =>
 og (oneP v32) <|
 og (decide (1 = 1 ∨ [[v32]] = []) && decide (0 < 1)) <|
 og (roomP (((esD (pd ls 6))).length + ([[v32]]).length) 8) <|
 obind (binP false .add (pd ls 2) (eI 1)) fun v35 =>
 some (.inl [(pd ls 0), (pd ls 1), v35, (pd ls 3), (pd ls 4), (pd ls 5), (D.sl 1 ((esD (pd ls 6)) ++ [[v32]]))])
) (
 inrX (
 some (.inl [(D.sl 1 (esD (pd ls 6)))])
)
)

def enc_Layout_Now (n : Nat) (a0 : D) (a1 : D) : Option D :=
 og (aggP 3 a0) <|
 obind (binP false .lss a1 (eI 0)) fun v8 =>
 obind (gD v8 false (
 obind (lenP (celD a0 1)) fun v13 =>
 obind (binP false .geq a1 v13) fun v14 =>
 some v14
)) fun v14 =>
 obind (pickP v8 (eB true) v14) fun v15 =>
 oif v15 (
 some (D.val (.slice none 0 0))
) (
 obind (ixP 1 (celD a0 1) a1) fun c19 =>
 obind (atP false 1 0 c19) fun v20 =>
 obind (
 og (nilP (D.val (.slice none 0 0))) <|
 iterL (enc_Layout_Now_l5 n) n [a1, v20, (eI 0), (celD a0 0), (celD a0 1), (celD a0 2), (D.sl 1 [])]
) <| jnX fun ls =>
 some (D.sl 1 (esD (pd ls 0)))
)

def enc_Layout_NowL (n : Nat) : List D → Option D
  | [a0, a1] => enc_Layout_Now n a0 a1
  | _ => none
def enc_Layout_Next_l3 (n : Nat) (ls : List D) : Option (List D ⊕ (List D ⊕ D)) :=
 obind (binP false .lss (pd ls 2) (pd ls 1)) fun v13 =>
 oif v13 (
 obind (ixP 1 (pd ls 0) (pd ls 2)) fun c14 =>
 obind (atP false 1 0 c14) fun v15 =>
 obind (binP false .add v15 (eI 1)) fun v18 =>
 og (oneP v18) <|
 og (decide (1 = 1 ∨ [[v18]] = []) && decide (0 < 1)) <|
 og (roomP (((esD (pd ls 3))).length + ([[v18]]).length) 8) <|
 obind (binP false .add (pd ls 2) (eI 1)) fun v21 =>
 some (.inl [(pd ls 0), (pd ls 1), v21, (D.sl 1 ((esD (pd ls 3)) ++ [[v18]]))])
) (
 inrX (
 some (.inl [(D.sl 1 (esD (pd ls 3)))])
)
)

def enc_Layout_Next (n : Nat) (a0 : D) (a1 : D) : Option D :=
 og (aggP 3 a0) <|
 obind (enc_Layout_NowL n [(D.agg [(celD a0 0), (celD a0 1), (celD a0 2)]), a1]) fun v10 =>
 obind (lenP v10) fun v11 =>
 obind (
 og (nilP (D.val (.slice none 0 0))) <|
 iterL (enc_Layout_Next_l3 n) n [v10, v11, (eI 0), (D.sl 1 [])]
) <| jnX fun ls =>
 some (D.sl 1 (esD (pd ls 0)))

def enc_Layout_NextL (n : Nat) : List D → Option D
  | [a0, a1] => enc_Layout_Next n a0 a1
  | _ => none
def law37_EncBack_l24 (n : Nat) (ls : List D) : Option (List D ⊕ (List D ⊕ (List D ⊕ (List D ⊕ (List D ⊕ D))))) :=
 obind (binP false .lss (pd ls 6) (pd ls 5)) fun v115 =>
 oif v115 (
 obind (ixP 1 (pd ls 4) (pd ls 6)) fun c117 =>
 obind (atP false 1 0 c117) fun v118 =>
 obind (binP false .mul (eI 2) (pd ls 0)) fun v121 =>
 obind (binP false .neq v118 v121) fun v122 =>
 obind (gD v122 false (
 obind (ixP 1 (pd ls 1) (pd ls 6)) fun c126 =>
 obind (atP false 1 0 c126) fun v127 =>
 obind (binP false .mul (eI 2) (pd ls 0)) fun v129 =>
 obind (binP false .add v129 (eI 1)) fun v130 =>
 obind (binP false .neq v127 v130) fun v131 =>
 some v131
)) fun v131 =>
 obind (pickP v122 (eB true) v131) fun v132 =>
 oif v132 (
 inrX (
 inrX (
 inrX (
 inrX (
 inrX (
 some (eB false)
)
)
)
)
)
) (
 obind (binP false .add (pd ls 0) (eI 1)) fun v134 =>
 obind (binP false .add (pd ls 6) (eI 1)) fun v135 =>
 some (.inl [v134, (pd ls 1), (pd ls 2), (pd ls 3), (pd ls 4), (pd ls 5), v135, (pd ls 7), (pd ls 8), (pd ls 9)])
)
) (
 inrX (
 some (.inl [(pd ls 0), (pd ls 2), (pd ls 3), (pd ls 7), (pd ls 8), (pd ls 9)])
)
)

def law37_EncBack_l18 (n : Nat) (ls : List D) : Option (List D ⊕ (List D ⊕ D)) :=
 obind (binP false .lss (pd ls 2) (pd ls 1)) fun v98 =>
 oif v98 (
 obind (
 obind (enc_Layout_NextL n [(D.agg [(pd ls 3), (pd ls 4), (pd ls 5)]), (pd ls 2)]) fun v102 =>
 obind (lenP v102) fun v104 =>
 obind (enc_Layout_NowL n [(D.agg [(pd ls 3), (pd ls 4), (pd ls 5)]), (pd ls 2)]) fun v107 =>
 obind (lenP v107) fun v108 =>
 obind (binP false .neq v104 v108) fun v109 =>
 oif v109 (
 inrX (
 inrX (
 inrX (
 some (eB false)
)
)
)
) (
 obind (enc_Layout_NowL n [(D.agg [(pd ls 3), (pd ls 4), (pd ls 5)]), (pd ls 2)]) fun v112 =>
 obind (lenP v112) fun v113 =>
 obind (
 iterL (law37_EncBack_l24 n) n [(pd ls 0), v102, (pd ls 1), (pd ls 2), v112, v113, (eI 0), (pd ls 3), (pd ls 4), (pd ls 5)]
) <| jnX fun ls =>
 some (.inl [(pd ls 0), (pd ls 1), (pd ls 2), (pd ls 3), (pd ls 4), (pd ls 5)])
)
) <| jnX fun ls =>
 obind (binP false .add (pd ls 2) (eI 1)) fun v136 =>
 some (.inl [(pd ls 0), (pd ls 1), v136, (pd ls 3), (pd ls 4), (pd ls 5)])
) (
 inrX (
 some (.inl [(pd ls 0), (pd ls 3), (pd ls 4), (pd ls 5)])
)
)

def law37_EncBack (n : Nat) (a0 : D) (a1 : D) (a2 : D) : Option D :=
 obind (lenP a0) fun v23 =>
 obind (binP false .gtr v23 (eI 40)) fun v24 =>
 obind (gD v24 false (
 obind (lenP a1) fun v27 =>
 obind (binP false .gtr v27 (eI 100)) fun v28 =>
 some v28
)) fun v28 =>
 obind (pickP v24 (eB true) v28) fun v29 =>
 obind (gD v29 false (
 obind (lenP a2) fun v32 =>
 obind (binP false .gtr v32 (eI 100)) fun v33 =>
 some v33
)) fun v33 =>
 obind (pickP v29 (eB true) v33) fun v34 =>
 oif v34 (
 obind (law37_livesL n []) fun v35 =>
 some v35
) (
 obind (enc_OfL n [a0]) fun v38 =>
 obind (extP 0 v38) fun v39 =>
 obind (extP 1 v38) fun v40 =>
 og (aggP 3 v39) <|
 obind (binP false .neq v40 (eI 0)) fun v42 =>
 oif v42 (
 obind (law37_livesL n []) fun v43 =>
 some v43
) (
 obind (enc_Layout_CodeL n [(D.agg [(celD v39 0), (celD v39 1), (celD v39 2)]), a1]) fun v47 =>
 obind (extP 0 v47) fun v48 =>
 obind (extP 1 v47) fun v49 =>
 obind (binP false .eql v49 (eI 0)) fun v51 =>
 obind (
 oif v51 (
 obind (enc_Layout_StateL n [(D.agg [(celD v39 0), (celD v39 1), (celD v39 2)]), v48]) fun v55 =>
 obind (extP 0 v55) fun v56 =>
 obind (extP 1 v55) fun v57 =>
 obind (binP false .neq v57 (eI 0)) fun v59 =>
 obind (gD v59 false (
 obind (law37_sameL n [v56, a1]) fun v63 =>
 obind (unP .not v63) fun v64 =>
 some v64
)) fun v64 =>
 obind (pickP v59 (eB true) v64) fun v65 =>
 obind (gD v65 false (
 obind (lenP v48) fun v68 =>
 obind (enc_Layout_TotalL n [(D.agg [(celD v39 0), (celD v39 1), (celD v39 2)])]) fun v70 =>
 obind (binP false .neq v68 v70) fun v71 =>
 some v71
)) fun v71 =>
 obind (pickP v65 (eB true) v71) fun v72 =>
 oif v72 (
 inrX (
 some (eB false)
)
) (
 some (.inl [a0, a2, (celD v39 0), (celD v39 1), (celD v39 2)])
)
) (
 some (.inl [a0, a2, (celD v39 0), (celD v39 1), (celD v39 2)])
)
) <| jnX fun ls =>
 obind (enc_Layout_StateL n [(D.agg [(pd ls 2), (pd ls 3), (pd ls 4)]), (pd ls 1)]) fun v76 =>
 obind (extP 0 v76) fun v77 =>
 obind (extP 1 v76) fun v78 =>
 obind (binP false .eql v78 (eI 0)) fun v80 =>
 obind (
 oif v80 (
 obind (enc_Layout_CodeL n [(D.agg [(pd ls 2), (pd ls 3), (pd ls 4)]), v77]) fun v84 =>
 obind (extP 0 v84) fun v85 =>
 obind (extP 1 v84) fun v86 =>
 obind (binP false .neq v86 (eI 0)) fun v88 =>
 obind (gD v88 false (
 obind (law37_bitsL n [v85, (pd ls 1)]) fun v92 =>
 obind (unP .not v92) fun v93 =>
 some v93
)) fun v93 =>
 obind (pickP v88 (eB true) v93) fun v94 =>
 oif v94 (
 inrX (
 some (eB false)
)
) (
 some (.inl [(pd ls 0), (pd ls 2), (pd ls 3), (pd ls 4)])
)
) (
 some (.inl [(pd ls 0), (pd ls 2), (pd ls 3), (pd ls 4)])
)
) <| jnX fun ls =>
 obind (lenP (pd ls 0)) fun v96 =>
 obind (
 iterL (law37_EncBack_l18 n) n [(eI 0), v96, (eI 0), (pd ls 1), (pd ls 2), (pd ls 3)]
) <| jnX fun ls =>
 obind (enc_Layout_TotalL n [(D.agg [(pd ls 1), (pd ls 2), (pd ls 3)])]) fun v139 =>
 obind (binP false .eql (pd ls 0) v139) fun v140 =>
 obind (gD v140 true (
 obind (law37_livesL n []) fun v142 =>
 some v142
)) fun v142 =>
 obind (pickP v140 v142 (eB false)) fun v143 =>
 some v143
)
)

def law37_EncBackL (n : Nat) : List D → Option D
  | [a0, a1, a2] => law37_EncBack n a0 a1 a2
  | _ => none
def ref37_Numbers_l6 (n : Nat) (ls : List D) : Option (List D ⊕ (List D ⊕ (List D ⊕ (List D ⊕ (List D ⊕ D))))) :=
 obind (ixP 1 (pd ls 5) (pd ls 2)) fun c21 =>
 obind (atP false 1 0 c21) fun v22 =>
 obind (binP false .lss (pd ls 3) v22) fun v23 =>
 obind (gD v23 true (
 obind (binP false .eql (pd ls 0) (pd ls 2)) fun v27 =>
 some v27
)) fun v28 =>
 obind (gD v28 false (
 obind (binP false .lss (pd ls 0) (eI 0)) fun v30 =>
 some v30
)) fun v30 =>
 obind (gD v23 true (
 obind (pickP v28 (eB true) v30) fun v31 =>
 some v31
)) fun v31 =>
 obind (pickP v23 v31 (eB false)) fun v32 =>
 oif v32 (
 obind (ixP 1 (pd ls 6) (pd ls 2)) fun c39 =>
 obind (atP false 1 0 c39) fun v40 =>
 obind (binP false .add v40 (pd ls 3)) fun v42 =>
 obind (binP false .mul (eI 2) v42) fun v43 =>
 obind (binP false .add v43 (pd ls 1)) fun v45 =>
 og (oneP v45) <|
 og (decide (1 = 1 ∨ [[v45]] = []) && decide (0 < 1)) <|
 og (roomP (((esD (pd ls 7))).length + ([[v45]]).length) 8) <|
 obind (binP false .add (pd ls 3) (eI 1)) fun v34 =>
 some (.inl [(pd ls 0), (pd ls 1), (pd ls 2), v34, (pd ls 4), (pd ls 5), (pd ls 6), (D.sl 1 ((esD (pd ls 7)) ++ [[v45]]))])
) (
 inrX (
 some (.inl [(pd ls 0), (pd ls 1), (pd ls 2), (pd ls 4), (pd ls 5), (pd ls 6), (D.sl 1 (esD (pd ls 7)))])
)
)

def ref37_Numbers_l3 (n : Nat) (ls : List D) : Option (List D ⊕ (List D ⊕ D)) :=
 obind (lenP (pd ls 3)) fun v13 =>
 obind (binP false .lss (pd ls 2) v13) fun v14 =>
 oif v14 (
 obind (
 obind (
 iterL (ref37_Numbers_l6 n) n [(pd ls 0), (pd ls 1), (pd ls 2), (eI 0), (pd ls 3), (pd ls 4), (pd ls 5), (D.sl 1 (esD (pd ls 6)))]
) <| jnX fun ls =>
 some (.inl [(pd ls 0), (pd ls 1), (pd ls 2), (pd ls 3), (pd ls 4), (pd ls 5), (D.sl 1 (esD (pd ls 6)))])
) <| jnX fun ls =>
 obind (binP false .add (pd ls 2) (eI 1)) fun v16 =>
 some (.inl [(pd ls 0), (pd ls 1), v16, (pd ls 3), (pd ls 4), (pd ls 5), (D.sl 1 (esD (pd ls 6)))])
) (
 inrX (
 some (.inl [(D.sl 1 (esD (pd ls 6)))])
)
)

def ref37_Numbers (n : Nat) (a0 : D) (a1 : D) (a2 : D) : Option D :=
 og (aggP 3 a0) <|
 obind (
 og (nilP (D.val (.slice none 0 0))) <|
 iterL (ref37_Numbers_l3 n) n [a1, a2, (eI 0), (celD a0 0), (celD a0 1), (celD a0 2), (D.sl 1 [])]
) <| jnX fun ls =>
 some (D.sl 1 (esD (pd ls 0)))

def ref37_NumbersL (n : Nat) : List D → Option D
  | [a0, a1, a2] => ref37_Numbers n a0 a1 a2
  | _ => none
def enc_Layout_all_enc_Layout_Now_l3 (n : Nat) (ls : List D) : Option (List D ⊕ (List D ⊕ D)) :=
 obind (binP false .lss (pd ls 1) (pd ls 0)) fun v14 =>
 oif v14 (
 obind (ixP 1 (pd ls 4) (pd ls 1)) fun c20 =>
 obind (atP false 1 0 c20) fun v21 =>
 obind (cutP ((esD (pd ls 5))).length (some v21) none) fun p22 =>
 obind (enc_Layout_NowL n [(D.agg [(pd ls 2), (pd ls 3), (pd ls 4)]), (pd ls 1)]) fun v26 =>
 obind (elP v26) fun q27 =>
 og (decide (q27.1 = 1 ∨ q27.2 = [])) <|
 og (decide (p22.1 + p22.2 ≤ ((esD (pd ls 5))).length)) <|
 obind (binP false .add (pd ls 1) (eI 1)) fun v28 =>
 some (.inl [(pd ls 0), v28, (pd ls 2), (pd ls 3), (pd ls 4), (D.sl 1 (((esD (pd ls 5))).take p22.1 ++ (q27.2).take (min (q27.2).length p22.2) ++ ((esD (pd ls 5))).drop (p22.1 + (min (q27.2).length p22.2))))])
) (
 inrX (
 some (.inl [(D.sl 1 (esD (pd ls 5)))])
)
)

def enc_Layout_all_enc_Layout_Now (n : Nat) (a0 : D) : Option D :=
 og (aggP 3 a0) <|
 obind (enc_Layout_TotalL n [(D.agg [(celD a0 0), (celD a0 1), (celD a0 2)])]) fun v8 =>
 obind (makeP 8 v8 v8) fun n9 =>
 obind (lenP (celD a0 0)) fun v12 =>
 obind (
 iterL (enc_Layout_all_enc_Layout_Now_l3 n) n [v12, (eI 0), (celD a0 0), (celD a0 1), (celD a0 2), (D.sl 1 (List.replicate n9 [D.val (.int .i64 0)]))]
) <| jnX fun ls =>
 some (D.sl 1 (esD (pd ls 0)))

def enc_Layout_all_enc_Layout_NowL (n : Nat) : List D → Option D
  | [a0, a1] => og (isFc fid_enc_Layout_Now a1) (enc_Layout_all_enc_Layout_Now n a0)
  | _ => none
def enc_Layout_AllNow (n : Nat) (a0 : D) : Option D :=
 og (aggP 3 a0) <|
 obind (enc_Layout_all_enc_Layout_NowL n [(D.agg [(celD a0 0), (celD a0 1), (celD a0 2)]), (D.val (.func (.func fid_enc_Layout_Now) #[] #[]))]) fun v4 =>
 some v4

def enc_Layout_AllNowL (n : Nat) : List D → Option D
  | [a0] => enc_Layout_AllNow n a0
  | _ => none
def enc_Layout_all_enc_Layout_Next_l3 (n : Nat) (ls : List D) : Option (List D ⊕ (List D ⊕ D)) :=
 obind (binP false .lss (pd ls 1) (pd ls 0)) fun v14 =>
 oif v14 (
 obind (ixP 1 (pd ls 4) (pd ls 1)) fun c20 =>
 obind (atP false 1 0 c20) fun v21 =>
 obind (cutP ((esD (pd ls 5))).length (some v21) none) fun p22 =>
 obind (enc_Layout_NextL n [(D.agg [(pd ls 2), (pd ls 3), (pd ls 4)]), (pd ls 1)]) fun v26 =>
 obind (elP v26) fun q27 =>
 og (decide (q27.1 = 1 ∨ q27.2 = [])) <|
 og (decide (p22.1 + p22.2 ≤ ((esD (pd ls 5))).length)) <|
 obind (binP false .add (pd ls 1) (eI 1)) fun v28 =>
 some (.inl [(pd ls 0), v28, (pd ls 2), (pd ls 3), (pd ls 4), (D.sl 1 (((esD (pd ls 5))).take p22.1 ++ (q27.2).take (min (q27.2).length p22.2) ++ ((esD (pd ls 5))).drop (p22.1 + (min (q27.2).length p22.2))))])
) (
 inrX (
 some (.inl [(D.sl 1 (esD (pd ls 5)))])
)
)

def enc_Layout_all_enc_Layout_Next (n : Nat) (a0 : D) : Option D :=
 og (aggP 3 a0) <|
 obind (enc_Layout_TotalL n [(D.agg [(celD a0 0), (celD a0 1), (celD a0 2)])]) fun v8 =>
 obind (makeP 8 v8 v8) fun n9 =>
 obind (lenP (celD a0 0)) fun v12 =>
 obind (
 iterL (enc_Layout_all_enc_Layout_Next_l3 n) n [v12, (eI 0), (celD a0 0), (celD a0 1), (celD a0 2), (D.sl 1 (List.replicate n9 [D.val (.int .i64 0)]))]
) <| jnX fun ls =>
 some (D.sl 1 (esD (pd ls 0)))

def enc_Layout_all_enc_Layout_NextL (n : Nat) : List D → Option D
  | [a0, a1] => og (isFc fid_enc_Layout_Next a1) (enc_Layout_all_enc_Layout_Next n a0)
  | _ => none
def enc_Layout_AllNext (n : Nat) (a0 : D) : Option D :=
 og (aggP 3 a0) <|
 obind (enc_Layout_all_enc_Layout_NextL n [(D.agg [(celD a0 0), (celD a0 1), (celD a0 2)]), (D.val (.func (.func fid_enc_Layout_Next) #[] #[]))]) fun v4 =>
 some v4

def enc_Layout_AllNextL (n : Nat) : List D → Option D
  | [a0] => enc_Layout_AllNext n a0
  | _ => none
def ref37_Index_l2 (n : Nat) (ls : List D) : Option (List D ⊕ (List D ⊕ D)) :=
 obind (lenP (pd ls 2)) fun v9 =>
 obind (binP false .lss (pd ls 1) v9) fun v10 =>
 oif v10 (
 obind (ixP 4 (pd ls 2) (pd ls 1)) fun c16 =>
 obind (atP false 1 0 c16) fun v18 =>
 obind (binP false .eql v18 (pd ls 0)) fun v20 =>
 oif v20 (
 inrX (
 inrX (
 some (pd ls 1)
)
)
) (
 obind (binP false .add (pd ls 1) (eI 1)) fun v12 =>
 some (.inl [(pd ls 0), v12, (pd ls 2), (pd ls 3), (pd ls 4)])
)
) (
 inrX (
 some (.inl [])
)
)

def ref37_Index (n : Nat) (a0 : D) (a1 : D) : Option D :=
 og (aggP 3 a0) <|
 obind (
 iterL (ref37_Index_l2 n) n [a1, (eI 0), (celD a0 0), (celD a0 1), (celD a0 2)]
) <| jnX fun ls =>
 some (eI (-1))

def ref37_IndexL (n : Nat) : List D → Option D
  | [a0, a1] => ref37_Index n a0 a1
  | _ => none
def law37_EncLays_l8 (n : Nat) (ls : List D) : Option (List D ⊕ (List D ⊕ D)) :=
 obind (binP false .lss (pd ls 4) (pd ls 3)) fun v60 =>
 oif v60 (
 obind (ixP 4 (pd ls 5) (pd ls 4)) fun c65 =>
 obind (atP true 4 0 c65) fun v66 =>
 obind (ixP 4 (pd ls 8) (pd ls 4)) fun c70 =>
 obind (atP true 4 0 c70) fun v71 =>
 obind (eqvP [.string, .bool, .int .i64, .int .i64] .neq v66 v71) fun v72 =>
 oif v72 (
 inrX (
 inrX (
 some (eB false)
)
)
) (
 obind (binP false .add (pd ls 4) (eI 1)) fun v73 =>
 some (.inl [(pd ls 0), (pd ls 1), (pd ls 2), (pd ls 3), v73, (pd ls 5), (pd ls 6), (pd ls 7), (pd ls 8), (pd ls 9), (pd ls 10)])
)
) (
 inrX (
 some (.inl [(pd ls 0), (pd ls 1), (pd ls 2), (pd ls 5), (pd ls 6), (pd ls 7), (pd ls 8), (pd ls 9), (pd ls 10)])
)
)

def law37_EncLays (n : Nat) (a0 : D) (a1 : D) (a2 : D) : Option D :=
 obind (lenP a0) fun v15 =>
 obind (binP false .gtr v15 (eI 40)) fun v16 =>
 oif v16 (
 obind (law37_livesL n []) fun v17 =>
 some v17
) (
 obind (enc_OfL n [a0]) fun v20 =>
 obind (extP 0 v20) fun v21 =>
 obind (extP 1 v20) fun v22 =>
 og (aggP 3 v21) <|
 obind (ref37_OfL n [a0]) fun v25 =>
 obind (extP 0 v25) fun v26 =>
 obind (extP 1 v25) fun v27 =>
 og (aggP 3 v26) <|
 obind (binP false .neq v22 v27) fun v30 =>
 obind (gD v30 false (
 obind (law37_sameL n [(celD v21 1), (celD v26 1)]) fun v36 =>
 obind (unP .not v36) fun v37 =>
 some v37
)) fun v37 =>
 obind (pickP v30 (eB true) v37) fun v38 =>
 obind (gD v38 false (
 obind (law37_sameL n [(celD v21 2), (celD v26 2)]) fun v44 =>
 obind (unP .not v44) fun v45 =>
 some v45
)) fun v45 =>
 obind (pickP v38 (eB true) v45) fun v46 =>
 obind (gD v46 false (
 obind (lenP (celD v21 0)) fun v50 =>
 obind (lenP (celD v26 0)) fun v53 =>
 obind (binP false .neq v50 v53) fun v54 =>
 some v54
)) fun v54 =>
 obind (pickP v46 (eB true) v54) fun v55 =>
 oif v55 (
 some (eB false)
) (
 obind (lenP (celD v21 0)) fun v58 =>
 obind (
 iterL (law37_EncLays_l8 n) n [a1, a2, v27, v58, (eI 0), (celD v21 0), (celD v21 1), (celD v21 2), (celD v26 0), (celD v26 1), (celD v26 2)]
) <| jnX fun ls =>
 obind (binP false .neq (pd ls 2) (eI 0)) fun v75 =>
 oif v75 (
 obind (law37_livesL n []) fun v76 =>
 some v76
) (
 obind (enc_Layout_NowL n [(D.agg [(pd ls 3), (pd ls 4), (pd ls 5)]), (pd ls 0)]) fun v79 =>
 obind (enc_Layout_NextL n [(D.agg [(pd ls 3), (pd ls 4), (pd ls 5)]), (pd ls 0)]) fun v82 =>
 obind (binP false .lss (pd ls 0) (eI 0)) fun v84 =>
 obind (
 oif v84 (
 obind (lenP v79) fun v86 =>
 obind (binP false .neq v86 (eI 0)) fun v87 =>
 obind (gD v87 false (
 obind (lenP v82) fun v90 =>
 obind (binP false .neq v90 (eI 0)) fun v91 =>
 some v91
)) fun v91 =>
 obind (pickP v87 (eB true) v91) fun v92 =>
 oif v92 (
 inrX (
 some (eB false)
)
) (
 some (.inl [(pd ls 1), (pd ls 3), (pd ls 4), (pd ls 5), (pd ls 6), (pd ls 7), (pd ls 8)])
)
) (
 obind (ref37_NumbersL n [(D.agg [(pd ls 6), (pd ls 7), (pd ls 8)]), (pd ls 0), (eI 0)]) fun v96 =>
 obind (law37_sameL n [v79, v96]) fun v97 =>
 obind (unP .not v97) fun v98 =>
 obind (gD v98 false (
 obind (ref37_NumbersL n [(D.agg [(pd ls 6), (pd ls 7), (pd ls 8)]), (pd ls 0), (eI 1)]) fun v103 =>
 obind (law37_sameL n [v82, v103]) fun v104 =>
 obind (unP .not v104) fun v105 =>
 some v105
)) fun v105 =>
 obind (pickP v98 (eB true) v105) fun v106 =>
 oif v106 (
 inrX (
 some (eB false)
)
) (
 some (.inl [(pd ls 1), (pd ls 3), (pd ls 4), (pd ls 5), (pd ls 6), (pd ls 7), (pd ls 8)])
)
)
) <| jnX fun ls =>
 obind (enc_Layout_TotalL n [(D.agg [(pd ls 1), (pd ls 2), (pd ls 3)])]) fun v108 =>
 obind (ref37_TotalL n [(D.agg [(pd ls 4), (pd ls 5), (pd ls 6)])]) fun v110 =>
 obind (binP false .eql v108 v110) fun v111 =>
 obind (gD v111 true (
 obind (enc_Layout_AllNowL n [(D.agg [(pd ls 1), (pd ls 2), (pd ls 3)])]) fun v114 =>
 obind (ref37_NumbersL n [(D.agg [(pd ls 4), (pd ls 5), (pd ls 6)]), (eI (-1)), (eI 0)]) fun v116 =>
 obind (law37_sameL n [v114, v116]) fun v117 =>
 some v117
)) fun v117 =>
 obind (pickP v111 v117 (eB false)) fun v118 =>
 obind (gD v118 true (
 obind (enc_Layout_AllNextL n [(D.agg [(pd ls 1), (pd ls 2), (pd ls 3)])]) fun v121 =>
 obind (ref37_NumbersL n [(D.agg [(pd ls 4), (pd ls 5), (pd ls 6)]), (eI (-1)), (eI 1)]) fun v123 =>
 obind (law37_sameL n [v121, v123]) fun v124 =>
 some v124
)) fun v124 =>
 obind (pickP v118 v124 (eB false)) fun v125 =>
 obind (gD v125 true (
 obind (enc_Layout_IndexL n [(D.agg [(pd ls 1), (pd ls 2), (pd ls 3)]), (pd ls 0)]) fun v129 =>
 obind (ref37_IndexL n [(D.agg [(pd ls 4), (pd ls 5), (pd ls 6)]), (pd ls 0)]) fun v132 =>
 obind (binP false .eql v129 v132) fun v133 =>
 some v133
)) fun v133 =>
 obind (pickP v125 v133 (eB false)) fun v134 =>
 obind (gD v134 true (
 obind (law37_livesL n []) fun v136 =>
 some v136
)) fun v136 =>
 obind (pickP v134 v136 (eB false)) fun v137 =>
 some v137
)
)
)

def law37_EncLaysL (n : Nat) : List D → Option D
  | [a0, a1, a2] => law37_EncLays n a0 a1 a2
  | _ => none
end Go.Am
