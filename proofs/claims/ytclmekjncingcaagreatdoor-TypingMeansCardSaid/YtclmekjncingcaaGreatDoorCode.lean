/- What each function of the seat computes, on data. No condition. -/
import Derived.Test.YtclmekjncingcaaGreatDoorEngC
set_option linter.all false
set_option linter.unnecessarySimpa false
namespace Go.Am
set_option linter.unusedVariables false
def wordsD : List D := [eS ⟨#[65]⟩, eS ⟨#[65, 70]⟩, eS ⟨#[65, 71]⟩, eS ⟨#[65, 88]⟩, eS ⟨#[69]⟩, eS ⟨#[69, 70]⟩, eS ⟨#[69, 71]⟩, eS ⟨#[69, 88]⟩, eS ⟨#[85]⟩, eS ⟨#[98, 111, 111, 108]⟩, eS ⟨#[100, 101, 102]⟩, eS ⟨#[101, 108, 115, 101]⟩, eS ⟨#[102, 97, 105, 114]⟩, eS ⟨#[102, 97, 108, 115, 101]⟩, eS ⟨#[105, 102]⟩, eS ⟨#[105, 110, 105, 116]⟩, eS ⟨#[105, 110, 118, 97, 114]⟩, eS ⟨#[109, 111, 100]⟩, eS ⟨#[110, 101, 120, 116]⟩, eS ⟨#[115, 112, 101, 99]⟩, eS ⟨#[116, 104, 101, 110]⟩, eS ⟨#[116, 114, 97, 110, 115]⟩, eS ⟨#[116, 114, 117, 101]⟩, eS ⟨#[118, 97, 114]⟩]
abbrev fid_typing_Vars_1 : Nat := 35
abbrev fid_lexi_inside : Nat := 57
abbrev fid_typing_named_wrong_1 : Nat := 107
abbrev fid_typing_named_wrong_2 : Nat := 109
abbrev fid_typing_ringed_wrong_1 : Nat := 116
abbrev fid_terms_Names_1 : Nat := 118
abbrev fid_terms_Check_1 : Nat := 133
abbrev fid_defs_reached_1 : Nat := 135
abbrev fid_defs_inline_1 : Nat := 136
abbrev fid_typing_nexts_wrong_1 : Nat := 149
abbrev fid_typing_nexts_wrong_2 : Nat := 151
abbrev fid_typing_specs_wrong_1 : Nat := 157
abbrev fid_forms_Check_1 : Nat := 162
def ref36_terms_l2 (r_ref36_terms : List D → Option D) (n : Nat) (ls : List D) : Option (List D ⊕ (List D ⊕ D)) :=
 obind (lenP (pd ls 0)) fun v8 =>
 obind (binP false .lss (pd ls 2) v8) fun v9 =>
 obind (gD v9 true (
 obind (binP false .geq (pd ls 1) (eI 0)) fun v12 =>
 some v12
)) fun v12 =>
 obind (pickP v9 v12 (eB false)) fun v13 =>
 oif v13 (
 obind (ixP 4 (pd ls 0) (pd ls 2)) fun c18 =>
 obind (atP false 1 3 c18) fun v20 =>
 obind (binP false .sub (pd ls 1) (eI 1)) fun v22 =>
 obind (r_ref36_terms [v20, v22]) fun v23 =>
 obind (binP false .add (pd ls 2) (eI 1)) fun v15 =>
 some (.inl [(pd ls 0), v23, v15])
) (
 inrX (
 some (.inl [(pd ls 1)])
)
)

def ref36_terms (r_ref36_terms : List D → Option D) (n : Nat) (a0 : D) (a1 : D) : Option D :=
 obind (
 iterL (ref36_terms_l2 r_ref36_terms n) n [a0, a1, (eI 0)]
) <| jnX fun ls =>
 some (pd ls 0)

def ref36_termsL : Nat → List D → Option D
  | 0, _ => none
  | n + 1, ds => match ds with
    | [a0, a1] => ref36_terms (ref36_termsL n) n a0 a1
    | _ => none
def ref32_terms_l2 (r_ref32_terms : List D → Option D) (n : Nat) (ls : List D) : Option (List D ⊕ (List D ⊕ D)) :=
 obind (lenP (pd ls 5)) fun v9 =>
 obind (binP false .lss (pd ls 1) v9) fun v10 =>
 obind (gD v10 true (
 obind (binP false .geq (pd ls 0) (eI 0)) fun v13 =>
 some v13
)) fun v13 =>
 obind (pickP v10 v13 (eB false)) fun v14 =>
 oif v14 (
 obind (ixP 4 (pd ls 5) (pd ls 1)) fun c20 =>
 obind (atP true 4 0 c20) fun v21 =>
 obind (binP false .sub (pd ls 0) (eI 1)) fun v23 =>
 obind (r_ref32_terms [v21, v23]) fun v24 =>
 obind (binP false .add (pd ls 1) (eI 1)) fun v16 =>
 some (.inl [v24, v16, (pd ls 2), (pd ls 3), (pd ls 4), (pd ls 5)])
) (
 inrX (
 some (.inl [(pd ls 0)])
)
)

def ref32_terms (r_ref32_terms : List D → Option D) (n : Nat) (a0 : D) (a1 : D) : Option D :=
 og (aggP 4 a0) <|
 obind (
 iterL (ref32_terms_l2 r_ref32_terms n) n [a1, (eI 0), (celD a0 0), (celD a0 1), (celD a0 2), (celD a0 3)]
) <| jnX fun ls =>
 some (pd ls 0)

def ref32_termsL : Nat → List D → Option D
  | 0, _ => none
  | n + 1, ds => match ds with
    | [a0, a1] => ref32_terms (ref32_termsL n) n a0 a1
    | _ => none
def ref32_left_l3 (r_ref32_left : List D → Option D) (n : Nat) (ls : List D) : Option (List D ⊕ (List D ⊕ D)) :=
 obind (lenP (pd ls 7)) fun v14 =>
 obind (binP false .lss (pd ls 1) v14) fun v15 =>
 obind (gD v15 true (
 obind (binP false .geq (pd ls 0) (eI 0)) fun v18 =>
 some v18
)) fun v18 =>
 obind (pickP v15 v18 (eB false)) fun v19 =>
 oif v19 (
 obind (ixP 6 (pd ls 7) (pd ls 1)) fun c25 =>
 obind (atP true 6 0 c25) fun v26 =>
 obind (r_ref32_left [v26, (pd ls 0)]) fun v28 =>
 obind (binP false .add (pd ls 1) (eI 1)) fun v21 =>
 some (.inl [v28, v21, (pd ls 2), (pd ls 3), (pd ls 4), (pd ls 5), (pd ls 6), (pd ls 7)])
) (
 inrX (
 some (.inl [(pd ls 0)])
)
)

def ref32_left (r_ref32_left : List D → Option D) (n : Nat) (a0 : D) (a1 : D) : Option D :=
 og (aggP 6 a0) <|
 obind (binP false .sub a1 (eI 1)) fun v9 =>
 obind (ref32_termsL n [(D.agg [(celD a0 1), (celD a0 2), (celD a0 3), (celD a0 4)]), v9]) fun v10 =>
 obind (
 iterL (ref32_left_l3 r_ref32_left n) n [v10, (eI 0), (celD a0 0), (celD a0 1), (celD a0 2), (celD a0 3), (celD a0 4), (celD a0 5)]
) <| jnX fun ls =>
 some (pd ls 0)

def ref32_leftL : Nat → List D → Option D
  | 0, _ => none
  | n + 1, ds => match ds with
    | [a0, a1] => ref32_left (ref32_leftL n) n a0 a1
    | _ => none
def ref32_Many (n : Nat) (a0 : D) (a1 : D) : Option D :=
 og (aggP 6 a0) <|
 obind (ref32_leftL n [(D.agg [(celD a0 0), (celD a0 1), (celD a0 2), (celD a0 3), (celD a0 4), (celD a0 5)]), a1]) fun v7 =>
 obind (binP false .geq v7 (eI 0)) fun v8 =>
 some v8

def ref32_ManyL (n : Nat) : List D → Option D
  | [a0, a1] => ref32_Many n a0 a1
  | _ => none
def ref36_Small_l8 (n : Nat) (ls : List D) : Option (List D ⊕ (List D ⊕ D)) :=
 obind (lenP (pd ls 3)) fun v71 =>
 obind (binP false .lss (pd ls 1) v71) fun v72 =>
 obind (gD v72 true (
 obind (binP false .geq (pd ls 0) (eI 0)) fun v75 =>
 some v75
)) fun v75 =>
 obind (pickP v72 v75 (eB false)) fun v76 =>
 oif v76 (
 obind (ixP 5 (pd ls 3) (pd ls 1)) fun c82 =>
 obind (atP true 4 1 c82) fun v84 =>
 og (aggP 4 v84) <|
 obind (ref36_termsL n [(D.sl 4 [[(celD v84 0), (celD v84 1), (celD v84 2), (celD v84 3)]]), (pd ls 0)]) fun v87 =>
 og v87.flat <|
 obind (binP false .add (pd ls 1) (eI 1)) fun v78 =>
 some (.inl [v87, v78, (pd ls 2), (pd ls 3), (pd ls 4), (pd ls 5), (pd ls 6), (pd ls 7), (pd ls 8), (pd ls 9)])
) (
 inrX (
 some (.inl [(pd ls 0), (pd ls 2), (pd ls 3), (pd ls 4), (pd ls 5), (pd ls 6), (pd ls 7), (pd ls 8), (pd ls 9)])
)
)

def ref36_Small_l12 (n : Nat) (ls : List D) : Option (List D ⊕ (List D ⊕ D)) :=
 obind (lenP (pd ls 6)) fun v91 =>
 obind (binP false .lss (pd ls 1) v91) fun v92 =>
 obind (gD v92 true (
 obind (binP false .geq (pd ls 0) (eI 0)) fun v95 =>
 some v95
)) fun v95 =>
 obind (pickP v92 v95 (eB false)) fun v96 =>
 oif v96 (
 obind (ixP 5 (pd ls 6) (pd ls 1)) fun c102 =>
 obind (atP true 4 1 c102) fun v104 =>
 og (aggP 4 v104) <|
 obind (ref36_termsL n [(D.sl 4 [[(celD v104 0), (celD v104 1), (celD v104 2), (celD v104 3)]]), (pd ls 0)]) fun v107 =>
 og v107.flat <|
 obind (binP false .add (pd ls 1) (eI 1)) fun v98 =>
 some (.inl [v107, v98, (pd ls 2), (pd ls 3), (pd ls 4), (pd ls 5), (pd ls 6), (pd ls 7), (pd ls 8), (pd ls 9)])
) (
 inrX (
 some (.inl [(pd ls 0), (pd ls 2), (pd ls 3), (pd ls 4), (pd ls 5), (pd ls 6), (pd ls 7), (pd ls 8), (pd ls 9)])
)
)

def ref36_Small_l16 (n : Nat) (ls : List D) : Option (List D ⊕ (List D ⊕ D)) :=
 obind (lenP (pd ls 9)) fun v111 =>
 obind (binP false .lss (pd ls 1) v111) fun v112 =>
 obind (gD v112 true (
 obind (binP false .geq (pd ls 0) (eI 0)) fun v115 =>
 some v115
)) fun v115 =>
 obind (pickP v112 v115 (eB false)) fun v116 =>
 oif v116 (
 obind (ixP 7 (pd ls 9) (pd ls 1)) fun c122 =>
 obind (atP true 6 1 c122) fun v124 =>
 obind (ref32_ManyL n [v124, (eI 200)]) fun v125 =>
 obind (unP .not v125) fun v126 =>
 oif v126 (
 inrX (
 inrX (
 some (eB false)
)
)
) (
 obind (binP false .sub (pd ls 0) (eI 10)) fun v128 =>
 obind (binP false .add (pd ls 1) (eI 1)) fun v118 =>
 some (.inl [v128, v118, (pd ls 2), (pd ls 3), (pd ls 4), (pd ls 5), (pd ls 6), (pd ls 7), (pd ls 8), (pd ls 9)])
)
) (
 inrX (
 some (.inl [(pd ls 0)])
)
)

def ref36_Small (n : Nat) (a0 : D) : Option D :=
 og (aggP 8 a0) <|
 obind (lenP (celD a0 0)) fun v9 =>
 obind (binP false .gtr v9 (eI 70)) fun v10 =>
 obind (gD v10 false (
 obind (lenP (celD a0 1)) fun v14 =>
 obind (binP false .gtr v14 (eI 70)) fun v15 =>
 some v15
)) fun v15 =>
 obind (pickP v10 (eB true) v15) fun v16 =>
 obind (gD v16 false (
 obind (lenP (celD a0 2)) fun v20 =>
 obind (binP false .gtr v20 (eI 70)) fun v21 =>
 some v21
)) fun v21 =>
 obind (pickP v16 (eB true) v21) fun v22 =>
 obind (gD v22 false (
 obind (lenP (celD a0 3)) fun v26 =>
 obind (binP false .gtr v26 (eI 70)) fun v27 =>
 some v27
)) fun v27 =>
 obind (pickP v22 (eB true) v27) fun v28 =>
 obind (gD v28 false (
 obind (lenP (celD a0 4)) fun v32 =>
 obind (binP false .gtr v32 (eI 70)) fun v33 =>
 some v33
)) fun v33 =>
 obind (pickP v28 (eB true) v33) fun v34 =>
 obind (gD v34 false (
 obind (lenP (celD a0 5)) fun v38 =>
 obind (binP false .gtr v38 (eI 70)) fun v39 =>
 some v39
)) fun v39 =>
 obind (pickP v34 (eB true) v39) fun v40 =>
 obind (gD v40 false (
 obind (lenP (celD a0 6)) fun v44 =>
 obind (binP false .gtr v44 (eI 70)) fun v45 =>
 some v45
)) fun v45 =>
 obind (pickP v40 (eB true) v45) fun v46 =>
 obind (gD v46 false (
 obind (lenP (celD a0 7)) fun v50 =>
 obind (binP false .gtr v50 (eI 70)) fun v51 =>
 some v51
)) fun v51 =>
 obind (pickP v46 (eB true) v51) fun v52 =>
 oif v52 (
 some (eB false)
) (
 obind (ref36_termsL n [(celD a0 2), (eI 400)]) fun v55 =>
 obind (ref36_termsL n [(celD a0 3), v55]) fun v59 =>
 obind (ref36_termsL n [(celD a0 5), v59]) fun v63 =>
 obind (ref36_termsL n [(celD a0 6), v63]) fun v67 =>
 obind (
 iterL (ref36_Small_l8 n) n [v67, (eI 0), (celD a0 0), (celD a0 1), (celD a0 2), (celD a0 3), (celD a0 4), (celD a0 5), (celD a0 6), (celD a0 7)]
) <| jnX fun ls =>
 obind (
 iterL (ref36_Small_l12 n) n [(pd ls 0), (eI 0), (pd ls 1), (pd ls 2), (pd ls 3), (pd ls 4), (pd ls 5), (pd ls 6), (pd ls 7), (pd ls 8)]
) <| jnX fun ls =>
 obind (
 iterL (ref36_Small_l16 n) n [(pd ls 0), (eI 0), (pd ls 1), (pd ls 2), (pd ls 3), (pd ls 4), (pd ls 5), (pd ls 6), (pd ls 7), (pd ls 8)]
) <| jnX fun ls =>
 obind (binP false .geq (pd ls 0) (eI 0)) fun v130 =>
 some v130
)

def ref36_SmallL (n : Nat) : List D → Option D
  | [a0] => ref36_Small n a0
  | _ => none
def law36_name (n : Nat) (a0 : D) : Option D :=
 og (oneP a0) <|
 og (aggP 4 (D.agg [(eI 3), (eI 0), a0, (D.val (.slice none 0 0))])) <|
 some (D.agg [(eI 3), (eI 0), a0, (D.val (.slice none 0 0))])

def law36_nameL (n : Nat) : List D → Option D
  | [a0] => law36_name n a0
  | _ => none
def law36_num (n : Nat) (a0 : D) : Option D :=
 og (oneP a0) <|
 og (aggP 4 (D.agg [(eI 1), a0, (eS ⟨#[]⟩), (D.val (.slice none 0 0))])) <|
 some (D.agg [(eI 1), a0, (eS ⟨#[]⟩), (D.val (.slice none 0 0))])

def law36_numL (n : Nat) : List D → Option D
  | [a0] => law36_num n a0
  | _ => none
def law36_counter (n : Nat) : Option D :=
 obind (law36_nameL n [(eS ⟨#[110]⟩)]) fun v3 =>
 og (aggP 4 v3) <|
 obind (law36_numL n [(eI 2)]) fun v5 =>
 obind (law36_numL n [(eI 1)]) fun v9 =>
 obind (law36_numL n [(eI 0)]) fun v12 =>
 og (aggP 4 (D.agg [(celD v3 0), (celD v3 1), (celD v3 2), (celD v3 3)])) <|
 og (aggP 4 v5) <|
 og (oneP (D.sl 4 [[(celD v3 0), (celD v3 1), (celD v3 2), (celD v3 3)], [(celD v5 0), (celD v5 1), (celD v5 2), (celD v5 3)]])) <|
 og (aggP 4 (D.agg [(celD v3 0), (celD v3 1), (celD v3 2), (celD v3 3)])) <|
 og (aggP 4 v9) <|
 og (oneP (D.sl 4 [[(celD v3 0), (celD v3 1), (celD v3 2), (celD v3 3)], [(celD v9 0), (celD v9 1), (celD v9 2), (celD v9 3)]])) <|
 og (aggP 4 (D.agg [(eI 12), (eI 0), (eS ⟨#[]⟩), (D.sl 4 [[(celD v3 0), (celD v3 1), (celD v3 2), (celD v3 3)], [(celD v5 0), (celD v5 1), (celD v5 2), (celD v5 3)]])])) <|
 og (aggP 4 (D.agg [(eI 14), (eI 0), (eS ⟨#[]⟩), (D.sl 4 [[(celD v3 0), (celD v3 1), (celD v3 2), (celD v3 3)], [(celD v9 0), (celD v9 1), (celD v9 2), (celD v9 3)]])])) <|
 og (aggP 4 v12) <|
 og (aggP 5 (D.agg [(eS ⟨#[110]⟩), (eI 18), (eI 0), (eS ⟨#[]⟩), (D.sl 4 [[(eI 12), (eI 0), (eS ⟨#[]⟩), (D.sl 4 [[(celD v3 0), (celD v3 1), (celD v3 2), (celD v3 3)], [(celD v5 0), (celD v5 1), (celD v5 2), (celD v5 3)]])], [(eI 14), (eI 0), (eS ⟨#[]⟩), (D.sl 4 [[(celD v3 0), (celD v3 1), (celD v3 2), (celD v3 3)], [(celD v9 0), (celD v9 1), (celD v9 2), (celD v9 3)]])], [(celD v12 0), (celD v12 1), (celD v12 2), (celD v12 3)]])])) <|
 some (D.agg [(D.sl 4 [[(eS ⟨#[110]⟩), (eB false), (eI 0), (eI 2)]]), (D.val (.slice none 0 0)), (D.val (.slice none 0 0)), (D.val (.slice none 0 0)), (D.sl 5 [[(eS ⟨#[110]⟩), (eI 18), (eI 0), (eS ⟨#[]⟩), (D.sl 4 [[(eI 12), (eI 0), (eS ⟨#[]⟩), (D.sl 4 [[(celD v3 0), (celD v3 1), (celD v3 2), (celD v3 3)], [(celD v5 0), (celD v5 1), (celD v5 2), (celD v5 3)]])], [(eI 14), (eI 0), (eS ⟨#[]⟩), (D.sl 4 [[(celD v3 0), (celD v3 1), (celD v3 2), (celD v3 3)], [(celD v9 0), (celD v9 1), (celD v9 2), (celD v9 3)]])], [(celD v12 0), (celD v12 1), (celD v12 2), (celD v12 3)]])]]), (D.val (.slice none 0 0)), (D.val (.slice none 0 0)), (D.val (.slice none 0 0))])

def law36_counterL (n : Nat) : List D → Option D
  | [] => law36_counter n
  | _ => none
def lexi_letter (n : Nat) (a0 : D) : Option D :=
 obind (binP false .geq a0 (D.val (.int .u8 97))) fun v4 =>
 obind (gD v4 true (
 obind (binP false .leq a0 (D.val (.int .u8 122))) fun v7 =>
 some v7
)) fun v7 =>
 obind (pickP v4 v7 (eB false)) fun v8 =>
 obind (gD v8 false (
 obind (binP false .geq a0 (D.val (.int .u8 65))) fun v11 =>
 some v11
)) fun v12 =>
 obind (gD v12 true (
 obind (binP false .leq a0 (D.val (.int .u8 90))) fun v14 =>
 some v14
)) fun v14 =>
 obind (gD v8 false (
 obind (pickP v12 v14 (eB false)) fun v15 =>
 some v15
)) fun v15 =>
 obind (pickP v8 (eB true) v15) fun v16 =>
 some v16

def lexi_letterL (n : Nat) : List D → Option D
  | [a0] => lexi_letter n a0
  | _ => none
def lexi_digit (n : Nat) (a0 : D) : Option D :=
 obind (binP false .geq a0 (D.val (.int .u8 48))) fun v4 =>
 obind (gD v4 true (
 obind (binP false .leq a0 (D.val (.int .u8 57))) fun v7 =>
 some v7
)) fun v7 =>
 obind (pickP v4 v7 (eB false)) fun v8 =>
 some v8

def lexi_digitL (n : Nat) : List D → Option D
  | [a0] => lexi_digit n a0
  | _ => none
def lexi_inside (n : Nat) (a0 : D) : Option D :=
 obind (lexi_letterL n [a0]) fun v4 =>
 obind (gD v4 false (
 obind (lexi_digitL n [a0]) fun v7 =>
 some v7
)) fun v7 =>
 obind (pickP v4 (eB true) v7) fun v8 =>
 obind (gD v8 false (
 obind (binP false .eql a0 (D.val (.int .u8 95))) fun v11 =>
 some v11
)) fun v11 =>
 obind (pickP v8 (eB true) v11) fun v12 =>
 some v12

def lexi_insideL (n : Nat) : List D → Option D
  | [a0] => lexi_inside n a0
  | _ => none
def lexi_row_lexi_inside_l2 (n : Nat) (ls : List D) : Option (List D ⊕ (List D ⊕ D)) :=
 obind (lensP (pd ls 0)) fun v8 =>
 obind (binP false .lss (pd ls 1) v8) fun v9 =>
 obind (gD v9 true (
 obind (sixP (pd ls 0) (pd ls 1)) fun v14 =>
 obind (lexi_insideL n [v14]) fun v15 =>
 some v15
)) fun v15 =>
 obind (pickP v9 v15 (eB false)) fun v16 =>
 oif v16 (
 obind (binP false .add (pd ls 1) (eI 1)) fun v18 =>
 some (.inl [(pd ls 0), v18])
) (
 inrX (
 some (.inl [(pd ls 1)])
)
)

def lexi_row_lexi_inside (n : Nat) (a0 : D) : Option D :=
 obind (
 iterL (lexi_row_lexi_inside_l2 n) n [a0, (eI 0)]
) <| jnX fun ls =>
 some (pd ls 0)

def lexi_row_lexi_insideL (n : Nat) : List D → Option D
  | [a0, a1] => og (isFc fid_lexi_inside a1) (lexi_row_lexi_inside n a0)
  | _ => none
def slices_Index_Lstring_string_l2 (n : Nat) (ls : List D) : Option (List D ⊕ (List D ⊕ D)) :=
 obind (binP false .lss (pd ls 3) (pd ls 2)) fun v9 =>
 oif v9 (
 obind (ixP 1 (pd ls 0) (pd ls 3)) fun c14 =>
 obind (atP false 1 0 c14) fun v15 =>
 obind (binP false .eql (pd ls 1) v15) fun v16 =>
 oif v16 (
 inrX (
 inrX (
 some (pd ls 3)
)
)
) (
 obind (binP false .add (pd ls 3) (eI 1)) fun v18 =>
 some (.inl [(pd ls 0), (pd ls 1), (pd ls 2), v18])
)
) (
 inrX (
 some (.inl [])
)
)

def slices_Index_Lstring_string (n : Nat) (a0 : D) (a1 : D) : Option D :=
 obind (lenP a0) fun v7 =>
 obind (
 iterL (slices_Index_Lstring_string_l2 n) n [a0, a1, v7, (eI 0)]
) <| jnX fun ls =>
 some (eI (-1))

def slices_Index_Lstring_stringL (n : Nat) : List D → Option D
  | [a0, a1] => slices_Index_Lstring_string n a0 a1
  | _ => none
def slices_Contains_Lstring_string (n : Nat) (a0 : D) (a1 : D) : Option D :=
 obind (slices_Index_Lstring_stringL n [a0, a1]) fun v7 =>
 obind (binP false .geq v7 (eI 0)) fun v8 =>
 some v8

def slices_Contains_Lstring_stringL (n : Nat) : List D → Option D
  | [a0, a1] => slices_Contains_Lstring_string n a0 a1
  | _ => none
def lexi_Is (n : Nat) (a0 : D) : Option D :=
 obind (binP false .neq a0 (eS ⟨#[]⟩)) fun v4 =>
 obind (gD v4 true (
 obind (lensP a0) fun v7 =>
 obind (binP false .leq v7 (eI 24)) fun v8 =>
 some v8
)) fun v8 =>
 obind (pickP v4 v8 (eB false)) fun v9 =>
 obind (gD v9 true (
 obind (sixP a0 (eI 0)) fun v12 =>
 obind (lexi_letterL n [v12]) fun v13 =>
 some v13
)) fun v13 =>
 obind (pickP v9 v13 (eB false)) fun v14 =>
 obind (gD v14 true (
 obind (lexi_row_lexi_insideL n [a0, (D.val (.func (.func fid_lexi_inside) #[] #[]))]) fun v17 =>
 obind (lensP a0) fun v19 =>
 obind (binP false .eql v17 v19) fun v20 =>
 some v20
)) fun v20 =>
 obind (pickP v14 v20 (eB false)) fun v21 =>
 obind (gD v21 true (
 obind (slices_Contains_Lstring_stringL n [(D.sl 1 ((wordsD).map fun c => [c])), a0]) fun v25 =>
 obind (unP .not v25) fun v26 =>
 some v26
)) fun v26 =>
 obind (pickP v21 v26 (eB false)) fun v27 =>
 some v27

def lexi_IsL (n : Nat) : List D → Option D
  | [a0] => lexi_Is n a0
  | _ => none
def typing_Vars_1 (n : Nat) (a0 : D) (x1 : List D) : Option D :=
 og (aggP 4 a0) <|
 obind (atP false 1 0 x1) fun v7 =>
 obind (binP false .eql (celD a0 0) v7) fun v8 =>
 some v8

def typing_Vars_1L (n : Nat) : List D → Option D
  | [a0, a1] => (match a1 with | .ref x1 0 => typing_Vars_1 n a0 x1 | _ => none)
  | _ => none
def slices_IndexFunc_Lapi_Var_api_Var_typing_Vars_1_l2 (n : Nat) (ls : List D) : Option (List D ⊕ (List D ⊕ D)) :=
 obind (binP false .lss (pd ls 3) (pd ls 2)) fun v9 =>
 oif v9 (
 obind (ixP 4 (pd ls 0) (pd ls 3)) fun c14 =>
 obind (atP true 4 0 c14) fun v15 =>
 obind (typing_Vars_1L n [v15, (pd ls 1)]) fun v16 =>
 oif v16 (
 inrX (
 inrX (
 some (pd ls 3)
)
)
) (
 obind (binP false .add (pd ls 3) (eI 1)) fun v18 =>
 some (.inl [(pd ls 0), (pd ls 1), (pd ls 2), v18])
)
) (
 inrX (
 some (.inl [])
)
)

def slices_IndexFunc_Lapi_Var_api_Var_typing_Vars_1 (n : Nat) (a0 : D) (x1_0 : D) : Option D :=
 obind (lenP a0) fun v7 =>
 obind (
 iterL (slices_IndexFunc_Lapi_Var_api_Var_typing_Vars_1_l2 n) n [a0, x1_0, v7, (eI 0)]
) <| jnX fun ls =>
 some (eI (-1))

def slices_IndexFunc_Lapi_Var_api_Var_typing_Vars_1L (n : Nat) : List D → Option D
  | [a0, a1] => (match fnOf fid_typing_Vars_1 a1 with | some [x1_0] => slices_IndexFunc_Lapi_Var_api_Var_typing_Vars_1 n a0 x1_0 | _ => none)
  | _ => none
def slices_ContainsFunc_Lapi_Var_api_Var_typing_Vars_1 (n : Nat) (a0 : D) (x1_0 : D) : Option D :=
 obind (slices_IndexFunc_Lapi_Var_api_Var_typing_Vars_1L n [a0, (D.fn (.func fid_typing_Vars_1) [] [x1_0])]) fun v7 =>
 obind (binP false .geq v7 (eI 0)) fun v8 =>
 some v8

def slices_ContainsFunc_Lapi_Var_api_Var_typing_Vars_1L (n : Nat) : List D → Option D
  | [a0, a1] => (match fnOf fid_typing_Vars_1 a1 with | some [x1_0] => slices_ContainsFunc_Lapi_Var_api_Var_typing_Vars_1 n a0 x1_0 | _ => none)
  | _ => none
def typing_Vars_l2 (n : Nat) (ls : List D) : Option (List D ⊕ (List D ⊕ D)) :=
 obind (binP false .lss (pd ls 3) (pd ls 2)) fun v11 =>
 oif v11 (
 obind (ixP 4 (pd ls 1) (pd ls 3)) fun c13 =>
 obind (atP true 4 0 c13) fun v14 =>
 og (aggP 4 v14) <|
 obind (mmP true [(celD v14 2), (celD v14 3)]) fun v20 =>
 obind (binP false .gtr v20 (eI 255)) fun v21 =>
 obind (gD v21 false (
 obind (mmP false [(celD v14 2), (celD v14 3)]) fun v27 =>
 obind (binP false .lss v27 (eI (-255))) fun v28 =>
 some v28
)) fun v28 =>
 obind (pickP v21 (eB true) v28) fun v29 =>
 obind (lexi_IsL n [(celD v14 0)]) fun v33 =>
 obind (unP .not v33) fun v34 =>
 oif v34 (
 inrX (
 inrX (
 some (D.tup [(pd ls 3), (eI 12)])
)
)
) (
 obind (subP 4 (pd ls 0) none (some (pd ls 3))) fun v39 =>
 obind (slices_ContainsFunc_Lapi_Var_api_Var_typing_Vars_1L n [v39, (D.fn (.func fid_typing_Vars_1) [] [(D.ref [(celD v14 0), (celD v14 1), (celD v14 2), (celD v14 3)] 0)])]) fun v41 =>
 og v41.flat <|
 oif v41 (
 inrX (
 inrX (
 some (D.tup [(pd ls 3), (eI 6)])
)
)
) (
 obind (gD (celD v14 1) true (
 obind (binP false .neq (celD v14 2) (eI 0)) fun v49 =>
 some v49
)) fun v50 =>
 obind (gD v50 false (
 obind (binP false .neq (celD v14 3) (eI 0)) fun v53 =>
 some v53
)) fun v53 =>
 obind (gD (celD v14 1) true (
 obind (pickP v50 (eB true) v53) fun v54 =>
 some v54
)) fun v54 =>
 obind (pickP (celD v14 1) v54 (eB false)) fun v55 =>
 oif v55 (
 inrX (
 inrX (
 some (D.tup [(pd ls 3), (eI 3)])
)
)
) (
 obind (unP .not (celD v14 1)) fun v60 =>
 obind (gD v60 true (
 obind (binP false .gtr (celD v14 2) (celD v14 3)) fun v66 =>
 some v66
)) fun v67 =>
 obind (gD v67 false (
 some v29
)) fun v68 =>
 obind (gD v60 true (
 obind (pickP v67 (eB true) v68) fun v69 =>
 some v69
)) fun v70 =>
 obind (gD v70 false (
 obind (binP false .sub (celD v14 3) (celD v14 2)) fun v75 =>
 obind (binP false .geq v75 (eI 64)) fun v76 =>
 some v76
)) fun v76 =>
 obind (gD v60 true (
 obind (pickP v70 (eB true) v76) fun v77 =>
 some v77
)) fun v77 =>
 obind (pickP v60 v77 (eB false)) fun v78 =>
 oif v78 (
 inrX (
 inrX (
 some (D.tup [(pd ls 3), (eI 2)])
)
)
) (
 obind (binP false .add (pd ls 3) (eI 1)) fun v80 =>
 some (.inl [(pd ls 0), (pd ls 1), (pd ls 2), v80])
)
)
)
)
) (
 inrX (
 some (.inl [])
)
)

def typing_Vars (n : Nat) (a0 : D) : Option D :=
 obind (lenP a0) fun v9 =>
 obind (
 iterL (typing_Vars_l2 n) n [a0, a0, v9, (eI 0)]
) <| jnX fun ls =>
 some (D.tup [(eI 0), (eI 0)])

def typing_VarsL (n : Nat) : List D → Option D
  | [a0] => typing_Vars n a0
  | _ => none
def typing_Span (n : Nat) (a0 : D) : Option D :=
 og (aggP 4 a0) <|
 oif (celD a0 1) (
 some (eI 2)
) (
 obind (binP false .gtr (celD a0 2) (celD a0 3)) fun v12 =>
 oif v12 (
 some (eI 0)
) (
 obind (cvP .u64 (celD a0 3)) fun v15 =>
 obind (cvP .u64 (celD a0 2)) fun v18 =>
 obind (binP false .sub v15 v18) fun v19 =>
 obind (binP false .lss v19 (D.val (.int .u64 1073741824))) fun v21 =>
 oif v21 (
 obind (cvP .i64 v19) fun v23 =>
 obind (binP false .add v23 (eI 1)) fun v24 =>
 some v24
) (
 some (eI 1073741825)
)
)
)

def typing_SpanL (n : Nat) : List D → Option D
  | [a0] => typing_Span n a0
  | _ => none
def num_Bits_l2 (n : Nat) (ls : List D) : Option (List D ⊕ (List D ⊕ D)) :=
 obind (binP false .lss (pd ls 1) (eI 63)) fun v5 =>
 oif v5 (
 obind (binP false .shl (eI 1) (pd ls 1)) fun v9 =>
 obind (binP false .leq (pd ls 0) v9) fun v10 =>
 oif v10 (
 inrX (
 inrX (
 some (pd ls 1)
)
)
) (
 obind (binP false .add (pd ls 1) (eI 1)) fun v12 =>
 some (.inl [(pd ls 0), v12])
)
) (
 inrX (
 some (.inl [])
)
)

def num_Bits (n : Nat) (a0 : D) : Option D :=
 obind (
 iterL (num_Bits_l2 n) n [a0, (eI 0)]
) <| jnX fun ls =>
 some (eI 63)

def num_BitsL (n : Nat) : List D → Option D
  | [a0] => num_Bits n a0
  | _ => none
def typing_Bits_l3 (n : Nat) (ls : List D) : Option (List D ⊕ (List D ⊕ D)) :=
 obind (binP false .lss (pd ls 3) (pd ls 2)) fun v10 =>
 oif v10 (
 obind (ixP 4 (pd ls 1) (pd ls 3)) fun c11 =>
 obind (atP true 4 0 c11) fun v12 =>
 og (aggP 4 v12) <|
 obind (typing_SpanL n [(D.agg [(celD v12 0), (celD v12 1), (celD v12 2), (celD v12 3)])]) fun v15 =>
 obind (num_BitsL n [v15]) fun v16 =>
 obind (binP false .add (pd ls 0) v16) fun v17 =>
 obind (binP false .add (pd ls 3) (eI 1)) fun v18 =>
 some (.inl [v17, (pd ls 1), (pd ls 2), v18])
) (
 inrX (
 some (.inl [(pd ls 0)])
)
)

def typing_Bits (n : Nat) (a0 : D) : Option D :=
 og (aggP 8 a0) <|
 obind (lenP (celD a0 0)) fun v8 =>
 obind (
 iterL (typing_Bits_l3 n) n [(eI 0), (celD a0 0), v8, (eI 0)]
) <| jnX fun ls =>
 some (pd ls 0)

def typing_BitsL (n : Nat) : List D → Option D
  | [a0] => typing_Bits n a0
  | _ => none
def typing_specs_many (n : Nat) (a0 : D) : Option D :=
 obind (lenP a0) fun v4 =>
 some v4

def typing_specs_manyL (n : Nat) : List D → Option D
  | [a0] => typing_specs_many n a0
  | _ => none
def typing_nexts_many (n : Nat) (a0 : D) : Option D :=
 obind (lenP a0) fun v4 =>
 some v4

def typing_nexts_manyL (n : Nat) : List D → Option D
  | [a0] => typing_nexts_many n a0
  | _ => none
def typing_truths_many (n : Nat) (a0 : D) : Option D :=
 og (aggP 3 a0) <|
 obind (lenP (celD a0 1)) fun v5 =>
 some v5

def typing_truths_manyL (n : Nat) : List D → Option D
  | [a0] => typing_truths_many n a0
  | _ => none
def typing_meant_many (n : Nat) (a0 : D) : Option D :=
 obind (lenP a0) fun v4 =>
 some v4

def typing_meant_manyL (n : Nat) : List D → Option D
  | [a0] => typing_meant_many n a0
  | _ => none
def typing_ringed_many (n : Nat) (a0 : D) : Option D :=
 obind (lenP a0) fun v4 =>
 some v4

def typing_ringed_manyL (n : Nat) : List D → Option D
  | [a0] => typing_ringed_many n a0
  | _ => none
def typing_named_many (n : Nat) (a0 : D) : Option D :=
 obind (lenP a0) fun v4 =>
 some v4

def typing_named_manyL (n : Nat) : List D → Option D
  | [a0] => typing_named_many n a0
  | _ => none
def typing_specs_wrong_1 (n : Nat) (a0 : D) (x1 : List D) : Option D :=
 og (aggP 7 a0) <|
 obind (atP false 1 0 x1) fun v6 =>
 obind (binP false .eql (celD a0 0) v6) fun v7 =>
 some v7

def typing_specs_wrong_1L (n : Nat) : List D → Option D
  | [a0, a1] => (match a1 with | .ref x1 0 => typing_specs_wrong_1 n a0 x1 | _ => none)
  | _ => none
def slices_IndexFunc_typing_specs_api_Spec_typing_specs_wrong_1_l2 (n : Nat) (ls : List D) : Option (List D ⊕ (List D ⊕ D)) :=
 obind (binP false .lss (pd ls 3) (pd ls 2)) fun v9 =>
 oif v9 (
 obind (ixP 7 (pd ls 0) (pd ls 3)) fun c14 =>
 obind (atP true 7 0 c14) fun v15 =>
 obind (typing_specs_wrong_1L n [v15, (pd ls 1)]) fun v16 =>
 oif v16 (
 inrX (
 inrX (
 some (pd ls 3)
)
)
) (
 obind (binP false .add (pd ls 3) (eI 1)) fun v18 =>
 some (.inl [(pd ls 0), (pd ls 1), (pd ls 2), v18])
)
) (
 inrX (
 some (.inl [])
)
)

def slices_IndexFunc_typing_specs_api_Spec_typing_specs_wrong_1 (n : Nat) (a0 : D) (x1_0 : D) : Option D :=
 obind (lenP a0) fun v7 =>
 obind (
 iterL (slices_IndexFunc_typing_specs_api_Spec_typing_specs_wrong_1_l2 n) n [a0, x1_0, v7, (eI 0)]
) <| jnX fun ls =>
 some (eI (-1))

def slices_IndexFunc_typing_specs_api_Spec_typing_specs_wrong_1L (n : Nat) : List D → Option D
  | [a0, a1] => (match fnOf fid_typing_specs_wrong_1 a1 with | some [x1_0] => slices_IndexFunc_typing_specs_api_Spec_typing_specs_wrong_1 n a0 x1_0 | _ => none)
  | _ => none
def slices_ContainsFunc_typing_specs_api_Spec_typing_specs_wrong_1 (n : Nat) (a0 : D) (x1_0 : D) : Option D :=
 obind (slices_IndexFunc_typing_specs_api_Spec_typing_specs_wrong_1L n [a0, (D.fn (.func fid_typing_specs_wrong_1) [] [x1_0])]) fun v7 =>
 obind (binP false .geq v7 (eI 0)) fun v8 =>
 some v8

def slices_ContainsFunc_typing_specs_api_Spec_typing_specs_wrong_1L (n : Nat) : List D → Option D
  | [a0, a1] => (match fnOf fid_typing_specs_wrong_1 a1 with | some [x1_0] => slices_ContainsFunc_typing_specs_api_Spec_typing_specs_wrong_1 n a0 x1_0 | _ => none)
  | _ => none
def terms_kids (n : Nat) (a0 : D) : Option D :=
 obind (binP false .eql a0 (eI 1)) fun v6 =>
 obind (
 oif v6 (
 some (.inl [a0, v6])
) (
 obind (binP false .eql a0 (eI 2)) fun v7 =>
 obind (
 oif v7 (
 some (.inl [a0, v7])
) (
 obind (binP false .eql a0 (eI 3)) fun v8 =>
 obind (
 oif v8 (
 some (.inl [a0, v8])
) (
 obind (binP false .eql a0 (eI 4)) fun v9 =>
 some (.inl [a0, v9])
)
) <| jnX fun ls =>
 some (.inl [(pd ls 0), (pd ls 1)])
)
) <| jnX fun ls =>
 some (.inl [(pd ls 0), (pd ls 1)])
)
) <| jnX fun ls =>
 oif (pd ls 1) (
 some (D.tup [(eI 0), (eI 0)])
) (
 obind (binP false .eql (pd ls 0) (eI 5)) fun v11 =>
 oif v11 (
 some (D.tup [(eI 1), (eI 1)])
) (
 obind (binP false .eql (pd ls 0) (eI 6)) fun v13 =>
 obind (
 oif v13 (
 some (.inl [(pd ls 0), v13])
) (
 obind (binP false .eql (pd ls 0) (eI 7)) fun v14 =>
 some (.inl [(pd ls 0), v14])
)
) <| jnX fun ls =>
 oif (pd ls 1) (
 some (D.tup [(eI 1), (eI 64)])
) (
 obind (binP false .eql (pd ls 0) (eI 8)) fun v16 =>
 obind (
 oif v16 (
 some (.inl [(pd ls 0), v16])
) (
 obind (binP false .eql (pd ls 0) (eI 9)) fun v17 =>
 obind (
 oif v17 (
 some (.inl [(pd ls 0), v17])
) (
 obind (binP false .eql (pd ls 0) (eI 10)) fun v18 =>
 obind (
 oif v18 (
 some (.inl [(pd ls 0), v18])
) (
 obind (binP false .eql (pd ls 0) (eI 11)) fun v19 =>
 obind (
 oif v19 (
 some (.inl [(pd ls 0), v19])
) (
 obind (binP false .eql (pd ls 0) (eI 12)) fun v20 =>
 obind (
 oif v20 (
 some (.inl [(pd ls 0), v20])
) (
 obind (binP false .eql (pd ls 0) (eI 13)) fun v21 =>
 obind (
 oif v21 (
 some (.inl [(pd ls 0), v21])
) (
 obind (binP false .eql (pd ls 0) (eI 14)) fun v22 =>
 obind (
 oif v22 (
 some (.inl [(pd ls 0), v22])
) (
 obind (binP false .eql (pd ls 0) (eI 15)) fun v23 =>
 obind (
 oif v23 (
 some (.inl [(pd ls 0), v23])
) (
 obind (binP false .eql (pd ls 0) (eI 16)) fun v24 =>
 obind (
 oif v24 (
 some (.inl [(pd ls 0), v24])
) (
 obind (binP false .eql (pd ls 0) (eI 17)) fun v25 =>
 some (.inl [(pd ls 0), v25])
)
) <| jnX fun ls =>
 some (.inl [(pd ls 0), (pd ls 1)])
)
) <| jnX fun ls =>
 some (.inl [(pd ls 0), (pd ls 1)])
)
) <| jnX fun ls =>
 some (.inl [(pd ls 0), (pd ls 1)])
)
) <| jnX fun ls =>
 some (.inl [(pd ls 0), (pd ls 1)])
)
) <| jnX fun ls =>
 some (.inl [(pd ls 0), (pd ls 1)])
)
) <| jnX fun ls =>
 some (.inl [(pd ls 0), (pd ls 1)])
)
) <| jnX fun ls =>
 some (.inl [(pd ls 0), (pd ls 1)])
)
) <| jnX fun ls =>
 some (.inl [(pd ls 0), (pd ls 1)])
)
) <| jnX fun ls =>
 oif (pd ls 1) (
 some (D.tup [(eI 2), (eI 2)])
) (
 obind (binP false .eql (pd ls 0) (eI 18)) fun v27 =>
 oif v27 (
 some (D.tup [(eI 3), (eI 3)])
) (
 some (D.tup [(eI (-1)), (eI (-1))])
)
)
)
)
)

def terms_kidsL (n : Nat) : List D → Option D
  | [a0] => terms_kids n a0
  | _ => none
def terms_wrong (n : Nat) (a0 : D) : Option D :=
 og (aggP 4 a0) <|
 obind (terms_kidsL n [(celD a0 0)]) fun v11 =>
 obind (extP 0 v11) fun v12 =>
 obind (extP 1 v11) fun v13 =>
 obind (binP false .lss v12 (eI 0)) fun v15 =>
 oif v15 (
 some (eI 11)
) (
 obind (
 obind (binP false .eql (celD a0 0) (eI 1)) fun v19 =>
 obind (
 oif v19 (
 some (.inl [v12, v13, (eI (-255)), (eI 255), (celD a0 0), (celD a0 1), (celD a0 2), (celD a0 3)])
) (
 obind (binP false .eql (celD a0 0) (eI 2)) fun v21 =>
 obind (
 oif v21 (
 some (.inl [v12, v13, (eI 0), (eI 1), (celD a0 0), (celD a0 1), (celD a0 2), (celD a0 3)])
) (
 some (.inl [v12, v13, (eI 0), (eI 0), (celD a0 0), (celD a0 1), (celD a0 2), (celD a0 3)])
)
) <| jnX fun ls =>
 some (.inl [(pd ls 0), (pd ls 1), (pd ls 2), (pd ls 3), (pd ls 4), (pd ls 5), (pd ls 6), (pd ls 7)])
)
) <| jnX fun ls =>
 some (.inl [(pd ls 0), (pd ls 1), (pd ls 2), (pd ls 3), (pd ls 4), (pd ls 5), (pd ls 6), (pd ls 7)])
) <| jnX fun ls =>
 obind (binP false .eql (pd ls 4) (eI 3)) fun v24 =>
 obind (gD v24 false (
 obind (binP false .eql (pd ls 4) (eI 4)) fun v28 =>
 some v28
)) fun v28 =>
 obind (pickP v24 (eB true) v28) fun v29 =>
 obind (binP false .lss (pd ls 5) (pd ls 2)) fun v34 =>
 obind (gD v34 false (
 obind (binP false .gtr (pd ls 5) (pd ls 3)) fun v39 =>
 some v39
)) fun v39 =>
 obind (pickP v34 (eB true) v39) fun v40 =>
 oif v40 (
 some (eI 2)
) (
 obind (gD v29 true (
 obind (binP false .eql (pd ls 6) (eS ⟨#[]⟩)) fun v46 =>
 some v46
)) fun v47 =>
 obind (gD v47 false (
 obind (lensP (pd ls 6)) fun v50 =>
 obind (binP false .gtr v50 (eI 24)) fun v51 =>
 some v51
)) fun v51 =>
 obind (gD v29 true (
 obind (pickP v47 (eB true) v51) fun v52 =>
 some v52
)) fun v52 =>
 obind (pickP v29 v52 (eB false)) fun v53 =>
 obind (gD v53 false (
 obind (unP .not v29) fun v56 =>
 some v56
)) fun v57 =>
 obind (gD v57 true (
 obind (binP false .neq (pd ls 6) (eS ⟨#[]⟩)) fun v60 =>
 some v60
)) fun v60 =>
 obind (gD v53 false (
 obind (pickP v57 v60 (eB false)) fun v61 =>
 some v61
)) fun v61 =>
 obind (pickP v53 (eB true) v61) fun v62 =>
 oif v62 (
 some (eI 12)
) (
 obind (lenP (pd ls 7)) fun v66 =>
 obind (binP false .lss v66 (pd ls 0)) fun v68 =>
 obind (gD v68 false (
 obind (lenP (pd ls 7)) fun v72 =>
 obind (binP false .gtr v72 (pd ls 1)) fun v74 =>
 some v74
)) fun v74 =>
 obind (pickP v68 (eB true) v74) fun v75 =>
 oif v75 (
 some (eI 3)
) (
 some (eI 0)
)
)
)
)

def terms_wrongL (n : Nat) : List D → Option D
  | [a0] => terms_wrong n a0
  | _ => none
def terms_Check_1_h (n : Nat) (ls : List D) : Option (List D) :=
 og (aggP 4 (pd ls 0)) <|
 obind (binP false .add (pd ls 2) (eI 1)) fun v8 =>
 og (oneP v8) <|
 obind (binP false .gtr (pd ls 1) (eI 64)) fun v10 =>
 obind (
 oif v10 (
 some (.inl [(eI 17), v8])
) (
 obind (terms_wrongL n [(D.agg [(celD (pd ls 0) 0), (celD (pd ls 0) 1), (celD (pd ls 0) 2), (celD (pd ls 0) 3)])]) fun v12 =>
 og (oneP v12) <|
 obind (binP false .eql v12 (eI 0)) fun v14 =>
 obind (gD v14 true (
 obind (binP false .gtr v8 (eI 4096)) fun v17 =>
 some v17
)) fun v17 =>
 obind (pickP v14 v17 (eB false)) fun v18 =>
 obind (
 oif v18 (
 some (.inl [(eI 4), v8])
) (
 some (.inl [v12, v8])
)
) <| jnX fun ls =>
 some (.inl [(pd ls 0), (pd ls 1)])
)
) <| jnX fun ls =>
 obind (binP false .eql (pd ls 0) (eI 0)) fun v20 =>
 some [v20, (pd ls 1), (pd ls 0)]

def terms_put_h_l2 (n : Nat) (ls : List D) : Option (List D ⊕ (List D ⊕ (List D))) :=
 obind (binP false .gtr (pd ls 1) (eI 0)) fun v9 =>
 obind (gD v9 true (
 obind (binP false .sub (pd ls 1) (eI 1)) fun v13 =>
 obind (numP ((esD (pd ls 2))).length v13) fun j14 =>
 obind (((esD (pd ls 2)))[j14]?) fun e15 =>
 obind (atP false 1 0 e15) fun v15 =>
 obind (binP false .gtr v15 (pd ls 0)) fun v17 =>
 some v17
)) fun v17 =>
 obind (pickP v9 v17 (eB false)) fun v18 =>
 oif v18 (
 obind (binP false .sub (pd ls 1) (eI 1)) fun v20 =>
 some (.inl [(pd ls 0), v20, (D.sl 1 (esD (pd ls 2)))])
) (
 inrX (
 some (.inl [(pd ls 0), (pd ls 1), (D.sl 1 (esD (pd ls 2)))])
)
)

def terms_put_h (n : Nat) (ls : List D) : Option (List D) :=
 obind (
 iterL (terms_put_h_l2 n) n [(pd ls 0), (eI ((esD (pd ls 1))).length), (D.sl 1 (esD (pd ls 1)))]
) <| jnX fun ls =>
 obind (binP false .gtr (pd ls 1) (eI 0)) fun v22 =>
 obind (gD v22 true (
 obind (binP false .sub (pd ls 1) (eI 1)) fun v26 =>
 obind (numP ((esD (pd ls 2))).length v26) fun j27 =>
 obind (((esD (pd ls 2)))[j27]?) fun e28 =>
 obind (atP false 1 0 e28) fun v28 =>
 obind (binP false .eql v28 (pd ls 0)) fun v30 =>
 some v30
)) fun v30 =>
 obind (pickP v22 v30 (eB false)) fun v31 =>
 oif v31 (
 some [(D.sl 1 (esD (pd ls 2)))]
) (
 og (roomP (((esD (pd ls 2))).length + ([[(eS ⟨#[]⟩)]]).length) 16) <|
 obind (binP false .add (pd ls 1) (eI 1)) fun v38 =>
 obind (cutP (((esD (pd ls 2)) ++ [[(eS ⟨#[]⟩)]])).length (some v38) none) fun p39 =>
 obind (cutP (((esD (pd ls 2)) ++ [[(eS ⟨#[]⟩)]])).length (some (pd ls 1)) none) fun p42 =>
 og (decide (p42.1 + p42.2 ≤ (((esD (pd ls 2)) ++ [[(eS ⟨#[]⟩)]])).length)) <|
 og (decide (p39.1 + p39.2 ≤ (((esD (pd ls 2)) ++ [[(eS ⟨#[]⟩)]])).length)) <|
 obind (numP (((((esD (pd ls 2)) ++ [[(eS ⟨#[]⟩)]])).take p39.1 ++ (((((esD (pd ls 2)) ++ [[(eS ⟨#[]⟩)]])).drop p42.1).take p42.2).take (min (((((esD (pd ls 2)) ++ [[(eS ⟨#[]⟩)]])).drop p42.1).take p42.2).length p39.2) ++ (((esD (pd ls 2)) ++ [[(eS ⟨#[]⟩)]])).drop (p39.1 + (min (((((esD (pd ls 2)) ++ [[(eS ⟨#[]⟩)]])).drop p42.1).take p42.2).length p39.2)))).length (pd ls 1)) fun j47 =>
 og (oneP (pd ls 0)) <|
 obind ((((((esD (pd ls 2)) ++ [[(eS ⟨#[]⟩)]])).take p39.1 ++ (((((esD (pd ls 2)) ++ [[(eS ⟨#[]⟩)]])).drop p42.1).take p42.2).take (min (((((esD (pd ls 2)) ++ [[(eS ⟨#[]⟩)]])).drop p42.1).take p42.2).length p39.2) ++ (((esD (pd ls 2)) ++ [[(eS ⟨#[]⟩)]])).drop (p39.1 + (min (((((esD (pd ls 2)) ++ [[(eS ⟨#[]⟩)]])).drop p42.1).take p42.2).length p39.2))))[j47]?) fun w1 =>
 some [(D.sl 1 ((((((esD (pd ls 2)) ++ [[(eS ⟨#[]⟩)]])).take p39.1 ++ (((((esD (pd ls 2)) ++ [[(eS ⟨#[]⟩)]])).drop p42.1).take p42.2).take (min (((((esD (pd ls 2)) ++ [[(eS ⟨#[]⟩)]])).drop p42.1).take p42.2).length p39.2) ++ (((esD (pd ls 2)) ++ [[(eS ⟨#[]⟩)]])).drop (p39.1 + (min (((((esD (pd ls 2)) ++ [[(eS ⟨#[]⟩)]])).drop p42.1).take p42.2).length p39.2)))).set j47 (setSegD w1 0 [(pd ls 0)])))]
)

def terms_Names_1_h (n : Nat) (ls : List D) : Option (List D) :=
 og (aggP 4 (pd ls 0)) <|
 obind (
 obind (binP false .eql (celD (pd ls 0) 0) (eI 3)) fun v10 =>
 obind (
 oif v10 (
 obind (terms_put_h n [(celD (pd ls 0) 2), (D.sl 1 (esD (pd ls 2)))]) fun h1 =>
 some (.inl [(D.sl 1 (esD (pd h1 0))), (D.sl 1 (esD (pd ls 3)))])
) (
 obind (binP false .eql (celD (pd ls 0) 0) (eI 4)) fun v16 =>
 obind (
 oif v16 (
 obind (terms_put_h n [(celD (pd ls 0) 2), (D.sl 1 (esD (pd ls 3)))]) fun h2 =>
 some (.inl [(D.sl 1 (esD (pd ls 2))), (D.sl 1 (esD (pd h2 0)))])
) (
 some (.inl [(D.sl 1 (esD (pd ls 2))), (D.sl 1 (esD (pd ls 3)))])
)
) <| jnX fun ls =>
 some (.inl [(D.sl 1 (esD (pd ls 0))), (D.sl 1 (esD (pd ls 1)))])
)
) <| jnX fun ls =>
 some (.inl [(D.sl 1 (esD (pd ls 0))), (D.sl 1 (esD (pd ls 1)))])
) <| jnX fun ls =>
 some [(eB true), (D.sl 1 (esD (pd ls 0))), (D.sl 1 (esD (pd ls 1)))]

def terms_walk_h_terms_Check_1_l4 (r_terms_walk_h_terms_Check_1 : List D → Option (List D)) (n : Nat) (ls : List D) : Option (List D ⊕ (List D ⊕ (List D))) :=
 obind (binP false .lss (pd ls 3) (pd ls 2)) fun v18 =>
 oif v18 (
 obind (ixP 4 (pd ls 1) (pd ls 3)) fun c19 =>
 obind (atP true 4 0 c19) fun v20 =>
 og (aggP 4 v20) <|
 obind (binP false .add (pd ls 0) (eI 1)) fun v23 =>
 obind (r_terms_walk_h_terms_Check_1 [(D.agg [(celD v20 0), (celD v20 1), (celD v20 2), (celD v20 3)]), v23, (pd ls 4), (pd ls 5)]) fun h2 =>
 obind (unP .not (pd h2 0)) fun v26 =>
 oif v26 (
 inrX (
 inrX (
 some [(eB false), (pd h2 1), (pd h2 2)]
)
)
) (
 obind (binP false .add (pd ls 3) (eI 1)) fun v27 =>
 some (.inl [(pd ls 0), (pd ls 1), (pd ls 2), v27, (pd h2 1), (pd h2 2)])
)
) (
 inrX (
 some (.inl [(pd ls 4), (pd ls 5)])
)
)

def terms_walk_h_terms_Check_1 (r_terms_walk_h_terms_Check_1 : List D → Option (List D)) (n : Nat) (ls : List D) : Option (List D) :=
 og (aggP 4 (pd ls 0)) <|
 obind (terms_Check_1_h n [(D.agg [(celD (pd ls 0) 0), (celD (pd ls 0) 1), (celD (pd ls 0) 2), (celD (pd ls 0) 3)]), (pd ls 1), (pd ls 2), (pd ls 3)]) fun h1 =>
 obind (unP .not (pd h1 0)) fun v13 =>
 oif v13 (
 some [(eB false), (pd h1 1), (pd h1 2)]
) (
 obind (lenP (celD (pd ls 0) 3)) fun v16 =>
 obind (
 iterL (terms_walk_h_terms_Check_1_l4 r_terms_walk_h_terms_Check_1 n) n [(pd ls 1), (celD (pd ls 0) 3), v16, (eI 0), (pd h1 1), (pd h1 2)]
) <| jnX fun ls =>
 some [(eB true), (pd ls 0), (pd ls 1)]
)

def terms_walk_h_terms_Check_1L : Nat → List D → Option (List D)
  | 0, _ => none
  | n + 1, ls => terms_walk_h_terms_Check_1 (terms_walk_h_terms_Check_1L n) n ls
def terms_Check (n : Nat) (a0 : D) : Option D :=
 og (aggP 4 a0) <|
 obind (terms_walk_h_terms_Check_1L n [(D.agg [(celD a0 0), (celD a0 1), (celD a0 2), (celD a0 3)]), (eI 1), (eI 0), (eI 0)]) fun h1 =>
 some (pd h1 2)

def terms_CheckL (n : Nat) : List D → Option D
  | [a0] => terms_Check n a0
  | _ => none
def terms_walk_h_terms_Names_1_l4 (r_terms_walk_h_terms_Names_1 : List D → Option (List D)) (n : Nat) (ls : List D) : Option (List D ⊕ (List D ⊕ (List D))) :=
 obind (binP false .lss (pd ls 3) (pd ls 2)) fun v18 =>
 oif v18 (
 obind (ixP 4 (pd ls 1) (pd ls 3)) fun c19 =>
 obind (atP true 4 0 c19) fun v20 =>
 og (aggP 4 v20) <|
 obind (binP false .add (pd ls 0) (eI 1)) fun v23 =>
 obind (r_terms_walk_h_terms_Names_1 [(D.agg [(celD v20 0), (celD v20 1), (celD v20 2), (celD v20 3)]), v23, (D.sl 1 (esD (pd ls 4))), (D.sl 1 (esD (pd ls 5)))]) fun h2 =>
 obind (unP .not (pd h2 0)) fun v26 =>
 oif v26 (
 inrX (
 inrX (
 some [(eB false), (D.sl 1 (esD (pd h2 1))), (D.sl 1 (esD (pd h2 2)))]
)
)
) (
 obind (binP false .add (pd ls 3) (eI 1)) fun v27 =>
 some (.inl [(pd ls 0), (pd ls 1), (pd ls 2), v27, (D.sl 1 (esD (pd h2 1))), (D.sl 1 (esD (pd h2 2)))])
)
) (
 inrX (
 some (.inl [(D.sl 1 (esD (pd ls 4))), (D.sl 1 (esD (pd ls 5)))])
)
)

def terms_walk_h_terms_Names_1 (r_terms_walk_h_terms_Names_1 : List D → Option (List D)) (n : Nat) (ls : List D) : Option (List D) :=
 og (aggP 4 (pd ls 0)) <|
 obind (terms_Names_1_h n [(D.agg [(celD (pd ls 0) 0), (celD (pd ls 0) 1), (celD (pd ls 0) 2), (celD (pd ls 0) 3)]), (pd ls 1), (D.sl 1 (esD (pd ls 2))), (D.sl 1 (esD (pd ls 3)))]) fun h1 =>
 obind (unP .not (pd h1 0)) fun v13 =>
 oif v13 (
 some [(eB false), (D.sl 1 (esD (pd h1 1))), (D.sl 1 (esD (pd h1 2)))]
) (
 obind (lenP (celD (pd ls 0) 3)) fun v16 =>
 obind (
 iterL (terms_walk_h_terms_Names_1_l4 r_terms_walk_h_terms_Names_1 n) n [(pd ls 1), (celD (pd ls 0) 3), v16, (eI 0), (D.sl 1 (esD (pd h1 1))), (D.sl 1 (esD (pd h1 2)))]
) <| jnX fun ls =>
 some [(eB true), (D.sl 1 (esD (pd ls 0))), (D.sl 1 (esD (pd ls 1)))]
)

def terms_walk_h_terms_Names_1L : Nat → List D → Option (List D)
  | 0, _ => none
  | n + 1, ls => terms_walk_h_terms_Names_1 (terms_walk_h_terms_Names_1L n) n ls
def terms_Names (n : Nat) (a0 : D) : Option D :=
 og (aggP 4 a0) <|
 obind (terms_walk_h_terms_Names_1L n [(D.agg [(celD a0 0), (celD a0 1), (celD a0 2), (celD a0 3)]), (eI 1), (D.sl 1 []), (D.sl 1 [])]) fun h1 =>
 some (D.tup [(D.sl 1 (esD (pd h1 1))), (D.sl 1 (esD (pd h1 2)))])

def terms_NamesL (n : Nat) : List D → Option D
  | [a0] => terms_Names n a0
  | _ => none
def forms_term (n : Nat) (a0 : D) : Option D :=
 og (aggP 6 a0) <|
 obind (binP false .neq (celD a0 0) (eI 1)) fun v8 =>
 oif v8 (
 some (eI 0)
) (
 obind (terms_CheckL n [(D.agg [(celD a0 1), (celD a0 2), (celD a0 3), (celD a0 4)])]) fun v11 =>
 obind (binP false .neq v11 (eI 0)) fun v13 =>
 oif v13 (
 some v11
) (
 obind (terms_NamesL n [(D.agg [(celD a0 1), (celD a0 2), (celD a0 3), (celD a0 4)])]) fun v18 =>
 obind (extP 0 v18) fun v19 =>
 obind (extP 1 v18) fun v20 =>
 obind (lenP v20) fun v22 =>
 obind (binP false .gtr v22 (eI 0)) fun v23 =>
 oif v23 (
 some (eI 24)
) (
 some (eI 0)
)
)
)

def forms_termL (n : Nat) : List D → Option D
  | [a0] => forms_term n a0
  | _ => none
def forms_kids (n : Nat) (a0 : D) : Option D :=
 obind (
 obind (binP false .eql a0 (eI 1)) fun v5 =>
 oif v5 (
 inrX (
 some (eI 0)
)
) (
 obind (binP false .eql a0 (eI 3)) fun v7 =>
 obind (
 oif v7 (
 some (.inl [a0, v7])
) (
 obind (binP false .eql a0 (eI 4)) fun v8 =>
 obind (
 oif v8 (
 some (.inl [a0, v8])
) (
 obind (binP false .eql a0 (eI 5)) fun v9 =>
 obind (
 oif v9 (
 some (.inl [a0, v9])
) (
 obind (binP false .eql a0 (eI 9)) fun v10 =>
 obind (
 oif v10 (
 some (.inl [a0, v10])
) (
 obind (binP false .eql a0 (eI 13)) fun v11 =>
 some (.inl [a0, v11])
)
) <| jnX fun ls =>
 some (.inl [(pd ls 0), (pd ls 1)])
)
) <| jnX fun ls =>
 some (.inl [(pd ls 0), (pd ls 1)])
)
) <| jnX fun ls =>
 some (.inl [(pd ls 0), (pd ls 1)])
)
) <| jnX fun ls =>
 oif (pd ls 1) (
 inrX (
 some (eI 2)
)
) (
 obind (binP false .eql (pd ls 0) (eI 2)) fun v13 =>
 obind (
 oif v13 (
 some (.inl [v13])
) (
 obind (binP false .eql (pd ls 0) (eI 6)) fun v14 =>
 obind (
 oif v14 (
 some (.inl [v14])
) (
 obind (binP false .eql (pd ls 0) (eI 7)) fun v15 =>
 obind (
 oif v15 (
 some (.inl [v15])
) (
 obind (binP false .eql (pd ls 0) (eI 8)) fun v16 =>
 obind (
 oif v16 (
 some (.inl [v16])
) (
 obind (binP false .eql (pd ls 0) (eI 10)) fun v17 =>
 obind (
 oif v17 (
 some (.inl [v17])
) (
 obind (binP false .eql (pd ls 0) (eI 11)) fun v18 =>
 obind (
 oif v18 (
 some (.inl [v18])
) (
 obind (binP false .eql (pd ls 0) (eI 12)) fun v19 =>
 some (.inl [v19])
)
) <| jnX fun ls =>
 some (.inl [(pd ls 0)])
)
) <| jnX fun ls =>
 some (.inl [(pd ls 0)])
)
) <| jnX fun ls =>
 some (.inl [(pd ls 0)])
)
) <| jnX fun ls =>
 some (.inl [(pd ls 0)])
)
) <| jnX fun ls =>
 some (.inl [(pd ls 0)])
)
) <| jnX fun ls =>
 oif (pd ls 0) (
 inrX (
 some (eI 1)
)
) (
 some (.inl [])
)
)
)
) <| jnX fun ls =>
 some (eI (-1))

def forms_kidsL (n : Nat) : List D → Option D
  | [a0] => forms_kids n a0
  | _ => none
def forms_Check_1_h (n : Nat) (ls : List D) : Option (List D) :=
 og (aggP 6 (pd ls 0)) <|
 obind (binP false .add (pd ls 2) (eI 1)) fun v11 =>
 og (oneP v11) <|
 obind (binP false .eql (celD (pd ls 0) 1) (eI 0)) fun v15 =>
 obind (gD v15 true (
 obind (binP false .eql (celD (pd ls 0) 2) (eI 0)) fun v20 =>
 some v20
)) fun v20 =>
 obind (pickP v15 v20 (eB false)) fun v21 =>
 obind (gD v21 true (
 obind (binP false .eql (celD (pd ls 0) 3) (eS ⟨#[]⟩)) fun v26 =>
 some v26
)) fun v26 =>
 obind (pickP v21 v26 (eB false)) fun v27 =>
 obind (gD v27 true (
 obind (lenP (celD (pd ls 0) 4)) fun v32 =>
 obind (binP false .eql v32 (eI 0)) fun v33 =>
 some v33
)) fun v33 =>
 obind (pickP v27 v33 (eB false)) fun v34 =>
 obind (forms_termL n [(D.agg [(celD (pd ls 0) 0), (celD (pd ls 0) 1), (celD (pd ls 0) 2), (celD (pd ls 0) 3), (celD (pd ls 0) 4), (celD (pd ls 0) 5)])]) fun v36 =>
 obind (forms_kidsL n [(celD (pd ls 0) 0)]) fun v39 =>
 obind (
 obind (binP false .gtr (pd ls 1) (eI 64)) fun v42 =>
 obind (
 oif v42 (
 some (.inl [(eI 17), v11])
) (
 obind (binP false .lss v39 (eI 0)) fun v45 =>
 obind (
 oif v45 (
 some (.inl [(eI 11), v11])
) (
 obind (binP false .neq v36 (eI 0)) fun v48 =>
 obind (
 oif v48 (
 og (oneP v36) <|
 some (.inl [v36, v11])
) (
 obind (lenP (celD (pd ls 0) 5)) fun v53 =>
 obind (binP false .neq v53 v39) fun v55 =>
 obind (gD v55 false (
 obind (binP false .neq (celD (pd ls 0) 0) (eI 1)) fun v59 =>
 some v59
)) fun v60 =>
 obind (gD v60 true (
 obind (unP .not v34) fun v62 =>
 some v62
)) fun v62 =>
 obind (gD v55 false (
 obind (pickP v60 v62 (eB false)) fun v63 =>
 some v63
)) fun v63 =>
 obind (pickP v55 (eB true) v63) fun v64 =>
 obind (
 oif v64 (
 some (.inl [(eI 3), v11])
) (
 obind (binP false .gtr v11 (eI 4096)) fun v67 =>
 obind (
 oif v67 (
 some (.inl [(eI 4), v11])
) (
 some (.inl [(pd ls 3), v11])
)
) <| jnX fun ls =>
 some (.inl [(pd ls 0), (pd ls 1)])
)
) <| jnX fun ls =>
 some (.inl [(pd ls 0), (pd ls 1)])
)
) <| jnX fun ls =>
 some (.inl [(pd ls 0), (pd ls 1)])
)
) <| jnX fun ls =>
 some (.inl [(pd ls 0), (pd ls 1)])
)
) <| jnX fun ls =>
 some (.inl [(pd ls 0), (pd ls 1)])
) <| jnX fun ls =>
 obind (binP false .eql (pd ls 0) (eI 0)) fun v69 =>
 some [v69, (pd ls 1), (pd ls 0)]

def forms_each_h_forms_Check_1_l4 (r_forms_each_h_forms_Check_1 : List D → Option (List D)) (n : Nat) (ls : List D) : Option (List D ⊕ (List D ⊕ (List D))) :=
 obind (binP false .lss (pd ls 3) (pd ls 2)) fun v18 =>
 oif v18 (
 obind (ixP 6 (pd ls 1) (pd ls 3)) fun c19 =>
 obind (atP true 6 0 c19) fun v20 =>
 og (aggP 6 v20) <|
 obind (binP false .add (pd ls 0) (eI 1)) fun v23 =>
 obind (r_forms_each_h_forms_Check_1 [(D.agg [(celD v20 0), (celD v20 1), (celD v20 2), (celD v20 3), (celD v20 4), (celD v20 5)]), v23, (pd ls 4), (pd ls 5)]) fun h2 =>
 obind (unP .not (pd h2 0)) fun v26 =>
 oif v26 (
 inrX (
 inrX (
 some [(eB false), (pd h2 1), (pd h2 2)]
)
)
) (
 obind (binP false .add (pd ls 3) (eI 1)) fun v27 =>
 some (.inl [(pd ls 0), (pd ls 1), (pd ls 2), v27, (pd h2 1), (pd h2 2)])
)
) (
 inrX (
 some (.inl [(pd ls 4), (pd ls 5)])
)
)

def forms_each_h_forms_Check_1 (r_forms_each_h_forms_Check_1 : List D → Option (List D)) (n : Nat) (ls : List D) : Option (List D) :=
 og (aggP 6 (pd ls 0)) <|
 obind (forms_Check_1_h n [(D.agg [(celD (pd ls 0) 0), (celD (pd ls 0) 1), (celD (pd ls 0) 2), (celD (pd ls 0) 3), (celD (pd ls 0) 4), (celD (pd ls 0) 5)]), (pd ls 1), (pd ls 2), (pd ls 3)]) fun h1 =>
 obind (unP .not (pd h1 0)) fun v13 =>
 oif v13 (
 some [(eB false), (pd h1 1), (pd h1 2)]
) (
 obind (lenP (celD (pd ls 0) 5)) fun v16 =>
 obind (
 iterL (forms_each_h_forms_Check_1_l4 r_forms_each_h_forms_Check_1 n) n [(pd ls 1), (celD (pd ls 0) 5), v16, (eI 0), (pd h1 1), (pd h1 2)]
) <| jnX fun ls =>
 some [(eB true), (pd ls 0), (pd ls 1)]
)

def forms_each_h_forms_Check_1L : Nat → List D → Option (List D)
  | 0, _ => none
  | n + 1, ls => forms_each_h_forms_Check_1 (forms_each_h_forms_Check_1L n) n ls
def forms_Check (n : Nat) (a0 : D) : Option D :=
 og (aggP 6 a0) <|
 obind (forms_each_h_forms_Check_1L n [(D.agg [(celD a0 0), (celD a0 1), (celD a0 2), (celD a0 3), (celD a0 4), (celD a0 5)]), (eI 1), (eI 0), (eI 0)]) fun h1 =>
 some (pd h1 2)

def forms_CheckL (n : Nat) : List D → Option D
  | [a0] => forms_Check n a0
  | _ => none
def defs_names_l3 (n : Nat) (ls : List D) : Option (List D ⊕ (List D ⊕ D)) :=
 obind (binP false .lss (pd ls 2) (pd ls 1)) fun v12 =>
 oif v12 (
 obind (
 obind (ixP 5 (pd ls 0) (pd ls 2)) fun c14 =>
 obind (atP true 5 0 c14) fun v15 =>
 og (aggP 5 v15) <|
 obind (lookP (.string) (.int .i64 0) true (mpD (pd ls 3)) (celD v15 0)) fun v20 =>
 obind (extP 0 v20) fun v21 =>
 obind (extP 1 v20) fun v22 =>
 obind (unP .not v22) fun v24 =>
 obind (
 oif v24 (
 obind (putP (.string) (mpD (pd ls 3)) (celD v15 0) (pd ls 2)) fun m8_1 =>
 some (.inl [(pd ls 0), (pd ls 1), (pd ls 2), (D.mp m8_1)])
) (
 some (.inl [(pd ls 0), (pd ls 1), (pd ls 2), (D.mp (mpD (pd ls 3)))])
)
) <| jnX fun ls =>
 some (.inl [(pd ls 0), (pd ls 1), (pd ls 2), (D.mp (mpD (pd ls 3)))])
) <| jnX fun ls =>
 obind (binP false .add (pd ls 2) (eI 1)) fun v29 =>
 some (.inl [(pd ls 0), (pd ls 1), v29, (D.mp (mpD (pd ls 3)))])
) (
 inrX (
 some (.inl [(D.mp (mpD (pd ls 3)))])
)
)

def defs_names (n : Nat) (a0 : D) : Option D :=
 obind (lenP a0) fun v10 =>
 obind (
 iterL (defs_names_l3 n) n [a0, v10, (eI 0), (D.mp [])]
) <| jnX fun ls =>
 some (D.mp (mpD (pd ls 0)))

def defs_namesL (n : Nat) : List D → Option D
  | [a0] => defs_names n a0
  | _ => none
def defs_links_l9 (n : Nat) (ls : List D) : Option (List D ⊕ (List D ⊕ (List D ⊕ (List D ⊕ (List D ⊕ D))))) :=
 obind (binP false .lss (pd ls 6) (pd ls 5)) fun v31 =>
 oif v31 (
 obind (
 obind (ixP 1 (pd ls 4) (pd ls 6)) fun c32 =>
 obind (atP false 1 0 c32) fun v33 =>
 obind (entP (pd ls 0)) fun es37 =>
 obind (lookP (.string) (.int .i64 0) true es37 v33) fun v37 =>
 obind (extP 0 v37) fun v38 =>
 obind (extP 1 v37) fun v39 =>
 obind (
 oif v39 (
 og (oneP v38) <|
 og (roomP (((esD (pd ls 8))).length + ([[v38]]).length) 8) <|
 some (.inl [(pd ls 0), (pd ls 1), (pd ls 2), (pd ls 3), (pd ls 4), (pd ls 5), (pd ls 6), (D.sl 1 (esD (pd ls 7))), (D.sl 1 ((esD (pd ls 8)) ++ [[v38]]))])
) (
 some (.inl [(pd ls 0), (pd ls 1), (pd ls 2), (pd ls 3), (pd ls 4), (pd ls 5), (pd ls 6), (D.sl 1 (esD (pd ls 7))), (D.sl 1 (esD (pd ls 8)))])
)
) <| jnX fun ls =>
 some (.inl [(pd ls 0), (pd ls 1), (pd ls 2), (pd ls 3), (pd ls 4), (pd ls 5), (pd ls 6), (D.sl 1 (esD (pd ls 7))), (D.sl 1 (esD (pd ls 8)))])
) <| jnX fun ls =>
 obind (binP false .add (pd ls 6) (eI 1)) fun v45 =>
 some (.inl [(pd ls 0), (pd ls 1), (pd ls 2), (pd ls 3), (pd ls 4), (pd ls 5), v45, (D.sl 1 (esD (pd ls 7))), (D.sl 1 (esD (pd ls 8)))])
) (
 inrX (
 some (.inl [(pd ls 0), (pd ls 1), (pd ls 2), (pd ls 3), (D.sl 1 (esD (pd ls 7))), (D.sl 1 (esD (pd ls 8)))])
)
)

def defs_links_l4 (n : Nat) (ls : List D) : Option (List D ⊕ (List D ⊕ D)) :=
 obind (binP false .lss (pd ls 3) (pd ls 2)) fun v19 =>
 oif v19 (
 obind (
 obind (ixP 5 (pd ls 1) (pd ls 3)) fun c20 =>
 obind (atP true 5 0 c20) fun v21 =>
 og (aggP 5 v21) <|
 obind (terms_NamesL n [(D.agg [(celD v21 1), (celD v21 2), (celD v21 3), (celD v21 4)])]) fun v25 =>
 obind (extP 0 v25) fun v26 =>
 obind (extP 1 v25) fun v27 =>
 obind (lenP v26) fun v29 =>
 obind (
 iterL (defs_links_l9 n) n [(pd ls 0), (pd ls 1), (pd ls 2), (pd ls 3), v26, v29, (eI 0), (D.sl 1 (esD (pd ls 4))), (D.sl 1 [])]
) <| jnX fun ls =>
 og (oneP (D.sl 1 (esD (pd ls 5)))) <|
 og (roomP (((esD (pd ls 4))).length + ([[(D.sl 1 (esD (pd ls 5)))]]).length) 24) <|
 some (.inl [(pd ls 0), (pd ls 1), (pd ls 2), (pd ls 3), (D.sl 1 ((esD (pd ls 4)) ++ [[(D.sl 1 (esD (pd ls 5)))]]))])
) <| jnX fun ls =>
 obind (binP false .add (pd ls 3) (eI 1)) fun v50 =>
 some (.inl [(pd ls 0), (pd ls 1), (pd ls 2), v50, (D.sl 1 (esD (pd ls 4)))])
) (
 inrX (
 some (.inl [(D.sl 1 (esD (pd ls 4)))])
)
)

def defs_links (n : Nat) (a0 : D) : Option D :=
 obind (defs_namesL n [a0]) fun v15 =>
 obind (lenP a0) fun v17 =>
 obind (
 iterL (defs_links_l4 n) n [v15, a0, v17, (eI 0), (D.sl 1 [])]
) <| jnX fun ls =>
 some (D.sl 1 (esD (pd ls 0)))

def defs_linksL (n : Nat) : List D → Option D
  | [a0] => defs_links n a0
  | _ => none
def defs_reached_1_h_l1 (r_defs_reached_1_h : List D → Option (List D)) (n : Nat) (ls : List D) : Option (List D ⊕ (List D ⊕ (List D))) :=
 obind (binP false .lss (pd ls 2) (pd ls 1)) fun v13 =>
 oif v13 (
 obind (
 obind (ixP 1 (pd ls 0) (pd ls 2)) fun c14 =>
 obind (atP false 1 0 c14) fun v15 =>
 obind (lookP (.int .i64) (.bool false) false (mpD (pd ls 4)) v15) fun v18 =>
 obind (unP .not v18) fun v19 =>
 obind (
 oif v19 (
 obind (putP (.int .i64) (mpD (pd ls 4)) v15 (eB true)) fun m9000_1 =>
 obind (r_defs_reached_1_h [v15, (pd ls 3), (D.mp m9000_1)]) fun h2 =>
 some (.inl [(pd ls 0), (pd ls 1), (pd ls 2), (pd h2 1), (D.mp (mpD (pd h2 2)))])
) (
 some (.inl [(pd ls 0), (pd ls 1), (pd ls 2), (pd ls 3), (D.mp (mpD (pd ls 4)))])
)
) <| jnX fun ls =>
 some (.inl [(pd ls 0), (pd ls 1), (pd ls 2), (pd ls 3), (D.mp (mpD (pd ls 4)))])
) <| jnX fun ls =>
 obind (binP false .add (pd ls 2) (eI 1)) fun v25 =>
 some (.inl [(pd ls 0), (pd ls 1), v25, (pd ls 3), (D.mp (mpD (pd ls 4)))])
) (
 inrX (
 some (.inl [(pd ls 3), (D.mp (mpD (pd ls 4)))])
)
)

def defs_reached_1_h (r_defs_reached_1_h : List D → Option (List D)) (n : Nat) (ls : List D) : Option (List D) :=
 obind (ixP 1 (pd ls 1) (pd ls 0)) fun c9 =>
 obind (atP false 1 0 c9) fun v10 =>
 obind (lenP v10) fun v11 =>
 obind (
 iterL (defs_reached_1_h_l1 r_defs_reached_1_h n) n [v10, v11, (eI 0), (pd ls 1), (D.mp (mpD (pd ls 2)))]
) <| jnX fun ls =>
 some [(D.tup []), (pd ls 0), (D.mp (mpD (pd ls 1)))]

def defs_reached_1_hL : Nat → List D → Option (List D)
  | 0, _ => none
  | n + 1, ls => defs_reached_1_h (defs_reached_1_hL n) n ls
def defs_reached_h_l5 (n : Nat) (ls : List D) : Option (List D ⊕ (List D ⊕ (List D))) :=
 obind (binP false .lss (pd ls 2) (pd ls 1)) fun v14 =>
 oif v14 (
 obind (ixP 1 (pd ls 0) (pd ls 2)) fun c15 =>
 obind (atP false 1 0 c15) fun v16 =>
 obind (defs_reached_1_hL n [v16, (pd ls 4), (D.mp (mpD (pd ls 3)))]) fun h1 =>
 obind (binP false .add (pd ls 2) (eI 1)) fun v20 =>
 some (.inl [(pd ls 0), (pd ls 1), v20, (D.mp (mpD (pd h1 2))), (pd h1 1)])
) (
 inrX (
 some (.inl [(D.mp (mpD (pd ls 3)))])
)
)

def defs_reached_h (n : Nat) (ls : List D) : Option (List D) :=
 og (oneP (pd ls 0)) <|
 obind (lenP (pd ls 1)) fun v12 =>
 obind (
 iterL (defs_reached_h_l5 n) n [(pd ls 1), v12, (eI 0), (D.mp []), (pd ls 0)]
) <| jnX fun ls =>
 some [(D.mp (mpD (pd ls 0)))]

def defs_reached_l5 (n : Nat) (ls : List D) : Option (List D ⊕ (List D ⊕ D)) :=
 obind (binP false .lss (pd ls 2) (pd ls 1)) fun v14 =>
 oif v14 (
 obind (ixP 1 (pd ls 0) (pd ls 2)) fun c15 =>
 obind (atP false 1 0 c15) fun v16 =>
 obind (defs_reached_1_hL n [v16, (pd ls 4), (D.mp (mpD (pd ls 3)))]) fun h1 =>
 obind (binP false .add (pd ls 2) (eI 1)) fun v20 =>
 some (.inl [(pd ls 0), (pd ls 1), v20, (D.mp (mpD (pd h1 2))), (pd h1 1)])
) (
 inrX (
 some (.inl [(D.mp (mpD (pd ls 3)))])
)
)

def defs_reached (n : Nat) (a0 : D) (a1 : D) : Option D :=
 og (oneP a0) <|
 obind (lenP a1) fun v12 =>
 obind (
 iterL (defs_reached_l5 n) n [a1, v12, (eI 0), (D.mp []), a0]
) <| jnX fun ls =>
 some (D.mp (mpD (pd ls 0)))

def defs_reachedL (n : Nat) : List D → Option D
  | [a0, a1] => defs_reached n a0 a1
  | _ => none
def defs_inline_1_h_l1 (r_defs_inline_1_h : List D → Option (List D)) (n : Nat) (ls : List D) : Option (List D ⊕ (List D ⊕ (List D))) :=
 obind (binP false .eql (pd ls 4) (eI 3)) fun v16 =>
 oif v16 (
 obind (entP (pd ls 1)) fun es21 =>
 obind (lookP (.string) (.int .i64 0) true es21 (pd ls 6)) fun v21 =>
 obind (extP 0 v21) fun v22 =>
 obind (extP 1 v21) fun v23 =>
 obind (unP .not v23) fun v25 =>
 oif v25 (
 inrX (
 some (.inl [(pd ls 0), (pd ls 3), (pd ls 4), (pd ls 5), (pd ls 6), (pd ls 7), (pd ls 8), (pd ls 9), (pd ls 10), (pd ls 11), (pd ls 1), (pd ls 2)])
)
) (
 obind (ixP 5 (pd ls 2) v22) fun c28 =>
 obind (atP true 4 1 c28) fun v30 =>
 og (aggP 4 v30) <|
 some (.inl [(pd ls 0), (pd ls 1), (pd ls 2), (pd ls 3), (celD v30 0), (celD v30 1), (celD v30 2), (celD v30 3), (pd ls 8), (pd ls 9), (pd ls 10), (pd ls 11)])
)
) (
 inrX (
 some (.inl [(pd ls 0), (pd ls 3), (pd ls 4), (pd ls 5), (pd ls 6), (pd ls 7), (pd ls 8), (pd ls 9), (pd ls 10), (pd ls 11), (pd ls 1), (pd ls 2)])
)
)

def defs_inline_1_h_l10 (r_defs_inline_1_h : List D → Option (List D)) (n : Nat) (ls : List D) : Option (List D ⊕ (List D ⊕ (List D))) :=
 obind (binP false .lss (pd ls 3) (pd ls 2)) fun v46 =>
 oif v46 (
 obind (
 obind (ixP 4 (pd ls 1) (pd ls 3)) fun c48 =>
 obind (atP true 4 0 c48) fun v49 =>
 og (aggP 4 v49) <|
 obind (binP false .leq (pd ls 0) (eI 64)) fun v51 =>
 obind (gD v51 true (
 obind (binP false .leq (pd ls 4) (eI 4096)) fun v54 =>
 some v54
)) fun v54 =>
 obind (pickP v51 v54 (eB false)) fun v55 =>
 obind (
 oif v55 (
 obind (binP false .add (pd ls 0) (eI 1)) fun v61 =>
 obind (r_defs_inline_1_h [(D.agg [(celD v49 0), (celD v49 1), (celD v49 2), (celD v49 3)]), v61, (pd ls 14), (pd ls 15), (pd ls 4)]) fun h1 =>
 obind (numP ((esD (pd ls 13))).length (pd ls 3)) fun j63 =>
 og (aggP 4 (pd h1 0)) <|
 obind (((esD (pd ls 13)))[j63]?) fun w2 =>
 some (.inl [(pd ls 0), (pd ls 1), (pd ls 2), (pd ls 3), (pd h1 3), (pd ls 5), (pd ls 6), (pd ls 7), (pd ls 8), (pd ls 9), (pd ls 10), (pd ls 11), (pd ls 12), (D.sl 4 (((esD (pd ls 13))).set j63 (setSegD w2 0 [(celD (pd h1 0) 0), (celD (pd h1 0) 1), (celD (pd h1 0) 2), (celD (pd h1 0) 3)]))), (pd h1 1), (pd h1 2)])
) (
 some (.inl [(pd ls 0), (pd ls 1), (pd ls 2), (pd ls 3), (pd ls 4), (pd ls 5), (pd ls 6), (pd ls 7), (pd ls 8), (pd ls 9), (pd ls 10), (pd ls 11), (pd ls 12), (D.sl 4 (esD (pd ls 13))), (pd ls 14), (pd ls 15)])
)
) <| jnX fun ls =>
 some (.inl [(pd ls 0), (pd ls 1), (pd ls 2), (pd ls 3), (pd ls 4), (pd ls 5), (pd ls 6), (pd ls 7), (pd ls 8), (pd ls 9), (pd ls 10), (pd ls 11), (pd ls 12), (D.sl 4 (esD (pd ls 13))), (pd ls 14), (pd ls 15)])
) <| jnX fun ls =>
 obind (binP false .add (pd ls 3) (eI 1)) fun v64 =>
 some (.inl [(pd ls 0), (pd ls 1), (pd ls 2), v64, (pd ls 4), (pd ls 5), (pd ls 6), (pd ls 7), (pd ls 8), (pd ls 9), (pd ls 10), (pd ls 11), (pd ls 12), (D.sl 4 (esD (pd ls 13))), (pd ls 14), (pd ls 15)])
) (
 inrX (
 some (.inl [(pd ls 5), (pd ls 6), (pd ls 7), (pd ls 8), (pd ls 9), (pd ls 10), (pd ls 11), (pd ls 12), (D.sl 4 (esD (pd ls 13))), (pd ls 14), (pd ls 15), (pd ls 4)])
)
)

def defs_inline_1_h (r_defs_inline_1_h : List D → Option (List D)) (n : Nat) (ls : List D) : Option (List D) :=
 og (aggP 4 (pd ls 0)) <|
 obind (
 iterL (defs_inline_1_h_l1 r_defs_inline_1_h n) n [(pd ls 1), (pd ls 2), (pd ls 3), (pd ls 4), (celD (pd ls 0) 0), (celD (pd ls 0) 1), (celD (pd ls 0) 2), (celD (pd ls 0) 3), (eI 0), (eI 0), (eS ⟨#[]⟩), (D.val (.slice none 0 0))]
) <| jnX fun ls =>
 obind (binP false .add (pd ls 1) (eI 1)) fun v32 =>
 og (oneP v32) <|
 obind (lenP (pd ls 5)) fun v35 =>
 obind (binP false .eql v35 (eI 0)) fun v36 =>
 oif v36 (
 og (aggP 4 (D.agg [(pd ls 2), (pd ls 3), (pd ls 4), (pd ls 5)])) <|
 some [(D.agg [(pd ls 2), (pd ls 3), (pd ls 4), (pd ls 5)]), (pd ls 10), (pd ls 11), v32]
) (
 obind (lenP (pd ls 5)) fun v40 =>
 obind (makeP 56 v40 v40) fun n41 =>
 obind (lenP (pd ls 5)) fun v44 =>
 obind (
 iterL (defs_inline_1_h_l10 r_defs_inline_1_h n) n [(pd ls 0), (pd ls 5), v44, (eI 0), v32, (pd ls 2), (pd ls 3), (pd ls 4), (pd ls 5), (pd ls 6), (pd ls 7), (pd ls 8), (pd ls 9), (D.sl 4 (List.replicate n41 [D.val (.int .i64 0), D.val (.int .i64 0), D.val (.string ⟨#[]⟩), D.val (.slice none 0 0)])), (pd ls 10), (pd ls 11)]
) <| jnX fun ls =>
 og (oneP (D.sl 4 (esD (pd ls 8)))) <|
 og (aggP 4 (D.agg [(pd ls 0), (pd ls 1), (pd ls 2), (D.sl 4 (esD (pd ls 8)))])) <|
 some [(D.agg [(pd ls 0), (pd ls 1), (pd ls 2), (D.sl 4 (esD (pd ls 8)))]), (pd ls 9), (pd ls 10), (pd ls 11)]
)

def defs_inline_1_hL : Nat → List D → Option (List D)
  | 0, _ => none
  | n + 1, ls => defs_inline_1_h (defs_inline_1_hL n) n ls
def defs_inline (n : Nat) (a0 : D) (a1 : D) : Option D :=
 og (aggP 4 a0) <|
 og (oneP a1) <|
 obind (defs_namesL n [a1]) fun v9 =>
 og (oneP v9) <|
 obind (defs_inline_1_hL n [(D.agg [(celD a0 0), (celD a0 1), (celD a0 2), (celD a0 3)]), (eI 1), v9, a1, (eI 0)]) fun h1 =>
 og (aggP 4 (pd h1 0)) <|
 some (D.agg [(celD (pd h1 0) 0), (celD (pd h1 0) 1), (celD (pd h1 0) 2), (celD (pd h1 0) 3)])

def defs_inlineL (n : Nat) : List D → Option D
  | [a0, a1] => defs_inline n a0 a1
  | _ => none
def defs_Inline_l8 (n : Nat) (ls : List D) : Option (List D ⊕ (List D ⊕ D)) :=
 obind (binP false .lss (pd ls 5) (pd ls 4)) fun v39 =>
 oif v39 (
 obind (
 obind (ixP 1 (pd ls 3) (pd ls 5)) fun c40 =>
 obind (atP false 1 0 c40) fun v41 =>
 obind (entP (pd ls 1)) fun es45 =>
 obind (lookP (.string) (.int .i64 0) true es45 v41) fun v45 =>
 obind (extP 0 v45) fun v46 =>
 obind (extP 1 v45) fun v47 =>
 obind (
 oif v47 (
 og (oneP v46) <|
 og (roomP (((esD (pd ls 14))).length + ([[v46]]).length) 8) <|
 some (.inl [(pd ls 0), (pd ls 1), (pd ls 2), (pd ls 3), (pd ls 4), (pd ls 5), (pd ls 6), (pd ls 7), (pd ls 8), (pd ls 9), (pd ls 10), (pd ls 11), (pd ls 12), (pd ls 13), (D.sl 1 ((esD (pd ls 14)) ++ [[v46]]))])
) (
 some (.inl [(pd ls 0), (pd ls 1), (pd ls 2), (pd ls 3), (pd ls 4), (pd ls 5), (pd ls 6), (pd ls 7), (pd ls 8), (pd ls 9), (pd ls 10), (pd ls 11), (pd ls 12), (pd ls 13), (D.sl 1 (esD (pd ls 14)))])
)
) <| jnX fun ls =>
 some (.inl [(pd ls 0), (pd ls 1), (pd ls 2), (pd ls 3), (pd ls 4), (pd ls 5), (pd ls 6), (pd ls 7), (pd ls 8), (pd ls 9), (pd ls 10), (pd ls 11), (pd ls 12), (pd ls 13), (D.sl 1 (esD (pd ls 14)))])
) <| jnX fun ls =>
 obind (binP false .add (pd ls 5) (eI 1)) fun v53 =>
 some (.inl [(pd ls 0), (pd ls 1), (pd ls 2), (pd ls 3), (pd ls 4), v53, (pd ls 6), (pd ls 7), (pd ls 8), (pd ls 9), (pd ls 10), (pd ls 11), (pd ls 12), (pd ls 13), (D.sl 1 (esD (pd ls 14)))])
) (
 inrX (
 some (.inl [(pd ls 0), (pd ls 2), (pd ls 6), (pd ls 7), (pd ls 8), (pd ls 9), (pd ls 10), (pd ls 11), (pd ls 12), (pd ls 13), (D.sl 1 (esD (pd ls 14)))])
)
)

def defs_Inline_l16 (n : Nat) (ls : List D) : Option (List D ⊕ (List D ⊕ D)) :=
 obind (binP false .lss (pd ls 4) (pd ls 3)) fun v60 =>
 oif v60 (
 obind (ixP 1 (pd ls 2) (pd ls 4)) fun c61 =>
 obind (atP false 1 0 c61) fun v62 =>
 obind (putP (.int .i64) (mpD (pd ls 13)) v62 (eB true)) fun m6010_2 =>
 obind (binP false .add (pd ls 4) (eI 1)) fun v65 =>
 some (.inl [(pd ls 0), (pd ls 1), (pd ls 2), (pd ls 3), v65, (pd ls 5), (pd ls 6), (pd ls 7), (pd ls 8), (pd ls 9), (pd ls 10), (pd ls 11), (pd ls 12), (D.mp m6010_2)])
) (
 inrX (
 some (.inl [(pd ls 0), (pd ls 1), (pd ls 5), (pd ls 6), (pd ls 7), (pd ls 8), (pd ls 9), (pd ls 10), (pd ls 11), (pd ls 12), (D.mp (mpD (pd ls 13)))])
)
)

def defs_Inline_l21 (n : Nat) (ls : List D) : Option (List D ⊕ (List D ⊕ D)) :=
 obind (binP false .lss (pd ls 3) (pd ls 2)) fun v69 =>
 oif v69 (
 obind (lookP (.int .i64) (.bool false) false (mpD (pd ls 12)) (pd ls 3)) fun v73 =>
 obind (gD v73 true (
 og (oneP (pd ls 3)) <|
 obind (defs_reachedL n [(pd ls 1), (D.sl 1 [[(pd ls 3)]])]) fun v78 =>
 obind (entP v78) fun es80 =>
 obind (lookP (.int .i64) (.bool false) false es80 (pd ls 3)) fun v80 =>
 some v80
)) fun v80 =>
 obind (pickP v73 v80 (eB false)) fun v81 =>
 oif v81 (
 inrX (
 inrX (
 some (D.tup [(D.agg [(eI 0), (eI 0), (eS ⟨#[]⟩), (D.val (.slice none 0 0))]), (eI 14)])
)
)
) (
 obind (binP false .add (pd ls 3) (eI 1)) fun v83 =>
 some (.inl [(pd ls 0), (pd ls 1), (pd ls 2), v83, (pd ls 4), (pd ls 5), (pd ls 6), (pd ls 7), (pd ls 8), (pd ls 9), (pd ls 10), (pd ls 11), (D.mp (mpD (pd ls 12)))])
)
) (
 inrX (
 some (.inl [(pd ls 0), (pd ls 4), (pd ls 5), (pd ls 6), (pd ls 7), (pd ls 8), (pd ls 9), (pd ls 10), (pd ls 11)])
)
)

def defs_Inline (n : Nat) (a0 : D) (a1 : D) : Option D :=
 og (aggP 4 a0) <|
 obind (terms_CheckL n [(D.agg [(celD a0 0), (celD a0 1), (celD a0 2), (celD a0 3)])]) fun v22 =>
 obind (binP false .neq v22 (eI 0)) fun v24 =>
 oif v24 (
 some (D.tup [(D.agg [(eI 0), (eI 0), (eS ⟨#[]⟩), (D.val (.slice none 0 0))]), v22])
) (
 obind (defs_namesL n [a1]) fun v28 =>
 obind (defs_linksL n [a1]) fun v30 =>
 obind (terms_NamesL n [(D.agg [(celD a0 0), (celD a0 1), (celD a0 2), (celD a0 3)])]) fun v33 =>
 obind (extP 0 v33) fun v34 =>
 obind (extP 1 v33) fun v35 =>
 obind (lenP v34) fun v37 =>
 obind (
 iterL (defs_Inline_l8 n) n [a1, v28, v30, v34, v37, (eI 0), (celD a0 0), (celD a0 1), (celD a0 2), (celD a0 3), (eI 0), (eI 0), (eS ⟨#[]⟩), (D.val (.slice none 0 0)), (D.sl 1 [])]
) <| jnX fun ls =>
 obind (defs_reached_h n [(pd ls 1), (D.sl 1 (esD (pd ls 10)))]) fun h1 =>
 obind (lenP (D.sl 1 (esD (pd ls 10)))) fun v58 =>
 obind (
 iterL (defs_Inline_l16 n) n [(pd ls 0), (pd ls 1), (D.sl 1 (esD (pd ls 10))), v58, (eI 0), (pd ls 2), (pd ls 3), (pd ls 4), (pd ls 5), (pd ls 6), (pd ls 7), (pd ls 8), (pd ls 9), (D.mp (mpD (pd h1 0)))]
) <| jnX fun ls =>
 obind (lenP (pd ls 0)) fun v67 =>
 obind (
 iterL (defs_Inline_l21 n) n [(pd ls 0), (pd ls 1), v67, (eI 0), (pd ls 2), (pd ls 3), (pd ls 4), (pd ls 5), (pd ls 6), (pd ls 7), (pd ls 8), (pd ls 9), (D.mp (mpD (pd ls 10)))]
) <| jnX fun ls =>
 obind (defs_inlineL n [(D.agg [(pd ls 1), (pd ls 2), (pd ls 3), (pd ls 4)]), (pd ls 0)]) fun v86 =>
 og (aggP 4 v86) <|
 obind (terms_CheckL n [(D.agg [(celD v86 0), (celD v86 1), (celD v86 2), (celD v86 3)])]) fun v88 =>
 obind (binP false .neq v88 (eI 0)) fun v90 =>
 oif v90 (
 some (D.tup [(D.agg [(eI 0), (eI 0), (eS ⟨#[]⟩), (D.val (.slice none 0 0))]), v88])
) (
 og (aggP 4 (D.agg [(celD v86 0), (celD v86 1), (celD v86 2), (celD v86 3)])) <|
 some (D.tup [(D.agg [(celD v86 0), (celD v86 1), (celD v86 2), (celD v86 3)]), (eI 0)])
)
)

def defs_InlineL (n : Nat) : List D → Option D
  | [a0, a1] => defs_Inline n a0 a1
  | _ => none
def terms_names_l3 (n : Nat) (ls : List D) : Option (List D ⊕ (List D ⊕ D)) :=
 obind (binP false .lss (pd ls 2) (pd ls 1)) fun v12 =>
 oif v12 (
 obind (
 obind (ixP 4 (pd ls 0) (pd ls 2)) fun c14 =>
 obind (atP true 4 0 c14) fun v15 =>
 og (aggP 4 v15) <|
 obind (lookP (.string) (.int .i64 0) true (mpD (pd ls 3)) (celD v15 0)) fun v20 =>
 obind (extP 0 v20) fun v21 =>
 obind (extP 1 v20) fun v22 =>
 obind (unP .not v22) fun v24 =>
 obind (
 oif v24 (
 obind (putP (.string) (mpD (pd ls 3)) (celD v15 0) (pd ls 2)) fun m8_1 =>
 some (.inl [(pd ls 0), (pd ls 1), (pd ls 2), (D.mp m8_1)])
) (
 some (.inl [(pd ls 0), (pd ls 1), (pd ls 2), (D.mp (mpD (pd ls 3)))])
)
) <| jnX fun ls =>
 some (.inl [(pd ls 0), (pd ls 1), (pd ls 2), (D.mp (mpD (pd ls 3)))])
) <| jnX fun ls =>
 obind (binP false .add (pd ls 2) (eI 1)) fun v29 =>
 some (.inl [(pd ls 0), (pd ls 1), v29, (D.mp (mpD (pd ls 3)))])
) (
 inrX (
 some (.inl [(D.mp (mpD (pd ls 3)))])
)
)

def terms_names (n : Nat) (a0 : D) : Option D :=
 obind (lenP a0) fun v10 =>
 obind (
 iterL (terms_names_l3 n) n [a0, v10, (eI 0), (D.mp [])]
) <| jnX fun ls =>
 some (D.mp (mpD (pd ls 0)))

def terms_namesL (n : Nat) : List D → Option D
  | [a0] => terms_names n a0
  | _ => none
def terms_span (n : Nat) (a0 : D) (a1 : D) : Option D :=
 obind (binP false .lss a0 (eI (-1048576))) fun v7 =>
 obind (gD v7 false (
 obind (binP false .gtr a1 (eI 1048576)) fun v10 =>
 some v10
)) fun v10 =>
 obind (pickP v7 (eB true) v10) fun v11 =>
 obind (gD v11 false (
 obind (binP false .gtr a0 a1) fun v15 =>
 some v15
)) fun v15 =>
 obind (pickP v11 (eB true) v15) fun v16 =>
 obind (gD v16 false (
 obind (binP false .sub a1 a0) fun v20 =>
 obind (binP false .gtr v20 (eI 4096)) fun v21 =>
 some v21
)) fun v21 =>
 obind (pickP v16 (eB true) v21) fun v22 =>
 oif v22 (
 some (D.tup [(D.agg [(eB false), (eI 0), (eI 0)]), (eI 2)])
) (
 og (oneP a0) <|
 og (oneP a1) <|
 og (aggP 3 (D.agg [(eB false), a0, a1])) <|
 some (D.tup [(D.agg [(eB false), a0, a1]), (eI 0)])
)

def terms_spanL (n : Nat) : List D → Option D
  | [a0, a1] => terms_span n a0 a1
  | _ => none
def terms_truths_l2 (n : Nat) (ls : List D) : Option (List D ⊕ (List D ⊕ D)) :=
 obind (binP false .lss (pd ls 2) (pd ls 1)) fun v9 =>
 oif v9 (
 obind (ixP 3 (pd ls 0) (pd ls 2)) fun c10 =>
 obind (atP true 3 0 c10) fun v11 =>
 og (aggP 3 v11) <|
 obind (unP .not (celD v11 0)) fun v14 =>
 oif v14 (
 inrX (
 inrX (
 some (D.tup [(D.agg [(eB false), (eI 0), (eI 0)]), (eI 13)])
)
)
) (
 obind (binP false .add (pd ls 2) (eI 1)) fun v16 =>
 some (.inl [(pd ls 0), (pd ls 1), v16, (pd ls 3), (pd ls 4), (pd ls 5)])
)
) (
 inrX (
 some (.inl [(pd ls 3), (pd ls 4), (pd ls 5)])
)
)

def terms_truths (n : Nat) (a0 : D) : Option D :=
 obind (lenP a0) fun v7 =>
 obind (
 iterL (terms_truths_l2 n) n [a0, v7, (eI 0), (eB false), (eI 0), (eI 0)]
) <| jnX fun ls =>
 some (D.tup [(D.agg [(eB true), (eI 0), (eI 0)]), (eI 0)])

def terms_truthsL (n : Nat) : List D → Option D
  | [a0] => terms_truths n a0
  | _ => none
def terms_reckoned (n : Nat) (a0 : D) (a1 : D) (a2 : D) : Option D :=
 og (aggP 3 a1) <|
 og (aggP 3 a2) <|
 obind (binP false .eql a0 (eI 15)) fun v13 =>
 obind (
 oif v13 (
 obind (unP .neg (celD a2 2)) fun v16 =>
 obind (unP .neg (celD a2 1)) fun v19 =>
 og (oneP v16) <|
 og (oneP v19) <|
 og (aggP 3 (D.agg [(eB false), v16, v19])) <|
 some (.inl [(eI 14), (celD a1 0), (celD a1 1), (celD a1 2), (eB false), v16, v19, (eB false), (eI 0), (eI 0)])
) (
 some (.inl [a0, (celD a1 0), (celD a1 1), (celD a1 2), (celD a2 0), (celD a2 1), (celD a2 2), (eB false), (eI 0), (eI 0)])
)
) <| jnX fun ls =>
 obind (binP false .eql (pd ls 0) (eI 14)) fun v22 =>
 oif v22 (
 obind (binP false .add (pd ls 2) (pd ls 5)) fun v27 =>
 obind (binP false .add (pd ls 3) (pd ls 6)) fun v32 =>
 obind (terms_spanL n [v27, v32]) fun v33 =>
 obind (extP 0 v33) fun v34 =>
 obind (extP 1 v33) fun v35 =>
 og (aggP 3 v34) <|
 some (D.tup [(D.agg [(celD v34 0), (celD v34 1), (celD v34 2)]), v35])
) (
 obind (binP false .mul (pd ls 2) (pd ls 5)) fun v40 =>
 obind (binP false .mul (pd ls 2) (pd ls 6)) fun v45 =>
 obind (binP false .mul (pd ls 3) (pd ls 5)) fun v50 =>
 obind (binP false .mul (pd ls 3) (pd ls 6)) fun v55 =>
 obind (mmP false [v40, v45, v50, v55]) fun v60 =>
 obind (mmP true [v40, v45, v50, v55]) fun v65 =>
 obind (terms_spanL n [v60, v65]) fun v66 =>
 obind (extP 0 v66) fun v67 =>
 obind (extP 1 v66) fun v68 =>
 og (aggP 3 v67) <|
 some (D.tup [(D.agg [(celD v67 0), (celD v67 1), (celD v67 2)]), v68])
)

def terms_reckonedL (n : Nat) : List D → Option D
  | [a0, a1, a2] => terms_reckoned n a0 a1 a2
  | _ => none
def terms_part (n : Nat) (a0 : D) (a1 : D) (a2 : D) (a3 : D) (a4 : D) : Option D :=
 og (aggP 4 a2) <|
 obind (
 obind (binP false .eql (celD a2 0) (eI 1)) fun v18 =>
 oif v18 (
 obind (terms_spanL n [(celD a2 1), (celD a2 1)]) fun v23 =>
 obind (extP 0 v23) fun v24 =>
 obind (extP 1 v23) fun v25 =>
 og (aggP 3 v24) <|
 inrX (
 some (D.tup [(D.agg [(celD v24 0), (celD v24 1), (celD v24 2)]), v25])
)
) (
 obind (binP false .eql (celD a2 0) (eI 2)) fun v27 =>
 oif v27 (
 inrX (
 some (D.tup [(D.agg [(eB true), (eI 0), (eI 0)]), (eI 0)])
)
) (
 obind (binP false .eql (celD a2 0) (eI 3)) fun v30 =>
 obind (
 oif v30 (
 some (.inl [a0, a1, a3, a4, (celD a2 0), v30, (celD a2 0), (celD a2 1), (celD a2 2), (celD a2 3), (eB false), (eI 0), (eI 0)])
) (
 obind (binP false .eql (celD a2 0) (eI 4)) fun v31 =>
 some (.inl [a0, a1, a3, a4, (celD a2 0), v31, (celD a2 0), (celD a2 1), (celD a2 2), (celD a2 3), (eB false), (eI 0), (eI 0)])
)
) <| jnX fun ls =>
 oif (pd ls 5) (
 obind (entP (pd ls 1)) fun es36 =>
 obind (lookP (.string) (.int .i64 0) true es36 (pd ls 8)) fun v36 =>
 obind (extP 0 v36) fun v37 =>
 obind (extP 1 v36) fun v38 =>
 obind (unP .not v38) fun v40 =>
 oif v40 (
 inrX (
 some (D.tup [(D.agg [(eB false), (eI 0), (eI 0)]), (eI 12)])
)
) (
 obind (binP false .eql (pd ls 6) (eI 4)) fun v44 =>
 obind (gD v44 true (
 obind (unP .not (pd ls 2)) fun v47 =>
 some v47
)) fun v47 =>
 obind (pickP v44 v47 (eB false)) fun v48 =>
 oif v48 (
 inrX (
 some (D.tup [(D.agg [(eB false), (eI 0), (eI 0)]), (eI 24)])
)
) (
 obind (ixP 4 (pd ls 0) v37) fun c52 =>
 obind (atP false 1 1 c52) fun v54 =>
 oif v54 (
 inrX (
 some (D.tup [(D.agg [(eB true), (eI 0), (eI 0)]), (eI 0)])
)
) (
 obind (ixP 4 (pd ls 0) v37) fun c58 =>
 obind (atP false 1 2 c58) fun v60 =>
 obind (ixP 4 (pd ls 0) v37) fun c63 =>
 obind (atP false 1 3 c63) fun v65 =>
 obind (terms_spanL n [v60, v65]) fun v66 =>
 obind (extP 0 v66) fun v67 =>
 obind (extP 1 v66) fun v68 =>
 og (aggP 3 v67) <|
 inrX (
 some (D.tup [(D.agg [(celD v67 0), (celD v67 1), (celD v67 2)]), v68])
)
)
)
)
) (
 obind (binP false .eql (pd ls 4) (eI 5)) fun v70 =>
 obind (
 oif v70 (
 some (.inl [(pd ls 3), (pd ls 4), v70, (pd ls 6), (pd ls 7), (pd ls 8), (pd ls 9), (pd ls 10), (pd ls 11), (pd ls 12)])
) (
 obind (binP false .eql (pd ls 4) (eI 6)) fun v71 =>
 obind (
 oif v71 (
 some (.inl [(pd ls 3), (pd ls 4), v71, (pd ls 6), (pd ls 7), (pd ls 8), (pd ls 9), (pd ls 10), (pd ls 11), (pd ls 12)])
) (
 obind (binP false .eql (pd ls 4) (eI 7)) fun v72 =>
 obind (
 oif v72 (
 some (.inl [(pd ls 3), (pd ls 4), v72, (pd ls 6), (pd ls 7), (pd ls 8), (pd ls 9), (pd ls 10), (pd ls 11), (pd ls 12)])
) (
 obind (binP false .eql (pd ls 4) (eI 8)) fun v73 =>
 obind (
 oif v73 (
 some (.inl [(pd ls 3), (pd ls 4), v73, (pd ls 6), (pd ls 7), (pd ls 8), (pd ls 9), (pd ls 10), (pd ls 11), (pd ls 12)])
) (
 obind (binP false .eql (pd ls 4) (eI 9)) fun v74 =>
 some (.inl [(pd ls 3), (pd ls 4), v74, (pd ls 6), (pd ls 7), (pd ls 8), (pd ls 9), (pd ls 10), (pd ls 11), (pd ls 12)])
)
) <| jnX fun ls =>
 some (.inl [(pd ls 0), (pd ls 1), (pd ls 2), (pd ls 3), (pd ls 4), (pd ls 5), (pd ls 6), (pd ls 7), (pd ls 8), (pd ls 9)])
)
) <| jnX fun ls =>
 some (.inl [(pd ls 0), (pd ls 1), (pd ls 2), (pd ls 3), (pd ls 4), (pd ls 5), (pd ls 6), (pd ls 7), (pd ls 8), (pd ls 9)])
)
) <| jnX fun ls =>
 some (.inl [(pd ls 0), (pd ls 1), (pd ls 2), (pd ls 3), (pd ls 4), (pd ls 5), (pd ls 6), (pd ls 7), (pd ls 8), (pd ls 9)])
)
) <| jnX fun ls =>
 oif (pd ls 2) (
 obind (terms_truthsL n [(pd ls 0)]) fun v76 =>
 obind (extP 0 v76) fun v77 =>
 obind (extP 1 v76) fun v78 =>
 og (aggP 3 v77) <|
 inrX (
 some (D.tup [(D.agg [(celD v77 0), (celD v77 1), (celD v77 2)]), v78])
)
) (
 obind (binP false .eql (pd ls 1) (eI 18)) fun v80 =>
 oif v80 (
 obind (ixP 3 (pd ls 0) (eI 0)) fun c82 =>
 obind (atP false 1 0 c82) fun v84 =>
 obind (unP .not v84) fun v85 =>
 obind (gD v85 false (
 obind (ixP 3 (pd ls 0) (eI 1)) fun c88 =>
 obind (atP false 1 0 c88) fun v90 =>
 obind (ixP 3 (pd ls 0) (eI 2)) fun c92 =>
 obind (atP false 1 0 c92) fun v94 =>
 obind (binP true .neq v90 v94) fun v95 =>
 some v95
)) fun v95 =>
 obind (pickP v85 (eB true) v95) fun v96 =>
 oif v96 (
 inrX (
 some (D.tup [(D.agg [(eB false), (eI 0), (eI 0)]), (eI 13)])
)
) (
 obind (ixP 3 (pd ls 0) (eI 1)) fun c99 =>
 obind (atP false 1 0 c99) fun v101 =>
 oif v101 (
 obind (ixP 3 (pd ls 0) (eI 1)) fun c103 =>
 obind (atP true 3 0 c103) fun v104 =>
 og (aggP 3 v104) <|
 inrX (
 some (D.tup [(D.agg [(celD v104 0), (celD v104 1), (celD v104 2)]), (eI 0)])
)
) (
 obind (ixP 3 (pd ls 0) (eI 1)) fun c106 =>
 obind (atP false 1 1 c106) fun v108 =>
 obind (ixP 3 (pd ls 0) (eI 2)) fun c110 =>
 obind (atP false 1 1 c110) fun v112 =>
 obind (mmP false [v108, v112]) fun v113 =>
 obind (ixP 3 (pd ls 0) (eI 1)) fun c115 =>
 obind (atP false 1 2 c115) fun v117 =>
 obind (ixP 3 (pd ls 0) (eI 2)) fun c119 =>
 obind (atP false 1 2 c119) fun v121 =>
 obind (mmP true [v117, v121]) fun v122 =>
 obind (terms_spanL n [v113, v122]) fun v123 =>
 obind (extP 0 v123) fun v124 =>
 obind (extP 1 v123) fun v125 =>
 og (aggP 3 v124) <|
 inrX (
 some (D.tup [(D.agg [(celD v124 0), (celD v124 1), (celD v124 2)]), v125])
)
)
)
) (
 obind (binP false .eql (pd ls 1) (eI 10)) fun v127 =>
 obind (
 oif v127 (
 some (.inl [(pd ls 0), v127, (pd ls 3), (pd ls 4), (pd ls 5), (pd ls 6), (pd ls 7), (pd ls 8), (pd ls 9)])
) (
 obind (binP false .eql (pd ls 1) (eI 11)) fun v128 =>
 some (.inl [(pd ls 0), v128, (pd ls 3), (pd ls 4), (pd ls 5), (pd ls 6), (pd ls 7), (pd ls 8), (pd ls 9)])
)
) <| jnX fun ls =>
 oif (pd ls 1) (
 obind (ixP 3 (pd ls 0) (eI 0)) fun c130 =>
 obind (atP false 1 0 c130) fun v132 =>
 obind (ixP 3 (pd ls 0) (eI 1)) fun c134 =>
 obind (atP false 1 0 c134) fun v136 =>
 obind (binP true .neq v132 v136) fun v137 =>
 oif v137 (
 inrX (
 some (D.tup [(D.agg [(eB false), (eI 0), (eI 0)]), (eI 13)])
)
) (
 inrX (
 some (D.tup [(D.agg [(eB true), (eI 0), (eI 0)]), (eI 0)])
)
)
) (
 some (.inl [(pd ls 0), (pd ls 2), (pd ls 3), (pd ls 4), (pd ls 5), (pd ls 6), (pd ls 7), (pd ls 8)])
)
)
)
)
)
)
) <| jnX fun ls =>
 obind (ixP 3 (pd ls 0) (eI 0)) fun c141 =>
 obind (atP false 1 0 c141) fun v143 =>
 obind (gD v143 false (
 obind (ixP 3 (pd ls 0) (eI 1)) fun c146 =>
 obind (atP false 1 0 c146) fun v148 =>
 some v148
)) fun v148 =>
 obind (pickP v143 (eB true) v148) fun v149 =>
 oif v149 (
 some (D.tup [(D.agg [(eB false), (eI 0), (eI 0)]), (eI 13)])
) (
 obind (binP false .eql (pd ls 1) (eI 12)) fun v165 =>
 obind (
 oif v165 (
 some (.inl [(pd ls 0), (pd ls 1), v165, (pd ls 1), (pd ls 2), (pd ls 3), (pd ls 4), (pd ls 5), (pd ls 6), (pd ls 7)])
) (
 obind (binP false .eql (pd ls 1) (eI 13)) fun v166 =>
 some (.inl [(pd ls 0), (pd ls 1), v166, (pd ls 1), (pd ls 2), (pd ls 3), (pd ls 4), (pd ls 5), (pd ls 6), (pd ls 7)])
)
) <| jnX fun ls =>
 oif (pd ls 2) (
 some (D.tup [(D.agg [(eB true), (eI 0), (eI 0)]), (eI 0)])
) (
 obind (binP false .eql (pd ls 1) (eI 17)) fun v169 =>
 oif v169 (
 obind (ixP 4 (pd ls 6) (eI 1)) fun c172 =>
 obind (atP true 4 0 c172) fun v173 =>
 og (aggP 4 v173) <|
 obind (binP false .neq (celD v173 0) (eI 1)) fun v176 =>
 obind (gD v176 false (
 obind (binP false .lss (celD v173 1) (eI 1)) fun v180 =>
 some v180
)) fun v180 =>
 obind (pickP v176 (eB true) v180) fun v181 =>
 oif v181 (
 some (D.tup [(D.agg [(eB false), (eI 0), (eI 0)]), (eI 2)])
) (
 obind (ixP 4 (pd ls 6) (eI 1)) fun c185 =>
 obind (atP false 1 1 c185) fun v187 =>
 obind (binP false .sub v187 (eI 1)) fun v188 =>
 obind (terms_spanL n [(eI 0), v188]) fun v189 =>
 obind (extP 0 v189) fun v190 =>
 obind (extP 1 v189) fun v191 =>
 og (aggP 3 v190) <|
 some (D.tup [(D.agg [(celD v190 0), (celD v190 1), (celD v190 2)]), v191])
)
) (
 obind (ixP 3 (pd ls 0) (eI 0)) fun c156 =>
 obind (atP true 3 0 c156) fun v157 =>
 obind (ixP 3 (pd ls 0) (eI 1)) fun c159 =>
 obind (atP true 3 0 c159) fun v160 =>
 obind (terms_reckonedL n [(pd ls 3), v157, v160]) fun v161 =>
 obind (extP 0 v161) fun v162 =>
 obind (extP 1 v161) fun v163 =>
 og (aggP 3 v162) <|
 some (D.tup [(D.agg [(celD v162 0), (celD v162 1), (celD v162 2)]), v163])
)
)
)

def terms_partL (n : Nat) : List D → Option D
  | [a0, a1, a2, a3, a4] => terms_part n a0 a1 a2 a3 a4
  | _ => none
def terms_typed_l3 (r_terms_typed : List D → Option D) (n : Nat) (ls : List D) : Option (List D ⊕ (List D ⊕ D)) :=
 obind (binP false .lss (pd ls 5) (pd ls 4)) fun v19 =>
 oif v19 (
 obind (ixP 4 (pd ls 3) (pd ls 5)) fun c20 =>
 obind (atP true 4 0 c20) fun v21 =>
 og (aggP 4 v21) <|
 obind (r_terms_typed [(pd ls 0), (pd ls 1), (D.agg [(celD v21 0), (celD v21 1), (celD v21 2), (celD v21 3)]), (pd ls 2)]) fun v27 =>
 obind (extP 0 v27) fun v28 =>
 obind (extP 1 v27) fun v29 =>
 og (aggP 3 v28) <|
 obind (binP false .neq v29 (eI 0)) fun v31 =>
 oif v31 (
 inrX (
 inrX (
 some (D.tup [(D.agg [(eB false), (eI 0), (eI 0)]), v29])
)
)
) (
 og (aggP 3 (D.agg [(celD v28 0), (celD v28 1), (celD v28 2)])) <|
 og (roomP (((esD (pd ls 13))).length + ([[(celD v28 0), (celD v28 1), (celD v28 2)]]).length) 24) <|
 obind (binP false .add (pd ls 5) (eI 1)) fun v38 =>
 some (.inl [(pd ls 0), (pd ls 1), (pd ls 2), (pd ls 3), (pd ls 4), v38, (pd ls 6), (pd ls 7), (pd ls 8), (pd ls 9), (pd ls 10), (pd ls 11), (pd ls 12), (D.sl 3 ((esD (pd ls 13)) ++ [[(celD v28 0), (celD v28 1), (celD v28 2)]]))])
)
) (
 inrX (
 some (.inl [(pd ls 0), (pd ls 1), (pd ls 2), (pd ls 6), (pd ls 7), (pd ls 8), (pd ls 9), (pd ls 10), (pd ls 11), (pd ls 12), (D.sl 3 (esD (pd ls 13)))])
)
)

def terms_typed (r_terms_typed : List D → Option D) (n : Nat) (a0 : D) (a1 : D) (a2 : D) (a3 : D) : Option D :=
 og (aggP 4 a2) <|
 obind (lenP (celD a2 3)) fun v17 =>
 obind (
 iterL (terms_typed_l3 r_terms_typed n) n [a0, a1, a3, (celD a2 3), v17, (eI 0), (celD a2 0), (celD a2 1), (celD a2 2), (celD a2 3), (eB false), (eI 0), (eI 0), (D.sl 3 [])]
) <| jnX fun ls =>
 obind (terms_partL n [(pd ls 0), (pd ls 1), (D.agg [(pd ls 3), (pd ls 4), (pd ls 5), (pd ls 6)]), (pd ls 2), (D.sl 3 (esD (pd ls 10)))]) fun v44 =>
 og v44.flat <|
 obind (extP 0 v44) fun v45 =>
 obind (extP 1 v44) fun v46 =>
 og (aggP 3 v45) <|
 some (D.tup [(D.agg [(celD v45 0), (celD v45 1), (celD v45 2)]), v46])

def terms_typedL : Nat → List D → Option D
  | 0, _ => none
  | n + 1, ds => match ds with
    | [a0, a1, a2, a3] => terms_typed (terms_typedL n) n a0 a1 a2 a3
    | _ => none
def terms_Type (n : Nat) (a0 : D) (a1 : D) (a2 : D) : Option D :=
 og (aggP 4 a1) <|
 obind (terms_CheckL n [(D.agg [(celD a1 0), (celD a1 1), (celD a1 2), (celD a1 3)])]) fun v10 =>
 obind (binP false .neq v10 (eI 0)) fun v12 =>
 oif v12 (
 some (D.tup [(D.agg [(eB false), (eI 0), (eI 0)]), v10])
) (
 obind (terms_namesL n [a0]) fun v17 =>
 obind (terms_typedL n [a0, v17, (D.agg [(celD a1 0), (celD a1 1), (celD a1 2), (celD a1 3)]), a2]) fun v20 =>
 obind (extP 0 v20) fun v21 =>
 obind (extP 1 v20) fun v22 =>
 og (aggP 3 v21) <|
 some (D.tup [(D.agg [(celD v21 0), (celD v21 1), (celD v21 2)]), v22])
)

def terms_TypeL (n : Nat) : List D → Option D
  | [a0, a1, a2] => terms_Type n a0 a1 a2
  | _ => none
def typing_typed (n : Nat) (a0 : D) (a1 : D) (a2 : D) : Option D :=
 og (aggP 8 a0) <|
 og (aggP 4 a1) <|
 obind (defs_InlineL n [(D.agg [(celD a1 0), (celD a1 1), (celD a1 2), (celD a1 3)]), (celD a0 1)]) fun v14 =>
 obind (extP 0 v14) fun v15 =>
 obind (extP 1 v14) fun v16 =>
 og (aggP 4 v15) <|
 obind (binP false .neq v16 (eI 0)) fun v18 =>
 oif v18 (
 some (D.tup [(D.agg [(eB false), (eI 0), (eI 0)]), v16])
) (
 obind (terms_TypeL n [(celD a0 0), (D.agg [(celD v15 0), (celD v15 1), (celD v15 2), (celD v15 3)]), a2]) fun v25 =>
 obind (extP 0 v25) fun v26 =>
 obind (extP 1 v25) fun v27 =>
 og (aggP 3 v26) <|
 some (D.tup [(D.agg [(celD v26 0), (celD v26 1), (celD v26 2)]), v27])
)

def typing_typedL (n : Nat) : List D → Option D
  | [a0, a1, a2] => typing_typed n a0 a1 a2
  | _ => none
def typing_truth (n : Nat) (a0 : D) (a1 : D) (a2 : D) : Option D :=
 og (aggP 8 a0) <|
 og (aggP 4 a1) <|
 obind (typing_typedL n [(D.agg [(celD a0 0), (celD a0 1), (celD a0 2), (celD a0 3), (celD a0 4), (celD a0 5), (celD a0 6), (celD a0 7)]), (D.agg [(celD a1 0), (celD a1 1), (celD a1 2), (celD a1 3)]), a2]) fun v13 =>
 obind (extP 0 v13) fun v14 =>
 obind (extP 1 v13) fun v15 =>
 og (aggP 3 v14) <|
 obind (binP false .eql v15 (eI 0)) fun v17 =>
 obind (gD v17 true (
 obind (unP .not (celD v14 0)) fun v21 =>
 some v21
)) fun v21 =>
 obind (pickP v17 v21 (eB false)) fun v22 =>
 oif v22 (
 some (eI 13)
) (
 some v15
)

def typing_truthL (n : Nat) : List D → Option D
  | [a0, a1, a2] => typing_truth n a0 a1 a2
  | _ => none
def typing_formula_l4 (r_typing_formula : List D → Option D) (n : Nat) (ls : List D) : Option (List D ⊕ (List D ⊕ D)) :=
 obind (binP false .lss (pd ls 2) (pd ls 1)) fun v19 =>
 oif v19 (
 obind (ixP 6 (pd ls 0) (pd ls 2)) fun c20 =>
 obind (atP true 6 0 c20) fun v21 =>
 og (aggP 6 v21) <|
 obind (r_typing_formula [(D.agg [(pd ls 3), (pd ls 4), (pd ls 5), (pd ls 6), (pd ls 7), (pd ls 8), (pd ls 9), (pd ls 10)]), (D.agg [(celD v21 0), (celD v21 1), (celD v21 2), (celD v21 3), (celD v21 4), (celD v21 5)])]) fun v24 =>
 obind (binP false .neq v24 (eI 0)) fun v26 =>
 oif v26 (
 inrX (
 inrX (
 some v24
)
)
) (
 obind (binP false .add (pd ls 2) (eI 1)) fun v28 =>
 some (.inl [(pd ls 0), (pd ls 1), v28, (pd ls 3), (pd ls 4), (pd ls 5), (pd ls 6), (pd ls 7), (pd ls 8), (pd ls 9), (pd ls 10)])
)
) (
 inrX (
 some (.inl [])
)
)

def typing_formula (r_typing_formula : List D → Option D) (n : Nat) (a0 : D) (a1 : D) : Option D :=
 og (aggP 8 a0) <|
 og (aggP 6 a1) <|
 obind (binP false .eql (celD a1 0) (eI 1)) fun v10 =>
 oif v10 (
 obind (typing_truthL n [(D.agg [(celD a0 0), (celD a0 1), (celD a0 2), (celD a0 3), (celD a0 4), (celD a0 5), (celD a0 6), (celD a0 7)]), (D.agg [(celD a1 1), (celD a1 2), (celD a1 3), (celD a1 4)]), (eB false)]) fun v14 =>
 some v14
) (
 obind (lenP (celD a1 5)) fun v17 =>
 obind (
 iterL (typing_formula_l4 r_typing_formula n) n [(celD a1 5), v17, (eI 0), (celD a0 0), (celD a0 1), (celD a0 2), (celD a0 3), (celD a0 4), (celD a0 5), (celD a0 6), (celD a0 7)]
) <| jnX fun ls =>
 some (eI 0)
)

def typing_formulaL : Nat → List D → Option D
  | 0, _ => none
  | n + 1, ds => match ds with
    | [a0, a1] => typing_formula (typing_formulaL n) n a0 a1
    | _ => none
def typing_specs_wrong (n : Nat) (a0 : D) (a1 : D) (a2 : D) : Option D :=
 og (aggP 8 a1) <|
 obind (ixP 7 a0 a2) fun c11 =>
 obind (atP false 1 0 c11) fun v13 =>
 og (oneP v13) <|
 obind (lexi_IsL n [v13]) fun v16 =>
 obind (unP .not v16) fun v17 =>
 oif v17 (
 some (eI 12)
) (
 obind (subP 7 a0 none (some a2)) fun v21 =>
 obind (slices_ContainsFunc_typing_specs_api_Spec_typing_specs_wrong_1L n [v21, (D.fn (.func fid_typing_specs_wrong_1) [] [(D.ref [v13] 0)])]) fun v23 =>
 og v23.flat <|
 oif v23 (
 some (eI 6)
) (
 obind (ixP 7 a0 a2) fun c26 =>
 obind (atP true 6 1 c26) fun v28 =>
 obind (forms_CheckL n [v28]) fun v29 =>
 obind (binP false .neq v29 (eI 0)) fun v31 =>
 oif v31 (
 some v29
) (
 obind (ixP 7 a0 a2) fun c36 =>
 obind (atP true 6 1 c36) fun v38 =>
 obind (typing_formulaL n [(D.agg [(celD a1 0), (celD a1 1), (celD a1 2), (celD a1 3), (celD a1 4), (celD a1 5), (celD a1 6), (celD a1 7)]), v38]) fun v39 =>
 some v39
)
)
)

def typing_specs_wrongL (n : Nat) : List D → Option D
  | [a0, a1, a2] => typing_specs_wrong n a0 a1 a2
  | _ => none
def typing_nexts_wrong_1 (n : Nat) (a0 : D) (x1 : List D) : Option D :=
 og (aggP 4 a0) <|
 obind (atP false 1 0 x1) fun v6 =>
 obind (binP false .eql (celD a0 0) v6) fun v7 =>
 some v7

def typing_nexts_wrong_1L (n : Nat) : List D → Option D
  | [a0, a1] => (match a1 with | .ref x1 0 => typing_nexts_wrong_1 n a0 x1 | _ => none)
  | _ => none
def slices_IndexFunc_Lapi_Var_api_Var_typing_nexts_wrong_1_l2 (n : Nat) (ls : List D) : Option (List D ⊕ (List D ⊕ D)) :=
 obind (binP false .lss (pd ls 3) (pd ls 2)) fun v9 =>
 oif v9 (
 obind (ixP 4 (pd ls 0) (pd ls 3)) fun c14 =>
 obind (atP true 4 0 c14) fun v15 =>
 obind (typing_nexts_wrong_1L n [v15, (pd ls 1)]) fun v16 =>
 oif v16 (
 inrX (
 inrX (
 some (pd ls 3)
)
)
) (
 obind (binP false .add (pd ls 3) (eI 1)) fun v18 =>
 some (.inl [(pd ls 0), (pd ls 1), (pd ls 2), v18])
)
) (
 inrX (
 some (.inl [])
)
)

def slices_IndexFunc_Lapi_Var_api_Var_typing_nexts_wrong_1 (n : Nat) (a0 : D) (x1_0 : D) : Option D :=
 obind (lenP a0) fun v7 =>
 obind (
 iterL (slices_IndexFunc_Lapi_Var_api_Var_typing_nexts_wrong_1_l2 n) n [a0, x1_0, v7, (eI 0)]
) <| jnX fun ls =>
 some (eI (-1))

def slices_IndexFunc_Lapi_Var_api_Var_typing_nexts_wrong_1L (n : Nat) : List D → Option D
  | [a0, a1] => (match fnOf fid_typing_nexts_wrong_1 a1 with | some [x1_0] => slices_IndexFunc_Lapi_Var_api_Var_typing_nexts_wrong_1 n a0 x1_0 | _ => none)
  | _ => none
def typing_nexts_wrong_2 (n : Nat) (a0 : D) (x1 : List D) : Option D :=
 og (aggP 5 a0) <|
 obind (atP false 1 0 x1) fun v6 =>
 obind (binP false .eql (celD a0 0) v6) fun v7 =>
 some v7

def typing_nexts_wrong_2L (n : Nat) : List D → Option D
  | [a0, a1] => (match a1 with | .ref x1 0 => typing_nexts_wrong_2 n a0 x1 | _ => none)
  | _ => none
def slices_IndexFunc_typing_nexts_api_Def_typing_nexts_wrong_2_l2 (n : Nat) (ls : List D) : Option (List D ⊕ (List D ⊕ D)) :=
 obind (binP false .lss (pd ls 3) (pd ls 2)) fun v9 =>
 oif v9 (
 obind (ixP 5 (pd ls 0) (pd ls 3)) fun c14 =>
 obind (atP true 5 0 c14) fun v15 =>
 obind (typing_nexts_wrong_2L n [v15, (pd ls 1)]) fun v16 =>
 oif v16 (
 inrX (
 inrX (
 some (pd ls 3)
)
)
) (
 obind (binP false .add (pd ls 3) (eI 1)) fun v18 =>
 some (.inl [(pd ls 0), (pd ls 1), (pd ls 2), v18])
)
) (
 inrX (
 some (.inl [])
)
)

def slices_IndexFunc_typing_nexts_api_Def_typing_nexts_wrong_2 (n : Nat) (a0 : D) (x1_0 : D) : Option D :=
 obind (lenP a0) fun v7 =>
 obind (
 iterL (slices_IndexFunc_typing_nexts_api_Def_typing_nexts_wrong_2_l2 n) n [a0, x1_0, v7, (eI 0)]
) <| jnX fun ls =>
 some (eI (-1))

def slices_IndexFunc_typing_nexts_api_Def_typing_nexts_wrong_2L (n : Nat) : List D → Option D
  | [a0, a1] => (match fnOf fid_typing_nexts_wrong_2 a1 with | some [x1_0] => slices_IndexFunc_typing_nexts_api_Def_typing_nexts_wrong_2 n a0 x1_0 | _ => none)
  | _ => none
def slices_ContainsFunc_typing_nexts_api_Def_typing_nexts_wrong_2 (n : Nat) (a0 : D) (x1_0 : D) : Option D :=
 obind (slices_IndexFunc_typing_nexts_api_Def_typing_nexts_wrong_2L n [a0, (D.fn (.func fid_typing_nexts_wrong_2) [] [x1_0])]) fun v7 =>
 obind (binP false .geq v7 (eI 0)) fun v8 =>
 some v8

def slices_ContainsFunc_typing_nexts_api_Def_typing_nexts_wrong_2L (n : Nat) : List D → Option D
  | [a0, a1] => (match fnOf fid_typing_nexts_wrong_2 a1 with | some [x1_0] => slices_ContainsFunc_typing_nexts_api_Def_typing_nexts_wrong_2 n a0 x1_0 | _ => none)
  | _ => none
def typing_nexts_wrong (n : Nat) (a0 : D) (a1 : D) (a2 : D) : Option D :=
 og (aggP 8 a1) <|
 obind (ixP 5 a0 a2) fun c13 =>
 obind (atP false 1 0 c13) fun v15 =>
 og (oneP v15) <|
 obind (slices_IndexFunc_Lapi_Var_api_Var_typing_nexts_wrong_1L n [(celD a1 0), (D.fn (.func fid_typing_nexts_wrong_1) [] [(D.ref [v15] 0)])]) fun v19 =>
 og v19.flat <|
 obind (binP false .lss v19 (eI 0)) fun v22 =>
 oif v22 (
 some (eI 12)
) (
 obind (subP 5 a0 none (some a2)) fun v26 =>
 obind (slices_ContainsFunc_typing_nexts_api_Def_typing_nexts_wrong_2L n [v26, (D.fn (.func fid_typing_nexts_wrong_2) [] [(D.ref [v15] 0)])]) fun v28 =>
 og v28.flat <|
 oif v28 (
 some (eI 6)
) (
 obind (ixP 5 a0 a2) fun c33 =>
 obind (atP true 4 1 c33) fun v35 =>
 obind (typing_typedL n [(D.agg [(celD a1 0), (celD a1 1), (celD a1 2), (celD a1 3), (celD a1 4), (celD a1 5), (celD a1 6), (celD a1 7)]), v35, (eB false)]) fun v36 =>
 obind (extP 0 v36) fun v37 =>
 obind (extP 1 v36) fun v38 =>
 og (aggP 3 v37) <|
 obind (binP false .eql v38 (eI 0)) fun v40 =>
 obind (gD v40 true (
 obind (ixP 4 (celD a1 0) v19) fun c47 =>
 obind (atP false 1 1 c47) fun v49 =>
 obind (binP true .neq (celD v37 0) v49) fun v50 =>
 some v50
)) fun v50 =>
 obind (pickP v40 v50 (eB false)) fun v51 =>
 oif v51 (
 some (eI 13)
) (
 some v38
)
)
)

def typing_nexts_wrongL (n : Nat) : List D → Option D
  | [a0, a1, a2] => typing_nexts_wrong n a0 a1 a2
  | _ => none
def typing_truths_wrong (n : Nat) (a0 : D) (a1 : D) (a2 : D) : Option D :=
 og (aggP 3 a0) <|
 og (aggP 8 a1) <|
 obind (ixP 4 (celD a0 1) a2) fun c11 =>
 obind (atP true 4 0 c11) fun v12 =>
 obind (typing_truthL n [(D.agg [(celD a1 0), (celD a1 1), (celD a1 2), (celD a1 3), (celD a1 4), (celD a1 5), (celD a1 6), (celD a1 7)]), v12, (celD a0 2)]) fun v15 =>
 some v15

def typing_truths_wrongL (n : Nat) : List D → Option D
  | [a0, a1, a2] => typing_truths_wrong n a0 a1 a2
  | _ => none
def typing_meant_wrong (n : Nat) (a0 : D) (a1 : D) (a2 : D) : Option D :=
 og (aggP 8 a1) <|
 obind (ixP 5 a0 a2) fun c13 =>
 obind (atP true 4 1 c13) fun v15 =>
 obind (typing_typedL n [(D.agg [(celD a1 0), (celD a1 1), (celD a1 2), (celD a1 3), (celD a1 4), (celD a1 5), (celD a1 6), (celD a1 7)]), v15, (eB false)]) fun v16 =>
 obind (extP 0 v16) fun v17 =>
 obind (extP 1 v16) fun v18 =>
 og (aggP 3 v17) <|
 some v18

def typing_meant_wrongL (n : Nat) : List D → Option D
  | [a0, a1, a2] => typing_meant_wrong n a0 a1 a2
  | _ => none
def typing_ringed_wrong_1 (n : Nat) (a0 : D) (x1 : List D) : Option D :=
 og (aggP 5 a0) <|
 obind (atP false 1 0 x1) fun v6 =>
 obind (binP false .eql (celD a0 0) v6) fun v7 =>
 some v7

def typing_ringed_wrong_1L (n : Nat) : List D → Option D
  | [a0, a1] => (match a1 with | .ref x1 0 => typing_ringed_wrong_1 n a0 x1 | _ => none)
  | _ => none
def slices_IndexFunc_typing_ringed_api_Def_typing_ringed_wrong_1_l2 (n : Nat) (ls : List D) : Option (List D ⊕ (List D ⊕ D)) :=
 obind (binP false .lss (pd ls 3) (pd ls 2)) fun v9 =>
 oif v9 (
 obind (ixP 5 (pd ls 0) (pd ls 3)) fun c14 =>
 obind (atP true 5 0 c14) fun v15 =>
 obind (typing_ringed_wrong_1L n [v15, (pd ls 1)]) fun v16 =>
 oif v16 (
 inrX (
 inrX (
 some (pd ls 3)
)
)
) (
 obind (binP false .add (pd ls 3) (eI 1)) fun v18 =>
 some (.inl [(pd ls 0), (pd ls 1), (pd ls 2), v18])
)
) (
 inrX (
 some (.inl [])
)
)

def slices_IndexFunc_typing_ringed_api_Def_typing_ringed_wrong_1 (n : Nat) (a0 : D) (x1_0 : D) : Option D :=
 obind (lenP a0) fun v7 =>
 obind (
 iterL (slices_IndexFunc_typing_ringed_api_Def_typing_ringed_wrong_1_l2 n) n [a0, x1_0, v7, (eI 0)]
) <| jnX fun ls =>
 some (eI (-1))

def slices_IndexFunc_typing_ringed_api_Def_typing_ringed_wrong_1L (n : Nat) : List D → Option D
  | [a0, a1] => (match fnOf fid_typing_ringed_wrong_1 a1 with | some [x1_0] => slices_IndexFunc_typing_ringed_api_Def_typing_ringed_wrong_1 n a0 x1_0 | _ => none)
  | _ => none
def typing_ringed_wrong_l7 (n : Nat) (ls : List D) : Option (List D ⊕ (List D ⊕ (List D ⊕ (List D ⊕ (List D ⊕ D))))) :=
 obind (binP false .lss (pd ls 4) (pd ls 3)) fun v38 =>
 oif v38 (
 obind (
 obind (ixP 1 (pd ls 2) (pd ls 4)) fun c39 =>
 obind (atP false 1 0 c39) fun v40 =>
 og (oneP v40) <|
 obind (slices_IndexFunc_typing_ringed_api_Def_typing_ringed_wrong_1L n [(pd ls 0), (D.fn (.func fid_typing_ringed_wrong_1) [] [(D.ref [v40] 0)])]) fun v43 =>
 og v43.flat <|
 obind (binP false .geq v43 (eI 0)) fun v45 =>
 obind (gD v45 true (
 obind (numP ((esD (pd ls 5))).length v43) fun j49 =>
 obind (((esD (pd ls 5)))[j49]?) fun e50 =>
 obind (atP false 1 0 e50) fun v50 =>
 obind (unP .not v50) fun v51 =>
 some v51
)) fun v51 =>
 obind (pickP v45 v51 (eB false)) fun v52 =>
 obind (
 oif v52 (
 obind (numP ((esD (pd ls 5))).length v43) fun j55 =>
 obind (((esD (pd ls 5)))[j55]?) fun w1 =>
 og (oneP v43) <|
 og (roomP (((esD (pd ls 6))).length + ([[v43]]).length) 8) <|
 some (.inl [(pd ls 0), (pd ls 1), (pd ls 2), (pd ls 3), (pd ls 4), (D.sl 1 (((esD (pd ls 5))).set j55 (setSegD w1 0 [(eB true)]))), (D.sl 1 ((esD (pd ls 6)) ++ [[v43]]))])
) (
 some (.inl [(pd ls 0), (pd ls 1), (pd ls 2), (pd ls 3), (pd ls 4), (D.sl 1 (esD (pd ls 5))), (D.sl 1 (esD (pd ls 6)))])
)
) <| jnX fun ls =>
 some (.inl [(pd ls 0), (pd ls 1), (pd ls 2), (pd ls 3), (pd ls 4), (D.sl 1 (esD (pd ls 5))), (D.sl 1 (esD (pd ls 6)))])
) <| jnX fun ls =>
 obind (binP false .add (pd ls 4) (eI 1)) fun v60 =>
 some (.inl [(pd ls 0), (pd ls 1), (pd ls 2), (pd ls 3), v60, (D.sl 1 (esD (pd ls 5))), (D.sl 1 (esD (pd ls 6)))])
) (
 inrX (
 some (.inl [(pd ls 0), (pd ls 1), (D.sl 1 (esD (pd ls 5))), (D.sl 1 (esD (pd ls 6)))])
)
)

def typing_ringed_wrong_l3 (n : Nat) (ls : List D) : Option (List D ⊕ (List D ⊕ D)) :=
 obind (binP false .gtr (eI ((esD (pd ls 3))).length) (eI 0)) fun v21 =>
 oif v21 (
 obind (
 obind (numP ((esD (pd ls 3))).length (eI 0)) fun j27 =>
 obind (((esD (pd ls 3)))[j27]?) fun e28 =>
 obind (atP false 1 0 e28) fun v28 =>
 obind (ixP 5 (pd ls 0) v28) fun c29 =>
 obind (atP true 4 1 c29) fun v31 =>
 obind (terms_NamesL n [v31]) fun v32 =>
 obind (extP 0 v32) fun v33 =>
 obind (extP 1 v32) fun v34 =>
 obind (lenP v33) fun v36 =>
 obind (
 iterL (typing_ringed_wrong_l7 n) n [(pd ls 0), (pd ls 1), v33, v36, (eI 0), (D.sl 1 (esD (pd ls 2))), (D.sl 1 (esD (pd ls 3)))]
) <| jnX fun ls =>
 some (.inl [(pd ls 0), (pd ls 1), (D.sl 1 (esD (pd ls 2))), (D.sl 1 (esD (pd ls 3)))])
) <| jnX fun ls =>
 obind (cutP ((esD (pd ls 3))).length (some (eI 1)) none) fun p23 =>
 og (decide (p23.1 + p23.2 ≤ ((esD (pd ls 3))).length)) <|
 some (.inl [(pd ls 0), (pd ls 1), (D.sl 1 (esD (pd ls 2))), (D.sl 1 ((((esD (pd ls 3))).drop p23.1).take p23.2))])
) (
 inrX (
 some (.inl [(pd ls 1), (D.sl 1 (esD (pd ls 2)))])
)
)

def typing_ringed_wrong (n : Nat) (a0 : D) (a1 : D) (a2 : D) : Option D :=
 og (aggP 8 a1) <|
 obind (lenP a0) fun v15 =>
 obind (makeP 1 v15 v15) fun n16 =>
 og (oneP a2) <|
 obind (
 iterL (typing_ringed_wrong_l3 n) n [a0, a2, (D.sl 1 (List.replicate n16 [(eB false)])), (D.sl 1 [[a2]])]
) <| jnX fun ls =>
 obind (numP ((esD (pd ls 1))).length (pd ls 0)) fun j63 =>
 obind (((esD (pd ls 1)))[j63]?) fun e64 =>
 obind (atP false 1 0 e64) fun v64 =>
 oif v64 (
 some (eI 14)
) (
 some (eI 0)
)

def typing_ringed_wrongL (n : Nat) : List D → Option D
  | [a0, a1, a2] => typing_ringed_wrong n a0 a1 a2
  | _ => none
def typing_named_wrong_1 (n : Nat) (a0 : D) (x1 : List D) : Option D :=
 og (aggP 4 a0) <|
 obind (atP false 1 0 x1) fun v6 =>
 obind (binP false .eql (celD a0 0) v6) fun v7 =>
 some v7

def typing_named_wrong_1L (n : Nat) : List D → Option D
  | [a0, a1] => (match a1 with | .ref x1 0 => typing_named_wrong_1 n a0 x1 | _ => none)
  | _ => none
def slices_IndexFunc_Lapi_Var_api_Var_typing_named_wrong_1_l2 (n : Nat) (ls : List D) : Option (List D ⊕ (List D ⊕ D)) :=
 obind (binP false .lss (pd ls 3) (pd ls 2)) fun v9 =>
 oif v9 (
 obind (ixP 4 (pd ls 0) (pd ls 3)) fun c14 =>
 obind (atP true 4 0 c14) fun v15 =>
 obind (typing_named_wrong_1L n [v15, (pd ls 1)]) fun v16 =>
 oif v16 (
 inrX (
 inrX (
 some (pd ls 3)
)
)
) (
 obind (binP false .add (pd ls 3) (eI 1)) fun v18 =>
 some (.inl [(pd ls 0), (pd ls 1), (pd ls 2), v18])
)
) (
 inrX (
 some (.inl [])
)
)

def slices_IndexFunc_Lapi_Var_api_Var_typing_named_wrong_1 (n : Nat) (a0 : D) (x1_0 : D) : Option D :=
 obind (lenP a0) fun v7 =>
 obind (
 iterL (slices_IndexFunc_Lapi_Var_api_Var_typing_named_wrong_1_l2 n) n [a0, x1_0, v7, (eI 0)]
) <| jnX fun ls =>
 some (eI (-1))

def slices_IndexFunc_Lapi_Var_api_Var_typing_named_wrong_1L (n : Nat) : List D → Option D
  | [a0, a1] => (match fnOf fid_typing_named_wrong_1 a1 with | some [x1_0] => slices_IndexFunc_Lapi_Var_api_Var_typing_named_wrong_1 n a0 x1_0 | _ => none)
  | _ => none
def slices_ContainsFunc_Lapi_Var_api_Var_typing_named_wrong_1 (n : Nat) (a0 : D) (x1_0 : D) : Option D :=
 obind (slices_IndexFunc_Lapi_Var_api_Var_typing_named_wrong_1L n [a0, (D.fn (.func fid_typing_named_wrong_1) [] [x1_0])]) fun v7 =>
 obind (binP false .geq v7 (eI 0)) fun v8 =>
 some v8

def slices_ContainsFunc_Lapi_Var_api_Var_typing_named_wrong_1L (n : Nat) : List D → Option D
  | [a0, a1] => (match fnOf fid_typing_named_wrong_1 a1 with | some [x1_0] => slices_ContainsFunc_Lapi_Var_api_Var_typing_named_wrong_1 n a0 x1_0 | _ => none)
  | _ => none
def typing_named_wrong_2 (n : Nat) (a0 : D) (x1 : List D) : Option D :=
 og (aggP 5 a0) <|
 obind (atP false 1 0 x1) fun v6 =>
 obind (binP false .eql (celD a0 0) v6) fun v7 =>
 some v7

def typing_named_wrong_2L (n : Nat) : List D → Option D
  | [a0, a1] => (match a1 with | .ref x1 0 => typing_named_wrong_2 n a0 x1 | _ => none)
  | _ => none
def slices_IndexFunc_typing_named_api_Def_typing_named_wrong_2_l2 (n : Nat) (ls : List D) : Option (List D ⊕ (List D ⊕ D)) :=
 obind (binP false .lss (pd ls 3) (pd ls 2)) fun v9 =>
 oif v9 (
 obind (ixP 5 (pd ls 0) (pd ls 3)) fun c14 =>
 obind (atP true 5 0 c14) fun v15 =>
 obind (typing_named_wrong_2L n [v15, (pd ls 1)]) fun v16 =>
 oif v16 (
 inrX (
 inrX (
 some (pd ls 3)
)
)
) (
 obind (binP false .add (pd ls 3) (eI 1)) fun v18 =>
 some (.inl [(pd ls 0), (pd ls 1), (pd ls 2), v18])
)
) (
 inrX (
 some (.inl [])
)
)

def slices_IndexFunc_typing_named_api_Def_typing_named_wrong_2 (n : Nat) (a0 : D) (x1_0 : D) : Option D :=
 obind (lenP a0) fun v7 =>
 obind (
 iterL (slices_IndexFunc_typing_named_api_Def_typing_named_wrong_2_l2 n) n [a0, x1_0, v7, (eI 0)]
) <| jnX fun ls =>
 some (eI (-1))

def slices_IndexFunc_typing_named_api_Def_typing_named_wrong_2L (n : Nat) : List D → Option D
  | [a0, a1] => (match fnOf fid_typing_named_wrong_2 a1 with | some [x1_0] => slices_IndexFunc_typing_named_api_Def_typing_named_wrong_2 n a0 x1_0 | _ => none)
  | _ => none
def slices_ContainsFunc_typing_named_api_Def_typing_named_wrong_2 (n : Nat) (a0 : D) (x1_0 : D) : Option D :=
 obind (slices_IndexFunc_typing_named_api_Def_typing_named_wrong_2L n [a0, (D.fn (.func fid_typing_named_wrong_2) [] [x1_0])]) fun v7 =>
 obind (binP false .geq v7 (eI 0)) fun v8 =>
 some v8

def slices_ContainsFunc_typing_named_api_Def_typing_named_wrong_2L (n : Nat) : List D → Option D
  | [a0, a1] => (match fnOf fid_typing_named_wrong_2 a1 with | some [x1_0] => slices_ContainsFunc_typing_named_api_Def_typing_named_wrong_2 n a0 x1_0 | _ => none)
  | _ => none
def typing_named_wrong (n : Nat) (a0 : D) (a1 : D) (a2 : D) : Option D :=
 og (aggP 8 a1) <|
 obind (ixP 5 a0 a2) fun c10 =>
 obind (atP false 1 0 c10) fun v12 =>
 og (oneP v12) <|
 obind (lexi_IsL n [v12]) fun v15 =>
 obind (unP .not v15) fun v16 =>
 oif v16 (
 some (eI 12)
) (
 obind (slices_ContainsFunc_Lapi_Var_api_Var_typing_named_wrong_1L n [(celD a1 0), (D.fn (.func fid_typing_named_wrong_1) [] [(D.ref [v12] 0)])]) fun v21 =>
 og v21.flat <|
 obind (
 oif v21 (
 some (.inl [v21])
) (
 obind (subP 5 a0 none (some a2)) fun v24 =>
 obind (slices_ContainsFunc_typing_named_api_Def_typing_named_wrong_2L n [v24, (D.fn (.func fid_typing_named_wrong_2) [] [(D.ref [v12] 0)])]) fun v26 =>
 og v26.flat <|
 some (.inl [v26])
)
) <| jnX fun ls =>
 oif (pd ls 0) (
 some (eI 6)
) (
 some (eI 0)
)
)

def typing_named_wrongL (n : Nat) : List D → Option D
  | [a0, a1, a2] => typing_named_wrong n a0 a1 a2
  | _ => none
def typing_specs_kind (n : Nat) (a0 : D) : Option D :=
 some (eI 8)

def typing_specs_kindL (n : Nat) : List D → Option D
  | [a0] => typing_specs_kind n a0
  | _ => none
def typing_nexts_kind (n : Nat) (a0 : D) : Option D :=
 some (eI 5)

def typing_nexts_kindL (n : Nat) : List D → Option D
  | [a0] => typing_nexts_kind n a0
  | _ => none
def typing_truths_kind (n : Nat) (a0 : D) : Option D :=
 og (aggP 3 a0) <|
 some (celD a0 0)

def typing_truths_kindL (n : Nat) : List D → Option D
  | [a0] => typing_truths_kind n a0
  | _ => none
def typing_meant_kind (n : Nat) (a0 : D) : Option D :=
 some (eI 2)

def typing_meant_kindL (n : Nat) : List D → Option D
  | [a0] => typing_meant_kind n a0
  | _ => none
def typing_ringed_kind (n : Nat) (a0 : D) : Option D :=
 some (eI 2)

def typing_ringed_kindL (n : Nat) : List D → Option D
  | [a0] => typing_ringed_kind n a0
  | _ => none
def typing_named_kind (n : Nat) (a0 : D) : Option D :=
 some (eI 2)

def typing_named_kindL (n : Nat) : List D → Option D
  | [a0] => typing_named_kind n a0
  | _ => none
def typing_Check_l2 (n : Nat) (ls : List D) : Option (List D ⊕ (List D ⊕ D)) :=
 obind (binP false .lss (pd ls 1) (eI 8)) fun v38 =>
 oif v38 (
 obind (numP 8 (pd ls 1)) fun j40 =>
 obind (fldP false 1 (j40 * 1) (pd ls 0)) fun v40 =>
 obind (binP false .gtr v40 (eI 64)) fun v42 =>
 oif v42 (
 obind (binP false .add (eI 1) (pd ls 1)) fun v44 =>
 og (oneP v44) <|
 og (aggP 2 (D.agg [v44, (eI 64)])) <|
 inrX (
 inrX (
 some (D.tup [(D.agg [v44, (eI 64)]), (eI 18)])
)
)
) (
 obind (binP false .add (pd ls 1) (eI 1)) fun v46 =>
 some (.inl [(pd ls 0), v46, (pd ls 2), (pd ls 3), (pd ls 4), (pd ls 5), (pd ls 6), (pd ls 7), (pd ls 8), (pd ls 9), (pd ls 10), (pd ls 11)])
)
) (
 inrX (
 some (.inl [(pd ls 2), (pd ls 3), (pd ls 4), (pd ls 5), (pd ls 6), (pd ls 7), (pd ls 8), (pd ls 9), (pd ls 10), (pd ls 11)])
)
)

def typing_Check_l16 (n : Nat) (ls : List D) : Option (List D ⊕ (List D ⊕ (List D ⊕ (List D ⊕ (List D ⊕ D))))) :=
 obind (binP false .lss (pd ls 4) (pd ls 3)) fun v100 =>
 oif v100 (
 obind (ifcP (pd ls 0)) fun q105 =>
 obind (ifT q105.1 61 (typing_named_wrongL n [q105.2, (D.agg [(pd ls 5), (pd ls 6), (pd ls 7), (pd ls 8), (pd ls 9), (pd ls 10), (pd ls 11), (pd ls 12)]), (pd ls 4)]) (ifT q105.1 62 (typing_ringed_wrongL n [q105.2, (D.agg [(pd ls 5), (pd ls 6), (pd ls 7), (pd ls 8), (pd ls 9), (pd ls 10), (pd ls 11), (pd ls 12)]), (pd ls 4)]) (ifT q105.1 63 (typing_meant_wrongL n [q105.2, (D.agg [(pd ls 5), (pd ls 6), (pd ls 7), (pd ls 8), (pd ls 9), (pd ls 10), (pd ls 11), (pd ls 12)]), (pd ls 4)]) (ifT q105.1 65 (typing_truths_wrongL n [q105.2, (D.agg [(pd ls 5), (pd ls 6), (pd ls 7), (pd ls 8), (pd ls 9), (pd ls 10), (pd ls 11), (pd ls 12)]), (pd ls 4)]) (ifT q105.1 66 (typing_nexts_wrongL n [q105.2, (D.agg [(pd ls 5), (pd ls 6), (pd ls 7), (pd ls 8), (pd ls 9), (pd ls 10), (pd ls 11), (pd ls 12)]), (pd ls 4)]) (ifT q105.1 67 (typing_specs_wrongL n [q105.2, (D.agg [(pd ls 5), (pd ls 6), (pd ls 7), (pd ls 8), (pd ls 9), (pd ls 10), (pd ls 11), (pd ls 12)]), (pd ls 4)]) (none))))))) fun v105 =>
 obind (binP false .neq v105 (eI 0)) fun v107 =>
 oif v107 (
 obind (ifcP (pd ls 0)) fun q109 =>
 obind (ifT q109.1 61 (typing_named_kindL n [q109.2]) (ifT q109.1 62 (typing_ringed_kindL n [q109.2]) (ifT q109.1 63 (typing_meant_kindL n [q109.2]) (ifT q109.1 65 (typing_truths_kindL n [q109.2]) (ifT q109.1 66 (typing_nexts_kindL n [q109.2]) (ifT q109.1 67 (typing_specs_kindL n [q109.2]) (none))))))) fun v109 =>
 og (oneP v109) <|
 og (oneP (pd ls 4)) <|
 og (aggP 2 (D.agg [v109, (pd ls 4)])) <|
 inrX (
 inrX (
 inrX (
 inrX (
 inrX (
 some (D.tup [(D.agg [v109, (pd ls 4)]), v105])
)
)
)
)
)
) (
 obind (binP false .add (pd ls 4) (eI 1)) fun v113 =>
 some (.inl [(pd ls 0), (pd ls 1), (pd ls 2), (pd ls 3), v113, (pd ls 5), (pd ls 6), (pd ls 7), (pd ls 8), (pd ls 9), (pd ls 10), (pd ls 11), (pd ls 12), (pd ls 13), (pd ls 14)])
)
) (
 inrX (
 some (.inl [(pd ls 1), (pd ls 2), (pd ls 5), (pd ls 6), (pd ls 7), (pd ls 8), (pd ls 9), (pd ls 10), (pd ls 11), (pd ls 12), (pd ls 13), (pd ls 14)])
)
)

def typing_Check_l13 (n : Nat) (ls : List D) : Option (List D ⊕ (List D ⊕ D)) :=
 obind (binP false .lss (pd ls 1) (eI 9)) fun v95 =>
 oif v95 (
 obind (
 obind (numP 9 (pd ls 1)) fun j96 =>
 obind (fldP false 1 (j96 * 1) (pd ls 0)) fun v96 =>
 obind (ifcP v96) fun q98 =>
 obind (ifT q98.1 61 (typing_named_manyL n [q98.2]) (ifT q98.1 62 (typing_ringed_manyL n [q98.2]) (ifT q98.1 63 (typing_meant_manyL n [q98.2]) (ifT q98.1 65 (typing_truths_manyL n [q98.2]) (ifT q98.1 66 (typing_nexts_manyL n [q98.2]) (ifT q98.1 67 (typing_specs_manyL n [q98.2]) (none))))))) fun v98 =>
 obind (
 iterL (typing_Check_l16 n) n [v96, (pd ls 0), (pd ls 1), v98, (eI 0), (pd ls 2), (pd ls 3), (pd ls 4), (pd ls 5), (pd ls 6), (pd ls 7), (pd ls 8), (pd ls 9), (pd ls 10), (pd ls 11)]
) <| jnX fun ls =>
 some (.inl [(pd ls 0), (pd ls 1), (pd ls 2), (pd ls 3), (pd ls 4), (pd ls 5), (pd ls 6), (pd ls 7), (pd ls 8), (pd ls 9), (pd ls 10), (pd ls 11)])
) <| jnX fun ls =>
 obind (binP false .add (pd ls 1) (eI 1)) fun v114 =>
 some (.inl [(pd ls 0), v114, (pd ls 2), (pd ls 3), (pd ls 4), (pd ls 5), (pd ls 6), (pd ls 7), (pd ls 8), (pd ls 9), (pd ls 10), (pd ls 11)])
) (
 inrX (
 some (.inl [(pd ls 10), (pd ls 11)])
)
)

def typing_Check (n : Nat) (a0 : D) : Option D :=
 og (aggP 8 a0) <|
 obind (lenP (celD a0 0)) fun v14 =>
 obind (lenP (celD a0 1)) fun v17 =>
 obind (lenP (celD a0 2)) fun v20 =>
 obind (lenP (celD a0 3)) fun v23 =>
 obind (lenP (celD a0 4)) fun v26 =>
 obind (lenP (celD a0 5)) fun v29 =>
 obind (lenP (celD a0 6)) fun v32 =>
 obind (lenP (celD a0 7)) fun v35 =>
 og (oneP v14) <|
 og (oneP v17) <|
 og (oneP v20) <|
 og (oneP v23) <|
 og (oneP v26) <|
 og (oneP v29) <|
 og (oneP v32) <|
 og (oneP v35) <|
 obind (
 iterL (typing_Check_l2 n) n [(D.agg [v14, v17, v20, v23, v26, v29, v32, v35]), (eI 0), (celD a0 0), (celD a0 1), (celD a0 2), (celD a0 3), (celD a0 4), (celD a0 5), (celD a0 6), (celD a0 7), (eI 0), (eI 0)]
) <| jnX fun ls =>
 obind (typing_VarsL n [(pd ls 0)]) fun v50 =>
 obind (extP 0 v50) fun v51 =>
 obind (extP 1 v50) fun v52 =>
 obind (binP false .neq v52 (eI 0)) fun v54 =>
 oif v54 (
 og (oneP v51) <|
 og (aggP 2 (D.agg [(eI 1), v51])) <|
 some (D.tup [(D.agg [(eI 1), v51]), v52])
) (
 obind (typing_BitsL n [(D.agg [(pd ls 0), (pd ls 1), (pd ls 2), (pd ls 3), (pd ls 4), (pd ls 5), (pd ls 6), (pd ls 7)])]) fun v59 =>
 obind (binP false .gtr v59 (eI 30)) fun v60 =>
 oif v60 (
 some (D.tup [(D.agg [(eI 1), (eI 0)]), (eI 18)])
) (
 og (oneP (pd ls 2)) <|
 og (oneP (pd ls 3)) <|
 og (oneP (pd ls 5)) <|
 og (oneP (pd ls 6)) <|
 og (oneP (D.ifc 61 (pd ls 1))) <|
 og (oneP (D.ifc 62 (pd ls 1))) <|
 og (oneP (D.ifc 63 (pd ls 1))) <|
 og (oneP (D.ifc 65 (D.agg [(eI 3), (pd ls 2), (eB false)]))) <|
 og (oneP (D.ifc 65 (D.agg [(eI 4), (pd ls 3), (eB false)]))) <|
 og (oneP (D.ifc 66 (pd ls 4))) <|
 og (oneP (D.ifc 65 (D.agg [(eI 6), (pd ls 5), (eB true)]))) <|
 og (oneP (D.ifc 65 (D.agg [(eI 7), (pd ls 6), (eB false)]))) <|
 og (oneP (D.ifc 67 (pd ls 7))) <|
 obind (
 iterL (typing_Check_l13 n) n [(D.agg [(D.ifc 61 (pd ls 1)), (D.ifc 62 (pd ls 1)), (D.ifc 63 (pd ls 1)), (D.ifc 65 (D.agg [(eI 3), (pd ls 2), (eB false)])), (D.ifc 65 (D.agg [(eI 4), (pd ls 3), (eB false)])), (D.ifc 66 (pd ls 4)), (D.ifc 65 (D.agg [(eI 6), (pd ls 5), (eB true)])), (D.ifc 65 (D.agg [(eI 7), (pd ls 6), (eB false)])), (D.ifc 67 (pd ls 7))]), (eI 0), (pd ls 0), (pd ls 1), (pd ls 2), (pd ls 3), (pd ls 4), (pd ls 5), (pd ls 6), (pd ls 7), (pd ls 8), (pd ls 9)]
) <| jnX fun ls =>
 some (D.tup [(D.agg [(eI 0), (eI 0)]), (eI 0)])
)
)

def typing_CheckL (n : Nat) : List D → Option D
  | [a0] => typing_Check n a0
  | _ => none
def typing_States_l3 (n : Nat) (ls : List D) : Option (List D ⊕ (List D ⊕ D)) :=
 obind (binP false .lss (pd ls 4) (pd ls 3)) fun v13 =>
 oif v13 (
 obind (
 obind (ixP 4 (pd ls 2) (pd ls 4)) fun c14 =>
 obind (atP true 4 0 c14) fun v15 =>
 og (aggP 4 v15) <|
 obind (typing_SpanL n [(D.agg [(celD v15 0), (celD v15 1), (celD v15 2), (celD v15 3)])]) fun v17 =>
 obind (gD (pd ls 1) false (
 obind (binP false .eql v17 (eI 0)) fun v21 =>
 some v21
)) fun v21 =>
 obind (pickP (pd ls 1) (eB true) v21) fun v22 =>
 obind (binP false .leq (pd ls 0) (eI 1073741824)) fun v24 =>
 obind (
 oif v24 (
 obind (mmP true [v17, (eI 1)]) fun v27 =>
 obind (binP false .mul (pd ls 0) v27) fun v28 =>
 some (.inl [v28, v22, (pd ls 2), (pd ls 3), (pd ls 4)])
) (
 some (.inl [(pd ls 0), v22, (pd ls 2), (pd ls 3), (pd ls 4)])
)
) <| jnX fun ls =>
 some (.inl [(pd ls 0), (pd ls 1), (pd ls 2), (pd ls 3), (pd ls 4)])
) <| jnX fun ls =>
 obind (binP false .add (pd ls 4) (eI 1)) fun v29 =>
 some (.inl [(pd ls 0), (pd ls 1), (pd ls 2), (pd ls 3), v29])
) (
 inrX (
 some (.inl [(pd ls 0), (pd ls 1)])
)
)

def typing_States (n : Nat) (a0 : D) : Option D :=
 og (aggP 8 a0) <|
 obind (lenP (celD a0 0)) fun v11 =>
 obind (
 iterL (typing_States_l3 n) n [(eI 1), (eB false), (celD a0 0), v11, (eI 0)]
) <| jnX fun ls =>
 oif (pd ls 1) (
 some (D.tup [(eI 0), (eB true)])
) (
 obind (binP false .gtr (pd ls 0) (eI 1073741824)) fun v34 =>
 oif v34 (
 some (D.tup [(eI 0), (eB false)])
) (
 some (D.tup [(pd ls 0), (eB true)])
)
)

def typing_StatesL (n : Nat) : List D → Option D
  | [a0] => typing_States n a0
  | _ => none
def typing_Is_l4 (n : Nat) (ls : List D) : Option (List D ⊕ (List D ⊕ D)) :=
 obind (binP false .lss (pd ls 3) (pd ls 2)) fun v19 =>
 oif v19 (
 obind (ixP 4 (pd ls 1) (pd ls 3)) fun c21 =>
 obind (atP true 4 0 c21) fun v22 =>
 og (aggP 4 v22) <|
 obind (
 oif (celD v22 1) (
 some (.inl [(pd ls 0), (pd ls 3), (eI 0), (eI 1), (pd ls 1), (pd ls 2), (pd ls 3)])
) (
 some (.inl [(pd ls 0), (pd ls 3), (celD v22 2), (celD v22 3), (pd ls 1), (pd ls 2), (pd ls 3)])
)
) <| jnX fun ls =>
 obind (ixP 1 (pd ls 0) (pd ls 1)) fun c31 =>
 obind (atP false 1 0 c31) fun v32 =>
 obind (binP false .lss v32 (pd ls 2)) fun v34 =>
 obind (gD v34 false (
 obind (ixP 1 (pd ls 0) (pd ls 1)) fun c38 =>
 obind (atP false 1 0 c38) fun v39 =>
 obind (binP false .gtr v39 (pd ls 3)) fun v41 =>
 some v41
)) fun v41 =>
 obind (pickP v34 (eB true) v41) fun v42 =>
 oif v42 (
 inrX (
 inrX (
 some (eB false)
)
)
) (
 obind (binP false .add (pd ls 6) (eI 1)) fun v43 =>
 some (.inl [(pd ls 0), (pd ls 4), (pd ls 5), v43])
)
) (
 inrX (
 some (.inl [])
)
)

def typing_Is (n : Nat) (a0 : D) (a1 : D) : Option D :=
 og (aggP 8 a0) <|
 obind (lenP a1) fun v10 =>
 obind (lenP (celD a0 0)) fun v13 =>
 obind (binP false .neq v10 v13) fun v14 =>
 oif v14 (
 some (eB false)
) (
 obind (lenP (celD a0 0)) fun v17 =>
 obind (
 iterL (typing_Is_l4 n) n [a1, (celD a0 0), v17, (eI 0)]
) <| jnX fun ls =>
 some (eB true)
)

def typing_IsL (n : Nat) : List D → Option D
  | [a0, a1] => typing_Is n a0 a1
  | _ => none
def law36_lives (n : Nat) : Option D :=
 obind (law36_counterL n []) fun v10 =>
 og (aggP 8 v10) <|
 obind (typing_CheckL n [(D.agg [(celD v10 0), (celD v10 1), (celD v10 2), (celD v10 3), (celD v10 4), (celD v10 5), (celD v10 6), (celD v10 7)])]) fun v13 =>
 obind (extP 0 v13) fun v14 =>
 obind (extP 1 v13) fun v15 =>
 og (aggP 2 v14) <|
 obind (typing_StatesL n [(D.agg [(celD v10 0), (celD v10 1), (celD v10 2), (celD v10 3), (celD v10 4), (celD v10 5), (celD v10 6), (celD v10 7)])]) fun v18 =>
 obind (extP 0 v18) fun v19 =>
 obind (extP 1 v18) fun v20 =>
 obind (eqvP [.int .i64, .int .i64] .neq (D.agg [(celD v14 0), (celD v14 1)]) (D.agg [(eI 0), (eI 0)])) fun v23 =>
 obind (gD v23 false (
 obind (binP false .neq v15 (eI 0)) fun v26 =>
 some v26
)) fun v26 =>
 obind (pickP v23 (eB true) v26) fun v27 =>
 obind (gD v27 false (
 obind (binP false .neq v19 (eI 3)) fun v30 =>
 some v30
)) fun v30 =>
 obind (pickP v27 (eB true) v30) fun v31 =>
 obind (gD v31 false (
 obind (unP .not v20) fun v34 =>
 some v34
)) fun v34 =>
 obind (pickP v31 (eB true) v34) fun v35 =>
 obind (gD v35 false (
 obind (typing_BitsL n [(D.agg [(celD v10 0), (celD v10 1), (celD v10 2), (celD v10 3), (celD v10 4), (celD v10 5), (celD v10 6), (celD v10 7)])]) fun v38 =>
 obind (binP false .neq v38 (eI 2)) fun v39 =>
 some v39
)) fun v39 =>
 obind (pickP v35 (eB true) v39) fun v40 =>
 obind (gD v40 false (
 obind (typing_IsL n [(D.agg [(celD v10 0), (celD v10 1), (celD v10 2), (celD v10 3), (celD v10 4), (celD v10 5), (celD v10 6), (celD v10 7)]), (D.sl 1 [[(eI 2)]])]) fun v44 =>
 og v44.flat <|
 obind (unP .not v44) fun v45 =>
 some v45
)) fun v45 =>
 obind (pickP v40 (eB true) v45) fun v46 =>
 oif v46 (
 some (eB false)
) (
 obind (law36_nameL n [(eS ⟨#[110]⟩)]) fun v47 =>
 og (aggP 4 v47) <|
 obind (typing_CheckL n [(D.agg [(celD v10 0), (celD v10 1), (D.sl 4 [[(celD v47 0), (celD v47 1), (celD v47 2), (celD v47 3)]]), (celD v10 3), (celD v10 4), (celD v10 5), (celD v10 6), (celD v10 7)])]) fun v52 =>
 og v52.flat <|
 obind (extP 0 v52) fun v53 =>
 obind (extP 1 v52) fun v54 =>
 og (aggP 2 v53) <|
 obind (law36_nameL n [(eS ⟨#[98]⟩)]) fun v55 =>
 og (aggP 4 v55) <|
 obind (law36_nameL n [(eS ⟨#[97]⟩)]) fun v57 =>
 og (aggP 4 v57) <|
 og (aggP 5 (D.agg [(eS ⟨#[97]⟩), (celD v55 0), (celD v55 1), (celD v55 2), (celD v55 3)])) <|
 og (aggP 5 (D.agg [(eS ⟨#[98]⟩), (celD v57 0), (celD v57 1), (celD v57 2), (celD v57 3)])) <|
 obind (typing_CheckL n [(D.agg [(celD v10 0), (D.sl 5 [[(eS ⟨#[97]⟩), (celD v55 0), (celD v55 1), (celD v55 2), (celD v55 3)], [(eS ⟨#[98]⟩), (celD v57 0), (celD v57 1), (celD v57 2), (celD v57 3)]]), (D.sl 4 [[(celD v47 0), (celD v47 1), (celD v47 2), (celD v47 3)]]), (celD v10 3), (celD v10 4), (celD v10 5), (celD v10 6), (celD v10 7)])]) fun v63 =>
 og v63.flat <|
 obind (extP 0 v63) fun v64 =>
 obind (extP 1 v63) fun v65 =>
 og (aggP 2 v64) <|
 obind (eqvP [.int .i64, .int .i64] .eql (D.agg [(celD v53 0), (celD v53 1)]) (D.agg [(eI 3), (eI 0)])) fun v68 =>
 obind (gD v68 true (
 obind (binP false .eql v54 (eI 13)) fun v71 =>
 some v71
)) fun v71 =>
 obind (pickP v68 v71 (eB false)) fun v72 =>
 obind (gD v72 true (
 obind (eqvP [.int .i64, .int .i64] .eql (D.agg [(celD v64 0), (celD v64 1)]) (D.agg [(eI 2), (eI 0)])) fun v76 =>
 some v76
)) fun v76 =>
 obind (pickP v72 v76 (eB false)) fun v77 =>
 obind (gD v77 true (
 obind (binP false .eql v65 (eI 14)) fun v80 =>
 some v80
)) fun v80 =>
 obind (pickP v77 v80 (eB false)) fun v81 =>
 some v81
)

def law36_livesL (n : Nat) : List D → Option D
  | [] => law36_lives n
  | _ => none
def ref36_Span (n : Nat) (a0 : D) : Option D :=
 og (aggP 4 a0) <|
 oif (celD a0 1) (
 some (eI 2)
) (
 obind (binP false .gtr (celD a0 2) (celD a0 3)) fun v10 =>
 oif v10 (
 some (eI 0)
) (
 obind (cvP .u64 (celD a0 3)) fun v13 =>
 obind (cvP .u64 (celD a0 2)) fun v16 =>
 obind (binP false .sub v13 v16) fun v17 =>
 obind (binP false .gtr v17 (D.val (.int .u64 1073741824))) fun v19 =>
 obind (
 oif v19 (
 some (.inl [(D.val (.int .u64 1073741824))])
) (
 some (.inl [v17])
)
) <| jnX fun ls =>
 obind (cvP .i64 (pd ls 0)) fun v21 =>
 obind (binP false .add v21 (eI 1)) fun v22 =>
 some v22
)
)

def ref36_SpanL (n : Nat) : List D → Option D
  | [a0] => ref36_Span n a0
  | _ => none
def ref30_In_l2 (n : Nat) (ls : List D) : Option (List D ⊕ (List D ⊕ D)) :=
 obind (lenP (pd ls 0)) fun v8 =>
 obind (binP false .lss (pd ls 2) v8) fun v9 =>
 oif v9 (
 obind (ixP 1 (pd ls 0) (pd ls 2)) fun c14 =>
 obind (atP false 1 0 c14) fun v15 =>
 obind (binP false .eql v15 (pd ls 1)) fun v17 =>
 oif v17 (
 inrX (
 inrX (
 some (eB true)
)
)
) (
 obind (binP false .add (pd ls 2) (eI 1)) fun v11 =>
 some (.inl [(pd ls 0), (pd ls 1), v11])
)
) (
 inrX (
 some (.inl [])
)
)

def ref30_In (n : Nat) (a0 : D) (a1 : D) : Option D :=
 obind (
 iterL (ref30_In_l2 n) n [a0, a1, (eI 0)]
) <| jnX fun ls =>
 some (eB false)

def ref30_InL (n : Nat) : List D → Option D
  | [a0, a1] => ref30_In n a0 a1
  | _ => none
def ref30_With_l6 (n : Nat) (ls : List D) : Option (List D ⊕ (List D ⊕ D)) :=
 obind (lenP (pd ls 0)) fun v15 =>
 obind (binP false .lss (pd ls 3) v15) fun v16 =>
 oif v16 (
 obind (unP .not (pd ls 2)) fun v20 =>
 obind (gD v20 true (
 obind (ixP 1 (pd ls 0) (pd ls 3)) fun c24 =>
 obind (atP false 1 0 c24) fun v25 =>
 obind (binP false .gtr v25 (pd ls 1)) fun v27 =>
 some v27
)) fun v27 =>
 obind (pickP v20 v27 (eB false)) fun v28 =>
 obind (
 oif v28 (
 og (oneP (pd ls 1)) <|
 og (roomP (((esD (pd ls 4))).length + ([[(pd ls 1)]]).length) 16) <|
 some (.inl [(pd ls 0), (pd ls 1), (eB true), (pd ls 3), (D.sl 1 ((esD (pd ls 4)) ++ [[(pd ls 1)]]))])
) (
 some (.inl [(pd ls 0), (pd ls 1), (pd ls 2), (pd ls 3), (D.sl 1 (esD (pd ls 4)))])
)
) <| jnX fun ls =>
 obind (ixP 1 (pd ls 0) (pd ls 3)) fun c36 =>
 obind (atP false 1 0 c36) fun v37 =>
 og (oneP v37) <|
 og (roomP (((esD (pd ls 4))).length + ([[v37]]).length) 16) <|
 obind (binP false .add (pd ls 3) (eI 1)) fun v18 =>
 some (.inl [(pd ls 0), (pd ls 1), (pd ls 2), v18, (D.sl 1 ((esD (pd ls 4)) ++ [[v37]]))])
) (
 inrX (
 some (.inl [(pd ls 1), (pd ls 2), (D.sl 1 (esD (pd ls 4)))])
)
)

def ref30_With (n : Nat) (a0 : D) (a1 : D) : Option D :=
 obind (ref30_InL n [a0, a1]) fun v10 =>
 oif v10 (
 some a0
) (
 obind (
 iterL (ref30_With_l6 n) n [a0, a1, (eB false), (eI 0), (D.sl 1 ([] : List (List D)))]
) <| jnX fun ls =>
 obind (unP .not (pd ls 1)) fun v41 =>
 obind (
 oif v41 (
 og (oneP (pd ls 0)) <|
 og (roomP (((esD (pd ls 2))).length + ([[(pd ls 0)]]).length) 16) <|
 some (.inl [(D.sl 1 ((esD (pd ls 2)) ++ [[(pd ls 0)]]))])
) (
 some (.inl [(D.sl 1 (esD (pd ls 2)))])
)
) <| jnX fun ls =>
 some (D.sl 1 (esD (pd ls 0)))
)

def ref30_WithL (n : Nat) : List D → Option D
  | [a0, a1] => ref30_With n a0 a1
  | _ => none
def ref30_names_l4 (r_ref30_names : List D → Option D) (n : Nat) (ls : List D) : Option (List D ⊕ (List D ⊕ D)) :=
 obind (lenP (pd ls 6)) fun v19 =>
 obind (binP false .lss (pd ls 2) v19) fun v20 =>
 oif v20 (
 obind (ixP 4 (pd ls 6) (pd ls 2)) fun c26 =>
 obind (atP true 4 0 c26) fun v27 =>
 obind (r_ref30_names [v27, (pd ls 0), (pd ls 1)]) fun v30 =>
 obind (binP false .add (pd ls 2) (eI 1)) fun v22 =>
 some (.inl [(pd ls 0), v30, v22, (pd ls 3), (pd ls 4), (pd ls 5), (pd ls 6)])
) (
 inrX (
 some (.inl [(pd ls 1)])
)
)

def ref30_names (r_ref30_names : List D → Option D) (n : Nat) (a0 : D) (a1 : D) (a2 : D) : Option D :=
 og (aggP 4 a0) <|
 obind (binP false .eql (celD a0 0) a1) fun v11 =>
 obind (
 oif v11 (
 obind (ref30_WithL n [a2, (celD a0 2)]) fun v15 =>
 some (.inl [a1, v15, (celD a0 0), (celD a0 1), (celD a0 2), (celD a0 3)])
) (
 some (.inl [a1, a2, (celD a0 0), (celD a0 1), (celD a0 2), (celD a0 3)])
)
) <| jnX fun ls =>
 obind (
 iterL (ref30_names_l4 r_ref30_names n) n [(pd ls 0), (pd ls 1), (eI 0), (pd ls 2), (pd ls 3), (pd ls 4), (pd ls 5)]
) <| jnX fun ls =>
 some (pd ls 0)

def ref30_namesL : Nat → List D → Option D
  | 0, _ => none
  | n + 1, ds => match ds with
    | [a0, a1, a2] => ref30_names (ref30_namesL n) n a0 a1 a2
    | _ => none
def ref30_Names (n : Nat) (a0 : D) : Option D :=
 og (aggP 4 a0) <|
 obind (ref30_namesL n [(D.agg [(celD a0 0), (celD a0 1), (celD a0 2), (celD a0 3)]), (eI 3), (D.val (.slice none 0 0))]) fun v5 =>
 obind (ref30_namesL n [(D.agg [(celD a0 0), (celD a0 1), (celD a0 2), (celD a0 3)]), (eI 4), (D.val (.slice none 0 0))]) fun v7 =>
 some (D.tup [v5, v7])

def ref30_NamesL (n : Nat) : List D → Option D
  | [a0] => ref30_Names n a0
  | _ => none
def ref30_Kids (n : Nat) (a0 : D) : Option D :=
 obind (
 obind (binP false .eql a0 (eI 1)) fun v6 =>
 obind (
 oif v6 (
 some (.inl [a0, a0, v6])
) (
 obind (binP false .eql a0 (eI 2)) fun v7 =>
 obind (
 oif v7 (
 some (.inl [a0, a0, v7])
) (
 obind (binP false .eql a0 (eI 3)) fun v8 =>
 obind (
 oif v8 (
 some (.inl [a0, a0, v8])
) (
 obind (binP false .eql a0 (eI 4)) fun v9 =>
 some (.inl [a0, a0, v9])
)
) <| jnX fun ls =>
 some (.inl [(pd ls 0), (pd ls 1), (pd ls 2)])
)
) <| jnX fun ls =>
 some (.inl [(pd ls 0), (pd ls 1), (pd ls 2)])
)
) <| jnX fun ls =>
 oif (pd ls 2) (
 inrX (
 some (D.tup [(eI 0), (eI 0)])
)
) (
 obind (binP false .eql (pd ls 1) (eI 5)) fun v11 =>
 oif v11 (
 inrX (
 some (D.tup [(eI 1), (eI 1)])
)
) (
 obind (binP false .eql (pd ls 1) (eI 6)) fun v13 =>
 obind (
 oif v13 (
 some (.inl [(pd ls 0), (pd ls 1), v13])
) (
 obind (binP false .eql (pd ls 1) (eI 7)) fun v14 =>
 some (.inl [(pd ls 0), (pd ls 1), v14])
)
) <| jnX fun ls =>
 oif (pd ls 2) (
 inrX (
 some (D.tup [(eI 1), (eI 64)])
)
) (
 obind (binP false .eql (pd ls 1) (eI 18)) fun v16 =>
 oif v16 (
 inrX (
 some (D.tup [(eI 3), (eI 3)])
)
) (
 some (.inl [(pd ls 0)])
)
)
)
)
) <| jnX fun ls =>
 obind (binP false .lss (pd ls 0) (eI 1)) fun v18 =>
 obind (gD v18 false (
 obind (binP false .gtr (pd ls 0) (eI 18)) fun v21 =>
 some v21
)) fun v21 =>
 obind (pickP v18 (eB true) v21) fun v22 =>
 oif v22 (
 some (D.tup [(eI (-1)), (eI (-1))])
) (
 some (D.tup [(eI 2), (eI 2)])
)

def ref30_KidsL (n : Nat) : List D → Option D
  | [a0] => ref30_Kids n a0
  | _ => none
def ref30_Part (n : Nat) (a0 : D) (a1 : D) : Option D :=
 og (aggP 4 a0) <|
 obind (binP false .gtr a1 (eI 64)) fun v11 =>
 oif v11 (
 some (eI 17)
) (
 obind (ref30_KidsL n [(celD a0 0)]) fun v15 =>
 obind (extP 0 v15) fun v16 =>
 obind (extP 1 v15) fun v17 =>
 obind (binP false .lss v16 (eI 0)) fun v19 =>
 oif v19 (
 some (eI 11)
) (
 obind (binP false .eql (celD a0 0) (eI 1)) fun v22 =>
 obind (
 oif v22 (
 some (.inl [v16, v17, (eI (-255)), (eI 255), (celD a0 0), (celD a0 1), (celD a0 2), (celD a0 3)])
) (
 some (.inl [v16, v17, (eI 0), (eI 0), (celD a0 0), (celD a0 1), (celD a0 2), (celD a0 3)])
)
) <| jnX fun ls =>
 obind (binP false .eql (pd ls 4) (eI 2)) fun v25 =>
 obind (
 oif v25 (
 some (.inl [(pd ls 0), (pd ls 1), (pd ls 2), (eI 1), (pd ls 4), (pd ls 5), (pd ls 6), (pd ls 7)])
) (
 some (.inl [(pd ls 0), (pd ls 1), (pd ls 2), (pd ls 3), (pd ls 4), (pd ls 5), (pd ls 6), (pd ls 7)])
)
) <| jnX fun ls =>
 obind (binP false .lss (pd ls 5) (pd ls 2)) fun v29 =>
 obind (gD v29 false (
 obind (binP false .gtr (pd ls 5) (pd ls 3)) fun v34 =>
 some v34
)) fun v34 =>
 obind (pickP v29 (eB true) v34) fun v35 =>
 oif v35 (
 some (eI 2)
) (
 obind (binP false .eql (pd ls 4) (eI 3)) fun v38 =>
 obind (gD v38 false (
 obind (binP false .eql (pd ls 4) (eI 4)) fun v42 =>
 some v42
)) fun v42 =>
 obind (pickP v38 (eB true) v42) fun v43 =>
 obind (gD v43 true (
 obind (lensP (pd ls 6)) fun v48 =>
 obind (binP false .lss v48 (eI 1)) fun v49 =>
 some v49
)) fun v50 =>
 obind (gD v50 false (
 obind (lensP (pd ls 6)) fun v53 =>
 obind (binP false .gtr v53 (eI 24)) fun v54 =>
 some v54
)) fun v54 =>
 obind (gD v43 true (
 obind (pickP v50 (eB true) v54) fun v55 =>
 some v55
)) fun v55 =>
 obind (pickP v43 v55 (eB false)) fun v56 =>
 obind (gD v56 false (
 obind (unP .not v43) fun v59 =>
 some v59
)) fun v60 =>
 obind (gD v60 true (
 obind (binP false .neq (pd ls 6) (eS ⟨#[]⟩)) fun v63 =>
 some v63
)) fun v63 =>
 obind (gD v56 false (
 obind (pickP v60 v63 (eB false)) fun v64 =>
 some v64
)) fun v64 =>
 obind (pickP v56 (eB true) v64) fun v65 =>
 oif v65 (
 some (eI 12)
) (
 obind (lenP (pd ls 7)) fun v68 =>
 obind (binP false .lss v68 (pd ls 0)) fun v70 =>
 obind (gD v70 false (
 obind (lenP (pd ls 7)) fun v74 =>
 obind (binP false .gtr v74 (pd ls 1)) fun v76 =>
 some v76
)) fun v76 =>
 obind (pickP v70 (eB true) v76) fun v77 =>
 oif v77 (
 some (eI 3)
) (
 some (eI 0)
)
)
)
)
)

def ref30_PartL (n : Nat) : List D → Option D
  | [a0, a1] => ref30_Part n a0 a1
  | _ => none
def ref30_check_l8 (r_ref30_check : List D → Option D) (n : Nat) (ls : List D) : Option (List D ⊕ (List D ⊕ D)) :=
 obind (lenP (pd ls 6)) fun v27 =>
 obind (binP false .lss (pd ls 2) v27) fun v28 =>
 oif v28 (
 obind (ixP 4 (pd ls 6) (pd ls 2)) fun c35 =>
 obind (atP true 4 0 c35) fun v36 =>
 obind (binP false .add (pd ls 0) (eI 1)) fun v38 =>
 obind (r_ref30_check [v36, v38, (pd ls 1)]) fun v40 =>
 obind (extP 0 v40) fun v41 =>
 obind (extP 1 v40) fun v42 =>
 obind (binP false .neq v41 (eI 0)) fun v44 =>
 oif v44 (
 inrX (
 inrX (
 some (D.tup [v41, v42])
)
)
) (
 obind (binP false .add (pd ls 2) (eI 1)) fun v30 =>
 some (.inl [(pd ls 0), v42, v30, (pd ls 3), (pd ls 4), (pd ls 5), (pd ls 6)])
)
) (
 inrX (
 some (.inl [(pd ls 1)])
)
)

def ref30_check (r_ref30_check : List D → Option D) (n : Nat) (a0 : D) (a1 : D) (a2 : D) : Option D :=
 og (aggP 4 a0) <|
 obind (binP false .add a2 (eI 1)) fun v13 =>
 obind (ref30_PartL n [(D.agg [(celD a0 0), (celD a0 1), (celD a0 2), (celD a0 3)]), a1]) fun v16 =>
 obind (binP false .neq v16 (eI 0)) fun v18 =>
 oif v18 (
 some (D.tup [v16, v13])
) (
 obind (binP false .gtr v13 (eI 4096)) fun v22 =>
 oif v22 (
 some (D.tup [(eI 4), v13])
) (
 obind (
 iterL (ref30_check_l8 r_ref30_check n) n [a1, v13, (eI 0), (celD a0 0), (celD a0 1), (celD a0 2), (celD a0 3)]
) <| jnX fun ls =>
 some (D.tup [(eI 0), (pd ls 0)])
)
)

def ref30_checkL : Nat → List D → Option D
  | 0, _ => none
  | n + 1, ds => match ds with
    | [a0, a1, a2] => ref30_check (ref30_checkL n) n a0 a1 a2
    | _ => none
def ref30_Check (n : Nat) (a0 : D) : Option D :=
 og (aggP 4 a0) <|
 obind (ref30_checkL n [(D.agg [(celD a0 0), (celD a0 1), (celD a0 2), (celD a0 3)]), (eI 1), (eI 0)]) fun v7 =>
 obind (extP 0 v7) fun v8 =>
 obind (extP 1 v7) fun v9 =>
 some v8

def ref30_CheckL (n : Nat) : List D → Option D
  | [a0] => ref30_Check n a0
  | _ => none
def ref35_Index_l2 (n : Nat) (ls : List D) : Option (List D ⊕ (List D ⊕ D)) :=
 obind (lenP (pd ls 0)) fun v8 =>
 obind (binP false .lss (pd ls 2) v8) fun v9 =>
 oif v9 (
 obind (ixP 5 (pd ls 0) (pd ls 2)) fun c14 =>
 obind (atP false 1 0 c14) fun v16 =>
 obind (binP false .eql v16 (pd ls 1)) fun v18 =>
 oif v18 (
 inrX (
 inrX (
 some (pd ls 2)
)
)
) (
 obind (binP false .add (pd ls 2) (eI 1)) fun v11 =>
 some (.inl [(pd ls 0), (pd ls 1), v11])
)
) (
 inrX (
 some (.inl [])
)
)

def ref35_Index (n : Nat) (a0 : D) (a1 : D) : Option D :=
 obind (
 iterL (ref35_Index_l2 n) n [a0, a1, (eI 0)]
) <| jnX fun ls =>
 some (eI (-1))

def ref35_IndexL (n : Nat) : List D → Option D
  | [a0, a1] => ref35_Index n a0 a1
  | _ => none
def ref35_direct_l4 (n : Nat) (ls : List D) : Option (List D ⊕ (List D ⊕ D)) :=
 obind (lenP (pd ls 1)) fun v18 =>
 obind (binP false .lss (pd ls 2) v18) fun v19 =>
 oif v19 (
 obind (
 obind (ixP 1 (pd ls 1) (pd ls 2)) fun c25 =>
 obind (atP false 1 0 c25) fun v26 =>
 obind (ref35_IndexL n [(pd ls 0), v26]) fun v27 =>
 obind (binP false .geq v27 (eI 0)) fun v29 =>
 obind (
 oif v29 (
 og (oneP v27) <|
 og (roomP (((esD (pd ls 3))).length + ([[v27]]).length) 8) <|
 some (.inl [(pd ls 0), (pd ls 1), (pd ls 2), (D.sl 1 ((esD (pd ls 3)) ++ [[v27]]))])
) (
 some (.inl [(pd ls 0), (pd ls 1), (pd ls 2), (D.sl 1 (esD (pd ls 3)))])
)
) <| jnX fun ls =>
 some (.inl [(pd ls 0), (pd ls 1), (pd ls 2), (D.sl 1 (esD (pd ls 3)))])
) <| jnX fun ls =>
 obind (binP false .add (pd ls 2) (eI 1)) fun v21 =>
 some (.inl [(pd ls 0), (pd ls 1), v21, (D.sl 1 (esD (pd ls 3)))])
) (
 inrX (
 some (.inl [(D.sl 1 (esD (pd ls 3)))])
)
)

def ref35_direct (n : Nat) (a0 : D) (a1 : D) : Option D :=
 og (aggP 4 a0) <|
 obind (ref30_NamesL n [(D.agg [(celD a0 0), (celD a0 1), (celD a0 2), (celD a0 3)])]) fun v13 =>
 obind (extP 0 v13) fun v14 =>
 obind (extP 1 v13) fun v15 =>
 obind (
 iterL (ref35_direct_l4 n) n [a1, v14, (eI 0), (D.sl 1 ([] : List (List D)))]
) <| jnX fun ls =>
 some (D.sl 1 (esD (pd ls 0)))

def ref35_directL (n : Nat) : List D → Option D
  | [a0, a1] => ref35_direct n a0 a1
  | _ => none
def ref35_has_l2 (n : Nat) (ls : List D) : Option (List D ⊕ (List D ⊕ D)) :=
 obind (lenP (pd ls 0)) fun v8 =>
 obind (binP false .lss (pd ls 2) v8) fun v9 =>
 oif v9 (
 obind (ixP 1 (pd ls 0) (pd ls 2)) fun c14 =>
 obind (atP false 1 0 c14) fun v15 =>
 obind (binP false .eql v15 (pd ls 1)) fun v17 =>
 oif v17 (
 inrX (
 inrX (
 some (eB true)
)
)
) (
 obind (binP false .add (pd ls 2) (eI 1)) fun v11 =>
 some (.inl [(pd ls 0), (pd ls 1), v11])
)
) (
 inrX (
 some (.inl [])
)
)

def ref35_has (n : Nat) (a0 : D) (a1 : D) : Option D :=
 obind (
 iterL (ref35_has_l2 n) n [a0, a1, (eI 0)]
) <| jnX fun ls =>
 some (eB false)

def ref35_hasL (n : Nat) : List D → Option D
  | [a0, a1] => ref35_has n a0 a1
  | _ => none
def ref35_below_l3 (r_ref35_below : List D → Option D) (n : Nat) (ls : List D) : Option (List D ⊕ (List D ⊕ D)) :=
 obind (lenP (pd ls 2)) fun v14 =>
 obind (binP false .lss (pd ls 3) v14) fun v15 =>
 oif v15 (
 obind (
 obind (ixP 1 (pd ls 2) (pd ls 3)) fun c21 =>
 obind (atP false 1 0 c21) fun v22 =>
 obind (ref35_hasL n [(pd ls 1), v22]) fun v23 =>
 obind (unP .not v23) fun v24 =>
 obind (
 oif v24 (
 obind (ixP 1 (pd ls 2) (pd ls 3)) fun c28 =>
 obind (atP false 1 0 c28) fun v29 =>
 obind (ixP 5 (pd ls 0) v29) fun c30 =>
 obind (atP true 4 1 c30) fun v32 =>
 obind (ixP 1 (pd ls 2) (pd ls 3)) fun c39 =>
 obind (atP false 1 0 c39) fun v40 =>
 obind (elP (pd ls 1)) fun q36 =>
 og (decide (q36.1 = 1 ∨ q36.2 = []) && decide (0 < 1)) <|
 og (roomP ((([] : List (List D))).length + (q36.2).length) 8) <|
 og (oneP v40) <|
 og (roomP (((([] : List (List D)) ++ q36.2)).length + ([[v40]]).length) 8) <|
 obind (r_ref35_below [v32, (pd ls 0), (D.sl 1 ((([] : List (List D)) ++ q36.2) ++ [[v40]]))]) fun v43 =>
 some (.inl [(pd ls 0), v43, (pd ls 2), (pd ls 3)])
) (
 some (.inl [(pd ls 0), (pd ls 1), (pd ls 2), (pd ls 3)])
)
) <| jnX fun ls =>
 some (.inl [(pd ls 0), (pd ls 1), (pd ls 2), (pd ls 3)])
) <| jnX fun ls =>
 obind (binP false .add (pd ls 3) (eI 1)) fun v17 =>
 some (.inl [(pd ls 0), (pd ls 1), (pd ls 2), v17])
) (
 inrX (
 some (.inl [(pd ls 1)])
)
)

def ref35_below (r_ref35_below : List D → Option D) (n : Nat) (a0 : D) (a1 : D) (a2 : D) : Option D :=
 og (aggP 4 a0) <|
 obind (ref35_directL n [(D.agg [(celD a0 0), (celD a0 1), (celD a0 2), (celD a0 3)]), a1]) fun v11 =>
 obind (
 iterL (ref35_below_l3 r_ref35_below n) n [a1, a2, v11, (eI 0)]
) <| jnX fun ls =>
 some (pd ls 0)

def ref35_belowL : Nat → List D → Option D
  | 0, _ => none
  | n + 1, ds => match ds with
    | [a0, a1, a2] => ref35_below (ref35_belowL n) n a0 a1 a2
    | _ => none
def ref35_Ringed (n : Nat) (a0 : D) (a1 : D) : Option D :=
 obind (ixP 5 a0 a1) fun c7 =>
 obind (atP true 4 1 c7) fun v9 =>
 obind (ref35_belowL n [v9, a0, (D.val (.slice none 0 0))]) fun v11 =>
 obind (ref35_hasL n [v11, a1]) fun v13 =>
 some v13

def ref35_RingedL (n : Nat) : List D → Option D
  | [a0, a1] => ref35_Ringed n a0 a1
  | _ => none
def ref35_put_l13 (r_ref35_put : List D → Option D) (n : Nat) (ls : List D) : Option (List D ⊕ (List D ⊕ D)) :=
 obind (lenP (pd ls 7)) fun v57 =>
 obind (binP false .lss (pd ls 3) v57) fun v58 =>
 oif v58 (
 obind (ixP 4 (pd ls 7) (pd ls 3)) fun c65 =>
 obind (atP true 4 0 c65) fun v66 =>
 obind (binP false .add (pd ls 1) (eI 1)) fun v69 =>
 obind (r_ref35_put [v66, (pd ls 0), v69, (pd ls 2)]) fun v71 =>
 obind (extP 0 v71) fun v72 =>
 obind (extP 1 v71) fun v73 =>
 obind (extP 2 v71) fun v74 =>
 og (aggP 4 v72) <|
 obind (binP false .neq v74 (eI 0)) fun v76 =>
 oif v76 (
 inrX (
 inrX (
 some (D.tup [(D.agg [(eI 0), (eI 0), (eS ⟨#[]⟩), (D.val (.slice none 0 0))]), v73, v74])
)
)
) (
 og (aggP 4 (D.agg [(celD v72 0), (celD v72 1), (celD v72 2), (celD v72 3)])) <|
 og (roomP (((esD (pd ls 12))).length + ([[(celD v72 0), (celD v72 1), (celD v72 2), (celD v72 3)]]).length) 56) <|
 obind (binP false .add (pd ls 3) (eI 1)) fun v60 =>
 some (.inl [(pd ls 0), (pd ls 1), v73, v60, (pd ls 4), (pd ls 5), (pd ls 6), (pd ls 7), (pd ls 8), (pd ls 9), (pd ls 10), (pd ls 11), (D.sl 4 ((esD (pd ls 12)) ++ [[(celD v72 0), (celD v72 1), (celD v72 2), (celD v72 3)]]))])
)
) (
 inrX (
 some (.inl [(pd ls 2), (pd ls 4), (pd ls 5), (pd ls 6), (pd ls 7), (pd ls 8), (pd ls 9), (pd ls 10), (pd ls 11), (D.sl 4 (esD (pd ls 12)))])
)
)

def ref35_put (r_ref35_put : List D → Option D) (n : Nat) (a0 : D) (a1 : D) (a2 : D) (a3 : D) : Option D :=
 og (aggP 4 a0) <|
 obind (binP false .eql (celD a0 0) (eI 3)) fun v20 =>
 obind (
 oif v20 (
 obind (ref35_IndexL n [a1, (celD a0 2)]) fun v24 =>
 obind (binP false .geq v24 (eI 0)) fun v26 =>
 oif v26 (
 obind (ixP 5 a1 v24) fun c29 =>
 obind (atP true 4 1 c29) fun v31 =>
 obind (r_ref35_put [v31, a1, a2, a3]) fun v35 =>
 obind (extP 0 v35) fun v36 =>
 obind (extP 1 v35) fun v37 =>
 obind (extP 2 v35) fun v38 =>
 og (aggP 4 v36) <|
 inrX (
 some (D.tup [(D.agg [(celD v36 0), (celD v36 1), (celD v36 2), (celD v36 3)]), v37, v38])
)
) (
 some (.inl [a1, a2, a3, (celD a0 0), (celD a0 1), (celD a0 2), (celD a0 3), (eI 0), (eI 0), (eS ⟨#[]⟩), (D.val (.slice none 0 0))])
)
) (
 some (.inl [a1, a2, a3, (celD a0 0), (celD a0 1), (celD a0 2), (celD a0 3), (eI 0), (eI 0), (eS ⟨#[]⟩), (D.val (.slice none 0 0))])
)
) <| jnX fun ls =>
 obind (binP false .add (pd ls 2) (eI 1)) fun v40 =>
 obind (ref30_PartL n [(D.agg [(pd ls 3), (pd ls 4), (pd ls 5), (pd ls 6)]), (pd ls 1)]) fun v43 =>
 obind (binP false .neq v43 (eI 0)) fun v45 =>
 oif v45 (
 some (D.tup [(D.agg [(eI 0), (eI 0), (eS ⟨#[]⟩), (D.val (.slice none 0 0))]), v40, v43])
) (
 obind (binP false .gtr v40 (eI 4096)) fun v50 =>
 oif v50 (
 some (D.tup [(D.agg [(eI 0), (eI 0), (eS ⟨#[]⟩), (D.val (.slice none 0 0))]), v40, (eI 4)])
) (
 obind (
 iterL (ref35_put_l13 r_ref35_put n) n [(pd ls 0), (pd ls 1), v40, (eI 0), (pd ls 3), (pd ls 4), (pd ls 5), (pd ls 6), (pd ls 7), (pd ls 8), (pd ls 9), (pd ls 10), (D.sl 4 ([] : List (List D)))]
) <| jnX fun ls =>
 og (oneP (pd ls 1)) <|
 og (oneP (pd ls 2)) <|
 og (oneP (pd ls 3)) <|
 some (D.tup [(D.agg [(pd ls 1), (pd ls 2), (pd ls 3), (D.sl 4 (esD (pd ls 9)))]), (pd ls 0), (eI 0)])
)
)

def ref35_putL : Nat → List D → Option D
  | 0, _ => none
  | n + 1, ds => match ds with
    | [a0, a1, a2, a3] => ref35_put (ref35_putL n) n a0 a1 a2 a3
    | _ => none
def ref35_Inline_l6 (n : Nat) (ls : List D) : Option (List D ⊕ (List D ⊕ D)) :=
 obind (lenP (pd ls 1)) fun v23 =>
 obind (binP false .lss (pd ls 2) v23) fun v24 =>
 oif v24 (
 obind (ixP 1 (pd ls 1) (pd ls 2)) fun c30 =>
 obind (atP false 1 0 c30) fun v31 =>
 obind (ref35_RingedL n [(pd ls 0), v31]) fun v32 =>
 oif v32 (
 inrX (
 inrX (
 some (D.tup [(D.agg [(eI 0), (eI 0), (eS ⟨#[]⟩), (D.val (.slice none 0 0))]), (eI 14)])
)
)
) (
 obind (binP false .add (pd ls 2) (eI 1)) fun v26 =>
 some (.inl [(pd ls 0), (pd ls 1), v26, (pd ls 3), (pd ls 4), (pd ls 5), (pd ls 6), (pd ls 7), (pd ls 8), (pd ls 9), (pd ls 10)])
)
) (
 inrX (
 some (.inl [(pd ls 0), (pd ls 3), (pd ls 4), (pd ls 5), (pd ls 6), (pd ls 7), (pd ls 8), (pd ls 9), (pd ls 10)])
)
)

def ref35_Inline (n : Nat) (a0 : D) (a1 : D) : Option D :=
 og (aggP 4 a0) <|
 obind (ref30_CheckL n [(D.agg [(celD a0 0), (celD a0 1), (celD a0 2), (celD a0 3)])]) fun v13 =>
 obind (binP false .neq v13 (eI 0)) fun v15 =>
 oif v15 (
 some (D.tup [(D.agg [(eI 0), (eI 0), (eS ⟨#[]⟩), (D.val (.slice none 0 0))]), v13])
) (
 obind (ref35_belowL n [(D.agg [(celD a0 0), (celD a0 1), (celD a0 2), (celD a0 3)]), a1, (D.val (.slice none 0 0))]) fun v20 =>
 obind (
 iterL (ref35_Inline_l6 n) n [a1, v20, (eI 0), (celD a0 0), (celD a0 1), (celD a0 2), (celD a0 3), (eI 0), (eI 0), (eS ⟨#[]⟩), (D.val (.slice none 0 0))]
) <| jnX fun ls =>
 obind (ref35_putL n [(D.agg [(pd ls 1), (pd ls 2), (pd ls 3), (pd ls 4)]), (pd ls 0), (eI 1), (eI 0)]) fun v37 =>
 obind (extP 0 v37) fun v38 =>
 obind (extP 1 v37) fun v39 =>
 obind (extP 2 v37) fun v40 =>
 og (aggP 4 v38) <|
 og (aggP 4 (D.agg [(celD v38 0), (celD v38 1), (celD v38 2), (celD v38 3)])) <|
 some (D.tup [(D.agg [(celD v38 0), (celD v38 1), (celD v38 2), (celD v38 3)]), v40])
)

def ref35_InlineL (n : Nat) : List D → Option D
  | [a0, a1] => ref35_Inline n a0 a1
  | _ => none
def ref30_numbers (n : Nat) (a0 : D) (a1 : D) : Option D :=
 obind (unP .neg (eI 1048576)) fun v9 =>
 obind (binP false .lss a0 v9) fun v10 =>
 obind (gD v10 false (
 obind (binP false .gtr a0 (eI 1048576)) fun v14 =>
 some v14
)) fun v14 =>
 obind (pickP v10 (eB true) v14) fun v15 =>
 obind (gD v15 false (
 obind (unP .neg (eI 1048576)) fun v19 =>
 obind (binP false .lss a1 v19) fun v20 =>
 some v20
)) fun v20 =>
 obind (pickP v15 (eB true) v20) fun v21 =>
 obind (gD v21 false (
 obind (binP false .gtr a1 (eI 1048576)) fun v25 =>
 some v25
)) fun v25 =>
 obind (pickP v21 (eB true) v25) fun v26 =>
 obind (gD v26 false (
 obind (binP false .lss a1 a0) fun v30 =>
 some v30
)) fun v30 =>
 obind (pickP v26 (eB true) v30) fun v31 =>
 obind (gD v31 false (
 obind (binP false .sub a1 a0) fun v35 =>
 obind (binP false .gtr v35 (eI 4096)) fun v36 =>
 some v36
)) fun v36 =>
 obind (pickP v31 (eB true) v36) fun v37 =>
 oif v37 (
 some (D.tup [(D.agg [(eB false), (eI 0), (eI 0)]), (eI 2)])
) (
 og (oneP a0) <|
 og (oneP a1) <|
 og (aggP 3 (D.agg [(eB false), a0, a1])) <|
 some (D.tup [(D.agg [(eB false), a0, a1]), (eI 0)])
)

def ref30_numbersL (n : Nat) : List D → Option D
  | [a0, a1] => ref30_numbers n a0 a1
  | _ => none
def ref30_Index_l2 (n : Nat) (ls : List D) : Option (List D ⊕ (List D ⊕ D)) :=
 obind (lenP (pd ls 0)) fun v8 =>
 obind (binP false .lss (pd ls 2) v8) fun v9 =>
 oif v9 (
 obind (ixP 4 (pd ls 0) (pd ls 2)) fun c14 =>
 obind (atP false 1 0 c14) fun v16 =>
 obind (binP false .eql v16 (pd ls 1)) fun v18 =>
 oif v18 (
 inrX (
 inrX (
 some (pd ls 2)
)
)
) (
 obind (binP false .add (pd ls 2) (eI 1)) fun v11 =>
 some (.inl [(pd ls 0), (pd ls 1), v11])
)
) (
 inrX (
 some (.inl [])
)
)

def ref30_Index (n : Nat) (a0 : D) (a1 : D) : Option D :=
 obind (
 iterL (ref30_Index_l2 n) n [a0, a1, (eI 0)]
) <| jnX fun ls =>
 some (eI (-1))

def ref30_IndexL (n : Nat) : List D → Option D
  | [a0, a1] => ref30_Index n a0 a1
  | _ => none
def ref30_truths_l2 (n : Nat) (ls : List D) : Option (List D ⊕ (List D ⊕ D)) :=
 obind (lenP (pd ls 0)) fun v6 =>
 obind (binP false .lss (pd ls 1) v6) fun v7 =>
 oif v7 (
 obind (ixP 3 (pd ls 0) (pd ls 1)) fun c12 =>
 obind (atP false 1 0 c12) fun v14 =>
 obind (unP .not v14) fun v15 =>
 oif v15 (
 inrX (
 inrX (
 some (eB false)
)
)
) (
 obind (binP false .add (pd ls 1) (eI 1)) fun v9 =>
 some (.inl [(pd ls 0), v9])
)
) (
 inrX (
 some (.inl [])
)
)

def ref30_truths (n : Nat) (a0 : D) : Option D :=
 obind (
 iterL (ref30_truths_l2 n) n [a0, (eI 0)]
) <| jnX fun ls =>
 some (eB true)

def ref30_truthsL (n : Nat) : List D → Option D
  | [a0] => ref30_truths n a0
  | _ => none
def ref30_products_l4 (n : Nat) (ls : List D) : Option (List D ⊕ (List D ⊕ D)) :=
 obind (binP false .lss (pd ls 2) (eI 4)) fun v38 =>
 oif v38 (
 obind (numP ((esD (pd ls 3))).length (pd ls 2)) fun j44 =>
 obind (((esD (pd ls 3)))[j44]?) fun e45 =>
 obind (atP false 1 0 e45) fun v45 =>
 obind (mmP false [(pd ls 0), v45]) fun v46 =>
 obind (numP ((esD (pd ls 3))).length (pd ls 2)) fun j50 =>
 obind (((esD (pd ls 3)))[j50]?) fun e51 =>
 obind (atP false 1 0 e51) fun v51 =>
 obind (mmP true [(pd ls 1), v51]) fun v52 =>
 obind (binP false .add (pd ls 2) (eI 1)) fun v40 =>
 some (.inl [v46, v52, v40, (D.sl 1 (esD (pd ls 3)))])
) (
 inrX (
 some (.inl [(pd ls 0), (pd ls 1)])
)
)

def ref30_products (n : Nat) (a0 : D) (a1 : D) : Option D :=
 og (aggP 3 a0) <|
 og (aggP 3 a1) <|
 obind (binP false .mul (celD a0 1) (celD a1 1)) fun v14 =>
 obind (binP false .mul (celD a0 1) (celD a1 2)) fun v19 =>
 obind (binP false .mul (celD a0 2) (celD a1 1)) fun v24 =>
 obind (binP false .mul (celD a0 2) (celD a1 2)) fun v29 =>
 og (oneP v14) <|
 og (oneP v19) <|
 og (oneP v24) <|
 og (oneP v29) <|
 obind (numP ([[v14], [v19], [v24], [v29]]).length (eI 0)) fun j32 =>
 obind (([[v14], [v19], [v24], [v29]])[j32]?) fun e33 =>
 obind (atP false 1 0 e33) fun v33 =>
 obind (numP ([[v14], [v19], [v24], [v29]]).length (eI 0)) fun j35 =>
 obind (([[v14], [v19], [v24], [v29]])[j35]?) fun e36 =>
 obind (atP false 1 0 e36) fun v36 =>
 obind (
 iterL (ref30_products_l4 n) n [v33, v36, (eI 1), (D.sl 1 [[v14], [v19], [v24], [v29]])]
) <| jnX fun ls =>
 some (D.tup [(pd ls 0), (pd ls 1)])

def ref30_productsL (n : Nat) : List D → Option D
  | [a0, a1] => ref30_products n a0 a1
  | _ => none
def ref30_join (n : Nat) (a0 : D) (a1 : D) : Option D :=
 og (aggP 4 a0) <|
 obind (
 obind (binP false .eql (celD a0 0) (eI 5)) fun v14 =>
 obind (
 oif v14 (
 some (.inl [a1, (eI 13), (celD a0 0), v14, (celD a0 0), (celD a0 1), (celD a0 2), (celD a0 3), (eB false), (eI 0), (eI 0), (eB true), (eI 0), (eI 0)])
) (
 obind (binP false .eql (celD a0 0) (eI 6)) fun v15 =>
 obind (
 oif v15 (
 some (.inl [a1, (eI 13), (celD a0 0), v15, (celD a0 0), (celD a0 1), (celD a0 2), (celD a0 3), (eB false), (eI 0), (eI 0), (eB true), (eI 0), (eI 0)])
) (
 obind (binP false .eql (celD a0 0) (eI 7)) fun v16 =>
 obind (
 oif v16 (
 some (.inl [a1, (eI 13), (celD a0 0), v16, (celD a0 0), (celD a0 1), (celD a0 2), (celD a0 3), (eB false), (eI 0), (eI 0), (eB true), (eI 0), (eI 0)])
) (
 obind (binP false .eql (celD a0 0) (eI 8)) fun v17 =>
 obind (
 oif v17 (
 some (.inl [a1, (eI 13), (celD a0 0), v17, (celD a0 0), (celD a0 1), (celD a0 2), (celD a0 3), (eB false), (eI 0), (eI 0), (eB true), (eI 0), (eI 0)])
) (
 obind (binP false .eql (celD a0 0) (eI 9)) fun v18 =>
 some (.inl [a1, (eI 13), (celD a0 0), v18, (celD a0 0), (celD a0 1), (celD a0 2), (celD a0 3), (eB false), (eI 0), (eI 0), (eB true), (eI 0), (eI 0)])
)
) <| jnX fun ls =>
 some (.inl [(pd ls 0), (pd ls 1), (pd ls 2), (pd ls 3), (pd ls 4), (pd ls 5), (pd ls 6), (pd ls 7), (pd ls 8), (pd ls 9), (pd ls 10), (pd ls 11), (pd ls 12), (pd ls 13)])
)
) <| jnX fun ls =>
 some (.inl [(pd ls 0), (pd ls 1), (pd ls 2), (pd ls 3), (pd ls 4), (pd ls 5), (pd ls 6), (pd ls 7), (pd ls 8), (pd ls 9), (pd ls 10), (pd ls 11), (pd ls 12), (pd ls 13)])
)
) <| jnX fun ls =>
 some (.inl [(pd ls 0), (pd ls 1), (pd ls 2), (pd ls 3), (pd ls 4), (pd ls 5), (pd ls 6), (pd ls 7), (pd ls 8), (pd ls 9), (pd ls 10), (pd ls 11), (pd ls 12), (pd ls 13)])
)
) <| jnX fun ls =>
 oif (pd ls 3) (
 obind (ref30_truthsL n [(pd ls 0)]) fun v20 =>
 obind (unP .not v20) fun v21 =>
 oif v21 (
 inrX (
 some (D.tup [(D.agg [(eB false), (eI 0), (eI 0)]), (pd ls 1)])
)
) (
 og (aggP 3 (D.agg [(pd ls 11), (pd ls 12), (pd ls 13)])) <|
 inrX (
 some (D.tup [(D.agg [(pd ls 11), (pd ls 12), (pd ls 13)]), (eI 0)])
)
)
) (
 obind (binP false .eql (pd ls 2) (eI 10)) fun v26 =>
 obind (
 oif v26 (
 some (.inl [(pd ls 0), (pd ls 1), (pd ls 2), v26, (pd ls 4), (pd ls 5), (pd ls 6), (pd ls 7), (pd ls 8), (pd ls 9), (pd ls 10), (pd ls 11), (pd ls 12), (pd ls 13)])
) (
 obind (binP false .eql (pd ls 2) (eI 11)) fun v27 =>
 some (.inl [(pd ls 0), (pd ls 1), (pd ls 2), v27, (pd ls 4), (pd ls 5), (pd ls 6), (pd ls 7), (pd ls 8), (pd ls 9), (pd ls 10), (pd ls 11), (pd ls 12), (pd ls 13)])
)
) <| jnX fun ls =>
 oif (pd ls 3) (
 obind (ixP 3 (pd ls 0) (eI 0)) fun c29 =>
 obind (atP false 1 0 c29) fun v31 =>
 obind (ixP 3 (pd ls 0) (eI 1)) fun c33 =>
 obind (atP false 1 0 c33) fun v35 =>
 obind (binP true .neq v31 v35) fun v36 =>
 oif v36 (
 inrX (
 some (D.tup [(D.agg [(eB false), (eI 0), (eI 0)]), (pd ls 1)])
)
) (
 og (aggP 3 (D.agg [(pd ls 11), (pd ls 12), (pd ls 13)])) <|
 inrX (
 some (D.tup [(D.agg [(pd ls 11), (pd ls 12), (pd ls 13)]), (eI 0)])
)
)
) (
 obind (binP false .eql (pd ls 2) (eI 18)) fun v41 =>
 oif v41 (
 obind (ixP 3 (pd ls 0) (eI 0)) fun c43 =>
 obind (atP false 1 0 c43) fun v45 =>
 obind (unP .not v45) fun v46 =>
 obind (gD v46 false (
 obind (ixP 3 (pd ls 0) (eI 1)) fun c49 =>
 obind (atP false 1 0 c49) fun v51 =>
 obind (ixP 3 (pd ls 0) (eI 2)) fun c53 =>
 obind (atP false 1 0 c53) fun v55 =>
 obind (binP true .neq v51 v55) fun v56 =>
 some v56
)) fun v56 =>
 obind (pickP v46 (eB true) v56) fun v57 =>
 oif v57 (
 inrX (
 some (D.tup [(D.agg [(eB false), (eI 0), (eI 0)]), (pd ls 1)])
)
) (
 obind (ixP 3 (pd ls 0) (eI 1)) fun c61 =>
 obind (atP false 1 0 c61) fun v63 =>
 oif v63 (
 og (aggP 3 (D.agg [(pd ls 11), (pd ls 12), (pd ls 13)])) <|
 inrX (
 some (D.tup [(D.agg [(pd ls 11), (pd ls 12), (pd ls 13)]), (eI 0)])
)
) (
 obind (ixP 3 (pd ls 0) (eI 1)) fun c66 =>
 obind (atP false 1 1 c66) fun v68 =>
 obind (ixP 3 (pd ls 0) (eI 2)) fun c70 =>
 obind (atP false 1 1 c70) fun v72 =>
 obind (mmP false [v68, v72]) fun v73 =>
 obind (ixP 3 (pd ls 0) (eI 1)) fun c75 =>
 obind (atP false 1 2 c75) fun v77 =>
 obind (ixP 3 (pd ls 0) (eI 2)) fun c79 =>
 obind (atP false 1 2 c79) fun v81 =>
 obind (mmP true [v77, v81]) fun v82 =>
 obind (ref30_numbersL n [v73, v82]) fun v83 =>
 obind (extP 0 v83) fun v84 =>
 obind (extP 1 v83) fun v85 =>
 og (aggP 3 v84) <|
 inrX (
 some (D.tup [(D.agg [(celD v84 0), (celD v84 1), (celD v84 2)]), v85])
)
)
)
) (
 some (.inl [(pd ls 0), (pd ls 1), (pd ls 4), (pd ls 5), (pd ls 6), (pd ls 7), (pd ls 8), (pd ls 9), (pd ls 10), (pd ls 11), (pd ls 12), (pd ls 13)])
)
)
)
) <| jnX fun ls =>
 obind (ixP 3 (pd ls 0) (eI 0)) fun c87 =>
 obind (atP false 1 0 c87) fun v89 =>
 obind (gD v89 false (
 obind (ixP 3 (pd ls 0) (eI 1)) fun c92 =>
 obind (atP false 1 0 c92) fun v94 =>
 some v94
)) fun v94 =>
 obind (pickP v89 (eB true) v94) fun v95 =>
 oif v95 (
 some (D.tup [(D.agg [(eB false), (eI 0), (eI 0)]), (pd ls 1)])
) (
 obind (binP false .eql (pd ls 2) (eI 14)) fun v101 =>
 oif v101 (
 obind (ixP 3 (pd ls 0) (eI 0)) fun c103 =>
 obind (atP false 1 1 c103) fun v105 =>
 obind (ixP 3 (pd ls 0) (eI 1)) fun c107 =>
 obind (atP false 1 1 c107) fun v109 =>
 obind (binP false .add v105 v109) fun v110 =>
 obind (ixP 3 (pd ls 0) (eI 0)) fun c112 =>
 obind (atP false 1 2 c112) fun v114 =>
 obind (ixP 3 (pd ls 0) (eI 1)) fun c116 =>
 obind (atP false 1 2 c116) fun v118 =>
 obind (binP false .add v114 v118) fun v119 =>
 obind (ref30_numbersL n [v110, v119]) fun v120 =>
 obind (extP 0 v120) fun v121 =>
 obind (extP 1 v120) fun v122 =>
 og (aggP 3 v121) <|
 some (D.tup [(D.agg [(celD v121 0), (celD v121 1), (celD v121 2)]), v122])
) (
 obind (binP false .eql (pd ls 2) (eI 15)) fun v124 =>
 oif v124 (
 obind (ixP 3 (pd ls 0) (eI 0)) fun c126 =>
 obind (atP false 1 1 c126) fun v128 =>
 obind (ixP 3 (pd ls 0) (eI 1)) fun c130 =>
 obind (atP false 1 2 c130) fun v132 =>
 obind (binP false .sub v128 v132) fun v133 =>
 obind (ixP 3 (pd ls 0) (eI 0)) fun c135 =>
 obind (atP false 1 2 c135) fun v137 =>
 obind (ixP 3 (pd ls 0) (eI 1)) fun c139 =>
 obind (atP false 1 1 c139) fun v141 =>
 obind (binP false .sub v137 v141) fun v142 =>
 obind (ref30_numbersL n [v133, v142]) fun v143 =>
 obind (extP 0 v143) fun v144 =>
 obind (extP 1 v143) fun v145 =>
 og (aggP 3 v144) <|
 some (D.tup [(D.agg [(celD v144 0), (celD v144 1), (celD v144 2)]), v145])
) (
 obind (binP false .eql (pd ls 2) (eI 16)) fun v147 =>
 oif v147 (
 obind (ixP 3 (pd ls 0) (eI 0)) fun c150 =>
 obind (atP true 3 0 c150) fun v151 =>
 obind (ixP 3 (pd ls 0) (eI 1)) fun c153 =>
 obind (atP true 3 0 c153) fun v154 =>
 obind (ref30_productsL n [v151, v154]) fun v155 =>
 obind (extP 0 v155) fun v156 =>
 obind (extP 1 v155) fun v157 =>
 obind (ref30_numbersL n [v156, v157]) fun v160 =>
 obind (extP 0 v160) fun v161 =>
 obind (extP 1 v160) fun v162 =>
 og (aggP 3 v161) <|
 some (D.tup [(D.agg [(celD v161 0), (celD v161 1), (celD v161 2)]), v162])
) (
 obind (binP false .eql (pd ls 2) (eI 17)) fun v164 =>
 oif v164 (
 obind (ixP 4 (pd ls 5) (eI 1)) fun c167 =>
 obind (atP false 1 0 c167) fun v169 =>
 obind (binP false .neq v169 (eI 1)) fun v170 =>
 obind (gD v170 false (
 obind (ixP 4 (pd ls 5) (eI 1)) fun c174 =>
 obind (atP false 1 1 c174) fun v176 =>
 obind (binP false .lss v176 (eI 1)) fun v177 =>
 some v177
)) fun v177 =>
 obind (pickP v170 (eB true) v177) fun v178 =>
 oif v178 (
 some (D.tup [(D.agg [(eB false), (eI 0), (eI 0)]), (eI 2)])
) (
 obind (ixP 4 (pd ls 5) (eI 1)) fun c182 =>
 obind (atP false 1 1 c182) fun v184 =>
 obind (binP false .sub v184 (eI 1)) fun v185 =>
 obind (ref30_numbersL n [(eI 0), v185]) fun v186 =>
 obind (extP 0 v186) fun v187 =>
 obind (extP 1 v186) fun v188 =>
 og (aggP 3 v187) <|
 some (D.tup [(D.agg [(celD v187 0), (celD v187 1), (celD v187 2)]), v188])
)
) (
 og (aggP 3 (D.agg [(pd ls 9), (pd ls 10), (pd ls 11)])) <|
 some (D.tup [(D.agg [(pd ls 9), (pd ls 10), (pd ls 11)]), (eI 0)])
)
)
)
)
)

def ref30_joinL (n : Nat) : List D → Option D
  | [a0, a1] => ref30_join n a0 a1
  | _ => none
def ref30_typed_l18 (r_ref30_typed : List D → Option D) (n : Nat) (ls : List D) : Option (List D ⊕ (List D ⊕ D)) :=
 obind (lenP (pd ls 6)) fun v68 =>
 obind (binP false .lss (pd ls 2) v68) fun v69 =>
 oif v69 (
 obind (ixP 4 (pd ls 6) (pd ls 2)) fun c77 =>
 obind (atP true 4 0 c77) fun v78 =>
 obind (r_ref30_typed [(pd ls 0), v78, (pd ls 1)]) fun v80 =>
 obind (extP 0 v80) fun v81 =>
 obind (extP 1 v80) fun v82 =>
 og (aggP 3 v81) <|
 obind (binP false .neq v82 (eI 0)) fun v84 =>
 oif v84 (
 inrX (
 inrX (
 some (D.tup [(D.agg [(eB false), (eI 0), (eI 0)]), v82])
)
)
) (
 og (aggP 3 (D.agg [(celD v81 0), (celD v81 1), (celD v81 2)])) <|
 og (roomP (((esD (pd ls 10))).length + ([[(celD v81 0), (celD v81 1), (celD v81 2)]]).length) 24) <|
 obind (binP false .add (pd ls 2) (eI 1)) fun v71 =>
 some (.inl [(pd ls 0), (pd ls 1), v71, (pd ls 3), (pd ls 4), (pd ls 5), (pd ls 6), (pd ls 7), (pd ls 8), (pd ls 9), (D.sl 3 ((esD (pd ls 10)) ++ [[(celD v81 0), (celD v81 1), (celD v81 2)]]))])
)
) (
 inrX (
 some (.inl [(pd ls 3), (pd ls 4), (pd ls 5), (pd ls 6), (pd ls 7), (pd ls 8), (pd ls 9), (D.sl 3 (esD (pd ls 10)))])
)
)

def ref30_typed (r_ref30_typed : List D → Option D) (n : Nat) (a0 : D) (a1 : D) (a2 : D) : Option D :=
 og (aggP 4 a1) <|
 obind (binP false .eql (celD a1 0) (eI 1)) fun v16 =>
 oif v16 (
 obind (ref30_numbersL n [(celD a1 1), (celD a1 1)]) fun v21 =>
 obind (extP 0 v21) fun v22 =>
 obind (extP 1 v21) fun v23 =>
 og (aggP 3 v22) <|
 some (D.tup [(D.agg [(celD v22 0), (celD v22 1), (celD v22 2)]), v23])
) (
 obind (binP false .eql (celD a1 0) (eI 2)) fun v25 =>
 oif v25 (
 some (D.tup [(D.agg [(eB true), (eI 0), (eI 0)]), (eI 0)])
) (
 obind (binP false .eql (celD a1 0) (eI 3)) fun v28 =>
 obind (
 oif v28 (
 some (.inl [a0, a2, v28, (celD a1 0), (celD a1 1), (celD a1 2), (celD a1 3), (eB false), (eI 0), (eI 0)])
) (
 obind (binP false .eql (celD a1 0) (eI 4)) fun v29 =>
 some (.inl [a0, a2, v29, (celD a1 0), (celD a1 1), (celD a1 2), (celD a1 3), (eB false), (eI 0), (eI 0)])
)
) <| jnX fun ls =>
 oif (pd ls 2) (
 obind (ref30_IndexL n [(pd ls 0), (pd ls 5)]) fun v33 =>
 obind (binP false .lss v33 (eI 0)) fun v35 =>
 oif v35 (
 some (D.tup [(D.agg [(eB false), (eI 0), (eI 0)]), (eI 12)])
) (
 obind (binP false .eql (pd ls 3) (eI 4)) fun v39 =>
 obind (gD v39 true (
 obind (unP .not (pd ls 1)) fun v42 =>
 some v42
)) fun v42 =>
 obind (pickP v39 v42 (eB false)) fun v43 =>
 oif v43 (
 some (D.tup [(D.agg [(eB false), (eI 0), (eI 0)]), (eI 24)])
) (
 obind (ixP 4 (pd ls 0) v33) fun c47 =>
 obind (atP false 1 1 c47) fun v49 =>
 oif v49 (
 some (D.tup [(D.agg [(eB true), (eI 0), (eI 0)]), (eI 0)])
) (
 obind (ixP 4 (pd ls 0) v33) fun c53 =>
 obind (atP false 1 2 c53) fun v55 =>
 obind (ixP 4 (pd ls 0) v33) fun c58 =>
 obind (atP false 1 3 c58) fun v60 =>
 obind (ref30_numbersL n [v55, v60]) fun v61 =>
 obind (extP 0 v61) fun v62 =>
 obind (extP 1 v61) fun v63 =>
 og (aggP 3 v62) <|
 some (D.tup [(D.agg [(celD v62 0), (celD v62 1), (celD v62 2)]), v63])
)
)
)
) (
 obind (
 iterL (ref30_typed_l18 r_ref30_typed n) n [(pd ls 0), (pd ls 1), (eI 0), (pd ls 3), (pd ls 4), (pd ls 5), (pd ls 6), (pd ls 7), (pd ls 8), (pd ls 9), (D.sl 3 ([] : List (List D)))]
) <| jnX fun ls =>
 obind (ref30_joinL n [(D.agg [(pd ls 0), (pd ls 1), (pd ls 2), (pd ls 3)]), (D.sl 3 (esD (pd ls 7)))]) fun v93 =>
 og v93.flat <|
 obind (extP 0 v93) fun v94 =>
 obind (extP 1 v93) fun v95 =>
 og (aggP 3 v94) <|
 some (D.tup [(D.agg [(celD v94 0), (celD v94 1), (celD v94 2)]), v95])
)
)
)

def ref30_typedL : Nat → List D → Option D
  | 0, _ => none
  | n + 1, ds => match ds with
    | [a0, a1, a2] => ref30_typed (ref30_typedL n) n a0 a1 a2
    | _ => none
def ref30_Type (n : Nat) (a0 : D) (a1 : D) (a2 : D) : Option D :=
 og (aggP 4 a1) <|
 obind (ref30_CheckL n [(D.agg [(celD a1 0), (celD a1 1), (celD a1 2), (celD a1 3)])]) fun v10 =>
 obind (binP false .neq v10 (eI 0)) fun v12 =>
 oif v12 (
 some (D.tup [(D.agg [(eB false), (eI 0), (eI 0)]), v10])
) (
 obind (ref30_typedL n [a0, (D.agg [(celD a1 0), (celD a1 1), (celD a1 2), (celD a1 3)]), a2]) fun v18 =>
 obind (extP 0 v18) fun v19 =>
 obind (extP 1 v18) fun v20 =>
 og (aggP 3 v19) <|
 some (D.tup [(D.agg [(celD v19 0), (celD v19 1), (celD v19 2)]), v20])
)

def ref30_TypeL (n : Nat) : List D → Option D
  | [a0, a1, a2] => ref30_Type n a0 a1 a2
  | _ => none
def ref36_States_l3 (n : Nat) (ls : List D) : Option (List D ⊕ (List D ⊕ D)) :=
 obind (lenP (pd ls 2)) fun v10 =>
 obind (binP false .lss (pd ls 1) v10) fun v11 =>
 oif v11 (
 obind (ixP 4 (pd ls 2) (pd ls 1)) fun c17 =>
 obind (atP true 4 0 c17) fun v18 =>
 obind (ref36_SpanL n [v18]) fun v19 =>
 obind (binP false .eql v19 (eI 0)) fun v20 =>
 oif v20 (
 inrX (
 inrX (
 some (D.tup [(eI 0), (eB true)])
)
)
) (
 obind (binP false .add (pd ls 1) (eI 1)) fun v13 =>
 some (.inl [(pd ls 0), v13, (pd ls 2), (pd ls 3), (pd ls 4), (pd ls 5), (pd ls 6), (pd ls 7), (pd ls 8), (pd ls 9)])
)
) (
 inrX (
 some (.inl [(pd ls 0), (pd ls 2), (pd ls 3), (pd ls 4), (pd ls 5), (pd ls 6), (pd ls 7), (pd ls 8), (pd ls 9)])
)
)

def ref36_States_l8 (n : Nat) (ls : List D) : Option (List D ⊕ (List D ⊕ D)) :=
 obind (lenP (pd ls 2)) fun v24 =>
 obind (binP false .lss (pd ls 1) v24) fun v25 =>
 oif v25 (
 obind (ixP 4 (pd ls 2) (pd ls 1)) fun c32 =>
 obind (atP true 4 0 c32) fun v33 =>
 obind (ref36_SpanL n [v33]) fun v34 =>
 obind (binP false .mul (pd ls 0) v34) fun v35 =>
 obind (binP false .gtr v35 (eI 1073741824)) fun v37 =>
 oif v37 (
 inrX (
 inrX (
 some (D.tup [(eI 0), (eB false)])
)
)
) (
 obind (binP false .add (pd ls 1) (eI 1)) fun v27 =>
 some (.inl [v35, v27, (pd ls 2), (pd ls 3), (pd ls 4), (pd ls 5), (pd ls 6), (pd ls 7), (pd ls 8), (pd ls 9)])
)
) (
 inrX (
 some (.inl [(pd ls 0)])
)
)

def ref36_States (n : Nat) (a0 : D) : Option D :=
 og (aggP 8 a0) <|
 obind (
 iterL (ref36_States_l3 n) n [(eI 1), (eI 0), (celD a0 0), (celD a0 1), (celD a0 2), (celD a0 3), (celD a0 4), (celD a0 5), (celD a0 6), (celD a0 7)]
) <| jnX fun ls =>
 obind (
 iterL (ref36_States_l8 n) n [(pd ls 0), (eI 0), (pd ls 1), (pd ls 2), (pd ls 3), (pd ls 4), (pd ls 5), (pd ls 6), (pd ls 7), (pd ls 8)]
) <| jnX fun ls =>
 some (D.tup [(pd ls 0), (eB true)])

def ref36_StatesL (n : Nat) : List D → Option D
  | [a0] => ref36_States n a0
  | _ => none
def ref36_All_l16 (n : Nat) (ls : List D) : Option (List D ⊕ (List D ⊕ (List D ⊕ (List D ⊕ (List D ⊕ (List D ⊕ (List D ⊕ (List D ⊕ D)))))))) :=
 obind (ixP 4 (pd ls 4) (pd ls 0)) fun c57 =>
 obind (atP true 4 0 c57) fun v58 =>
 obind (ref36_SpanL n [v58]) fun v59 =>
 obind (binP false .lss (pd ls 3) v59) fun v60 =>
 oif v60 (
 obind (numP ((esD (pd ls 12))).length (pd ls 2)) fun j67 =>
 obind (((esD (pd ls 12)))[j67]?) fun e68 =>
 obind (atP false 1 0 e68) fun v68 =>
 obind (elP v68) fun q69 =>
 og (decide (q69.1 = 1 ∨ q69.2 = []) && decide (0 < 1)) <|
 og (roomP ((([] : List (List D))).length + (q69.2).length) 8) <|
 obind (binP false .add (pd ls 1) (pd ls 3)) fun v72 =>
 og (oneP v72) <|
 og (roomP (((([] : List (List D)) ++ q69.2)).length + ([[v72]]).length) 8) <|
 og (oneP (D.sl 1 ((([] : List (List D)) ++ q69.2) ++ [[v72]]))) <|
 og (roomP (((esD (pd ls 13))).length + ([[(D.sl 1 ((([] : List (List D)) ++ q69.2) ++ [[v72]]))]]).length) 24) <|
 obind (binP false .add (pd ls 3) (eI 1)) fun v62 =>
 some (.inl [(pd ls 0), (pd ls 1), (pd ls 2), v62, (pd ls 4), (pd ls 5), (pd ls 6), (pd ls 7), (pd ls 8), (pd ls 9), (pd ls 10), (pd ls 11), (D.sl 1 (esD (pd ls 12))), (D.sl 1 ((esD (pd ls 13)) ++ [[(D.sl 1 ((([] : List (List D)) ++ q69.2) ++ [[v72]]))]]))])
) (
 inrX (
 some (.inl [(pd ls 0), (pd ls 1), (pd ls 2), (pd ls 4), (pd ls 5), (pd ls 6), (pd ls 7), (pd ls 8), (pd ls 9), (pd ls 10), (pd ls 11), (D.sl 1 (esD (pd ls 12))), (D.sl 1 (esD (pd ls 13)))])
)
)

def ref36_All_l13 (n : Nat) (ls : List D) : Option (List D ⊕ (List D ⊕ (List D ⊕ (List D ⊕ (List D ⊕ D))))) :=
 obind (binP false .lss (pd ls 2) (eI ((esD (pd ls 11))).length)) fun v50 =>
 oif v50 (
 obind (
 obind (
 iterL (ref36_All_l16 n) n [(pd ls 0), (pd ls 1), (pd ls 2), (eI 0), (pd ls 3), (pd ls 4), (pd ls 5), (pd ls 6), (pd ls 7), (pd ls 8), (pd ls 9), (pd ls 10), (D.sl 1 (esD (pd ls 11))), (D.sl 1 (esD (pd ls 12)))]
) <| jnX fun ls =>
 some (.inl [(pd ls 0), (pd ls 1), (pd ls 2), (pd ls 3), (pd ls 4), (pd ls 5), (pd ls 6), (pd ls 7), (pd ls 8), (pd ls 9), (pd ls 10), (D.sl 1 (esD (pd ls 11))), (D.sl 1 (esD (pd ls 12)))])
) <| jnX fun ls =>
 obind (binP false .add (pd ls 2) (eI 1)) fun v52 =>
 some (.inl [(pd ls 0), (pd ls 1), v52, (pd ls 3), (pd ls 4), (pd ls 5), (pd ls 6), (pd ls 7), (pd ls 8), (pd ls 9), (pd ls 10), (D.sl 1 (esD (pd ls 11))), (D.sl 1 (esD (pd ls 12)))])
) (
 inrX (
 some (.inl [(pd ls 0), (pd ls 3), (pd ls 4), (pd ls 5), (pd ls 6), (pd ls 7), (pd ls 8), (pd ls 9), (pd ls 10), (D.sl 1 (esD (pd ls 12)))])
)
)

def ref36_All_l6 (n : Nat) (ls : List D) : Option (List D ⊕ (List D ⊕ D)) :=
 obind (lenP (pd ls 1)) fun v30 =>
 obind (binP false .lss (pd ls 0) v30) fun v31 =>
 oif v31 (
 obind (
 obind (ixP 4 (pd ls 1) (pd ls 0)) fun c37 =>
 obind (atP false 1 2 c37) fun v39 =>
 obind (ixP 4 (pd ls 1) (pd ls 0)) fun c43 =>
 obind (atP false 1 1 c43) fun v45 =>
 obind (
 oif v45 (
 some (.inl [(pd ls 0), (eI 0), (pd ls 1), (pd ls 2), (pd ls 3), (pd ls 4), (pd ls 5), (pd ls 6), (pd ls 7), (pd ls 8), (D.sl 1 (esD (pd ls 9)))])
) (
 some (.inl [(pd ls 0), v39, (pd ls 1), (pd ls 2), (pd ls 3), (pd ls 4), (pd ls 5), (pd ls 6), (pd ls 7), (pd ls 8), (D.sl 1 (esD (pd ls 9)))])
)
) <| jnX fun ls =>
 obind (
 iterL (ref36_All_l13 n) n [(pd ls 0), (pd ls 1), (eI 0), (pd ls 2), (pd ls 3), (pd ls 4), (pd ls 5), (pd ls 6), (pd ls 7), (pd ls 8), (pd ls 9), (D.sl 1 (esD (pd ls 10))), (D.sl 1 ([] : List (List D)))]
) <| jnX fun ls =>
 some (.inl [(pd ls 0), (pd ls 1), (pd ls 2), (pd ls 3), (pd ls 4), (pd ls 5), (pd ls 6), (pd ls 7), (pd ls 8), (D.sl 1 (esD (pd ls 9)))])
) <| jnX fun ls =>
 obind (binP false .add (pd ls 0) (eI 1)) fun v33 =>
 some (.inl [v33, (pd ls 1), (pd ls 2), (pd ls 3), (pd ls 4), (pd ls 5), (pd ls 6), (pd ls 7), (pd ls 8), (D.sl 1 (esD (pd ls 9)))])
) (
 inrX (
 some (.inl [(D.sl 1 (esD (pd ls 9)))])
)
)

def ref36_All (n : Nat) (a0 : D) (a1 : D) : Option D :=
 og (aggP 8 a0) <|
 obind (ref36_StatesL n [(D.agg [(celD a0 0), (celD a0 1), (celD a0 2), (celD a0 3), (celD a0 4), (celD a0 5), (celD a0 6), (celD a0 7)])]) fun v15 =>
 obind (extP 0 v15) fun v16 =>
 obind (extP 1 v15) fun v17 =>
 obind (unP .not v17) fun v19 =>
 obind (gD v19 false (
 obind (binP false .gtr v16 a1) fun v23 =>
 some v23
)) fun v23 =>
 obind (pickP v19 (eB true) v23) fun v24 =>
 oif v24 (
 some (D.val (.slice none 0 0))
) (
 og (oneP (D.sl 1 ([] : List (List D)))) <|
 obind (
 iterL (ref36_All_l6 n) n [(eI 0), (celD a0 0), (celD a0 1), (celD a0 2), (celD a0 3), (celD a0 4), (celD a0 5), (celD a0 6), (celD a0 7), (D.sl 1 [[(D.sl 1 ([] : List (List D)))]])]
) <| jnX fun ls =>
 some (D.sl 1 (esD (pd ls 0)))
)

def ref36_AllL (n : Nat) : List D → Option D
  | [a0, a1] => ref36_All n a0 a1
  | _ => none
def ref30_Steps_l4 (r_ref30_Steps : List D → Option D) (n : Nat) (ls : List D) : Option (List D ⊕ (List D ⊕ D)) :=
 obind (lenP (pd ls 4)) fun v10 =>
 obind (binP false .lss (pd ls 0) v10) fun v11 =>
 oif v11 (
 obind (ixP 4 (pd ls 4) (pd ls 0)) fun c17 =>
 obind (atP true 4 0 c17) fun v18 =>
 obind (r_ref30_Steps [v18]) fun v19 =>
 oif v19 (
 inrX (
 inrX (
 some (eB true)
)
)
) (
 obind (binP false .add (pd ls 0) (eI 1)) fun v13 =>
 some (.inl [v13, (pd ls 1), (pd ls 2), (pd ls 3), (pd ls 4)])
)
) (
 inrX (
 some (.inl [])
)
)

def ref30_Steps (r_ref30_Steps : List D → Option D) (n : Nat) (a0 : D) : Option D :=
 og (aggP 4 a0) <|
 obind (binP false .eql (celD a0 0) (eI 4)) fun v6 =>
 oif v6 (
 some (eB true)
) (
 obind (
 iterL (ref30_Steps_l4 r_ref30_Steps n) n [(eI 0), (celD a0 0), (celD a0 1), (celD a0 2), (celD a0 3)]
) <| jnX fun ls =>
 some (eB false)
)

def ref30_StepsL : Nat → List D → Option D
  | 0, _ => none
  | n + 1, ds => match ds with
    | [a0] => ref30_Steps (ref30_StepsL n) n a0
    | _ => none
def ref30_truth (n : Nat) (a0 : D) : Option D :=
 oif a0 (
 some (eI 1)
) (
 some (eI 0)
)

def ref30_truthL (n : Nat) : List D → Option D
  | [a0] => ref30_truth n a0
  | _ => none
def ref30_far (n : Nat) (a0 : D) : Option D :=
 obind (binP false .lss a0 (eI (-9007199254740992))) fun v4 =>
 obind (gD v4 false (
 obind (binP false .gtr a0 (eI 9007199254740992)) fun v7 =>
 some v7
)) fun v7 =>
 obind (pickP v4 (eB true) v7) fun v8 =>
 some v8

def ref30_farL (n : Nat) : List D → Option D
  | [a0] => ref30_far n a0
  | _ => none
def ref30_size (n : Nat) (a0 : D) : Option D :=
 obind (unP .neg a0) fun v5 =>
 obind (mmP true [a0, v5]) fun v6 =>
 some v6

def ref30_sizeL (n : Nat) : List D → Option D
  | [a0] => ref30_size n a0
  | _ => none
def ref30_value_l18 (r_ref30_value : List D → Option D) (n : Nat) (ls : List D) : Option (List D ⊕ (List D ⊕ D)) :=
 obind (lenP (pd ls 8)) fun v59 =>
 obind (binP false .lss (pd ls 4) v59) fun v60 =>
 oif v60 (
 obind (
 obind (ixP 4 (pd ls 8) (pd ls 4)) fun c68 =>
 obind (atP true 4 0 c68) fun v69 =>
 obind (r_ref30_value [(pd ls 0), v69, (pd ls 1), (pd ls 2)]) fun v72 =>
 obind (extP 0 v72) fun v73 =>
 obind (extP 1 v72) fun v74 =>
 obind (unP .not v74) fun v76 =>
 oif v76 (
 inrX (
 inrX (
 inrX (
 some (D.tup [(eI 0), (eB false)])
)
)
)
) (
 og (oneP v73) <|
 og (roomP (((esD (pd ls 9))).length + ([[v73]]).length) 8) <|
 obind (binP false .eql (pd ls 5) (eI 6)) fun v83 =>
 obind (gD v83 false (
 obind (binP false .eql (pd ls 5) (eI 7)) fun v87 =>
 some v87
)) fun v87 =>
 obind (pickP v83 (eB true) v87) fun v88 =>
 obind (
 oif v88 (
 obind (binP false .add (pd ls 3) v73) fun v91 =>
 some (.inl [(pd ls 0), (pd ls 1), (pd ls 2), v91, (pd ls 4), (pd ls 5), (pd ls 6), (pd ls 7), (pd ls 8), (D.sl 1 ((esD (pd ls 9)) ++ [[v73]]))])
) (
 some (.inl [(pd ls 0), (pd ls 1), (pd ls 2), (pd ls 3), (pd ls 4), (pd ls 5), (pd ls 6), (pd ls 7), (pd ls 8), (D.sl 1 ((esD (pd ls 9)) ++ [[v73]]))])
)
) <| jnX fun ls =>
 some (.inl [(pd ls 0), (pd ls 1), (pd ls 2), (pd ls 3), (pd ls 4), (pd ls 5), (pd ls 6), (pd ls 7), (pd ls 8), (D.sl 1 (esD (pd ls 9)))])
)
) <| jnX fun ls =>
 obind (binP false .add (pd ls 4) (eI 1)) fun v62 =>
 some (.inl [(pd ls 0), (pd ls 1), (pd ls 2), (pd ls 3), v62, (pd ls 5), (pd ls 6), (pd ls 7), (pd ls 8), (D.sl 1 (esD (pd ls 9)))])
) (
 inrX (
 some (.inl [(pd ls 3), (pd ls 5), (pd ls 6), (pd ls 7), (pd ls 8), (D.sl 1 (esD (pd ls 9)))])
)
)

def ref30_value (r_ref30_value : List D → Option D) (n : Nat) (a0 : D) (a1 : D) (a2 : D) (a3 : D) : Option D :=
 og (aggP 4 a1) <|
 obind (binP false .eql (celD a1 0) (eI 1)) fun v21 =>
 obind (
 oif v21 (
 some (.inl [a0, a2, a3, (celD a1 0), v21, (celD a1 0), (celD a1 1), (celD a1 2), (celD a1 3)])
) (
 obind (binP false .eql (celD a1 0) (eI 2)) fun v22 =>
 some (.inl [a0, a2, a3, (celD a1 0), v22, (celD a1 0), (celD a1 1), (celD a1 2), (celD a1 3)])
)
) <| jnX fun ls =>
 oif (pd ls 4) (
 some (D.tup [(pd ls 6), (eB true)])
) (
 obind (binP false .eql (pd ls 3) (eI 3)) fun v26 =>
 obind (
 oif v26 (
 some (.inl [(pd ls 0), (pd ls 1), (pd ls 2), v26, (pd ls 5), (pd ls 6), (pd ls 7), (pd ls 8)])
) (
 obind (binP false .eql (pd ls 3) (eI 4)) fun v27 =>
 some (.inl [(pd ls 0), (pd ls 1), (pd ls 2), v27, (pd ls 5), (pd ls 6), (pd ls 7), (pd ls 8)])
)
) <| jnX fun ls =>
 oif (pd ls 3) (
 obind (ref30_IndexL n [(pd ls 0), (pd ls 6)]) fun v31 =>
 obind (binP false .eql (pd ls 4) (eI 3)) fun v34 =>
 obind (
 oif v34 (
 obind (ixP 1 (pd ls 1) v31) fun c37 =>
 obind (atP false 1 0 c37) fun v38 =>
 some (.inl [(pd ls 0), v31, v38])
) (
 obind (ixP 1 (pd ls 2) v31) fun c41 =>
 obind (atP false 1 0 c41) fun v42 =>
 some (.inl [(pd ls 0), v31, v42])
)
) <| jnX fun ls =>
 obind (ixP 4 (pd ls 0) (pd ls 1)) fun c45 =>
 obind (atP false 1 1 c45) fun v47 =>
 oif v47 (
 obind (binP false .neq (pd ls 2) (eI 0)) fun v49 =>
 obind (ref30_truthL n [v49]) fun v50 =>
 some (D.tup [v50, (eB true)])
) (
 obind (ref30_farL n [(pd ls 2)]) fun v53 =>
 obind (unP .not v53) fun v54 =>
 some (D.tup [(pd ls 2), v54])
)
) (
 obind (
 iterL (ref30_value_l18 r_ref30_value n) n [(pd ls 0), (pd ls 1), (pd ls 2), (eI 0), (eI 0), (pd ls 4), (pd ls 5), (pd ls 6), (pd ls 7), (D.sl 1 ([] : List (List D)))]
) <| jnX fun ls =>
 obind (
 obind (binP false .eql (pd ls 1) (eI 5)) fun v95 =>
 obind (
 oif v95 (
 obind (numP ((esD (pd ls 5))).length (eI 0)) fun j97 =>
 obind (((esD (pd ls 5)))[j97]?) fun e98 =>
 obind (atP false 1 0 e98) fun v98 =>
 obind (binP false .sub (eI 1) v98) fun v99 =>
 some (.inl [v99])
) (
 obind (binP false .eql (pd ls 1) (eI 6)) fun v101 =>
 obind (
 oif v101 (
 obind (binP false .eql (pd ls 0) (eI ((esD (pd ls 5))).length)) fun v105 =>
 obind (ref30_truthL n [v105]) fun v106 =>
 some (.inl [v106])
) (
 obind (binP false .eql (pd ls 1) (eI 7)) fun v108 =>
 obind (
 oif v108 (
 obind (binP false .gtr (pd ls 0) (eI 0)) fun v110 =>
 obind (ref30_truthL n [v110]) fun v111 =>
 some (.inl [v111])
) (
 obind (binP false .eql (pd ls 1) (eI 8)) fun v113 =>
 obind (
 oif v113 (
 obind (numP ((esD (pd ls 5))).length (eI 0)) fun j115 =>
 obind (((esD (pd ls 5)))[j115]?) fun e116 =>
 obind (atP false 1 0 e116) fun v116 =>
 obind (binP false .eql v116 (eI 0)) fun v117 =>
 obind (gD v117 false (
 obind (numP ((esD (pd ls 5))).length (eI 1)) fun j120 =>
 obind (((esD (pd ls 5)))[j120]?) fun e121 =>
 obind (atP false 1 0 e121) fun v121 =>
 obind (binP false .eql v121 (eI 1)) fun v122 =>
 some v122
)) fun v122 =>
 obind (pickP v117 (eB true) v122) fun v123 =>
 obind (ref30_truthL n [v123]) fun v124 =>
 some (.inl [v124])
) (
 obind (binP false .eql (pd ls 1) (eI 9)) fun v126 =>
 obind (
 oif v126 (
 some (.inl [(eI 0), (pd ls 1), v126, (D.sl 1 (esD (pd ls 5)))])
) (
 obind (binP false .eql (pd ls 1) (eI 10)) fun v127 =>
 some (.inl [(eI 0), (pd ls 1), v127, (D.sl 1 (esD (pd ls 5)))])
)
) <| jnX fun ls =>
 obind (
 oif (pd ls 2) (
 obind (numP ((esD (pd ls 3))).length (eI 0)) fun j129 =>
 obind (((esD (pd ls 3)))[j129]?) fun e130 =>
 obind (atP false 1 0 e130) fun v130 =>
 obind (numP ((esD (pd ls 3))).length (eI 1)) fun j132 =>
 obind (((esD (pd ls 3)))[j132]?) fun e133 =>
 obind (atP false 1 0 e133) fun v133 =>
 obind (binP false .eql v130 v133) fun v134 =>
 obind (ref30_truthL n [v134]) fun v135 =>
 some (.inl [v135])
) (
 obind (binP false .eql (pd ls 1) (eI 11)) fun v137 =>
 obind (
 oif v137 (
 obind (numP ((esD (pd ls 3))).length (eI 0)) fun j139 =>
 obind (((esD (pd ls 3)))[j139]?) fun e140 =>
 obind (atP false 1 0 e140) fun v140 =>
 obind (numP ((esD (pd ls 3))).length (eI 1)) fun j142 =>
 obind (((esD (pd ls 3)))[j142]?) fun e143 =>
 obind (atP false 1 0 e143) fun v143 =>
 obind (binP false .neq v140 v143) fun v144 =>
 obind (ref30_truthL n [v144]) fun v145 =>
 some (.inl [v145])
) (
 obind (binP false .eql (pd ls 1) (eI 12)) fun v147 =>
 obind (
 oif v147 (
 obind (numP ((esD (pd ls 3))).length (eI 0)) fun j149 =>
 obind (((esD (pd ls 3)))[j149]?) fun e150 =>
 obind (atP false 1 0 e150) fun v150 =>
 obind (numP ((esD (pd ls 3))).length (eI 1)) fun j152 =>
 obind (((esD (pd ls 3)))[j152]?) fun e153 =>
 obind (atP false 1 0 e153) fun v153 =>
 obind (binP false .lss v150 v153) fun v154 =>
 obind (ref30_truthL n [v154]) fun v155 =>
 some (.inl [v155])
) (
 obind (binP false .eql (pd ls 1) (eI 13)) fun v157 =>
 obind (
 oif v157 (
 obind (numP ((esD (pd ls 3))).length (eI 0)) fun j159 =>
 obind (((esD (pd ls 3)))[j159]?) fun e160 =>
 obind (atP false 1 0 e160) fun v160 =>
 obind (numP ((esD (pd ls 3))).length (eI 1)) fun j162 =>
 obind (((esD (pd ls 3)))[j162]?) fun e163 =>
 obind (atP false 1 0 e163) fun v163 =>
 obind (binP false .leq v160 v163) fun v164 =>
 obind (ref30_truthL n [v164]) fun v165 =>
 some (.inl [v165])
) (
 obind (binP false .eql (pd ls 1) (eI 14)) fun v167 =>
 obind (
 oif v167 (
 obind (numP ((esD (pd ls 3))).length (eI 0)) fun j169 =>
 obind (((esD (pd ls 3)))[j169]?) fun e170 =>
 obind (atP false 1 0 e170) fun v170 =>
 obind (numP ((esD (pd ls 3))).length (eI 1)) fun j172 =>
 obind (((esD (pd ls 3)))[j172]?) fun e173 =>
 obind (atP false 1 0 e173) fun v173 =>
 obind (binP false .add v170 v173) fun v174 =>
 some (.inl [v174])
) (
 obind (binP false .eql (pd ls 1) (eI 15)) fun v176 =>
 obind (
 oif v176 (
 obind (numP ((esD (pd ls 3))).length (eI 0)) fun j178 =>
 obind (((esD (pd ls 3)))[j178]?) fun e179 =>
 obind (atP false 1 0 e179) fun v179 =>
 obind (numP ((esD (pd ls 3))).length (eI 1)) fun j181 =>
 obind (((esD (pd ls 3)))[j181]?) fun e182 =>
 obind (atP false 1 0 e182) fun v182 =>
 obind (binP false .sub v179 v182) fun v183 =>
 some (.inl [v183])
) (
 obind (binP false .eql (pd ls 1) (eI 16)) fun v185 =>
 obind (
 oif v185 (
 obind (numP ((esD (pd ls 3))).length (eI 0)) fun j187 =>
 obind (((esD (pd ls 3)))[j187]?) fun e188 =>
 obind (atP false 1 0 e188) fun v188 =>
 obind (binP false .neq v188 (eI 0)) fun v189 =>
 obind (gD v189 true (
 obind (numP ((esD (pd ls 3))).length (eI 1)) fun j192 =>
 obind (((esD (pd ls 3)))[j192]?) fun e193 =>
 obind (atP false 1 0 e193) fun v193 =>
 obind (ref30_sizeL n [v193]) fun v194 =>
 obind (numP ((esD (pd ls 3))).length (eI 0)) fun j196 =>
 obind (((esD (pd ls 3)))[j196]?) fun e197 =>
 obind (atP false 1 0 e197) fun v197 =>
 obind (ref30_sizeL n [v197]) fun v198 =>
 obind (binP false .quo (eI 9007199254740992) v198) fun v199 =>
 obind (binP false .gtr v194 v199) fun v200 =>
 some v200
)) fun v200 =>
 obind (pickP v189 v200 (eB false)) fun v201 =>
 oif v201 (
 inrX (
 inrX (
 inrX (
 inrX (
 inrX (
 inrX (
 inrX (
 inrX (
 inrX (
 inrX (
 inrX (
 inrX (
 some (D.tup [(eI 0), (eB false)])
)
)
)
)
)
)
)
)
)
)
)
)
) (
 obind (numP ((esD (pd ls 3))).length (eI 0)) fun j203 =>
 obind (((esD (pd ls 3)))[j203]?) fun e204 =>
 obind (atP false 1 0 e204) fun v204 =>
 obind (numP ((esD (pd ls 3))).length (eI 1)) fun j206 =>
 obind (((esD (pd ls 3)))[j206]?) fun e207 =>
 obind (atP false 1 0 e207) fun v207 =>
 obind (binP false .mul v204 v207) fun v208 =>
 some (.inl [v208])
)
) (
 obind (binP false .eql (pd ls 1) (eI 17)) fun v210 =>
 obind (
 oif v210 (
 obind (numP ((esD (pd ls 3))).length (eI 0)) fun j212 =>
 obind (((esD (pd ls 3)))[j212]?) fun e213 =>
 obind (atP false 1 0 e213) fun v213 =>
 obind (numP ((esD (pd ls 3))).length (eI 1)) fun j215 =>
 obind (((esD (pd ls 3)))[j215]?) fun e216 =>
 obind (atP false 1 0 e216) fun v216 =>
 obind (binP false .rem v213 v216) fun v217 =>
 obind (numP ((esD (pd ls 3))).length (eI 1)) fun j219 =>
 obind (((esD (pd ls 3)))[j219]?) fun e220 =>
 obind (atP false 1 0 e220) fun v220 =>
 obind (binP false .add v217 v220) fun v221 =>
 obind (numP ((esD (pd ls 3))).length (eI 1)) fun j223 =>
 obind (((esD (pd ls 3)))[j223]?) fun e224 =>
 obind (atP false 1 0 e224) fun v224 =>
 obind (binP false .rem v221 v224) fun v225 =>
 some (.inl [v225])
) (
 obind (binP false .eql (pd ls 1) (eI 18)) fun v227 =>
 obind (
 oif v227 (
 obind (numP ((esD (pd ls 3))).length (eI 2)) fun j229 =>
 obind (((esD (pd ls 3)))[j229]?) fun e230 =>
 obind (atP false 1 0 e230) fun v230 =>
 obind (numP ((esD (pd ls 3))).length (eI 0)) fun j232 =>
 obind (((esD (pd ls 3)))[j232]?) fun e233 =>
 obind (atP false 1 0 e233) fun v233 =>
 obind (binP false .eql v233 (eI 1)) fun v234 =>
 obind (
 oif v234 (
 obind (numP ((esD (pd ls 3))).length (eI 1)) fun j236 =>
 obind (((esD (pd ls 3)))[j236]?) fun e237 =>
 obind (atP false 1 0 e237) fun v237 =>
 some (.inl [v237])
) (
 some (.inl [v230])
)
) <| jnX fun ls =>
 some (.inl [(pd ls 0)])
) (
 some (.inl [(pd ls 0)])
)
) <| jnX fun ls =>
 some (.inl [(pd ls 0)])
)
) <| jnX fun ls =>
 some (.inl [(pd ls 0)])
)
) <| jnX fun ls =>
 some (.inl [(pd ls 0)])
)
) <| jnX fun ls =>
 some (.inl [(pd ls 0)])
)
) <| jnX fun ls =>
 some (.inl [(pd ls 0)])
)
) <| jnX fun ls =>
 some (.inl [(pd ls 0)])
)
) <| jnX fun ls =>
 some (.inl [(pd ls 0)])
)
) <| jnX fun ls =>
 some (.inl [(pd ls 0)])
)
) <| jnX fun ls =>
 some (.inl [(pd ls 0)])
)
) <| jnX fun ls =>
 some (.inl [(pd ls 0)])
)
) <| jnX fun ls =>
 some (.inl [(pd ls 0)])
)
) <| jnX fun ls =>
 some (.inl [(pd ls 0)])
)
) <| jnX fun ls =>
 some (.inl [(pd ls 0)])
) <| jnX fun ls =>
 obind (ref30_farL n [(pd ls 0)]) fun v240 =>
 obind (unP .not v240) fun v241 =>
 some (D.tup [(pd ls 0), v241])
)
)

def ref30_valueL : Nat → List D → Option D
  | 0, _ => none
  | n + 1, ds => match ds with
    | [a0, a1, a2, a3] => ref30_value (ref30_valueL n) n a0 a1 a2 a3
    | _ => none
def ref30_Eval (n : Nat) (a0 : D) (a1 : D) (a2 : D) (a3 : D) : Option D :=
 og (aggP 4 a1) <|
 obind (ref30_TypeL n [a0, (D.agg [(celD a1 0), (celD a1 1), (celD a1 2), (celD a1 3)]), (eB true)]) fun v17 =>
 obind (extP 0 v17) fun v18 =>
 obind (extP 1 v17) fun v19 =>
 og (aggP 3 v18) <|
 obind (binP false .neq v19 (eI 0)) fun v21 =>
 obind (gD v21 false (
 obind (lenP a2) fun v24 =>
 obind (lenP a0) fun v26 =>
 obind (binP false .neq v24 v26) fun v27 =>
 some v27
)) fun v27 =>
 obind (pickP v21 (eB true) v27) fun v28 =>
 obind (gD v28 false (
 obind (ref30_StepsL n [(D.agg [(celD a1 0), (celD a1 1), (celD a1 2), (celD a1 3)])]) fun v31 =>
 some v31
)) fun v32 =>
 obind (gD v32 true (
 obind (lenP a3) fun v34 =>
 obind (lenP a0) fun v36 =>
 obind (binP false .neq v34 v36) fun v37 =>
 some v37
)) fun v37 =>
 obind (gD v28 false (
 obind (pickP v32 v37 (eB false)) fun v38 =>
 some v38
)) fun v38 =>
 obind (pickP v28 (eB true) v38) fun v39 =>
 oif v39 (
 some (D.tup [(eI 0), (eB false)])
) (
 obind (ref30_valueL n [a0, (D.agg [(celD a1 0), (celD a1 1), (celD a1 2), (celD a1 3)]), a2, a3]) fun v45 =>
 obind (extP 0 v45) fun v46 =>
 obind (extP 1 v45) fun v47 =>
 obind (unP .not v47) fun v49 =>
 oif v49 (
 some (D.tup [(eI 0), (eB false)])
) (
 some (D.tup [v46, (eB true)])
)
)

def ref30_EvalL (n : Nat) : List D → Option D
  | [a0, a1, a2, a3] => ref30_Eval n a0 a1 a2 a3
  | _ => none
def ref36_Comes_l14 (n : Nat) (ls : List D) : Option (List D ⊕ (List D ⊕ (List D ⊕ (List D ⊕ (List D ⊕ D))))) :=
 obind (lenP (pd ls 1)) fun v52 =>
 obind (binP false .lss (pd ls 5) v52) fun v53 =>
 oif v53 (
 obind (
 obind (unP .not (pd ls 0)) fun v57 =>
 obind (gD v57 true (
 obind (binP false .gtr (pd ls 5) (eI 0)) fun v60 =>
 some v60
)) fun v60 =>
 obind (pickP v57 v60 (eB false)) fun v61 =>
 oif v61 (
 some (.inl [(pd ls 0), (pd ls 1), (pd ls 2), (pd ls 3), (pd ls 4), (pd ls 5), (pd ls 6), (pd ls 7), (pd ls 8), (pd ls 9), (pd ls 10), (pd ls 11), (pd ls 12), (pd ls 13), (pd ls 14), (pd ls 15), (pd ls 16), (pd ls 17)])
) (
 obind (ixP 1 (pd ls 1) (pd ls 4)) fun c68 =>
 obind (atP false 1 0 c68) fun v69 =>
 obind (ixP 1 (pd ls 1) (pd ls 5)) fun c72 =>
 obind (atP false 1 0 c72) fun v73 =>
 obind (ref30_EvalL n [(pd ls 6), (D.agg [(pd ls 14), (pd ls 15), (pd ls 16), (pd ls 17)]), v69, v73]) fun v74 =>
 obind (extP 0 v74) fun v75 =>
 obind (extP 1 v74) fun v76 =>
 obind (unP .not v76) fun v78 =>
 obind (gD v78 false (
 obind (binP false .lss v75 (pd ls 2)) fun v82 =>
 some v82
)) fun v82 =>
 obind (pickP v78 (eB true) v82) fun v83 =>
 obind (gD v83 false (
 obind (binP false .gtr v75 (pd ls 3)) fun v87 =>
 some v87
)) fun v87 =>
 obind (pickP v83 (eB true) v87) fun v88 =>
 oif v88 (
 inrX (
 inrX (
 inrX (
 inrX (
 inrX (
 inrX (
 some (eB false)
)
)
)
)
)
)
) (
 some (.inl [(pd ls 0), (pd ls 1), (pd ls 2), (pd ls 3), (pd ls 4), (pd ls 5), (pd ls 6), (pd ls 7), (pd ls 8), (pd ls 9), (pd ls 10), (pd ls 11), (pd ls 12), (pd ls 13), (pd ls 14), (pd ls 15), (pd ls 16), (pd ls 17)])
)
)
) <| jnX fun ls =>
 obind (binP false .add (pd ls 5) (eI 1)) fun v55 =>
 some (.inl [(pd ls 0), (pd ls 1), (pd ls 2), (pd ls 3), (pd ls 4), v55, (pd ls 6), (pd ls 7), (pd ls 8), (pd ls 9), (pd ls 10), (pd ls 11), (pd ls 12), (pd ls 13), (pd ls 14), (pd ls 15), (pd ls 16), (pd ls 17)])
) (
 inrX (
 some (.inl [(pd ls 0), (pd ls 1), (pd ls 2), (pd ls 3), (pd ls 4), (pd ls 6), (pd ls 7), (pd ls 8), (pd ls 9), (pd ls 10), (pd ls 11), (pd ls 12), (pd ls 13), (pd ls 14), (pd ls 15), (pd ls 16), (pd ls 17)])
)
)

def ref36_Comes_l11 (n : Nat) (ls : List D) : Option (List D ⊕ (List D ⊕ D)) :=
 obind (lenP (pd ls 1)) fun v46 =>
 obind (binP false .lss (pd ls 4) v46) fun v47 =>
 oif v47 (
 obind (
 obind (
 iterL (ref36_Comes_l14 n) n [(pd ls 0), (pd ls 1), (pd ls 2), (pd ls 3), (pd ls 4), (eI 0), (pd ls 5), (pd ls 6), (pd ls 7), (pd ls 8), (pd ls 9), (pd ls 10), (pd ls 11), (pd ls 12), (pd ls 13), (pd ls 14), (pd ls 15), (pd ls 16)]
) <| jnX fun ls =>
 some (.inl [(pd ls 0), (pd ls 1), (pd ls 2), (pd ls 3), (pd ls 4), (pd ls 5), (pd ls 6), (pd ls 7), (pd ls 8), (pd ls 9), (pd ls 10), (pd ls 11), (pd ls 12), (pd ls 13), (pd ls 14), (pd ls 15), (pd ls 16)])
) <| jnX fun ls =>
 obind (binP false .add (pd ls 4) (eI 1)) fun v49 =>
 some (.inl [(pd ls 0), (pd ls 1), (pd ls 2), (pd ls 3), v49, (pd ls 5), (pd ls 6), (pd ls 7), (pd ls 8), (pd ls 9), (pd ls 10), (pd ls 11), (pd ls 12), (pd ls 13), (pd ls 14), (pd ls 15), (pd ls 16)])
) (
 inrX (
 some (.inl [])
)
)

def ref36_Comes (n : Nat) (a0 : D) (a1 : D) (a2 : D) (a3 : D) : Option D :=
 og (aggP 8 a0) <|
 og (aggP 4 a1) <|
 obind (ref35_InlineL n [(D.agg [(celD a1 0), (celD a1 1), (celD a1 2), (celD a1 3)]), (celD a0 1)]) fun v23 =>
 obind (extP 0 v23) fun v24 =>
 obind (extP 1 v23) fun v25 =>
 og (aggP 4 v24) <|
 obind (binP false .neq v25 (eI 0)) fun v27 =>
 oif v27 (
 some (eB false)
) (
 obind (ref30_TypeL n [(celD a0 0), (D.agg [(celD v24 0), (celD v24 1), (celD v24 2), (celD v24 3)]), a2]) fun v33 =>
 obind (extP 0 v33) fun v34 =>
 obind (extP 1 v33) fun v35 =>
 og (aggP 3 v34) <|
 obind (binP false .neq v35 (eI 0)) fun v37 =>
 oif v37 (
 some (eB false)
) (
 obind (
 oif (celD v34 0) (
 some (.inl [a2, a3, (eI 0), (eI 1), (celD a0 0), (celD a0 1), (celD a0 2), (celD a0 3), (celD a0 4), (celD a0 5), (celD a0 6), (celD a0 7), (celD v24 0), (celD v24 1), (celD v24 2), (celD v24 3)])
) (
 some (.inl [a2, a3, (celD v34 1), (celD v34 2), (celD a0 0), (celD a0 1), (celD a0 2), (celD a0 3), (celD a0 4), (celD a0 5), (celD a0 6), (celD a0 7), (celD v24 0), (celD v24 1), (celD v24 2), (celD v24 3)])
)
) <| jnX fun ls =>
 obind (
 iterL (ref36_Comes_l11 n) n [(pd ls 0), (pd ls 1), (pd ls 2), (pd ls 3), (eI 0), (pd ls 4), (pd ls 5), (pd ls 6), (pd ls 7), (pd ls 8), (pd ls 9), (pd ls 10), (pd ls 11), (pd ls 12), (pd ls 13), (pd ls 14), (pd ls 15)]
) <| jnX fun ls =>
 some (eB true)
)
)

def ref36_ComesL (n : Nat) : List D → Option D
  | [a0, a1, a2, a3] => ref36_Comes n a0 a1 a2 a3
  | _ => none
def law36_TypingMeans_l11 (n : Nat) (ls : List D) : Option (List D ⊕ (List D ⊕ D)) :=
 obind (lenP (pd ls 0)) fun v47 =>
 obind (binP false .lss (pd ls 1) v47) fun v48 =>
 oif v48 (
 obind (ixP 1 (pd ls 0) (pd ls 1)) fun c54 =>
 obind (atP false 1 0 c54) fun v55 =>
 obind (typing_IsL n [(D.agg [(pd ls 2), (pd ls 3), (pd ls 4), (pd ls 5), (pd ls 6), (pd ls 7), (pd ls 8), (pd ls 9)]), v55]) fun v56 =>
 obind (unP .not v56) fun v57 =>
 oif v57 (
 inrX (
 inrX (
 some (eB false)
)
)
) (
 obind (binP false .add (pd ls 1) (eI 1)) fun v50 =>
 some (.inl [(pd ls 0), v50, (pd ls 2), (pd ls 3), (pd ls 4), (pd ls 5), (pd ls 6), (pd ls 7), (pd ls 8), (pd ls 9)])
)
) (
 inrX (
 some (.inl [(pd ls 0), (pd ls 2), (pd ls 3), (pd ls 4), (pd ls 5), (pd ls 6), (pd ls 7), (pd ls 8), (pd ls 9)])
)
)

def law36_TypingMeans_l17 (n : Nat) (ls : List D) : Option (List D ⊕ (List D ⊕ D)) :=
 obind (lenP (pd ls 3)) fun v71 =>
 obind (binP false .lss (pd ls 1) v71) fun v72 =>
 oif v72 (
 obind (ixP 5 (pd ls 3) (pd ls 1)) fun c79 =>
 obind (atP true 4 1 c79) fun v81 =>
 og (aggP 4 v81) <|
 og (roomP (((esD (pd ls 10))).length + ([[(celD v81 0), (celD v81 1), (celD v81 2), (celD v81 3)]]).length) 56) <|
 obind (binP false .add (pd ls 1) (eI 1)) fun v74 =>
 some (.inl [(pd ls 0), v74, (pd ls 2), (pd ls 3), (pd ls 4), (pd ls 5), (pd ls 6), (pd ls 7), (pd ls 8), (pd ls 9), (D.sl 4 ((esD (pd ls 10)) ++ [[(celD v81 0), (celD v81 1), (celD v81 2), (celD v81 3)]]))])
) (
 inrX (
 some (.inl [(pd ls 0), (pd ls 2), (pd ls 3), (pd ls 4), (pd ls 5), (pd ls 6), (pd ls 7), (pd ls 8), (pd ls 9), (D.sl 4 (esD (pd ls 10)))])
)
)

def law36_TypingMeans_l21 (n : Nat) (ls : List D) : Option (List D ⊕ (List D ⊕ D)) :=
 obind (lenP (pd ls 6)) fun v87 =>
 obind (binP false .lss (pd ls 1) v87) fun v88 =>
 oif v88 (
 obind (ixP 5 (pd ls 6) (pd ls 1)) fun c95 =>
 obind (atP true 4 1 c95) fun v97 =>
 og (aggP 4 v97) <|
 og (roomP (((esD (pd ls 10))).length + ([[(celD v97 0), (celD v97 1), (celD v97 2), (celD v97 3)]]).length) 56) <|
 obind (binP false .add (pd ls 1) (eI 1)) fun v90 =>
 some (.inl [(pd ls 0), v90, (pd ls 2), (pd ls 3), (pd ls 4), (pd ls 5), (pd ls 6), (pd ls 7), (pd ls 8), (pd ls 9), (D.sl 4 ((esD (pd ls 10)) ++ [[(celD v97 0), (celD v97 1), (celD v97 2), (celD v97 3)]]))])
) (
 inrX (
 some (.inl [(pd ls 0), (pd ls 2), (pd ls 3), (pd ls 4), (pd ls 5), (pd ls 6), (pd ls 7), (pd ls 8), (pd ls 9), (D.sl 4 (esD (pd ls 10)))])
)
)

def law36_TypingMeans_l25 (n : Nat) (ls : List D) : Option (List D ⊕ (List D ⊕ D)) :=
 obind (binP false .lss (pd ls 1) (eI ((esD (pd ls 10))).length)) fun v103 =>
 oif v103 (
 obind (numP ((esD (pd ls 10))).length (pd ls 1)) fun j109 =>
 obind (((esD (pd ls 10)))[j109]?) fun e110 =>
 obind (atP true 4 0 e110) fun v110 =>
 obind (ref36_ComesL n [(D.agg [(pd ls 2), (pd ls 3), (pd ls 4), (pd ls 5), (pd ls 6), (pd ls 7), (pd ls 8), (pd ls 9)]), v110, (eB false), (pd ls 0)]) fun v112 =>
 obind (unP .not v112) fun v113 =>
 oif v113 (
 inrX (
 inrX (
 some (eB false)
)
)
) (
 obind (binP false .add (pd ls 1) (eI 1)) fun v105 =>
 some (.inl [(pd ls 0), v105, (pd ls 2), (pd ls 3), (pd ls 4), (pd ls 5), (pd ls 6), (pd ls 7), (pd ls 8), (pd ls 9), (D.sl 4 (esD (pd ls 10)))])
)
) (
 inrX (
 some (.inl [(pd ls 0), (pd ls 2), (pd ls 3), (pd ls 4), (pd ls 5), (pd ls 6), (pd ls 7), (pd ls 8), (pd ls 9)])
)
)

def law36_TypingMeans_l30 (n : Nat) (ls : List D) : Option (List D ⊕ (List D ⊕ D)) :=
 obind (lenP (pd ls 7)) fun v117 =>
 obind (binP false .lss (pd ls 1) v117) fun v118 =>
 oif v118 (
 obind (ixP 4 (pd ls 7) (pd ls 1)) fun c125 =>
 obind (atP true 4 0 c125) fun v126 =>
 obind (ref36_ComesL n [(D.agg [(pd ls 2), (pd ls 3), (pd ls 4), (pd ls 5), (pd ls 6), (pd ls 7), (pd ls 8), (pd ls 9)]), v126, (eB true), (pd ls 0)]) fun v128 =>
 obind (unP .not v128) fun v129 =>
 oif v129 (
 inrX (
 inrX (
 some (eB false)
)
)
) (
 obind (binP false .add (pd ls 1) (eI 1)) fun v120 =>
 some (.inl [(pd ls 0), v120, (pd ls 2), (pd ls 3), (pd ls 4), (pd ls 5), (pd ls 6), (pd ls 7), (pd ls 8), (pd ls 9)])
)
) (
 inrX (
 some (.inl [])
)
)

def law36_TypingMeans (n : Nat) (a0 : D) : Option D :=
 og (aggP 8 a0) <|
 obind (ref36_SmallL n [(D.agg [(celD a0 0), (celD a0 1), (celD a0 2), (celD a0 3), (celD a0 4), (celD a0 5), (celD a0 6), (celD a0 7)])]) fun v15 =>
 obind (unP .not v15) fun v16 =>
 oif v16 (
 obind (law36_livesL n []) fun v17 =>
 some v17
) (
 obind (typing_CheckL n [(D.agg [(celD a0 0), (celD a0 1), (celD a0 2), (celD a0 3), (celD a0 4), (celD a0 5), (celD a0 6), (celD a0 7)])]) fun v20 =>
 obind (extP 0 v20) fun v21 =>
 obind (extP 1 v20) fun v22 =>
 og (aggP 2 v21) <|
 obind (typing_StatesL n [(D.agg [(celD a0 0), (celD a0 1), (celD a0 2), (celD a0 3), (celD a0 4), (celD a0 5), (celD a0 6), (celD a0 7)])]) fun v25 =>
 obind (extP 0 v25) fun v26 =>
 obind (extP 1 v25) fun v27 =>
 obind (binP false .neq v22 (eI 0)) fun v29 =>
 obind (gD v29 false (
 obind (unP .not v27) fun v32 =>
 some v32
)) fun v32 =>
 obind (pickP v29 (eB true) v32) fun v33 =>
 obind (gD v33 false (
 obind (binP false .gtr v26 (eI 24)) fun v36 =>
 some v36
)) fun v36 =>
 obind (pickP v33 (eB true) v36) fun v37 =>
 oif v37 (
 obind (law36_livesL n []) fun v38 =>
 some v38
) (
 obind (ref36_AllL n [(D.agg [(celD a0 0), (celD a0 1), (celD a0 2), (celD a0 3), (celD a0 4), (celD a0 5), (celD a0 6), (celD a0 7)]), (eI 24)]) fun v40 =>
 obind (lenP v40) fun v42 =>
 obind (binP false .neq v42 v26) fun v44 =>
 oif v44 (
 some (eB false)
) (
 obind (
 iterL (law36_TypingMeans_l11 n) n [v40, (eI 0), (celD a0 0), (celD a0 1), (celD a0 2), (celD a0 3), (celD a0 4), (celD a0 5), (celD a0 6), (celD a0 7)]
) <| jnX fun ls =>
 obind (elP (pd ls 3)) fun q61 =>
 og (decide (q61.1 = 4 ∨ q61.2 = []) && decide (0 < 4)) <|
 og (roomP ((([] : List (List D))).length + (q61.2).length) 56) <|
 obind (elP (pd ls 4)) fun q64 =>
 og (decide (q64.1 = 4 ∨ q64.2 = []) && decide (0 < 4)) <|
 og (roomP (((([] : List (List D)) ++ q61.2)).length + (q64.2).length) 56) <|
 obind (elP (pd ls 7)) fun q67 =>
 og (decide (q67.1 = 4 ∨ q67.2 = []) && decide (0 < 4)) <|
 og (roomP ((((([] : List (List D)) ++ q61.2) ++ q64.2)).length + (q67.2).length) 56) <|
 obind (
 iterL (law36_TypingMeans_l17 n) n [(pd ls 0), (eI 0), (pd ls 1), (pd ls 2), (pd ls 3), (pd ls 4), (pd ls 5), (pd ls 6), (pd ls 7), (pd ls 8), (D.sl 4 (((([] : List (List D)) ++ q61.2) ++ q64.2) ++ q67.2))]
) <| jnX fun ls =>
 obind (
 iterL (law36_TypingMeans_l21 n) n [(pd ls 0), (eI 0), (pd ls 1), (pd ls 2), (pd ls 3), (pd ls 4), (pd ls 5), (pd ls 6), (pd ls 7), (pd ls 8), (D.sl 4 (esD (pd ls 9)))]
) <| jnX fun ls =>
 obind (
 iterL (law36_TypingMeans_l25 n) n [(pd ls 0), (eI 0), (pd ls 1), (pd ls 2), (pd ls 3), (pd ls 4), (pd ls 5), (pd ls 6), (pd ls 7), (pd ls 8), (D.sl 4 (esD (pd ls 9)))]
) <| jnX fun ls =>
 obind (
 iterL (law36_TypingMeans_l30 n) n [(pd ls 0), (eI 0), (pd ls 1), (pd ls 2), (pd ls 3), (pd ls 4), (pd ls 5), (pd ls 6), (pd ls 7), (pd ls 8)]
) <| jnX fun ls =>
 obind (law36_livesL n []) fun v130 =>
 some v130
)
)
)

def law36_TypingMeansL (n : Nat) : List D → Option D
  | [a0] => law36_TypingMeans n a0
  | _ => none
end Go.Am
