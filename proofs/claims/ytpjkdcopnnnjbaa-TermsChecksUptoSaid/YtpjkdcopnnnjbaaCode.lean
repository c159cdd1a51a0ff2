/- What each function of the seat computes, on data. No condition. -/
import Derived.Test.YtpjkdcopnnnjbaaEngC
set_option linter.all false
set_option linter.unnecessarySimpa false
namespace Go.Am
set_option linter.unusedVariables false
abbrev fid_law30_Light : Nat := 9
abbrev fid_law30_few : Nat := 10
abbrev fid_law30_lives : Nat := 11
abbrev fid_terms_Type : Nat := 12
abbrev fid_ref30_Type : Nat := 13
abbrev fid_terms_Eval : Nat := 14
abbrev fid_ref30_Eval : Nat := 15
abbrev fid_terms_Check : Nat := 16
abbrev fid_ref30_Check : Nat := 17
abbrev fid_law30_ranged : Nat := 18
abbrev fid_ref30_Index : Nat := 19
abbrev fid_terms_Put : Nat := 20
abbrev fid_law30_num : Nat := 21
abbrev fid_ref30_Same : Nat := 22
abbrev fid_ref30_Put : Nat := 23
abbrev fid_terms_Same : Nat := 24
abbrev fid_terms_Names : Nat := 25
abbrev fid_ref30_Names : Nat := 26
abbrev fid_ref30_Parts : Nat := 27
abbrev fid_ref30_Texts : Nat := 28
abbrev fid_terms_Size : Nat := 29
abbrev fid_terms_Deep : Nat := 30
abbrev fid_law30_name : Nat := 31
abbrev fid_law30_two : Nat := 32
abbrev fid_terms_typed : Nat := 33
abbrev fid_terms_names : Nat := 34
abbrev fid_ref30_typed : Nat := 35
abbrev fid_terms_Eval_1 : Nat := 36
abbrev fid_terms_truth : Nat := 37
abbrev fid_num_Add : Nat := 38
abbrev fid_terms_joined : Nat := 39
abbrev fid_ref30_Steps : Nat := 40
abbrev fid_ref30_value : Nat := 41
abbrev fid_terms_walk : Nat := 42
abbrev fid_terms_Check_1 : Nat := 43
abbrev fid_terms_wrong : Nat := 44
abbrev fid_ref30_check : Nat := 45
abbrev fid_terms_Names_1 : Nat := 46
abbrev fid_terms_put : Nat := 47
abbrev fid_ref30_names : Nat := 48
abbrev fid_terms_Size_1 : Nat := 49
abbrev fid_terms_Deep_1 : Nat := 50
abbrev fid_terms_part : Nat := 51
abbrev fid_ref30_numbers : Nat := 52
abbrev fid_ref30_join : Nat := 53
abbrev fid_num_held : Nat := 54
abbrev fid_num_Mul : Nat := 55
abbrev fid_ref30_truth : Nat := 56
abbrev fid_ref30_far : Nat := 57
abbrev fid_ref30_size : Nat := 58
abbrev fid_terms_kids : Nat := 59
abbrev fid_ref30_Part : Nat := 60
abbrev fid_ref30_With : Nat := 61
abbrev fid_terms_span : Nat := 62
abbrev fid_terms_truths : Nat := 63
abbrev fid_terms_reckoned : Nat := 64
abbrev fid_ref30_truths : Nat := 65
abbrev fid_ref30_products : Nat := 66
abbrev fid_math_bits_Mul64 : Nat := 67
abbrev fid_num_size : Nat := 68
abbrev fid_ref30_Kids : Nat := 69
abbrev fid_ref30_In : Nat := 70
def ref30_Parts_l3 (r_ref30_Parts : List D → Option D) (n : Nat) (ls : List D) : Option (List D ⊕ (List D ⊕ D)) :=
 obind (lenP (pd ls 6)) fun v12 =>
 obind (binP false .lss (pd ls 2) v12) fun v13 =>
 oif v13 (
 obind (ixP 4 (pd ls 6) (pd ls 2)) fun c20 =>
 obind (atP true 4 0 c20) fun v21 =>
 obind (r_ref30_Parts [v21]) fun v22 =>
 obind (extP 0 v22) fun v23 =>
 obind (extP 1 v22) fun v24 =>
 obind (binP false .add (pd ls 0) v23) fun v27 =>
 obind (mmP true [(pd ls 1), v24]) fun v30 =>
 obind (binP false .add (pd ls 2) (eI 1)) fun v15 =>
 some (.inl [v27, v30, v15, (pd ls 3), (pd ls 4), (pd ls 5), (pd ls 6)])
) (
 inrX (
 some (.inl [(pd ls 0), (pd ls 1)])
)
)

def ref30_Parts (r_ref30_Parts : List D → Option D) (n : Nat) (a0 : D) : Option D :=
 og (aggP 4 a0) <|
 obind (
 iterL (ref30_Parts_l3 r_ref30_Parts n) n [(eI 1), (eI 0), (eI 0), (celD a0 0), (celD a0 1), (celD a0 2), (celD a0 3)]
) <| jnX fun ls =>
 obind (binP false .add (pd ls 1) (eI 1)) fun v33 =>
 some (D.tup [(pd ls 0), v33])

def ref30_PartsL : Nat → List D → Option D
  | 0, _ => none
  | n + 1, ds => match ds with
    | [a0] => ref30_Parts (ref30_PartsL n) n a0
    | _ => none
def law30_Light (n : Nat) (a0 : D) : Option D :=
 og (aggP 4 a0) <|
 obind (ref30_PartsL n [(D.agg [(celD a0 0), (celD a0 1), (celD a0 2), (celD a0 3)])]) fun v7 =>
 obind (extP 0 v7) fun v8 =>
 obind (extP 1 v7) fun v9 =>
 obind (binP false .leq v8 (eI 300)) fun v11 =>
 obind (gD v11 true (
 obind (binP false .leq v9 (eI 80)) fun v14 =>
 some v14
)) fun v14 =>
 obind (pickP v11 v14 (eB false)) fun v15 =>
 some v15

def law30_LightL (n : Nat) : List D → Option D
  | [a0] => law30_Light n a0
  | _ => none
def law30_few (n : Nat) (a0 : D) : Option D :=
 obind (lenP a0) fun v4 =>
 obind (binP false .leq v4 (eI 20)) fun v5 =>
 some v5

def law30_fewL (n : Nat) : List D → Option D
  | [a0] => law30_few n a0
  | _ => none
def law30_name (n : Nat) (a0 : D) : Option D :=
 og (oneP a0) <|
 og (aggP 4 (D.agg [(eI 3), (eI 0), a0, (D.val (.slice none 0 0))])) <|
 some (D.agg [(eI 3), (eI 0), a0, (D.val (.slice none 0 0))])

def law30_nameL (n : Nat) : List D → Option D
  | [a0] => law30_name n a0
  | _ => none
def law30_num (n : Nat) (a0 : D) : Option D :=
 og (oneP a0) <|
 og (aggP 4 (D.agg [(eI 1), a0, (eS ⟨#[]⟩), (D.val (.slice none 0 0))])) <|
 some (D.agg [(eI 1), a0, (eS ⟨#[]⟩), (D.val (.slice none 0 0))])

def law30_numL (n : Nat) : List D → Option D
  | [a0] => law30_num n a0
  | _ => none
def law30_two (n : Nat) (a0 : D) (a1 : D) (a2 : D) : Option D :=
 og (aggP 4 a1) <|
 og (aggP 4 a2) <|
 og (aggP 4 (D.agg [(celD a1 0), (celD a1 1), (celD a1 2), (celD a1 3)])) <|
 og (aggP 4 (D.agg [(celD a2 0), (celD a2 1), (celD a2 2), (celD a2 3)])) <|
 og (oneP a0) <|
 og (oneP a0) <|
 some (D.agg [a0, (eI 0), (eS ⟨#[]⟩), (D.sl 4 [[(celD a1 0), (celD a1 1), (celD a1 2), (celD a1 3)], [(celD a2 0), (celD a2 1), (celD a2 2), (celD a2 3)]])])

def law30_twoL (n : Nat) : List D → Option D
  | [a0, a1, a2] => law30_two n a0 a1 a2
  | _ => none
def terms_kids (n : Nat) (a0 : D) : Option D :=
 obind (binP false .eql a0 (eI 1)) fun v6 =>
 obind (
 oif v6 (
 some (.inl [a0, v6])
) (
 obind (binP false .eql a0 (eI 2)) fun v7 =>
 obind (
 oif v7 (
 some (.inl [a0, v7])
) (
 obind (binP false .eql a0 (eI 3)) fun v8 =>
 obind (
 oif v8 (
 some (.inl [a0, v8])
) (
 obind (binP false .eql a0 (eI 4)) fun v9 =>
 some (.inl [a0, v9])
)
) <| jnX fun ls =>
 some (.inl [(pd ls 0), (pd ls 1)])
)
) <| jnX fun ls =>
 some (.inl [(pd ls 0), (pd ls 1)])
)
) <| jnX fun ls =>
 oif (pd ls 1) (
 some (D.tup [(eI 0), (eI 0)])
) (
 obind (binP false .eql (pd ls 0) (eI 5)) fun v11 =>
 oif v11 (
 some (D.tup [(eI 1), (eI 1)])
) (
 obind (binP false .eql (pd ls 0) (eI 6)) fun v13 =>
 obind (
 oif v13 (
 some (.inl [(pd ls 0), v13])
) (
 obind (binP false .eql (pd ls 0) (eI 7)) fun v14 =>
 some (.inl [(pd ls 0), v14])
)
) <| jnX fun ls =>
 oif (pd ls 1) (
 some (D.tup [(eI 1), (eI 64)])
) (
 obind (binP false .eql (pd ls 0) (eI 8)) fun v16 =>
 obind (
 oif v16 (
 some (.inl [(pd ls 0), v16])
) (
 obind (binP false .eql (pd ls 0) (eI 9)) fun v17 =>
 obind (
 oif v17 (
 some (.inl [(pd ls 0), v17])
) (
 obind (binP false .eql (pd ls 0) (eI 10)) fun v18 =>
 obind (
 oif v18 (
 some (.inl [(pd ls 0), v18])
) (
 obind (binP false .eql (pd ls 0) (eI 11)) fun v19 =>
 obind (
 oif v19 (
 some (.inl [(pd ls 0), v19])
) (
 obind (binP false .eql (pd ls 0) (eI 12)) fun v20 =>
 obind (
 oif v20 (
 some (.inl [(pd ls 0), v20])
) (
 obind (binP false .eql (pd ls 0) (eI 13)) fun v21 =>
 obind (
 oif v21 (
 some (.inl [(pd ls 0), v21])
) (
 obind (binP false .eql (pd ls 0) (eI 14)) fun v22 =>
 obind (
 oif v22 (
 some (.inl [(pd ls 0), v22])
) (
 obind (binP false .eql (pd ls 0) (eI 15)) fun v23 =>
 obind (
 oif v23 (
 some (.inl [(pd ls 0), v23])
) (
 obind (binP false .eql (pd ls 0) (eI 16)) fun v24 =>
 obind (
 oif v24 (
 some (.inl [(pd ls 0), v24])
) (
 obind (binP false .eql (pd ls 0) (eI 17)) fun v25 =>
 some (.inl [(pd ls 0), v25])
)
) <| jnX fun ls =>
 some (.inl [(pd ls 0), (pd ls 1)])
)
) <| jnX fun ls =>
 some (.inl [(pd ls 0), (pd ls 1)])
)
) <| jnX fun ls =>
 some (.inl [(pd ls 0), (pd ls 1)])
)
) <| jnX fun ls =>
 some (.inl [(pd ls 0), (pd ls 1)])
)
) <| jnX fun ls =>
 some (.inl [(pd ls 0), (pd ls 1)])
)
) <| jnX fun ls =>
 some (.inl [(pd ls 0), (pd ls 1)])
)
) <| jnX fun ls =>
 some (.inl [(pd ls 0), (pd ls 1)])
)
) <| jnX fun ls =>
 some (.inl [(pd ls 0), (pd ls 1)])
)
) <| jnX fun ls =>
 oif (pd ls 1) (
 some (D.tup [(eI 2), (eI 2)])
) (
 obind (binP false .eql (pd ls 0) (eI 18)) fun v27 =>
 oif v27 (
 some (D.tup [(eI 3), (eI 3)])
) (
 some (D.tup [(eI (-1)), (eI (-1))])
)
)
)
)
)

def terms_kidsL (n : Nat) : List D → Option D
  | [a0] => terms_kids n a0
  | _ => none
def terms_wrong (n : Nat) (a0 : D) : Option D :=
 og (aggP 4 a0) <|
 obind (terms_kidsL n [(celD a0 0)]) fun v11 =>
 obind (extP 0 v11) fun v12 =>
 obind (extP 1 v11) fun v13 =>
 obind (binP false .lss v12 (eI 0)) fun v15 =>
 oif v15 (
 some (eI 11)
) (
 obind (
 obind (binP false .eql (celD a0 0) (eI 1)) fun v19 =>
 obind (
 oif v19 (
 some (.inl [v12, v13, (eI (-255)), (eI 255), (celD a0 0), (celD a0 1), (celD a0 2), (celD a0 3)])
) (
 obind (binP false .eql (celD a0 0) (eI 2)) fun v21 =>
 obind (
 oif v21 (
 some (.inl [v12, v13, (eI 0), (eI 1), (celD a0 0), (celD a0 1), (celD a0 2), (celD a0 3)])
) (
 some (.inl [v12, v13, (eI 0), (eI 0), (celD a0 0), (celD a0 1), (celD a0 2), (celD a0 3)])
)
) <| jnX fun ls =>
 some (.inl [(pd ls 0), (pd ls 1), (pd ls 2), (pd ls 3), (pd ls 4), (pd ls 5), (pd ls 6), (pd ls 7)])
)
) <| jnX fun ls =>
 some (.inl [(pd ls 0), (pd ls 1), (pd ls 2), (pd ls 3), (pd ls 4), (pd ls 5), (pd ls 6), (pd ls 7)])
) <| jnX fun ls =>
 obind (binP false .eql (pd ls 4) (eI 3)) fun v24 =>
 obind (gD v24 false (
 obind (binP false .eql (pd ls 4) (eI 4)) fun v28 =>
 some v28
)) fun v28 =>
 obind (pickP v24 (eB true) v28) fun v29 =>
 obind (binP false .lss (pd ls 5) (pd ls 2)) fun v34 =>
 obind (gD v34 false (
 obind (binP false .gtr (pd ls 5) (pd ls 3)) fun v39 =>
 some v39
)) fun v39 =>
 obind (pickP v34 (eB true) v39) fun v40 =>
 oif v40 (
 some (eI 2)
) (
 obind (gD v29 true (
 obind (binP false .eql (pd ls 6) (eS ⟨#[]⟩)) fun v46 =>
 some v46
)) fun v47 =>
 obind (gD v47 false (
 obind (lensP (pd ls 6)) fun v50 =>
 obind (binP false .gtr v50 (eI 24)) fun v51 =>
 some v51
)) fun v51 =>
 obind (gD v29 true (
 obind (pickP v47 (eB true) v51) fun v52 =>
 some v52
)) fun v52 =>
 obind (pickP v29 v52 (eB false)) fun v53 =>
 obind (gD v53 false (
 obind (unP .not v29) fun v56 =>
 some v56
)) fun v57 =>
 obind (gD v57 true (
 obind (binP false .neq (pd ls 6) (eS ⟨#[]⟩)) fun v60 =>
 some v60
)) fun v60 =>
 obind (gD v53 false (
 obind (pickP v57 v60 (eB false)) fun v61 =>
 some v61
)) fun v61 =>
 obind (pickP v53 (eB true) v61) fun v62 =>
 oif v62 (
 some (eI 12)
) (
 obind (lenP (pd ls 7)) fun v66 =>
 obind (binP false .lss v66 (pd ls 0)) fun v68 =>
 obind (gD v68 false (
 obind (lenP (pd ls 7)) fun v72 =>
 obind (binP false .gtr v72 (pd ls 1)) fun v74 =>
 some v74
)) fun v74 =>
 obind (pickP v68 (eB true) v74) fun v75 =>
 oif v75 (
 some (eI 3)
) (
 some (eI 0)
)
)
)
)

def terms_wrongL (n : Nat) : List D → Option D
  | [a0] => terms_wrong n a0
  | _ => none
def terms_Check_1_h (n : Nat) (ls : List D) : Option (List D) :=
 og (aggP 4 (pd ls 0)) <|
 obind (binP false .add (pd ls 2) (eI 1)) fun v8 =>
 og (oneP v8) <|
 obind (binP false .gtr (pd ls 1) (eI 64)) fun v10 =>
 obind (
 oif v10 (
 some (.inl [(eI 17), v8])
) (
 obind (terms_wrongL n [(D.agg [(celD (pd ls 0) 0), (celD (pd ls 0) 1), (celD (pd ls 0) 2), (celD (pd ls 0) 3)])]) fun v12 =>
 og (oneP v12) <|
 obind (binP false .eql v12 (eI 0)) fun v14 =>
 obind (gD v14 true (
 obind (binP false .gtr v8 (eI 4096)) fun v17 =>
 some v17
)) fun v17 =>
 obind (pickP v14 v17 (eB false)) fun v18 =>
 obind (
 oif v18 (
 some (.inl [(eI 4), v8])
) (
 some (.inl [v12, v8])
)
) <| jnX fun ls =>
 some (.inl [(pd ls 0), (pd ls 1)])
)
) <| jnX fun ls =>
 obind (binP false .eql (pd ls 0) (eI 0)) fun v20 =>
 some [v20, (pd ls 1), (pd ls 0)]

def terms_names_l3 (n : Nat) (ls : List D) : Option (List D ⊕ (List D ⊕ D)) :=
 obind (binP false .lss (pd ls 2) (pd ls 1)) fun v12 =>
 oif v12 (
 obind (
 obind (ixP 4 (pd ls 0) (pd ls 2)) fun c14 =>
 obind (atP true 4 0 c14) fun v15 =>
 og (aggP 4 v15) <|
 obind (lookP (.string) (.int .i64 0) true (mpD (pd ls 3)) (celD v15 0)) fun v20 =>
 obind (extP 0 v20) fun v21 =>
 obind (extP 1 v20) fun v22 =>
 obind (unP .not v22) fun v24 =>
 obind (
 oif v24 (
 obind (putP (.string) (mpD (pd ls 3)) (celD v15 0) (pd ls 2)) fun m8_1 =>
 some (.inl [(pd ls 0), (pd ls 1), (pd ls 2), (D.mp m8_1)])
) (
 some (.inl [(pd ls 0), (pd ls 1), (pd ls 2), (D.mp (mpD (pd ls 3)))])
)
) <| jnX fun ls =>
 some (.inl [(pd ls 0), (pd ls 1), (pd ls 2), (D.mp (mpD (pd ls 3)))])
) <| jnX fun ls =>
 obind (binP false .add (pd ls 2) (eI 1)) fun v29 =>
 some (.inl [(pd ls 0), (pd ls 1), v29, (D.mp (mpD (pd ls 3)))])
) (
 inrX (
 some (.inl [(D.mp (mpD (pd ls 3)))])
)
)

def terms_names (n : Nat) (a0 : D) : Option D :=
 obind (lenP a0) fun v10 =>
 obind (
 iterL (terms_names_l3 n) n [a0, v10, (eI 0), (D.mp [])]
) <| jnX fun ls =>
 some (D.mp (mpD (pd ls 0)))

def terms_namesL (n : Nat) : List D → Option D
  | [a0] => terms_names n a0
  | _ => none
def terms_span (n : Nat) (a0 : D) (a1 : D) : Option D :=
 obind (binP false .lss a0 (eI (-1048576))) fun v7 =>
 obind (gD v7 false (
 obind (binP false .gtr a1 (eI 1048576)) fun v10 =>
 some v10
)) fun v10 =>
 obind (pickP v7 (eB true) v10) fun v11 =>
 obind (gD v11 false (
 obind (binP false .gtr a0 a1) fun v15 =>
 some v15
)) fun v15 =>
 obind (pickP v11 (eB true) v15) fun v16 =>
 obind (gD v16 false (
 obind (binP false .sub a1 a0) fun v20 =>
 obind (binP false .gtr v20 (eI 4096)) fun v21 =>
 some v21
)) fun v21 =>
 obind (pickP v16 (eB true) v21) fun v22 =>
 oif v22 (
 some (D.tup [(D.agg [(eB false), (eI 0), (eI 0)]), (eI 2)])
) (
 og (oneP a0) <|
 og (oneP a1) <|
 og (aggP 3 (D.agg [(eB false), a0, a1])) <|
 some (D.tup [(D.agg [(eB false), a0, a1]), (eI 0)])
)

def terms_spanL (n : Nat) : List D → Option D
  | [a0, a1] => terms_span n a0 a1
  | _ => none
def terms_truths_l2 (n : Nat) (ls : List D) : Option (List D ⊕ (List D ⊕ D)) :=
 obind (binP false .lss (pd ls 2) (pd ls 1)) fun v9 =>
 oif v9 (
 obind (ixP 3 (pd ls 0) (pd ls 2)) fun c10 =>
 obind (atP true 3 0 c10) fun v11 =>
 og (aggP 3 v11) <|
 obind (unP .not (celD v11 0)) fun v14 =>
 oif v14 (
 inrX (
 inrX (
 some (D.tup [(D.agg [(eB false), (eI 0), (eI 0)]), (eI 13)])
)
)
) (
 obind (binP false .add (pd ls 2) (eI 1)) fun v16 =>
 some (.inl [(pd ls 0), (pd ls 1), v16, (pd ls 3), (pd ls 4), (pd ls 5)])
)
) (
 inrX (
 some (.inl [(pd ls 3), (pd ls 4), (pd ls 5)])
)
)

def terms_truths (n : Nat) (a0 : D) : Option D :=
 obind (lenP a0) fun v7 =>
 obind (
 iterL (terms_truths_l2 n) n [a0, v7, (eI 0), (eB false), (eI 0), (eI 0)]
) <| jnX fun ls =>
 some (D.tup [(D.agg [(eB true), (eI 0), (eI 0)]), (eI 0)])

def terms_truthsL (n : Nat) : List D → Option D
  | [a0] => terms_truths n a0
  | _ => none
def terms_reckoned (n : Nat) (a0 : D) (a1 : D) (a2 : D) : Option D :=
 og (aggP 3 a1) <|
 og (aggP 3 a2) <|
 obind (binP false .eql a0 (eI 15)) fun v13 =>
 obind (
 oif v13 (
 obind (unP .neg (celD a2 2)) fun v16 =>
 obind (unP .neg (celD a2 1)) fun v19 =>
 og (oneP v16) <|
 og (oneP v19) <|
 og (aggP 3 (D.agg [(eB false), v16, v19])) <|
 some (.inl [(eI 14), (celD a1 0), (celD a1 1), (celD a1 2), (eB false), v16, v19, (eB false), (eI 0), (eI 0)])
) (
 some (.inl [a0, (celD a1 0), (celD a1 1), (celD a1 2), (celD a2 0), (celD a2 1), (celD a2 2), (eB false), (eI 0), (eI 0)])
)
) <| jnX fun ls =>
 obind (binP false .eql (pd ls 0) (eI 14)) fun v22 =>
 oif v22 (
 obind (binP false .add (pd ls 2) (pd ls 5)) fun v27 =>
 obind (binP false .add (pd ls 3) (pd ls 6)) fun v32 =>
 obind (terms_spanL n [v27, v32]) fun v33 =>
 obind (extP 0 v33) fun v34 =>
 obind (extP 1 v33) fun v35 =>
 og (aggP 3 v34) <|
 some (D.tup [(D.agg [(celD v34 0), (celD v34 1), (celD v34 2)]), v35])
) (
 obind (binP false .mul (pd ls 2) (pd ls 5)) fun v40 =>
 obind (binP false .mul (pd ls 2) (pd ls 6)) fun v45 =>
 obind (binP false .mul (pd ls 3) (pd ls 5)) fun v50 =>
 obind (binP false .mul (pd ls 3) (pd ls 6)) fun v55 =>
 obind (mmP false [v40, v45, v50, v55]) fun v60 =>
 obind (mmP true [v40, v45, v50, v55]) fun v65 =>
 obind (terms_spanL n [v60, v65]) fun v66 =>
 obind (extP 0 v66) fun v67 =>
 obind (extP 1 v66) fun v68 =>
 og (aggP 3 v67) <|
 some (D.tup [(D.agg [(celD v67 0), (celD v67 1), (celD v67 2)]), v68])
)

def terms_reckonedL (n : Nat) : List D → Option D
  | [a0, a1, a2] => terms_reckoned n a0 a1 a2
  | _ => none
def terms_part (n : Nat) (a0 : D) (a1 : D) (a2 : D) (a3 : D) (a4 : D) : Option D :=
 og (aggP 4 a2) <|
 obind (
 obind (binP false .eql (celD a2 0) (eI 1)) fun v18 =>
 oif v18 (
 obind (terms_spanL n [(celD a2 1), (celD a2 1)]) fun v23 =>
 obind (extP 0 v23) fun v24 =>
 obind (extP 1 v23) fun v25 =>
 og (aggP 3 v24) <|
 inrX (
 some (D.tup [(D.agg [(celD v24 0), (celD v24 1), (celD v24 2)]), v25])
)
) (
 obind (binP false .eql (celD a2 0) (eI 2)) fun v27 =>
 oif v27 (
 inrX (
 some (D.tup [(D.agg [(eB true), (eI 0), (eI 0)]), (eI 0)])
)
) (
 obind (binP false .eql (celD a2 0) (eI 3)) fun v30 =>
 obind (
 oif v30 (
 some (.inl [a0, a1, a3, a4, (celD a2 0), v30, (celD a2 0), (celD a2 1), (celD a2 2), (celD a2 3), (eB false), (eI 0), (eI 0)])
) (
 obind (binP false .eql (celD a2 0) (eI 4)) fun v31 =>
 some (.inl [a0, a1, a3, a4, (celD a2 0), v31, (celD a2 0), (celD a2 1), (celD a2 2), (celD a2 3), (eB false), (eI 0), (eI 0)])
)
) <| jnX fun ls =>
 oif (pd ls 5) (
 obind (entP (pd ls 1)) fun es36 =>
 obind (lookP (.string) (.int .i64 0) true es36 (pd ls 8)) fun v36 =>
 obind (extP 0 v36) fun v37 =>
 obind (extP 1 v36) fun v38 =>
 obind (unP .not v38) fun v40 =>
 oif v40 (
 inrX (
 some (D.tup [(D.agg [(eB false), (eI 0), (eI 0)]), (eI 12)])
)
) (
 obind (binP false .eql (pd ls 6) (eI 4)) fun v44 =>
 obind (gD v44 true (
 obind (unP .not (pd ls 2)) fun v47 =>
 some v47
)) fun v47 =>
 obind (pickP v44 v47 (eB false)) fun v48 =>
 oif v48 (
 inrX (
 some (D.tup [(D.agg [(eB false), (eI 0), (eI 0)]), (eI 24)])
)
) (
 obind (ixP 4 (pd ls 0) v37) fun c52 =>
 obind (atP false 1 1 c52) fun v54 =>
 oif v54 (
 inrX (
 some (D.tup [(D.agg [(eB true), (eI 0), (eI 0)]), (eI 0)])
)
) (
 obind (ixP 4 (pd ls 0) v37) fun c58 =>
 obind (atP false 1 2 c58) fun v60 =>
 obind (ixP 4 (pd ls 0) v37) fun c63 =>
 obind (atP false 1 3 c63) fun v65 =>
 obind (terms_spanL n [v60, v65]) fun v66 =>
 obind (extP 0 v66) fun v67 =>
 obind (extP 1 v66) fun v68 =>
 og (aggP 3 v67) <|
 inrX (
 some (D.tup [(D.agg [(celD v67 0), (celD v67 1), (celD v67 2)]), v68])
)
)
)
)
) (
 obind (binP false .eql (pd ls 4) (eI 5)) fun v70 =>
 obind (
 oif v70 (
 some (.inl [(pd ls 3), (pd ls 4), v70, (pd ls 6), (pd ls 7), (pd ls 8), (pd ls 9), (pd ls 10), (pd ls 11), (pd ls 12)])
) (
 obind (binP false .eql (pd ls 4) (eI 6)) fun v71 =>
 obind (
 oif v71 (
 some (.inl [(pd ls 3), (pd ls 4), v71, (pd ls 6), (pd ls 7), (pd ls 8), (pd ls 9), (pd ls 10), (pd ls 11), (pd ls 12)])
) (
 obind (binP false .eql (pd ls 4) (eI 7)) fun v72 =>
 obind (
 oif v72 (
 some (.inl [(pd ls 3), (pd ls 4), v72, (pd ls 6), (pd ls 7), (pd ls 8), (pd ls 9), (pd ls 10), (pd ls 11), (pd ls 12)])
) (
 obind (binP false .eql (pd ls 4) (eI 8)) fun v73 =>
 obind (
 oif v73 (
 some (.inl [(pd ls 3), (pd ls 4), v73, (pd ls 6), (pd ls 7), (pd ls 8), (pd ls 9), (pd ls 10), (pd ls 11), (pd ls 12)])
) (
 obind (binP false .eql (pd ls 4) (eI 9)) fun v74 =>
 some (.inl [(pd ls 3), (pd ls 4), v74, (pd ls 6), (pd ls 7), (pd ls 8), (pd ls 9), (pd ls 10), (pd ls 11), (pd ls 12)])
)
) <| jnX fun ls =>
 some (.inl [(pd ls 0), (pd ls 1), (pd ls 2), (pd ls 3), (pd ls 4), (pd ls 5), (pd ls 6), (pd ls 7), (pd ls 8), (pd ls 9)])
)
) <| jnX fun ls =>
 some (.inl [(pd ls 0), (pd ls 1), (pd ls 2), (pd ls 3), (pd ls 4), (pd ls 5), (pd ls 6), (pd ls 7), (pd ls 8), (pd ls 9)])
)
) <| jnX fun ls =>
 some (.inl [(pd ls 0), (pd ls 1), (pd ls 2), (pd ls 3), (pd ls 4), (pd ls 5), (pd ls 6), (pd ls 7), (pd ls 8), (pd ls 9)])
)
) <| jnX fun ls =>
 oif (pd ls 2) (
 obind (terms_truthsL n [(pd ls 0)]) fun v76 =>
 obind (extP 0 v76) fun v77 =>
 obind (extP 1 v76) fun v78 =>
 og (aggP 3 v77) <|
 inrX (
 some (D.tup [(D.agg [(celD v77 0), (celD v77 1), (celD v77 2)]), v78])
)
) (
 obind (binP false .eql (pd ls 1) (eI 18)) fun v80 =>
 oif v80 (
 obind (ixP 3 (pd ls 0) (eI 0)) fun c82 =>
 obind (atP false 1 0 c82) fun v84 =>
 obind (unP .not v84) fun v85 =>
 obind (gD v85 false (
 obind (ixP 3 (pd ls 0) (eI 1)) fun c88 =>
 obind (atP false 1 0 c88) fun v90 =>
 obind (ixP 3 (pd ls 0) (eI 2)) fun c92 =>
 obind (atP false 1 0 c92) fun v94 =>
 obind (binP true .neq v90 v94) fun v95 =>
 some v95
)) fun v95 =>
 obind (pickP v85 (eB true) v95) fun v96 =>
 oif v96 (
 inrX (
 some (D.tup [(D.agg [(eB false), (eI 0), (eI 0)]), (eI 13)])
)
) (
 obind (ixP 3 (pd ls 0) (eI 1)) fun c99 =>
 obind (atP false 1 0 c99) fun v101 =>
 oif v101 (
 obind (ixP 3 (pd ls 0) (eI 1)) fun c103 =>
 obind (atP true 3 0 c103) fun v104 =>
 og (aggP 3 v104) <|
 inrX (
 some (D.tup [(D.agg [(celD v104 0), (celD v104 1), (celD v104 2)]), (eI 0)])
)
) (
 obind (ixP 3 (pd ls 0) (eI 1)) fun c106 =>
 obind (atP false 1 1 c106) fun v108 =>
 obind (ixP 3 (pd ls 0) (eI 2)) fun c110 =>
 obind (atP false 1 1 c110) fun v112 =>
 obind (mmP false [v108, v112]) fun v113 =>
 obind (ixP 3 (pd ls 0) (eI 1)) fun c115 =>
 obind (atP false 1 2 c115) fun v117 =>
 obind (ixP 3 (pd ls 0) (eI 2)) fun c119 =>
 obind (atP false 1 2 c119) fun v121 =>
 obind (mmP true [v117, v121]) fun v122 =>
 obind (terms_spanL n [v113, v122]) fun v123 =>
 obind (extP 0 v123) fun v124 =>
 obind (extP 1 v123) fun v125 =>
 og (aggP 3 v124) <|
 inrX (
 some (D.tup [(D.agg [(celD v124 0), (celD v124 1), (celD v124 2)]), v125])
)
)
)
) (
 obind (binP false .eql (pd ls 1) (eI 10)) fun v127 =>
 obind (
 oif v127 (
 some (.inl [(pd ls 0), v127, (pd ls 3), (pd ls 4), (pd ls 5), (pd ls 6), (pd ls 7), (pd ls 8), (pd ls 9)])
) (
 obind (binP false .eql (pd ls 1) (eI 11)) fun v128 =>
 some (.inl [(pd ls 0), v128, (pd ls 3), (pd ls 4), (pd ls 5), (pd ls 6), (pd ls 7), (pd ls 8), (pd ls 9)])
)
) <| jnX fun ls =>
 oif (pd ls 1) (
 obind (ixP 3 (pd ls 0) (eI 0)) fun c130 =>
 obind (atP false 1 0 c130) fun v132 =>
 obind (ixP 3 (pd ls 0) (eI 1)) fun c134 =>
 obind (atP false 1 0 c134) fun v136 =>
 obind (binP true .neq v132 v136) fun v137 =>
 oif v137 (
 inrX (
 some (D.tup [(D.agg [(eB false), (eI 0), (eI 0)]), (eI 13)])
)
) (
 inrX (
 some (D.tup [(D.agg [(eB true), (eI 0), (eI 0)]), (eI 0)])
)
)
) (
 some (.inl [(pd ls 0), (pd ls 2), (pd ls 3), (pd ls 4), (pd ls 5), (pd ls 6), (pd ls 7), (pd ls 8)])
)
)
)
)
)
)
) <| jnX fun ls =>
 obind (ixP 3 (pd ls 0) (eI 0)) fun c141 =>
 obind (atP false 1 0 c141) fun v143 =>
 obind (gD v143 false (
 obind (ixP 3 (pd ls 0) (eI 1)) fun c146 =>
 obind (atP false 1 0 c146) fun v148 =>
 some v148
)) fun v148 =>
 obind (pickP v143 (eB true) v148) fun v149 =>
 oif v149 (
 some (D.tup [(D.agg [(eB false), (eI 0), (eI 0)]), (eI 13)])
) (
 obind (binP false .eql (pd ls 1) (eI 12)) fun v165 =>
 obind (
 oif v165 (
 some (.inl [(pd ls 0), (pd ls 1), v165, (pd ls 1), (pd ls 2), (pd ls 3), (pd ls 4), (pd ls 5), (pd ls 6), (pd ls 7)])
) (
 obind (binP false .eql (pd ls 1) (eI 13)) fun v166 =>
 some (.inl [(pd ls 0), (pd ls 1), v166, (pd ls 1), (pd ls 2), (pd ls 3), (pd ls 4), (pd ls 5), (pd ls 6), (pd ls 7)])
)
) <| jnX fun ls =>
 oif (pd ls 2) (
 some (D.tup [(D.agg [(eB true), (eI 0), (eI 0)]), (eI 0)])
) (
 obind (binP false .eql (pd ls 1) (eI 17)) fun v169 =>
 oif v169 (
 obind (ixP 4 (pd ls 6) (eI 1)) fun c172 =>
 obind (atP true 4 0 c172) fun v173 =>
 og (aggP 4 v173) <|
 obind (binP false .neq (celD v173 0) (eI 1)) fun v176 =>
 obind (gD v176 false (
 obind (binP false .lss (celD v173 1) (eI 1)) fun v180 =>
 some v180
)) fun v180 =>
 obind (pickP v176 (eB true) v180) fun v181 =>
 oif v181 (
 some (D.tup [(D.agg [(eB false), (eI 0), (eI 0)]), (eI 2)])
) (
 obind (ixP 4 (pd ls 6) (eI 1)) fun c185 =>
 obind (atP false 1 1 c185) fun v187 =>
 obind (binP false .sub v187 (eI 1)) fun v188 =>
 obind (terms_spanL n [(eI 0), v188]) fun v189 =>
 obind (extP 0 v189) fun v190 =>
 obind (extP 1 v189) fun v191 =>
 og (aggP 3 v190) <|
 some (D.tup [(D.agg [(celD v190 0), (celD v190 1), (celD v190 2)]), v191])
)
) (
 obind (ixP 3 (pd ls 0) (eI 0)) fun c156 =>
 obind (atP true 3 0 c156) fun v157 =>
 obind (ixP 3 (pd ls 0) (eI 1)) fun c159 =>
 obind (atP true 3 0 c159) fun v160 =>
 obind (terms_reckonedL n [(pd ls 3), v157, v160]) fun v161 =>
 obind (extP 0 v161) fun v162 =>
 obind (extP 1 v161) fun v163 =>
 og (aggP 3 v162) <|
 some (D.tup [(D.agg [(celD v162 0), (celD v162 1), (celD v162 2)]), v163])
)
)
)

def terms_partL (n : Nat) : List D → Option D
  | [a0, a1, a2, a3, a4] => terms_part n a0 a1 a2 a3 a4
  | _ => none
def terms_typed_l3 (r_terms_typed : List D → Option D) (n : Nat) (ls : List D) : Option (List D ⊕ (List D ⊕ D)) :=
 obind (binP false .lss (pd ls 5) (pd ls 4)) fun v19 =>
 oif v19 (
 obind (ixP 4 (pd ls 3) (pd ls 5)) fun c20 =>
 obind (atP true 4 0 c20) fun v21 =>
 og (aggP 4 v21) <|
 obind (r_terms_typed [(pd ls 0), (pd ls 1), (D.agg [(celD v21 0), (celD v21 1), (celD v21 2), (celD v21 3)]), (pd ls 2)]) fun v27 =>
 obind (extP 0 v27) fun v28 =>
 obind (extP 1 v27) fun v29 =>
 og (aggP 3 v28) <|
 obind (binP false .neq v29 (eI 0)) fun v31 =>
 oif v31 (
 inrX (
 inrX (
 some (D.tup [(D.agg [(eB false), (eI 0), (eI 0)]), v29])
)
)
) (
 og (aggP 3 (D.agg [(celD v28 0), (celD v28 1), (celD v28 2)])) <|
 og (roomP (((esD (pd ls 13))).length + ([[(celD v28 0), (celD v28 1), (celD v28 2)]]).length) 24) <|
 obind (binP false .add (pd ls 5) (eI 1)) fun v38 =>
 some (.inl [(pd ls 0), (pd ls 1), (pd ls 2), (pd ls 3), (pd ls 4), v38, (pd ls 6), (pd ls 7), (pd ls 8), (pd ls 9), (pd ls 10), (pd ls 11), (pd ls 12), (D.sl 3 ((esD (pd ls 13)) ++ [[(celD v28 0), (celD v28 1), (celD v28 2)]]))])
)
) (
 inrX (
 some (.inl [(pd ls 0), (pd ls 1), (pd ls 2), (pd ls 6), (pd ls 7), (pd ls 8), (pd ls 9), (pd ls 10), (pd ls 11), (pd ls 12), (D.sl 3 (esD (pd ls 13)))])
)
)

def terms_typed (r_terms_typed : List D → Option D) (n : Nat) (a0 : D) (a1 : D) (a2 : D) (a3 : D) : Option D :=
 og (aggP 4 a2) <|
 obind (lenP (celD a2 3)) fun v17 =>
 obind (
 iterL (terms_typed_l3 r_terms_typed n) n [a0, a1, a3, (celD a2 3), v17, (eI 0), (celD a2 0), (celD a2 1), (celD a2 2), (celD a2 3), (eB false), (eI 0), (eI 0), (D.sl 3 [])]
) <| jnX fun ls =>
 obind (terms_partL n [(pd ls 0), (pd ls 1), (D.agg [(pd ls 3), (pd ls 4), (pd ls 5), (pd ls 6)]), (pd ls 2), (D.sl 3 (esD (pd ls 10)))]) fun v44 =>
 og v44.flat <|
 obind (extP 0 v44) fun v45 =>
 obind (extP 1 v44) fun v46 =>
 og (aggP 3 v45) <|
 some (D.tup [(D.agg [(celD v45 0), (celD v45 1), (celD v45 2)]), v46])

def terms_typedL : Nat → List D → Option D
  | 0, _ => none
  | n + 1, ds => match ds with
    | [a0, a1, a2, a3] => terms_typed (terms_typedL n) n a0 a1 a2 a3
    | _ => none
def terms_truth (n : Nat) (a0 : D) : Option D :=
 oif a0 (
 some (D.tup [(eI 1), (eB true)])
) (
 some (D.tup [(eI 0), (eB true)])
)

def terms_truthL (n : Nat) : List D → Option D
  | [a0] => terms_truth n a0
  | _ => none
def num_held (n : Nat) (a0 : D) (a1 : D) : Option D :=
 obind (unP .not a1) fun v7 =>
 obind (gD v7 false (
 obind (binP false .lss a0 (eI (-9007199254740992))) fun v10 =>
 some v10
)) fun v10 =>
 obind (pickP v7 (eB true) v10) fun v11 =>
 obind (gD v11 false (
 obind (binP false .gtr a0 (eI 9007199254740992)) fun v14 =>
 some v14
)) fun v14 =>
 obind (pickP v11 (eB true) v14) fun v15 =>
 oif v15 (
 some (D.tup [(eI 0), (eB false)])
) (
 some (D.tup [a0, (eB true)])
)

def num_heldL (n : Nat) : List D → Option D
  | [a0, a1] => num_held n a0 a1
  | _ => none
def num_Add (n : Nat) (a0 : D) (a1 : D) : Option D :=
 obind (binP false .add a0 a1) fun v8 =>
 obind (binP false .lss a0 (eI 0)) fun v11 =>
 obind (binP false .lss a1 (eI 0)) fun v13 =>
 obind (binP true .neq v11 v13) fun v14 =>
 obind (gD v14 false (
 obind (binP false .lss a0 (eI 0)) fun v17 =>
 obind (binP false .lss v8 (eI 0)) fun v19 =>
 obind (binP true .eql v17 v19) fun v20 =>
 some v20
)) fun v20 =>
 obind (pickP v14 (eB true) v20) fun v21 =>
 obind (num_heldL n [v8, v21]) fun v22 =>
 obind (extP 0 v22) fun v23 =>
 obind (extP 1 v22) fun v24 =>
 some (D.tup [v23, v24])

def num_AddL (n : Nat) : List D → Option D
  | [a0, a1] => num_Add n a0 a1
  | _ => none
def num_size (n : Nat) (a0 : D) : Option D :=
 obind (binP false .lss a0 (eI 0)) fun v4 =>
 oif v4 (
 obind (cvP .u64 a0) fun v6 =>
 obind (unP .neg v6) fun v7 =>
 some v7
) (
 obind (cvP .u64 a0) fun v9 =>
 some v9
)

def num_sizeL (n : Nat) : List D → Option D
  | [a0] => num_size n a0
  | _ => none
def math_bits_Mul64 (n : Nat) (a0 : D) (a1 : D) : Option D :=
 obind (binP false .and a0 (D.val (.int .u64 4294967295))) fun v15 =>
 obind (binP false .shr a0 (D.val (.int .u64 32))) fun v17 =>
 obind (binP false .and a1 (D.val (.int .u64 4294967295))) fun v19 =>
 obind (binP false .shr a1 (D.val (.int .u64 32))) fun v21 =>
 obind (binP false .mul v15 v19) fun v24 =>
 obind (binP false .mul v17 v19) fun v27 =>
 obind (binP false .shr v24 (D.val (.int .u64 32))) fun v29 =>
 obind (binP false .add v27 v29) fun v30 =>
 obind (binP false .and v30 (D.val (.int .u64 4294967295))) fun v32 =>
 obind (binP false .shr v30 (D.val (.int .u64 32))) fun v34 =>
 obind (binP false .mul v15 v21) fun v38 =>
 obind (binP false .add v32 v38) fun v39 =>
 obind (binP false .mul v17 v21) fun v42 =>
 obind (binP false .add v42 v34) fun v44 =>
 obind (binP false .shr v39 (D.val (.int .u64 32))) fun v46 =>
 obind (binP false .add v44 v46) fun v47 =>
 obind (binP false .mul a0 a1) fun v50 =>
 some (D.tup [v47, v50])

def math_bits_Mul64L (n : Nat) : List D → Option D
  | [a0, a1] => math_bits_Mul64 n a0 a1
  | _ => none
def num_Mul (n : Nat) (a0 : D) (a1 : D) : Option D :=
 obind (num_sizeL n [a0]) fun v10 =>
 obind (num_sizeL n [a1]) fun v12 =>
 obind (math_bits_Mul64L n [v10, v12]) fun v13 =>
 obind (extP 0 v13) fun v14 =>
 obind (extP 1 v13) fun v15 =>
 obind (binP false .neq v14 (D.val (.int .u64 0))) fun v17 =>
 obind (gD v17 false (
 obind (binP false .gtr v15 (D.val (.int .u64 9007199254740992))) fun v20 =>
 some v20
)) fun v20 =>
 obind (pickP v17 (eB true) v20) fun v21 =>
 oif v21 (
 some (D.tup [(eI 0), (eB false)])
) (
 obind (binP false .lss a0 (eI 0)) fun v23 =>
 obind (binP false .lss a1 (eI 0)) fun v25 =>
 obind (binP true .neq v23 v25) fun v26 =>
 oif v26 (
 obind (cvP .i64 v15) fun v28 =>
 obind (unP .neg v28) fun v29 =>
 some (D.tup [v29, (eB true)])
) (
 obind (cvP .i64 v15) fun v31 =>
 some (D.tup [v31, (eB true)])
)
)

def num_MulL (n : Nat) : List D → Option D
  | [a0, a1] => num_Mul n a0 a1
  | _ => none
def terms_joined_l29 (n : Nat) (ls : List D) : Option (List D ⊕ (List D ⊕ D)) :=
 obind (binP false .lss (pd ls 4) (pd ls 3)) fun v150 =>
 oif v150 (
 obind (ixP 1 (pd ls 2) (pd ls 4)) fun c151 =>
 obind (atP false 1 0 c151) fun v152 =>
 obind (binP false .add (pd ls 1) v152) fun v155 =>
 obind (binP false .add (pd ls 4) (eI 1)) fun v156 =>
 some (.inl [(pd ls 0), v155, (pd ls 2), (pd ls 3), v156, (pd ls 5), (pd ls 6), (pd ls 7), (pd ls 8)])
) (
 inrX (
 some (.inl [(pd ls 0), (pd ls 1), (pd ls 5), (pd ls 6), (pd ls 7), (pd ls 8)])
)
)

def terms_joined (n : Nat) (a0 : D) (a1 : D) : Option D :=
 og (aggP 4 a0) <|
 obind (binP false .eql (celD a0 0) (eI 5)) fun v12 =>
 oif v12 (
 obind (ixP 1 a1 (eI 0)) fun c14 =>
 obind (atP false 1 0 c14) fun v15 =>
 obind (binP false .eql v15 (eI 0)) fun v16 =>
 obind (terms_truthL n [v16]) fun v17 =>
 obind (extP 0 v17) fun v18 =>
 obind (extP 1 v17) fun v19 =>
 some (D.tup [v18, v19])
) (
 obind (binP false .eql (celD a0 0) (eI 8)) fun v21 =>
 oif v21 (
 obind (ixP 1 a1 (eI 0)) fun c23 =>
 obind (atP false 1 0 c23) fun v24 =>
 obind (binP false .eql v24 (eI 0)) fun v25 =>
 obind (gD v25 false (
 obind (ixP 1 a1 (eI 1)) fun c28 =>
 obind (atP false 1 0 c28) fun v29 =>
 obind (binP false .neq v29 (eI 0)) fun v30 =>
 some v30
)) fun v30 =>
 obind (pickP v25 (eB true) v30) fun v31 =>
 obind (terms_truthL n [v31]) fun v32 =>
 obind (extP 0 v32) fun v33 =>
 obind (extP 1 v32) fun v34 =>
 some (D.tup [v33, v34])
) (
 obind (binP false .eql (celD a0 0) (eI 9)) fun v36 =>
 obind (
 oif v36 (
 some (.inl [a1, (celD a0 0), v36, (celD a0 0), (celD a0 1), (celD a0 2), (celD a0 3)])
) (
 obind (binP false .eql (celD a0 0) (eI 10)) fun v37 =>
 some (.inl [a1, (celD a0 0), v37, (celD a0 0), (celD a0 1), (celD a0 2), (celD a0 3)])
)
) <| jnX fun ls =>
 oif (pd ls 2) (
 obind (ixP 1 (pd ls 0) (eI 0)) fun c39 =>
 obind (atP false 1 0 c39) fun v40 =>
 obind (ixP 1 (pd ls 0) (eI 1)) fun c42 =>
 obind (atP false 1 0 c42) fun v43 =>
 obind (binP false .eql v40 v43) fun v44 =>
 obind (terms_truthL n [v44]) fun v45 =>
 obind (extP 0 v45) fun v46 =>
 obind (extP 1 v45) fun v47 =>
 some (D.tup [v46, v47])
) (
 obind (binP false .eql (pd ls 1) (eI 11)) fun v49 =>
 oif v49 (
 obind (ixP 1 (pd ls 0) (eI 0)) fun c51 =>
 obind (atP false 1 0 c51) fun v52 =>
 obind (ixP 1 (pd ls 0) (eI 1)) fun c54 =>
 obind (atP false 1 0 c54) fun v55 =>
 obind (binP false .neq v52 v55) fun v56 =>
 obind (terms_truthL n [v56]) fun v57 =>
 obind (extP 0 v57) fun v58 =>
 obind (extP 1 v57) fun v59 =>
 some (D.tup [v58, v59])
) (
 obind (binP false .eql (pd ls 1) (eI 12)) fun v61 =>
 oif v61 (
 obind (ixP 1 (pd ls 0) (eI 0)) fun c63 =>
 obind (atP false 1 0 c63) fun v64 =>
 obind (ixP 1 (pd ls 0) (eI 1)) fun c66 =>
 obind (atP false 1 0 c66) fun v67 =>
 obind (binP false .lss v64 v67) fun v68 =>
 obind (terms_truthL n [v68]) fun v69 =>
 obind (extP 0 v69) fun v70 =>
 obind (extP 1 v69) fun v71 =>
 some (D.tup [v70, v71])
) (
 obind (binP false .eql (pd ls 1) (eI 13)) fun v73 =>
 oif v73 (
 obind (ixP 1 (pd ls 0) (eI 0)) fun c75 =>
 obind (atP false 1 0 c75) fun v76 =>
 obind (ixP 1 (pd ls 0) (eI 1)) fun c78 =>
 obind (atP false 1 0 c78) fun v79 =>
 obind (binP false .leq v76 v79) fun v80 =>
 obind (terms_truthL n [v80]) fun v81 =>
 obind (extP 0 v81) fun v82 =>
 obind (extP 1 v81) fun v83 =>
 some (D.tup [v82, v83])
) (
 obind (binP false .eql (pd ls 1) (eI 14)) fun v85 =>
 oif v85 (
 obind (ixP 1 (pd ls 0) (eI 0)) fun c87 =>
 obind (atP false 1 0 c87) fun v88 =>
 obind (ixP 1 (pd ls 0) (eI 1)) fun c90 =>
 obind (atP false 1 0 c90) fun v91 =>
 obind (num_AddL n [v88, v91]) fun v92 =>
 obind (extP 0 v92) fun v93 =>
 obind (extP 1 v92) fun v94 =>
 some (D.tup [v93, v94])
) (
 obind (binP false .eql (pd ls 1) (eI 15)) fun v96 =>
 oif v96 (
 obind (ixP 1 (pd ls 0) (eI 0)) fun c98 =>
 obind (atP false 1 0 c98) fun v99 =>
 obind (ixP 1 (pd ls 0) (eI 1)) fun c101 =>
 obind (atP false 1 0 c101) fun v102 =>
 obind (unP .neg v102) fun v103 =>
 obind (num_AddL n [v99, v103]) fun v104 =>
 obind (extP 0 v104) fun v105 =>
 obind (extP 1 v104) fun v106 =>
 some (D.tup [v105, v106])
) (
 obind (binP false .eql (pd ls 1) (eI 16)) fun v108 =>
 oif v108 (
 obind (ixP 1 (pd ls 0) (eI 0)) fun c110 =>
 obind (atP false 1 0 c110) fun v111 =>
 obind (ixP 1 (pd ls 0) (eI 1)) fun c113 =>
 obind (atP false 1 0 c113) fun v114 =>
 obind (num_MulL n [v111, v114]) fun v115 =>
 obind (extP 0 v115) fun v116 =>
 obind (extP 1 v115) fun v117 =>
 some (D.tup [v116, v117])
) (
 obind (binP false .eql (pd ls 1) (eI 17)) fun v119 =>
 oif v119 (
 obind (ixP 1 (pd ls 0) (eI 0)) fun c121 =>
 obind (atP false 1 0 c121) fun v122 =>
 obind (ixP 1 (pd ls 0) (eI 1)) fun c124 =>
 obind (atP false 1 0 c124) fun v125 =>
 obind (binP false .rem v122 v125) fun v126 =>
 obind (ixP 1 (pd ls 0) (eI 1)) fun c128 =>
 obind (atP false 1 0 c128) fun v129 =>
 obind (binP false .add v126 v129) fun v130 =>
 obind (ixP 1 (pd ls 0) (eI 1)) fun c132 =>
 obind (atP false 1 0 c132) fun v133 =>
 obind (binP false .rem v130 v133) fun v134 =>
 some (D.tup [v134, (eB true)])
) (
 obind (binP false .eql (pd ls 1) (eI 18)) fun v136 =>
 oif v136 (
 obind (ixP 1 (pd ls 0) (eI 0)) fun c138 =>
 obind (atP false 1 0 c138) fun v139 =>
 obind (binP false .neq v139 (eI 0)) fun v140 =>
 oif v140 (
 obind (ixP 1 (pd ls 0) (eI 1)) fun c142 =>
 obind (atP false 1 0 c142) fun v143 =>
 some (D.tup [v143, (eB true)])
) (
 obind (ixP 1 (pd ls 0) (eI 2)) fun c145 =>
 obind (atP false 1 0 c145) fun v146 =>
 some (D.tup [v146, (eB true)])
)
) (
 obind (lenP (pd ls 0)) fun v148 =>
 obind (
 iterL (terms_joined_l29 n) n [(pd ls 0), (eI 0), (pd ls 0), v148, (eI 0), (pd ls 3), (pd ls 4), (pd ls 5), (pd ls 6)]
) <| jnX fun ls =>
 obind (lenP (pd ls 0)) fun v159 =>
 obind (binP false .eql (pd ls 1) v159) fun v160 =>
 obind (gD v160 false (
 obind (binP false .eql (pd ls 2) (eI 7)) fun v164 =>
 some v164
)) fun v165 =>
 obind (gD v165 true (
 obind (binP false .gtr (pd ls 1) (eI 0)) fun v167 =>
 some v167
)) fun v167 =>
 obind (gD v160 false (
 obind (pickP v165 v167 (eB false)) fun v168 =>
 some v168
)) fun v168 =>
 obind (pickP v160 (eB true) v168) fun v169 =>
 obind (terms_truthL n [v169]) fun v170 =>
 obind (extP 0 v170) fun v171 =>
 obind (extP 1 v170) fun v172 =>
 some (D.tup [v171, v172])
)
)
)
)
)
)
)
)
)
)
)

def terms_joinedL (n : Nat) : List D → Option D
  | [a0, a1] => terms_joined n a0 a1
  | _ => none
def terms_Eval_1_h_l3 (r_terms_Eval_1_h : List D → Option (List D)) (n : Nat) (ls : List D) : Option (List D ⊕ (List D ⊕ (List D))) :=
 obind (binP false .lss (pd ls 2) (pd ls 1)) fun v20 =>
 oif v20 (
 obind (ixP 4 (pd ls 0) (pd ls 2)) fun c21 =>
 obind (atP true 4 0 c21) fun v22 =>
 og (aggP 4 v22) <|
 obind (r_terms_Eval_1_h [(D.agg [(celD v22 0), (celD v22 1), (celD v22 2), (celD v22 3)]), (pd ls 3), (pd ls 4), (pd ls 5), (pd ls 6)]) fun h2 =>
 obind (extP 0 (pd h2 0)) fun v27 =>
 obind (extP 1 (pd h2 0)) fun v28 =>
 obind (unP .not v28) fun v30 =>
 oif v30 (
 inrX (
 inrX (
 some [(D.tup [(eI 0), (eB false)]), (pd h2 1), (pd h2 2), (pd h2 3), (pd h2 4)]
)
)
) (
 og (oneP v27) <|
 og (roomP (((esD (pd ls 11))).length + ([[v27]]).length) 8) <|
 obind (binP false .add (pd ls 2) (eI 1)) fun v35 =>
 some (.inl [(pd ls 0), (pd ls 1), v35, (pd h2 1), (pd h2 2), (pd h2 3), (pd h2 4), (pd ls 7), (pd ls 8), (pd ls 9), (pd ls 10), (D.sl 1 ((esD (pd ls 11)) ++ [[v27]]))])
)
) (
 inrX (
 some (.inl [(pd ls 3), (pd ls 4), (pd ls 5), (pd ls 6), (pd ls 7), (pd ls 8), (pd ls 9), (pd ls 10), (D.sl 1 (esD (pd ls 11)))])
)
)

def terms_Eval_1_h (r_terms_Eval_1_h : List D → Option (List D)) (n : Nat) (ls : List D) : Option (List D) :=
 og (aggP 4 (pd ls 0)) <|
 obind (lenP (celD (pd ls 0) 3)) fun v18 =>
 obind (
 iterL (terms_Eval_1_h_l3 r_terms_Eval_1_h n) n [(celD (pd ls 0) 3), v18, (eI 0), (pd ls 1), (pd ls 2), (pd ls 3), (pd ls 4), (celD (pd ls 0) 0), (celD (pd ls 0) 1), (celD (pd ls 0) 2), (celD (pd ls 0) 3), (D.sl 1 [])]
) <| jnX fun ls =>
 obind (binP false .eql (pd ls 4) (eI 1)) fun v44 =>
 obind (
 oif v44 (
 some (.inl [(pd ls 4), v44, (pd ls 0), (pd ls 1), (pd ls 2), (pd ls 3), (pd ls 4), (pd ls 5), (pd ls 6), (pd ls 7), (D.sl 1 (esD (pd ls 8)))])
) (
 obind (binP false .eql (pd ls 4) (eI 2)) fun v45 =>
 some (.inl [(pd ls 4), v45, (pd ls 0), (pd ls 1), (pd ls 2), (pd ls 3), (pd ls 4), (pd ls 5), (pd ls 6), (pd ls 7), (D.sl 1 (esD (pd ls 8)))])
)
) <| jnX fun ls =>
 oif (pd ls 1) (
 some [(D.tup [(pd ls 7), (eB true)]), (pd ls 2), (pd ls 3), (pd ls 4), (pd ls 5)]
) (
 obind (binP false .eql (pd ls 0) (eI 3)) fun v49 =>
 obind (
 oif v49 (
 some (.inl [v49, (pd ls 2), (pd ls 3), (pd ls 4), (pd ls 5), (pd ls 6), (pd ls 7), (pd ls 8), (pd ls 9), (D.sl 1 (esD (pd ls 10)))])
) (
 obind (binP false .eql (pd ls 0) (eI 4)) fun v50 =>
 some (.inl [v50, (pd ls 2), (pd ls 3), (pd ls 4), (pd ls 5), (pd ls 6), (pd ls 7), (pd ls 8), (pd ls 9), (D.sl 1 (esD (pd ls 10)))])
)
) <| jnX fun ls =>
 oif (pd ls 0) (
 obind (entP (pd ls 2)) fun es55 =>
 obind (lookP (.string) (.int .i64 0) false es55 (pd ls 7)) fun v55 =>
 obind (binP false .eql (pd ls 5) (eI 4)) fun v58 =>
 obind (
 oif v58 (
 some (.inl [(pd ls 3), v55, (pd ls 4), (pd ls 1), (pd ls 2), (pd ls 3)])
) (
 some (.inl [(pd ls 1), v55, (pd ls 4), (pd ls 1), (pd ls 2), (pd ls 3)])
)
) <| jnX fun ls =>
 obind (lenP (pd ls 0)) fun v61 =>
 obind (lenP (pd ls 2)) fun v63 =>
 obind (binP false .neq v61 v63) fun v64 =>
 oif v64 (
 some [(D.tup [(eI 0), (eB false)]), (pd ls 3), (pd ls 4), (pd ls 5), (pd ls 2)]
) (
 obind (ixP 4 (pd ls 2) (pd ls 1)) fun c67 =>
 obind (atP false 1 1 c67) fun v69 =>
 oif v69 (
 obind (ixP 1 (pd ls 0) (pd ls 1)) fun c72 =>
 obind (atP false 1 0 c72) fun v73 =>
 obind (binP false .neq v73 (eI 0)) fun v74 =>
 obind (terms_truthL n [v74]) fun v75 =>
 obind (extP 0 v75) fun v76 =>
 obind (extP 1 v75) fun v77 =>
 some [(D.tup [v76, v77]), (pd ls 3), (pd ls 4), (pd ls 5), (pd ls 2)]
) (
 obind (ixP 1 (pd ls 0) (pd ls 1)) fun c80 =>
 obind (atP false 1 0 c80) fun v81 =>
 obind (num_AddL n [v81, (eI 0)]) fun v82 =>
 obind (extP 0 v82) fun v83 =>
 obind (extP 1 v82) fun v84 =>
 some [(D.tup [v83, v84]), (pd ls 3), (pd ls 4), (pd ls 5), (pd ls 2)]
)
)
) (
 obind (terms_joinedL n [(D.agg [(pd ls 5), (pd ls 6), (pd ls 7), (pd ls 8)]), (D.sl 1 (esD (pd ls 9)))]) fun v40 =>
 og v40.flat <|
 obind (extP 0 v40) fun v41 =>
 obind (extP 1 v40) fun v42 =>
 some [(D.tup [v41, v42]), (pd ls 1), (pd ls 2), (pd ls 3), (pd ls 4)]
)
)

def terms_Eval_1_hL : Nat → List D → Option (List D)
  | 0, _ => none
  | n + 1, ls => terms_Eval_1_h (terms_Eval_1_hL n) n ls
def ref30_Kids (n : Nat) (a0 : D) : Option D :=
 obind (
 obind (binP false .eql a0 (eI 1)) fun v6 =>
 obind (
 oif v6 (
 some (.inl [a0, a0, v6])
) (
 obind (binP false .eql a0 (eI 2)) fun v7 =>
 obind (
 oif v7 (
 some (.inl [a0, a0, v7])
) (
 obind (binP false .eql a0 (eI 3)) fun v8 =>
 obind (
 oif v8 (
 some (.inl [a0, a0, v8])
) (
 obind (binP false .eql a0 (eI 4)) fun v9 =>
 some (.inl [a0, a0, v9])
)
) <| jnX fun ls =>
 some (.inl [(pd ls 0), (pd ls 1), (pd ls 2)])
)
) <| jnX fun ls =>
 some (.inl [(pd ls 0), (pd ls 1), (pd ls 2)])
)
) <| jnX fun ls =>
 oif (pd ls 2) (
 inrX (
 some (D.tup [(eI 0), (eI 0)])
)
) (
 obind (binP false .eql (pd ls 1) (eI 5)) fun v11 =>
 oif v11 (
 inrX (
 some (D.tup [(eI 1), (eI 1)])
)
) (
 obind (binP false .eql (pd ls 1) (eI 6)) fun v13 =>
 obind (
 oif v13 (
 some (.inl [(pd ls 0), (pd ls 1), v13])
) (
 obind (binP false .eql (pd ls 1) (eI 7)) fun v14 =>
 some (.inl [(pd ls 0), (pd ls 1), v14])
)
) <| jnX fun ls =>
 oif (pd ls 2) (
 inrX (
 some (D.tup [(eI 1), (eI 64)])
)
) (
 obind (binP false .eql (pd ls 1) (eI 18)) fun v16 =>
 oif v16 (
 inrX (
 some (D.tup [(eI 3), (eI 3)])
)
) (
 some (.inl [(pd ls 0)])
)
)
)
)
) <| jnX fun ls =>
 obind (binP false .lss (pd ls 0) (eI 1)) fun v18 =>
 obind (gD v18 false (
 obind (binP false .gtr (pd ls 0) (eI 18)) fun v21 =>
 some v21
)) fun v21 =>
 obind (pickP v18 (eB true) v21) fun v22 =>
 oif v22 (
 some (D.tup [(eI (-1)), (eI (-1))])
) (
 some (D.tup [(eI 2), (eI 2)])
)

def ref30_KidsL (n : Nat) : List D → Option D
  | [a0] => ref30_Kids n a0
  | _ => none
def ref30_Part (n : Nat) (a0 : D) (a1 : D) : Option D :=
 og (aggP 4 a0) <|
 obind (binP false .gtr a1 (eI 64)) fun v11 =>
 oif v11 (
 some (eI 17)
) (
 obind (ref30_KidsL n [(celD a0 0)]) fun v15 =>
 obind (extP 0 v15) fun v16 =>
 obind (extP 1 v15) fun v17 =>
 obind (binP false .lss v16 (eI 0)) fun v19 =>
 oif v19 (
 some (eI 11)
) (
 obind (binP false .eql (celD a0 0) (eI 1)) fun v22 =>
 obind (
 oif v22 (
 some (.inl [v16, v17, (eI (-255)), (eI 255), (celD a0 0), (celD a0 1), (celD a0 2), (celD a0 3)])
) (
 some (.inl [v16, v17, (eI 0), (eI 0), (celD a0 0), (celD a0 1), (celD a0 2), (celD a0 3)])
)
) <| jnX fun ls =>
 obind (binP false .eql (pd ls 4) (eI 2)) fun v25 =>
 obind (
 oif v25 (
 some (.inl [(pd ls 0), (pd ls 1), (pd ls 2), (eI 1), (pd ls 4), (pd ls 5), (pd ls 6), (pd ls 7)])
) (
 some (.inl [(pd ls 0), (pd ls 1), (pd ls 2), (pd ls 3), (pd ls 4), (pd ls 5), (pd ls 6), (pd ls 7)])
)
) <| jnX fun ls =>
 obind (binP false .lss (pd ls 5) (pd ls 2)) fun v29 =>
 obind (gD v29 false (
 obind (binP false .gtr (pd ls 5) (pd ls 3)) fun v34 =>
 some v34
)) fun v34 =>
 obind (pickP v29 (eB true) v34) fun v35 =>
 oif v35 (
 some (eI 2)
) (
 obind (binP false .eql (pd ls 4) (eI 3)) fun v38 =>
 obind (gD v38 false (
 obind (binP false .eql (pd ls 4) (eI 4)) fun v42 =>
 some v42
)) fun v42 =>
 obind (pickP v38 (eB true) v42) fun v43 =>
 obind (gD v43 true (
 obind (lensP (pd ls 6)) fun v48 =>
 obind (binP false .lss v48 (eI 1)) fun v49 =>
 some v49
)) fun v50 =>
 obind (gD v50 false (
 obind (lensP (pd ls 6)) fun v53 =>
 obind (binP false .gtr v53 (eI 24)) fun v54 =>
 some v54
)) fun v54 =>
 obind (gD v43 true (
 obind (pickP v50 (eB true) v54) fun v55 =>
 some v55
)) fun v55 =>
 obind (pickP v43 v55 (eB false)) fun v56 =>
 obind (gD v56 false (
 obind (unP .not v43) fun v59 =>
 some v59
)) fun v60 =>
 obind (gD v60 true (
 obind (binP false .neq (pd ls 6) (eS ⟨#[]⟩)) fun v63 =>
 some v63
)) fun v63 =>
 obind (gD v56 false (
 obind (pickP v60 v63 (eB false)) fun v64 =>
 some v64
)) fun v64 =>
 obind (pickP v56 (eB true) v64) fun v65 =>
 oif v65 (
 some (eI 12)
) (
 obind (lenP (pd ls 7)) fun v68 =>
 obind (binP false .lss v68 (pd ls 0)) fun v70 =>
 obind (gD v70 false (
 obind (lenP (pd ls 7)) fun v74 =>
 obind (binP false .gtr v74 (pd ls 1)) fun v76 =>
 some v76
)) fun v76 =>
 obind (pickP v70 (eB true) v76) fun v77 =>
 oif v77 (
 some (eI 3)
) (
 some (eI 0)
)
)
)
)
)

def ref30_PartL (n : Nat) : List D → Option D
  | [a0, a1] => ref30_Part n a0 a1
  | _ => none
def ref30_check_l8 (r_ref30_check : List D → Option D) (n : Nat) (ls : List D) : Option (List D ⊕ (List D ⊕ D)) :=
 obind (lenP (pd ls 6)) fun v27 =>
 obind (binP false .lss (pd ls 2) v27) fun v28 =>
 oif v28 (
 obind (ixP 4 (pd ls 6) (pd ls 2)) fun c35 =>
 obind (atP true 4 0 c35) fun v36 =>
 obind (binP false .add (pd ls 0) (eI 1)) fun v38 =>
 obind (r_ref30_check [v36, v38, (pd ls 1)]) fun v40 =>
 obind (extP 0 v40) fun v41 =>
 obind (extP 1 v40) fun v42 =>
 obind (binP false .neq v41 (eI 0)) fun v44 =>
 oif v44 (
 inrX (
 inrX (
 some (D.tup [v41, v42])
)
)
) (
 obind (binP false .add (pd ls 2) (eI 1)) fun v30 =>
 some (.inl [(pd ls 0), v42, v30, (pd ls 3), (pd ls 4), (pd ls 5), (pd ls 6)])
)
) (
 inrX (
 some (.inl [(pd ls 1)])
)
)

def ref30_check (r_ref30_check : List D → Option D) (n : Nat) (a0 : D) (a1 : D) (a2 : D) : Option D :=
 og (aggP 4 a0) <|
 obind (binP false .add a2 (eI 1)) fun v13 =>
 obind (ref30_PartL n [(D.agg [(celD a0 0), (celD a0 1), (celD a0 2), (celD a0 3)]), a1]) fun v16 =>
 obind (binP false .neq v16 (eI 0)) fun v18 =>
 oif v18 (
 some (D.tup [v16, v13])
) (
 obind (binP false .gtr v13 (eI 4096)) fun v22 =>
 oif v22 (
 some (D.tup [(eI 4), v13])
) (
 obind (
 iterL (ref30_check_l8 r_ref30_check n) n [a1, v13, (eI 0), (celD a0 0), (celD a0 1), (celD a0 2), (celD a0 3)]
) <| jnX fun ls =>
 some (D.tup [(eI 0), (pd ls 0)])
)
)

def ref30_checkL : Nat → List D → Option D
  | 0, _ => none
  | n + 1, ds => match ds with
    | [a0, a1, a2] => ref30_check (ref30_checkL n) n a0 a1 a2
    | _ => none
def ref30_Check (n : Nat) (a0 : D) : Option D :=
 og (aggP 4 a0) <|
 obind (ref30_checkL n [(D.agg [(celD a0 0), (celD a0 1), (celD a0 2), (celD a0 3)]), (eI 1), (eI 0)]) fun v7 =>
 obind (extP 0 v7) fun v8 =>
 obind (extP 1 v7) fun v9 =>
 some v8

def ref30_CheckL (n : Nat) : List D → Option D
  | [a0] => ref30_Check n a0
  | _ => none
def ref30_numbers (n : Nat) (a0 : D) (a1 : D) : Option D :=
 obind (unP .neg (eI 1048576)) fun v9 =>
 obind (binP false .lss a0 v9) fun v10 =>
 obind (gD v10 false (
 obind (binP false .gtr a0 (eI 1048576)) fun v14 =>
 some v14
)) fun v14 =>
 obind (pickP v10 (eB true) v14) fun v15 =>
 obind (gD v15 false (
 obind (unP .neg (eI 1048576)) fun v19 =>
 obind (binP false .lss a1 v19) fun v20 =>
 some v20
)) fun v20 =>
 obind (pickP v15 (eB true) v20) fun v21 =>
 obind (gD v21 false (
 obind (binP false .gtr a1 (eI 1048576)) fun v25 =>
 some v25
)) fun v25 =>
 obind (pickP v21 (eB true) v25) fun v26 =>
 obind (gD v26 false (
 obind (binP false .lss a1 a0) fun v30 =>
 some v30
)) fun v30 =>
 obind (pickP v26 (eB true) v30) fun v31 =>
 obind (gD v31 false (
 obind (binP false .sub a1 a0) fun v35 =>
 obind (binP false .gtr v35 (eI 4096)) fun v36 =>
 some v36
)) fun v36 =>
 obind (pickP v31 (eB true) v36) fun v37 =>
 oif v37 (
 some (D.tup [(D.agg [(eB false), (eI 0), (eI 0)]), (eI 2)])
) (
 og (oneP a0) <|
 og (oneP a1) <|
 og (aggP 3 (D.agg [(eB false), a0, a1])) <|
 some (D.tup [(D.agg [(eB false), a0, a1]), (eI 0)])
)

def ref30_numbersL (n : Nat) : List D → Option D
  | [a0, a1] => ref30_numbers n a0 a1
  | _ => none
def ref30_Index_l2 (n : Nat) (ls : List D) : Option (List D ⊕ (List D ⊕ D)) :=
 obind (lenP (pd ls 0)) fun v8 =>
 obind (binP false .lss (pd ls 2) v8) fun v9 =>
 oif v9 (
 obind (ixP 4 (pd ls 0) (pd ls 2)) fun c14 =>
 obind (atP false 1 0 c14) fun v16 =>
 obind (binP false .eql v16 (pd ls 1)) fun v18 =>
 oif v18 (
 inrX (
 inrX (
 some (pd ls 2)
)
)
) (
 obind (binP false .add (pd ls 2) (eI 1)) fun v11 =>
 some (.inl [(pd ls 0), (pd ls 1), v11])
)
) (
 inrX (
 some (.inl [])
)
)

def ref30_Index (n : Nat) (a0 : D) (a1 : D) : Option D :=
 obind (
 iterL (ref30_Index_l2 n) n [a0, a1, (eI 0)]
) <| jnX fun ls =>
 some (eI (-1))

def ref30_IndexL (n : Nat) : List D → Option D
  | [a0, a1] => ref30_Index n a0 a1
  | _ => none
def ref30_truths_l2 (n : Nat) (ls : List D) : Option (List D ⊕ (List D ⊕ D)) :=
 obind (lenP (pd ls 0)) fun v6 =>
 obind (binP false .lss (pd ls 1) v6) fun v7 =>
 oif v7 (
 obind (ixP 3 (pd ls 0) (pd ls 1)) fun c12 =>
 obind (atP false 1 0 c12) fun v14 =>
 obind (unP .not v14) fun v15 =>
 oif v15 (
 inrX (
 inrX (
 some (eB false)
)
)
) (
 obind (binP false .add (pd ls 1) (eI 1)) fun v9 =>
 some (.inl [(pd ls 0), v9])
)
) (
 inrX (
 some (.inl [])
)
)

def ref30_truths (n : Nat) (a0 : D) : Option D :=
 obind (
 iterL (ref30_truths_l2 n) n [a0, (eI 0)]
) <| jnX fun ls =>
 some (eB true)

def ref30_truthsL (n : Nat) : List D → Option D
  | [a0] => ref30_truths n a0
  | _ => none
def ref30_products_l4 (n : Nat) (ls : List D) : Option (List D ⊕ (List D ⊕ D)) :=
 obind (binP false .lss (pd ls 2) (eI 4)) fun v38 =>
 oif v38 (
 obind (numP ((esD (pd ls 3))).length (pd ls 2)) fun j44 =>
 obind (((esD (pd ls 3)))[j44]?) fun e45 =>
 obind (atP false 1 0 e45) fun v45 =>
 obind (mmP false [(pd ls 0), v45]) fun v46 =>
 obind (numP ((esD (pd ls 3))).length (pd ls 2)) fun j50 =>
 obind (((esD (pd ls 3)))[j50]?) fun e51 =>
 obind (atP false 1 0 e51) fun v51 =>
 obind (mmP true [(pd ls 1), v51]) fun v52 =>
 obind (binP false .add (pd ls 2) (eI 1)) fun v40 =>
 some (.inl [v46, v52, v40, (D.sl 1 (esD (pd ls 3)))])
) (
 inrX (
 some (.inl [(pd ls 0), (pd ls 1)])
)
)

def ref30_products (n : Nat) (a0 : D) (a1 : D) : Option D :=
 og (aggP 3 a0) <|
 og (aggP 3 a1) <|
 obind (binP false .mul (celD a0 1) (celD a1 1)) fun v14 =>
 obind (binP false .mul (celD a0 1) (celD a1 2)) fun v19 =>
 obind (binP false .mul (celD a0 2) (celD a1 1)) fun v24 =>
 obind (binP false .mul (celD a0 2) (celD a1 2)) fun v29 =>
 og (oneP v14) <|
 og (oneP v19) <|
 og (oneP v24) <|
 og (oneP v29) <|
 obind (numP ([[v14], [v19], [v24], [v29]]).length (eI 0)) fun j32 =>
 obind (([[v14], [v19], [v24], [v29]])[j32]?) fun e33 =>
 obind (atP false 1 0 e33) fun v33 =>
 obind (numP ([[v14], [v19], [v24], [v29]]).length (eI 0)) fun j35 =>
 obind (([[v14], [v19], [v24], [v29]])[j35]?) fun e36 =>
 obind (atP false 1 0 e36) fun v36 =>
 obind (
 iterL (ref30_products_l4 n) n [v33, v36, (eI 1), (D.sl 1 [[v14], [v19], [v24], [v29]])]
) <| jnX fun ls =>
 some (D.tup [(pd ls 0), (pd ls 1)])

def ref30_productsL (n : Nat) : List D → Option D
  | [a0, a1] => ref30_products n a0 a1
  | _ => none
def ref30_join (n : Nat) (a0 : D) (a1 : D) : Option D :=
 og (aggP 4 a0) <|
 obind (
 obind (binP false .eql (celD a0 0) (eI 5)) fun v14 =>
 obind (
 oif v14 (
 some (.inl [a1, (eI 13), (celD a0 0), v14, (celD a0 0), (celD a0 1), (celD a0 2), (celD a0 3), (eB false), (eI 0), (eI 0), (eB true), (eI 0), (eI 0)])
) (
 obind (binP false .eql (celD a0 0) (eI 6)) fun v15 =>
 obind (
 oif v15 (
 some (.inl [a1, (eI 13), (celD a0 0), v15, (celD a0 0), (celD a0 1), (celD a0 2), (celD a0 3), (eB false), (eI 0), (eI 0), (eB true), (eI 0), (eI 0)])
) (
 obind (binP false .eql (celD a0 0) (eI 7)) fun v16 =>
 obind (
 oif v16 (
 some (.inl [a1, (eI 13), (celD a0 0), v16, (celD a0 0), (celD a0 1), (celD a0 2), (celD a0 3), (eB false), (eI 0), (eI 0), (eB true), (eI 0), (eI 0)])
) (
 obind (binP false .eql (celD a0 0) (eI 8)) fun v17 =>
 obind (
 oif v17 (
 some (.inl [a1, (eI 13), (celD a0 0), v17, (celD a0 0), (celD a0 1), (celD a0 2), (celD a0 3), (eB false), (eI 0), (eI 0), (eB true), (eI 0), (eI 0)])
) (
 obind (binP false .eql (celD a0 0) (eI 9)) fun v18 =>
 some (.inl [a1, (eI 13), (celD a0 0), v18, (celD a0 0), (celD a0 1), (celD a0 2), (celD a0 3), (eB false), (eI 0), (eI 0), (eB true), (eI 0), (eI 0)])
)
) <| jnX fun ls =>
 some (.inl [(pd ls 0), (pd ls 1), (pd ls 2), (pd ls 3), (pd ls 4), (pd ls 5), (pd ls 6), (pd ls 7), (pd ls 8), (pd ls 9), (pd ls 10), (pd ls 11), (pd ls 12), (pd ls 13)])
)
) <| jnX fun ls =>
 some (.inl [(pd ls 0), (pd ls 1), (pd ls 2), (pd ls 3), (pd ls 4), (pd ls 5), (pd ls 6), (pd ls 7), (pd ls 8), (pd ls 9), (pd ls 10), (pd ls 11), (pd ls 12), (pd ls 13)])
)
) <| jnX fun ls =>
 some (.inl [(pd ls 0), (pd ls 1), (pd ls 2), (pd ls 3), (pd ls 4), (pd ls 5), (pd ls 6), (pd ls 7), (pd ls 8), (pd ls 9), (pd ls 10), (pd ls 11), (pd ls 12), (pd ls 13)])
)
) <| jnX fun ls =>
 oif (pd ls 3) (
 obind (ref30_truthsL n [(pd ls 0)]) fun v20 =>
 obind (unP .not v20) fun v21 =>
 oif v21 (
 inrX (
 some (D.tup [(D.agg [(eB false), (eI 0), (eI 0)]), (pd ls 1)])
)
) (
 og (aggP 3 (D.agg [(pd ls 11), (pd ls 12), (pd ls 13)])) <|
 inrX (
 some (D.tup [(D.agg [(pd ls 11), (pd ls 12), (pd ls 13)]), (eI 0)])
)
)
) (
 obind (binP false .eql (pd ls 2) (eI 10)) fun v26 =>
 obind (
 oif v26 (
 some (.inl [(pd ls 0), (pd ls 1), (pd ls 2), v26, (pd ls 4), (pd ls 5), (pd ls 6), (pd ls 7), (pd ls 8), (pd ls 9), (pd ls 10), (pd ls 11), (pd ls 12), (pd ls 13)])
) (
 obind (binP false .eql (pd ls 2) (eI 11)) fun v27 =>
 some (.inl [(pd ls 0), (pd ls 1), (pd ls 2), v27, (pd ls 4), (pd ls 5), (pd ls 6), (pd ls 7), (pd ls 8), (pd ls 9), (pd ls 10), (pd ls 11), (pd ls 12), (pd ls 13)])
)
) <| jnX fun ls =>
 oif (pd ls 3) (
 obind (ixP 3 (pd ls 0) (eI 0)) fun c29 =>
 obind (atP false 1 0 c29) fun v31 =>
 obind (ixP 3 (pd ls 0) (eI 1)) fun c33 =>
 obind (atP false 1 0 c33) fun v35 =>
 obind (binP true .neq v31 v35) fun v36 =>
 oif v36 (
 inrX (
 some (D.tup [(D.agg [(eB false), (eI 0), (eI 0)]), (pd ls 1)])
)
) (
 og (aggP 3 (D.agg [(pd ls 11), (pd ls 12), (pd ls 13)])) <|
 inrX (
 some (D.tup [(D.agg [(pd ls 11), (pd ls 12), (pd ls 13)]), (eI 0)])
)
)
) (
 obind (binP false .eql (pd ls 2) (eI 18)) fun v41 =>
 oif v41 (
 obind (ixP 3 (pd ls 0) (eI 0)) fun c43 =>
 obind (atP false 1 0 c43) fun v45 =>
 obind (unP .not v45) fun v46 =>
 obind (gD v46 false (
 obind (ixP 3 (pd ls 0) (eI 1)) fun c49 =>
 obind (atP false 1 0 c49) fun v51 =>
 obind (ixP 3 (pd ls 0) (eI 2)) fun c53 =>
 obind (atP false 1 0 c53) fun v55 =>
 obind (binP true .neq v51 v55) fun v56 =>
 some v56
)) fun v56 =>
 obind (pickP v46 (eB true) v56) fun v57 =>
 oif v57 (
 inrX (
 some (D.tup [(D.agg [(eB false), (eI 0), (eI 0)]), (pd ls 1)])
)
) (
 obind (ixP 3 (pd ls 0) (eI 1)) fun c61 =>
 obind (atP false 1 0 c61) fun v63 =>
 oif v63 (
 og (aggP 3 (D.agg [(pd ls 11), (pd ls 12), (pd ls 13)])) <|
 inrX (
 some (D.tup [(D.agg [(pd ls 11), (pd ls 12), (pd ls 13)]), (eI 0)])
)
) (
 obind (ixP 3 (pd ls 0) (eI 1)) fun c66 =>
 obind (atP false 1 1 c66) fun v68 =>
 obind (ixP 3 (pd ls 0) (eI 2)) fun c70 =>
 obind (atP false 1 1 c70) fun v72 =>
 obind (mmP false [v68, v72]) fun v73 =>
 obind (ixP 3 (pd ls 0) (eI 1)) fun c75 =>
 obind (atP false 1 2 c75) fun v77 =>
 obind (ixP 3 (pd ls 0) (eI 2)) fun c79 =>
 obind (atP false 1 2 c79) fun v81 =>
 obind (mmP true [v77, v81]) fun v82 =>
 obind (ref30_numbersL n [v73, v82]) fun v83 =>
 obind (extP 0 v83) fun v84 =>
 obind (extP 1 v83) fun v85 =>
 og (aggP 3 v84) <|
 inrX (
 some (D.tup [(D.agg [(celD v84 0), (celD v84 1), (celD v84 2)]), v85])
)
)
)
) (
 some (.inl [(pd ls 0), (pd ls 1), (pd ls 4), (pd ls 5), (pd ls 6), (pd ls 7), (pd ls 8), (pd ls 9), (pd ls 10), (pd ls 11), (pd ls 12), (pd ls 13)])
)
)
)
) <| jnX fun ls =>
 obind (ixP 3 (pd ls 0) (eI 0)) fun c87 =>
 obind (atP false 1 0 c87) fun v89 =>
 obind (gD v89 false (
 obind (ixP 3 (pd ls 0) (eI 1)) fun c92 =>
 obind (atP false 1 0 c92) fun v94 =>
 some v94
)) fun v94 =>
 obind (pickP v89 (eB true) v94) fun v95 =>
 oif v95 (
 some (D.tup [(D.agg [(eB false), (eI 0), (eI 0)]), (pd ls 1)])
) (
 obind (binP false .eql (pd ls 2) (eI 14)) fun v101 =>
 oif v101 (
 obind (ixP 3 (pd ls 0) (eI 0)) fun c103 =>
 obind (atP false 1 1 c103) fun v105 =>
 obind (ixP 3 (pd ls 0) (eI 1)) fun c107 =>
 obind (atP false 1 1 c107) fun v109 =>
 obind (binP false .add v105 v109) fun v110 =>
 obind (ixP 3 (pd ls 0) (eI 0)) fun c112 =>
 obind (atP false 1 2 c112) fun v114 =>
 obind (ixP 3 (pd ls 0) (eI 1)) fun c116 =>
 obind (atP false 1 2 c116) fun v118 =>
 obind (binP false .add v114 v118) fun v119 =>
 obind (ref30_numbersL n [v110, v119]) fun v120 =>
 obind (extP 0 v120) fun v121 =>
 obind (extP 1 v120) fun v122 =>
 og (aggP 3 v121) <|
 some (D.tup [(D.agg [(celD v121 0), (celD v121 1), (celD v121 2)]), v122])
) (
 obind (binP false .eql (pd ls 2) (eI 15)) fun v124 =>
 oif v124 (
 obind (ixP 3 (pd ls 0) (eI 0)) fun c126 =>
 obind (atP false 1 1 c126) fun v128 =>
 obind (ixP 3 (pd ls 0) (eI 1)) fun c130 =>
 obind (atP false 1 2 c130) fun v132 =>
 obind (binP false .sub v128 v132) fun v133 =>
 obind (ixP 3 (pd ls 0) (eI 0)) fun c135 =>
 obind (atP false 1 2 c135) fun v137 =>
 obind (ixP 3 (pd ls 0) (eI 1)) fun c139 =>
 obind (atP false 1 1 c139) fun v141 =>
 obind (binP false .sub v137 v141) fun v142 =>
 obind (ref30_numbersL n [v133, v142]) fun v143 =>
 obind (extP 0 v143) fun v144 =>
 obind (extP 1 v143) fun v145 =>
 og (aggP 3 v144) <|
 some (D.tup [(D.agg [(celD v144 0), (celD v144 1), (celD v144 2)]), v145])
) (
 obind (binP false .eql (pd ls 2) (eI 16)) fun v147 =>
 oif v147 (
 obind (ixP 3 (pd ls 0) (eI 0)) fun c150 =>
 obind (atP true 3 0 c150) fun v151 =>
 obind (ixP 3 (pd ls 0) (eI 1)) fun c153 =>
 obind (atP true 3 0 c153) fun v154 =>
 obind (ref30_productsL n [v151, v154]) fun v155 =>
 obind (extP 0 v155) fun v156 =>
 obind (extP 1 v155) fun v157 =>
 obind (ref30_numbersL n [v156, v157]) fun v160 =>
 obind (extP 0 v160) fun v161 =>
 obind (extP 1 v160) fun v162 =>
 og (aggP 3 v161) <|
 some (D.tup [(D.agg [(celD v161 0), (celD v161 1), (celD v161 2)]), v162])
) (
 obind (binP false .eql (pd ls 2) (eI 17)) fun v164 =>
 oif v164 (
 obind (ixP 4 (pd ls 5) (eI 1)) fun c167 =>
 obind (atP false 1 0 c167) fun v169 =>
 obind (binP false .neq v169 (eI 1)) fun v170 =>
 obind (gD v170 false (
 obind (ixP 4 (pd ls 5) (eI 1)) fun c174 =>
 obind (atP false 1 1 c174) fun v176 =>
 obind (binP false .lss v176 (eI 1)) fun v177 =>
 some v177
)) fun v177 =>
 obind (pickP v170 (eB true) v177) fun v178 =>
 oif v178 (
 some (D.tup [(D.agg [(eB false), (eI 0), (eI 0)]), (eI 2)])
) (
 obind (ixP 4 (pd ls 5) (eI 1)) fun c182 =>
 obind (atP false 1 1 c182) fun v184 =>
 obind (binP false .sub v184 (eI 1)) fun v185 =>
 obind (ref30_numbersL n [(eI 0), v185]) fun v186 =>
 obind (extP 0 v186) fun v187 =>
 obind (extP 1 v186) fun v188 =>
 og (aggP 3 v187) <|
 some (D.tup [(D.agg [(celD v187 0), (celD v187 1), (celD v187 2)]), v188])
)
) (
 og (aggP 3 (D.agg [(pd ls 9), (pd ls 10), (pd ls 11)])) <|
 some (D.tup [(D.agg [(pd ls 9), (pd ls 10), (pd ls 11)]), (eI 0)])
)
)
)
)
)

def ref30_joinL (n : Nat) : List D → Option D
  | [a0, a1] => ref30_join n a0 a1
  | _ => none
def ref30_typed_l18 (r_ref30_typed : List D → Option D) (n : Nat) (ls : List D) : Option (List D ⊕ (List D ⊕ D)) :=
 obind (lenP (pd ls 6)) fun v68 =>
 obind (binP false .lss (pd ls 2) v68) fun v69 =>
 oif v69 (
 obind (ixP 4 (pd ls 6) (pd ls 2)) fun c77 =>
 obind (atP true 4 0 c77) fun v78 =>
 obind (r_ref30_typed [(pd ls 0), v78, (pd ls 1)]) fun v80 =>
 obind (extP 0 v80) fun v81 =>
 obind (extP 1 v80) fun v82 =>
 og (aggP 3 v81) <|
 obind (binP false .neq v82 (eI 0)) fun v84 =>
 oif v84 (
 inrX (
 inrX (
 some (D.tup [(D.agg [(eB false), (eI 0), (eI 0)]), v82])
)
)
) (
 og (aggP 3 (D.agg [(celD v81 0), (celD v81 1), (celD v81 2)])) <|
 og (roomP (((esD (pd ls 10))).length + ([[(celD v81 0), (celD v81 1), (celD v81 2)]]).length) 24) <|
 obind (binP false .add (pd ls 2) (eI 1)) fun v71 =>
 some (.inl [(pd ls 0), (pd ls 1), v71, (pd ls 3), (pd ls 4), (pd ls 5), (pd ls 6), (pd ls 7), (pd ls 8), (pd ls 9), (D.sl 3 ((esD (pd ls 10)) ++ [[(celD v81 0), (celD v81 1), (celD v81 2)]]))])
)
) (
 inrX (
 some (.inl [(pd ls 3), (pd ls 4), (pd ls 5), (pd ls 6), (pd ls 7), (pd ls 8), (pd ls 9), (D.sl 3 (esD (pd ls 10)))])
)
)

def ref30_typed (r_ref30_typed : List D → Option D) (n : Nat) (a0 : D) (a1 : D) (a2 : D) : Option D :=
 og (aggP 4 a1) <|
 obind (binP false .eql (celD a1 0) (eI 1)) fun v16 =>
 oif v16 (
 obind (ref30_numbersL n [(celD a1 1), (celD a1 1)]) fun v21 =>
 obind (extP 0 v21) fun v22 =>
 obind (extP 1 v21) fun v23 =>
 og (aggP 3 v22) <|
 some (D.tup [(D.agg [(celD v22 0), (celD v22 1), (celD v22 2)]), v23])
) (
 obind (binP false .eql (celD a1 0) (eI 2)) fun v25 =>
 oif v25 (
 some (D.tup [(D.agg [(eB true), (eI 0), (eI 0)]), (eI 0)])
) (
 obind (binP false .eql (celD a1 0) (eI 3)) fun v28 =>
 obind (
 oif v28 (
 some (.inl [a0, a2, v28, (celD a1 0), (celD a1 1), (celD a1 2), (celD a1 3), (eB false), (eI 0), (eI 0)])
) (
 obind (binP false .eql (celD a1 0) (eI 4)) fun v29 =>
 some (.inl [a0, a2, v29, (celD a1 0), (celD a1 1), (celD a1 2), (celD a1 3), (eB false), (eI 0), (eI 0)])
)
) <| jnX fun ls =>
 oif (pd ls 2) (
 obind (ref30_IndexL n [(pd ls 0), (pd ls 5)]) fun v33 =>
 obind (binP false .lss v33 (eI 0)) fun v35 =>
 oif v35 (
 some (D.tup [(D.agg [(eB false), (eI 0), (eI 0)]), (eI 12)])
) (
 obind (binP false .eql (pd ls 3) (eI 4)) fun v39 =>
 obind (gD v39 true (
 obind (unP .not (pd ls 1)) fun v42 =>
 some v42
)) fun v42 =>
 obind (pickP v39 v42 (eB false)) fun v43 =>
 oif v43 (
 some (D.tup [(D.agg [(eB false), (eI 0), (eI 0)]), (eI 24)])
) (
 obind (ixP 4 (pd ls 0) v33) fun c47 =>
 obind (atP false 1 1 c47) fun v49 =>
 oif v49 (
 some (D.tup [(D.agg [(eB true), (eI 0), (eI 0)]), (eI 0)])
) (
 obind (ixP 4 (pd ls 0) v33) fun c53 =>
 obind (atP false 1 2 c53) fun v55 =>
 obind (ixP 4 (pd ls 0) v33) fun c58 =>
 obind (atP false 1 3 c58) fun v60 =>
 obind (ref30_numbersL n [v55, v60]) fun v61 =>
 obind (extP 0 v61) fun v62 =>
 obind (extP 1 v61) fun v63 =>
 og (aggP 3 v62) <|
 some (D.tup [(D.agg [(celD v62 0), (celD v62 1), (celD v62 2)]), v63])
)
)
)
) (
 obind (
 iterL (ref30_typed_l18 r_ref30_typed n) n [(pd ls 0), (pd ls 1), (eI 0), (pd ls 3), (pd ls 4), (pd ls 5), (pd ls 6), (pd ls 7), (pd ls 8), (pd ls 9), (D.sl 3 [])]
) <| jnX fun ls =>
 obind (ref30_joinL n [(D.agg [(pd ls 0), (pd ls 1), (pd ls 2), (pd ls 3)]), (D.sl 3 (esD (pd ls 7)))]) fun v93 =>
 og v93.flat <|
 obind (extP 0 v93) fun v94 =>
 obind (extP 1 v93) fun v95 =>
 og (aggP 3 v94) <|
 some (D.tup [(D.agg [(celD v94 0), (celD v94 1), (celD v94 2)]), v95])
)
)
)

def ref30_typedL : Nat → List D → Option D
  | 0, _ => none
  | n + 1, ds => match ds with
    | [a0, a1, a2] => ref30_typed (ref30_typedL n) n a0 a1 a2
    | _ => none
def ref30_Type (n : Nat) (a0 : D) (a1 : D) (a2 : D) : Option D :=
 og (aggP 4 a1) <|
 obind (ref30_CheckL n [(D.agg [(celD a1 0), (celD a1 1), (celD a1 2), (celD a1 3)])]) fun v10 =>
 obind (binP false .neq v10 (eI 0)) fun v12 =>
 oif v12 (
 some (D.tup [(D.agg [(eB false), (eI 0), (eI 0)]), v10])
) (
 obind (ref30_typedL n [a0, (D.agg [(celD a1 0), (celD a1 1), (celD a1 2), (celD a1 3)]), a2]) fun v18 =>
 obind (extP 0 v18) fun v19 =>
 obind (extP 1 v18) fun v20 =>
 og (aggP 3 v19) <|
 some (D.tup [(D.agg [(celD v19 0), (celD v19 1), (celD v19 2)]), v20])
)

def ref30_TypeL (n : Nat) : List D → Option D
  | [a0, a1, a2] => ref30_Type n a0 a1 a2
  | _ => none
def ref30_Steps_l4 (r_ref30_Steps : List D → Option D) (n : Nat) (ls : List D) : Option (List D ⊕ (List D ⊕ D)) :=
 obind (lenP (pd ls 4)) fun v10 =>
 obind (binP false .lss (pd ls 0) v10) fun v11 =>
 oif v11 (
 obind (ixP 4 (pd ls 4) (pd ls 0)) fun c17 =>
 obind (atP true 4 0 c17) fun v18 =>
 obind (r_ref30_Steps [v18]) fun v19 =>
 oif v19 (
 inrX (
 inrX (
 some (eB true)
)
)
) (
 obind (binP false .add (pd ls 0) (eI 1)) fun v13 =>
 some (.inl [v13, (pd ls 1), (pd ls 2), (pd ls 3), (pd ls 4)])
)
) (
 inrX (
 some (.inl [])
)
)

def ref30_Steps (r_ref30_Steps : List D → Option D) (n : Nat) (a0 : D) : Option D :=
 og (aggP 4 a0) <|
 obind (binP false .eql (celD a0 0) (eI 4)) fun v6 =>
 oif v6 (
 some (eB true)
) (
 obind (
 iterL (ref30_Steps_l4 r_ref30_Steps n) n [(eI 0), (celD a0 0), (celD a0 1), (celD a0 2), (celD a0 3)]
) <| jnX fun ls =>
 some (eB false)
)

def ref30_StepsL : Nat → List D → Option D
  | 0, _ => none
  | n + 1, ds => match ds with
    | [a0] => ref30_Steps (ref30_StepsL n) n a0
    | _ => none
def ref30_truth (n : Nat) (a0 : D) : Option D :=
 oif a0 (
 some (eI 1)
) (
 some (eI 0)
)

def ref30_truthL (n : Nat) : List D → Option D
  | [a0] => ref30_truth n a0
  | _ => none
def ref30_far (n : Nat) (a0 : D) : Option D :=
 obind (binP false .lss a0 (eI (-9007199254740992))) fun v4 =>
 obind (gD v4 false (
 obind (binP false .gtr a0 (eI 9007199254740992)) fun v7 =>
 some v7
)) fun v7 =>
 obind (pickP v4 (eB true) v7) fun v8 =>
 some v8

def ref30_farL (n : Nat) : List D → Option D
  | [a0] => ref30_far n a0
  | _ => none
def ref30_size (n : Nat) (a0 : D) : Option D :=
 obind (unP .neg a0) fun v5 =>
 obind (mmP true [a0, v5]) fun v6 =>
 some v6

def ref30_sizeL (n : Nat) : List D → Option D
  | [a0] => ref30_size n a0
  | _ => none
def ref30_value_l18 (r_ref30_value : List D → Option D) (n : Nat) (ls : List D) : Option (List D ⊕ (List D ⊕ D)) :=
 obind (lenP (pd ls 8)) fun v59 =>
 obind (binP false .lss (pd ls 4) v59) fun v60 =>
 oif v60 (
 obind (
 obind (ixP 4 (pd ls 8) (pd ls 4)) fun c68 =>
 obind (atP true 4 0 c68) fun v69 =>
 obind (r_ref30_value [(pd ls 0), v69, (pd ls 1), (pd ls 2)]) fun v72 =>
 obind (extP 0 v72) fun v73 =>
 obind (extP 1 v72) fun v74 =>
 obind (unP .not v74) fun v76 =>
 oif v76 (
 inrX (
 inrX (
 inrX (
 some (D.tup [(eI 0), (eB false)])
)
)
)
) (
 og (oneP v73) <|
 og (roomP (((esD (pd ls 9))).length + ([[v73]]).length) 8) <|
 obind (binP false .eql (pd ls 5) (eI 6)) fun v83 =>
 obind (gD v83 false (
 obind (binP false .eql (pd ls 5) (eI 7)) fun v87 =>
 some v87
)) fun v87 =>
 obind (pickP v83 (eB true) v87) fun v88 =>
 obind (
 oif v88 (
 obind (binP false .add (pd ls 3) v73) fun v91 =>
 some (.inl [(pd ls 0), (pd ls 1), (pd ls 2), v91, (pd ls 4), (pd ls 5), (pd ls 6), (pd ls 7), (pd ls 8), (D.sl 1 ((esD (pd ls 9)) ++ [[v73]]))])
) (
 some (.inl [(pd ls 0), (pd ls 1), (pd ls 2), (pd ls 3), (pd ls 4), (pd ls 5), (pd ls 6), (pd ls 7), (pd ls 8), (D.sl 1 ((esD (pd ls 9)) ++ [[v73]]))])
)
) <| jnX fun ls =>
 some (.inl [(pd ls 0), (pd ls 1), (pd ls 2), (pd ls 3), (pd ls 4), (pd ls 5), (pd ls 6), (pd ls 7), (pd ls 8), (D.sl 1 (esD (pd ls 9)))])
)
) <| jnX fun ls =>
 obind (binP false .add (pd ls 4) (eI 1)) fun v62 =>
 some (.inl [(pd ls 0), (pd ls 1), (pd ls 2), (pd ls 3), v62, (pd ls 5), (pd ls 6), (pd ls 7), (pd ls 8), (D.sl 1 (esD (pd ls 9)))])
) (
 inrX (
 some (.inl [(pd ls 3), (pd ls 5), (pd ls 6), (pd ls 7), (pd ls 8), (D.sl 1 (esD (pd ls 9)))])
)
)

def ref30_value (r_ref30_value : List D → Option D) (n : Nat) (a0 : D) (a1 : D) (a2 : D) (a3 : D) : Option D :=
 og (aggP 4 a1) <|
 obind (binP false .eql (celD a1 0) (eI 1)) fun v21 =>
 obind (
 oif v21 (
 some (.inl [a0, a2, a3, (celD a1 0), v21, (celD a1 0), (celD a1 1), (celD a1 2), (celD a1 3)])
) (
 obind (binP false .eql (celD a1 0) (eI 2)) fun v22 =>
 some (.inl [a0, a2, a3, (celD a1 0), v22, (celD a1 0), (celD a1 1), (celD a1 2), (celD a1 3)])
)
) <| jnX fun ls =>
 oif (pd ls 4) (
 some (D.tup [(pd ls 6), (eB true)])
) (
 obind (binP false .eql (pd ls 3) (eI 3)) fun v26 =>
 obind (
 oif v26 (
 some (.inl [(pd ls 0), (pd ls 1), (pd ls 2), v26, (pd ls 5), (pd ls 6), (pd ls 7), (pd ls 8)])
) (
 obind (binP false .eql (pd ls 3) (eI 4)) fun v27 =>
 some (.inl [(pd ls 0), (pd ls 1), (pd ls 2), v27, (pd ls 5), (pd ls 6), (pd ls 7), (pd ls 8)])
)
) <| jnX fun ls =>
 oif (pd ls 3) (
 obind (ref30_IndexL n [(pd ls 0), (pd ls 6)]) fun v31 =>
 obind (binP false .eql (pd ls 4) (eI 3)) fun v34 =>
 obind (
 oif v34 (
 obind (ixP 1 (pd ls 1) v31) fun c37 =>
 obind (atP false 1 0 c37) fun v38 =>
 some (.inl [(pd ls 0), v31, v38])
) (
 obind (ixP 1 (pd ls 2) v31) fun c41 =>
 obind (atP false 1 0 c41) fun v42 =>
 some (.inl [(pd ls 0), v31, v42])
)
) <| jnX fun ls =>
 obind (ixP 4 (pd ls 0) (pd ls 1)) fun c45 =>
 obind (atP false 1 1 c45) fun v47 =>
 oif v47 (
 obind (binP false .neq (pd ls 2) (eI 0)) fun v49 =>
 obind (ref30_truthL n [v49]) fun v50 =>
 some (D.tup [v50, (eB true)])
) (
 obind (ref30_farL n [(pd ls 2)]) fun v53 =>
 obind (unP .not v53) fun v54 =>
 some (D.tup [(pd ls 2), v54])
)
) (
 obind (
 iterL (ref30_value_l18 r_ref30_value n) n [(pd ls 0), (pd ls 1), (pd ls 2), (eI 0), (eI 0), (pd ls 4), (pd ls 5), (pd ls 6), (pd ls 7), (D.sl 1 [])]
) <| jnX fun ls =>
 obind (
 obind (binP false .eql (pd ls 1) (eI 5)) fun v95 =>
 obind (
 oif v95 (
 obind (numP ((esD (pd ls 5))).length (eI 0)) fun j97 =>
 obind (((esD (pd ls 5)))[j97]?) fun e98 =>
 obind (atP false 1 0 e98) fun v98 =>
 obind (binP false .sub (eI 1) v98) fun v99 =>
 some (.inl [v99])
) (
 obind (binP false .eql (pd ls 1) (eI 6)) fun v101 =>
 obind (
 oif v101 (
 obind (binP false .eql (pd ls 0) (eI ((esD (pd ls 5))).length)) fun v105 =>
 obind (ref30_truthL n [v105]) fun v106 =>
 some (.inl [v106])
) (
 obind (binP false .eql (pd ls 1) (eI 7)) fun v108 =>
 obind (
 oif v108 (
 obind (binP false .gtr (pd ls 0) (eI 0)) fun v110 =>
 obind (ref30_truthL n [v110]) fun v111 =>
 some (.inl [v111])
) (
 obind (binP false .eql (pd ls 1) (eI 8)) fun v113 =>
 obind (
 oif v113 (
 obind (numP ((esD (pd ls 5))).length (eI 0)) fun j115 =>
 obind (((esD (pd ls 5)))[j115]?) fun e116 =>
 obind (atP false 1 0 e116) fun v116 =>
 obind (binP false .eql v116 (eI 0)) fun v117 =>
 obind (gD v117 false (
 obind (numP ((esD (pd ls 5))).length (eI 1)) fun j120 =>
 obind (((esD (pd ls 5)))[j120]?) fun e121 =>
 obind (atP false 1 0 e121) fun v121 =>
 obind (binP false .eql v121 (eI 1)) fun v122 =>
 some v122
)) fun v122 =>
 obind (pickP v117 (eB true) v122) fun v123 =>
 obind (ref30_truthL n [v123]) fun v124 =>
 some (.inl [v124])
) (
 obind (binP false .eql (pd ls 1) (eI 9)) fun v126 =>
 obind (
 oif v126 (
 some (.inl [(eI 0), (pd ls 1), v126, (D.sl 1 (esD (pd ls 5)))])
) (
 obind (binP false .eql (pd ls 1) (eI 10)) fun v127 =>
 some (.inl [(eI 0), (pd ls 1), v127, (D.sl 1 (esD (pd ls 5)))])
)
) <| jnX fun ls =>
 obind (
 oif (pd ls 2) (
 obind (numP ((esD (pd ls 3))).length (eI 0)) fun j129 =>
 obind (((esD (pd ls 3)))[j129]?) fun e130 =>
 obind (atP false 1 0 e130) fun v130 =>
 obind (numP ((esD (pd ls 3))).length (eI 1)) fun j132 =>
 obind (((esD (pd ls 3)))[j132]?) fun e133 =>
 obind (atP false 1 0 e133) fun v133 =>
 obind (binP false .eql v130 v133) fun v134 =>
 obind (ref30_truthL n [v134]) fun v135 =>
 some (.inl [v135])
) (
 obind (binP false .eql (pd ls 1) (eI 11)) fun v137 =>
 obind (
 oif v137 (
 obind (numP ((esD (pd ls 3))).length (eI 0)) fun j139 =>
 obind (((esD (pd ls 3)))[j139]?) fun e140 =>
 obind (atP false 1 0 e140) fun v140 =>
 obind (numP ((esD (pd ls 3))).length (eI 1)) fun j142 =>
 obind (((esD (pd ls 3)))[j142]?) fun e143 =>
 obind (atP false 1 0 e143) fun v143 =>
 obind (binP false .neq v140 v143) fun v144 =>
 obind (ref30_truthL n [v144]) fun v145 =>
 some (.inl [v145])
) (
 obind (binP false .eql (pd ls 1) (eI 12)) fun v147 =>
 obind (
 oif v147 (
 obind (numP ((esD (pd ls 3))).length (eI 0)) fun j149 =>
 obind (((esD (pd ls 3)))[j149]?) fun e150 =>
 obind (atP false 1 0 e150) fun v150 =>
 obind (numP ((esD (pd ls 3))).length (eI 1)) fun j152 =>
 obind (((esD (pd ls 3)))[j152]?) fun e153 =>
 obind (atP false 1 0 e153) fun v153 =>
 obind (binP false .lss v150 v153) fun v154 =>
 obind (ref30_truthL n [v154]) fun v155 =>
 some (.inl [v155])
) (
 obind (binP false .eql (pd ls 1) (eI 13)) fun v157 =>
 obind (
 oif v157 (
 obind (numP ((esD (pd ls 3))).length (eI 0)) fun j159 =>
 obind (((esD (pd ls 3)))[j159]?) fun e160 =>
 obind (atP false 1 0 e160) fun v160 =>
 obind (numP ((esD (pd ls 3))).length (eI 1)) fun j162 =>
 obind (((esD (pd ls 3)))[j162]?) fun e163 =>
 obind (atP false 1 0 e163) fun v163 =>
 obind (binP false .leq v160 v163) fun v164 =>
 obind (ref30_truthL n [v164]) fun v165 =>
 some (.inl [v165])
) (
 obind (binP false .eql (pd ls 1) (eI 14)) fun v167 =>
 obind (
 oif v167 (
 obind (numP ((esD (pd ls 3))).length (eI 0)) fun j169 =>
 obind (((esD (pd ls 3)))[j169]?) fun e170 =>
 obind (atP false 1 0 e170) fun v170 =>
 obind (numP ((esD (pd ls 3))).length (eI 1)) fun j172 =>
 obind (((esD (pd ls 3)))[j172]?) fun e173 =>
 obind (atP false 1 0 e173) fun v173 =>
 obind (binP false .add v170 v173) fun v174 =>
 some (.inl [v174])
) (
 obind (binP false .eql (pd ls 1) (eI 15)) fun v176 =>
 obind (
 oif v176 (
 obind (numP ((esD (pd ls 3))).length (eI 0)) fun j178 =>
 obind (((esD (pd ls 3)))[j178]?) fun e179 =>
 obind (atP false 1 0 e179) fun v179 =>
 obind (numP ((esD (pd ls 3))).length (eI 1)) fun j181 =>
 obind (((esD (pd ls 3)))[j181]?) fun e182 =>
 obind (atP false 1 0 e182) fun v182 =>
 obind (binP false .sub v179 v182) fun v183 =>
 some (.inl [v183])
) (
 obind (binP false .eql (pd ls 1) (eI 16)) fun v185 =>
 obind (
 oif v185 (
 obind (numP ((esD (pd ls 3))).length (eI 0)) fun j187 =>
 obind (((esD (pd ls 3)))[j187]?) fun e188 =>
 obind (atP false 1 0 e188) fun v188 =>
 obind (binP false .neq v188 (eI 0)) fun v189 =>
 obind (gD v189 true (
 obind (numP ((esD (pd ls 3))).length (eI 1)) fun j192 =>
 obind (((esD (pd ls 3)))[j192]?) fun e193 =>
 obind (atP false 1 0 e193) fun v193 =>
 obind (ref30_sizeL n [v193]) fun v194 =>
 obind (numP ((esD (pd ls 3))).length (eI 0)) fun j196 =>
 obind (((esD (pd ls 3)))[j196]?) fun e197 =>
 obind (atP false 1 0 e197) fun v197 =>
 obind (ref30_sizeL n [v197]) fun v198 =>
 obind (binP false .quo (eI 9007199254740992) v198) fun v199 =>
 obind (binP false .gtr v194 v199) fun v200 =>
 some v200
)) fun v200 =>
 obind (pickP v189 v200 (eB false)) fun v201 =>
 oif v201 (
 inrX (
 inrX (
 inrX (
 inrX (
 inrX (
 inrX (
 inrX (
 inrX (
 inrX (
 inrX (
 inrX (
 inrX (
 some (D.tup [(eI 0), (eB false)])
)
)
)
)
)
)
)
)
)
)
)
)
) (
 obind (numP ((esD (pd ls 3))).length (eI 0)) fun j203 =>
 obind (((esD (pd ls 3)))[j203]?) fun e204 =>
 obind (atP false 1 0 e204) fun v204 =>
 obind (numP ((esD (pd ls 3))).length (eI 1)) fun j206 =>
 obind (((esD (pd ls 3)))[j206]?) fun e207 =>
 obind (atP false 1 0 e207) fun v207 =>
 obind (binP false .mul v204 v207) fun v208 =>
 some (.inl [v208])
)
) (
 obind (binP false .eql (pd ls 1) (eI 17)) fun v210 =>
 obind (
 oif v210 (
 obind (numP ((esD (pd ls 3))).length (eI 0)) fun j212 =>
 obind (((esD (pd ls 3)))[j212]?) fun e213 =>
 obind (atP false 1 0 e213) fun v213 =>
 obind (numP ((esD (pd ls 3))).length (eI 1)) fun j215 =>
 obind (((esD (pd ls 3)))[j215]?) fun e216 =>
 obind (atP false 1 0 e216) fun v216 =>
 obind (binP false .rem v213 v216) fun v217 =>
 obind (numP ((esD (pd ls 3))).length (eI 1)) fun j219 =>
 obind (((esD (pd ls 3)))[j219]?) fun e220 =>
 obind (atP false 1 0 e220) fun v220 =>
 obind (binP false .add v217 v220) fun v221 =>
 obind (numP ((esD (pd ls 3))).length (eI 1)) fun j223 =>
 obind (((esD (pd ls 3)))[j223]?) fun e224 =>
 obind (atP false 1 0 e224) fun v224 =>
 obind (binP false .rem v221 v224) fun v225 =>
 some (.inl [v225])
) (
 obind (binP false .eql (pd ls 1) (eI 18)) fun v227 =>
 obind (
 oif v227 (
 obind (numP ((esD (pd ls 3))).length (eI 2)) fun j229 =>
 obind (((esD (pd ls 3)))[j229]?) fun e230 =>
 obind (atP false 1 0 e230) fun v230 =>
 obind (numP ((esD (pd ls 3))).length (eI 0)) fun j232 =>
 obind (((esD (pd ls 3)))[j232]?) fun e233 =>
 obind (atP false 1 0 e233) fun v233 =>
 obind (binP false .eql v233 (eI 1)) fun v234 =>
 obind (
 oif v234 (
 obind (numP ((esD (pd ls 3))).length (eI 1)) fun j236 =>
 obind (((esD (pd ls 3)))[j236]?) fun e237 =>
 obind (atP false 1 0 e237) fun v237 =>
 some (.inl [v237])
) (
 some (.inl [v230])
)
) <| jnX fun ls =>
 some (.inl [(pd ls 0)])
) (
 some (.inl [(pd ls 0)])
)
) <| jnX fun ls =>
 some (.inl [(pd ls 0)])
)
) <| jnX fun ls =>
 some (.inl [(pd ls 0)])
)
) <| jnX fun ls =>
 some (.inl [(pd ls 0)])
)
) <| jnX fun ls =>
 some (.inl [(pd ls 0)])
)
) <| jnX fun ls =>
 some (.inl [(pd ls 0)])
)
) <| jnX fun ls =>
 some (.inl [(pd ls 0)])
)
) <| jnX fun ls =>
 some (.inl [(pd ls 0)])
)
) <| jnX fun ls =>
 some (.inl [(pd ls 0)])
)
) <| jnX fun ls =>
 some (.inl [(pd ls 0)])
)
) <| jnX fun ls =>
 some (.inl [(pd ls 0)])
)
) <| jnX fun ls =>
 some (.inl [(pd ls 0)])
)
) <| jnX fun ls =>
 some (.inl [(pd ls 0)])
)
) <| jnX fun ls =>
 some (.inl [(pd ls 0)])
) <| jnX fun ls =>
 obind (ref30_farL n [(pd ls 0)]) fun v240 =>
 obind (unP .not v240) fun v241 =>
 some (D.tup [(pd ls 0), v241])
)
)

def ref30_valueL : Nat → List D → Option D
  | 0, _ => none
  | n + 1, ds => match ds with
    | [a0, a1, a2, a3] => ref30_value (ref30_valueL n) n a0 a1 a2 a3
    | _ => none
def ref30_Eval (n : Nat) (a0 : D) (a1 : D) (a2 : D) (a3 : D) : Option D :=
 og (aggP 4 a1) <|
 obind (ref30_TypeL n [a0, (D.agg [(celD a1 0), (celD a1 1), (celD a1 2), (celD a1 3)]), (eB true)]) fun v17 =>
 obind (extP 0 v17) fun v18 =>
 obind (extP 1 v17) fun v19 =>
 og (aggP 3 v18) <|
 obind (binP false .neq v19 (eI 0)) fun v21 =>
 obind (gD v21 false (
 obind (lenP a2) fun v24 =>
 obind (lenP a0) fun v26 =>
 obind (binP false .neq v24 v26) fun v27 =>
 some v27
)) fun v27 =>
 obind (pickP v21 (eB true) v27) fun v28 =>
 obind (gD v28 false (
 obind (ref30_StepsL n [(D.agg [(celD a1 0), (celD a1 1), (celD a1 2), (celD a1 3)])]) fun v31 =>
 some v31
)) fun v32 =>
 obind (gD v32 true (
 obind (lenP a3) fun v34 =>
 obind (lenP a0) fun v36 =>
 obind (binP false .neq v34 v36) fun v37 =>
 some v37
)) fun v37 =>
 obind (gD v28 false (
 obind (pickP v32 v37 (eB false)) fun v38 =>
 some v38
)) fun v38 =>
 obind (pickP v28 (eB true) v38) fun v39 =>
 oif v39 (
 some (D.tup [(eI 0), (eB false)])
) (
 obind (ref30_valueL n [a0, (D.agg [(celD a1 0), (celD a1 1), (celD a1 2), (celD a1 3)]), a2, a3]) fun v45 =>
 obind (extP 0 v45) fun v46 =>
 obind (extP 1 v45) fun v47 =>
 obind (unP .not v47) fun v49 =>
 oif v49 (
 some (D.tup [(eI 0), (eB false)])
) (
 some (D.tup [v46, (eB true)])
)
)

def ref30_EvalL (n : Nat) : List D → Option D
  | [a0, a1, a2, a3] => ref30_Eval n a0 a1 a2 a3
  | _ => none
def law30_ranged_l4 (n : Nat) (ls : List D) : Option (List D ⊕ (List D ⊕ D)) :=
 obind (lenP (pd ls 1)) fun v13 =>
 obind (binP false .lss (pd ls 2) v13) fun v14 =>
 oif v14 (
 obind (ixP 4 (pd ls 0) (pd ls 2)) fun c19 =>
 obind (atP false 1 1 c19) fun v21 =>
 obind (gD v21 true (
 obind (ixP 1 (pd ls 1) (pd ls 2)) fun c25 =>
 obind (atP false 1 0 c25) fun v26 =>
 obind (binP false .lss v26 (eI 0)) fun v27 =>
 some v27
)) fun v28 =>
 obind (gD v28 false (
 obind (ixP 1 (pd ls 1) (pd ls 2)) fun c31 =>
 obind (atP false 1 0 c31) fun v32 =>
 obind (binP false .gtr v32 (eI 1)) fun v33 =>
 some v33
)) fun v33 =>
 obind (gD v21 true (
 obind (pickP v28 (eB true) v33) fun v34 =>
 some v34
)) fun v34 =>
 obind (pickP v21 v34 (eB false)) fun v35 =>
 obind (gD v35 false (
 obind (ixP 4 (pd ls 0) (pd ls 2)) fun c39 =>
 obind (atP false 1 1 c39) fun v41 =>
 obind (unP .not v41) fun v42 =>
 some v42
)) fun v43 =>
 obind (gD v43 true (
 obind (ixP 1 (pd ls 1) (pd ls 2)) fun c46 =>
 obind (atP false 1 0 c46) fun v47 =>
 obind (ixP 4 (pd ls 0) (pd ls 2)) fun c50 =>
 obind (atP false 1 2 c50) fun v52 =>
 obind (binP false .lss v47 v52) fun v53 =>
 some v53
)) fun v54 =>
 obind (gD v54 false (
 obind (ixP 1 (pd ls 1) (pd ls 2)) fun c57 =>
 obind (atP false 1 0 c57) fun v58 =>
 obind (ixP 4 (pd ls 0) (pd ls 2)) fun c61 =>
 obind (atP false 1 3 c61) fun v63 =>
 obind (binP false .gtr v58 v63) fun v64 =>
 some v64
)) fun v64 =>
 obind (gD v43 true (
 obind (pickP v54 (eB true) v64) fun v65 =>
 some v65
)) fun v65 =>
 obind (gD v35 false (
 obind (pickP v43 v65 (eB false)) fun v66 =>
 some v66
)) fun v66 =>
 obind (pickP v35 (eB true) v66) fun v67 =>
 oif v67 (
 inrX (
 inrX (
 some (eB false)
)
)
) (
 obind (binP false .add (pd ls 2) (eI 1)) fun v16 =>
 some (.inl [(pd ls 0), (pd ls 1), v16])
)
) (
 inrX (
 some (.inl [])
)
)

def law30_ranged (n : Nat) (a0 : D) (a1 : D) : Option D :=
 obind (lenP a1) fun v7 =>
 obind (lenP a0) fun v9 =>
 obind (binP false .neq v7 v9) fun v10 =>
 oif v10 (
 some (eB false)
) (
 obind (
 iterL (law30_ranged_l4 n) n [a0, a1, (eI 0)]
) <| jnX fun ls =>
 some (eB true)
)

def law30_rangedL (n : Nat) : List D → Option D
  | [a0, a1] => law30_ranged n a0 a1
  | _ => none
def terms_Put_l7 (r_terms_Put : List D → Option D) (n : Nat) (ls : List D) : Option (List D ⊕ (List D ⊕ D)) :=
 obind (binP false .lss (pd ls 3) (pd ls 2)) fun v33 =>
 oif v33 (
 obind (ixP 4 (pd ls 1) (pd ls 3)) fun c34 =>
 obind (atP true 4 0 c34) fun v35 =>
 og (aggP 4 v35) <|
 obind (r_terms_Put [(D.agg [(celD v35 0), (celD v35 1), (celD v35 2), (celD v35 3)]), (pd ls 0), (D.agg [(pd ls 8), (pd ls 9), (pd ls 10), (pd ls 11)])]) fun v40 =>
 og (aggP 4 v40) <|
 og (roomP (((esD (pd ls 16))).length + ([[(celD v40 0), (celD v40 1), (celD v40 2), (celD v40 3)]]).length) 56) <|
 obind (binP false .add (pd ls 3) (eI 1)) fun v43 =>
 some (.inl [(pd ls 0), (pd ls 1), (pd ls 2), v43, (pd ls 4), (pd ls 5), (pd ls 6), (pd ls 7), (pd ls 8), (pd ls 9), (pd ls 10), (pd ls 11), (pd ls 12), (pd ls 13), (pd ls 14), (pd ls 15), (D.sl 4 ((esD (pd ls 16)) ++ [[(celD v40 0), (celD v40 1), (celD v40 2), (celD v40 3)]]))])
) (
 inrX (
 some (.inl [(pd ls 4), (pd ls 5), (pd ls 6), (pd ls 7), (pd ls 12), (pd ls 13), (pd ls 14), (pd ls 15), (D.sl 4 (esD (pd ls 16)))])
)
)

def terms_Put (r_terms_Put : List D → Option D) (n : Nat) (a0 : D) (a1 : D) (a2 : D) : Option D :=
 og (aggP 4 a0) <|
 og (aggP 4 a2) <|
 obind (binP false .eql (celD a0 0) (eI 3)) fun v12 =>
 obind (gD v12 true (
 obind (binP false .eql (celD a0 2) a1) fun v17 =>
 some v17
)) fun v17 =>
 obind (pickP v12 v17 (eB false)) fun v18 =>
 oif v18 (
 og (aggP 4 (D.agg [(celD a2 0), (celD a2 1), (celD a2 2), (celD a2 3)])) <|
 some (D.agg [(celD a2 0), (celD a2 1), (celD a2 2), (celD a2 3)])
) (
 obind (lenP (celD a0 3)) fun v22 =>
 obind (binP false .eql v22 (eI 0)) fun v23 =>
 oif v23 (
 og (aggP 4 (D.agg [(celD a0 0), (celD a0 1), (celD a0 2), (celD a0 3)])) <|
 some (D.agg [(celD a0 0), (celD a0 1), (celD a0 2), (celD a0 3)])
) (
 obind (lenP (celD a0 3)) fun v27 =>
 obind (makeP 56 (eI 0) v27) fun n28 =>
 obind (lenP (celD a0 3)) fun v31 =>
 obind (
 iterL (terms_Put_l7 r_terms_Put n) n [a1, (celD a0 3), v31, (eI 0), (celD a0 0), (celD a0 1), (celD a0 2), (celD a0 3), (celD a2 0), (celD a2 1), (celD a2 2), (celD a2 3), (eI 0), (eI 0), (eS ⟨#[]⟩), (D.val (.slice none 0 0)), (D.sl 4 (List.replicate n28 [D.val (.int .i64 0), D.val (.int .i64 0), D.val (.string ⟨#[]⟩), D.val (.slice none 0 0)]))]
) <| jnX fun ls =>
 og (oneP (pd ls 0)) <|
 og (oneP (pd ls 1)) <|
 og (oneP (pd ls 2)) <|
 some (D.agg [(pd ls 0), (pd ls 1), (pd ls 2), (D.sl 4 (esD (pd ls 8)))])
)
)

def terms_PutL : Nat → List D → Option D
  | 0, _ => none
  | n + 1, ds => match ds with
    | [a0, a1, a2] => terms_Put (terms_PutL n) n a0 a1 a2
    | _ => none
def ref30_Put_l5 (r_ref30_Put : List D → Option D) (n : Nat) (ls : List D) : Option (List D ⊕ (List D ⊕ D)) :=
 obind (lenP (pd ls 5)) fun v23 =>
 obind (binP false .lss (pd ls 1) v23) fun v24 =>
 oif v24 (
 obind (ixP 4 (pd ls 5) (pd ls 1)) fun c31 =>
 obind (atP true 4 0 c31) fun v32 =>
 obind (r_ref30_Put [v32, (pd ls 0), (D.agg [(pd ls 6), (pd ls 7), (pd ls 8), (pd ls 9)])]) fun v35 =>
 og (aggP 4 v35) <|
 og (roomP (((esD (pd ls 14))).length + ([[(celD v35 0), (celD v35 1), (celD v35 2), (celD v35 3)]]).length) 56) <|
 obind (binP false .add (pd ls 1) (eI 1)) fun v26 =>
 some (.inl [(pd ls 0), v26, (pd ls 2), (pd ls 3), (pd ls 4), (pd ls 5), (pd ls 6), (pd ls 7), (pd ls 8), (pd ls 9), (pd ls 10), (pd ls 11), (pd ls 12), (pd ls 13), (D.sl 4 ((esD (pd ls 14)) ++ [[(celD v35 0), (celD v35 1), (celD v35 2), (celD v35 3)]]))])
) (
 inrX (
 some (.inl [(pd ls 2), (pd ls 3), (pd ls 4), (pd ls 5), (pd ls 10), (pd ls 11), (pd ls 12), (pd ls 13), (D.sl 4 (esD (pd ls 14)))])
)
)

def ref30_Put (r_ref30_Put : List D → Option D) (n : Nat) (a0 : D) (a1 : D) (a2 : D) : Option D :=
 og (aggP 4 a0) <|
 og (aggP 4 a2) <|
 obind (binP false .eql (celD a0 0) (eI 3)) fun v11 =>
 obind (gD v11 true (
 obind (binP false .eql (celD a0 2) a1) fun v16 =>
 some v16
)) fun v16 =>
 obind (pickP v11 v16 (eB false)) fun v17 =>
 oif v17 (
 og (aggP 4 (D.agg [(celD a2 0), (celD a2 1), (celD a2 2), (celD a2 3)])) <|
 some (D.agg [(celD a2 0), (celD a2 1), (celD a2 2), (celD a2 3)])
) (
 obind (
 iterL (ref30_Put_l5 r_ref30_Put n) n [a1, (eI 0), (celD a0 0), (celD a0 1), (celD a0 2), (celD a0 3), (celD a2 0), (celD a2 1), (celD a2 2), (celD a2 3), (eI 0), (eI 0), (eS ⟨#[]⟩), (D.val (.slice none 0 0)), (D.sl 4 [])]
) <| jnX fun ls =>
 og (oneP (pd ls 0)) <|
 og (oneP (pd ls 1)) <|
 og (oneP (pd ls 2)) <|
 some (D.agg [(pd ls 0), (pd ls 1), (pd ls 2), (D.sl 4 (esD (pd ls 8)))])
)

def ref30_PutL : Nat → List D → Option D
  | 0, _ => none
  | n + 1, ds => match ds with
    | [a0, a1, a2] => ref30_Put (ref30_PutL n) n a0 a1 a2
    | _ => none
def ref30_Same_l4 (r_ref30_Same : List D → Option D) (n : Nat) (ls : List D) : Option (List D ⊕ (List D ⊕ D)) :=
 obind (lenP (pd ls 4)) fun v37 =>
 obind (binP false .lss (pd ls 0) v37) fun v38 =>
 oif v38 (
 obind (ixP 4 (pd ls 4) (pd ls 0)) fun c44 =>
 obind (atP true 4 0 c44) fun v45 =>
 obind (ixP 4 (pd ls 8) (pd ls 0)) fun c49 =>
 obind (atP true 4 0 c49) fun v50 =>
 obind (r_ref30_Same [v45, v50]) fun v51 =>
 obind (unP .not v51) fun v52 =>
 oif v52 (
 inrX (
 inrX (
 some (eB false)
)
)
) (
 obind (binP false .add (pd ls 0) (eI 1)) fun v40 =>
 some (.inl [v40, (pd ls 1), (pd ls 2), (pd ls 3), (pd ls 4), (pd ls 5), (pd ls 6), (pd ls 7), (pd ls 8)])
)
) (
 inrX (
 some (.inl [])
)
)

def ref30_Same (r_ref30_Same : List D → Option D) (n : Nat) (a0 : D) (a1 : D) : Option D :=
 og (aggP 4 a0) <|
 og (aggP 4 a1) <|
 obind (binP false .neq (celD a0 0) (celD a1 0)) fun v10 =>
 obind (gD v10 false (
 obind (binP false .neq (celD a0 1) (celD a1 1)) fun v16 =>
 some v16
)) fun v16 =>
 obind (pickP v10 (eB true) v16) fun v17 =>
 obind (gD v17 false (
 obind (binP false .neq (celD a0 2) (celD a1 2)) fun v23 =>
 some v23
)) fun v23 =>
 obind (pickP v17 (eB true) v23) fun v24 =>
 obind (gD v24 false (
 obind (lenP (celD a0 3)) fun v28 =>
 obind (lenP (celD a1 3)) fun v31 =>
 obind (binP false .neq v28 v31) fun v32 =>
 some v32
)) fun v32 =>
 obind (pickP v24 (eB true) v32) fun v33 =>
 oif v33 (
 some (eB false)
) (
 obind (
 iterL (ref30_Same_l4 r_ref30_Same n) n [(eI 0), (celD a0 0), (celD a0 1), (celD a0 2), (celD a0 3), (celD a1 0), (celD a1 1), (celD a1 2), (celD a1 3)]
) <| jnX fun ls =>
 some (eB true)
)

def ref30_SameL : Nat → List D → Option D
  | 0, _ => none
  | n + 1, ds => match ds with
    | [a0, a1] => ref30_Same (ref30_SameL n) n a0 a1
    | _ => none
def terms_Same_l4 (r_terms_Same : List D → Option D) (n : Nat) (ls : List D) : Option (List D ⊕ (List D ⊕ D)) :=
 obind (binP false .lss (pd ls 2) (pd ls 1)) fun v39 =>
 oif v39 (
 obind (ixP 4 (pd ls 0) (pd ls 2)) fun c41 =>
 obind (atP true 4 0 c41) fun v42 =>
 og (aggP 4 v42) <|
 obind (ixP 4 (pd ls 6) (pd ls 2)) fun c47 =>
 obind (atP true 4 0 c47) fun v48 =>
 obind (r_terms_Same [(D.agg [(celD v42 0), (celD v42 1), (celD v42 2), (celD v42 3)]), v48]) fun v49 =>
 obind (unP .not v49) fun v50 =>
 oif v50 (
 inrX (
 inrX (
 some (eB false)
)
)
) (
 obind (binP false .add (pd ls 2) (eI 1)) fun v51 =>
 some (.inl [(pd ls 0), (pd ls 1), v51, (pd ls 3), (pd ls 4), (pd ls 5), (pd ls 6)])
)
) (
 inrX (
 some (.inl [])
)
)

def terms_Same (r_terms_Same : List D → Option D) (n : Nat) (a0 : D) (a1 : D) : Option D :=
 og (aggP 4 a0) <|
 og (aggP 4 a1) <|
 obind (binP false .neq (celD a0 0) (celD a1 0)) fun v11 =>
 obind (gD v11 false (
 obind (binP false .neq (celD a0 1) (celD a1 1)) fun v17 =>
 some v17
)) fun v17 =>
 obind (pickP v11 (eB true) v17) fun v18 =>
 obind (gD v18 false (
 obind (binP false .neq (celD a0 2) (celD a1 2)) fun v24 =>
 some v24
)) fun v24 =>
 obind (pickP v18 (eB true) v24) fun v25 =>
 obind (gD v25 false (
 obind (lenP (celD a0 3)) fun v29 =>
 obind (lenP (celD a1 3)) fun v32 =>
 obind (binP false .neq v29 v32) fun v33 =>
 some v33
)) fun v33 =>
 obind (pickP v25 (eB true) v33) fun v34 =>
 oif v34 (
 some (eB false)
) (
 obind (lenP (celD a0 3)) fun v37 =>
 obind (
 iterL (terms_Same_l4 r_terms_Same n) n [(celD a0 3), v37, (eI 0), (celD a1 0), (celD a1 1), (celD a1 2), (celD a1 3)]
) <| jnX fun ls =>
 some (eB true)
)

def terms_SameL : Nat → List D → Option D
  | 0, _ => none
  | n + 1, ds => match ds with
    | [a0, a1] => terms_Same (terms_SameL n) n a0 a1
    | _ => none
def terms_put_h_l2 (n : Nat) (ls : List D) : Option (List D ⊕ (List D ⊕ (List D))) :=
 obind (binP false .gtr (pd ls 1) (eI 0)) fun v9 =>
 obind (gD v9 true (
 obind (binP false .sub (pd ls 1) (eI 1)) fun v13 =>
 obind (numP ((esD (pd ls 2))).length v13) fun j14 =>
 obind (((esD (pd ls 2)))[j14]?) fun e15 =>
 obind (atP false 1 0 e15) fun v15 =>
 obind (binP false .gtr v15 (pd ls 0)) fun v17 =>
 some v17
)) fun v17 =>
 obind (pickP v9 v17 (eB false)) fun v18 =>
 oif v18 (
 obind (binP false .sub (pd ls 1) (eI 1)) fun v20 =>
 some (.inl [(pd ls 0), v20, (D.sl 1 (esD (pd ls 2)))])
) (
 inrX (
 some (.inl [(pd ls 0), (pd ls 1), (D.sl 1 (esD (pd ls 2)))])
)
)

def terms_put_h (n : Nat) (ls : List D) : Option (List D) :=
 obind (
 iterL (terms_put_h_l2 n) n [(pd ls 0), (eI ((esD (pd ls 1))).length), (D.sl 1 (esD (pd ls 1)))]
) <| jnX fun ls =>
 obind (binP false .gtr (pd ls 1) (eI 0)) fun v22 =>
 obind (gD v22 true (
 obind (binP false .sub (pd ls 1) (eI 1)) fun v26 =>
 obind (numP ((esD (pd ls 2))).length v26) fun j27 =>
 obind (((esD (pd ls 2)))[j27]?) fun e28 =>
 obind (atP false 1 0 e28) fun v28 =>
 obind (binP false .eql v28 (pd ls 0)) fun v30 =>
 some v30
)) fun v30 =>
 obind (pickP v22 v30 (eB false)) fun v31 =>
 oif v31 (
 some [(D.sl 1 (esD (pd ls 2)))]
) (
 og (roomP (((esD (pd ls 2))).length + ([[(eS ⟨#[]⟩)]]).length) 16) <|
 obind (binP false .add (pd ls 1) (eI 1)) fun v38 =>
 obind (cutP (((esD (pd ls 2)) ++ [[(eS ⟨#[]⟩)]])).length (some v38) none) fun p39 =>
 obind (cutP (((esD (pd ls 2)) ++ [[(eS ⟨#[]⟩)]])).length (some (pd ls 1)) none) fun p42 =>
 og (decide (p42.1 + p42.2 ≤ (((esD (pd ls 2)) ++ [[(eS ⟨#[]⟩)]])).length)) <|
 og (decide (p39.1 + p39.2 ≤ (((esD (pd ls 2)) ++ [[(eS ⟨#[]⟩)]])).length)) <|
 obind (numP (((((esD (pd ls 2)) ++ [[(eS ⟨#[]⟩)]])).take p39.1 ++ (((((esD (pd ls 2)) ++ [[(eS ⟨#[]⟩)]])).drop p42.1).take p42.2).take (min (((((esD (pd ls 2)) ++ [[(eS ⟨#[]⟩)]])).drop p42.1).take p42.2).length p39.2) ++ (((esD (pd ls 2)) ++ [[(eS ⟨#[]⟩)]])).drop (p39.1 + (min (((((esD (pd ls 2)) ++ [[(eS ⟨#[]⟩)]])).drop p42.1).take p42.2).length p39.2)))).length (pd ls 1)) fun j47 =>
 og (oneP (pd ls 0)) <|
 obind ((((((esD (pd ls 2)) ++ [[(eS ⟨#[]⟩)]])).take p39.1 ++ (((((esD (pd ls 2)) ++ [[(eS ⟨#[]⟩)]])).drop p42.1).take p42.2).take (min (((((esD (pd ls 2)) ++ [[(eS ⟨#[]⟩)]])).drop p42.1).take p42.2).length p39.2) ++ (((esD (pd ls 2)) ++ [[(eS ⟨#[]⟩)]])).drop (p39.1 + (min (((((esD (pd ls 2)) ++ [[(eS ⟨#[]⟩)]])).drop p42.1).take p42.2).length p39.2))))[j47]?) fun w1 =>
 some [(D.sl 1 ((((((esD (pd ls 2)) ++ [[(eS ⟨#[]⟩)]])).take p39.1 ++ (((((esD (pd ls 2)) ++ [[(eS ⟨#[]⟩)]])).drop p42.1).take p42.2).take (min (((((esD (pd ls 2)) ++ [[(eS ⟨#[]⟩)]])).drop p42.1).take p42.2).length p39.2) ++ (((esD (pd ls 2)) ++ [[(eS ⟨#[]⟩)]])).drop (p39.1 + (min (((((esD (pd ls 2)) ++ [[(eS ⟨#[]⟩)]])).drop p42.1).take p42.2).length p39.2)))).set j47 (setSegD w1 0 [(pd ls 0)])))]
)

def terms_Names_1_h (n : Nat) (ls : List D) : Option (List D) :=
 og (aggP 4 (pd ls 0)) <|
 obind (
 obind (binP false .eql (celD (pd ls 0) 0) (eI 3)) fun v10 =>
 obind (
 oif v10 (
 obind (terms_put_h n [(celD (pd ls 0) 2), (D.sl 1 (esD (pd ls 2)))]) fun h1 =>
 some (.inl [(D.sl 1 (esD (pd h1 0))), (D.sl 1 (esD (pd ls 3)))])
) (
 obind (binP false .eql (celD (pd ls 0) 0) (eI 4)) fun v16 =>
 obind (
 oif v16 (
 obind (terms_put_h n [(celD (pd ls 0) 2), (D.sl 1 (esD (pd ls 3)))]) fun h2 =>
 some (.inl [(D.sl 1 (esD (pd ls 2))), (D.sl 1 (esD (pd h2 0)))])
) (
 some (.inl [(D.sl 1 (esD (pd ls 2))), (D.sl 1 (esD (pd ls 3)))])
)
) <| jnX fun ls =>
 some (.inl [(D.sl 1 (esD (pd ls 0))), (D.sl 1 (esD (pd ls 1)))])
)
) <| jnX fun ls =>
 some (.inl [(D.sl 1 (esD (pd ls 0))), (D.sl 1 (esD (pd ls 1)))])
) <| jnX fun ls =>
 some [(eB true), (D.sl 1 (esD (pd ls 0))), (D.sl 1 (esD (pd ls 1)))]

def terms_walk_h_terms_Check_1_l4 (r_terms_walk_h_terms_Check_1 : List D → Option (List D)) (n : Nat) (ls : List D) : Option (List D ⊕ (List D ⊕ (List D))) :=
 obind (binP false .lss (pd ls 3) (pd ls 2)) fun v18 =>
 oif v18 (
 obind (ixP 4 (pd ls 1) (pd ls 3)) fun c19 =>
 obind (atP true 4 0 c19) fun v20 =>
 og (aggP 4 v20) <|
 obind (binP false .add (pd ls 0) (eI 1)) fun v23 =>
 obind (r_terms_walk_h_terms_Check_1 [(D.agg [(celD v20 0), (celD v20 1), (celD v20 2), (celD v20 3)]), v23, (pd ls 4), (pd ls 5)]) fun h2 =>
 obind (unP .not (pd h2 0)) fun v26 =>
 oif v26 (
 inrX (
 inrX (
 some [(eB false), (pd h2 1), (pd h2 2)]
)
)
) (
 obind (binP false .add (pd ls 3) (eI 1)) fun v27 =>
 some (.inl [(pd ls 0), (pd ls 1), (pd ls 2), v27, (pd h2 1), (pd h2 2)])
)
) (
 inrX (
 some (.inl [(pd ls 4), (pd ls 5)])
)
)

def terms_walk_h_terms_Check_1 (r_terms_walk_h_terms_Check_1 : List D → Option (List D)) (n : Nat) (ls : List D) : Option (List D) :=
 og (aggP 4 (pd ls 0)) <|
 obind (terms_Check_1_h n [(D.agg [(celD (pd ls 0) 0), (celD (pd ls 0) 1), (celD (pd ls 0) 2), (celD (pd ls 0) 3)]), (pd ls 1), (pd ls 2), (pd ls 3)]) fun h1 =>
 obind (unP .not (pd h1 0)) fun v13 =>
 oif v13 (
 some [(eB false), (pd h1 1), (pd h1 2)]
) (
 obind (lenP (celD (pd ls 0) 3)) fun v16 =>
 obind (
 iterL (terms_walk_h_terms_Check_1_l4 r_terms_walk_h_terms_Check_1 n) n [(pd ls 1), (celD (pd ls 0) 3), v16, (eI 0), (pd h1 1), (pd h1 2)]
) <| jnX fun ls =>
 some [(eB true), (pd ls 0), (pd ls 1)]
)

def terms_walk_h_terms_Check_1L : Nat → List D → Option (List D)
  | 0, _ => none
  | n + 1, ls => terms_walk_h_terms_Check_1 (terms_walk_h_terms_Check_1L n) n ls
def terms_Check (n : Nat) (a0 : D) : Option D :=
 og (aggP 4 a0) <|
 obind (terms_walk_h_terms_Check_1L n [(D.agg [(celD a0 0), (celD a0 1), (celD a0 2), (celD a0 3)]), (eI 1), (eI 0), (eI 0)]) fun h1 =>
 some (pd h1 2)

def terms_CheckL (n : Nat) : List D → Option D
  | [a0] => terms_Check n a0
  | _ => none
def terms_Type (n : Nat) (a0 : D) (a1 : D) (a2 : D) : Option D :=
 og (aggP 4 a1) <|
 obind (terms_CheckL n [(D.agg [(celD a1 0), (celD a1 1), (celD a1 2), (celD a1 3)])]) fun v10 =>
 obind (binP false .neq v10 (eI 0)) fun v12 =>
 oif v12 (
 some (D.tup [(D.agg [(eB false), (eI 0), (eI 0)]), v10])
) (
 obind (terms_namesL n [a0]) fun v17 =>
 obind (terms_typedL n [a0, v17, (D.agg [(celD a1 0), (celD a1 1), (celD a1 2), (celD a1 3)]), a2]) fun v20 =>
 obind (extP 0 v20) fun v21 =>
 obind (extP 1 v20) fun v22 =>
 og (aggP 3 v21) <|
 some (D.tup [(D.agg [(celD v21 0), (celD v21 1), (celD v21 2)]), v22])
)

def terms_TypeL (n : Nat) : List D → Option D
  | [a0, a1, a2] => terms_Type n a0 a1 a2
  | _ => none
def terms_Eval (n : Nat) (a0 : D) (a1 : D) (a2 : D) (a3 : D) : Option D :=
 og (oneP a0) <|
 og (aggP 4 a1) <|
 og (oneP a2) <|
 og (oneP a3) <|
 obind (terms_TypeL n [a0, (D.agg [(celD a1 0), (celD a1 1), (celD a1 2), (celD a1 3)]), (eB true)]) fun v17 =>
 obind (extP 0 v17) fun v18 =>
 obind (extP 1 v17) fun v19 =>
 og (aggP 3 v18) <|
 obind (binP false .neq v19 (eI 0)) fun v21 =>
 obind (gD v21 false (
 obind (lenP a2) fun v24 =>
 obind (lenP a0) fun v26 =>
 obind (binP false .neq v24 v26) fun v27 =>
 some v27
)) fun v27 =>
 obind (pickP v21 (eB true) v27) fun v28 =>
 oif v28 (
 some (D.tup [(eI 0), (eB false)])
) (
 obind (terms_namesL n [a0]) fun v30 =>
 og (oneP v30) <|
 obind (terms_Eval_1_hL n [(D.agg [(celD a1 0), (celD a1 1), (celD a1 2), (celD a1 3)]), a2, v30, a3, a0]) fun h1 =>
 obind (extP 0 (pd h1 0)) fun v35 =>
 obind (extP 1 (pd h1 0)) fun v36 =>
 some (D.tup [v35, v36])
)

def terms_EvalL (n : Nat) : List D → Option D
  | [a0, a1, a2, a3] => terms_Eval n a0 a1 a2 a3
  | _ => none
def law30_lives (n : Nat) : Option D :=
 obind (law30_nameL n [(eS ⟨#[120]⟩)]) fun v21 =>
 og (aggP 4 v21) <|
 obind (law30_numL n [(eI 1)]) fun v25 =>
 obind (law30_twoL n [(eI 14), (D.agg [(celD v21 0), (celD v21 1), (celD v21 2), (celD v21 3)]), v25]) fun v26 =>
 obind (terms_TypeL n [(D.sl 4 [[(eS ⟨#[120]⟩), (eB false), (eI 0), (eI 3)]]), v26, (eB false)]) fun v27 =>
 og v27.flat <|
 obind (extP 0 v27) fun v28 =>
 obind (extP 1 v27) fun v29 =>
 og (aggP 3 v28) <|
 obind (law30_numL n [(eI 3)]) fun v33 =>
 obind (law30_twoL n [(eI 10), (D.agg [(celD v21 0), (celD v21 1), (celD v21 2), (celD v21 3)]), v33]) fun v34 =>
 obind (terms_TypeL n [(D.sl 4 [[(eS ⟨#[120]⟩), (eB false), (eI 0), (eI 3)]]), v34, (eB false)]) fun v35 =>
 og v35.flat <|
 obind (extP 0 v35) fun v36 =>
 obind (extP 1 v35) fun v37 =>
 og (aggP 3 v36) <|
 obind (law30_numL n [(eI 0)]) fun v41 =>
 obind (law30_twoL n [(eI 17), (D.agg [(celD v21 0), (celD v21 1), (celD v21 2), (celD v21 3)]), v41]) fun v42 =>
 obind (terms_TypeL n [(D.sl 4 [[(eS ⟨#[120]⟩), (eB false), (eI 0), (eI 3)]]), v42, (eB false)]) fun v43 =>
 og v43.flat <|
 obind (extP 0 v43) fun v44 =>
 obind (extP 1 v43) fun v45 =>
 og (aggP 3 v44) <|
 obind (law30_twoL n [(eI 6), (D.agg [(celD v21 0), (celD v21 1), (celD v21 2), (celD v21 3)]), (D.agg [(eI 2), (eI 1), (eS ⟨#[]⟩), (D.val (.slice none 0 0))])]) fun v50 =>
 obind (terms_TypeL n [(D.sl 4 [[(eS ⟨#[120]⟩), (eB false), (eI 0), (eI 3)]]), v50, (eB false)]) fun v51 =>
 og v51.flat <|
 obind (extP 0 v51) fun v52 =>
 obind (extP 1 v51) fun v53 =>
 og (aggP 3 v52) <|
 obind (terms_TypeL n [(D.sl 4 [[(eS ⟨#[120]⟩), (eB false), (eI 0), (eI 3)]]), (D.agg [(eI 4), (eI 0), (eS ⟨#[120]⟩), (D.val (.slice none 0 0))]), (eB false)]) fun v57 =>
 og v57.flat <|
 obind (extP 0 v57) fun v58 =>
 obind (extP 1 v57) fun v59 =>
 og (aggP 3 v58) <|
 obind (law30_numL n [(eI 5)]) fun v61 =>
 obind (law30_twoL n [(eI 15), (D.agg [(celD v21 0), (celD v21 1), (celD v21 2), (celD v21 3)]), v61]) fun v62 =>
 og (aggP 4 v62) <|
 obind (terms_EvalL n [(D.sl 4 [[(eS ⟨#[120]⟩), (eB false), (eI 0), (eI 3)]]), (D.agg [(celD v62 0), (celD v62 1), (celD v62 2), (celD v62 3)]), (D.sl 1 [[(eI 2)]]), (D.val (.slice none 0 0))]) fun v67 =>
 og v67.flat <|
 obind (extP 0 v67) fun v68 =>
 obind (extP 1 v67) fun v69 =>
 obind (law30_numL n [(eI 4)]) fun v73 =>
 obind (law30_twoL n [(eI 17), (D.agg [(celD v62 0), (celD v62 1), (celD v62 2), (celD v62 3)]), v73]) fun v74 =>
 obind (terms_EvalL n [(D.sl 4 [[(eS ⟨#[120]⟩), (eB false), (eI 0), (eI 3)]]), v74, (D.sl 1 [[(eI 2)]]), (D.val (.slice none 0 0))]) fun v76 =>
 og v76.flat <|
 obind (extP 0 v76) fun v77 =>
 obind (extP 1 v76) fun v78 =>
 obind (eqvP [.bool, .int .i64, .int .i64] .eql (D.agg [(celD v28 0), (celD v28 1), (celD v28 2)]) (D.agg [(eB false), (eI 1), (eI 4)])) fun v81 =>
 obind (gD v81 true (
 obind (binP false .eql v29 (eI 0)) fun v84 =>
 some v84
)) fun v84 =>
 obind (pickP v81 v84 (eB false)) fun v85 =>
 obind (gD v85 true (
 obind (eqvP [.bool, .int .i64, .int .i64] .eql (D.agg [(celD v36 0), (celD v36 1), (celD v36 2)]) (D.agg [(eB true), (eI 0), (eI 0)])) fun v89 =>
 some v89
)) fun v89 =>
 obind (pickP v85 v89 (eB false)) fun v90 =>
 obind (gD v90 true (
 obind (binP false .eql v37 (eI 0)) fun v93 =>
 some v93
)) fun v93 =>
 obind (pickP v90 v93 (eB false)) fun v94 =>
 obind (gD v94 true (
 obind (binP false .eql v45 (eI 2)) fun v98 =>
 some v98
)) fun v98 =>
 obind (pickP v94 v98 (eB false)) fun v99 =>
 obind (gD v99 true (
 obind (binP false .eql v53 (eI 13)) fun v102 =>
 some v102
)) fun v102 =>
 obind (pickP v99 v102 (eB false)) fun v103 =>
 obind (gD v103 true (
 obind (binP false .eql v59 (eI 24)) fun v106 =>
 some v106
)) fun v106 =>
 obind (pickP v103 v106 (eB false)) fun v107 =>
 obind (gD v107 true (
 some v69
)) fun v109 =>
 obind (pickP v107 v109 (eB false)) fun v110 =>
 obind (gD v110 true (
 obind (binP false .eql v68 (eI (-3))) fun v113 =>
 some v113
)) fun v113 =>
 obind (pickP v110 v113 (eB false)) fun v114 =>
 obind (gD v114 true (
 some v78
)) fun v116 =>
 obind (pickP v114 v116 (eB false)) fun v117 =>
 obind (gD v117 true (
 obind (binP false .eql v77 (eI 1)) fun v120 =>
 some v120
)) fun v120 =>
 obind (pickP v117 v120 (eB false)) fun v121 =>
 some v121

def law30_livesL (n : Nat) : List D → Option D
  | [] => law30_lives n
  | _ => none
def terms_walk_h_terms_Names_1_l4 (r_terms_walk_h_terms_Names_1 : List D → Option (List D)) (n : Nat) (ls : List D) : Option (List D ⊕ (List D ⊕ (List D))) :=
 obind (binP false .lss (pd ls 3) (pd ls 2)) fun v18 =>
 oif v18 (
 obind (ixP 4 (pd ls 1) (pd ls 3)) fun c19 =>
 obind (atP true 4 0 c19) fun v20 =>
 og (aggP 4 v20) <|
 obind (binP false .add (pd ls 0) (eI 1)) fun v23 =>
 obind (r_terms_walk_h_terms_Names_1 [(D.agg [(celD v20 0), (celD v20 1), (celD v20 2), (celD v20 3)]), v23, (D.sl 1 (esD (pd ls 4))), (D.sl 1 (esD (pd ls 5)))]) fun h2 =>
 obind (unP .not (pd h2 0)) fun v26 =>
 oif v26 (
 inrX (
 inrX (
 some [(eB false), (D.sl 1 (esD (pd h2 1))), (D.sl 1 (esD (pd h2 2)))]
)
)
) (
 obind (binP false .add (pd ls 3) (eI 1)) fun v27 =>
 some (.inl [(pd ls 0), (pd ls 1), (pd ls 2), v27, (D.sl 1 (esD (pd h2 1))), (D.sl 1 (esD (pd h2 2)))])
)
) (
 inrX (
 some (.inl [(D.sl 1 (esD (pd ls 4))), (D.sl 1 (esD (pd ls 5)))])
)
)

def terms_walk_h_terms_Names_1 (r_terms_walk_h_terms_Names_1 : List D → Option (List D)) (n : Nat) (ls : List D) : Option (List D) :=
 og (aggP 4 (pd ls 0)) <|
 obind (terms_Names_1_h n [(D.agg [(celD (pd ls 0) 0), (celD (pd ls 0) 1), (celD (pd ls 0) 2), (celD (pd ls 0) 3)]), (pd ls 1), (D.sl 1 (esD (pd ls 2))), (D.sl 1 (esD (pd ls 3)))]) fun h1 =>
 obind (unP .not (pd h1 0)) fun v13 =>
 oif v13 (
 some [(eB false), (D.sl 1 (esD (pd h1 1))), (D.sl 1 (esD (pd h1 2)))]
) (
 obind (lenP (celD (pd ls 0) 3)) fun v16 =>
 obind (
 iterL (terms_walk_h_terms_Names_1_l4 r_terms_walk_h_terms_Names_1 n) n [(pd ls 1), (celD (pd ls 0) 3), v16, (eI 0), (D.sl 1 (esD (pd h1 1))), (D.sl 1 (esD (pd h1 2)))]
) <| jnX fun ls =>
 some [(eB true), (D.sl 1 (esD (pd ls 0))), (D.sl 1 (esD (pd ls 1)))]
)

def terms_walk_h_terms_Names_1L : Nat → List D → Option (List D)
  | 0, _ => none
  | n + 1, ls => terms_walk_h_terms_Names_1 (terms_walk_h_terms_Names_1L n) n ls
def terms_Names (n : Nat) (a0 : D) : Option D :=
 og (aggP 4 a0) <|
 obind (terms_walk_h_terms_Names_1L n [(D.agg [(celD a0 0), (celD a0 1), (celD a0 2), (celD a0 3)]), (eI 1), (D.sl 1 []), (D.sl 1 [])]) fun h1 =>
 some (D.tup [(D.sl 1 (esD (pd h1 1))), (D.sl 1 (esD (pd h1 2)))])

def terms_NamesL (n : Nat) : List D → Option D
  | [a0] => terms_Names n a0
  | _ => none
def ref30_In_l2 (n : Nat) (ls : List D) : Option (List D ⊕ (List D ⊕ D)) :=
 obind (lenP (pd ls 0)) fun v8 =>
 obind (binP false .lss (pd ls 2) v8) fun v9 =>
 oif v9 (
 obind (ixP 1 (pd ls 0) (pd ls 2)) fun c14 =>
 obind (atP false 1 0 c14) fun v15 =>
 obind (binP false .eql v15 (pd ls 1)) fun v17 =>
 oif v17 (
 inrX (
 inrX (
 some (eB true)
)
)
) (
 obind (binP false .add (pd ls 2) (eI 1)) fun v11 =>
 some (.inl [(pd ls 0), (pd ls 1), v11])
)
) (
 inrX (
 some (.inl [])
)
)

def ref30_In (n : Nat) (a0 : D) (a1 : D) : Option D :=
 obind (
 iterL (ref30_In_l2 n) n [a0, a1, (eI 0)]
) <| jnX fun ls =>
 some (eB false)

def ref30_InL (n : Nat) : List D → Option D
  | [a0, a1] => ref30_In n a0 a1
  | _ => none
def ref30_With_l6 (n : Nat) (ls : List D) : Option (List D ⊕ (List D ⊕ D)) :=
 obind (lenP (pd ls 0)) fun v15 =>
 obind (binP false .lss (pd ls 3) v15) fun v16 =>
 oif v16 (
 obind (unP .not (pd ls 2)) fun v20 =>
 obind (gD v20 true (
 obind (ixP 1 (pd ls 0) (pd ls 3)) fun c24 =>
 obind (atP false 1 0 c24) fun v25 =>
 obind (binP false .gtr v25 (pd ls 1)) fun v27 =>
 some v27
)) fun v27 =>
 obind (pickP v20 v27 (eB false)) fun v28 =>
 obind (
 oif v28 (
 og (oneP (pd ls 1)) <|
 og (roomP (((esD (pd ls 4))).length + ([[(pd ls 1)]]).length) 16) <|
 some (.inl [(pd ls 0), (pd ls 1), (eB true), (pd ls 3), (D.sl 1 ((esD (pd ls 4)) ++ [[(pd ls 1)]]))])
) (
 some (.inl [(pd ls 0), (pd ls 1), (pd ls 2), (pd ls 3), (D.sl 1 (esD (pd ls 4)))])
)
) <| jnX fun ls =>
 obind (ixP 1 (pd ls 0) (pd ls 3)) fun c36 =>
 obind (atP false 1 0 c36) fun v37 =>
 og (oneP v37) <|
 og (roomP (((esD (pd ls 4))).length + ([[v37]]).length) 16) <|
 obind (binP false .add (pd ls 3) (eI 1)) fun v18 =>
 some (.inl [(pd ls 0), (pd ls 1), (pd ls 2), v18, (D.sl 1 ((esD (pd ls 4)) ++ [[v37]]))])
) (
 inrX (
 some (.inl [(pd ls 1), (pd ls 2), (D.sl 1 (esD (pd ls 4)))])
)
)

def ref30_With (n : Nat) (a0 : D) (a1 : D) : Option D :=
 obind (ref30_InL n [a0, a1]) fun v10 =>
 oif v10 (
 some a0
) (
 obind (
 iterL (ref30_With_l6 n) n [a0, a1, (eB false), (eI 0), (D.sl 1 [])]
) <| jnX fun ls =>
 obind (unP .not (pd ls 1)) fun v41 =>
 obind (
 oif v41 (
 og (oneP (pd ls 0)) <|
 og (roomP (((esD (pd ls 2))).length + ([[(pd ls 0)]]).length) 16) <|
 some (.inl [(D.sl 1 ((esD (pd ls 2)) ++ [[(pd ls 0)]]))])
) (
 some (.inl [(D.sl 1 (esD (pd ls 2)))])
)
) <| jnX fun ls =>
 some (D.sl 1 (esD (pd ls 0)))
)

def ref30_WithL (n : Nat) : List D → Option D
  | [a0, a1] => ref30_With n a0 a1
  | _ => none
def ref30_names_l4 (r_ref30_names : List D → Option D) (n : Nat) (ls : List D) : Option (List D ⊕ (List D ⊕ D)) :=
 obind (lenP (pd ls 6)) fun v19 =>
 obind (binP false .lss (pd ls 2) v19) fun v20 =>
 oif v20 (
 obind (ixP 4 (pd ls 6) (pd ls 2)) fun c26 =>
 obind (atP true 4 0 c26) fun v27 =>
 obind (r_ref30_names [v27, (pd ls 0), (pd ls 1)]) fun v30 =>
 obind (binP false .add (pd ls 2) (eI 1)) fun v22 =>
 some (.inl [(pd ls 0), v30, v22, (pd ls 3), (pd ls 4), (pd ls 5), (pd ls 6)])
) (
 inrX (
 some (.inl [(pd ls 1)])
)
)

def ref30_names (r_ref30_names : List D → Option D) (n : Nat) (a0 : D) (a1 : D) (a2 : D) : Option D :=
 og (aggP 4 a0) <|
 obind (binP false .eql (celD a0 0) a1) fun v11 =>
 obind (
 oif v11 (
 obind (ref30_WithL n [a2, (celD a0 2)]) fun v15 =>
 some (.inl [a1, v15, (celD a0 0), (celD a0 1), (celD a0 2), (celD a0 3)])
) (
 some (.inl [a1, a2, (celD a0 0), (celD a0 1), (celD a0 2), (celD a0 3)])
)
) <| jnX fun ls =>
 obind (
 iterL (ref30_names_l4 r_ref30_names n) n [(pd ls 0), (pd ls 1), (eI 0), (pd ls 2), (pd ls 3), (pd ls 4), (pd ls 5)]
) <| jnX fun ls =>
 some (pd ls 0)

def ref30_namesL : Nat → List D → Option D
  | 0, _ => none
  | n + 1, ds => match ds with
    | [a0, a1, a2] => ref30_names (ref30_namesL n) n a0 a1 a2
    | _ => none
def ref30_Names (n : Nat) (a0 : D) : Option D :=
 og (aggP 4 a0) <|
 obind (ref30_namesL n [(D.agg [(celD a0 0), (celD a0 1), (celD a0 2), (celD a0 3)]), (eI 3), (D.val (.slice none 0 0))]) fun v5 =>
 obind (ref30_namesL n [(D.agg [(celD a0 0), (celD a0 1), (celD a0 2), (celD a0 3)]), (eI 4), (D.val (.slice none 0 0))]) fun v7 =>
 some (D.tup [v5, v7])

def ref30_NamesL (n : Nat) : List D → Option D
  | [a0] => ref30_Names n a0
  | _ => none
def ref30_Texts_l4 (n : Nat) (ls : List D) : Option (List D ⊕ (List D ⊕ D)) :=
 obind (lenP (pd ls 0)) fun v13 =>
 obind (binP false .lss (pd ls 2) v13) fun v14 =>
 oif v14 (
 obind (ixP 1 (pd ls 0) (pd ls 2)) fun c19 =>
 obind (atP false 1 0 c19) fun v20 =>
 obind (ixP 1 (pd ls 1) (pd ls 2)) fun c23 =>
 obind (atP false 1 0 c23) fun v24 =>
 obind (binP false .neq v20 v24) fun v25 =>
 oif v25 (
 inrX (
 inrX (
 some (eB false)
)
)
) (
 obind (binP false .add (pd ls 2) (eI 1)) fun v16 =>
 some (.inl [(pd ls 0), (pd ls 1), v16])
)
) (
 inrX (
 some (.inl [])
)
)

def ref30_Texts (n : Nat) (a0 : D) (a1 : D) : Option D :=
 obind (lenP a0) fun v7 =>
 obind (lenP a1) fun v9 =>
 obind (binP false .neq v7 v9) fun v10 =>
 oif v10 (
 some (eB false)
) (
 obind (
 iterL (ref30_Texts_l4 n) n [a0, a1, (eI 0)]
) <| jnX fun ls =>
 some (eB true)
)

def ref30_TextsL (n : Nat) : List D → Option D
  | [a0, a1] => ref30_Texts n a0 a1
  | _ => none
def terms_Size_1_h (n : Nat) (ls : List D) : Option (List D) :=
 og (aggP 4 (pd ls 0)) <|
 obind (binP false .add (pd ls 2) (eI 1)) fun v7 =>
 og (oneP v7) <|
 some [(eB true), v7]

def terms_walk_h_terms_Size_1_l4 (r_terms_walk_h_terms_Size_1 : List D → Option (List D)) (n : Nat) (ls : List D) : Option (List D ⊕ (List D ⊕ (List D))) :=
 obind (binP false .lss (pd ls 3) (pd ls 2)) fun v18 =>
 oif v18 (
 obind (ixP 4 (pd ls 1) (pd ls 3)) fun c19 =>
 obind (atP true 4 0 c19) fun v20 =>
 og (aggP 4 v20) <|
 obind (binP false .add (pd ls 0) (eI 1)) fun v23 =>
 obind (r_terms_walk_h_terms_Size_1 [(D.agg [(celD v20 0), (celD v20 1), (celD v20 2), (celD v20 3)]), v23, (pd ls 4)]) fun h2 =>
 obind (unP .not (pd h2 0)) fun v26 =>
 oif v26 (
 inrX (
 inrX (
 some [(eB false), (pd h2 1)]
)
)
) (
 obind (binP false .add (pd ls 3) (eI 1)) fun v27 =>
 some (.inl [(pd ls 0), (pd ls 1), (pd ls 2), v27, (pd h2 1)])
)
) (
 inrX (
 some (.inl [(pd ls 4)])
)
)

def terms_walk_h_terms_Size_1 (r_terms_walk_h_terms_Size_1 : List D → Option (List D)) (n : Nat) (ls : List D) : Option (List D) :=
 og (aggP 4 (pd ls 0)) <|
 obind (terms_Size_1_h n [(D.agg [(celD (pd ls 0) 0), (celD (pd ls 0) 1), (celD (pd ls 0) 2), (celD (pd ls 0) 3)]), (pd ls 1), (pd ls 2)]) fun h1 =>
 obind (unP .not (pd h1 0)) fun v13 =>
 oif v13 (
 some [(eB false), (pd h1 1)]
) (
 obind (lenP (celD (pd ls 0) 3)) fun v16 =>
 obind (
 iterL (terms_walk_h_terms_Size_1_l4 r_terms_walk_h_terms_Size_1 n) n [(pd ls 1), (celD (pd ls 0) 3), v16, (eI 0), (pd h1 1)]
) <| jnX fun ls =>
 some [(eB true), (pd ls 0)]
)

def terms_walk_h_terms_Size_1L : Nat → List D → Option (List D)
  | 0, _ => none
  | n + 1, ls => terms_walk_h_terms_Size_1 (terms_walk_h_terms_Size_1L n) n ls
def terms_Size (n : Nat) (a0 : D) : Option D :=
 og (aggP 4 a0) <|
 obind (terms_walk_h_terms_Size_1L n [(D.agg [(celD a0 0), (celD a0 1), (celD a0 2), (celD a0 3)]), (eI 1), (eI 0)]) fun h1 =>
 some (pd h1 1)

def terms_SizeL (n : Nat) : List D → Option D
  | [a0] => terms_Size n a0
  | _ => none
def terms_Deep_1_h (n : Nat) (ls : List D) : Option (List D) :=
 og (aggP 4 (pd ls 0)) <|
 obind (mmP true [(pd ls 2), (pd ls 1)]) fun v8 =>
 og (oneP v8) <|
 some [(eB true), v8]

def terms_walk_h_terms_Deep_1_l4 (r_terms_walk_h_terms_Deep_1 : List D → Option (List D)) (n : Nat) (ls : List D) : Option (List D ⊕ (List D ⊕ (List D))) :=
 obind (binP false .lss (pd ls 3) (pd ls 2)) fun v18 =>
 oif v18 (
 obind (ixP 4 (pd ls 1) (pd ls 3)) fun c19 =>
 obind (atP true 4 0 c19) fun v20 =>
 og (aggP 4 v20) <|
 obind (binP false .add (pd ls 0) (eI 1)) fun v23 =>
 obind (r_terms_walk_h_terms_Deep_1 [(D.agg [(celD v20 0), (celD v20 1), (celD v20 2), (celD v20 3)]), v23, (pd ls 4)]) fun h2 =>
 obind (unP .not (pd h2 0)) fun v26 =>
 oif v26 (
 inrX (
 inrX (
 some [(eB false), (pd h2 1)]
)
)
) (
 obind (binP false .add (pd ls 3) (eI 1)) fun v27 =>
 some (.inl [(pd ls 0), (pd ls 1), (pd ls 2), v27, (pd h2 1)])
)
) (
 inrX (
 some (.inl [(pd ls 4)])
)
)

def terms_walk_h_terms_Deep_1 (r_terms_walk_h_terms_Deep_1 : List D → Option (List D)) (n : Nat) (ls : List D) : Option (List D) :=
 og (aggP 4 (pd ls 0)) <|
 obind (terms_Deep_1_h n [(D.agg [(celD (pd ls 0) 0), (celD (pd ls 0) 1), (celD (pd ls 0) 2), (celD (pd ls 0) 3)]), (pd ls 1), (pd ls 2)]) fun h1 =>
 obind (unP .not (pd h1 0)) fun v13 =>
 oif v13 (
 some [(eB false), (pd h1 1)]
) (
 obind (lenP (celD (pd ls 0) 3)) fun v16 =>
 obind (
 iterL (terms_walk_h_terms_Deep_1_l4 r_terms_walk_h_terms_Deep_1 n) n [(pd ls 1), (celD (pd ls 0) 3), v16, (eI 0), (pd h1 1)]
) <| jnX fun ls =>
 some [(eB true), (pd ls 0)]
)

def terms_walk_h_terms_Deep_1L : Nat → List D → Option (List D)
  | 0, _ => none
  | n + 1, ls => terms_walk_h_terms_Deep_1 (terms_walk_h_terms_Deep_1L n) n ls
def terms_Deep (n : Nat) (a0 : D) : Option D :=
 og (aggP 4 a0) <|
 obind (terms_walk_h_terms_Deep_1L n [(D.agg [(celD a0 0), (celD a0 1), (celD a0 2), (celD a0 3)]), (eI 1), (eI 0)]) fun h1 =>
 some (pd h1 1)

def terms_DeepL (n : Nat) : List D → Option D
  | [a0] => terms_Deep n a0
  | _ => none
def law30_TermsChecks (n : Nat) (a0 : D) : Option D :=
 og (aggP 4 a0) <|
 obind (law30_LightL n [(D.agg [(celD a0 0), (celD a0 1), (celD a0 2), (celD a0 3)])]) fun v10 =>
 obind (unP .not v10) fun v11 =>
 oif v11 (
 obind (law30_livesL n []) fun v12 =>
 some v12
) (
 obind (terms_NamesL n [(D.agg [(celD a0 0), (celD a0 1), (celD a0 2), (celD a0 3)])]) fun v15 =>
 obind (extP 0 v15) fun v16 =>
 obind (extP 1 v15) fun v17 =>
 obind (ref30_NamesL n [(D.agg [(celD a0 0), (celD a0 1), (celD a0 2), (celD a0 3)])]) fun v20 =>
 obind (extP 0 v20) fun v21 =>
 obind (extP 1 v20) fun v22 =>
 obind (ref30_PartsL n [(D.agg [(celD a0 0), (celD a0 1), (celD a0 2), (celD a0 3)])]) fun v25 =>
 obind (extP 0 v25) fun v26 =>
 obind (extP 1 v25) fun v27 =>
 obind (terms_CheckL n [(D.agg [(celD a0 0), (celD a0 1), (celD a0 2), (celD a0 3)])]) fun v29 =>
 obind (ref30_CheckL n [(D.agg [(celD a0 0), (celD a0 1), (celD a0 2), (celD a0 3)])]) fun v31 =>
 obind (binP false .eql v29 v31) fun v32 =>
 obind (gD v32 true (
 obind (ref30_TextsL n [v16, v21]) fun v36 =>
 some v36
)) fun v36 =>
 obind (pickP v32 v36 (eB false)) fun v37 =>
 obind (gD v37 true (
 obind (ref30_TextsL n [v17, v22]) fun v41 =>
 some v41
)) fun v41 =>
 obind (pickP v37 v41 (eB false)) fun v42 =>
 obind (gD v42 true (
 obind (terms_SizeL n [(D.agg [(celD a0 0), (celD a0 1), (celD a0 2), (celD a0 3)])]) fun v45 =>
 obind (binP false .eql v45 v26) fun v47 =>
 some v47
)) fun v47 =>
 obind (pickP v42 v47 (eB false)) fun v48 =>
 obind (gD v48 true (
 obind (terms_DeepL n [(D.agg [(celD a0 0), (celD a0 1), (celD a0 2), (celD a0 3)])]) fun v51 =>
 obind (binP false .eql v51 v27) fun v53 =>
 some v53
)) fun v53 =>
 obind (pickP v48 v53 (eB false)) fun v54 =>
 obind (gD v54 true (
 obind (law30_livesL n []) fun v56 =>
 some v56
)) fun v56 =>
 obind (pickP v54 v56 (eB false)) fun v57 =>
 some v57
)

def law30_TermsChecksL (n : Nat) : List D → Option D
  | [a0] => law30_TermsChecks n a0
  | _ => none
def terms_put_l2 (n : Nat) (ls : List D) : Option (List D ⊕ (List D ⊕ D)) :=
 obind (binP false .gtr (pd ls 2) (eI 0)) fun v9 =>
 obind (gD v9 true (
 obind (binP false .sub (pd ls 2) (eI 1)) fun v13 =>
 obind (ixP 1 (pd ls 0) v13) fun c14 =>
 obind (atP false 1 0 c14) fun v15 =>
 obind (binP false .gtr v15 (pd ls 1)) fun v17 =>
 some v17
)) fun v17 =>
 obind (pickP v9 v17 (eB false)) fun v18 =>
 oif v18 (
 obind (binP false .sub (pd ls 2) (eI 1)) fun v20 =>
 some (.inl [(pd ls 0), (pd ls 1), v20])
) (
 inrX (
 some (.inl [(pd ls 0), (pd ls 1), (pd ls 2)])
)
)

def terms_put (n : Nat) (a0 : D) (a1 : D) : Option D :=
 obind (lenP a0) fun v7 =>
 obind (
 iterL (terms_put_l2 n) n [a0, a1, v7]
) <| jnX fun ls =>
 obind (binP false .gtr (pd ls 2) (eI 0)) fun v22 =>
 obind (gD v22 true (
 obind (binP false .sub (pd ls 2) (eI 1)) fun v26 =>
 obind (ixP 1 (pd ls 0) v26) fun c27 =>
 obind (atP false 1 0 c27) fun v28 =>
 obind (binP false .eql v28 (pd ls 1)) fun v30 =>
 some v30
)) fun v30 =>
 obind (pickP v22 v30 (eB false)) fun v31 =>
 oif v31 (
 some (pd ls 0)
) (
 og (nilP (pd ls 0) && roomP ([[(eS ⟨#[]⟩)]]).length 16) <|
 obind (binP false .add (pd ls 2) (eI 1)) fun v38 =>
 obind (cutP ([[(eS ⟨#[]⟩)]]).length (some v38) none) fun p39 =>
 obind (cutP ([[(eS ⟨#[]⟩)]]).length (some (pd ls 2)) none) fun p42 =>
 og (decide (p42.1 + p42.2 ≤ ([[(eS ⟨#[]⟩)]]).length)) <|
 og (decide (p39.1 + p39.2 ≤ ([[(eS ⟨#[]⟩)]]).length)) <|
 obind (numP ((([[(eS ⟨#[]⟩)]]).take p39.1 ++ ((([[(eS ⟨#[]⟩)]]).drop p42.1).take p42.2).take (min ((([[(eS ⟨#[]⟩)]]).drop p42.1).take p42.2).length p39.2) ++ ([[(eS ⟨#[]⟩)]]).drop (p39.1 + (min ((([[(eS ⟨#[]⟩)]]).drop p42.1).take p42.2).length p39.2)))).length (pd ls 2)) fun j47 =>
 og (oneP (pd ls 1)) <|
 obind (((([[(eS ⟨#[]⟩)]]).take p39.1 ++ ((([[(eS ⟨#[]⟩)]]).drop p42.1).take p42.2).take (min ((([[(eS ⟨#[]⟩)]]).drop p42.1).take p42.2).length p39.2) ++ ([[(eS ⟨#[]⟩)]]).drop (p39.1 + (min ((([[(eS ⟨#[]⟩)]]).drop p42.1).take p42.2).length p39.2))))[j47]?) fun w1 =>
 some (D.sl 1 (((([[(eS ⟨#[]⟩)]]).take p39.1 ++ ((([[(eS ⟨#[]⟩)]]).drop p42.1).take p42.2).take (min ((([[(eS ⟨#[]⟩)]]).drop p42.1).take p42.2).length p39.2) ++ ([[(eS ⟨#[]⟩)]]).drop (p39.1 + (min ((([[(eS ⟨#[]⟩)]]).drop p42.1).take p42.2).length p39.2)))).set j47 (setSegD w1 0 [(pd ls 1)])))
)

def terms_putL (n : Nat) : List D → Option D
  | [a0, a1] => terms_put n a0 a1
  | _ => none
def law30_TermsTypes (n : Nat) (a0 : D) (a1 : D) (a2 : D) : Option D :=
 og (aggP 4 a1) <|
 obind (law30_LightL n [(D.agg [(celD a1 0), (celD a1 1), (celD a1 2), (celD a1 3)])]) fun v12 =>
 obind (unP .not v12) fun v13 =>
 obind (gD v13 false (
 obind (law30_fewL n [a0]) fun v16 =>
 obind (unP .not v16) fun v17 =>
 some v17
)) fun v17 =>
 obind (pickP v13 (eB true) v17) fun v18 =>
 oif v18 (
 obind (law30_livesL n []) fun v19 =>
 some v19
) (
 obind (terms_TypeL n [a0, (D.agg [(celD a1 0), (celD a1 1), (celD a1 2), (celD a1 3)]), a2]) fun v24 =>
 obind (extP 0 v24) fun v25 =>
 obind (extP 1 v24) fun v26 =>
 og (aggP 3 v25) <|
 obind (ref30_TypeL n [a0, (D.agg [(celD a1 0), (celD a1 1), (celD a1 2), (celD a1 3)]), a2]) fun v31 =>
 obind (extP 0 v31) fun v32 =>
 obind (extP 1 v31) fun v33 =>
 og (aggP 3 v32) <|
 obind (eqvP [.bool, .int .i64, .int .i64] .eql (D.agg [(celD v25 0), (celD v25 1), (celD v25 2)]) (D.agg [(celD v32 0), (celD v32 1), (celD v32 2)])) fun v36 =>
 obind (gD v36 true (
 obind (binP false .eql v26 v33) fun v40 =>
 some v40
)) fun v40 =>
 obind (pickP v36 v40 (eB false)) fun v41 =>
 obind (gD v41 true (
 obind (law30_livesL n []) fun v43 =>
 some v43
)) fun v43 =>
 obind (pickP v41 v43 (eB false)) fun v44 =>
 some v44
)

def law30_TermsTypesL (n : Nat) : List D → Option D
  | [a0, a1, a2] => law30_TermsTypes n a0 a1 a2
  | _ => none
def law30_TermsEvals (n : Nat) (a0 : D) (a1 : D) (a2 : D) (a3 : D) : Option D :=
 og (aggP 4 a1) <|
 obind (law30_LightL n [(D.agg [(celD a1 0), (celD a1 1), (celD a1 2), (celD a1 3)])]) fun v14 =>
 obind (unP .not v14) fun v15 =>
 obind (gD v15 false (
 obind (law30_fewL n [a0]) fun v18 =>
 obind (unP .not v18) fun v19 =>
 some v19
)) fun v19 =>
 obind (pickP v15 (eB true) v19) fun v20 =>
 obind (gD v20 false (
 obind (lenP a2) fun v23 =>
 obind (binP false .gtr v23 (eI 40)) fun v24 =>
 some v24
)) fun v24 =>
 obind (pickP v20 (eB true) v24) fun v25 =>
 obind (gD v25 false (
 obind (lenP a3) fun v28 =>
 obind (binP false .gtr v28 (eI 40)) fun v29 =>
 some v29
)) fun v29 =>
 obind (pickP v25 (eB true) v29) fun v30 =>
 oif v30 (
 obind (law30_livesL n []) fun v31 =>
 some v31
) (
 obind (terms_EvalL n [a0, (D.agg [(celD a1 0), (celD a1 1), (celD a1 2), (celD a1 3)]), a2, a3]) fun v37 =>
 obind (extP 0 v37) fun v38 =>
 obind (extP 1 v37) fun v39 =>
 obind (ref30_EvalL n [a0, (D.agg [(celD a1 0), (celD a1 1), (celD a1 2), (celD a1 3)]), a2, a3]) fun v45 =>
 obind (extP 0 v45) fun v46 =>
 obind (extP 1 v45) fun v47 =>
 obind (binP false .eql v38 v46) fun v50 =>
 obind (gD v50 true (
 obind (binP true .eql v39 v47) fun v54 =>
 some v54
)) fun v54 =>
 obind (pickP v50 v54 (eB false)) fun v55 =>
 obind (gD v55 true (
 obind (law30_livesL n []) fun v57 =>
 some v57
)) fun v57 =>
 obind (pickP v55 v57 (eB false)) fun v58 =>
 some v58
)

def law30_TermsEvalsL (n : Nat) : List D → Option D
  | [a0, a1, a2, a3] => law30_TermsEvals n a0 a1 a2 a3
  | _ => none
def law30_TermsBounds_l4 (n : Nat) (ls : List D) : Option (List D ⊕ (List D ⊕ D)) :=
 obind (cvP .i64 (pd ls 0)) fun v23 =>
 obind (binP false .rem v23 (eI 70)) fun v24 =>
 obind (binP false .lss (pd ls 3) v24) fun v25 =>
 oif v25 (
 og (aggP 4 (D.agg [(pd ls 8), (pd ls 9), (pd ls 10), (D.sl 4 (esD (pd ls 11)))])) <|
 obind (binP false .add (pd ls 3) (eI 1)) fun v27 =>
 some (.inl [(pd ls 0), (pd ls 1), (pd ls 2), v27, (pd ls 4), (pd ls 5), (pd ls 6), (pd ls 7), (eI 5), (eI 0), (eS ⟨#[]⟩), (D.sl 4 [[(pd ls 8), (pd ls 9), (pd ls 10), (D.sl 4 (esD (pd ls 11)))]])])
) (
 inrX (
 some (.inl [(pd ls 1), (pd ls 2), (pd ls 4), (pd ls 5), (pd ls 6), (pd ls 7), (pd ls 8), (pd ls 9), (pd ls 10), (D.sl 4 (esD (pd ls 11)))])
)
)

def law30_TermsBounds_l9 (n : Nat) (ls : List D) : Option (List D ⊕ (List D ⊕ D)) :=
 obind (cvP .i64 (pd ls 0)) fun v34 =>
 obind (binP false .rem v34 (eI 70)) fun v35 =>
 obind (binP false .lss (pd ls 2) v35) fun v36 =>
 oif v36 (
 og (aggP 4 (D.agg [(pd ls 3), (pd ls 4), (pd ls 5), (pd ls 6)])) <|
 og (roomP (((esD (pd ls 10))).length + ([[(pd ls 3), (pd ls 4), (pd ls 5), (pd ls 6)]]).length) 56) <|
 obind (binP false .add (pd ls 2) (eI 1)) fun v38 =>
 some (.inl [(pd ls 0), (pd ls 1), v38, (pd ls 3), (pd ls 4), (pd ls 5), (pd ls 6), (pd ls 7), (pd ls 8), (pd ls 9), (D.sl 4 ((esD (pd ls 10)) ++ [[(pd ls 3), (pd ls 4), (pd ls 5), (pd ls 6)]])), (D.sl 4 (esD (pd ls 11)))])
) (
 inrX (
 some (.inl [(pd ls 1), (pd ls 3), (pd ls 4), (pd ls 5), (pd ls 6), (pd ls 7), (pd ls 8), (pd ls 9), (D.sl 4 (esD (pd ls 10))), (D.sl 4 (esD (pd ls 11)))])
)
)

def law30_TermsBounds_l18 (n : Nat) (ls : List D) : Option (List D ⊕ (List D ⊕ (List D ⊕ (List D ⊕ (List D ⊕ D))))) :=
 obind (binP false .lss (pd ls 2) (pd ls 1)) fun v60 =>
 oif v60 (
 og (aggP 4 (D.agg [(pd ls 3), (pd ls 4), (pd ls 5), (pd ls 6)])) <|
 og (roomP (((esD (pd ls 12))).length + ([[(pd ls 3), (pd ls 4), (pd ls 5), (pd ls 6)]]).length) 56) <|
 obind (binP false .add (pd ls 2) (eI 1)) fun v62 =>
 some (.inl [(pd ls 0), (pd ls 1), v62, (pd ls 3), (pd ls 4), (pd ls 5), (pd ls 6), (pd ls 7), (pd ls 8), (pd ls 9), (D.sl 4 (esD (pd ls 10))), (D.sl 4 (esD (pd ls 11))), (D.sl 4 ((esD (pd ls 12)) ++ [[(pd ls 3), (pd ls 4), (pd ls 5), (pd ls 6)]])), (D.sl 4 (esD (pd ls 13)))])
) (
 inrX (
 some (.inl [(pd ls 0), (pd ls 1), (pd ls 3), (pd ls 4), (pd ls 5), (pd ls 6), (pd ls 7), (pd ls 8), (pd ls 9), (D.sl 4 (esD (pd ls 10))), (D.sl 4 (esD (pd ls 11))), (D.sl 4 (esD (pd ls 12))), (D.sl 4 (esD (pd ls 13)))])
)
)

def law30_TermsBounds_l14 (n : Nat) (ls : List D) : Option (List D ⊕ (List D ⊕ D)) :=
 obind (binP false .gtr (pd ls 0) (eI 1)) fun v48 =>
 obind (gD v48 true (
 obind (binP false .lss (eI ((esD (pd ls 9))).length) (eI 64)) fun v52 =>
 some v52
)) fun v52 =>
 obind (pickP v48 v52 (eB false)) fun v53 =>
 oif v53 (
 obind (
 obind (binP false .sub (pd ls 0) (eI 1)) fun v55 =>
 obind (mmP false [v55, (eI 64)]) fun v56 =>
 obind (
 iterL (law30_TermsBounds_l18 n) n [(pd ls 0), v56, (eI 0), (pd ls 1), (pd ls 2), (pd ls 3), (pd ls 4), (pd ls 5), (pd ls 6), (pd ls 7), (D.sl 4 (esD (pd ls 8))), (D.sl 4 (esD (pd ls 9))), (D.sl 4 []), (D.sl 4 (esD (pd ls 10)))]
) <| jnX fun ls =>
 og (aggP 4 (D.agg [(eI 6), (eI 0), (eS ⟨#[]⟩), (D.sl 4 (esD (pd ls 11)))])) <|
 og (roomP (((esD (pd ls 10))).length + ([[(eI 6), (eI 0), (eS ⟨#[]⟩), (D.sl 4 (esD (pd ls 11)))]]).length) 56) <|
 obind (binP false .sub (pd ls 0) (pd ls 1)) fun v74 =>
 obind (binP false .sub v74 (eI 1)) fun v75 =>
 some (.inl [v75, (pd ls 2), (pd ls 3), (pd ls 4), (pd ls 5), (pd ls 6), (pd ls 7), (pd ls 8), (D.sl 4 (esD (pd ls 9))), (D.sl 4 ((esD (pd ls 10)) ++ [[(eI 6), (eI 0), (eS ⟨#[]⟩), (D.sl 4 (esD (pd ls 11)))]])), (D.sl 4 (esD (pd ls 12)))])
) <| jnX fun ls =>
 some (.inl [(pd ls 0), (pd ls 1), (pd ls 2), (pd ls 3), (pd ls 4), (pd ls 5), (pd ls 6), (pd ls 7), (D.sl 4 (esD (pd ls 8))), (D.sl 4 (esD (pd ls 9))), (D.sl 4 (esD (pd ls 10)))])
) (
 inrX (
 some (.inl [(pd ls 5), (pd ls 6), (pd ls 7), (D.sl 4 (esD (pd ls 8))), (D.sl 4 (esD (pd ls 9))), (D.sl 4 (esD (pd ls 10)))])
)
)

def law30_TermsBounds (n : Nat) (a0 : D) (a1 : D) (a2 : D) : Option D :=
 obind (
 iterL (law30_TermsBounds_l4 n) n [a0, a1, a2, (eI 1), (eI 2), (eI 1), (eS ⟨#[]⟩), (D.val (.slice none 0 0)), (eI 2), (eI 1), (eS ⟨#[]⟩), (D.sl 4 [])]
) <| jnX fun ls =>
 obind (
 iterL (law30_TermsBounds_l9 n) n [(pd ls 0), (pd ls 1), (eI 0), (pd ls 2), (pd ls 3), (pd ls 4), (pd ls 5), (pd ls 6), (pd ls 7), (pd ls 8), (D.sl 4 []), (D.sl 4 (esD (pd ls 9)))]
) <| jnX fun ls =>
 obind (cvP .i64 (pd ls 0)) fun v45 =>
 obind (binP false .rem v45 (eI 4200)) fun v46 =>
 obind (
 iterL (law30_TermsBounds_l14 n) n [v46, (pd ls 1), (pd ls 2), (pd ls 3), (pd ls 4), (pd ls 5), (pd ls 6), (pd ls 7), (D.sl 4 (esD (pd ls 8))), (D.sl 4 []), (D.sl 4 (esD (pd ls 9)))]
) <| jnX fun ls =>
 obind (terms_CheckL n [(D.agg [(pd ls 0), (pd ls 1), (pd ls 2), (D.sl 4 (esD (pd ls 5)))])]) fun v81 =>
 og v81.flat <|
 obind (ref30_CheckL n [(D.agg [(pd ls 0), (pd ls 1), (pd ls 2), (D.sl 4 (esD (pd ls 5)))])]) fun v83 =>
 og v83.flat <|
 obind (binP false .eql v81 v83) fun v84 =>
 obind (gD v84 true (
 obind (terms_CheckL n [(D.agg [(eI 7), (eI 0), (eS ⟨#[]⟩), (D.sl 4 (esD (pd ls 3)))])]) fun v87 =>
 og v87.flat <|
 obind (ref30_CheckL n [(D.agg [(eI 7), (eI 0), (eS ⟨#[]⟩), (D.sl 4 (esD (pd ls 3)))])]) fun v89 =>
 og v89.flat <|
 obind (binP false .eql v87 v89) fun v90 =>
 some v90
)) fun v90 =>
 obind (pickP v84 v90 (eB false)) fun v91 =>
 obind (gD v91 true (
 obind (terms_CheckL n [(D.agg [(eI 7), (eI 0), (eS ⟨#[]⟩), (D.sl 4 (esD (pd ls 4)))])]) fun v94 =>
 og v94.flat <|
 obind (ref30_CheckL n [(D.agg [(eI 7), (eI 0), (eS ⟨#[]⟩), (D.sl 4 (esD (pd ls 4)))])]) fun v96 =>
 og v96.flat <|
 obind (binP false .eql v94 v96) fun v97 =>
 some v97
)) fun v97 =>
 obind (pickP v91 v97 (eB false)) fun v98 =>
 obind (gD v98 true (
 obind (law30_livesL n []) fun v100 =>
 some v100
)) fun v100 =>
 obind (pickP v98 v100 (eB false)) fun v101 =>
 some v101

def law30_TermsBoundsL (n : Nat) : List D → Option D
  | [a0, a1, a2] => law30_TermsBounds n a0 a1 a2
  | _ => none
def law30_TermsWithin (n : Nat) (a0 : D) (a1 : D) (a2 : D) (a3 : D) (a4 : D) : Option D :=
 og (aggP 4 a1) <|
 obind (law30_LightL n [(D.agg [(celD a1 0), (celD a1 1), (celD a1 2), (celD a1 3)])]) fun v23 =>
 obind (unP .not v23) fun v24 =>
 obind (gD v24 false (
 obind (law30_fewL n [a0]) fun v27 =>
 obind (unP .not v27) fun v28 =>
 some v28
)) fun v28 =>
 obind (pickP v24 (eB true) v28) fun v29 =>
 obind (gD v29 false (
 obind (law30_rangedL n [a0, a2]) fun v33 =>
 obind (unP .not v33) fun v34 =>
 some v34
)) fun v34 =>
 obind (pickP v29 (eB true) v34) fun v35 =>
 obind (gD v35 false (
 obind (law30_rangedL n [a0, a3]) fun v39 =>
 obind (unP .not v39) fun v40 =>
 some v40
)) fun v40 =>
 obind (pickP v35 (eB true) v40) fun v41 =>
 oif v41 (
 obind (law30_livesL n []) fun v42 =>
 some v42
) (
 obind (terms_TypeL n [a0, (D.agg [(celD a1 0), (celD a1 1), (celD a1 2), (celD a1 3)]), (eB true)]) fun v46 =>
 obind (extP 0 v46) fun v47 =>
 obind (extP 1 v46) fun v48 =>
 og (aggP 3 v47) <|
 obind (terms_EvalL n [a0, (D.agg [(celD a1 0), (celD a1 1), (celD a1 2), (celD a1 3)]), a2, a3]) fun v54 =>
 obind (extP 0 v54) fun v55 =>
 obind (extP 1 v54) fun v56 =>
 obind (binP false .neq v48 (eI 0)) fun v58 =>
 oif v58 (
 obind (unP .not v56) fun v60 =>
 obind (gD v60 true (
 obind (binP false .eql v55 (eI 0)) fun v63 =>
 some v63
)) fun v63 =>
 obind (pickP v60 v63 (eB false)) fun v64 =>
 obind (gD v64 true (
 obind (law30_livesL n []) fun v66 =>
 some v66
)) fun v66 =>
 obind (pickP v64 v66 (eB false)) fun v67 =>
 some v67
) (
 obind (unP .not v56) fun v69 =>
 obind (gD v69 false (
 some (celD v47 0)
)) fun v73 =>
 obind (gD v73 true (
 obind (binP false .neq v55 (eI 0)) fun v75 =>
 some v75
)) fun v75 =>
 obind (gD v69 false (
 obind (pickP v73 v75 (eB false)) fun v76 =>
 some v76
)) fun v77 =>
 obind (gD v77 true (
 obind (binP false .neq v55 (eI 1)) fun v79 =>
 some v79
)) fun v79 =>
 obind (gD v69 false (
 obind (pickP v77 v79 (eB false)) fun v80 =>
 some v80
)) fun v80 =>
 obind (pickP v69 (eB true) v80) fun v81 =>
 obind (gD v81 false (
 obind (unP .not (celD v47 0)) fun v85 =>
 some v85
)) fun v86 =>
 obind (gD v86 true (
 obind (binP false .lss v55 (celD v47 1)) fun v90 =>
 some v90
)) fun v91 =>
 obind (gD v91 false (
 obind (binP false .gtr v55 (celD v47 2)) fun v95 =>
 some v95
)) fun v95 =>
 obind (gD v86 true (
 obind (pickP v91 (eB true) v95) fun v96 =>
 some v96
)) fun v96 =>
 obind (gD v81 false (
 obind (pickP v86 v96 (eB false)) fun v97 =>
 some v97
)) fun v97 =>
 obind (pickP v81 (eB true) v97) fun v98 =>
 oif v98 (
 some (eB false)
) (
 obind (lenP a0) fun v100 =>
 obind (binP false .eql v100 (eI 0)) fun v101 =>
 oif v101 (
 obind (law30_livesL n []) fun v102 =>
 some v102
) (
 obind (cvP .i64 a4) fun v104 =>
 obind (lenP a0) fun v106 =>
 obind (binP false .rem v104 v106) fun v107 =>
 obind (ixP 4 a0 v107) fun c111 =>
 obind (atP false 1 0 c111) fun v113 =>
 obind (ref30_IndexL n [a0, v113]) fun v114 =>
 obind (ixP 4 a0 v114) fun c117 =>
 obind (atP false 1 1 c117) fun v119 =>
 obind (gD v119 false (
 obind (ixP 1 a2 v114) fun c123 =>
 obind (atP false 1 0 c123) fun v124 =>
 obind (binP false .lss v124 (eI (-255))) fun v125 =>
 some v125
)) fun v125 =>
 obind (pickP v119 (eB true) v125) fun v126 =>
 obind (gD v126 false (
 obind (ixP 1 a2 v114) fun c130 =>
 obind (atP false 1 0 c130) fun v131 =>
 obind (binP false .gtr v131 (eI 255)) fun v132 =>
 some v132
)) fun v132 =>
 obind (pickP v126 (eB true) v132) fun v133 =>
 oif v133 (
 obind (law30_livesL n []) fun v134 =>
 some v134
) (
 obind (ixP 4 a0 v114) fun c138 =>
 obind (atP false 1 0 c138) fun v140 =>
 obind (ixP 1 a2 v114) fun c143 =>
 obind (atP false 1 0 c143) fun v144 =>
 obind (law30_numL n [v144]) fun v145 =>
 obind (terms_PutL n [(D.agg [(celD a1 0), (celD a1 1), (celD a1 2), (celD a1 3)]), v140, v145]) fun v146 =>
 og (aggP 4 v146) <|
 obind (terms_TypeL n [a0, (D.agg [(celD v146 0), (celD v146 1), (celD v146 2), (celD v146 3)]), (eB true)]) fun v150 =>
 obind (extP 0 v150) fun v151 =>
 obind (extP 1 v150) fun v152 =>
 og (aggP 3 v151) <|
 obind (terms_EvalL n [a0, (D.agg [(celD v146 0), (celD v146 1), (celD v146 2), (celD v146 3)]), a2, a3]) fun v158 =>
 obind (extP 0 v158) fun v159 =>
 obind (extP 1 v158) fun v160 =>
 obind (binP false .eql v152 (eI 0)) fun v162 =>
 obind (gD v162 true (
 obind (binP true .eql (celD v151 0) (celD v47 0)) fun v168 =>
 some v168
)) fun v168 =>
 obind (pickP v162 v168 (eB false)) fun v169 =>
 obind (gD v169 true (
 some v160
)) fun v171 =>
 obind (pickP v169 v171 (eB false)) fun v172 =>
 obind (gD v172 true (
 obind (binP false .eql v159 v55) fun v176 =>
 some v176
)) fun v176 =>
 obind (pickP v172 v176 (eB false)) fun v177 =>
 obind (gD v177 true (
 obind (law30_livesL n []) fun v179 =>
 some v179
)) fun v179 =>
 obind (pickP v177 v179 (eB false)) fun v180 =>
 some v180
)
)
)
)
)

def law30_TermsWithinL (n : Nat) : List D → Option D
  | [a0, a1, a2, a3, a4] => law30_TermsWithin n a0 a1 a2 a3 a4
  | _ => none
def law30_TermsPuts (n : Nat) (a0 : D) (a1 : D) (a2 : D) : Option D :=
 og (aggP 4 a0) <|
 og (aggP 4 a1) <|
 obind (law30_LightL n [(D.agg [(celD a0 0), (celD a0 1), (celD a0 2), (celD a0 3)])]) fun v9 =>
 obind (unP .not v9) fun v10 =>
 obind (gD v10 false (
 obind (law30_LightL n [(D.agg [(celD a1 0), (celD a1 1), (celD a1 2), (celD a1 3)])]) fun v13 =>
 obind (unP .not v13) fun v14 =>
 some v14
)) fun v14 =>
 obind (pickP v10 (eB true) v14) fun v15 =>
 oif v15 (
 obind (law30_livesL n []) fun v16 =>
 some v16
) (
 obind (terms_PutL n [(D.agg [(celD a0 0), (celD a0 1), (celD a0 2), (celD a0 3)]), a2, (D.agg [(celD a1 0), (celD a1 1), (celD a1 2), (celD a1 3)])]) fun v20 =>
 og (aggP 4 v20) <|
 obind (ref30_PutL n [(D.agg [(celD a0 0), (celD a0 1), (celD a0 2), (celD a0 3)]), a2, (D.agg [(celD a1 0), (celD a1 1), (celD a1 2), (celD a1 3)])]) fun v25 =>
 obind (ref30_SameL n [(D.agg [(celD v20 0), (celD v20 1), (celD v20 2), (celD v20 3)]), v25]) fun v26 =>
 obind (gD v26 true (
 obind (terms_SameL n [(D.agg [(celD a0 0), (celD a0 1), (celD a0 2), (celD a0 3)]), (D.agg [(celD a1 0), (celD a1 1), (celD a1 2), (celD a1 3)])]) fun v30 =>
 obind (ref30_SameL n [(D.agg [(celD a0 0), (celD a0 1), (celD a0 2), (celD a0 3)]), (D.agg [(celD a1 0), (celD a1 1), (celD a1 2), (celD a1 3)])]) fun v33 =>
 obind (binP true .eql v30 v33) fun v34 =>
 some v34
)) fun v34 =>
 obind (pickP v26 v34 (eB false)) fun v35 =>
 obind (gD v35 true (
 obind (terms_SameL n [(D.agg [(celD v20 0), (celD v20 1), (celD v20 2), (celD v20 3)]), (D.agg [(celD v20 0), (celD v20 1), (celD v20 2), (celD v20 3)])]) fun v39 =>
 some v39
)) fun v39 =>
 obind (pickP v35 v39 (eB false)) fun v40 =>
 gX v40 true (
 og (aggP 4 (D.agg [(celD a0 0), (celD a0 1), (celD a0 2), (celD a0 3)])) <|
 og (oneP (celD a0 0)) <|
 obind (terms_SameL n [(D.agg [(celD a0 0), (celD a0 1), (celD a0 2), (celD a0 3)]), (D.agg [(celD a0 0), (eI 0), (eS ⟨#[]⟩), (D.sl 4 [[(celD a0 0), (celD a0 1), (celD a0 2), (celD a0 3)]])])]) fun v48 =>
 og v48.flat <|
 obind (unP .not v48) fun v49 =>
 obind (pickP v40 v49 (eB false)) fun v50 =>
 obind (gD v50 true (
 obind (law30_livesL n []) fun v52 =>
 some v52
)) fun v52 =>
 obind (pickP v50 v52 (eB false)) fun v53 =>
 some v53
) (
 obind (pickP v40 undefD (eB false)) fun v50 =>
 obind (gD v50 true (
 obind (law30_livesL n []) fun v52 =>
 some v52
)) fun v52 =>
 obind (pickP v50 v52 (eB false)) fun v53 =>
 some v53
)
)

def law30_TermsPutsL (n : Nat) : List D → Option D
  | [a0, a1, a2] => law30_TermsPuts n a0 a1 a2
  | _ => none
end Go.Am
