/- What each function of the seat computes, on data. No condition. -/
import Derived.Test.YtpongadenfhccaaEngC
set_option linter.all false
set_option linter.unnecessarySimpa false
namespace Go.Am
set_option linter.unusedVariables false
abbrev fid_forms_Same : Nat := 21
abbrev fid_forms_Check_1 : Nat := 31
abbrev fid_forms_Parts_1 : Nat := 41
abbrev fid_forms_Parts_1_1 : Nat := 43
abbrev fid_forms_Names_1 : Nat := 48
abbrev fid_forms_Plain_1 : Nat := 53
abbrev fid_forms_depths_1 : Nat := 58
abbrev fid_forms_gather_string_1 : Nat := 64
abbrev fid_terms_Names_1 : Nat := 66
abbrev fid_terms_Check_1 : Nat := 72
abbrev fid_forms_gather_int_1 : Nat := 77
def ref32_terms_l2 (r_ref32_terms : List D → Option D) (n : Nat) (ls : List D) : Option (List D ⊕ (List D ⊕ D)) :=
 obind (lenP (pd ls 5)) fun v9 =>
 obind (binP false .lss (pd ls 1) v9) fun v10 =>
 obind (gD v10 true (
 obind (binP false .geq (pd ls 0) (eI 0)) fun v13 =>
 some v13
)) fun v13 =>
 obind (pickP v10 v13 (eB false)) fun v14 =>
 oif v14 (
 obind (ixP 4 (pd ls 5) (pd ls 1)) fun c20 =>
 obind (atP true 4 0 c20) fun v21 =>
 obind (binP false .sub (pd ls 0) (eI 1)) fun v23 =>
 obind (r_ref32_terms [v21, v23]) fun v24 =>
 obind (binP false .add (pd ls 1) (eI 1)) fun v16 =>
 some (.inl [v24, v16, (pd ls 2), (pd ls 3), (pd ls 4), (pd ls 5)])
) (
 inrX (
 some (.inl [(pd ls 0)])
)
)

def ref32_terms (r_ref32_terms : List D → Option D) (n : Nat) (a0 : D) (a1 : D) : Option D :=
 og (aggP 4 a0) <|
 obind (
 iterL (ref32_terms_l2 r_ref32_terms n) n [a1, (eI 0), (celD a0 0), (celD a0 1), (celD a0 2), (celD a0 3)]
) <| jnX fun ls =>
 some (pd ls 0)

def ref32_termsL : Nat → List D → Option D
  | 0, _ => none
  | n + 1, ds => match ds with
    | [a0, a1] => ref32_terms (ref32_termsL n) n a0 a1
    | _ => none
def ref32_left_l3 (r_ref32_left : List D → Option D) (n : Nat) (ls : List D) : Option (List D ⊕ (List D ⊕ D)) :=
 obind (lenP (pd ls 7)) fun v14 =>
 obind (binP false .lss (pd ls 1) v14) fun v15 =>
 obind (gD v15 true (
 obind (binP false .geq (pd ls 0) (eI 0)) fun v18 =>
 some v18
)) fun v18 =>
 obind (pickP v15 v18 (eB false)) fun v19 =>
 oif v19 (
 obind (ixP 6 (pd ls 7) (pd ls 1)) fun c25 =>
 obind (atP true 6 0 c25) fun v26 =>
 obind (r_ref32_left [v26, (pd ls 0)]) fun v28 =>
 obind (binP false .add (pd ls 1) (eI 1)) fun v21 =>
 some (.inl [v28, v21, (pd ls 2), (pd ls 3), (pd ls 4), (pd ls 5), (pd ls 6), (pd ls 7)])
) (
 inrX (
 some (.inl [(pd ls 0)])
)
)

def ref32_left (r_ref32_left : List D → Option D) (n : Nat) (a0 : D) (a1 : D) : Option D :=
 og (aggP 6 a0) <|
 obind (binP false .sub a1 (eI 1)) fun v9 =>
 obind (ref32_termsL n [(D.agg [(celD a0 1), (celD a0 2), (celD a0 3), (celD a0 4)]), v9]) fun v10 =>
 obind (
 iterL (ref32_left_l3 r_ref32_left n) n [v10, (eI 0), (celD a0 0), (celD a0 1), (celD a0 2), (celD a0 3), (celD a0 4), (celD a0 5)]
) <| jnX fun ls =>
 some (pd ls 0)

def ref32_leftL : Nat → List D → Option D
  | 0, _ => none
  | n + 1, ds => match ds with
    | [a0, a1] => ref32_left (ref32_leftL n) n a0 a1
    | _ => none
def ref32_Many (n : Nat) (a0 : D) (a1 : D) : Option D :=
 og (aggP 6 a0) <|
 obind (ref32_leftL n [(D.agg [(celD a0 0), (celD a0 1), (celD a0 2), (celD a0 3), (celD a0 4), (celD a0 5)]), a1]) fun v7 =>
 obind (binP false .geq v7 (eI 0)) fun v8 =>
 some v8

def ref32_ManyL (n : Nat) : List D → Option D
  | [a0, a1] => ref32_Many n a0 a1
  | _ => none
def law32_name (n : Nat) (a0 : D) : Option D :=
 og (oneP a0) <|
 og (aggP 4 (D.agg [(eI 3), (eI 0), a0, (D.val (.slice none 0 0))])) <|
 og (aggP 6 (D.agg [(eI 1), (eI 3), (eI 0), a0, (D.val (.slice none 0 0)), (D.val (.slice none 0 0))])) <|
 some (D.agg [(eI 1), (eI 3), (eI 0), a0, (D.val (.slice none 0 0)), (D.val (.slice none 0 0))])

def law32_nameL (n : Nat) : List D → Option D
  | [a0] => law32_name n a0
  | _ => none
def terms_kids (n : Nat) (a0 : D) : Option D :=
 obind (binP false .eql a0 (eI 1)) fun v6 =>
 obind (
 oif v6 (
 some (.inl [a0, v6])
) (
 obind (binP false .eql a0 (eI 2)) fun v7 =>
 obind (
 oif v7 (
 some (.inl [a0, v7])
) (
 obind (binP false .eql a0 (eI 3)) fun v8 =>
 obind (
 oif v8 (
 some (.inl [a0, v8])
) (
 obind (binP false .eql a0 (eI 4)) fun v9 =>
 some (.inl [a0, v9])
)
) <| jnX fun ls =>
 some (.inl [(pd ls 0), (pd ls 1)])
)
) <| jnX fun ls =>
 some (.inl [(pd ls 0), (pd ls 1)])
)
) <| jnX fun ls =>
 oif (pd ls 1) (
 some (D.tup [(eI 0), (eI 0)])
) (
 obind (binP false .eql (pd ls 0) (eI 5)) fun v11 =>
 oif v11 (
 some (D.tup [(eI 1), (eI 1)])
) (
 obind (binP false .eql (pd ls 0) (eI 6)) fun v13 =>
 obind (
 oif v13 (
 some (.inl [(pd ls 0), v13])
) (
 obind (binP false .eql (pd ls 0) (eI 7)) fun v14 =>
 some (.inl [(pd ls 0), v14])
)
) <| jnX fun ls =>
 oif (pd ls 1) (
 some (D.tup [(eI 1), (eI 64)])
) (
 obind (binP false .eql (pd ls 0) (eI 8)) fun v16 =>
 obind (
 oif v16 (
 some (.inl [(pd ls 0), v16])
) (
 obind (binP false .eql (pd ls 0) (eI 9)) fun v17 =>
 obind (
 oif v17 (
 some (.inl [(pd ls 0), v17])
) (
 obind (binP false .eql (pd ls 0) (eI 10)) fun v18 =>
 obind (
 oif v18 (
 some (.inl [(pd ls 0), v18])
) (
 obind (binP false .eql (pd ls 0) (eI 11)) fun v19 =>
 obind (
 oif v19 (
 some (.inl [(pd ls 0), v19])
) (
 obind (binP false .eql (pd ls 0) (eI 12)) fun v20 =>
 obind (
 oif v20 (
 some (.inl [(pd ls 0), v20])
) (
 obind (binP false .eql (pd ls 0) (eI 13)) fun v21 =>
 obind (
 oif v21 (
 some (.inl [(pd ls 0), v21])
) (
 obind (binP false .eql (pd ls 0) (eI 14)) fun v22 =>
 obind (
 oif v22 (
 some (.inl [(pd ls 0), v22])
) (
 obind (binP false .eql (pd ls 0) (eI 15)) fun v23 =>
 obind (
 oif v23 (
 some (.inl [(pd ls 0), v23])
) (
 obind (binP false .eql (pd ls 0) (eI 16)) fun v24 =>
 obind (
 oif v24 (
 some (.inl [(pd ls 0), v24])
) (
 obind (binP false .eql (pd ls 0) (eI 17)) fun v25 =>
 some (.inl [(pd ls 0), v25])
)
) <| jnX fun ls =>
 some (.inl [(pd ls 0), (pd ls 1)])
)
) <| jnX fun ls =>
 some (.inl [(pd ls 0), (pd ls 1)])
)
) <| jnX fun ls =>
 some (.inl [(pd ls 0), (pd ls 1)])
)
) <| jnX fun ls =>
 some (.inl [(pd ls 0), (pd ls 1)])
)
) <| jnX fun ls =>
 some (.inl [(pd ls 0), (pd ls 1)])
)
) <| jnX fun ls =>
 some (.inl [(pd ls 0), (pd ls 1)])
)
) <| jnX fun ls =>
 some (.inl [(pd ls 0), (pd ls 1)])
)
) <| jnX fun ls =>
 some (.inl [(pd ls 0), (pd ls 1)])
)
) <| jnX fun ls =>
 oif (pd ls 1) (
 some (D.tup [(eI 2), (eI 2)])
) (
 obind (binP false .eql (pd ls 0) (eI 18)) fun v27 =>
 oif v27 (
 some (D.tup [(eI 3), (eI 3)])
) (
 some (D.tup [(eI (-1)), (eI (-1))])
)
)
)
)
)

def terms_kidsL (n : Nat) : List D → Option D
  | [a0] => terms_kids n a0
  | _ => none
def terms_wrong (n : Nat) (a0 : D) : Option D :=
 og (aggP 4 a0) <|
 obind (terms_kidsL n [(celD a0 0)]) fun v11 =>
 obind (extP 0 v11) fun v12 =>
 obind (extP 1 v11) fun v13 =>
 obind (binP false .lss v12 (eI 0)) fun v15 =>
 oif v15 (
 some (eI 11)
) (
 obind (
 obind (binP false .eql (celD a0 0) (eI 1)) fun v19 =>
 obind (
 oif v19 (
 some (.inl [v12, v13, (eI (-255)), (eI 255), (celD a0 0), (celD a0 1), (celD a0 2), (celD a0 3)])
) (
 obind (binP false .eql (celD a0 0) (eI 2)) fun v21 =>
 obind (
 oif v21 (
 some (.inl [v12, v13, (eI 0), (eI 1), (celD a0 0), (celD a0 1), (celD a0 2), (celD a0 3)])
) (
 some (.inl [v12, v13, (eI 0), (eI 0), (celD a0 0), (celD a0 1), (celD a0 2), (celD a0 3)])
)
) <| jnX fun ls =>
 some (.inl [(pd ls 0), (pd ls 1), (pd ls 2), (pd ls 3), (pd ls 4), (pd ls 5), (pd ls 6), (pd ls 7)])
)
) <| jnX fun ls =>
 some (.inl [(pd ls 0), (pd ls 1), (pd ls 2), (pd ls 3), (pd ls 4), (pd ls 5), (pd ls 6), (pd ls 7)])
) <| jnX fun ls =>
 obind (binP false .eql (pd ls 4) (eI 3)) fun v24 =>
 obind (gD v24 false (
 obind (binP false .eql (pd ls 4) (eI 4)) fun v28 =>
 some v28
)) fun v28 =>
 obind (pickP v24 (eB true) v28) fun v29 =>
 obind (binP false .lss (pd ls 5) (pd ls 2)) fun v34 =>
 obind (gD v34 false (
 obind (binP false .gtr (pd ls 5) (pd ls 3)) fun v39 =>
 some v39
)) fun v39 =>
 obind (pickP v34 (eB true) v39) fun v40 =>
 oif v40 (
 some (eI 2)
) (
 obind (gD v29 true (
 obind (binP false .eql (pd ls 6) (eS ⟨#[]⟩)) fun v46 =>
 some v46
)) fun v47 =>
 obind (gD v47 false (
 obind (lensP (pd ls 6)) fun v50 =>
 obind (binP false .gtr v50 (eI 24)) fun v51 =>
 some v51
)) fun v51 =>
 obind (gD v29 true (
 obind (pickP v47 (eB true) v51) fun v52 =>
 some v52
)) fun v52 =>
 obind (pickP v29 v52 (eB false)) fun v53 =>
 obind (gD v53 false (
 obind (unP .not v29) fun v56 =>
 some v56
)) fun v57 =>
 obind (gD v57 true (
 obind (binP false .neq (pd ls 6) (eS ⟨#[]⟩)) fun v60 =>
 some v60
)) fun v60 =>
 obind (gD v53 false (
 obind (pickP v57 v60 (eB false)) fun v61 =>
 some v61
)) fun v61 =>
 obind (pickP v53 (eB true) v61) fun v62 =>
 oif v62 (
 some (eI 12)
) (
 obind (lenP (pd ls 7)) fun v66 =>
 obind (binP false .lss v66 (pd ls 0)) fun v68 =>
 obind (gD v68 false (
 obind (lenP (pd ls 7)) fun v72 =>
 obind (binP false .gtr v72 (pd ls 1)) fun v74 =>
 some v74
)) fun v74 =>
 obind (pickP v68 (eB true) v74) fun v75 =>
 oif v75 (
 some (eI 3)
) (
 some (eI 0)
)
)
)
)

def terms_wrongL (n : Nat) : List D → Option D
  | [a0] => terms_wrong n a0
  | _ => none
def terms_Check_1_h (n : Nat) (ls : List D) : Option (List D) :=
 og (aggP 4 (pd ls 0)) <|
 obind (binP false .add (pd ls 2) (eI 1)) fun v8 =>
 og (oneP v8) <|
 obind (binP false .gtr (pd ls 1) (eI 64)) fun v10 =>
 obind (
 oif v10 (
 some (.inl [(eI 17), v8])
) (
 obind (terms_wrongL n [(D.agg [(celD (pd ls 0) 0), (celD (pd ls 0) 1), (celD (pd ls 0) 2), (celD (pd ls 0) 3)])]) fun v12 =>
 og (oneP v12) <|
 obind (binP false .eql v12 (eI 0)) fun v14 =>
 obind (gD v14 true (
 obind (binP false .gtr v8 (eI 4096)) fun v17 =>
 some v17
)) fun v17 =>
 obind (pickP v14 v17 (eB false)) fun v18 =>
 obind (
 oif v18 (
 some (.inl [(eI 4), v8])
) (
 some (.inl [v12, v8])
)
) <| jnX fun ls =>
 some (.inl [(pd ls 0), (pd ls 1)])
)
) <| jnX fun ls =>
 obind (binP false .eql (pd ls 0) (eI 0)) fun v20 =>
 some [v20, (pd ls 1), (pd ls 0)]

def terms_put_h_l2 (n : Nat) (ls : List D) : Option (List D ⊕ (List D ⊕ (List D))) :=
 obind (binP false .gtr (pd ls 1) (eI 0)) fun v9 =>
 obind (gD v9 true (
 obind (binP false .sub (pd ls 1) (eI 1)) fun v13 =>
 obind (numP ((esD (pd ls 2))).length v13) fun j14 =>
 obind (((esD (pd ls 2)))[j14]?) fun e15 =>
 obind (atP false 1 0 e15) fun v15 =>
 obind (binP false .gtr v15 (pd ls 0)) fun v17 =>
 some v17
)) fun v17 =>
 obind (pickP v9 v17 (eB false)) fun v18 =>
 oif v18 (
 obind (binP false .sub (pd ls 1) (eI 1)) fun v20 =>
 some (.inl [(pd ls 0), v20, (D.sl 1 (esD (pd ls 2)))])
) (
 inrX (
 some (.inl [(pd ls 0), (pd ls 1), (D.sl 1 (esD (pd ls 2)))])
)
)

def terms_put_h (n : Nat) (ls : List D) : Option (List D) :=
 obind (
 iterL (terms_put_h_l2 n) n [(pd ls 0), (eI ((esD (pd ls 1))).length), (D.sl 1 (esD (pd ls 1)))]
) <| jnX fun ls =>
 obind (binP false .gtr (pd ls 1) (eI 0)) fun v22 =>
 obind (gD v22 true (
 obind (binP false .sub (pd ls 1) (eI 1)) fun v26 =>
 obind (numP ((esD (pd ls 2))).length v26) fun j27 =>
 obind (((esD (pd ls 2)))[j27]?) fun e28 =>
 obind (atP false 1 0 e28) fun v28 =>
 obind (binP false .eql v28 (pd ls 0)) fun v30 =>
 some v30
)) fun v30 =>
 obind (pickP v22 v30 (eB false)) fun v31 =>
 oif v31 (
 some [(D.sl 1 (esD (pd ls 2)))]
) (
 og (roomP (((esD (pd ls 2))).length + ([[(eS ⟨#[]⟩)]]).length) 16) <|
 obind (binP false .add (pd ls 1) (eI 1)) fun v38 =>
 obind (cutP (((esD (pd ls 2)) ++ [[(eS ⟨#[]⟩)]])).length (some v38) none) fun p39 =>
 obind (cutP (((esD (pd ls 2)) ++ [[(eS ⟨#[]⟩)]])).length (some (pd ls 1)) none) fun p42 =>
 og (decide (p42.1 + p42.2 ≤ (((esD (pd ls 2)) ++ [[(eS ⟨#[]⟩)]])).length)) <|
 og (decide (p39.1 + p39.2 ≤ (((esD (pd ls 2)) ++ [[(eS ⟨#[]⟩)]])).length)) <|
 obind (numP (((((esD (pd ls 2)) ++ [[(eS ⟨#[]⟩)]])).take p39.1 ++ (((((esD (pd ls 2)) ++ [[(eS ⟨#[]⟩)]])).drop p42.1).take p42.2).take (min (((((esD (pd ls 2)) ++ [[(eS ⟨#[]⟩)]])).drop p42.1).take p42.2).length p39.2) ++ (((esD (pd ls 2)) ++ [[(eS ⟨#[]⟩)]])).drop (p39.1 + (min (((((esD (pd ls 2)) ++ [[(eS ⟨#[]⟩)]])).drop p42.1).take p42.2).length p39.2)))).length (pd ls 1)) fun j47 =>
 og (oneP (pd ls 0)) <|
 obind ((((((esD (pd ls 2)) ++ [[(eS ⟨#[]⟩)]])).take p39.1 ++ (((((esD (pd ls 2)) ++ [[(eS ⟨#[]⟩)]])).drop p42.1).take p42.2).take (min (((((esD (pd ls 2)) ++ [[(eS ⟨#[]⟩)]])).drop p42.1).take p42.2).length p39.2) ++ (((esD (pd ls 2)) ++ [[(eS ⟨#[]⟩)]])).drop (p39.1 + (min (((((esD (pd ls 2)) ++ [[(eS ⟨#[]⟩)]])).drop p42.1).take p42.2).length p39.2))))[j47]?) fun w1 =>
 some [(D.sl 1 ((((((esD (pd ls 2)) ++ [[(eS ⟨#[]⟩)]])).take p39.1 ++ (((((esD (pd ls 2)) ++ [[(eS ⟨#[]⟩)]])).drop p42.1).take p42.2).take (min (((((esD (pd ls 2)) ++ [[(eS ⟨#[]⟩)]])).drop p42.1).take p42.2).length p39.2) ++ (((esD (pd ls 2)) ++ [[(eS ⟨#[]⟩)]])).drop (p39.1 + (min (((((esD (pd ls 2)) ++ [[(eS ⟨#[]⟩)]])).drop p42.1).take p42.2).length p39.2)))).set j47 (setSegD w1 0 [(pd ls 0)])))]
)

def terms_Names_1_h (n : Nat) (ls : List D) : Option (List D) :=
 og (aggP 4 (pd ls 0)) <|
 obind (
 obind (binP false .eql (celD (pd ls 0) 0) (eI 3)) fun v10 =>
 obind (
 oif v10 (
 obind (terms_put_h n [(celD (pd ls 0) 2), (D.sl 1 (esD (pd ls 2)))]) fun h1 =>
 some (.inl [(D.sl 1 (esD (pd h1 0))), (D.sl 1 (esD (pd ls 3)))])
) (
 obind (binP false .eql (celD (pd ls 0) 0) (eI 4)) fun v16 =>
 obind (
 oif v16 (
 obind (terms_put_h n [(celD (pd ls 0) 2), (D.sl 1 (esD (pd ls 3)))]) fun h2 =>
 some (.inl [(D.sl 1 (esD (pd ls 2))), (D.sl 1 (esD (pd h2 0)))])
) (
 some (.inl [(D.sl 1 (esD (pd ls 2))), (D.sl 1 (esD (pd ls 3)))])
)
) <| jnX fun ls =>
 some (.inl [(D.sl 1 (esD (pd ls 0))), (D.sl 1 (esD (pd ls 1)))])
)
) <| jnX fun ls =>
 some (.inl [(D.sl 1 (esD (pd ls 0))), (D.sl 1 (esD (pd ls 1)))])
) <| jnX fun ls =>
 some [(eB true), (D.sl 1 (esD (pd ls 0))), (D.sl 1 (esD (pd ls 1)))]

def terms_walk_h_terms_Check_1_l4 (r_terms_walk_h_terms_Check_1 : List D → Option (List D)) (n : Nat) (ls : List D) : Option (List D ⊕ (List D ⊕ (List D))) :=
 obind (binP false .lss (pd ls 3) (pd ls 2)) fun v18 =>
 oif v18 (
 obind (ixP 4 (pd ls 1) (pd ls 3)) fun c19 =>
 obind (atP true 4 0 c19) fun v20 =>
 og (aggP 4 v20) <|
 obind (binP false .add (pd ls 0) (eI 1)) fun v23 =>
 obind (r_terms_walk_h_terms_Check_1 [(D.agg [(celD v20 0), (celD v20 1), (celD v20 2), (celD v20 3)]), v23, (pd ls 4), (pd ls 5)]) fun h2 =>
 obind (unP .not (pd h2 0)) fun v26 =>
 oif v26 (
 inrX (
 inrX (
 some [(eB false), (pd h2 1), (pd h2 2)]
)
)
) (
 obind (binP false .add (pd ls 3) (eI 1)) fun v27 =>
 some (.inl [(pd ls 0), (pd ls 1), (pd ls 2), v27, (pd h2 1), (pd h2 2)])
)
) (
 inrX (
 some (.inl [(pd ls 4), (pd ls 5)])
)
)

def terms_walk_h_terms_Check_1 (r_terms_walk_h_terms_Check_1 : List D → Option (List D)) (n : Nat) (ls : List D) : Option (List D) :=
 og (aggP 4 (pd ls 0)) <|
 obind (terms_Check_1_h n [(D.agg [(celD (pd ls 0) 0), (celD (pd ls 0) 1), (celD (pd ls 0) 2), (celD (pd ls 0) 3)]), (pd ls 1), (pd ls 2), (pd ls 3)]) fun h1 =>
 obind (unP .not (pd h1 0)) fun v13 =>
 oif v13 (
 some [(eB false), (pd h1 1), (pd h1 2)]
) (
 obind (lenP (celD (pd ls 0) 3)) fun v16 =>
 obind (
 iterL (terms_walk_h_terms_Check_1_l4 r_terms_walk_h_terms_Check_1 n) n [(pd ls 1), (celD (pd ls 0) 3), v16, (eI 0), (pd h1 1), (pd h1 2)]
) <| jnX fun ls =>
 some [(eB true), (pd ls 0), (pd ls 1)]
)

def terms_walk_h_terms_Check_1L : Nat → List D → Option (List D)
  | 0, _ => none
  | n + 1, ls => terms_walk_h_terms_Check_1 (terms_walk_h_terms_Check_1L n) n ls
def terms_Check (n : Nat) (a0 : D) : Option D :=
 og (aggP 4 a0) <|
 obind (terms_walk_h_terms_Check_1L n [(D.agg [(celD a0 0), (celD a0 1), (celD a0 2), (celD a0 3)]), (eI 1), (eI 0), (eI 0)]) fun h1 =>
 some (pd h1 2)

def terms_CheckL (n : Nat) : List D → Option D
  | [a0] => terms_Check n a0
  | _ => none
def terms_walk_h_terms_Names_1_l4 (r_terms_walk_h_terms_Names_1 : List D → Option (List D)) (n : Nat) (ls : List D) : Option (List D ⊕ (List D ⊕ (List D))) :=
 obind (binP false .lss (pd ls 3) (pd ls 2)) fun v18 =>
 oif v18 (
 obind (ixP 4 (pd ls 1) (pd ls 3)) fun c19 =>
 obind (atP true 4 0 c19) fun v20 =>
 og (aggP 4 v20) <|
 obind (binP false .add (pd ls 0) (eI 1)) fun v23 =>
 obind (r_terms_walk_h_terms_Names_1 [(D.agg [(celD v20 0), (celD v20 1), (celD v20 2), (celD v20 3)]), v23, (D.sl 1 (esD (pd ls 4))), (D.sl 1 (esD (pd ls 5)))]) fun h2 =>
 obind (unP .not (pd h2 0)) fun v26 =>
 oif v26 (
 inrX (
 inrX (
 some [(eB false), (D.sl 1 (esD (pd h2 1))), (D.sl 1 (esD (pd h2 2)))]
)
)
) (
 obind (binP false .add (pd ls 3) (eI 1)) fun v27 =>
 some (.inl [(pd ls 0), (pd ls 1), (pd ls 2), v27, (D.sl 1 (esD (pd h2 1))), (D.sl 1 (esD (pd h2 2)))])
)
) (
 inrX (
 some (.inl [(D.sl 1 (esD (pd ls 4))), (D.sl 1 (esD (pd ls 5)))])
)
)

def terms_walk_h_terms_Names_1 (r_terms_walk_h_terms_Names_1 : List D → Option (List D)) (n : Nat) (ls : List D) : Option (List D) :=
 og (aggP 4 (pd ls 0)) <|
 obind (terms_Names_1_h n [(D.agg [(celD (pd ls 0) 0), (celD (pd ls 0) 1), (celD (pd ls 0) 2), (celD (pd ls 0) 3)]), (pd ls 1), (D.sl 1 (esD (pd ls 2))), (D.sl 1 (esD (pd ls 3)))]) fun h1 =>
 obind (unP .not (pd h1 0)) fun v13 =>
 oif v13 (
 some [(eB false), (D.sl 1 (esD (pd h1 1))), (D.sl 1 (esD (pd h1 2)))]
) (
 obind (lenP (celD (pd ls 0) 3)) fun v16 =>
 obind (
 iterL (terms_walk_h_terms_Names_1_l4 r_terms_walk_h_terms_Names_1 n) n [(pd ls 1), (celD (pd ls 0) 3), v16, (eI 0), (D.sl 1 (esD (pd h1 1))), (D.sl 1 (esD (pd h1 2)))]
) <| jnX fun ls =>
 some [(eB true), (D.sl 1 (esD (pd ls 0))), (D.sl 1 (esD (pd ls 1)))]
)

def terms_walk_h_terms_Names_1L : Nat → List D → Option (List D)
  | 0, _ => none
  | n + 1, ls => terms_walk_h_terms_Names_1 (terms_walk_h_terms_Names_1L n) n ls
def terms_Names (n : Nat) (a0 : D) : Option D :=
 og (aggP 4 a0) <|
 obind (terms_walk_h_terms_Names_1L n [(D.agg [(celD a0 0), (celD a0 1), (celD a0 2), (celD a0 3)]), (eI 1), (D.sl 1 []), (D.sl 1 [])]) fun h1 =>
 some (D.tup [(D.sl 1 (esD (pd h1 1))), (D.sl 1 (esD (pd h1 2)))])

def terms_NamesL (n : Nat) : List D → Option D
  | [a0] => terms_Names n a0
  | _ => none
def forms_term (n : Nat) (a0 : D) : Option D :=
 og (aggP 6 a0) <|
 obind (binP false .neq (celD a0 0) (eI 1)) fun v8 =>
 oif v8 (
 some (eI 0)
) (
 obind (terms_CheckL n [(D.agg [(celD a0 1), (celD a0 2), (celD a0 3), (celD a0 4)])]) fun v11 =>
 obind (binP false .neq v11 (eI 0)) fun v13 =>
 oif v13 (
 some v11
) (
 obind (terms_NamesL n [(D.agg [(celD a0 1), (celD a0 2), (celD a0 3), (celD a0 4)])]) fun v18 =>
 obind (extP 0 v18) fun v19 =>
 obind (extP 1 v18) fun v20 =>
 obind (lenP v20) fun v22 =>
 obind (binP false .gtr v22 (eI 0)) fun v23 =>
 oif v23 (
 some (eI 24)
) (
 some (eI 0)
)
)
)

def forms_termL (n : Nat) : List D → Option D
  | [a0] => forms_term n a0
  | _ => none
def forms_kids (n : Nat) (a0 : D) : Option D :=
 obind (
 obind (binP false .eql a0 (eI 1)) fun v5 =>
 oif v5 (
 inrX (
 some (eI 0)
)
) (
 obind (binP false .eql a0 (eI 3)) fun v7 =>
 obind (
 oif v7 (
 some (.inl [a0, v7])
) (
 obind (binP false .eql a0 (eI 4)) fun v8 =>
 obind (
 oif v8 (
 some (.inl [a0, v8])
) (
 obind (binP false .eql a0 (eI 5)) fun v9 =>
 obind (
 oif v9 (
 some (.inl [a0, v9])
) (
 obind (binP false .eql a0 (eI 9)) fun v10 =>
 obind (
 oif v10 (
 some (.inl [a0, v10])
) (
 obind (binP false .eql a0 (eI 13)) fun v11 =>
 some (.inl [a0, v11])
)
) <| jnX fun ls =>
 some (.inl [(pd ls 0), (pd ls 1)])
)
) <| jnX fun ls =>
 some (.inl [(pd ls 0), (pd ls 1)])
)
) <| jnX fun ls =>
 some (.inl [(pd ls 0), (pd ls 1)])
)
) <| jnX fun ls =>
 oif (pd ls 1) (
 inrX (
 some (eI 2)
)
) (
 obind (binP false .eql (pd ls 0) (eI 2)) fun v13 =>
 obind (
 oif v13 (
 some (.inl [v13])
) (
 obind (binP false .eql (pd ls 0) (eI 6)) fun v14 =>
 obind (
 oif v14 (
 some (.inl [v14])
) (
 obind (binP false .eql (pd ls 0) (eI 7)) fun v15 =>
 obind (
 oif v15 (
 some (.inl [v15])
) (
 obind (binP false .eql (pd ls 0) (eI 8)) fun v16 =>
 obind (
 oif v16 (
 some (.inl [v16])
) (
 obind (binP false .eql (pd ls 0) (eI 10)) fun v17 =>
 obind (
 oif v17 (
 some (.inl [v17])
) (
 obind (binP false .eql (pd ls 0) (eI 11)) fun v18 =>
 obind (
 oif v18 (
 some (.inl [v18])
) (
 obind (binP false .eql (pd ls 0) (eI 12)) fun v19 =>
 some (.inl [v19])
)
) <| jnX fun ls =>
 some (.inl [(pd ls 0)])
)
) <| jnX fun ls =>
 some (.inl [(pd ls 0)])
)
) <| jnX fun ls =>
 some (.inl [(pd ls 0)])
)
) <| jnX fun ls =>
 some (.inl [(pd ls 0)])
)
) <| jnX fun ls =>
 some (.inl [(pd ls 0)])
)
) <| jnX fun ls =>
 oif (pd ls 0) (
 inrX (
 some (eI 1)
)
) (
 some (.inl [])
)
)
)
) <| jnX fun ls =>
 some (eI (-1))

def forms_kidsL (n : Nat) : List D → Option D
  | [a0] => forms_kids n a0
  | _ => none
def forms_Check_1_h (n : Nat) (ls : List D) : Option (List D) :=
 og (aggP 6 (pd ls 0)) <|
 obind (binP false .add (pd ls 2) (eI 1)) fun v11 =>
 og (oneP v11) <|
 obind (binP false .eql (celD (pd ls 0) 1) (eI 0)) fun v15 =>
 obind (gD v15 true (
 obind (binP false .eql (celD (pd ls 0) 2) (eI 0)) fun v20 =>
 some v20
)) fun v20 =>
 obind (pickP v15 v20 (eB false)) fun v21 =>
 obind (gD v21 true (
 obind (binP false .eql (celD (pd ls 0) 3) (eS ⟨#[]⟩)) fun v26 =>
 some v26
)) fun v26 =>
 obind (pickP v21 v26 (eB false)) fun v27 =>
 obind (gD v27 true (
 obind (lenP (celD (pd ls 0) 4)) fun v32 =>
 obind (binP false .eql v32 (eI 0)) fun v33 =>
 some v33
)) fun v33 =>
 obind (pickP v27 v33 (eB false)) fun v34 =>
 obind (forms_termL n [(D.agg [(celD (pd ls 0) 0), (celD (pd ls 0) 1), (celD (pd ls 0) 2), (celD (pd ls 0) 3), (celD (pd ls 0) 4), (celD (pd ls 0) 5)])]) fun v36 =>
 obind (forms_kidsL n [(celD (pd ls 0) 0)]) fun v39 =>
 obind (
 obind (binP false .gtr (pd ls 1) (eI 64)) fun v42 =>
 obind (
 oif v42 (
 some (.inl [(eI 17), v11])
) (
 obind (binP false .lss v39 (eI 0)) fun v45 =>
 obind (
 oif v45 (
 some (.inl [(eI 11), v11])
) (
 obind (binP false .neq v36 (eI 0)) fun v48 =>
 obind (
 oif v48 (
 og (oneP v36) <|
 some (.inl [v36, v11])
) (
 obind (lenP (celD (pd ls 0) 5)) fun v53 =>
 obind (binP false .neq v53 v39) fun v55 =>
 obind (gD v55 false (
 obind (binP false .neq (celD (pd ls 0) 0) (eI 1)) fun v59 =>
 some v59
)) fun v60 =>
 obind (gD v60 true (
 obind (unP .not v34) fun v62 =>
 some v62
)) fun v62 =>
 obind (gD v55 false (
 obind (pickP v60 v62 (eB false)) fun v63 =>
 some v63
)) fun v63 =>
 obind (pickP v55 (eB true) v63) fun v64 =>
 obind (
 oif v64 (
 some (.inl [(eI 3), v11])
) (
 obind (binP false .gtr v11 (eI 4096)) fun v67 =>
 obind (
 oif v67 (
 some (.inl [(eI 4), v11])
) (
 some (.inl [(pd ls 3), v11])
)
) <| jnX fun ls =>
 some (.inl [(pd ls 0), (pd ls 1)])
)
) <| jnX fun ls =>
 some (.inl [(pd ls 0), (pd ls 1)])
)
) <| jnX fun ls =>
 some (.inl [(pd ls 0), (pd ls 1)])
)
) <| jnX fun ls =>
 some (.inl [(pd ls 0), (pd ls 1)])
)
) <| jnX fun ls =>
 some (.inl [(pd ls 0), (pd ls 1)])
) <| jnX fun ls =>
 obind (binP false .eql (pd ls 0) (eI 0)) fun v69 =>
 some [v69, (pd ls 1), (pd ls 0)]

def forms_opposite_l3 (n : Nat) (ls : List D) : Option (List D ⊕ (List D ⊕ D)) :=
 obind (binP false .lss (pd ls 2) (eI 4)) fun v13 =>
 oif v13 (
 obind (numP 4 (pd ls 2)) fun j14 =>
 obind (fldP true 2 (j14 * 2) (pd ls 1)) fun v14 =>
 og (aggP 2 v14) <|
 obind (binP false .eql (pd ls 0) (celD v14 0)) fun v19 =>
 oif v19 (
 inrX (
 inrX (
 some (celD v14 1)
)
)
) (
 obind (binP false .eql (pd ls 0) (celD v14 1)) fun v25 =>
 oif v25 (
 inrX (
 inrX (
 some (celD v14 0)
)
)
) (
 obind (binP false .add (pd ls 2) (eI 1)) fun v28 =>
 some (.inl [(pd ls 0), (pd ls 1), v28])
)
)
) (
 inrX (
 some (.inl [(pd ls 0)])
)
)

def forms_opposite (n : Nat) (a0 : D) : Option D :=
 obind (
 iterL (forms_opposite_l3 n) n [a0, (D.agg [(eI 3), (eI 4), (eI 6), (eI 10), (eI 7), (eI 12), (eI 8), (eI 11)]), (eI 0)]
) <| jnX fun ls =>
 some (pd ls 0)

def forms_oppositeL (n : Nat) : List D → Option D
  | [a0] => forms_opposite n a0
  | _ => none
def forms_push_1_l3 (r_forms_push_1 : List D → Option D) (r_forms_push : List D → Option D) (n : Nat) (ls : List D) : Option (List D ⊕ (List D ⊕ D)) :=
 obind (binP false .lss (pd ls 3) (pd ls 2)) fun v15 =>
 oif v15 (
 obind (ixP 6 (pd ls 1) (pd ls 3)) fun c17 =>
 obind (atP true 6 0 c17) fun v18 =>
 og (aggP 6 v18) <|
 obind (ixP 1 (pd ls 0) (pd ls 3)) fun c24 =>
 obind (atP false 1 0 c24) fun v25 =>
 obind (r_forms_push [(D.agg [(celD v18 0), (celD v18 1), (celD v18 2), (celD v18 3), (celD v18 4), (celD v18 5)]), v25]) fun v26 =>
 og (aggP 6 v26) <|
 og (roomP (((esD (pd ls 15))).length + ([[(celD v26 0), (celD v26 1), (celD v26 2), (celD v26 3), (celD v26 4), (celD v26 5)]]).length) 88) <|
 obind (binP false .add (pd ls 3) (eI 1)) fun v30 =>
 some (.inl [(pd ls 0), (pd ls 1), (pd ls 2), v30, (pd ls 4), (pd ls 5), (pd ls 6), (pd ls 7), (pd ls 8), (pd ls 9), (pd ls 10), (pd ls 11), (pd ls 12), (pd ls 13), (pd ls 14), (D.sl 6 ((esD (pd ls 15)) ++ [[(celD v26 0), (celD v26 1), (celD v26 2), (celD v26 3), (celD v26 4), (celD v26 5)]]))])
) (
 inrX (
 some (.inl [(pd ls 4), (pd ls 5), (pd ls 6), (pd ls 7), (pd ls 8), (pd ls 9), (pd ls 10), (pd ls 11), (pd ls 12), (pd ls 13), (pd ls 14), (D.sl 6 (esD (pd ls 15)))])
)
)

def forms_push_1 (r_forms_push_1 : List D → Option D) (r_forms_push : List D → Option D) (n : Nat) (a0 : D) (a1 : D) (x2 : List D) : Option D :=
 og (oneP a0) <|
 og (aggP 6 (D.agg [a0, (eI 0), (eI 0), (eS ⟨#[]⟩), (D.val (.slice none 0 0)), (D.val (.slice none 0 0))])) <|
 obind (atP false 1 5 x2) fun v12 =>
 obind (lenP v12) fun v13 =>
 obind (
 iterL (forms_push_1_l3 r_forms_push_1 r_forms_push n) n [a1, v12, v13, (eI 0), (eI 0), (eI 0), (eI 0), (eS ⟨#[]⟩), (D.val (.slice none 0 0)), (D.val (.slice none 0 0)), a0, (eI 0), (eI 0), (eS ⟨#[]⟩), (D.val (.slice none 0 0)), (D.sl 6 [])]
) <| jnX fun ls =>
 og (aggP 6 (D.agg [(pd ls 6), (pd ls 7), (pd ls 8), (pd ls 9), (pd ls 10), (D.sl 6 (esD (pd ls 11)))])) <|
 some (D.agg [(pd ls 6), (pd ls 7), (pd ls 8), (pd ls 9), (pd ls 10), (D.sl 6 (esD (pd ls 11)))])

def forms_push (r_forms_push_1 : List D → Option D) (r_forms_push : List D → Option D) (n : Nat) (a0 : D) (a1 : D) : Option D :=
 og (aggP 6 a0) <|
 obind (binP false .eql (celD a0 0) (eI 2)) fun v11 =>
 oif v11 (
 obind (ixP 6 (celD a0 5) (eI 0)) fun c14 =>
 obind (atP true 6 0 c14) fun v15 =>
 obind (unP .not a1) fun v17 =>
 obind (r_forms_push [v15, v17]) fun v18 =>
 og (aggP 6 v18) <|
 some (D.agg [(celD v18 0), (celD v18 1), (celD v18 2), (celD v18 3), (celD v18 4), (celD v18 5)])
) (
 obind (binP false .eql (celD a0 0) (eI 1)) fun v22 =>
 obind (gD v22 true (
 some a1
)) fun v24 =>
 obind (pickP v22 v24 (eB false)) fun v25 =>
 oif v25 (
 og (aggP 4 (D.agg [(celD a0 1), (celD a0 2), (celD a0 3), (celD a0 4)])) <|
 og (aggP 6 (D.agg [(eI 1), (eI 5), (eI 0), (eS ⟨#[]⟩), (D.sl 4 [[(celD a0 1), (celD a0 2), (celD a0 3), (celD a0 4)]]), (D.val (.slice none 0 0))])) <|
 some (D.agg [(eI 1), (eI 5), (eI 0), (eS ⟨#[]⟩), (D.sl 4 [[(celD a0 1), (celD a0 2), (celD a0 3), (celD a0 4)]]), (D.val (.slice none 0 0))])
) (
 obind (binP false .eql (celD a0 0) (eI 1)) fun v34 =>
 oif v34 (
 og (aggP 6 (D.agg [(celD a0 0), (celD a0 1), (celD a0 2), (celD a0 3), (celD a0 4), (celD a0 5)])) <|
 some (D.agg [(celD a0 0), (celD a0 1), (celD a0 2), (celD a0 3), (celD a0 4), (celD a0 5)])
) (
 obind (binP false .eql (celD a0 0) (eI 5)) fun v39 =>
 obind (gD v39 true (
 some a1
)) fun v41 =>
 obind (pickP v39 v41 (eB false)) fun v42 =>
 oif v42 (
 obind (r_forms_push_1 [(eI 3), (D.sl 1 [[(eB false)], [(eB true)]]), (D.ref [(celD a0 0), (celD a0 1), (celD a0 2), (celD a0 3), (celD a0 4), (celD a0 5)] 0)]) fun v45 =>
 og (aggP 6 v45) <|
 some (D.agg [(celD v45 0), (celD v45 1), (celD v45 2), (celD v45 3), (celD v45 4), (celD v45 5)])
) (
 obind (binP false .eql (celD a0 0) (eI 5)) fun v49 =>
 oif v49 (
 obind (r_forms_push_1 [(eI 4), (D.sl 1 [[(eB true)], [(eB false)]]), (D.ref [(celD a0 0), (celD a0 1), (celD a0 2), (celD a0 3), (celD a0 4), (celD a0 5)] 0)]) fun v52 =>
 og (aggP 6 v52) <|
 some (D.agg [(celD v52 0), (celD v52 1), (celD v52 2), (celD v52 3), (celD v52 4), (celD v52 5)])
) (
 obind (binP false .eql (celD a0 0) (eI 9)) fun v56 =>
 obind (gD v56 false (
 obind (binP false .eql (celD a0 0) (eI 13)) fun v60 =>
 some v60
)) fun v60 =>
 obind (pickP v56 (eB true) v60) fun v61 =>
 oif v61 (
 obind (r_forms_push_1 [(celD a0 0), (D.sl 1 [[(eB false)], [(eB false)]]), (D.ref [(celD a0 0), (celD a0 1), (celD a0 2), (celD a0 3), (celD a0 4), (celD a0 5)] 0)]) fun v66 =>
 og (aggP 6 v66) <|
 obind (
 oif a1 (
 og (aggP 6 (D.agg [(celD v66 0), (celD v66 1), (celD v66 2), (celD v66 3), (celD v66 4), (celD v66 5)])) <|
 og (aggP 6 (D.agg [(eI 2), (eI 0), (eI 0), (eS ⟨#[]⟩), (D.val (.slice none 0 0)), (D.sl 6 [[(celD v66 0), (celD v66 1), (celD v66 2), (celD v66 3), (celD v66 4), (celD v66 5)]])])) <|
 some (.inl [(eI 0), (eI 0), (eI 0), (eS ⟨#[]⟩), (D.val (.slice none 0 0)), (D.val (.slice none 0 0)), (eI 2), (eI 0), (eI 0), (eS ⟨#[]⟩), (D.val (.slice none 0 0)), (D.sl 6 [[(celD v66 0), (celD v66 1), (celD v66 2), (celD v66 3), (celD v66 4), (celD v66 5)]])])
) (
 some (.inl [(eI 0), (eI 0), (eI 0), (eS ⟨#[]⟩), (D.val (.slice none 0 0)), (D.val (.slice none 0 0)), (celD v66 0), (celD v66 1), (celD v66 2), (celD v66 3), (celD v66 4), (celD v66 5)])
)
) <| jnX fun ls =>
 og (aggP 6 (D.agg [(pd ls 6), (pd ls 7), (pd ls 8), (pd ls 9), (pd ls 10), (pd ls 11)])) <|
 some (D.agg [(pd ls 6), (pd ls 7), (pd ls 8), (pd ls 9), (pd ls 10), (pd ls 11)])
) (
 oif a1 (
 obind (forms_oppositeL n [(celD a0 0)]) fun v77 =>
 obind (r_forms_push_1 [v77, (D.sl 1 [[(eB true)], [(eB true)]]), (D.ref [(celD a0 0), (celD a0 1), (celD a0 2), (celD a0 3), (celD a0 4), (celD a0 5)] 0)]) fun v79 =>
 og (aggP 6 v79) <|
 some (D.agg [(celD v79 0), (celD v79 1), (celD v79 2), (celD v79 3), (celD v79 4), (celD v79 5)])
) (
 obind (r_forms_push_1 [(celD a0 0), (D.sl 1 [[(eB false)], [(eB false)]]), (D.ref [(celD a0 0), (celD a0 1), (celD a0 2), (celD a0 3), (celD a0 4), (celD a0 5)] 0)]) fun v84 =>
 og (aggP 6 v84) <|
 some (D.agg [(celD v84 0), (celD v84 1), (celD v84 2), (celD v84 3), (celD v84 4), (celD v84 5)])
)
)
)
)
)
)
)

mutual
def forms_push_1L : Nat → List D → Option D
  | 0, _ => none
  | n + 1, ds => match ds with
    | [a0, a1, a2] => (match a2 with | .ref x2 0 => forms_push_1 (forms_push_1L n) (forms_pushL n) n a0 a1 x2 | _ => none)
    | _ => none
def forms_pushL : Nat → List D → Option D
  | 0, _ => none
  | n + 1, ds => match ds with
    | [a0, a1] => forms_push (forms_push_1L n) (forms_pushL n) n a0 a1
    | _ => none
end
def terms_Same_l4 (r_terms_Same : List D → Option D) (n : Nat) (ls : List D) : Option (List D ⊕ (List D ⊕ D)) :=
 obind (binP false .lss (pd ls 2) (pd ls 1)) fun v39 =>
 oif v39 (
 obind (ixP 4 (pd ls 0) (pd ls 2)) fun c41 =>
 obind (atP true 4 0 c41) fun v42 =>
 og (aggP 4 v42) <|
 obind (ixP 4 (pd ls 6) (pd ls 2)) fun c47 =>
 obind (atP true 4 0 c47) fun v48 =>
 obind (r_terms_Same [(D.agg [(celD v42 0), (celD v42 1), (celD v42 2), (celD v42 3)]), v48]) fun v49 =>
 obind (unP .not v49) fun v50 =>
 oif v50 (
 inrX (
 inrX (
 some (eB false)
)
)
) (
 obind (binP false .add (pd ls 2) (eI 1)) fun v51 =>
 some (.inl [(pd ls 0), (pd ls 1), v51, (pd ls 3), (pd ls 4), (pd ls 5), (pd ls 6)])
)
) (
 inrX (
 some (.inl [])
)
)

def terms_Same (r_terms_Same : List D → Option D) (n : Nat) (a0 : D) (a1 : D) : Option D :=
 og (aggP 4 a0) <|
 og (aggP 4 a1) <|
 obind (binP false .neq (celD a0 0) (celD a1 0)) fun v11 =>
 obind (gD v11 false (
 obind (binP false .neq (celD a0 1) (celD a1 1)) fun v17 =>
 some v17
)) fun v17 =>
 obind (pickP v11 (eB true) v17) fun v18 =>
 obind (gD v18 false (
 obind (binP false .neq (celD a0 2) (celD a1 2)) fun v24 =>
 some v24
)) fun v24 =>
 obind (pickP v18 (eB true) v24) fun v25 =>
 obind (gD v25 false (
 obind (lenP (celD a0 3)) fun v29 =>
 obind (lenP (celD a1 3)) fun v32 =>
 obind (binP false .neq v29 v32) fun v33 =>
 some v33
)) fun v33 =>
 obind (pickP v25 (eB true) v33) fun v34 =>
 oif v34 (
 some (eB false)
) (
 obind (lenP (celD a0 3)) fun v37 =>
 obind (
 iterL (terms_Same_l4 r_terms_Same n) n [(celD a0 3), v37, (eI 0), (celD a1 0), (celD a1 1), (celD a1 2), (celD a1 3)]
) <| jnX fun ls =>
 some (eB true)
)

def terms_SameL : Nat → List D → Option D
  | 0, _ => none
  | n + 1, ds => match ds with
    | [a0, a1] => terms_Same (terms_SameL n) n a0 a1
    | _ => none
def slices_EqualFunc_Lapi_Form_Lapi_Form_api_Form_api_Form_forms_Same_l4 (r_slices_EqualFunc_Lapi_Form_Lapi_Form_api_Form_api_Form_forms_Same : List D → Option D) (r_forms_Same : List D → Option D) (n : Nat) (ls : List D) : Option (List D ⊕ (List D ⊕ D)) :=
 obind (binP false .lss (pd ls 3) (pd ls 2)) fun v18 =>
 oif v18 (
 obind (ixP 6 (pd ls 1) (pd ls 3)) fun c20 =>
 obind (atP true 6 0 c20) fun v21 =>
 og (aggP 6 v21) <|
 obind (ixP 6 (pd ls 0) (pd ls 3)) fun c24 =>
 obind (atP true 6 0 c24) fun v25 =>
 og (aggP 6 v25) <|
 obind (r_forms_Same [(D.agg [(celD v21 0), (celD v21 1), (celD v21 2), (celD v21 3), (celD v21 4), (celD v21 5)]), (D.agg [(celD v25 0), (celD v25 1), (celD v25 2), (celD v25 3), (celD v25 4), (celD v25 5)])]) fun v29 =>
 obind (unP .not v29) fun v30 =>
 oif v30 (
 inrX (
 inrX (
 some (eB false)
)
)
) (
 obind (binP false .add (pd ls 3) (eI 1)) fun v31 =>
 some (.inl [(pd ls 0), (pd ls 1), (pd ls 2), v31])
)
) (
 inrX (
 some (.inl [])
)
)

def slices_EqualFunc_Lapi_Form_Lapi_Form_api_Form_api_Form_forms_Same (r_slices_EqualFunc_Lapi_Form_Lapi_Form_api_Form_api_Form_forms_Same : List D → Option D) (r_forms_Same : List D → Option D) (n : Nat) (a0 : D) (a1 : D) : Option D :=
 obind (lenP a0) fun v11 =>
 obind (lenP a1) fun v13 =>
 obind (binP false .neq v11 v13) fun v14 =>
 oif v14 (
 some (eB false)
) (
 obind (lenP a0) fun v16 =>
 obind (
 iterL (slices_EqualFunc_Lapi_Form_Lapi_Form_api_Form_api_Form_forms_Same_l4 r_slices_EqualFunc_Lapi_Form_Lapi_Form_api_Form_api_Form_forms_Same r_forms_Same n) n [a1, a0, v16, (eI 0)]
) <| jnX fun ls =>
 some (eB true)
)

def forms_Same (r_slices_EqualFunc_Lapi_Form_Lapi_Form_api_Form_api_Form_forms_Same : List D → Option D) (r_forms_Same : List D → Option D) (n : Nat) (a0 : D) (a1 : D) : Option D :=
 og (aggP 6 a0) <|
 og (aggP 6 a1) <|
 obind (binP false .eql (celD a0 0) (celD a1 0)) fun v9 =>
 obind (gD v9 true (
 obind (terms_SameL n [(D.agg [(celD a0 1), (celD a0 2), (celD a0 3), (celD a0 4)]), (D.agg [(celD a1 1), (celD a1 2), (celD a1 3), (celD a1 4)])]) fun v15 =>
 some v15
)) fun v15 =>
 obind (pickP v9 v15 (eB false)) fun v16 =>
 obind (gD v16 true (
 obind (r_slices_EqualFunc_Lapi_Form_Lapi_Form_api_Form_api_Form_forms_Same [(celD a0 5), (celD a1 5), (D.val (.func (.func fid_forms_Same) #[] #[]))]) fun v22 =>
 some v22
)) fun v22 =>
 obind (pickP v16 v22 (eB false)) fun v23 =>
 some v23

mutual
def slices_EqualFunc_Lapi_Form_Lapi_Form_api_Form_api_Form_forms_SameL : Nat → List D → Option D
  | 0, _ => none
  | n + 1, ds => match ds with
    | [a0, a1, a2] => og (isFc fid_forms_Same a2) (slices_EqualFunc_Lapi_Form_Lapi_Form_api_Form_api_Form_forms_Same (slices_EqualFunc_Lapi_Form_Lapi_Form_api_Form_api_Form_forms_SameL n) (forms_SameL n) n a0 a1)
    | _ => none
def forms_SameL : Nat → List D → Option D
  | 0, _ => none
  | n + 1, ds => match ds with
    | [a0, a1] => forms_Same (slices_EqualFunc_Lapi_Form_Lapi_Form_api_Form_api_Form_forms_SameL n) (forms_SameL n) n a0 a1
    | _ => none
end
def forms_Parts_1_1 (n : Nat) (a0 : D) (x1 : List D) : Option D :=
 og (aggP 6 a0) <|
 obind (atP true 6 0 x1) fun v4 =>
 obind (forms_SameL n [v4, (D.agg [(celD a0 0), (celD a0 1), (celD a0 2), (celD a0 3), (celD a0 4), (celD a0 5)])]) fun v6 =>
 some v6

def forms_Parts_1_1L (n : Nat) : List D → Option D
  | [a0, a1] => (match a1 with | .ref x1 0 => forms_Parts_1_1 n a0 x1 | _ => none)
  | _ => none
def slices_IndexFunc_Lapi_Form_api_Form_forms_Parts_1_1_l2 (n : Nat) (ls : List D) : Option (List D ⊕ (List D ⊕ D)) :=
 obind (binP false .lss (pd ls 3) (pd ls 2)) fun v9 =>
 oif v9 (
 obind (ixP 6 (pd ls 0) (pd ls 3)) fun c14 =>
 obind (atP true 6 0 c14) fun v15 =>
 obind (forms_Parts_1_1L n [v15, (pd ls 1)]) fun v16 =>
 oif v16 (
 inrX (
 inrX (
 some (pd ls 3)
)
)
) (
 obind (binP false .add (pd ls 3) (eI 1)) fun v18 =>
 some (.inl [(pd ls 0), (pd ls 1), (pd ls 2), v18])
)
) (
 inrX (
 some (.inl [])
)
)

def slices_IndexFunc_Lapi_Form_api_Form_forms_Parts_1_1 (n : Nat) (a0 : D) (x1_0 : D) : Option D :=
 obind (lenP a0) fun v7 =>
 obind (
 iterL (slices_IndexFunc_Lapi_Form_api_Form_forms_Parts_1_1_l2 n) n [a0, x1_0, v7, (eI 0)]
) <| jnX fun ls =>
 some (eI (-1))

def slices_IndexFunc_Lapi_Form_api_Form_forms_Parts_1_1L (n : Nat) : List D → Option D
  | [a0, a1] => (match fnOf fid_forms_Parts_1_1 a1 with | some [x1_0] => slices_IndexFunc_Lapi_Form_api_Form_forms_Parts_1_1 n a0 x1_0 | _ => none)
  | _ => none
def slices_ContainsFunc_Lapi_Form_api_Form_forms_Parts_1_1 (n : Nat) (a0 : D) (x1_0 : D) : Option D :=
 obind (slices_IndexFunc_Lapi_Form_api_Form_forms_Parts_1_1L n [a0, (D.fn (.func fid_forms_Parts_1_1) [] [x1_0])]) fun v7 =>
 obind (binP false .geq v7 (eI 0)) fun v8 =>
 some v8

def slices_ContainsFunc_Lapi_Form_api_Form_forms_Parts_1_1L (n : Nat) : List D → Option D
  | [a0, a1] => (match fnOf fid_forms_Parts_1_1 a1 with | some [x1_0] => slices_ContainsFunc_Lapi_Form_api_Form_forms_Parts_1_1 n a0 x1_0 | _ => none)
  | _ => none
def forms_Parts_1_h (n : Nat) (ls : List D) : Option (List D) :=
 og (aggP 6 (pd ls 0)) <|
 obind (slices_ContainsFunc_Lapi_Form_api_Form_forms_Parts_1_1L n [(D.sl 6 (esD (pd ls 2))), (D.fn (.func fid_forms_Parts_1_1) [] [(D.ref [(celD (pd ls 0) 0), (celD (pd ls 0) 1), (celD (pd ls 0) 2), (celD (pd ls 0) 3), (celD (pd ls 0) 4), (celD (pd ls 0) 5)] 0)])]) fun v8 =>
 og v8.flat <|
 obind (unP .not v8) fun v9 =>
 obind (
 oif v9 (
 og (roomP (((esD (pd ls 2))).length + ([[(eI 0), (eI 0), (eI 0), (eS ⟨#[]⟩), (D.val (.slice none 0 0)), (D.val (.slice none 0 0))]]).length) 88) <|
 obind (numP (((esD (pd ls 2)) ++ [[(eI 0), (eI 0), (eI 0), (eS ⟨#[]⟩), (D.val (.slice none 0 0)), (D.val (.slice none 0 0))]])).length (eI ((esD (pd ls 2))).length)) fun j15 =>
 og (aggP 6 (D.agg [(celD (pd ls 0) 0), (celD (pd ls 0) 1), (celD (pd ls 0) 2), (celD (pd ls 0) 3), (celD (pd ls 0) 4), (celD (pd ls 0) 5)])) <|
 obind ((((esD (pd ls 2)) ++ [[(eI 0), (eI 0), (eI 0), (eS ⟨#[]⟩), (D.val (.slice none 0 0)), (D.val (.slice none 0 0))]]))[j15]?) fun w1 =>
 some (.inl [(D.sl 6 ((((esD (pd ls 2)) ++ [[(eI 0), (eI 0), (eI 0), (eS ⟨#[]⟩), (D.val (.slice none 0 0)), (D.val (.slice none 0 0))]])).set j15 (setSegD w1 0 [(celD (pd ls 0) 0), (celD (pd ls 0) 1), (celD (pd ls 0) 2), (celD (pd ls 0) 3), (celD (pd ls 0) 4), (celD (pd ls 0) 5)])))])
) (
 some (.inl [(D.sl 6 (esD (pd ls 2)))])
)
) <| jnX fun ls =>
 some [(eB true), (D.sl 6 (esD (pd ls 0)))]

def forms_depths_1 (n : Nat) (a0 : D) (a1 : D) : Option D :=
 og (aggP 6 a0) <|
 og (oneP a1) <|
 some (D.sl 1 [[a1]])

def forms_depths_1L (n : Nat) : List D → Option D
  | [a0, a1] => forms_depths_1 n a0 a1
  | _ => none
def forms_gather_int_1_h (n : Nat) (ls : List D) : Option (List D) :=
 og (aggP 6 (pd ls 0)) <|
 obind (forms_depths_1L n [(D.agg [(celD (pd ls 0) 0), (celD (pd ls 0) 1), (celD (pd ls 0) 2), (celD (pd ls 0) 3), (celD (pd ls 0) 4), (celD (pd ls 0) 5)]), (pd ls 1)]) fun v11 =>
 obind (elP v11) fun q12 =>
 og (decide (q12.1 = 1 ∨ q12.2 = []) && decide (0 < 1)) <|
 og (roomP (((esD (pd ls 2))).length + (q12.2).length) 8) <|
 some [(eB true), (D.sl 1 ((esD (pd ls 2)) ++ q12.2))]

def slices_Max_Lint_int_l5 (n : Nat) (ls : List D) : Option (List D ⊕ (List D ⊕ D)) :=
 obind (lenP (pd ls 0)) fun v14 =>
 obind (binP false .lss (pd ls 2) v14) fun v15 =>
 oif v15 (
 obind (ixP 1 (pd ls 0) (pd ls 2)) fun c21 =>
 obind (atP false 1 0 c21) fun v22 =>
 obind (mmP true [(pd ls 1), v22]) fun v23 =>
 obind (binP false .add (pd ls 2) (eI 1)) fun v17 =>
 some (.inl [(pd ls 0), v23, v17])
) (
 inrX (
 some (.inl [(pd ls 1)])
)
)

def slices_Max_Lint_int (n : Nat) (a0 : D) : Option D :=
 obind (lenP a0) fun v6 =>
 obind (binP false .lss v6 (eI 1)) fun v7 =>
 obind (
 oif v7 (
 none
) (
 some (.inl [a0])
)
) <| jnX fun ls =>
 obind (ixP 1 (pd ls 0) (eI 0)) fun c10 =>
 obind (atP false 1 0 c10) fun v11 =>
 obind (
 iterL (slices_Max_Lint_int_l5 n) n [(pd ls 0), v11, (eI 1)]
) <| jnX fun ls =>
 some (pd ls 0)

def slices_Max_Lint_intL (n : Nat) : List D → Option D
  | [a0] => slices_Max_Lint_int n a0
  | _ => none
def forms_Plain_1 (n : Nat) (a0 : D) (a1 : D) : Option D :=
 og (aggP 6 a0) <|
 obind (binP false .lss (celD a0 0) (eI 6)) fun v7 =>
 obind (gD v7 false (
 obind (binP false .gtr (celD a0 0) (eI 13)) fun v11 =>
 some v11
)) fun v11 =>
 obind (pickP v7 (eB true) v11) fun v12 =>
 some v12

def forms_Plain_1L (n : Nat) : List D → Option D
  | [a0, a1] => forms_Plain_1 n a0 a1
  | _ => none
def forms_Names_1 (n : Nat) (a0 : D) (a1 : D) : Option D :=
 og (aggP 6 a0) <|
 obind (terms_NamesL n [(D.agg [(celD a0 1), (celD a0 2), (celD a0 3), (celD a0 4)])]) fun v10 =>
 obind (extP 0 v10) fun v11 =>
 obind (extP 1 v10) fun v12 =>
 some v11

def forms_Names_1L (n : Nat) : List D → Option D
  | [a0, a1] => forms_Names_1 n a0 a1
  | _ => none
def forms_gather_string_1_h (n : Nat) (ls : List D) : Option (List D) :=
 og (aggP 6 (pd ls 0)) <|
 obind (forms_Names_1L n [(D.agg [(celD (pd ls 0) 0), (celD (pd ls 0) 1), (celD (pd ls 0) 2), (celD (pd ls 0) 3), (celD (pd ls 0) 4), (celD (pd ls 0) 5)]), (pd ls 1)]) fun v11 =>
 obind (elP v11) fun q12 =>
 og (decide (q12.1 = 1 ∨ q12.2 = []) && decide (0 < 1)) <|
 og (roomP (((esD (pd ls 2))).length + (q12.2).length) 16) <|
 some [(eB true), (D.sl 1 ((esD (pd ls 2)) ++ q12.2))]

def forms_each_h_forms_Check_1_l4 (r_forms_each_h_forms_Check_1 : List D → Option (List D)) (n : Nat) (ls : List D) : Option (List D ⊕ (List D ⊕ (List D))) :=
 obind (binP false .lss (pd ls 3) (pd ls 2)) fun v18 =>
 oif v18 (
 obind (ixP 6 (pd ls 1) (pd ls 3)) fun c19 =>
 obind (atP true 6 0 c19) fun v20 =>
 og (aggP 6 v20) <|
 obind (binP false .add (pd ls 0) (eI 1)) fun v23 =>
 obind (r_forms_each_h_forms_Check_1 [(D.agg [(celD v20 0), (celD v20 1), (celD v20 2), (celD v20 3), (celD v20 4), (celD v20 5)]), v23, (pd ls 4), (pd ls 5)]) fun h2 =>
 obind (unP .not (pd h2 0)) fun v26 =>
 oif v26 (
 inrX (
 inrX (
 some [(eB false), (pd h2 1), (pd h2 2)]
)
)
) (
 obind (binP false .add (pd ls 3) (eI 1)) fun v27 =>
 some (.inl [(pd ls 0), (pd ls 1), (pd ls 2), v27, (pd h2 1), (pd h2 2)])
)
) (
 inrX (
 some (.inl [(pd ls 4), (pd ls 5)])
)
)

def forms_each_h_forms_Check_1 (r_forms_each_h_forms_Check_1 : List D → Option (List D)) (n : Nat) (ls : List D) : Option (List D) :=
 og (aggP 6 (pd ls 0)) <|
 obind (forms_Check_1_h n [(D.agg [(celD (pd ls 0) 0), (celD (pd ls 0) 1), (celD (pd ls 0) 2), (celD (pd ls 0) 3), (celD (pd ls 0) 4), (celD (pd ls 0) 5)]), (pd ls 1), (pd ls 2), (pd ls 3)]) fun h1 =>
 obind (unP .not (pd h1 0)) fun v13 =>
 oif v13 (
 some [(eB false), (pd h1 1), (pd h1 2)]
) (
 obind (lenP (celD (pd ls 0) 5)) fun v16 =>
 obind (
 iterL (forms_each_h_forms_Check_1_l4 r_forms_each_h_forms_Check_1 n) n [(pd ls 1), (celD (pd ls 0) 5), v16, (eI 0), (pd h1 1), (pd h1 2)]
) <| jnX fun ls =>
 some [(eB true), (pd ls 0), (pd ls 1)]
)

def forms_each_h_forms_Check_1L : Nat → List D → Option (List D)
  | 0, _ => none
  | n + 1, ls => forms_each_h_forms_Check_1 (forms_each_h_forms_Check_1L n) n ls
def forms_Check (n : Nat) (a0 : D) : Option D :=
 og (aggP 6 a0) <|
 obind (forms_each_h_forms_Check_1L n [(D.agg [(celD a0 0), (celD a0 1), (celD a0 2), (celD a0 3), (celD a0 4), (celD a0 5)]), (eI 1), (eI 0), (eI 0)]) fun h1 =>
 some (pd h1 2)

def forms_CheckL (n : Nat) : List D → Option D
  | [a0] => forms_Check n a0
  | _ => none
def forms_Push (n : Nat) (a0 : D) (a1 : D) : Option D :=
 og (aggP 6 a0) <|
 obind (forms_CheckL n [(D.agg [(celD a0 0), (celD a0 1), (celD a0 2), (celD a0 3), (celD a0 4), (celD a0 5)])]) fun v6 =>
 obind (binP false .neq v6 (eI 0)) fun v7 =>
 oif v7 (
 og (aggP 6 (D.agg [(celD a0 0), (celD a0 1), (celD a0 2), (celD a0 3), (celD a0 4), (celD a0 5)])) <|
 some (D.agg [(celD a0 0), (celD a0 1), (celD a0 2), (celD a0 3), (celD a0 4), (celD a0 5)])
) (
 obind (forms_pushL n [(D.agg [(celD a0 0), (celD a0 1), (celD a0 2), (celD a0 3), (celD a0 4), (celD a0 5)]), a1]) fun v11 =>
 og (aggP 6 v11) <|
 some (D.agg [(celD v11 0), (celD v11 1), (celD v11 2), (celD v11 3), (celD v11 4), (celD v11 5)])
)

def forms_PushL (n : Nat) : List D → Option D
  | [a0, a1] => forms_Push n a0 a1
  | _ => none
def forms_each_h_forms_Parts_1_l4 (r_forms_each_h_forms_Parts_1 : List D → Option (List D)) (n : Nat) (ls : List D) : Option (List D ⊕ (List D ⊕ (List D))) :=
 obind (binP false .lss (pd ls 3) (pd ls 2)) fun v18 =>
 oif v18 (
 obind (ixP 6 (pd ls 1) (pd ls 3)) fun c19 =>
 obind (atP true 6 0 c19) fun v20 =>
 og (aggP 6 v20) <|
 obind (binP false .add (pd ls 0) (eI 1)) fun v23 =>
 obind (r_forms_each_h_forms_Parts_1 [(D.agg [(celD v20 0), (celD v20 1), (celD v20 2), (celD v20 3), (celD v20 4), (celD v20 5)]), v23, (D.sl 6 (esD (pd ls 4)))]) fun h2 =>
 obind (unP .not (pd h2 0)) fun v26 =>
 oif v26 (
 inrX (
 inrX (
 some [(eB false), (D.sl 6 (esD (pd h2 1)))]
)
)
) (
 obind (binP false .add (pd ls 3) (eI 1)) fun v27 =>
 some (.inl [(pd ls 0), (pd ls 1), (pd ls 2), v27, (D.sl 6 (esD (pd h2 1)))])
)
) (
 inrX (
 some (.inl [(D.sl 6 (esD (pd ls 4)))])
)
)

def forms_each_h_forms_Parts_1 (r_forms_each_h_forms_Parts_1 : List D → Option (List D)) (n : Nat) (ls : List D) : Option (List D) :=
 og (aggP 6 (pd ls 0)) <|
 obind (forms_Parts_1_h n [(D.agg [(celD (pd ls 0) 0), (celD (pd ls 0) 1), (celD (pd ls 0) 2), (celD (pd ls 0) 3), (celD (pd ls 0) 4), (celD (pd ls 0) 5)]), (pd ls 1), (D.sl 6 (esD (pd ls 2)))]) fun h1 =>
 obind (unP .not (pd h1 0)) fun v13 =>
 oif v13 (
 some [(eB false), (D.sl 6 (esD (pd h1 1)))]
) (
 obind (lenP (celD (pd ls 0) 5)) fun v16 =>
 obind (
 iterL (forms_each_h_forms_Parts_1_l4 r_forms_each_h_forms_Parts_1 n) n [(pd ls 1), (celD (pd ls 0) 5), v16, (eI 0), (D.sl 6 (esD (pd h1 1)))]
) <| jnX fun ls =>
 some [(eB true), (D.sl 6 (esD (pd ls 0)))]
)

def forms_each_h_forms_Parts_1L : Nat → List D → Option (List D)
  | 0, _ => none
  | n + 1, ls => forms_each_h_forms_Parts_1 (forms_each_h_forms_Parts_1L n) n ls
def forms_Parts (n : Nat) (a0 : D) : Option D :=
 og (aggP 6 a0) <|
 obind (forms_CheckL n [(D.agg [(celD a0 0), (celD a0 1), (celD a0 2), (celD a0 3), (celD a0 4), (celD a0 5)])]) fun v5 =>
 obind (binP false .neq v5 (eI 0)) fun v6 =>
 oif v6 (
 some (D.val (.slice none 0 0))
) (
 obind (forms_each_h_forms_Parts_1L n [(D.agg [(celD a0 0), (celD a0 1), (celD a0 2), (celD a0 3), (celD a0 4), (celD a0 5)]), (eI 1), (D.sl 6 [])]) fun h1 =>
 some (D.sl 6 (esD (pd h1 1)))
)

def forms_PartsL (n : Nat) : List D → Option D
  | [a0] => forms_Parts n a0
  | _ => none
def forms_each_h_forms_gather_int_1_l4 (r_forms_each_h_forms_gather_int_1 : List D → Option (List D)) (n : Nat) (ls : List D) : Option (List D ⊕ (List D ⊕ (List D))) :=
 obind (binP false .lss (pd ls 3) (pd ls 2)) fun v18 =>
 oif v18 (
 obind (ixP 6 (pd ls 1) (pd ls 3)) fun c19 =>
 obind (atP true 6 0 c19) fun v20 =>
 og (aggP 6 v20) <|
 obind (binP false .add (pd ls 0) (eI 1)) fun v23 =>
 obind (r_forms_each_h_forms_gather_int_1 [(D.agg [(celD v20 0), (celD v20 1), (celD v20 2), (celD v20 3), (celD v20 4), (celD v20 5)]), v23, (D.sl 1 (esD (pd ls 4)))]) fun h2 =>
 obind (unP .not (pd h2 0)) fun v26 =>
 oif v26 (
 inrX (
 inrX (
 some [(eB false), (D.sl 1 (esD (pd h2 1)))]
)
)
) (
 obind (binP false .add (pd ls 3) (eI 1)) fun v27 =>
 some (.inl [(pd ls 0), (pd ls 1), (pd ls 2), v27, (D.sl 1 (esD (pd h2 1)))])
)
) (
 inrX (
 some (.inl [(D.sl 1 (esD (pd ls 4)))])
)
)

def forms_each_h_forms_gather_int_1 (r_forms_each_h_forms_gather_int_1 : List D → Option (List D)) (n : Nat) (ls : List D) : Option (List D) :=
 og (aggP 6 (pd ls 0)) <|
 obind (forms_gather_int_1_h n [(D.agg [(celD (pd ls 0) 0), (celD (pd ls 0) 1), (celD (pd ls 0) 2), (celD (pd ls 0) 3), (celD (pd ls 0) 4), (celD (pd ls 0) 5)]), (pd ls 1), (D.sl 1 (esD (pd ls 2)))]) fun h1 =>
 obind (unP .not (pd h1 0)) fun v13 =>
 oif v13 (
 some [(eB false), (D.sl 1 (esD (pd h1 1)))]
) (
 obind (lenP (celD (pd ls 0) 5)) fun v16 =>
 obind (
 iterL (forms_each_h_forms_gather_int_1_l4 r_forms_each_h_forms_gather_int_1 n) n [(pd ls 1), (celD (pd ls 0) 5), v16, (eI 0), (D.sl 1 (esD (pd h1 1)))]
) <| jnX fun ls =>
 some [(eB true), (D.sl 1 (esD (pd ls 0)))]
)

def forms_each_h_forms_gather_int_1L : Nat → List D → Option (List D)
  | 0, _ => none
  | n + 1, ls => forms_each_h_forms_gather_int_1 (forms_each_h_forms_gather_int_1L n) n ls
def forms_gather_int_forms_depths_1 (n : Nat) (a0 : D) : Option D :=
 og (aggP 6 a0) <|
 og (oneP (D.val (.func (.func fid_forms_depths_1) #[] #[]))) <|
 obind (forms_each_h_forms_gather_int_1L n [(D.agg [(celD a0 0), (celD a0 1), (celD a0 2), (celD a0 3), (celD a0 4), (celD a0 5)]), (eI 1), (D.sl 1 [])]) fun h1 =>
 some (D.sl 1 (esD (pd h1 1)))

def forms_gather_int_forms_depths_1L (n : Nat) : List D → Option D
  | [a0, a1] => og (isFc fid_forms_depths_1 a1) (forms_gather_int_forms_depths_1 n a0)
  | _ => none
def forms_depths (n : Nat) (a0 : D) : Option D :=
 og (aggP 6 a0) <|
 obind (forms_CheckL n [(D.agg [(celD a0 0), (celD a0 1), (celD a0 2), (celD a0 3), (celD a0 4), (celD a0 5)])]) fun v4 =>
 obind (binP false .neq v4 (eI 0)) fun v5 =>
 oif v5 (
 some (D.val (.slice none 0 0))
) (
 obind (forms_gather_int_forms_depths_1L n [(D.agg [(celD a0 0), (celD a0 1), (celD a0 2), (celD a0 3), (celD a0 4), (celD a0 5)]), (D.val (.func (.func fid_forms_depths_1) #[] #[]))]) fun v7 =>
 some v7
)

def forms_depthsL (n : Nat) : List D → Option D
  | [a0] => forms_depths n a0
  | _ => none
def forms_Size (n : Nat) (a0 : D) : Option D :=
 og (aggP 6 a0) <|
 obind (forms_depthsL n [(D.agg [(celD a0 0), (celD a0 1), (celD a0 2), (celD a0 3), (celD a0 4), (celD a0 5)])]) fun v4 =>
 obind (lenP v4) fun v5 =>
 some v5

def forms_SizeL (n : Nat) : List D → Option D
  | [a0] => forms_Size n a0
  | _ => none
def forms_gather_int_h_forms_depths_1 (n : Nat) (ls : List D) : Option (List D) :=
 og (aggP 6 (pd ls 0)) <|
 og (oneP (D.val (.func (.func fid_forms_depths_1) #[] #[]))) <|
 obind (forms_each_h_forms_gather_int_1L n [(D.agg [(celD (pd ls 0) 0), (celD (pd ls 0) 1), (celD (pd ls 0) 2), (celD (pd ls 0) 3), (celD (pd ls 0) 4), (celD (pd ls 0) 5)]), (eI 1), (D.sl 1 [])]) fun h1 =>
 some [(D.sl 1 (esD (pd h1 1)))]

def forms_depths_h (n : Nat) (ls : List D) : Option (List D) :=
 og (aggP 6 (pd ls 0)) <|
 obind (forms_CheckL n [(D.agg [(celD (pd ls 0) 0), (celD (pd ls 0) 1), (celD (pd ls 0) 2), (celD (pd ls 0) 3), (celD (pd ls 0) 4), (celD (pd ls 0) 5)])]) fun v4 =>
 obind (binP false .neq v4 (eI 0)) fun v5 =>
 oif v5 (
 some [(D.sl 1 [])]
) (
 obind (forms_gather_int_h_forms_depths_1 n [(D.agg [(celD (pd ls 0) 0), (celD (pd ls 0) 1), (celD (pd ls 0) 2), (celD (pd ls 0) 3), (celD (pd ls 0) 4), (celD (pd ls 0) 5)])]) fun h2 =>
 some [(D.sl 1 (esD (pd h2 0)))]
)

def forms_Deep (n : Nat) (a0 : D) : Option D :=
 og (aggP 6 a0) <|
 obind (forms_depths_h n [(D.agg [(celD a0 0), (celD a0 1), (celD a0 2), (celD a0 3), (celD a0 4), (celD a0 5)])]) fun h1 =>
 og (roomP (((esD (pd h1 0))).length + ([[(eI 0)]]).length) 8) <|
 obind (slices_Max_Lint_intL n [(D.sl 1 ((esD (pd h1 0)) ++ [[(eI 0)]]))]) fun v7 =>
 og v7.flat <|
 some v7

def forms_DeepL (n : Nat) : List D → Option D
  | [a0] => forms_Deep n a0
  | _ => none
def forms_each_forms_Plain_1_l4 (r_forms_each_forms_Plain_1 : List D → Option D) (n : Nat) (ls : List D) : Option (List D ⊕ (List D ⊕ D)) :=
 obind (binP false .lss (pd ls 3) (pd ls 2)) fun v18 =>
 oif v18 (
 obind (ixP 6 (pd ls 1) (pd ls 3)) fun c19 =>
 obind (atP true 6 0 c19) fun v20 =>
 og (aggP 6 v20) <|
 obind (binP false .add (pd ls 0) (eI 1)) fun v23 =>
 obind (r_forms_each_forms_Plain_1 [(D.agg [(celD v20 0), (celD v20 1), (celD v20 2), (celD v20 3), (celD v20 4), (celD v20 5)]), v23, (D.val (.func (.func fid_forms_Plain_1) #[] #[]))]) fun v25 =>
 obind (unP .not v25) fun v26 =>
 oif v26 (
 inrX (
 inrX (
 some (eB false)
)
)
) (
 obind (binP false .add (pd ls 3) (eI 1)) fun v27 =>
 some (.inl [(pd ls 0), (pd ls 1), (pd ls 2), v27])
)
) (
 inrX (
 some (.inl [])
)
)

def forms_each_forms_Plain_1 (r_forms_each_forms_Plain_1 : List D → Option D) (n : Nat) (a0 : D) (a1 : D) : Option D :=
 og (aggP 6 a0) <|
 obind (forms_Plain_1L n [(D.agg [(celD a0 0), (celD a0 1), (celD a0 2), (celD a0 3), (celD a0 4), (celD a0 5)]), a1]) fun v12 =>
 obind (unP .not v12) fun v13 =>
 oif v13 (
 some (eB false)
) (
 obind (lenP (celD a0 5)) fun v16 =>
 obind (
 iterL (forms_each_forms_Plain_1_l4 r_forms_each_forms_Plain_1 n) n [a1, (celD a0 5), v16, (eI 0)]
) <| jnX fun ls =>
 some (eB true)
)

def forms_each_forms_Plain_1L : Nat → List D → Option D
  | 0, _ => none
  | n + 1, ds => match ds with
    | [a0, a1, a2] => og (isFc fid_forms_Plain_1 a2) (forms_each_forms_Plain_1 (forms_each_forms_Plain_1L n) n a0 a1)
    | _ => none
def forms_Plain (n : Nat) (a0 : D) : Option D :=
 og (aggP 6 a0) <|
 obind (forms_each_forms_Plain_1L n [(D.agg [(celD a0 0), (celD a0 1), (celD a0 2), (celD a0 3), (celD a0 4), (celD a0 5)]), (eI 1), (D.val (.func (.func fid_forms_Plain_1) #[] #[]))]) fun v4 =>
 some v4

def forms_PlainL (n : Nat) : List D → Option D
  | [a0] => forms_Plain n a0
  | _ => none
def law32_lives (n : Nat) : Option D :=
 obind (law32_nameL n [(eS ⟨#[112]⟩)]) fun v5 =>
 og (aggP 6 v5) <|
 og (aggP 6 (D.agg [(celD v5 0), (celD v5 1), (celD v5 2), (celD v5 3), (celD v5 4), (celD v5 5)])) <|
 obind (forms_PushL n [(D.agg [(eI 12), (eI 0), (eI 0), (eS ⟨#[]⟩), (D.val (.slice none 0 0)), (D.sl 6 [[(celD v5 0), (celD v5 1), (celD v5 2), (celD v5 3), (celD v5 4), (celD v5 5)]])]), (eB true)]) fun v9 =>
 og (aggP 6 v9) <|
 obind (law32_nameL n [(eS ⟨#[113]⟩)]) fun v11 =>
 og (aggP 6 (D.agg [(celD v5 0), (celD v5 1), (celD v5 2), (celD v5 3), (celD v5 4), (celD v5 5)])) <|
 og (aggP 6 v11) <|
 og (aggP 6 (D.agg [(eI 9), (eI 0), (eI 0), (eS ⟨#[]⟩), (D.val (.slice none 0 0)), (D.sl 6 [[(celD v5 0), (celD v5 1), (celD v5 2), (celD v5 3), (celD v5 4), (celD v5 5)], [(celD v11 0), (celD v11 1), (celD v11 2), (celD v11 3), (celD v11 4), (celD v11 5)]])])) <|
 obind (binP false .neq (celD v9 0) (eI 7)) fun v19 =>
 obind (gD v19 false (
 obind (lenP (celD v9 5)) fun v23 =>
 obind (binP false .neq v23 (eI 1)) fun v24 =>
 some v24
)) fun v24 =>
 obind (pickP v19 (eB true) v24) fun v25 =>
 obind (gD v25 false (
 obind (ixP 6 (celD v9 5) (eI 0)) fun c29 =>
 obind (atP false 1 1 c29) fun v32 =>
 obind (binP false .neq v32 (eI 5)) fun v33 =>
 some v33
)) fun v33 =>
 obind (pickP v25 (eB true) v33) fun v34 =>
 obind (gD v34 false (
 obind (forms_PushL n [(D.agg [(eI 2), (eI 0), (eI 0), (eS ⟨#[]⟩), (D.val (.slice none 0 0)), (D.sl 6 [[(eI 9), (eI 0), (eI 0), (eS ⟨#[]⟩), (D.val (.slice none 0 0)), (D.sl 6 [[(celD v5 0), (celD v5 1), (celD v5 2), (celD v5 3), (celD v5 4), (celD v5 5)], [(celD v11 0), (celD v11 1), (celD v11 2), (celD v11 3), (celD v11 4), (celD v11 5)]])]])]), (eB false)]) fun v37 =>
 obind (forms_SameL n [v37, (D.agg [(eI 2), (eI 0), (eI 0), (eS ⟨#[]⟩), (D.val (.slice none 0 0)), (D.sl 6 [[(eI 9), (eI 0), (eI 0), (eS ⟨#[]⟩), (D.val (.slice none 0 0)), (D.sl 6 [[(celD v5 0), (celD v5 1), (celD v5 2), (celD v5 3), (celD v5 4), (celD v5 5)], [(celD v11 0), (celD v11 1), (celD v11 2), (celD v11 3), (celD v11 4), (celD v11 5)]])]])])]) fun v39 =>
 obind (unP .not v39) fun v40 =>
 some v40
)) fun v40 =>
 obind (pickP v34 (eB true) v40) fun v41 =>
 oif v41 (
 some (eB false)
) (
 og (aggP 6 (D.agg [(celD v5 0), (celD v5 1), (celD v5 2), (celD v5 3), (celD v5 4), (celD v5 5)])) <|
 og (aggP 6 (D.agg [(celD v5 0), (celD v5 1), (celD v5 2), (celD v5 3), (celD v5 4), (celD v5 5)])) <|
 obind (forms_PartsL n [(D.agg [(eI 3), (eI 0), (eI 0), (eS ⟨#[]⟩), (D.val (.slice none 0 0)), (D.sl 6 [[(celD v5 0), (celD v5 1), (celD v5 2), (celD v5 3), (celD v5 4), (celD v5 5)], [(celD v5 0), (celD v5 1), (celD v5 2), (celD v5 3), (celD v5 4), (celD v5 5)]])])]) fun v46 =>
 obind (lenP v46) fun v47 =>
 obind (binP false .eql v47 (eI 2)) fun v48 =>
 obind (gD v48 true (
 obind (forms_CheckL n [(D.agg [(eI 9), (eI 0), (eI 0), (eS ⟨#[]⟩), (D.val (.slice none 0 0)), (D.sl 6 [[(celD v5 0), (celD v5 1), (celD v5 2), (celD v5 3), (celD v5 4), (celD v5 5)], [(celD v11 0), (celD v11 1), (celD v11 2), (celD v11 3), (celD v11 4), (celD v11 5)]])])]) fun v51 =>
 obind (binP false .eql v51 (eI 0)) fun v52 =>
 some v52
)) fun v52 =>
 obind (pickP v48 v52 (eB false)) fun v53 =>
 obind (gD v53 true (
 obind (forms_SizeL n [(D.agg [(eI 2), (eI 0), (eI 0), (eS ⟨#[]⟩), (D.val (.slice none 0 0)), (D.sl 6 [[(eI 9), (eI 0), (eI 0), (eS ⟨#[]⟩), (D.val (.slice none 0 0)), (D.sl 6 [[(celD v5 0), (celD v5 1), (celD v5 2), (celD v5 3), (celD v5 4), (celD v5 5)], [(celD v11 0), (celD v11 1), (celD v11 2), (celD v11 3), (celD v11 4), (celD v11 5)]])]])])]) fun v56 =>
 obind (binP false .eql v56 (eI 4)) fun v57 =>
 some v57
)) fun v57 =>
 obind (pickP v53 v57 (eB false)) fun v58 =>
 obind (gD v58 true (
 obind (forms_DeepL n [(D.agg [(eI 2), (eI 0), (eI 0), (eS ⟨#[]⟩), (D.val (.slice none 0 0)), (D.sl 6 [[(eI 9), (eI 0), (eI 0), (eS ⟨#[]⟩), (D.val (.slice none 0 0)), (D.sl 6 [[(celD v5 0), (celD v5 1), (celD v5 2), (celD v5 3), (celD v5 4), (celD v5 5)], [(celD v11 0), (celD v11 1), (celD v11 2), (celD v11 3), (celD v11 4), (celD v11 5)]])]])])]) fun v61 =>
 obind (binP false .eql v61 (eI 3)) fun v62 =>
 some v62
)) fun v62 =>
 obind (pickP v58 v62 (eB false)) fun v63 =>
 obind (gD v63 true (
 obind (forms_PlainL n [(D.agg [(celD v5 0), (celD v5 1), (celD v5 2), (celD v5 3), (celD v5 4), (celD v5 5)])]) fun v66 =>
 some v66
)) fun v66 =>
 obind (pickP v63 v66 (eB false)) fun v67 =>
 obind (gD v67 true (
 obind (forms_PlainL n [(D.agg [(eI 2), (eI 0), (eI 0), (eS ⟨#[]⟩), (D.val (.slice none 0 0)), (D.sl 6 [[(eI 9), (eI 0), (eI 0), (eS ⟨#[]⟩), (D.val (.slice none 0 0)), (D.sl 6 [[(celD v5 0), (celD v5 1), (celD v5 2), (celD v5 3), (celD v5 4), (celD v5 5)], [(celD v11 0), (celD v11 1), (celD v11 2), (celD v11 3), (celD v11 4), (celD v11 5)]])]])])]) fun v70 =>
 obind (unP .not v70) fun v71 =>
 some v71
)) fun v71 =>
 obind (pickP v67 v71 (eB false)) fun v72 =>
 some v72
)

def law32_livesL (n : Nat) : List D → Option D
  | [] => law32_lives n
  | _ => none
def forms_each_h_forms_gather_string_1_l4 (r_forms_each_h_forms_gather_string_1 : List D → Option (List D)) (n : Nat) (ls : List D) : Option (List D ⊕ (List D ⊕ (List D))) :=
 obind (binP false .lss (pd ls 3) (pd ls 2)) fun v18 =>
 oif v18 (
 obind (ixP 6 (pd ls 1) (pd ls 3)) fun c19 =>
 obind (atP true 6 0 c19) fun v20 =>
 og (aggP 6 v20) <|
 obind (binP false .add (pd ls 0) (eI 1)) fun v23 =>
 obind (r_forms_each_h_forms_gather_string_1 [(D.agg [(celD v20 0), (celD v20 1), (celD v20 2), (celD v20 3), (celD v20 4), (celD v20 5)]), v23, (D.sl 1 (esD (pd ls 4)))]) fun h2 =>
 obind (unP .not (pd h2 0)) fun v26 =>
 oif v26 (
 inrX (
 inrX (
 some [(eB false), (D.sl 1 (esD (pd h2 1)))]
)
)
) (
 obind (binP false .add (pd ls 3) (eI 1)) fun v27 =>
 some (.inl [(pd ls 0), (pd ls 1), (pd ls 2), v27, (D.sl 1 (esD (pd h2 1)))])
)
) (
 inrX (
 some (.inl [(D.sl 1 (esD (pd ls 4)))])
)
)

def forms_each_h_forms_gather_string_1 (r_forms_each_h_forms_gather_string_1 : List D → Option (List D)) (n : Nat) (ls : List D) : Option (List D) :=
 og (aggP 6 (pd ls 0)) <|
 obind (forms_gather_string_1_h n [(D.agg [(celD (pd ls 0) 0), (celD (pd ls 0) 1), (celD (pd ls 0) 2), (celD (pd ls 0) 3), (celD (pd ls 0) 4), (celD (pd ls 0) 5)]), (pd ls 1), (D.sl 1 (esD (pd ls 2)))]) fun h1 =>
 obind (unP .not (pd h1 0)) fun v13 =>
 oif v13 (
 some [(eB false), (D.sl 1 (esD (pd h1 1)))]
) (
 obind (lenP (celD (pd ls 0) 5)) fun v16 =>
 obind (
 iterL (forms_each_h_forms_gather_string_1_l4 r_forms_each_h_forms_gather_string_1 n) n [(pd ls 1), (celD (pd ls 0) 5), v16, (eI 0), (D.sl 1 (esD (pd h1 1)))]
) <| jnX fun ls =>
 some [(eB true), (D.sl 1 (esD (pd ls 0)))]
)

def forms_each_h_forms_gather_string_1L : Nat → List D → Option (List D)
  | 0, _ => none
  | n + 1, ls => forms_each_h_forms_gather_string_1 (forms_each_h_forms_gather_string_1L n) n ls
def forms_gather_string_h_forms_Names_1 (n : Nat) (ls : List D) : Option (List D) :=
 og (aggP 6 (pd ls 0)) <|
 og (oneP (D.val (.func (.func fid_forms_Names_1) #[] #[]))) <|
 obind (forms_each_h_forms_gather_string_1L n [(D.agg [(celD (pd ls 0) 0), (celD (pd ls 0) 1), (celD (pd ls 0) 2), (celD (pd ls 0) 3), (celD (pd ls 0) 4), (celD (pd ls 0) 5)]), (eI 1), (D.sl 1 [])]) fun h1 =>
 some [(D.sl 1 (esD (pd h1 1)))]

def math_bits_Len64 (n : Nat) (a0 : D) : Option D :=
 obind (binP false .geq a0 (D.val (.int .u64 4294967296))) fun v4 =>
 obind (
 oif v4 (
 obind (binP false .shr a0 (D.val (.int .u64 32))) fun v6 =>
 some (.inl [v6, (eI 32)])
) (
 some (.inl [a0, (eI 0)])
)
) <| jnX fun ls =>
 obind (binP false .geq (pd ls 0) (D.val (.int .u64 65536))) fun v8 =>
 obind (
 oif v8 (
 obind (binP false .shr (pd ls 0) (D.val (.int .u64 16))) fun v10 =>
 obind (binP false .add (pd ls 1) (eI 16)) fun v12 =>
 some (.inl [v10, v12])
) (
 some (.inl [(pd ls 0), (pd ls 1)])
)
) <| jnX fun ls =>
 obind (binP false .geq (pd ls 0) (D.val (.int .u64 256))) fun v14 =>
 obind (
 oif v14 (
 obind (binP false .shr (pd ls 0) (D.val (.int .u64 8))) fun v16 =>
 obind (binP false .add (pd ls 1) (eI 8)) fun v18 =>
 some (.inl [v16, v18])
) (
 some (.inl [(pd ls 0), (pd ls 1)])
)
) <| jnX fun ls =>
 obind (cvP .u8 (pd ls 0)) fun v21 =>
 obind (sixP (eS ⟨#[0, 1, 2, 2, 3, 3, 3, 3, 4, 4, 4, 4, 4, 4, 4, 4, 5, 5, 5, 5, 5, 5, 5, 5, 5, 5, 5, 5, 5, 5, 5, 5, 6, 6, 6, 6, 6, 6, 6, 6, 6, 6, 6, 6, 6, 6, 6, 6, 6, 6, 6, 6, 6, 6, 6, 6, 6, 6, 6, 6, 6, 6, 6, 6, 7, 7, 7, 7, 7, 7, 7, 7, 7, 7, 7, 7, 7, 7, 7, 7, 7, 7, 7, 7, 7, 7, 7, 7, 7, 7, 7, 7, 7, 7, 7, 7, 7, 7, 7, 7, 7, 7, 7, 7, 7, 7, 7, 7, 7, 7, 7, 7, 7, 7, 7, 7, 7, 7, 7, 7, 7, 7, 7, 7, 7, 7, 7, 7, 8, 8, 8, 8, 8, 8, 8, 8, 8, 8, 8, 8, 8, 8, 8, 8, 8, 8, 8, 8, 8, 8, 8, 8, 8, 8, 8, 8, 8, 8, 8, 8, 8, 8, 8, 8, 8, 8, 8, 8, 8, 8, 8, 8, 8, 8, 8, 8, 8, 8, 8, 8, 8, 8, 8, 8, 8, 8, 8, 8, 8, 8, 8, 8, 8, 8, 8, 8, 8, 8, 8, 8, 8, 8, 8, 8, 8, 8, 8, 8, 8, 8, 8, 8, 8, 8, 8, 8, 8, 8, 8, 8, 8, 8, 8, 8, 8, 8, 8, 8, 8, 8, 8, 8, 8, 8, 8, 8, 8, 8, 8, 8, 8, 8, 8, 8, 8, 8, 8, 8, 8, 8, 8, 8, 8, 8, 8, 8]⟩) v21) fun v22 =>
 obind (cvP .i64 v22) fun v23 =>
 obind (binP false .add (pd ls 1) v23) fun v24 =>
 some v24

def math_bits_Len64L (n : Nat) : List D → Option D
  | [a0] => math_bits_Len64 n a0
  | _ => none
def math_bits_Len (n : Nat) (a0 : D) : Option D :=
 obind (math_bits_Len64L n [a0]) fun v7 =>
 some v7

def math_bits_LenL (n : Nat) : List D → Option D
  | [a0] => math_bits_Len n a0
  | _ => none
def cmp_isNaN_string (n : Nat) (a0 : D) : Option D :=
 obind (binP false .neq a0 a0) fun v5 =>
 some v5

def cmp_isNaN_stringL (n : Nat) : List D → Option D
  | [a0] => cmp_isNaN_string n a0
  | _ => none
def cmp_Less_string (n : Nat) (a0 : D) (a1 : D) : Option D :=
 obind (cmp_isNaN_stringL n [a0]) fun v6 =>
 obind (gD v6 true (
 obind (cmp_isNaN_stringL n [a1]) fun v9 =>
 obind (unP .not v9) fun v10 =>
 some v10
)) fun v10 =>
 obind (pickP v6 v10 (eB false)) fun v11 =>
 obind (gD v11 false (
 obind (binP false .lss a0 a1) fun v15 =>
 some v15
)) fun v15 =>
 obind (pickP v11 (eB true) v15) fun v16 =>
 some v16

def cmp_Less_stringL (n : Nat) : List D → Option D
  | [a0, a1] => cmp_Less_string n a0 a1
  | _ => none
def slices_insertionSortOrdered_string_h_l4 (n : Nat) (ls : List D) : Option (List D ⊕ (List D ⊕ (List D ⊕ (List D ⊕ (List D ⊕ (List D)))))) :=
 obind (binP false .gtr (pd ls 3) (pd ls 0)) fun v18 =>
 obind (gD v18 true (
 obind (numP ((esD (pd ls 4))).length (pd ls 3)) fun j22 =>
 obind (((esD (pd ls 4)))[j22]?) fun e23 =>
 obind (atP false 1 0 e23) fun v23 =>
 obind (binP false .sub (pd ls 3) (eI 1)) fun v26 =>
 obind (numP ((esD (pd ls 4))).length v26) fun j27 =>
 obind (((esD (pd ls 4)))[j27]?) fun e28 =>
 obind (atP false 1 0 e28) fun v28 =>
 obind (cmp_Less_stringL n [v23, v28]) fun v29 =>
 some v29
)) fun v29 =>
 obind (pickP v18 v29 (eB false)) fun v30 =>
 oif v30 (
 obind (binP false .sub (pd ls 3) (eI 1)) fun v40 =>
 obind (numP ((esD (pd ls 4))).length v40) fun j41 =>
 obind (((esD (pd ls 4)))[j41]?) fun e42 =>
 obind (atP false 1 0 e42) fun v42 =>
 obind (numP ((esD (pd ls 4))).length (pd ls 3)) fun j45 =>
 obind (((esD (pd ls 4)))[j45]?) fun e46 =>
 obind (atP false 1 0 e46) fun v46 =>
 obind (numP ((esD (pd ls 4))).length (pd ls 3)) fun j47 =>
 obind (binP false .sub (pd ls 3) (eI 1)) fun v37 =>
 og (oneP v42) <|
 obind (((esD (pd ls 4)))[j47]?) fun w1 =>
 obind (numP ((((esD (pd ls 4))).set j47 (setSegD w1 0 [v42]))).length v37) fun j48 =>
 og (oneP v46) <|
 obind (((((esD (pd ls 4))).set j47 (setSegD w1 0 [v42])))[j48]?) fun w2 =>
 obind (binP false .sub (pd ls 3) (eI 1)) fun v32 =>
 some (.inl [(pd ls 0), (pd ls 1), (pd ls 2), v32, (D.sl 1 (((((esD (pd ls 4))).set j47 (setSegD w1 0 [v42]))).set j48 (setSegD w2 0 [v46])))])
) (
 inrX (
 some (.inl [(pd ls 0), (pd ls 1), (pd ls 2), (D.sl 1 (esD (pd ls 4)))])
)
)

def slices_insertionSortOrdered_string_h_l1 (n : Nat) (ls : List D) : Option (List D ⊕ (List D ⊕ (List D))) :=
 obind (binP false .lss (pd ls 2) (pd ls 1)) fun v12 =>
 oif v12 (
 obind (
 obind (
 iterL (slices_insertionSortOrdered_string_h_l4 n) n [(pd ls 0), (pd ls 1), (pd ls 2), (pd ls 2), (D.sl 1 (esD (pd ls 3)))]
) <| jnX fun ls =>
 some (.inl [(pd ls 0), (pd ls 1), (pd ls 2), (D.sl 1 (esD (pd ls 3)))])
) <| jnX fun ls =>
 obind (binP false .add (pd ls 2) (eI 1)) fun v14 =>
 some (.inl [(pd ls 0), (pd ls 1), v14, (D.sl 1 (esD (pd ls 3)))])
) (
 inrX (
 some (.inl [(D.sl 1 (esD (pd ls 3)))])
)
)

def slices_insertionSortOrdered_string_h (n : Nat) (ls : List D) : Option (List D) :=
 obind (binP false .add (pd ls 0) (eI 1)) fun v9 =>
 obind (
 iterL (slices_insertionSortOrdered_string_h_l1 n) n [(pd ls 0), (pd ls 1), v9, (D.sl 1 (esD (pd ls 2)))]
) <| jnX fun ls =>
 some [(D.tup []), (D.sl 1 (esD (pd ls 0)))]

def slices_siftDownOrdered_string_h_l1 (n : Nat) (ls : List D) : Option (List D ⊕ (List D ⊕ (List D))) :=
 obind (binP false .mul (eI 2) (pd ls 2)) fun v12 =>
 obind (binP false .add v12 (eI 1)) fun v13 =>
 obind (binP false .geq v13 (pd ls 0)) fun v16 =>
 oif v16 (
 inrX (
 some (.inl [(D.sl 1 (esD (pd ls 3)))])
)
) (
 obind (binP false .add v13 (eI 1)) fun v18 =>
 obind (binP false .lss v18 (pd ls 0)) fun v20 =>
 obind (gD v20 true (
 obind (binP false .add (pd ls 1) v13) fun v25 =>
 obind (numP ((esD (pd ls 3))).length v25) fun j26 =>
 obind (((esD (pd ls 3)))[j26]?) fun e27 =>
 obind (atP false 1 0 e27) fun v27 =>
 obind (binP false .add (pd ls 1) v13) fun v31 =>
 obind (binP false .add v31 (eI 1)) fun v32 =>
 obind (numP ((esD (pd ls 3))).length v32) fun j33 =>
 obind (((esD (pd ls 3)))[j33]?) fun e34 =>
 obind (atP false 1 0 e34) fun v34 =>
 obind (cmp_Less_stringL n [v27, v34]) fun v35 =>
 some v35
)) fun v35 =>
 obind (pickP v20 v35 (eB false)) fun v36 =>
 obind (
 oif v36 (
 obind (binP false .add v13 (eI 1)) fun v38 =>
 some (.inl [(pd ls 0), (pd ls 1), (pd ls 2), v38, (D.sl 1 (esD (pd ls 3)))])
) (
 some (.inl [(pd ls 0), (pd ls 1), (pd ls 2), v13, (D.sl 1 (esD (pd ls 3)))])
)
) <| jnX fun ls =>
 obind (binP false .add (pd ls 1) (pd ls 2)) fun v42 =>
 obind (numP ((esD (pd ls 4))).length v42) fun j43 =>
 obind (((esD (pd ls 4)))[j43]?) fun e44 =>
 obind (atP false 1 0 e44) fun v44 =>
 obind (binP false .add (pd ls 1) (pd ls 3)) fun v48 =>
 obind (numP ((esD (pd ls 4))).length v48) fun j49 =>
 obind (((esD (pd ls 4)))[j49]?) fun e50 =>
 obind (atP false 1 0 e50) fun v50 =>
 obind (cmp_Less_stringL n [v44, v50]) fun v51 =>
 obind (unP .not v51) fun v52 =>
 oif v52 (
 inrX (
 inrX (
 some [(D.tup []), (D.sl 1 (esD (pd ls 4)))]
)
)
) (
 obind (binP false .add (pd ls 1) (pd ls 2)) fun v56 =>
 obind (binP false .add (pd ls 1) (pd ls 3)) fun v64 =>
 obind (numP ((esD (pd ls 4))).length v64) fun j65 =>
 obind (((esD (pd ls 4)))[j65]?) fun e66 =>
 obind (atP false 1 0 e66) fun v66 =>
 obind (binP false .add (pd ls 1) (pd ls 2)) fun v70 =>
 obind (numP ((esD (pd ls 4))).length v70) fun j71 =>
 obind (((esD (pd ls 4)))[j71]?) fun e72 =>
 obind (atP false 1 0 e72) fun v72 =>
 obind (numP ((esD (pd ls 4))).length v56) fun j73 =>
 obind (binP false .add (pd ls 1) (pd ls 3)) fun v60 =>
 og (oneP v66) <|
 obind (((esD (pd ls 4)))[j73]?) fun w1 =>
 obind (numP ((((esD (pd ls 4))).set j73 (setSegD w1 0 [v66]))).length v60) fun j74 =>
 og (oneP v72) <|
 obind (((((esD (pd ls 4))).set j73 (setSegD w1 0 [v66])))[j74]?) fun w2 =>
 some (.inl [(pd ls 0), (pd ls 1), (pd ls 3), (D.sl 1 (((((esD (pd ls 4))).set j73 (setSegD w1 0 [v66]))).set j74 (setSegD w2 0 [v72])))])
)
)

def slices_siftDownOrdered_string_h (n : Nat) (ls : List D) : Option (List D) :=
 obind (
 iterL (slices_siftDownOrdered_string_h_l1 n) n [(pd ls 1), (pd ls 2), (pd ls 0), (D.sl 1 (esD (pd ls 3)))]
) <| jnX fun ls =>
 some [(D.tup []), (D.sl 1 (esD (pd ls 0)))]

def slices_heapSortOrdered_string_h_l4 (n : Nat) (ls : List D) : Option (List D ⊕ (List D ⊕ (List D))) :=
 obind (binP false .geq (pd ls 3) (eI 0)) fun v19 =>
 oif v19 (
 obind (slices_siftDownOrdered_string_h n [(pd ls 3), (pd ls 2), (pd ls 0), (D.sl 1 (esD (pd ls 4)))]) fun h1 =>
 obind (binP false .sub (pd ls 3) (eI 1)) fun v21 =>
 some (.inl [(pd ls 0), (pd ls 1), (pd ls 2), v21, (D.sl 1 (esD (pd h1 1)))])
) (
 inrX (
 some (.inl [(pd ls 0), (pd ls 1), (pd ls 2), (D.sl 1 (esD (pd ls 4)))])
)
)

def slices_heapSortOrdered_string_h_l8 (n : Nat) (ls : List D) : Option (List D ⊕ (List D ⊕ (List D))) :=
 obind (binP false .geq (pd ls 2) (eI 0)) fun v30 =>
 oif v30 (
 obind (binP false .add (pd ls 0) (pd ls 2)) fun v42 =>
 obind (numP ((esD (pd ls 3))).length v42) fun j43 =>
 obind (((esD (pd ls 3)))[j43]?) fun e44 =>
 obind (atP false 1 0 e44) fun v44 =>
 obind (numP ((esD (pd ls 3))).length (pd ls 0)) fun j47 =>
 obind (((esD (pd ls 3)))[j47]?) fun e48 =>
 obind (atP false 1 0 e48) fun v48 =>
 obind (numP ((esD (pd ls 3))).length (pd ls 0)) fun j49 =>
 obind (binP false .add (pd ls 0) (pd ls 2)) fun v38 =>
 og (oneP v44) <|
 obind (((esD (pd ls 3)))[j49]?) fun w2 =>
 obind (numP ((((esD (pd ls 3))).set j49 (setSegD w2 0 [v44]))).length v38) fun j50 =>
 og (oneP v48) <|
 obind (((((esD (pd ls 3))).set j49 (setSegD w2 0 [v44])))[j50]?) fun w3 =>
 obind (slices_siftDownOrdered_string_h n [(pd ls 1), (pd ls 2), (pd ls 0), (D.sl 1 (((((esD (pd ls 3))).set j49 (setSegD w2 0 [v44]))).set j50 (setSegD w3 0 [v48])))]) fun h4 =>
 obind (binP false .sub (pd ls 2) (eI 1)) fun v32 =>
 some (.inl [(pd ls 0), (pd ls 1), v32, (D.sl 1 (esD (pd h4 1)))])
) (
 inrX (
 some (.inl [(D.sl 1 (esD (pd ls 3)))])
)
)

def slices_heapSortOrdered_string_h (n : Nat) (ls : List D) : Option (List D) :=
 obind (binP false .sub (pd ls 1) (pd ls 0)) fun v14 =>
 obind (binP false .sub v14 (eI 1)) fun v16 =>
 obind (binP false .quo v16 (eI 2)) fun v17 =>
 obind (
 iterL (slices_heapSortOrdered_string_h_l4 n) n [(pd ls 0), (eI 0), v14, v17, (D.sl 1 (esD (pd ls 2)))]
) <| jnX fun ls =>
 obind (binP false .sub (pd ls 2) (eI 1)) fun v28 =>
 obind (
 iterL (slices_heapSortOrdered_string_h_l8 n) n [(pd ls 0), (pd ls 1), v28, (D.sl 1 (esD (pd ls 3)))]
) <| jnX fun ls =>
 some [(D.tup []), (D.sl 1 (esD (pd ls 0)))]

def slices_nextPowerOfTwo (n : Nat) (a0 : D) : Option D :=
 obind (cvP .u64 a0) fun v4 =>
 obind (math_bits_LenL n [v4]) fun v5 =>
 obind (binP false .shl (D.val (.int .u64 1)) v5) fun v6 =>
 some v6

def slices_nextPowerOfTwoL (n : Nat) : List D → Option D
  | [a0] => slices_nextPowerOfTwo n a0
  | _ => none
def slices_xorshift_Next_h (n : Nat) (ls : List D) : Option (List D) :=
 obind (binP false .shl (pd ls 0) (D.val (.int .u64 13))) fun v9 =>
 obind (binP false .xor (pd ls 0) v9) fun v10 =>
 og (oneP v10) <|
 obind (binP false .shr v10 (D.val (.int .u64 7))) fun v18 =>
 obind (binP false .xor v10 v18) fun v19 =>
 og (oneP v19) <|
 obind (binP false .shl v19 (D.val (.int .u64 17))) fun v27 =>
 obind (binP false .xor v19 v27) fun v28 =>
 og (oneP v28) <|
 some [v28, v28]

def slices_breakPatternsOrdered_string_h_l5 (n : Nat) (ls : List D) : Option (List D ⊕ (List D ⊕ (List D ⊕ (List D)))) :=
 obind (binP false .quo (pd ls 1) (eI 4)) fun v29 =>
 obind (binP false .mul v29 (eI 2)) fun v30 =>
 obind (binP false .add (pd ls 0) v30) fun v31 =>
 obind (binP false .add v31 (eI 1)) fun v32 =>
 obind (binP false .leq (pd ls 3) v32) fun v33 =>
 oif v33 (
 obind (slices_xorshift_Next_h n [(pd ls 5)]) fun h1 =>
 obind (binP false .sub (pd ls 2) (D.val (.int .u64 1))) fun v38 =>
 obind (binP false .and (pd h1 0) v38) fun v39 =>
 obind (cvP .i64 v39) fun v40 =>
 obind (binP false .geq v40 (pd ls 1)) fun v43 =>
 obind (
 oif v43 (
 obind (binP false .sub v40 (pd ls 1)) fun v46 =>
 some (.inl [(pd ls 0), (pd ls 1), (pd ls 2), (pd ls 3), v46, (D.sl 1 (esD (pd ls 4))), (pd h1 1)])
) (
 some (.inl [(pd ls 0), (pd ls 1), (pd ls 2), (pd ls 3), v40, (D.sl 1 (esD (pd ls 4))), (pd h1 1)])
)
) <| jnX fun ls =>
 obind (binP false .add (pd ls 0) (pd ls 4)) fun v56 =>
 obind (numP ((esD (pd ls 5))).length v56) fun j57 =>
 obind (((esD (pd ls 5)))[j57]?) fun e58 =>
 obind (atP false 1 0 e58) fun v58 =>
 obind (numP ((esD (pd ls 5))).length (pd ls 3)) fun j61 =>
 obind (((esD (pd ls 5)))[j61]?) fun e62 =>
 obind (atP false 1 0 e62) fun v62 =>
 obind (numP ((esD (pd ls 5))).length (pd ls 3)) fun j63 =>
 obind (binP false .add (pd ls 0) (pd ls 4)) fun v52 =>
 og (oneP v58) <|
 obind (((esD (pd ls 5)))[j63]?) fun w2 =>
 obind (numP ((((esD (pd ls 5))).set j63 (setSegD w2 0 [v58]))).length v52) fun j64 =>
 og (oneP v62) <|
 obind (((((esD (pd ls 5))).set j63 (setSegD w2 0 [v58])))[j64]?) fun w3 =>
 obind (binP false .add (pd ls 3) (eI 1)) fun v35 =>
 some (.inl [(pd ls 0), (pd ls 1), (pd ls 2), v35, (D.sl 1 (((((esD (pd ls 5))).set j63 (setSegD w2 0 [v58]))).set j64 (setSegD w3 0 [v62]))), (pd ls 6)])
) (
 inrX (
 some (.inl [(D.sl 1 (esD (pd ls 4)))])
)
)

def slices_breakPatternsOrdered_string_h (n : Nat) (ls : List D) : Option (List D) :=
 obind (binP false .sub (pd ls 1) (pd ls 0)) fun v13 =>
 obind (binP false .geq v13 (eI 8)) fun v15 =>
 obind (
 oif v15 (
 obind (cvP .u64 v13) fun v17 =>
 og (oneP v17) <|
 obind (slices_nextPowerOfTwoL n [v13]) fun v19 =>
 obind (binP false .quo v13 (eI 4)) fun v22 =>
 obind (binP false .mul v22 (eI 2)) fun v23 =>
 obind (binP false .add (pd ls 0) v23) fun v24 =>
 obind (binP false .sub v24 (eI 1)) fun v25 =>
 obind (
 iterL (slices_breakPatternsOrdered_string_h_l5 n) n [(pd ls 0), v13, v19, v25, (D.sl 1 (esD (pd ls 2))), v17]
) <| jnX fun ls =>
 some (.inl [(D.sl 1 (esD (pd ls 0)))])
) (
 some (.inl [(D.sl 1 (esD (pd ls 2)))])
)
) <| jnX fun ls =>
 some [(D.tup []), (D.sl 1 (esD (pd ls 0)))]

def slices_order2Ordered_string_h (n : Nat) (ls : List D) : Option (List D) :=
 obind (ixP 1 (pd ls 0) (pd ls 2)) fun c12 =>
 obind (atP false 1 0 c12) fun v13 =>
 obind (ixP 1 (pd ls 0) (pd ls 1)) fun c16 =>
 obind (atP false 1 0 c16) fun v17 =>
 obind (cmp_Less_stringL n [v13, v17]) fun v18 =>
 oif v18 (
 obind (binP false .add (pd ls 3) (eI 1)) fun v22 =>
 og (oneP v22) <|
 some [(D.tup [(pd ls 2), (pd ls 1)]), v22]
) (
 some [(D.tup [(pd ls 1), (pd ls 2)]), (pd ls 3)]
)

def slices_medianOrdered_string_h (n : Nat) (ls : List D) : Option (List D) :=
 obind (slices_order2Ordered_string_h n [(pd ls 0), (pd ls 1), (pd ls 2), (pd ls 4)]) fun h1 =>
 obind (extP 0 (pd h1 0)) fun v17 =>
 obind (extP 1 (pd h1 0)) fun v18 =>
 obind (slices_order2Ordered_string_h n [(pd ls 0), v18, (pd ls 3), (pd h1 1)]) fun h2 =>
 obind (extP 0 (pd h2 0)) fun v25 =>
 obind (extP 1 (pd h2 0)) fun v26 =>
 obind (slices_order2Ordered_string_h n [(pd ls 0), v17, v25, (pd h2 1)]) fun h3 =>
 obind (extP 0 (pd h3 0)) fun v33 =>
 obind (extP 1 (pd h3 0)) fun v34 =>
 some [v34, (pd h3 1)]

def slices_medianAdjacentOrdered_string_h (n : Nat) (ls : List D) : Option (List D) :=
 obind (binP false .sub (pd ls 1) (eI 1)) fun v9 =>
 obind (binP false .add (pd ls 1) (eI 1)) fun v12 =>
 obind (slices_medianOrdered_string_h n [(pd ls 0), v9, (pd ls 1), v12, (pd ls 2)]) fun h1 =>
 some [(pd h1 0), (pd h1 1)]

def slices_choosePivotOrdered_string (n : Nat) (a0 : D) (a1 : D) (a2 : D) : Option D :=
 obind (binP false .sub a2 a1) fun v15 =>
 obind (binP false .quo v15 (eI 4)) fun v18 =>
 obind (binP false .mul v18 (eI 1)) fun v19 =>
 obind (binP false .add a1 v19) fun v20 =>
 obind (binP false .quo v15 (eI 4)) fun v23 =>
 obind (binP false .mul v23 (eI 2)) fun v24 =>
 obind (binP false .add a1 v24) fun v25 =>
 obind (binP false .quo v15 (eI 4)) fun v28 =>
 obind (binP false .mul v28 (eI 3)) fun v29 =>
 obind (binP false .add a1 v29) fun v30 =>
 obind (binP false .geq v15 (eI 8)) fun v32 =>
 obind (
 oif v32 (
 obind (binP false .geq v15 (eI 50)) fun v34 =>
 obind (
 oif v34 (
 obind (slices_medianAdjacentOrdered_string_h n [a0, v20, (eI 0)]) fun h1 =>
 obind (slices_medianAdjacentOrdered_string_h n [a0, v25, (pd h1 1)]) fun h2 =>
 obind (slices_medianAdjacentOrdered_string_h n [a0, v30, (pd h2 1)]) fun h3 =>
 some (.inl [a0, (pd h1 0), (pd h2 0), (pd h3 0), (pd h3 1)])
) (
 some (.inl [a0, v20, v25, v30, (eI 0)])
)
) <| jnX fun ls =>
 obind (slices_medianOrdered_string_h n [(pd ls 0), (pd ls 1), (pd ls 2), (pd ls 3), (pd ls 4)]) fun h4 =>
 some (.inl [(pd h4 0), (pd h4 1)])
) (
 some (.inl [v25, (eI 0)])
)
) <| jnX fun ls =>
 obind (binP false .eql (pd ls 1) (eI 0)) fun v52 =>
 oif v52 (
 some (D.tup [(pd ls 0), (eI 1)])
) (
 obind (binP false .eql (pd ls 1) (eI 12)) fun v55 =>
 oif v55 (
 some (D.tup [(pd ls 0), (eI 2)])
) (
 some (D.tup [(pd ls 0), (eI 0)])
)
)

def slices_choosePivotOrdered_stringL (n : Nat) : List D → Option D
  | [a0, a1, a2] => slices_choosePivotOrdered_string n a0 a1 a2
  | _ => none
def slices_reverseRangeOrdered_string_h_l2 (n : Nat) (ls : List D) : Option (List D ⊕ (List D ⊕ (List D))) :=
 obind (binP false .lss (pd ls 0) (pd ls 1)) fun v13 =>
 oif v13 (
 obind (numP ((esD (pd ls 2))).length (pd ls 1)) fun j20 =>
 obind (((esD (pd ls 2)))[j20]?) fun e21 =>
 obind (atP false 1 0 e21) fun v21 =>
 obind (numP ((esD (pd ls 2))).length (pd ls 0)) fun j24 =>
 obind (((esD (pd ls 2)))[j24]?) fun e25 =>
 obind (atP false 1 0 e25) fun v25 =>
 obind (numP ((esD (pd ls 2))).length (pd ls 0)) fun j26 =>
 og (oneP v21) <|
 obind (((esD (pd ls 2)))[j26]?) fun w1 =>
 obind (numP ((((esD (pd ls 2))).set j26 (setSegD w1 0 [v21]))).length (pd ls 1)) fun j27 =>
 og (oneP v25) <|
 obind (((((esD (pd ls 2))).set j26 (setSegD w1 0 [v21])))[j27]?) fun w2 =>
 obind (binP false .add (pd ls 0) (eI 1)) fun v29 =>
 obind (binP false .sub (pd ls 1) (eI 1)) fun v31 =>
 some (.inl [v29, v31, (D.sl 1 (((((esD (pd ls 2))).set j26 (setSegD w1 0 [v21]))).set j27 (setSegD w2 0 [v25])))])
) (
 inrX (
 some (.inl [(D.sl 1 (esD (pd ls 2)))])
)
)

def slices_reverseRangeOrdered_string_h (n : Nat) (ls : List D) : Option (List D) :=
 obind (binP false .sub (pd ls 1) (eI 1)) fun v10 =>
 obind (
 iterL (slices_reverseRangeOrdered_string_h_l2 n) n [(pd ls 0), v10, (D.sl 1 (esD (pd ls 2)))]
) <| jnX fun ls =>
 some [(D.tup []), (D.sl 1 (esD (pd ls 0)))]

def slices_partialInsertionSortOrdered_string_h_l5 (n : Nat) (ls : List D) : Option (List D ⊕ (List D ⊕ (List D ⊕ (List D ⊕ (List D ⊕ (List D)))))) :=
 obind (binP false .lss (pd ls 2) (pd ls 1)) fun v19 =>
 obind (gD v19 true (
 obind (numP ((esD (pd ls 4))).length (pd ls 2)) fun j23 =>
 obind (((esD (pd ls 4)))[j23]?) fun e24 =>
 obind (atP false 1 0 e24) fun v24 =>
 obind (binP false .sub (pd ls 2) (eI 1)) fun v27 =>
 obind (numP ((esD (pd ls 4))).length v27) fun j28 =>
 obind (((esD (pd ls 4)))[j28]?) fun e29 =>
 obind (atP false 1 0 e29) fun v29 =>
 obind (cmp_Less_stringL n [v24, v29]) fun v30 =>
 obind (unP .not v30) fun v31 =>
 some v31
)) fun v31 =>
 obind (pickP v19 v31 (eB false)) fun v32 =>
 oif v32 (
 obind (binP false .add (pd ls 2) (eI 1)) fun v34 =>
 some (.inl [(pd ls 0), (pd ls 1), v34, (pd ls 3), (D.sl 1 (esD (pd ls 4)))])
) (
 inrX (
 some (.inl [(pd ls 0), (pd ls 1), (pd ls 2), (pd ls 3), (D.sl 1 (esD (pd ls 4)))])
)
)

def slices_partialInsertionSortOrdered_string_h_l14 (n : Nat) (ls : List D) : Option (List D ⊕ (List D ⊕ (List D ⊕ (List D ⊕ (List D ⊕ (List D ⊕ (List D))))))) :=
 obind (binP false .geq (pd ls 4) (eI 1)) fun v65 =>
 oif v65 (
 obind (numP ((esD (pd ls 5))).length (pd ls 4)) fun j70 =>
 obind (((esD (pd ls 5)))[j70]?) fun e71 =>
 obind (atP false 1 0 e71) fun v71 =>
 obind (binP false .sub (pd ls 4) (eI 1)) fun v74 =>
 obind (numP ((esD (pd ls 5))).length v74) fun j75 =>
 obind (((esD (pd ls 5)))[j75]?) fun e76 =>
 obind (atP false 1 0 e76) fun v76 =>
 obind (cmp_Less_stringL n [v71, v76]) fun v77 =>
 obind (unP .not v77) fun v78 =>
 oif v78 (
 inrX (
 some (.inl [(pd ls 0), (pd ls 1), (pd ls 2), (pd ls 3), (D.sl 1 (esD (pd ls 5)))])
)
) (
 obind (binP false .sub (pd ls 4) (eI 1)) fun v86 =>
 obind (numP ((esD (pd ls 5))).length v86) fun j87 =>
 obind (((esD (pd ls 5)))[j87]?) fun e88 =>
 obind (atP false 1 0 e88) fun v88 =>
 obind (numP ((esD (pd ls 5))).length (pd ls 4)) fun j91 =>
 obind (((esD (pd ls 5)))[j91]?) fun e92 =>
 obind (atP false 1 0 e92) fun v92 =>
 obind (numP ((esD (pd ls 5))).length (pd ls 4)) fun j93 =>
 obind (binP false .sub (pd ls 4) (eI 1)) fun v83 =>
 og (oneP v88) <|
 obind (((esD (pd ls 5)))[j93]?) fun w3 =>
 obind (numP ((((esD (pd ls 5))).set j93 (setSegD w3 0 [v88]))).length v83) fun j94 =>
 og (oneP v92) <|
 obind (((((esD (pd ls 5))).set j93 (setSegD w3 0 [v88])))[j94]?) fun w4 =>
 obind (binP false .sub (pd ls 4) (eI 1)) fun v67 =>
 some (.inl [(pd ls 0), (pd ls 1), (pd ls 2), (pd ls 3), v67, (D.sl 1 (((((esD (pd ls 5))).set j93 (setSegD w3 0 [v88]))).set j94 (setSegD w4 0 [v92])))])
)
) (
 inrX (
 some (.inl [(pd ls 0), (pd ls 1), (pd ls 2), (pd ls 3), (D.sl 1 (esD (pd ls 5)))])
)
)

def slices_partialInsertionSortOrdered_string_h_l20 (n : Nat) (ls : List D) : Option (List D ⊕ (List D ⊕ (List D ⊕ (List D ⊕ (List D ⊕ (List D ⊕ (List D))))))) :=
 obind (binP false .lss (pd ls 4) (pd ls 1)) fun v103 =>
 oif v103 (
 obind (numP ((esD (pd ls 5))).length (pd ls 4)) fun j108 =>
 obind (((esD (pd ls 5)))[j108]?) fun e109 =>
 obind (atP false 1 0 e109) fun v109 =>
 obind (binP false .sub (pd ls 4) (eI 1)) fun v112 =>
 obind (numP ((esD (pd ls 5))).length v112) fun j113 =>
 obind (((esD (pd ls 5)))[j113]?) fun e114 =>
 obind (atP false 1 0 e114) fun v114 =>
 obind (cmp_Less_stringL n [v109, v114]) fun v115 =>
 obind (unP .not v115) fun v116 =>
 oif v116 (
 inrX (
 some (.inl [(pd ls 0), (pd ls 1), (pd ls 2), (pd ls 3), (D.sl 1 (esD (pd ls 5)))])
)
) (
 obind (binP false .sub (pd ls 4) (eI 1)) fun v124 =>
 obind (numP ((esD (pd ls 5))).length v124) fun j125 =>
 obind (((esD (pd ls 5)))[j125]?) fun e126 =>
 obind (atP false 1 0 e126) fun v126 =>
 obind (numP ((esD (pd ls 5))).length (pd ls 4)) fun j129 =>
 obind (((esD (pd ls 5)))[j129]?) fun e130 =>
 obind (atP false 1 0 e130) fun v130 =>
 obind (numP ((esD (pd ls 5))).length (pd ls 4)) fun j131 =>
 obind (binP false .sub (pd ls 4) (eI 1)) fun v121 =>
 og (oneP v126) <|
 obind (((esD (pd ls 5)))[j131]?) fun w5 =>
 obind (numP ((((esD (pd ls 5))).set j131 (setSegD w5 0 [v126]))).length v121) fun j132 =>
 og (oneP v130) <|
 obind (((((esD (pd ls 5))).set j131 (setSegD w5 0 [v126])))[j132]?) fun w6 =>
 obind (binP false .add (pd ls 4) (eI 1)) fun v105 =>
 some (.inl [(pd ls 0), (pd ls 1), (pd ls 2), (pd ls 3), v105, (D.sl 1 (((((esD (pd ls 5))).set j131 (setSegD w5 0 [v126]))).set j132 (setSegD w6 0 [v130])))])
)
) (
 inrX (
 some (.inl [(pd ls 0), (pd ls 1), (pd ls 2), (pd ls 3), (D.sl 1 (esD (pd ls 5)))])
)
)

def slices_partialInsertionSortOrdered_string_h_l3 (n : Nat) (ls : List D) : Option (List D ⊕ (List D ⊕ (List D))) :=
 obind (binP false .lss (pd ls 3) (eI 5)) fun v14 =>
 oif v14 (
 obind (
 obind (
 iterL (slices_partialInsertionSortOrdered_string_h_l5 n) n [(pd ls 0), (pd ls 1), (pd ls 2), (pd ls 3), (D.sl 1 (esD (pd ls 4)))]
) <| jnX fun ls =>
 obind (binP false .eql (pd ls 2) (pd ls 1)) fun v37 =>
 oif v37 (
 inrX (
 inrX (
 inrX (
 some [(eB true), (D.sl 1 (esD (pd ls 4)))]
)
)
)
) (
 obind (binP false .sub (pd ls 1) (pd ls 0)) fun v40 =>
 obind (binP false .lss v40 (eI 50)) fun v41 =>
 oif v41 (
 inrX (
 inrX (
 inrX (
 some [(eB false), (D.sl 1 (esD (pd ls 4)))]
)
)
)
) (
 obind (binP false .sub (pd ls 2) (eI 1)) fun v49 =>
 obind (numP ((esD (pd ls 4))).length v49) fun j50 =>
 obind (((esD (pd ls 4)))[j50]?) fun e51 =>
 obind (atP false 1 0 e51) fun v51 =>
 obind (numP ((esD (pd ls 4))).length (pd ls 2)) fun j54 =>
 obind (((esD (pd ls 4)))[j54]?) fun e55 =>
 obind (atP false 1 0 e55) fun v55 =>
 obind (numP ((esD (pd ls 4))).length (pd ls 2)) fun j56 =>
 obind (binP false .sub (pd ls 2) (eI 1)) fun v46 =>
 og (oneP v51) <|
 obind (((esD (pd ls 4)))[j56]?) fun w1 =>
 obind (numP ((((esD (pd ls 4))).set j56 (setSegD w1 0 [v51]))).length v46) fun j57 =>
 og (oneP v55) <|
 obind (((((esD (pd ls 4))).set j56 (setSegD w1 0 [v51])))[j57]?) fun w2 =>
 obind (binP false .sub (pd ls 2) (pd ls 0)) fun v60 =>
 obind (binP false .geq v60 (eI 2)) fun v61 =>
 obind (
 oif v61 (
 obind (binP false .sub (pd ls 2) (eI 1)) fun v63 =>
 obind (
 iterL (slices_partialInsertionSortOrdered_string_h_l14 n) n [(pd ls 0), (pd ls 1), (pd ls 2), (pd ls 3), v63, (D.sl 1 (((((esD (pd ls 4))).set j56 (setSegD w1 0 [v51]))).set j57 (setSegD w2 0 [v55])))]
) <| jnX fun ls =>
 some (.inl [(pd ls 0), (pd ls 1), (pd ls 2), (pd ls 3), (D.sl 1 (esD (pd ls 4)))])
) (
 some (.inl [(pd ls 0), (pd ls 1), (pd ls 2), (pd ls 3), (D.sl 1 (((((esD (pd ls 4))).set j56 (setSegD w1 0 [v51]))).set j57 (setSegD w2 0 [v55])))])
)
) <| jnX fun ls =>
 obind (binP false .sub (pd ls 1) (pd ls 2)) fun v97 =>
 obind (binP false .geq v97 (eI 2)) fun v98 =>
 obind (
 oif v98 (
 obind (binP false .add (pd ls 2) (eI 1)) fun v100 =>
 obind (
 iterL (slices_partialInsertionSortOrdered_string_h_l20 n) n [(pd ls 0), (pd ls 1), (pd ls 2), (pd ls 3), v100, (D.sl 1 (esD (pd ls 4)))]
) <| jnX fun ls =>
 some (.inl [(pd ls 0), (pd ls 1), (pd ls 2), (pd ls 3), (D.sl 1 (esD (pd ls 4)))])
) (
 some (.inl [(pd ls 0), (pd ls 1), (pd ls 2), (pd ls 3), (D.sl 1 (esD (pd ls 4)))])
)
) <| jnX fun ls =>
 some (.inl [(pd ls 0), (pd ls 1), (pd ls 2), (pd ls 3), (D.sl 1 (esD (pd ls 4)))])
)
)
) <| jnX fun ls =>
 obind (binP false .add (pd ls 3) (eI 1)) fun v16 =>
 some (.inl [(pd ls 0), (pd ls 1), (pd ls 2), v16, (D.sl 1 (esD (pd ls 4)))])
) (
 inrX (
 some (.inl [(D.sl 1 (esD (pd ls 4)))])
)
)

def slices_partialInsertionSortOrdered_string_h (n : Nat) (ls : List D) : Option (List D) :=
 obind (binP false .add (pd ls 0) (eI 1)) fun v12 =>
 obind (
 iterL (slices_partialInsertionSortOrdered_string_h_l3 n) n [(pd ls 0), (pd ls 1), v12, (eI 0), (D.sl 1 (esD (pd ls 2)))]
) <| jnX fun ls =>
 some [(eB false), (D.sl 1 (esD (pd ls 0)))]

def slices_partitionEqualOrdered_string_h_l3b (n : Nat) (ls : List D) : Option (List D ⊕ (List D ⊕ (List D ⊕ (List D ⊕ (List D ⊕ (List D)))))) :=
 obind (binP false .leq (pd ls 1) (pd ls 2)) fun v31 =>
 obind (gD v31 true (
 obind (numP ((esD (pd ls 3))).length (pd ls 0)) fun j35 =>
 obind (((esD (pd ls 3)))[j35]?) fun e36 =>
 obind (atP false 1 0 e36) fun v36 =>
 obind (numP ((esD (pd ls 3))).length (pd ls 1)) fun j39 =>
 obind (((esD (pd ls 3)))[j39]?) fun e40 =>
 obind (atP false 1 0 e40) fun v40 =>
 obind (cmp_Less_stringL n [v36, v40]) fun v41 =>
 obind (unP .not v41) fun v42 =>
 some v42
)) fun v42 =>
 obind (pickP v31 v42 (eB false)) fun v43 =>
 oif v43 (
 obind (binP false .add (pd ls 1) (eI 1)) fun v45 =>
 some (.inl [(pd ls 0), v45, (pd ls 2), (D.sl 1 (esD (pd ls 3)))])
) (
 inrX (
 some (.inl [(pd ls 0), (pd ls 1), (pd ls 2), (D.sl 1 (esD (pd ls 3)))])
)
)

def slices_partitionEqualOrdered_string_h_l5 (n : Nat) (ls : List D) : Option (List D ⊕ (List D ⊕ (List D ⊕ (List D ⊕ (List D ⊕ (List D)))))) :=
 obind (binP false .leq (pd ls 1) (pd ls 2)) fun v48 =>
 obind (gD v48 true (
 obind (numP ((esD (pd ls 3))).length (pd ls 0)) fun j52 =>
 obind (((esD (pd ls 3)))[j52]?) fun e53 =>
 obind (atP false 1 0 e53) fun v53 =>
 obind (numP ((esD (pd ls 3))).length (pd ls 2)) fun j56 =>
 obind (((esD (pd ls 3)))[j56]?) fun e57 =>
 obind (atP false 1 0 e57) fun v57 =>
 obind (cmp_Less_stringL n [v53, v57]) fun v58 =>
 some v58
)) fun v58 =>
 obind (pickP v48 v58 (eB false)) fun v59 =>
 oif v59 (
 obind (binP false .sub (pd ls 2) (eI 1)) fun v61 =>
 some (.inl [(pd ls 0), (pd ls 1), v61, (D.sl 1 (esD (pd ls 3)))])
) (
 inrX (
 some (.inl [(pd ls 0), (pd ls 1), (pd ls 2), (D.sl 1 (esD (pd ls 3)))])
)
)

def slices_partitionEqualOrdered_string_h_l3 (n : Nat) (ls : List D) : Option (List D ⊕ (List D ⊕ (List D))) :=
 obind (
 obind (
 iterL (slices_partitionEqualOrdered_string_h_l3b n) n [(pd ls 0), (pd ls 1), (pd ls 2), (D.sl 1 (esD (pd ls 3)))]
) <| jnX fun ls =>
 obind (
 iterL (slices_partitionEqualOrdered_string_h_l5 n) n [(pd ls 0), (pd ls 1), (pd ls 2), (D.sl 1 (esD (pd ls 3)))]
) <| jnX fun ls =>
 obind (binP false .gtr (pd ls 1) (pd ls 2)) fun v64 =>
 oif v64 (
 inrX (
 inrX (
 some (.inl [(pd ls 1), (D.sl 1 (esD (pd ls 3)))])
)
)
) (
 obind (numP ((esD (pd ls 3))).length (pd ls 2)) fun j71 =>
 obind (((esD (pd ls 3)))[j71]?) fun e72 =>
 obind (atP false 1 0 e72) fun v72 =>
 obind (numP ((esD (pd ls 3))).length (pd ls 1)) fun j75 =>
 obind (((esD (pd ls 3)))[j75]?) fun e76 =>
 obind (atP false 1 0 e76) fun v76 =>
 obind (numP ((esD (pd ls 3))).length (pd ls 1)) fun j77 =>
 og (oneP v72) <|
 obind (((esD (pd ls 3)))[j77]?) fun w3 =>
 obind (numP ((((esD (pd ls 3))).set j77 (setSegD w3 0 [v72]))).length (pd ls 2)) fun j78 =>
 og (oneP v76) <|
 obind (((((esD (pd ls 3))).set j77 (setSegD w3 0 [v72])))[j78]?) fun w4 =>
 obind (binP false .add (pd ls 1) (eI 1)) fun v80 =>
 obind (binP false .sub (pd ls 2) (eI 1)) fun v82 =>
 some (.inl [(pd ls 0), v80, v82, (D.sl 1 (((((esD (pd ls 3))).set j77 (setSegD w3 0 [v72]))).set j78 (setSegD w4 0 [v76])))])
)
) <| jnX fun ls =>
 some (.inl [(pd ls 0), (pd ls 1), (pd ls 2), (D.sl 1 (esD (pd ls 3)))])

def slices_partitionEqualOrdered_string_h (n : Nat) (ls : List D) : Option (List D) :=
 obind (numP ((esD (pd ls 3))).length (pd ls 2)) fun j17 =>
 obind (((esD (pd ls 3)))[j17]?) fun e18 =>
 obind (atP false 1 0 e18) fun v18 =>
 obind (numP ((esD (pd ls 3))).length (pd ls 0)) fun j21 =>
 obind (((esD (pd ls 3)))[j21]?) fun e22 =>
 obind (atP false 1 0 e22) fun v22 =>
 obind (numP ((esD (pd ls 3))).length (pd ls 0)) fun j23 =>
 og (oneP v18) <|
 obind (((esD (pd ls 3)))[j23]?) fun w1 =>
 obind (numP ((((esD (pd ls 3))).set j23 (setSegD w1 0 [v18]))).length (pd ls 2)) fun j24 =>
 og (oneP v22) <|
 obind (((((esD (pd ls 3))).set j23 (setSegD w1 0 [v18])))[j24]?) fun w2 =>
 obind (binP false .add (pd ls 0) (eI 1)) fun v26 =>
 obind (binP false .sub (pd ls 1) (eI 1)) fun v28 =>
 obind (
 iterL (slices_partitionEqualOrdered_string_h_l3 n) n [(pd ls 0), v26, v28, (D.sl 1 (((((esD (pd ls 3))).set j23 (setSegD w1 0 [v18]))).set j24 (setSegD w2 0 [v22])))]
) <| jnX fun ls =>
 some [(pd ls 0), (D.sl 1 (esD (pd ls 1)))]

def slices_partitionOrdered_string_h_l3 (n : Nat) (ls : List D) : Option (List D ⊕ (List D ⊕ (List D))) :=
 obind (binP false .leq (pd ls 1) (pd ls 2)) fun v32 =>
 obind (gD v32 true (
 obind (numP ((esD (pd ls 3))).length (pd ls 1)) fun j36 =>
 obind (((esD (pd ls 3)))[j36]?) fun e37 =>
 obind (atP false 1 0 e37) fun v37 =>
 obind (numP ((esD (pd ls 3))).length (pd ls 0)) fun j40 =>
 obind (((esD (pd ls 3)))[j40]?) fun e41 =>
 obind (atP false 1 0 e41) fun v41 =>
 obind (cmp_Less_stringL n [v37, v41]) fun v42 =>
 some v42
)) fun v42 =>
 obind (pickP v32 v42 (eB false)) fun v43 =>
 oif v43 (
 obind (binP false .add (pd ls 1) (eI 1)) fun v45 =>
 some (.inl [(pd ls 0), v45, (pd ls 2), (D.sl 1 (esD (pd ls 3)))])
) (
 inrX (
 some (.inl [(pd ls 0), (pd ls 1), (pd ls 2), (D.sl 1 (esD (pd ls 3)))])
)
)

def slices_partitionOrdered_string_h_l5 (n : Nat) (ls : List D) : Option (List D ⊕ (List D ⊕ (List D))) :=
 obind (binP false .leq (pd ls 1) (pd ls 2)) fun v48 =>
 obind (gD v48 true (
 obind (numP ((esD (pd ls 3))).length (pd ls 2)) fun j52 =>
 obind (((esD (pd ls 3)))[j52]?) fun e53 =>
 obind (atP false 1 0 e53) fun v53 =>
 obind (numP ((esD (pd ls 3))).length (pd ls 0)) fun j56 =>
 obind (((esD (pd ls 3)))[j56]?) fun e57 =>
 obind (atP false 1 0 e57) fun v57 =>
 obind (cmp_Less_stringL n [v53, v57]) fun v58 =>
 obind (unP .not v58) fun v59 =>
 some v59
)) fun v59 =>
 obind (pickP v48 v59 (eB false)) fun v60 =>
 oif v60 (
 obind (binP false .sub (pd ls 2) (eI 1)) fun v62 =>
 some (.inl [(pd ls 0), (pd ls 1), v62, (D.sl 1 (esD (pd ls 3)))])
) (
 inrX (
 some (.inl [(pd ls 0), (pd ls 1), (pd ls 2), (D.sl 1 (esD (pd ls 3)))])
)
)

def slices_partitionOrdered_string_h_l13b (n : Nat) (ls : List D) : Option (List D ⊕ (List D ⊕ (List D ⊕ (List D ⊕ (List D ⊕ (List D)))))) :=
 obind (binP false .leq (pd ls 1) (pd ls 2)) fun v101 =>
 obind (gD v101 true (
 obind (numP ((esD (pd ls 3))).length (pd ls 1)) fun j105 =>
 obind (((esD (pd ls 3)))[j105]?) fun e106 =>
 obind (atP false 1 0 e106) fun v106 =>
 obind (numP ((esD (pd ls 3))).length (pd ls 0)) fun j109 =>
 obind (((esD (pd ls 3)))[j109]?) fun e110 =>
 obind (atP false 1 0 e110) fun v110 =>
 obind (cmp_Less_stringL n [v106, v110]) fun v111 =>
 some v111
)) fun v111 =>
 obind (pickP v101 v111 (eB false)) fun v112 =>
 oif v112 (
 obind (binP false .add (pd ls 1) (eI 1)) fun v114 =>
 some (.inl [(pd ls 0), v114, (pd ls 2), (D.sl 1 (esD (pd ls 3)))])
) (
 inrX (
 some (.inl [(pd ls 0), (pd ls 1), (pd ls 2), (D.sl 1 (esD (pd ls 3)))])
)
)

def slices_partitionOrdered_string_h_l15 (n : Nat) (ls : List D) : Option (List D ⊕ (List D ⊕ (List D ⊕ (List D ⊕ (List D ⊕ (List D)))))) :=
 obind (binP false .leq (pd ls 1) (pd ls 2)) fun v117 =>
 obind (gD v117 true (
 obind (numP ((esD (pd ls 3))).length (pd ls 2)) fun j121 =>
 obind (((esD (pd ls 3)))[j121]?) fun e122 =>
 obind (atP false 1 0 e122) fun v122 =>
 obind (numP ((esD (pd ls 3))).length (pd ls 0)) fun j125 =>
 obind (((esD (pd ls 3)))[j125]?) fun e126 =>
 obind (atP false 1 0 e126) fun v126 =>
 obind (cmp_Less_stringL n [v122, v126]) fun v127 =>
 obind (unP .not v127) fun v128 =>
 some v128
)) fun v128 =>
 obind (pickP v117 v128 (eB false)) fun v129 =>
 oif v129 (
 obind (binP false .sub (pd ls 2) (eI 1)) fun v131 =>
 some (.inl [(pd ls 0), (pd ls 1), v131, (D.sl 1 (esD (pd ls 3)))])
) (
 inrX (
 some (.inl [(pd ls 0), (pd ls 1), (pd ls 2), (D.sl 1 (esD (pd ls 3)))])
)
)

def slices_partitionOrdered_string_h_l13 (n : Nat) (ls : List D) : Option (List D ⊕ (List D ⊕ (List D))) :=
 obind (
 obind (
 iterL (slices_partitionOrdered_string_h_l13b n) n [(pd ls 0), (pd ls 1), (pd ls 2), (D.sl 1 (esD (pd ls 3)))]
) <| jnX fun ls =>
 obind (
 iterL (slices_partitionOrdered_string_h_l15 n) n [(pd ls 0), (pd ls 1), (pd ls 2), (D.sl 1 (esD (pd ls 3)))]
) <| jnX fun ls =>
 obind (binP false .gtr (pd ls 1) (pd ls 2)) fun v134 =>
 oif v134 (
 inrX (
 inrX (
 some (.inl [(pd ls 0), (pd ls 2), (D.sl 1 (esD (pd ls 3)))])
)
)
) (
 obind (numP ((esD (pd ls 3))).length (pd ls 2)) fun j141 =>
 obind (((esD (pd ls 3)))[j141]?) fun e142 =>
 obind (atP false 1 0 e142) fun v142 =>
 obind (numP ((esD (pd ls 3))).length (pd ls 1)) fun j145 =>
 obind (((esD (pd ls 3)))[j145]?) fun e146 =>
 obind (atP false 1 0 e146) fun v146 =>
 obind (numP ((esD (pd ls 3))).length (pd ls 1)) fun j147 =>
 og (oneP v142) <|
 obind (((esD (pd ls 3)))[j147]?) fun w7 =>
 obind (numP ((((esD (pd ls 3))).set j147 (setSegD w7 0 [v142]))).length (pd ls 2)) fun j148 =>
 og (oneP v146) <|
 obind (((((esD (pd ls 3))).set j147 (setSegD w7 0 [v142])))[j148]?) fun w8 =>
 obind (binP false .add (pd ls 1) (eI 1)) fun v150 =>
 obind (binP false .sub (pd ls 2) (eI 1)) fun v152 =>
 some (.inl [(pd ls 0), v150, v152, (D.sl 1 (((((esD (pd ls 3))).set j147 (setSegD w7 0 [v142]))).set j148 (setSegD w8 0 [v146])))])
)
) <| jnX fun ls =>
 some (.inl [(pd ls 0), (pd ls 1), (pd ls 2), (D.sl 1 (esD (pd ls 3)))])

def slices_partitionOrdered_string_h (n : Nat) (ls : List D) : Option (List D) :=
 obind (numP ((esD (pd ls 3))).length (pd ls 2)) fun j18 =>
 obind (((esD (pd ls 3)))[j18]?) fun e19 =>
 obind (atP false 1 0 e19) fun v19 =>
 obind (numP ((esD (pd ls 3))).length (pd ls 0)) fun j22 =>
 obind (((esD (pd ls 3)))[j22]?) fun e23 =>
 obind (atP false 1 0 e23) fun v23 =>
 obind (numP ((esD (pd ls 3))).length (pd ls 0)) fun j24 =>
 og (oneP v19) <|
 obind (((esD (pd ls 3)))[j24]?) fun w1 =>
 obind (numP ((((esD (pd ls 3))).set j24 (setSegD w1 0 [v19]))).length (pd ls 2)) fun j25 =>
 og (oneP v23) <|
 obind (((((esD (pd ls 3))).set j24 (setSegD w1 0 [v19])))[j25]?) fun w2 =>
 obind (binP false .add (pd ls 0) (eI 1)) fun v27 =>
 obind (binP false .sub (pd ls 1) (eI 1)) fun v29 =>
 obind (
 iterL (slices_partitionOrdered_string_h_l3 n) n [(pd ls 0), v27, v29, (D.sl 1 (((((esD (pd ls 3))).set j24 (setSegD w1 0 [v19]))).set j25 (setSegD w2 0 [v23])))]
) <| jnX fun ls =>
 obind (
 iterL (slices_partitionOrdered_string_h_l5 n) n [(pd ls 0), (pd ls 1), (pd ls 2), (D.sl 1 (esD (pd ls 3)))]
) <| jnX fun ls =>
 obind (binP false .gtr (pd ls 1) (pd ls 2)) fun v65 =>
 oif v65 (
 obind (numP ((esD (pd ls 3))).length (pd ls 0)) fun j72 =>
 obind (((esD (pd ls 3)))[j72]?) fun e73 =>
 obind (atP false 1 0 e73) fun v73 =>
 obind (numP ((esD (pd ls 3))).length (pd ls 2)) fun j76 =>
 obind (((esD (pd ls 3)))[j76]?) fun e77 =>
 obind (atP false 1 0 e77) fun v77 =>
 obind (numP ((esD (pd ls 3))).length (pd ls 2)) fun j78 =>
 og (oneP v73) <|
 obind (((esD (pd ls 3)))[j78]?) fun w3 =>
 obind (numP ((((esD (pd ls 3))).set j78 (setSegD w3 0 [v73]))).length (pd ls 0)) fun j79 =>
 og (oneP v77) <|
 obind (((((esD (pd ls 3))).set j78 (setSegD w3 0 [v73])))[j79]?) fun w4 =>
 some [(D.tup [(pd ls 2), (eB true)]), (D.sl 1 (((((esD (pd ls 3))).set j78 (setSegD w3 0 [v73]))).set j79 (setSegD w4 0 [v77])))]
) (
 obind (numP ((esD (pd ls 3))).length (pd ls 2)) fun j87 =>
 obind (((esD (pd ls 3)))[j87]?) fun e88 =>
 obind (atP false 1 0 e88) fun v88 =>
 obind (numP ((esD (pd ls 3))).length (pd ls 1)) fun j91 =>
 obind (((esD (pd ls 3)))[j91]?) fun e92 =>
 obind (atP false 1 0 e92) fun v92 =>
 obind (numP ((esD (pd ls 3))).length (pd ls 1)) fun j93 =>
 og (oneP v88) <|
 obind (((esD (pd ls 3)))[j93]?) fun w5 =>
 obind (numP ((((esD (pd ls 3))).set j93 (setSegD w5 0 [v88]))).length (pd ls 2)) fun j94 =>
 og (oneP v92) <|
 obind (((((esD (pd ls 3))).set j93 (setSegD w5 0 [v88])))[j94]?) fun w6 =>
 obind (binP false .add (pd ls 1) (eI 1)) fun v96 =>
 obind (binP false .sub (pd ls 2) (eI 1)) fun v98 =>
 obind (
 iterL (slices_partitionOrdered_string_h_l13 n) n [(pd ls 0), v96, v98, (D.sl 1 (((((esD (pd ls 3))).set j93 (setSegD w5 0 [v88]))).set j94 (setSegD w6 0 [v92])))]
) <| jnX fun ls =>
 obind (numP ((esD (pd ls 2))).length (pd ls 0)) fun j159 =>
 obind (((esD (pd ls 2)))[j159]?) fun e160 =>
 obind (atP false 1 0 e160) fun v160 =>
 obind (numP ((esD (pd ls 2))).length (pd ls 1)) fun j163 =>
 obind (((esD (pd ls 2)))[j163]?) fun e164 =>
 obind (atP false 1 0 e164) fun v164 =>
 obind (numP ((esD (pd ls 2))).length (pd ls 1)) fun j165 =>
 og (oneP v160) <|
 obind (((esD (pd ls 2)))[j165]?) fun w9 =>
 obind (numP ((((esD (pd ls 2))).set j165 (setSegD w9 0 [v160]))).length (pd ls 0)) fun j166 =>
 og (oneP v164) <|
 obind (((((esD (pd ls 2))).set j165 (setSegD w9 0 [v160])))[j166]?) fun w10 =>
 some [(D.tup [(pd ls 1), (eB false)]), (D.sl 1 (((((esD (pd ls 2))).set j165 (setSegD w9 0 [v160]))).set j166 (setSegD w10 0 [v164])))]
)

def slices_pdqsortOrdered_string_h_l2 (r_slices_pdqsortOrdered_string_h : List D → Option (List D)) (n : Nat) (ls : List D) : Option (List D ⊕ (List D)) :=
 obind (
 obind (binP false .sub (pd ls 1) (pd ls 0)) fun v21 =>
 obind (binP false .leq v21 (eI 12)) fun v23 =>
 oif v23 (
 obind (slices_insertionSortOrdered_string_h n [(pd ls 0), (pd ls 1), (D.sl 1 (esD (pd ls 5)))]) fun h1 =>
 inrX (
 inrX (
 some [(D.tup []), (D.sl 1 (esD (pd h1 1)))]
)
)
) (
 obind (binP false .eql (pd ls 2) (eI 0)) fun v29 =>
 oif v29 (
 obind (slices_heapSortOrdered_string_h n [(pd ls 0), (pd ls 1), (D.sl 1 (esD (pd ls 5)))]) fun h2 =>
 inrX (
 inrX (
 some [(D.tup []), (D.sl 1 (esD (pd h2 1)))]
)
)
) (
 obind (unP .not (pd ls 3)) fun v35 =>
 obind (
 oif v35 (
 obind (slices_breakPatternsOrdered_string_h n [(pd ls 0), (pd ls 1), (D.sl 1 (esD (pd ls 5)))]) fun h3 =>
 obind (binP false .sub (pd ls 2) (eI 1)) fun v41 =>
 some (.inl [(pd ls 0), (pd ls 1), v41, (pd ls 3), (pd ls 4), v21, (D.sl 1 (esD (pd h3 1)))])
) (
 some (.inl [(pd ls 0), (pd ls 1), (pd ls 2), (pd ls 3), (pd ls 4), v21, (D.sl 1 (esD (pd ls 5)))])
)
) <| jnX fun ls =>
 obind (slices_choosePivotOrdered_stringL n [(D.sl 1 (esD (pd ls 6))), (pd ls 0), (pd ls 1)]) fun v46 =>
 og v46.flat <|
 obind (extP 0 v46) fun v47 =>
 obind (extP 1 v46) fun v48 =>
 obind (binP false .eql v48 (eI 2)) fun v50 =>
 obind (
 oif v50 (
 obind (slices_reverseRangeOrdered_string_h n [(pd ls 0), (pd ls 1), (D.sl 1 (esD (pd ls 6)))]) fun h4 =>
 obind (binP false .sub (pd ls 1) (eI 1)) fun v56 =>
 obind (binP false .sub v47 (pd ls 0)) fun v59 =>
 obind (binP false .sub v56 v59) fun v60 =>
 some (.inl [(pd ls 0), (pd ls 1), (pd ls 2), (pd ls 3), (pd ls 4), (pd ls 5), v60, (eI 1), (D.sl 1 (esD (pd h4 1)))])
) (
 some (.inl [(pd ls 0), (pd ls 1), (pd ls 2), (pd ls 3), (pd ls 4), (pd ls 5), v47, v48, (D.sl 1 (esD (pd ls 6)))])
)
) <| jnX fun ls =>
 obind (gD (pd ls 3) true (
 some (pd ls 4)
)) fun v63 =>
 obind (pickP (pd ls 3) v63 (eB false)) fun v64 =>
 obind (gD v64 true (
 obind (binP false .eql (pd ls 7) (eI 1)) fun v67 =>
 some v67
)) fun v67 =>
 obind (pickP v64 v67 (eB false)) fun v68 =>
 obind (
 oif v68 (
 obind (slices_partialInsertionSortOrdered_string_h n [(pd ls 0), (pd ls 1), (D.sl 1 (esD (pd ls 8)))]) fun h5 =>
 oif (pd h5 0) (
 inrX (
 inrX (
 inrX (
 some [(D.tup []), (D.sl 1 (esD (pd h5 1)))]
)
)
)
) (
 some (.inl [(pd ls 0), (pd ls 1), (pd ls 2), (pd ls 3), (pd ls 4), (pd ls 5), (pd ls 6), (D.sl 1 (esD (pd h5 1)))])
)
) (
 some (.inl [(pd ls 0), (pd ls 1), (pd ls 2), (pd ls 3), (pd ls 4), (pd ls 5), (pd ls 6), (D.sl 1 (esD (pd ls 8)))])
)
) <| jnX fun ls =>
 obind (binP false .gtr (pd ls 0) (eI 0)) fun v74 =>
 obind (gD v74 true (
 obind (binP false .sub (pd ls 0) (eI 1)) fun v78 =>
 obind (numP ((esD (pd ls 7))).length v78) fun j79 =>
 obind (((esD (pd ls 7)))[j79]?) fun e80 =>
 obind (atP false 1 0 e80) fun v80 =>
 obind (numP ((esD (pd ls 7))).length (pd ls 6)) fun j83 =>
 obind (((esD (pd ls 7)))[j83]?) fun e84 =>
 obind (atP false 1 0 e84) fun v84 =>
 obind (cmp_Less_stringL n [v80, v84]) fun v85 =>
 obind (unP .not v85) fun v86 =>
 some v86
)) fun v86 =>
 obind (pickP v74 v86 (eB false)) fun v87 =>
 oif v87 (
 obind (slices_partitionEqualOrdered_string_h n [(pd ls 0), (pd ls 1), (pd ls 6), (D.sl 1 (esD (pd ls 7)))]) fun h6 =>
 some (.inl [(pd h6 0), (pd ls 1), (pd ls 2), (pd ls 3), (pd ls 4), (D.sl 1 (esD (pd h6 1)))])
) (
 obind (slices_partitionOrdered_string_h n [(pd ls 0), (pd ls 1), (pd ls 6), (D.sl 1 (esD (pd ls 7)))]) fun h7 =>
 obind (extP 0 (pd h7 0)) fun v100 =>
 obind (extP 1 (pd h7 0)) fun v101 =>
 obind (binP false .sub v100 (pd ls 0)) fun v105 =>
 obind (binP false .sub (pd ls 1) v100) fun v108 =>
 obind (binP false .quo (pd ls 5) (eI 8)) fun v110 =>
 obind (binP false .lss v105 v108) fun v113 =>
 obind (
 oif v113 (
 obind (binP false .geq v105 v110) fun v116 =>
 obind (r_slices_pdqsortOrdered_string_h [(pd ls 0), v100, (pd ls 2), (D.sl 1 (esD (pd h7 1)))]) fun h8 =>
 obind (binP false .add v100 (eI 1)) fun v123 =>
 some (.inl [v123, (pd ls 1), (pd ls 2), v116, v101, (D.sl 1 (esD (pd h8 1)))])
) (
 obind (binP false .geq v108 v110) fun v126 =>
 obind (binP false .add v100 (eI 1)) fun v129 =>
 obind (r_slices_pdqsortOrdered_string_h [v129, (pd ls 1), (pd ls 2), (D.sl 1 (esD (pd h7 1)))]) fun h9 =>
 some (.inl [(pd ls 0), v100, (pd ls 2), v126, v101, (D.sl 1 (esD (pd h9 1)))])
)
) <| jnX fun ls =>
 some (.inl [(pd ls 0), (pd ls 1), (pd ls 2), (pd ls 3), (pd ls 4), (D.sl 1 (esD (pd ls 5)))])
)
)
)
) <| jnX fun ls =>
 some (.inl [(pd ls 0), (pd ls 1), (pd ls 2), (pd ls 3), (pd ls 4), (D.sl 1 (esD (pd ls 5)))])

def slices_pdqsortOrdered_string_h (r_slices_pdqsortOrdered_string_h : List D → Option (List D)) (n : Nat) (ls : List D) : Option (List D) :=
 iterL (slices_pdqsortOrdered_string_h_l2 r_slices_pdqsortOrdered_string_h n) n [(pd ls 0), (pd ls 1), (pd ls 2), (eB true), (eB true), (D.sl 1 (esD (pd ls 3)))]

def slices_pdqsortOrdered_string_hL : Nat → List D → Option (List D)
  | 0, _ => none
  | n + 1, ls => slices_pdqsortOrdered_string_h (slices_pdqsortOrdered_string_hL n) n ls
def slices_Sort_Lstring_string_h (n : Nat) (ls : List D) : Option (List D) :=
 obind (cvP .u64 (eI ((esD (pd ls 0))).length)) fun v8 =>
 obind (math_bits_LenL n [v8]) fun v9 =>
 obind (slices_pdqsortOrdered_string_hL n [(eI 0), (eI ((esD (pd ls 0))).length), v9, (D.sl 1 (esD (pd ls 0)))]) fun h1 =>
 some [(D.tup []), (D.sl 1 (esD (pd h1 1)))]

def slices_Compact_Lstring_string_h_l9 (n : Nat) (ls : List D) : Option (List D ⊕ (List D ⊕ (List D ⊕ (List D ⊕ (List D ⊕ (List D)))))) :=
 obind (binP false .lss (pd ls 3) (eI ((natD (pd ls 2)) : Nat))) fun v32 =>
 oif v32 (
 obind (
 obind (numP (natD (pd ls 2)) (pd ls 3)) fun j37 =>
 obind (((esD (pd ls 4)))[((natD (pd ls 1)) + j37)]?) fun e38 =>
 obind (atP false 1 0 e38) fun v38 =>
 obind (binP false .sub (pd ls 3) (eI 1)) fun v41 =>
 obind (numP (natD (pd ls 2)) v41) fun j42 =>
 obind (((esD (pd ls 4)))[((natD (pd ls 1)) + j42)]?) fun e43 =>
 obind (atP false 1 0 e43) fun v43 =>
 obind (binP false .neq v38 v43) fun v44 =>
 obind (
 oif v44 (
 obind (numP (natD (pd ls 2)) (pd ls 3)) fun j49 =>
 obind (((esD (pd ls 4)))[((natD (pd ls 1)) + j49)]?) fun e50 =>
 obind (atP false 1 0 e50) fun v50 =>
 obind (numP ((esD (pd ls 4))).length (pd ls 0)) fun j51 =>
 og (oneP v50) <|
 obind (((esD (pd ls 4)))[j51]?) fun w2 =>
 obind (binP false .add (pd ls 0) (eI 1)) fun v53 =>
 some (.inl [v53, (eI ((natD (pd ls 1)) : Nat)), (eI ((natD (pd ls 2)) : Nat)), (pd ls 3), (D.sl 1 (((esD (pd ls 4))).set j51 (setSegD w2 0 [v50])))])
) (
 some (.inl [(pd ls 0), (eI ((natD (pd ls 1)) : Nat)), (eI ((natD (pd ls 2)) : Nat)), (pd ls 3), (D.sl 1 (esD (pd ls 4)))])
)
) <| jnX fun ls =>
 some (.inl [(pd ls 0), (eI ((natD (pd ls 1)) : Nat)), (eI ((natD (pd ls 2)) : Nat)), (pd ls 3), (D.sl 1 (esD (pd ls 4)))])
) <| jnX fun ls =>
 obind (binP false .add (pd ls 3) (eI 1)) fun v34 =>
 some (.inl [(pd ls 0), (eI ((natD (pd ls 1)) : Nat)), (eI ((natD (pd ls 2)) : Nat)), v34, (D.sl 1 (esD (pd ls 4)))])
) (
 inrX (
 some (.inl [(pd ls 0), (D.sl 1 (esD (pd ls 4)))])
)
)

def slices_Compact_Lstring_string_h_l4b (n : Nat) (ls : List D) : Option (List D ⊕ (List D ⊕ (List D))) :=
 obind (binP false .lss (pd ls 0) (eI ((esD (pd ls 1))).length)) fun v13 =>
 oif v13 (
 obind (
 obind (numP ((esD (pd ls 1))).length (pd ls 0)) fun j18 =>
 obind (((esD (pd ls 1)))[j18]?) fun e19 =>
 obind (atP false 1 0 e19) fun v19 =>
 obind (binP false .sub (pd ls 0) (eI 1)) fun v22 =>
 obind (numP ((esD (pd ls 1))).length v22) fun j23 =>
 obind (((esD (pd ls 1)))[j23]?) fun e24 =>
 obind (atP false 1 0 e24) fun v24 =>
 obind (binP false .eql v19 v24) fun v25 =>
 oif v25 (
 obind (cutP ((esD (pd ls 1))).length (some (pd ls 0)) none) fun p28 =>
 obind (
 iterL (slices_Compact_Lstring_string_h_l9 n) n [(pd ls 0), (eI (p28.1 : Nat)), (eI (p28.2 : Nat)), (eI 1), (D.sl 1 (esD (pd ls 1)))]
) <| jnX fun ls =>
 obind (cutP ((esD (pd ls 1))).length (some (pd ls 0)) none) fun p56 =>
 og (decide (p56.1 + p56.2 ≤ ((esD (pd ls 1))).length)) <|
 obind (cutP ((((esD (pd ls 1))).take p56.1 ++ List.replicate p56.2 [D.val (.string ⟨#[]⟩)] ++ ((esD (pd ls 1))).drop (p56.1 + p56.2))).length none (some (pd ls 0))) fun p59 =>
 inrX (
 inrX (
 inrX (
 some [(eI (p59.1 : Nat)), (eI (p59.2 : Nat)), (D.sl 1 (((esD (pd ls 1))).take p56.1 ++ List.replicate p56.2 [D.val (.string ⟨#[]⟩)] ++ ((esD (pd ls 1))).drop (p56.1 + p56.2)))]
)
)
)
) (
 some (.inl [(pd ls 0), (D.sl 1 (esD (pd ls 1)))])
)
) <| jnX fun ls =>
 obind (binP false .add (pd ls 0) (eI 1)) fun v15 =>
 some (.inl [v15, (D.sl 1 (esD (pd ls 1)))])
) (
 inrX (
 some (.inl [(D.sl 1 (esD (pd ls 1)))])
)
)

def slices_Compact_Lstring_string_h (n : Nat) (ls : List D) : Option (List D) :=
 obind (binP false .lss (eI ((esD (pd ls 0))).length) (eI 2)) fun v8 =>
 oif v8 (
 some [(eI (0 : Nat)), (eI (((esD (pd ls 0))).length : Nat)), (D.sl 1 (esD (pd ls 0)))]
) (
 obind (
 iterL (slices_Compact_Lstring_string_h_l4b n) n [(eI 1), (D.sl 1 (esD (pd ls 0)))]
) <| jnX fun ls =>
 some [(eI (0 : Nat)), (eI (((esD (pd ls 0))).length : Nat)), (D.sl 1 (esD (pd ls 0)))]
)

def forms_Names (n : Nat) (a0 : D) : Option D :=
 og (aggP 6 a0) <|
 obind (forms_CheckL n [(D.agg [(celD a0 0), (celD a0 1), (celD a0 2), (celD a0 3), (celD a0 4), (celD a0 5)])]) fun v5 =>
 obind (binP false .neq v5 (eI 0)) fun v6 =>
 oif v6 (
 some (D.val (.slice none 0 0))
) (
 obind (forms_gather_string_h_forms_Names_1 n [(D.agg [(celD a0 0), (celD a0 1), (celD a0 2), (celD a0 3), (celD a0 4), (celD a0 5)])]) fun h1 =>
 obind (slices_Sort_Lstring_string_h n [(D.sl 1 (esD (pd h1 0)))]) fun h2 =>
 obind (slices_Compact_Lstring_string_h n [(D.sl 1 (esD (pd h2 1)))]) fun h3 =>
 og (decide ((natD (pd h3 0)) + (natD (pd h3 1)) ≤ ((esD (pd h3 2))).length)) <|
 some (D.sl 1 ((((esD (pd h3 2))).drop (natD (pd h3 0))).take (natD (pd h3 1))))
)

def forms_NamesL (n : Nat) : List D → Option D
  | [a0] => forms_Names n a0
  | _ => none
def ref29_Texts_l4 (n : Nat) (ls : List D) : Option (List D ⊕ (List D ⊕ D)) :=
 obind (lenP (pd ls 0)) fun v13 =>
 obind (binP false .lss (pd ls 2) v13) fun v14 =>
 oif v14 (
 obind (ixP 1 (pd ls 0) (pd ls 2)) fun c19 =>
 obind (atP false 1 0 c19) fun v20 =>
 obind (ixP 1 (pd ls 1) (pd ls 2)) fun c23 =>
 obind (atP false 1 0 c23) fun v24 =>
 obind (binP false .neq v20 v24) fun v25 =>
 oif v25 (
 inrX (
 inrX (
 some (eB false)
)
)
) (
 obind (binP false .add (pd ls 2) (eI 1)) fun v16 =>
 some (.inl [(pd ls 0), (pd ls 1), v16])
)
) (
 inrX (
 some (.inl [])
)
)

def ref29_Texts (n : Nat) (a0 : D) (a1 : D) : Option D :=
 obind (lenP a0) fun v7 =>
 obind (lenP a1) fun v9 =>
 obind (binP false .neq v7 v9) fun v10 =>
 oif v10 (
 some (eB false)
) (
 obind (
 iterL (ref29_Texts_l4 n) n [a0, a1, (eI 0)]
) <| jnX fun ls =>
 some (eB true)
)

def ref29_TextsL (n : Nat) : List D → Option D
  | [a0, a1] => ref29_Texts n a0 a1
  | _ => none
def ref32_Pushed_l4 (r_ref32_Pushed : List D → Option D) (n : Nat) (ls : List D) : Option (List D ⊕ (List D ⊕ D)) :=
 obind (lenP (pd ls 6)) fun v37 =>
 obind (binP false .lss (pd ls 0) v37) fun v38 =>
 oif v38 (
 obind (ixP 6 (pd ls 6) (pd ls 0)) fun c44 =>
 obind (atP true 6 0 c44) fun v45 =>
 obind (r_ref32_Pushed [v45]) fun v46 =>
 obind (unP .not v46) fun v47 =>
 oif v47 (
 inrX (
 inrX (
 some (eB false)
)
)
) (
 obind (binP false .add (pd ls 0) (eI 1)) fun v40 =>
 some (.inl [v40, (pd ls 1), (pd ls 2), (pd ls 3), (pd ls 4), (pd ls 5), (pd ls 6)])
)
) (
 inrX (
 some (.inl [])
)
)

def ref32_Pushed (r_ref32_Pushed : List D → Option D) (n : Nat) (a0 : D) : Option D :=
 og (aggP 6 a0) <|
 obind (binP false .eql (celD a0 0) (eI 5)) fun v6 =>
 obind (gD v6 false (
 obind (binP false .eql (celD a0 0) (eI 2)) fun v10 =>
 some v10
)) fun v11 =>
 obind (gD v11 true (
 obind (lenP (celD a0 5)) fun v14 =>
 obind (binP false .neq v14 (eI 1)) fun v15 =>
 some v15
)) fun v16 =>
 obind (gD v16 false (
 obind (ixP 6 (celD a0 5) (eI 0)) fun c19 =>
 obind (atP false 1 0 c19) fun v21 =>
 obind (binP false .neq v21 (eI 9)) fun v22 =>
 some v22
)) fun v23 =>
 obind (gD v23 true (
 obind (ixP 6 (celD a0 5) (eI 0)) fun c26 =>
 obind (atP false 1 0 c26) fun v28 =>
 obind (binP false .neq v28 (eI 13)) fun v29 =>
 some v29
)) fun v29 =>
 obind (gD v16 false (
 obind (pickP v23 v29 (eB false)) fun v30 =>
 some v30
)) fun v30 =>
 obind (gD v11 true (
 obind (pickP v16 (eB true) v30) fun v31 =>
 some v31
)) fun v31 =>
 obind (gD v6 false (
 obind (pickP v11 v31 (eB false)) fun v32 =>
 some v32
)) fun v32 =>
 obind (pickP v6 (eB true) v32) fun v33 =>
 oif v33 (
 some (eB false)
) (
 obind (
 iterL (ref32_Pushed_l4 r_ref32_Pushed n) n [(eI 0), (celD a0 0), (celD a0 1), (celD a0 2), (celD a0 3), (celD a0 4), (celD a0 5)]
) <| jnX fun ls =>
 some (eB true)
)

def ref32_PushedL : Nat → List D → Option D
  | 0, _ => none
  | n + 1, ds => match ds with
    | [a0] => ref32_Pushed (ref32_PushedL n) n a0
    | _ => none
def law32_FormsPushed_l11 (n : Nat) (ls : List D) : Option (List D ⊕ (List D ⊕ (List D ⊕ (List D ⊕ (List D ⊕ D))))) :=
 obind (binP false .lss (pd ls 2) (pd ls 1)) fun v52 =>
 oif v52 (
 obind (ixP 6 (pd ls 0) (pd ls 1)) fun c57 =>
 obind (atP true 6 0 c57) fun v58 =>
 obind (ixP 6 (pd ls 0) (pd ls 2)) fun c61 =>
 obind (atP true 6 0 c61) fun v62 =>
 obind (forms_SameL n [v58, v62]) fun v63 =>
 oif v63 (
 inrX (
 inrX (
 inrX (
 inrX (
 inrX (
 some (eB false)
)
)
)
)
)
) (
 obind (binP false .add (pd ls 2) (eI 1)) fun v54 =>
 some (.inl [(pd ls 0), (pd ls 1), v54, (pd ls 3), (pd ls 4), (pd ls 5), (pd ls 6), (pd ls 7), (pd ls 8)])
)
) (
 inrX (
 some (.inl [(pd ls 0), (pd ls 1), (pd ls 3), (pd ls 4), (pd ls 5), (pd ls 6), (pd ls 7), (pd ls 8)])
)
)

def law32_FormsPushed_l20 (n : Nat) (ls : List D) : Option (List D ⊕ (List D ⊕ (List D ⊕ (List D ⊕ (List D ⊕ (List D ⊕ (List D ⊕ (List D ⊕ D)))))))) :=
 obind (lenP (pd ls 0)) fun v76 =>
 obind (binP false .lss (pd ls 4) v76) fun v77 =>
 oif v77 (
 obind (gD (pd ls 3) false (
 obind (ixP 6 (pd ls 0) (pd ls 4)) fun c84 =>
 obind (atP true 6 0 c84) fun v85 =>
 obind (ixP 6 (pd ls 0) (pd ls 1)) fun c88 =>
 obind (atP false 1 5 c88) fun v90 =>
 obind (ixP 6 v90 (pd ls 2)) fun c92 =>
 obind (atP true 6 0 c92) fun v93 =>
 obind (forms_SameL n [v85, v93]) fun v94 =>
 some v94
)) fun v94 =>
 obind (pickP (pd ls 3) (eB true) v94) fun v95 =>
 obind (binP false .add (pd ls 4) (eI 1)) fun v79 =>
 some (.inl [(pd ls 0), (pd ls 1), (pd ls 2), v95, v79, (pd ls 5), (pd ls 6), (pd ls 7), (pd ls 8), (pd ls 9), (pd ls 10)])
) (
 inrX (
 some (.inl [(pd ls 0), (pd ls 1), (pd ls 2), (pd ls 3), (pd ls 5), (pd ls 6), (pd ls 7), (pd ls 8), (pd ls 9), (pd ls 10)])
)
)

def law32_FormsPushed_l16 (n : Nat) (ls : List D) : Option (List D ⊕ (List D ⊕ (List D ⊕ (List D ⊕ (List D ⊕ D))))) :=
 obind (ixP 6 (pd ls 0) (pd ls 1)) fun c67 =>
 obind (atP false 1 5 c67) fun v69 =>
 obind (lenP v69) fun v70 =>
 obind (binP false .lss (pd ls 2) v70) fun v71 =>
 oif v71 (
 obind (
 obind (
 iterL (law32_FormsPushed_l20 n) n [(pd ls 0), (pd ls 1), (pd ls 2), (eB false), (eI 0), (pd ls 3), (pd ls 4), (pd ls 5), (pd ls 6), (pd ls 7), (pd ls 8)]
) <| jnX fun ls =>
 obind (unP .not (pd ls 3)) fun v97 =>
 oif v97 (
 inrX (
 inrX (
 inrX (
 inrX (
 inrX (
 inrX (
 some (eB false)
)
)
)
)
)
)
) (
 some (.inl [(pd ls 0), (pd ls 1), (pd ls 2), (pd ls 4), (pd ls 5), (pd ls 6), (pd ls 7), (pd ls 8), (pd ls 9)])
)
) <| jnX fun ls =>
 obind (binP false .add (pd ls 2) (eI 1)) fun v73 =>
 some (.inl [(pd ls 0), (pd ls 1), v73, (pd ls 3), (pd ls 4), (pd ls 5), (pd ls 6), (pd ls 7), (pd ls 8)])
) (
 inrX (
 some (.inl [(pd ls 0), (pd ls 1), (pd ls 3), (pd ls 4), (pd ls 5), (pd ls 6), (pd ls 7), (pd ls 8)])
)
)

def law32_FormsPushed_l8 (n : Nat) (ls : List D) : Option (List D ⊕ (List D ⊕ D)) :=
 obind (lenP (pd ls 0)) fun v46 =>
 obind (binP false .lss (pd ls 1) v46) fun v47 =>
 oif v47 (
 obind (
 obind (
 iterL (law32_FormsPushed_l11 n) n [(pd ls 0), (pd ls 1), (eI 0), (pd ls 2), (pd ls 3), (pd ls 4), (pd ls 5), (pd ls 6), (pd ls 7)]
) <| jnX fun ls =>
 obind (
 iterL (law32_FormsPushed_l16 n) n [(pd ls 0), (pd ls 1), (eI 0), (pd ls 2), (pd ls 3), (pd ls 4), (pd ls 5), (pd ls 6), (pd ls 7)]
) <| jnX fun ls =>
 some (.inl [(pd ls 0), (pd ls 1), (pd ls 2), (pd ls 3), (pd ls 4), (pd ls 5), (pd ls 6), (pd ls 7)])
) <| jnX fun ls =>
 obind (binP false .add (pd ls 1) (eI 1)) fun v49 =>
 some (.inl [(pd ls 0), v49, (pd ls 2), (pd ls 3), (pd ls 4), (pd ls 5), (pd ls 6), (pd ls 7)])
) (
 inrX (
 some (.inl [(pd ls 0), (pd ls 2), (pd ls 3), (pd ls 4), (pd ls 5), (pd ls 6), (pd ls 7)])
)
)

def law32_FormsPushed (n : Nat) (a0 : D) (a1 : D) : Option D :=
 og (aggP 6 a0) <|
 obind (ref32_ManyL n [(D.agg [(celD a0 0), (celD a0 1), (celD a0 2), (celD a0 3), (celD a0 4), (celD a0 5)]), (eI 60)]) fun v13 =>
 obind (unP .not v13) fun v14 =>
 obind (gD v14 false (
 obind (forms_CheckL n [(D.agg [(celD a0 0), (celD a0 1), (celD a0 2), (celD a0 3), (celD a0 4), (celD a0 5)])]) fun v17 =>
 obind (binP false .neq v17 (eI 0)) fun v18 =>
 some v18
)) fun v18 =>
 obind (pickP v14 (eB true) v18) fun v19 =>
 oif v19 (
 obind (law32_livesL n []) fun v20 =>
 some v20
) (
 obind (forms_PushL n [(D.agg [(celD a0 0), (celD a0 1), (celD a0 2), (celD a0 3), (celD a0 4), (celD a0 5)]), a1]) fun v23 =>
 og (aggP 6 v23) <|
 obind (ref32_PushedL n [(D.agg [(celD v23 0), (celD v23 1), (celD v23 2), (celD v23 3), (celD v23 4), (celD v23 5)])]) fun v25 =>
 obind (unP .not v25) fun v26 =>
 obind (gD v26 false (
 obind (forms_PushL n [(D.agg [(celD v23 0), (celD v23 1), (celD v23 2), (celD v23 3), (celD v23 4), (celD v23 5)]), (eB false)]) fun v29 =>
 obind (forms_SameL n [v29, (D.agg [(celD v23 0), (celD v23 1), (celD v23 2), (celD v23 3), (celD v23 4), (celD v23 5)])]) fun v31 =>
 obind (unP .not v31) fun v32 =>
 some v32
)) fun v32 =>
 obind (pickP v26 (eB true) v32) fun v33 =>
 obind (gD v33 false (
 obind (forms_NamesL n [(D.agg [(celD v23 0), (celD v23 1), (celD v23 2), (celD v23 3), (celD v23 4), (celD v23 5)])]) fun v36 =>
 obind (forms_NamesL n [(D.agg [(celD a0 0), (celD a0 1), (celD a0 2), (celD a0 3), (celD a0 4), (celD a0 5)])]) fun v38 =>
 obind (ref29_TextsL n [v36, v38]) fun v39 =>
 obind (unP .not v39) fun v40 =>
 some v40
)) fun v40 =>
 obind (pickP v33 (eB true) v40) fun v41 =>
 oif v41 (
 some (eB false)
) (
 obind (forms_PartsL n [(D.agg [(celD a0 0), (celD a0 1), (celD a0 2), (celD a0 3), (celD a0 4), (celD a0 5)])]) fun v43 =>
 obind (
 iterL (law32_FormsPushed_l8 n) n [v43, (eI 0), (celD a0 0), (celD a0 1), (celD a0 2), (celD a0 3), (celD a0 4), (celD a0 5)]
) <| jnX fun ls =>
 obind (lenP (pd ls 0)) fun v99 =>
 obind (binP false .gtr v99 (eI 0)) fun v100 =>
 obind (gD v100 true (
 obind (ixP 6 (pd ls 0) (eI 0)) fun c103 =>
 obind (atP true 6 0 c103) fun v104 =>
 obind (forms_SameL n [v104, (D.agg [(pd ls 1), (pd ls 2), (pd ls 3), (pd ls 4), (pd ls 5), (pd ls 6)])]) fun v106 =>
 some v106
)) fun v106 =>
 obind (pickP v100 v106 (eB false)) fun v107 =>
 obind (gD v107 true (
 obind (law32_livesL n []) fun v109 =>
 some v109
)) fun v109 =>
 obind (pickP v107 v109 (eB false)) fun v110 =>
 some v110
)
)

def law32_FormsPushedL (n : Nat) : List D → Option D
  | [a0, a1] => law32_FormsPushed n a0 a1
  | _ => none
end Go.Am
