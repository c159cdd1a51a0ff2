/- What each function of the seat computes, on data. No condition. -/
import Derived.Test.YtnhjgipcepnocaaEngC
set_option linter.all false
set_option linter.unnecessarySimpa false
namespace Go.Am
set_option linter.unusedVariables false
abbrev fid_law35_few : Nat := 9
abbrev fid_law35_lives : Nat := 10
abbrev fid_defs_Order : Nat := 11
abbrev fid_ref35_Order : Nat := 12
abbrev fid_defs_Ring : Nat := 13
abbrev fid_ref03_Same : Nat := 14
abbrev fid_ref30_Texts : Nat := 15
abbrev fid_ref35_Ring : Nat := 16
abbrev fid_law30_Light : Nat := 17
abbrev fid_defs_Inline : Nat := 18
abbrev fid_ref35_Inline : Nat := 19
abbrev fid_ref30_Same : Nat := 20
abbrev fid_ref30_Names : Nat := 21
abbrev fid_ref35_Index : Nat := 22
abbrev fid_law35_num : Nat := 23
abbrev fid_law35_name : Nat := 24
abbrev fid_law35_two : Nat := 25
abbrev fid_ref32_Many : Nat := 26
abbrev fid_defs_Form : Nat := 27
abbrev fid_ref35_Form : Nat := 28
abbrev fid_ref32_Same : Nat := 29
abbrev fid_law35_small : Nat := 30
abbrev fid_defs_Flat : Nat := 31
abbrev fid_ref35_Flat : Nat := 32
abbrev fid_ref35_Same : Nat := 33
abbrev fid_terms_Type : Nat := 34
abbrev fid_terms_Eval : Nat := 35
abbrev fid_ref30_Index : Nat := 36
abbrev fid_ref30_Parts : Nat := 37
abbrev fid_defs_links : Nat := 38
abbrev fid_ref35_Ringed : Nat := 39
abbrev fid_ref35_has : Nat := 40
abbrev fid_ref35_below : Nat := 41
abbrev fid_defs_reached : Nat := 42
abbrev fid_defs_ring : Nat := 43
abbrev fid_defs_less : Nat := 44
abbrev fid_ref30_With : Nat := 45
abbrev fid_ref35_ring : Nat := 46
abbrev fid_terms_Check : Nat := 47
abbrev fid_defs_names : Nat := 48
abbrev fid_terms_Names : Nat := 49
abbrev fid_defs_inline : Nat := 50
abbrev fid_ref30_Check : Nat := 51
abbrev fid_ref35_put : Nat := 52
abbrev fid_ref30_names : Nat := 53
abbrev fid_ref32_left : Nat := 54
abbrev fid_forms_Check : Nat := 55
abbrev fid_defs_Form_1 : Nat := 56
abbrev fid_ref32_Check : Nat := 57
abbrev fid_ref35_form : Nat := 58
abbrev fid_ref32_term : Nat := 59
abbrev fid_defs_all : Nat := 60
abbrev fid_defs_nexts : Nat := 61
abbrev fid_defs_specs : Nat := 62
abbrev fid_ref35_all : Nat := 63
abbrev fid_ref35_Defs : Nat := 64
abbrev fid_ref35_Terms : Nat := 65
abbrev fid_terms_typed : Nat := 66
abbrev fid_terms_names : Nat := 67
abbrev fid_terms_Eval_1 : Nat := 68
abbrev fid_terms_truth : Nat := 69
abbrev fid_num_Add : Nat := 70
abbrev fid_terms_joined : Nat := 71
abbrev fid_ref35_direct : Nat := 72
abbrev fid_defs_reached_1 : Nat := 73
abbrev fid_ref30_In : Nat := 74
abbrev fid_terms_walk : Nat := 75
abbrev fid_terms_Check_1 : Nat := 76
abbrev fid_terms_wrong : Nat := 77
abbrev fid_terms_Names_1 : Nat := 78
abbrev fid_terms_put : Nat := 79
abbrev fid_defs_inline_1 : Nat := 80
abbrev fid_ref30_check : Nat := 81
abbrev fid_ref30_Part : Nat := 82
abbrev fid_ref32_terms : Nat := 83
abbrev fid_forms_each : Nat := 84
abbrev fid_forms_Check_1 : Nat := 85
abbrev fid_forms_term : Nat := 86
abbrev fid_forms_kids : Nat := 87
abbrev fid_ref32_walk : Nat := 88
abbrev fid_terms_part : Nat := 89
abbrev fid_num_held : Nat := 90
abbrev fid_num_Mul : Nat := 91
abbrev fid_terms_kids : Nat := 92
abbrev fid_ref30_Kids : Nat := 93
abbrev fid_ref32_one : Nat := 94
abbrev fid_terms_span : Nat := 95
abbrev fid_terms_truths : Nat := 96
abbrev fid_terms_reckoned : Nat := 97
abbrev fid_math_bits_Mul64 : Nat := 98
abbrev fid_num_size : Nat := 99
abbrev fid_ref32_Kids : Nat := 100
abbrev fid_ref32_nothing : Nat := 101
def ref30_Parts_l3 (r_ref30_Parts : List D → Option D) (n : Nat) (ls : List D) : Option (List D ⊕ (List D ⊕ D)) :=
 obind (lenP (pd ls 6)) fun v12 =>
 obind (binP false .lss (pd ls 2) v12) fun v13 =>
 oif v13 (
 obind (ixP 4 (pd ls 6) (pd ls 2)) fun c20 =>
 obind (atP true 4 0 c20) fun v21 =>
 obind (r_ref30_Parts [v21]) fun v22 =>
 obind (extP 0 v22) fun v23 =>
 obind (extP 1 v22) fun v24 =>
 obind (binP false .add (pd ls 0) v23) fun v27 =>
 obind (mmP true [(pd ls 1), v24]) fun v30 =>
 obind (binP false .add (pd ls 2) (eI 1)) fun v15 =>
 some (.inl [v27, v30, v15, (pd ls 3), (pd ls 4), (pd ls 5), (pd ls 6)])
) (
 inrX (
 some (.inl [(pd ls 0), (pd ls 1)])
)
)

def ref30_Parts (r_ref30_Parts : List D → Option D) (n : Nat) (a0 : D) : Option D :=
 og (aggP 4 a0) <|
 obind (
 iterL (ref30_Parts_l3 r_ref30_Parts n) n [(eI 1), (eI 0), (eI 0), (celD a0 0), (celD a0 1), (celD a0 2), (celD a0 3)]
) <| jnX fun ls =>
 obind (binP false .add (pd ls 1) (eI 1)) fun v33 =>
 some (D.tup [(pd ls 0), v33])

def ref30_PartsL : Nat → List D → Option D
  | 0, _ => none
  | n + 1, ds => match ds with
    | [a0] => ref30_Parts (ref30_PartsL n) n a0
    | _ => none
def law35_few_l2 (n : Nat) (ls : List D) : Option (List D ⊕ (List D ⊕ D)) :=
 obind (lenP (pd ls 0)) fun v8 =>
 obind (binP false .lss (pd ls 1) v8) fun v9 =>
 oif v9 (
 obind (ixP 5 (pd ls 0) (pd ls 1)) fun c15 =>
 obind (atP true 4 1 c15) fun v17 =>
 obind (ref30_PartsL n [v17]) fun v18 =>
 obind (extP 0 v18) fun v19 =>
 obind (extP 1 v18) fun v20 =>
 obind (binP false .gtr v19 (eI 60)) fun v22 =>
 obind (gD v22 false (
 obind (binP false .gtr v20 (eI 70)) fun v25 =>
 some v25
)) fun v25 =>
 obind (pickP v22 (eB true) v25) fun v26 =>
 oif v26 (
 inrX (
 inrX (
 some (eB false)
)
)
) (
 obind (binP false .add (pd ls 1) (eI 1)) fun v11 =>
 some (.inl [(pd ls 0), v11])
)
) (
 inrX (
 some (.inl [(pd ls 0)])
)
)

def law35_few (n : Nat) (a0 : D) : Option D :=
 obind (
 iterL (law35_few_l2 n) n [a0, (eI 0)]
) <| jnX fun ls =>
 obind (lenP (pd ls 0)) fun v28 =>
 obind (binP false .leq v28 (eI 8)) fun v29 =>
 some v29

def law35_fewL (n : Nat) : List D → Option D
  | [a0] => law35_few n a0
  | _ => none
def law35_name (n : Nat) (a0 : D) : Option D :=
 og (oneP a0) <|
 og (aggP 4 (D.agg [(eI 3), (eI 0), a0, (D.val (.slice none 0 0))])) <|
 some (D.agg [(eI 3), (eI 0), a0, (D.val (.slice none 0 0))])

def law35_nameL (n : Nat) : List D → Option D
  | [a0] => law35_name n a0
  | _ => none
def law35_num (n : Nat) (a0 : D) : Option D :=
 og (oneP a0) <|
 og (aggP 4 (D.agg [(eI 1), a0, (eS ⟨#[]⟩), (D.val (.slice none 0 0))])) <|
 some (D.agg [(eI 1), a0, (eS ⟨#[]⟩), (D.val (.slice none 0 0))])

def law35_numL (n : Nat) : List D → Option D
  | [a0] => law35_num n a0
  | _ => none
def law35_two (n : Nat) (a0 : D) (a1 : D) (a2 : D) : Option D :=
 og (aggP 4 a1) <|
 og (aggP 4 a2) <|
 og (aggP 4 (D.agg [(celD a1 0), (celD a1 1), (celD a1 2), (celD a1 3)])) <|
 og (aggP 4 (D.agg [(celD a2 0), (celD a2 1), (celD a2 2), (celD a2 3)])) <|
 og (oneP a0) <|
 og (oneP a0) <|
 some (D.agg [a0, (eI 0), (eS ⟨#[]⟩), (D.sl 4 [[(celD a1 0), (celD a1 1), (celD a1 2), (celD a1 3)], [(celD a2 0), (celD a2 1), (celD a2 2), (celD a2 3)]])])

def law35_twoL (n : Nat) : List D → Option D
  | [a0, a1, a2] => law35_two n a0 a1 a2
  | _ => none
def defs_names_l3 (n : Nat) (ls : List D) : Option (List D ⊕ (List D ⊕ D)) :=
 obind (binP false .lss (pd ls 2) (pd ls 1)) fun v12 =>
 oif v12 (
 obind (
 obind (ixP 5 (pd ls 0) (pd ls 2)) fun c14 =>
 obind (atP true 5 0 c14) fun v15 =>
 og (aggP 5 v15) <|
 obind (lookP (.string) (.int .i64 0) true (mpD (pd ls 3)) (celD v15 0)) fun v20 =>
 obind (extP 0 v20) fun v21 =>
 obind (extP 1 v20) fun v22 =>
 obind (unP .not v22) fun v24 =>
 obind (
 oif v24 (
 obind (putP (.string) (mpD (pd ls 3)) (celD v15 0) (pd ls 2)) fun m8_1 =>
 some (.inl [(pd ls 0), (pd ls 1), (pd ls 2), (D.mp m8_1)])
) (
 some (.inl [(pd ls 0), (pd ls 1), (pd ls 2), (D.mp (mpD (pd ls 3)))])
)
) <| jnX fun ls =>
 some (.inl [(pd ls 0), (pd ls 1), (pd ls 2), (D.mp (mpD (pd ls 3)))])
) <| jnX fun ls =>
 obind (binP false .add (pd ls 2) (eI 1)) fun v29 =>
 some (.inl [(pd ls 0), (pd ls 1), v29, (D.mp (mpD (pd ls 3)))])
) (
 inrX (
 some (.inl [(D.mp (mpD (pd ls 3)))])
)
)

def defs_names (n : Nat) (a0 : D) : Option D :=
 obind (lenP a0) fun v10 =>
 obind (
 iterL (defs_names_l3 n) n [a0, v10, (eI 0), (D.mp [])]
) <| jnX fun ls =>
 some (D.mp (mpD (pd ls 0)))

def defs_namesL (n : Nat) : List D → Option D
  | [a0] => defs_names n a0
  | _ => none
def terms_put_h_l2 (n : Nat) (ls : List D) : Option (List D ⊕ (List D ⊕ (List D))) :=
 obind (binP false .gtr (pd ls 1) (eI 0)) fun v9 =>
 obind (gD v9 true (
 obind (binP false .sub (pd ls 1) (eI 1)) fun v13 =>
 obind (numP ((esD (pd ls 2))).length v13) fun j14 =>
 obind (((esD (pd ls 2)))[j14]?) fun e15 =>
 obind (atP false 1 0 e15) fun v15 =>
 obind (binP false .gtr v15 (pd ls 0)) fun v17 =>
 some v17
)) fun v17 =>
 obind (pickP v9 v17 (eB false)) fun v18 =>
 oif v18 (
 obind (binP false .sub (pd ls 1) (eI 1)) fun v20 =>
 some (.inl [(pd ls 0), v20, (D.sl 1 (esD (pd ls 2)))])
) (
 inrX (
 some (.inl [(pd ls 0), (pd ls 1), (D.sl 1 (esD (pd ls 2)))])
)
)

def terms_put_h (n : Nat) (ls : List D) : Option (List D) :=
 obind (
 iterL (terms_put_h_l2 n) n [(pd ls 0), (eI ((esD (pd ls 1))).length), (D.sl 1 (esD (pd ls 1)))]
) <| jnX fun ls =>
 obind (binP false .gtr (pd ls 1) (eI 0)) fun v22 =>
 obind (gD v22 true (
 obind (binP false .sub (pd ls 1) (eI 1)) fun v26 =>
 obind (numP ((esD (pd ls 2))).length v26) fun j27 =>
 obind (((esD (pd ls 2)))[j27]?) fun e28 =>
 obind (atP false 1 0 e28) fun v28 =>
 obind (binP false .eql v28 (pd ls 0)) fun v30 =>
 some v30
)) fun v30 =>
 obind (pickP v22 v30 (eB false)) fun v31 =>
 oif v31 (
 some [(D.sl 1 (esD (pd ls 2)))]
) (
 og (roomP (((esD (pd ls 2))).length + ([[(eS ⟨#[]⟩)]]).length) 16) <|
 obind (binP false .add (pd ls 1) (eI 1)) fun v38 =>
 obind (cutP (((esD (pd ls 2)) ++ [[(eS ⟨#[]⟩)]])).length (some v38) none) fun p39 =>
 obind (cutP (((esD (pd ls 2)) ++ [[(eS ⟨#[]⟩)]])).length (some (pd ls 1)) none) fun p42 =>
 og (decide (p42.1 + p42.2 ≤ (((esD (pd ls 2)) ++ [[(eS ⟨#[]⟩)]])).length)) <|
 og (decide (p39.1 + p39.2 ≤ (((esD (pd ls 2)) ++ [[(eS ⟨#[]⟩)]])).length)) <|
 obind (numP (((((esD (pd ls 2)) ++ [[(eS ⟨#[]⟩)]])).take p39.1 ++ (((((esD (pd ls 2)) ++ [[(eS ⟨#[]⟩)]])).drop p42.1).take p42.2).take (min (((((esD (pd ls 2)) ++ [[(eS ⟨#[]⟩)]])).drop p42.1).take p42.2).length p39.2) ++ (((esD (pd ls 2)) ++ [[(eS ⟨#[]⟩)]])).drop (p39.1 + (min (((((esD (pd ls 2)) ++ [[(eS ⟨#[]⟩)]])).drop p42.1).take p42.2).length p39.2)))).length (pd ls 1)) fun j47 =>
 og (oneP (pd ls 0)) <|
 obind ((((((esD (pd ls 2)) ++ [[(eS ⟨#[]⟩)]])).take p39.1 ++ (((((esD (pd ls 2)) ++ [[(eS ⟨#[]⟩)]])).drop p42.1).take p42.2).take (min (((((esD (pd ls 2)) ++ [[(eS ⟨#[]⟩)]])).drop p42.1).take p42.2).length p39.2) ++ (((esD (pd ls 2)) ++ [[(eS ⟨#[]⟩)]])).drop (p39.1 + (min (((((esD (pd ls 2)) ++ [[(eS ⟨#[]⟩)]])).drop p42.1).take p42.2).length p39.2))))[j47]?) fun w1 =>
 some [(D.sl 1 ((((((esD (pd ls 2)) ++ [[(eS ⟨#[]⟩)]])).take p39.1 ++ (((((esD (pd ls 2)) ++ [[(eS ⟨#[]⟩)]])).drop p42.1).take p42.2).take (min (((((esD (pd ls 2)) ++ [[(eS ⟨#[]⟩)]])).drop p42.1).take p42.2).length p39.2) ++ (((esD (pd ls 2)) ++ [[(eS ⟨#[]⟩)]])).drop (p39.1 + (min (((((esD (pd ls 2)) ++ [[(eS ⟨#[]⟩)]])).drop p42.1).take p42.2).length p39.2)))).set j47 (setSegD w1 0 [(pd ls 0)])))]
)

def terms_Names_1_h (n : Nat) (ls : List D) : Option (List D) :=
 og (aggP 4 (pd ls 0)) <|
 obind (
 obind (binP false .eql (celD (pd ls 0) 0) (eI 3)) fun v10 =>
 obind (
 oif v10 (
 obind (terms_put_h n [(celD (pd ls 0) 2), (D.sl 1 (esD (pd ls 2)))]) fun h1 =>
 some (.inl [(D.sl 1 (esD (pd h1 0))), (D.sl 1 (esD (pd ls 3)))])
) (
 obind (binP false .eql (celD (pd ls 0) 0) (eI 4)) fun v16 =>
 obind (
 oif v16 (
 obind (terms_put_h n [(celD (pd ls 0) 2), (D.sl 1 (esD (pd ls 3)))]) fun h2 =>
 some (.inl [(D.sl 1 (esD (pd ls 2))), (D.sl 1 (esD (pd h2 0)))])
) (
 some (.inl [(D.sl 1 (esD (pd ls 2))), (D.sl 1 (esD (pd ls 3)))])
)
) <| jnX fun ls =>
 some (.inl [(D.sl 1 (esD (pd ls 0))), (D.sl 1 (esD (pd ls 1)))])
)
) <| jnX fun ls =>
 some (.inl [(D.sl 1 (esD (pd ls 0))), (D.sl 1 (esD (pd ls 1)))])
) <| jnX fun ls =>
 some [(eB true), (D.sl 1 (esD (pd ls 0))), (D.sl 1 (esD (pd ls 1)))]

def terms_walk_h_terms_Names_1_l4 (r_terms_walk_h_terms_Names_1 : List D → Option (List D)) (n : Nat) (ls : List D) : Option (List D ⊕ (List D ⊕ (List D))) :=
 obind (binP false .lss (pd ls 3) (pd ls 2)) fun v18 =>
 oif v18 (
 obind (ixP 4 (pd ls 1) (pd ls 3)) fun c19 =>
 obind (atP true 4 0 c19) fun v20 =>
 og (aggP 4 v20) <|
 obind (binP false .add (pd ls 0) (eI 1)) fun v23 =>
 obind (r_terms_walk_h_terms_Names_1 [(D.agg [(celD v20 0), (celD v20 1), (celD v20 2), (celD v20 3)]), v23, (D.sl 1 (esD (pd ls 4))), (D.sl 1 (esD (pd ls 5)))]) fun h2 =>
 obind (unP .not (pd h2 0)) fun v26 =>
 oif v26 (
 inrX (
 inrX (
 some [(eB false), (D.sl 1 (esD (pd h2 1))), (D.sl 1 (esD (pd h2 2)))]
)
)
) (
 obind (binP false .add (pd ls 3) (eI 1)) fun v27 =>
 some (.inl [(pd ls 0), (pd ls 1), (pd ls 2), v27, (D.sl 1 (esD (pd h2 1))), (D.sl 1 (esD (pd h2 2)))])
)
) (
 inrX (
 some (.inl [(D.sl 1 (esD (pd ls 4))), (D.sl 1 (esD (pd ls 5)))])
)
)

def terms_walk_h_terms_Names_1 (r_terms_walk_h_terms_Names_1 : List D → Option (List D)) (n : Nat) (ls : List D) : Option (List D) :=
 og (aggP 4 (pd ls 0)) <|
 obind (terms_Names_1_h n [(D.agg [(celD (pd ls 0) 0), (celD (pd ls 0) 1), (celD (pd ls 0) 2), (celD (pd ls 0) 3)]), (pd ls 1), (D.sl 1 (esD (pd ls 2))), (D.sl 1 (esD (pd ls 3)))]) fun h1 =>
 obind (unP .not (pd h1 0)) fun v13 =>
 oif v13 (
 some [(eB false), (D.sl 1 (esD (pd h1 1))), (D.sl 1 (esD (pd h1 2)))]
) (
 obind (lenP (celD (pd ls 0) 3)) fun v16 =>
 obind (
 iterL (terms_walk_h_terms_Names_1_l4 r_terms_walk_h_terms_Names_1 n) n [(pd ls 1), (celD (pd ls 0) 3), v16, (eI 0), (D.sl 1 (esD (pd h1 1))), (D.sl 1 (esD (pd h1 2)))]
) <| jnX fun ls =>
 some [(eB true), (D.sl 1 (esD (pd ls 0))), (D.sl 1 (esD (pd ls 1)))]
)

def terms_walk_h_terms_Names_1L : Nat → List D → Option (List D)
  | 0, _ => none
  | n + 1, ls => terms_walk_h_terms_Names_1 (terms_walk_h_terms_Names_1L n) n ls
def terms_Names (n : Nat) (a0 : D) : Option D :=
 og (aggP 4 a0) <|
 obind (terms_walk_h_terms_Names_1L n [(D.agg [(celD a0 0), (celD a0 1), (celD a0 2), (celD a0 3)]), (eI 1), (D.sl 1 []), (D.sl 1 [])]) fun h1 =>
 some (D.tup [(D.sl 1 (esD (pd h1 1))), (D.sl 1 (esD (pd h1 2)))])

def terms_NamesL (n : Nat) : List D → Option D
  | [a0] => terms_Names n a0
  | _ => none
def defs_links_l9 (n : Nat) (ls : List D) : Option (List D ⊕ (List D ⊕ (List D ⊕ (List D ⊕ (List D ⊕ D))))) :=
 obind (binP false .lss (pd ls 6) (pd ls 5)) fun v31 =>
 oif v31 (
 obind (
 obind (ixP 1 (pd ls 4) (pd ls 6)) fun c32 =>
 obind (atP false 1 0 c32) fun v33 =>
 obind (entP (pd ls 0)) fun es37 =>
 obind (lookP (.string) (.int .i64 0) true es37 v33) fun v37 =>
 obind (extP 0 v37) fun v38 =>
 obind (extP 1 v37) fun v39 =>
 obind (
 oif v39 (
 og (oneP v38) <|
 og (roomP (((esD (pd ls 8))).length + ([[v38]]).length) 8) <|
 some (.inl [(pd ls 0), (pd ls 1), (pd ls 2), (pd ls 3), (pd ls 4), (pd ls 5), (pd ls 6), (D.sl 1 (esD (pd ls 7))), (D.sl 1 ((esD (pd ls 8)) ++ [[v38]]))])
) (
 some (.inl [(pd ls 0), (pd ls 1), (pd ls 2), (pd ls 3), (pd ls 4), (pd ls 5), (pd ls 6), (D.sl 1 (esD (pd ls 7))), (D.sl 1 (esD (pd ls 8)))])
)
) <| jnX fun ls =>
 some (.inl [(pd ls 0), (pd ls 1), (pd ls 2), (pd ls 3), (pd ls 4), (pd ls 5), (pd ls 6), (D.sl 1 (esD (pd ls 7))), (D.sl 1 (esD (pd ls 8)))])
) <| jnX fun ls =>
 obind (binP false .add (pd ls 6) (eI 1)) fun v45 =>
 some (.inl [(pd ls 0), (pd ls 1), (pd ls 2), (pd ls 3), (pd ls 4), (pd ls 5), v45, (D.sl 1 (esD (pd ls 7))), (D.sl 1 (esD (pd ls 8)))])
) (
 inrX (
 some (.inl [(pd ls 0), (pd ls 1), (pd ls 2), (pd ls 3), (D.sl 1 (esD (pd ls 7))), (D.sl 1 (esD (pd ls 8)))])
)
)

def defs_links_l4 (n : Nat) (ls : List D) : Option (List D ⊕ (List D ⊕ D)) :=
 obind (binP false .lss (pd ls 3) (pd ls 2)) fun v19 =>
 oif v19 (
 obind (
 obind (ixP 5 (pd ls 1) (pd ls 3)) fun c20 =>
 obind (atP true 5 0 c20) fun v21 =>
 og (aggP 5 v21) <|
 obind (terms_NamesL n [(D.agg [(celD v21 1), (celD v21 2), (celD v21 3), (celD v21 4)])]) fun v25 =>
 obind (extP 0 v25) fun v26 =>
 obind (extP 1 v25) fun v27 =>
 obind (lenP v26) fun v29 =>
 obind (
 iterL (defs_links_l9 n) n [(pd ls 0), (pd ls 1), (pd ls 2), (pd ls 3), v26, v29, (eI 0), (D.sl 1 (esD (pd ls 4))), (D.sl 1 [])]
) <| jnX fun ls =>
 og (oneP (D.sl 1 (esD (pd ls 5)))) <|
 og (roomP (((esD (pd ls 4))).length + ([[(D.sl 1 (esD (pd ls 5)))]]).length) 24) <|
 some (.inl [(pd ls 0), (pd ls 1), (pd ls 2), (pd ls 3), (D.sl 1 ((esD (pd ls 4)) ++ [[(D.sl 1 (esD (pd ls 5)))]]))])
) <| jnX fun ls =>
 obind (binP false .add (pd ls 3) (eI 1)) fun v50 =>
 some (.inl [(pd ls 0), (pd ls 1), (pd ls 2), v50, (D.sl 1 (esD (pd ls 4)))])
) (
 inrX (
 some (.inl [(D.sl 1 (esD (pd ls 4)))])
)
)

def defs_links (n : Nat) (a0 : D) : Option D :=
 obind (defs_namesL n [a0]) fun v15 =>
 obind (lenP a0) fun v17 =>
 obind (
 iterL (defs_links_l4 n) n [v15, a0, v17, (eI 0), (D.sl 1 [])]
) <| jnX fun ls =>
 some (D.sl 1 (esD (pd ls 0)))

def defs_linksL (n : Nat) : List D → Option D
  | [a0] => defs_links n a0
  | _ => none
def defs_Order_l10 (n : Nat) (ls : List D) : Option (List D ⊕ (List D ⊕ (List D ⊕ (List D ⊕ (List D ⊕ (List D ⊕ (List D ⊕ (List D ⊕ D)))))))) :=
 obind (binP false .lss (pd ls 9) (pd ls 8)) fun v34 =>
 oif v34 (
 obind (ixP 1 (pd ls 7) (pd ls 9)) fun c35 =>
 obind (atP false 1 0 c35) fun v36 =>
 obind (gD (pd ls 4) true (
 obind (lookP (.int .i64) (.bool false) false (mpD (pd ls 11)) v36) fun v41 =>
 some v41
)) fun v41 =>
 obind (pickP (pd ls 4) v41 (eB false)) fun v42 =>
 obind (binP false .add (pd ls 9) (eI 1)) fun v43 =>
 some (.inl [(pd ls 0), (pd ls 1), (pd ls 2), (pd ls 3), v42, (pd ls 5), (pd ls 6), (pd ls 7), (pd ls 8), v43, (D.sl 1 (esD (pd ls 10))), (D.mp (mpD (pd ls 11)))])
) (
 inrX (
 some (.inl [(pd ls 0), (pd ls 1), (pd ls 2), (pd ls 3), (pd ls 4), (pd ls 5), (pd ls 6), (D.sl 1 (esD (pd ls 10))), (D.mp (mpD (pd ls 11)))])
)
)

def defs_Order_l6 (n : Nat) (ls : List D) : Option (List D ⊕ (List D ⊕ (List D ⊕ (List D ⊕ (List D ⊕ D))))) :=
 obind (binP false .lss (pd ls 4) (pd ls 3)) fun v22 =>
 oif v22 (
 obind (
 obind (lookP (.int .i64) (.bool false) false (mpD (pd ls 6)) (pd ls 4)) fun v26 =>
 obind (unP .not v26) fun v27 =>
 obind (ixP 1 (pd ls 1) (pd ls 4)) fun c30 =>
 obind (atP false 1 0 c30) fun v31 =>
 obind (lenP v31) fun v32 =>
 obind (
 iterL (defs_Order_l10 n) n [(pd ls 0), (pd ls 1), (pd ls 2), (pd ls 4), v27, (pd ls 3), (pd ls 4), v31, v32, (eI 0), (D.sl 1 (esD (pd ls 5))), (D.mp (mpD (pd ls 6)))]
) <| jnX fun ls =>
 oif (pd ls 4) (
 inrX (
 inrX (
 some (.inl [(pd ls 0), (pd ls 1), (pd ls 3), (D.sl 1 (esD (pd ls 7))), (D.mp (mpD (pd ls 8)))])
)
)
) (
 some (.inl [(pd ls 0), (pd ls 1), (pd ls 2), (pd ls 5), (pd ls 6), (D.sl 1 (esD (pd ls 7))), (D.mp (mpD (pd ls 8)))])
)
) <| jnX fun ls =>
 obind (binP false .add (pd ls 4) (eI 1)) fun v46 =>
 some (.inl [(pd ls 0), (pd ls 1), (pd ls 2), (pd ls 3), v46, (D.sl 1 (esD (pd ls 5))), (D.mp (mpD (pd ls 6)))])
) (
 inrX (
 some (.inl [(pd ls 0), (pd ls 1), (pd ls 2), (D.sl 1 (esD (pd ls 5))), (D.mp (mpD (pd ls 6)))])
)
)

def defs_Order_l3 (n : Nat) (ls : List D) : Option (List D ⊕ (List D ⊕ D)) :=
 obind (lenP (pd ls 0)) fun v17 =>
 obind (binP false .lss (eI ((esD (pd ls 2))).length) v17) fun v18 =>
 oif v18 (
 obind (
 obind (lenP (pd ls 0)) fun v20 =>
 obind (
 iterL (defs_Order_l6 n) n [(pd ls 0), (pd ls 1), (eI (-1)), v20, (eI 0), (D.sl 1 (esD (pd ls 2))), (D.mp (mpD (pd ls 3)))]
) <| jnX fun ls =>
 obind (binP false .lss (pd ls 2) (eI 0)) fun v48 =>
 oif v48 (
 inrX (
 inrX (
 inrX (
 some (D.tup [(D.val (.slice none 0 0)), (eI 14)])
)
)
)
) (
 obind (putP (.int .i64) (mpD (pd ls 4)) (pd ls 2) (eB true)) fun m13_2 =>
 og (oneP (pd ls 2)) <|
 og (roomP (((esD (pd ls 3))).length + ([[(pd ls 2)]]).length) 8) <|
 some (.inl [(pd ls 0), (pd ls 1), (D.sl 1 ((esD (pd ls 3)) ++ [[(pd ls 2)]])), (D.mp m13_2)])
)
) <| jnX fun ls =>
 some (.inl [(pd ls 0), (pd ls 1), (D.sl 1 (esD (pd ls 2))), (D.mp (mpD (pd ls 3)))])
) (
 inrX (
 some (.inl [(D.sl 1 (esD (pd ls 2)))])
)
)

def defs_Order (n : Nat) (a0 : D) : Option D :=
 obind (defs_linksL n [a0]) fun v12 =>
 obind (
 iterL (defs_Order_l3 n) n [a0, v12, (D.sl 1 []), (D.mp [])]
) <| jnX fun ls =>
 some (D.tup [(D.sl 1 (esD (pd ls 0))), (eI 0)])

def defs_OrderL (n : Nat) : List D → Option D
  | [a0] => defs_Order n a0
  | _ => none
def terms_kids (n : Nat) (a0 : D) : Option D :=
 obind (binP false .eql a0 (eI 1)) fun v6 =>
 obind (
 oif v6 (
 some (.inl [a0, v6])
) (
 obind (binP false .eql a0 (eI 2)) fun v7 =>
 obind (
 oif v7 (
 some (.inl [a0, v7])
) (
 obind (binP false .eql a0 (eI 3)) fun v8 =>
 obind (
 oif v8 (
 some (.inl [a0, v8])
) (
 obind (binP false .eql a0 (eI 4)) fun v9 =>
 some (.inl [a0, v9])
)
) <| jnX fun ls =>
 some (.inl [(pd ls 0), (pd ls 1)])
)
) <| jnX fun ls =>
 some (.inl [(pd ls 0), (pd ls 1)])
)
) <| jnX fun ls =>
 oif (pd ls 1) (
 some (D.tup [(eI 0), (eI 0)])
) (
 obind (binP false .eql (pd ls 0) (eI 5)) fun v11 =>
 oif v11 (
 some (D.tup [(eI 1), (eI 1)])
) (
 obind (binP false .eql (pd ls 0) (eI 6)) fun v13 =>
 obind (
 oif v13 (
 some (.inl [(pd ls 0), v13])
) (
 obind (binP false .eql (pd ls 0) (eI 7)) fun v14 =>
 some (.inl [(pd ls 0), v14])
)
) <| jnX fun ls =>
 oif (pd ls 1) (
 some (D.tup [(eI 1), (eI 64)])
) (
 obind (binP false .eql (pd ls 0) (eI 8)) fun v16 =>
 obind (
 oif v16 (
 some (.inl [(pd ls 0), v16])
) (
 obind (binP false .eql (pd ls 0) (eI 9)) fun v17 =>
 obind (
 oif v17 (
 some (.inl [(pd ls 0), v17])
) (
 obind (binP false .eql (pd ls 0) (eI 10)) fun v18 =>
 obind (
 oif v18 (
 some (.inl [(pd ls 0), v18])
) (
 obind (binP false .eql (pd ls 0) (eI 11)) fun v19 =>
 obind (
 oif v19 (
 some (.inl [(pd ls 0), v19])
) (
 obind (binP false .eql (pd ls 0) (eI 12)) fun v20 =>
 obind (
 oif v20 (
 some (.inl [(pd ls 0), v20])
) (
 obind (binP false .eql (pd ls 0) (eI 13)) fun v21 =>
 obind (
 oif v21 (
 some (.inl [(pd ls 0), v21])
) (
 obind (binP false .eql (pd ls 0) (eI 14)) fun v22 =>
 obind (
 oif v22 (
 some (.inl [(pd ls 0), v22])
) (
 obind (binP false .eql (pd ls 0) (eI 15)) fun v23 =>
 obind (
 oif v23 (
 some (.inl [(pd ls 0), v23])
) (
 obind (binP false .eql (pd ls 0) (eI 16)) fun v24 =>
 obind (
 oif v24 (
 some (.inl [(pd ls 0), v24])
) (
 obind (binP false .eql (pd ls 0) (eI 17)) fun v25 =>
 some (.inl [(pd ls 0), v25])
)
) <| jnX fun ls =>
 some (.inl [(pd ls 0), (pd ls 1)])
)
) <| jnX fun ls =>
 some (.inl [(pd ls 0), (pd ls 1)])
)
) <| jnX fun ls =>
 some (.inl [(pd ls 0), (pd ls 1)])
)
) <| jnX fun ls =>
 some (.inl [(pd ls 0), (pd ls 1)])
)
) <| jnX fun ls =>
 some (.inl [(pd ls 0), (pd ls 1)])
)
) <| jnX fun ls =>
 some (.inl [(pd ls 0), (pd ls 1)])
)
) <| jnX fun ls =>
 some (.inl [(pd ls 0), (pd ls 1)])
)
) <| jnX fun ls =>
 some (.inl [(pd ls 0), (pd ls 1)])
)
) <| jnX fun ls =>
 oif (pd ls 1) (
 some (D.tup [(eI 2), (eI 2)])
) (
 obind (binP false .eql (pd ls 0) (eI 18)) fun v27 =>
 oif v27 (
 some (D.tup [(eI 3), (eI 3)])
) (
 some (D.tup [(eI (-1)), (eI (-1))])
)
)
)
)
)

def terms_kidsL (n : Nat) : List D → Option D
  | [a0] => terms_kids n a0
  | _ => none
def terms_wrong (n : Nat) (a0 : D) : Option D :=
 og (aggP 4 a0) <|
 obind (terms_kidsL n [(celD a0 0)]) fun v11 =>
 obind (extP 0 v11) fun v12 =>
 obind (extP 1 v11) fun v13 =>
 obind (binP false .lss v12 (eI 0)) fun v15 =>
 oif v15 (
 some (eI 11)
) (
 obind (
 obind (binP false .eql (celD a0 0) (eI 1)) fun v19 =>
 obind (
 oif v19 (
 some (.inl [v12, v13, (eI (-255)), (eI 255), (celD a0 0), (celD a0 1), (celD a0 2), (celD a0 3)])
) (
 obind (binP false .eql (celD a0 0) (eI 2)) fun v21 =>
 obind (
 oif v21 (
 some (.inl [v12, v13, (eI 0), (eI 1), (celD a0 0), (celD a0 1), (celD a0 2), (celD a0 3)])
) (
 some (.inl [v12, v13, (eI 0), (eI 0), (celD a0 0), (celD a0 1), (celD a0 2), (celD a0 3)])
)
) <| jnX fun ls =>
 some (.inl [(pd ls 0), (pd ls 1), (pd ls 2), (pd ls 3), (pd ls 4), (pd ls 5), (pd ls 6), (pd ls 7)])
)
) <| jnX fun ls =>
 some (.inl [(pd ls 0), (pd ls 1), (pd ls 2), (pd ls 3), (pd ls 4), (pd ls 5), (pd ls 6), (pd ls 7)])
) <| jnX fun ls =>
 obind (binP false .eql (pd ls 4) (eI 3)) fun v24 =>
 obind (gD v24 false (
 obind (binP false .eql (pd ls 4) (eI 4)) fun v28 =>
 some v28
)) fun v28 =>
 obind (pickP v24 (eB true) v28) fun v29 =>
 obind (binP false .lss (pd ls 5) (pd ls 2)) fun v34 =>
 obind (gD v34 false (
 obind (binP false .gtr (pd ls 5) (pd ls 3)) fun v39 =>
 some v39
)) fun v39 =>
 obind (pickP v34 (eB true) v39) fun v40 =>
 oif v40 (
 some (eI 2)
) (
 obind (gD v29 true (
 obind (binP false .eql (pd ls 6) (eS ⟨#[]⟩)) fun v46 =>
 some v46
)) fun v47 =>
 obind (gD v47 false (
 obind (lensP (pd ls 6)) fun v50 =>
 obind (binP false .gtr v50 (eI 24)) fun v51 =>
 some v51
)) fun v51 =>
 obind (gD v29 true (
 obind (pickP v47 (eB true) v51) fun v52 =>
 some v52
)) fun v52 =>
 obind (pickP v29 v52 (eB false)) fun v53 =>
 obind (gD v53 false (
 obind (unP .not v29) fun v56 =>
 some v56
)) fun v57 =>
 obind (gD v57 true (
 obind (binP false .neq (pd ls 6) (eS ⟨#[]⟩)) fun v60 =>
 some v60
)) fun v60 =>
 obind (gD v53 false (
 obind (pickP v57 v60 (eB false)) fun v61 =>
 some v61
)) fun v61 =>
 obind (pickP v53 (eB true) v61) fun v62 =>
 oif v62 (
 some (eI 12)
) (
 obind (lenP (pd ls 7)) fun v66 =>
 obind (binP false .lss v66 (pd ls 0)) fun v68 =>
 obind (gD v68 false (
 obind (lenP (pd ls 7)) fun v72 =>
 obind (binP false .gtr v72 (pd ls 1)) fun v74 =>
 some v74
)) fun v74 =>
 obind (pickP v68 (eB true) v74) fun v75 =>
 oif v75 (
 some (eI 3)
) (
 some (eI 0)
)
)
)
)

def terms_wrongL (n : Nat) : List D → Option D
  | [a0] => terms_wrong n a0
  | _ => none
def terms_Check_1_h (n : Nat) (ls : List D) : Option (List D) :=
 og (aggP 4 (pd ls 0)) <|
 obind (binP false .add (pd ls 2) (eI 1)) fun v8 =>
 og (oneP v8) <|
 obind (binP false .gtr (pd ls 1) (eI 64)) fun v10 =>
 obind (
 oif v10 (
 some (.inl [(eI 17), v8])
) (
 obind (terms_wrongL n [(D.agg [(celD (pd ls 0) 0), (celD (pd ls 0) 1), (celD (pd ls 0) 2), (celD (pd ls 0) 3)])]) fun v12 =>
 og (oneP v12) <|
 obind (binP false .eql v12 (eI 0)) fun v14 =>
 obind (gD v14 true (
 obind (binP false .gtr v8 (eI 4096)) fun v17 =>
 some v17
)) fun v17 =>
 obind (pickP v14 v17 (eB false)) fun v18 =>
 obind (
 oif v18 (
 some (.inl [(eI 4), v8])
) (
 some (.inl [v12, v8])
)
) <| jnX fun ls =>
 some (.inl [(pd ls 0), (pd ls 1)])
)
) <| jnX fun ls =>
 obind (binP false .eql (pd ls 0) (eI 0)) fun v20 =>
 some [v20, (pd ls 1), (pd ls 0)]

def terms_walk_h_terms_Check_1_l4 (r_terms_walk_h_terms_Check_1 : List D → Option (List D)) (n : Nat) (ls : List D) : Option (List D ⊕ (List D ⊕ (List D))) :=
 obind (binP false .lss (pd ls 3) (pd ls 2)) fun v18 =>
 oif v18 (
 obind (ixP 4 (pd ls 1) (pd ls 3)) fun c19 =>
 obind (atP true 4 0 c19) fun v20 =>
 og (aggP 4 v20) <|
 obind (binP false .add (pd ls 0) (eI 1)) fun v23 =>
 obind (r_terms_walk_h_terms_Check_1 [(D.agg [(celD v20 0), (celD v20 1), (celD v20 2), (celD v20 3)]), v23, (pd ls 4), (pd ls 5)]) fun h2 =>
 obind (unP .not (pd h2 0)) fun v26 =>
 oif v26 (
 inrX (
 inrX (
 some [(eB false), (pd h2 1), (pd h2 2)]
)
)
) (
 obind (binP false .add (pd ls 3) (eI 1)) fun v27 =>
 some (.inl [(pd ls 0), (pd ls 1), (pd ls 2), v27, (pd h2 1), (pd h2 2)])
)
) (
 inrX (
 some (.inl [(pd ls 4), (pd ls 5)])
)
)

def terms_walk_h_terms_Check_1 (r_terms_walk_h_terms_Check_1 : List D → Option (List D)) (n : Nat) (ls : List D) : Option (List D) :=
 og (aggP 4 (pd ls 0)) <|
 obind (terms_Check_1_h n [(D.agg [(celD (pd ls 0) 0), (celD (pd ls 0) 1), (celD (pd ls 0) 2), (celD (pd ls 0) 3)]), (pd ls 1), (pd ls 2), (pd ls 3)]) fun h1 =>
 obind (unP .not (pd h1 0)) fun v13 =>
 oif v13 (
 some [(eB false), (pd h1 1), (pd h1 2)]
) (
 obind (lenP (celD (pd ls 0) 3)) fun v16 =>
 obind (
 iterL (terms_walk_h_terms_Check_1_l4 r_terms_walk_h_terms_Check_1 n) n [(pd ls 1), (celD (pd ls 0) 3), v16, (eI 0), (pd h1 1), (pd h1 2)]
) <| jnX fun ls =>
 some [(eB true), (pd ls 0), (pd ls 1)]
)

def terms_walk_h_terms_Check_1L : Nat → List D → Option (List D)
  | 0, _ => none
  | n + 1, ls => terms_walk_h_terms_Check_1 (terms_walk_h_terms_Check_1L n) n ls
def terms_Check (n : Nat) (a0 : D) : Option D :=
 og (aggP 4 a0) <|
 obind (terms_walk_h_terms_Check_1L n [(D.agg [(celD a0 0), (celD a0 1), (celD a0 2), (celD a0 3)]), (eI 1), (eI 0), (eI 0)]) fun h1 =>
 some (pd h1 2)

def terms_CheckL (n : Nat) : List D → Option D
  | [a0] => terms_Check n a0
  | _ => none
def defs_reached_1_h_l1 (r_defs_reached_1_h : List D → Option (List D)) (n : Nat) (ls : List D) : Option (List D ⊕ (List D ⊕ (List D))) :=
 obind (binP false .lss (pd ls 2) (pd ls 1)) fun v13 =>
 oif v13 (
 obind (
 obind (ixP 1 (pd ls 0) (pd ls 2)) fun c14 =>
 obind (atP false 1 0 c14) fun v15 =>
 obind (lookP (.int .i64) (.bool false) false (mpD (pd ls 4)) v15) fun v18 =>
 obind (unP .not v18) fun v19 =>
 obind (
 oif v19 (
 obind (putP (.int .i64) (mpD (pd ls 4)) v15 (eB true)) fun m9000_1 =>
 obind (r_defs_reached_1_h [v15, (pd ls 3), (D.mp m9000_1)]) fun h2 =>
 some (.inl [(pd ls 0), (pd ls 1), (pd ls 2), (pd h2 1), (D.mp (mpD (pd h2 2)))])
) (
 some (.inl [(pd ls 0), (pd ls 1), (pd ls 2), (pd ls 3), (D.mp (mpD (pd ls 4)))])
)
) <| jnX fun ls =>
 some (.inl [(pd ls 0), (pd ls 1), (pd ls 2), (pd ls 3), (D.mp (mpD (pd ls 4)))])
) <| jnX fun ls =>
 obind (binP false .add (pd ls 2) (eI 1)) fun v25 =>
 some (.inl [(pd ls 0), (pd ls 1), v25, (pd ls 3), (D.mp (mpD (pd ls 4)))])
) (
 inrX (
 some (.inl [(pd ls 3), (D.mp (mpD (pd ls 4)))])
)
)

def defs_reached_1_h (r_defs_reached_1_h : List D → Option (List D)) (n : Nat) (ls : List D) : Option (List D) :=
 obind (ixP 1 (pd ls 1) (pd ls 0)) fun c9 =>
 obind (atP false 1 0 c9) fun v10 =>
 obind (lenP v10) fun v11 =>
 obind (
 iterL (defs_reached_1_h_l1 r_defs_reached_1_h n) n [v10, v11, (eI 0), (pd ls 1), (D.mp (mpD (pd ls 2)))]
) <| jnX fun ls =>
 some [(D.tup []), (pd ls 0), (D.mp (mpD (pd ls 1)))]

def defs_reached_1_hL : Nat → List D → Option (List D)
  | 0, _ => none
  | n + 1, ls => defs_reached_1_h (defs_reached_1_hL n) n ls
def defs_reached_h_l5 (n : Nat) (ls : List D) : Option (List D ⊕ (List D ⊕ (List D))) :=
 obind (binP false .lss (pd ls 2) (pd ls 1)) fun v14 =>
 oif v14 (
 obind (ixP 1 (pd ls 0) (pd ls 2)) fun c15 =>
 obind (atP false 1 0 c15) fun v16 =>
 obind (defs_reached_1_hL n [v16, (pd ls 4), (D.mp (mpD (pd ls 3)))]) fun h1 =>
 obind (binP false .add (pd ls 2) (eI 1)) fun v20 =>
 some (.inl [(pd ls 0), (pd ls 1), v20, (D.mp (mpD (pd h1 2))), (pd h1 1)])
) (
 inrX (
 some (.inl [(D.mp (mpD (pd ls 3)))])
)
)

def defs_reached_h (n : Nat) (ls : List D) : Option (List D) :=
 og (oneP (pd ls 0)) <|
 obind (lenP (pd ls 1)) fun v12 =>
 obind (
 iterL (defs_reached_h_l5 n) n [(pd ls 1), v12, (eI 0), (D.mp []), (pd ls 0)]
) <| jnX fun ls =>
 some [(D.mp (mpD (pd ls 0)))]

def defs_reached_l5 (n : Nat) (ls : List D) : Option (List D ⊕ (List D ⊕ D)) :=
 obind (binP false .lss (pd ls 2) (pd ls 1)) fun v14 =>
 oif v14 (
 obind (ixP 1 (pd ls 0) (pd ls 2)) fun c15 =>
 obind (atP false 1 0 c15) fun v16 =>
 obind (defs_reached_1_hL n [v16, (pd ls 4), (D.mp (mpD (pd ls 3)))]) fun h1 =>
 obind (binP false .add (pd ls 2) (eI 1)) fun v20 =>
 some (.inl [(pd ls 0), (pd ls 1), v20, (D.mp (mpD (pd h1 2))), (pd h1 1)])
) (
 inrX (
 some (.inl [(D.mp (mpD (pd ls 3)))])
)
)

def defs_reached (n : Nat) (a0 : D) (a1 : D) : Option D :=
 og (oneP a0) <|
 obind (lenP a1) fun v12 =>
 obind (
 iterL (defs_reached_l5 n) n [a1, v12, (eI 0), (D.mp []), a0]
) <| jnX fun ls =>
 some (D.mp (mpD (pd ls 0)))

def defs_reachedL (n : Nat) : List D → Option D
  | [a0, a1] => defs_reached n a0 a1
  | _ => none
def defs_inline_1_h_l1 (r_defs_inline_1_h : List D → Option (List D)) (n : Nat) (ls : List D) : Option (List D ⊕ (List D ⊕ (List D))) :=
 obind (binP false .eql (pd ls 4) (eI 3)) fun v16 =>
 oif v16 (
 obind (entP (pd ls 1)) fun es21 =>
 obind (lookP (.string) (.int .i64 0) true es21 (pd ls 6)) fun v21 =>
 obind (extP 0 v21) fun v22 =>
 obind (extP 1 v21) fun v23 =>
 obind (unP .not v23) fun v25 =>
 oif v25 (
 inrX (
 some (.inl [(pd ls 0), (pd ls 3), (pd ls 4), (pd ls 5), (pd ls 6), (pd ls 7), (pd ls 8), (pd ls 9), (pd ls 10), (pd ls 11), (pd ls 1), (pd ls 2)])
)
) (
 obind (ixP 5 (pd ls 2) v22) fun c28 =>
 obind (atP true 4 1 c28) fun v30 =>
 og (aggP 4 v30) <|
 some (.inl [(pd ls 0), (pd ls 1), (pd ls 2), (pd ls 3), (celD v30 0), (celD v30 1), (celD v30 2), (celD v30 3), (pd ls 8), (pd ls 9), (pd ls 10), (pd ls 11)])
)
) (
 inrX (
 some (.inl [(pd ls 0), (pd ls 3), (pd ls 4), (pd ls 5), (pd ls 6), (pd ls 7), (pd ls 8), (pd ls 9), (pd ls 10), (pd ls 11), (pd ls 1), (pd ls 2)])
)
)

def defs_inline_1_h_l10 (r_defs_inline_1_h : List D → Option (List D)) (n : Nat) (ls : List D) : Option (List D ⊕ (List D ⊕ (List D))) :=
 obind (binP false .lss (pd ls 3) (pd ls 2)) fun v46 =>
 oif v46 (
 obind (
 obind (ixP 4 (pd ls 1) (pd ls 3)) fun c48 =>
 obind (atP true 4 0 c48) fun v49 =>
 og (aggP 4 v49) <|
 obind (binP false .leq (pd ls 0) (eI 64)) fun v51 =>
 obind (gD v51 true (
 obind (binP false .leq (pd ls 4) (eI 4096)) fun v54 =>
 some v54
)) fun v54 =>
 obind (pickP v51 v54 (eB false)) fun v55 =>
 obind (
 oif v55 (
 obind (binP false .add (pd ls 0) (eI 1)) fun v61 =>
 obind (r_defs_inline_1_h [(D.agg [(celD v49 0), (celD v49 1), (celD v49 2), (celD v49 3)]), v61, (pd ls 14), (pd ls 15), (pd ls 4)]) fun h1 =>
 obind (numP ((esD (pd ls 13))).length (pd ls 3)) fun j63 =>
 og (aggP 4 (pd h1 0)) <|
 obind (((esD (pd ls 13)))[j63]?) fun w2 =>
 some (.inl [(pd ls 0), (pd ls 1), (pd ls 2), (pd ls 3), (pd h1 3), (pd ls 5), (pd ls 6), (pd ls 7), (pd ls 8), (pd ls 9), (pd ls 10), (pd ls 11), (pd ls 12), (D.sl 4 (((esD (pd ls 13))).set j63 (setSegD w2 0 [(celD (pd h1 0) 0), (celD (pd h1 0) 1), (celD (pd h1 0) 2), (celD (pd h1 0) 3)]))), (pd h1 1), (pd h1 2)])
) (
 some (.inl [(pd ls 0), (pd ls 1), (pd ls 2), (pd ls 3), (pd ls 4), (pd ls 5), (pd ls 6), (pd ls 7), (pd ls 8), (pd ls 9), (pd ls 10), (pd ls 11), (pd ls 12), (D.sl 4 (esD (pd ls 13))), (pd ls 14), (pd ls 15)])
)
) <| jnX fun ls =>
 some (.inl [(pd ls 0), (pd ls 1), (pd ls 2), (pd ls 3), (pd ls 4), (pd ls 5), (pd ls 6), (pd ls 7), (pd ls 8), (pd ls 9), (pd ls 10), (pd ls 11), (pd ls 12), (D.sl 4 (esD (pd ls 13))), (pd ls 14), (pd ls 15)])
) <| jnX fun ls =>
 obind (binP false .add (pd ls 3) (eI 1)) fun v64 =>
 some (.inl [(pd ls 0), (pd ls 1), (pd ls 2), v64, (pd ls 4), (pd ls 5), (pd ls 6), (pd ls 7), (pd ls 8), (pd ls 9), (pd ls 10), (pd ls 11), (pd ls 12), (D.sl 4 (esD (pd ls 13))), (pd ls 14), (pd ls 15)])
) (
 inrX (
 some (.inl [(pd ls 5), (pd ls 6), (pd ls 7), (pd ls 8), (pd ls 9), (pd ls 10), (pd ls 11), (pd ls 12), (D.sl 4 (esD (pd ls 13))), (pd ls 14), (pd ls 15), (pd ls 4)])
)
)

def defs_inline_1_h (r_defs_inline_1_h : List D → Option (List D)) (n : Nat) (ls : List D) : Option (List D) :=
 og (aggP 4 (pd ls 0)) <|
 obind (
 iterL (defs_inline_1_h_l1 r_defs_inline_1_h n) n [(pd ls 1), (pd ls 2), (pd ls 3), (pd ls 4), (celD (pd ls 0) 0), (celD (pd ls 0) 1), (celD (pd ls 0) 2), (celD (pd ls 0) 3), (eI 0), (eI 0), (eS ⟨#[]⟩), (D.val (.slice none 0 0))]
) <| jnX fun ls =>
 obind (binP false .add (pd ls 1) (eI 1)) fun v32 =>
 og (oneP v32) <|
 obind (lenP (pd ls 5)) fun v35 =>
 obind (binP false .eql v35 (eI 0)) fun v36 =>
 oif v36 (
 og (aggP 4 (D.agg [(pd ls 2), (pd ls 3), (pd ls 4), (pd ls 5)])) <|
 some [(D.agg [(pd ls 2), (pd ls 3), (pd ls 4), (pd ls 5)]), (pd ls 10), (pd ls 11), v32]
) (
 obind (lenP (pd ls 5)) fun v40 =>
 obind (makeP 56 v40 v40) fun n41 =>
 obind (lenP (pd ls 5)) fun v44 =>
 obind (
 iterL (defs_inline_1_h_l10 r_defs_inline_1_h n) n [(pd ls 0), (pd ls 5), v44, (eI 0), v32, (pd ls 2), (pd ls 3), (pd ls 4), (pd ls 5), (pd ls 6), (pd ls 7), (pd ls 8), (pd ls 9), (D.sl 4 (List.replicate n41 [D.val (.int .i64 0), D.val (.int .i64 0), D.val (.string ⟨#[]⟩), D.val (.slice none 0 0)])), (pd ls 10), (pd ls 11)]
) <| jnX fun ls =>
 og (oneP (D.sl 4 (esD (pd ls 8)))) <|
 og (aggP 4 (D.agg [(pd ls 0), (pd ls 1), (pd ls 2), (D.sl 4 (esD (pd ls 8)))])) <|
 some [(D.agg [(pd ls 0), (pd ls 1), (pd ls 2), (D.sl 4 (esD (pd ls 8)))]), (pd ls 9), (pd ls 10), (pd ls 11)]
)

def defs_inline_1_hL : Nat → List D → Option (List D)
  | 0, _ => none
  | n + 1, ls => defs_inline_1_h (defs_inline_1_hL n) n ls
def defs_inline (n : Nat) (a0 : D) (a1 : D) : Option D :=
 og (aggP 4 a0) <|
 og (oneP a1) <|
 obind (defs_namesL n [a1]) fun v9 =>
 og (oneP v9) <|
 obind (defs_inline_1_hL n [(D.agg [(celD a0 0), (celD a0 1), (celD a0 2), (celD a0 3)]), (eI 1), v9, a1, (eI 0)]) fun h1 =>
 og (aggP 4 (pd h1 0)) <|
 some (D.agg [(celD (pd h1 0) 0), (celD (pd h1 0) 1), (celD (pd h1 0) 2), (celD (pd h1 0) 3)])

def defs_inlineL (n : Nat) : List D → Option D
  | [a0, a1] => defs_inline n a0 a1
  | _ => none
def defs_Inline_l8 (n : Nat) (ls : List D) : Option (List D ⊕ (List D ⊕ D)) :=
 obind (binP false .lss (pd ls 5) (pd ls 4)) fun v39 =>
 oif v39 (
 obind (
 obind (ixP 1 (pd ls 3) (pd ls 5)) fun c40 =>
 obind (atP false 1 0 c40) fun v41 =>
 obind (entP (pd ls 1)) fun es45 =>
 obind (lookP (.string) (.int .i64 0) true es45 v41) fun v45 =>
 obind (extP 0 v45) fun v46 =>
 obind (extP 1 v45) fun v47 =>
 obind (
 oif v47 (
 og (oneP v46) <|
 og (roomP (((esD (pd ls 14))).length + ([[v46]]).length) 8) <|
 some (.inl [(pd ls 0), (pd ls 1), (pd ls 2), (pd ls 3), (pd ls 4), (pd ls 5), (pd ls 6), (pd ls 7), (pd ls 8), (pd ls 9), (pd ls 10), (pd ls 11), (pd ls 12), (pd ls 13), (D.sl 1 ((esD (pd ls 14)) ++ [[v46]]))])
) (
 some (.inl [(pd ls 0), (pd ls 1), (pd ls 2), (pd ls 3), (pd ls 4), (pd ls 5), (pd ls 6), (pd ls 7), (pd ls 8), (pd ls 9), (pd ls 10), (pd ls 11), (pd ls 12), (pd ls 13), (D.sl 1 (esD (pd ls 14)))])
)
) <| jnX fun ls =>
 some (.inl [(pd ls 0), (pd ls 1), (pd ls 2), (pd ls 3), (pd ls 4), (pd ls 5), (pd ls 6), (pd ls 7), (pd ls 8), (pd ls 9), (pd ls 10), (pd ls 11), (pd ls 12), (pd ls 13), (D.sl 1 (esD (pd ls 14)))])
) <| jnX fun ls =>
 obind (binP false .add (pd ls 5) (eI 1)) fun v53 =>
 some (.inl [(pd ls 0), (pd ls 1), (pd ls 2), (pd ls 3), (pd ls 4), v53, (pd ls 6), (pd ls 7), (pd ls 8), (pd ls 9), (pd ls 10), (pd ls 11), (pd ls 12), (pd ls 13), (D.sl 1 (esD (pd ls 14)))])
) (
 inrX (
 some (.inl [(pd ls 0), (pd ls 2), (pd ls 6), (pd ls 7), (pd ls 8), (pd ls 9), (pd ls 10), (pd ls 11), (pd ls 12), (pd ls 13), (D.sl 1 (esD (pd ls 14)))])
)
)

def defs_Inline_l16 (n : Nat) (ls : List D) : Option (List D ⊕ (List D ⊕ D)) :=
 obind (binP false .lss (pd ls 4) (pd ls 3)) fun v60 =>
 oif v60 (
 obind (ixP 1 (pd ls 2) (pd ls 4)) fun c61 =>
 obind (atP false 1 0 c61) fun v62 =>
 obind (putP (.int .i64) (mpD (pd ls 13)) v62 (eB true)) fun m6010_2 =>
 obind (binP false .add (pd ls 4) (eI 1)) fun v65 =>
 some (.inl [(pd ls 0), (pd ls 1), (pd ls 2), (pd ls 3), v65, (pd ls 5), (pd ls 6), (pd ls 7), (pd ls 8), (pd ls 9), (pd ls 10), (pd ls 11), (pd ls 12), (D.mp m6010_2)])
) (
 inrX (
 some (.inl [(pd ls 0), (pd ls 1), (pd ls 5), (pd ls 6), (pd ls 7), (pd ls 8), (pd ls 9), (pd ls 10), (pd ls 11), (pd ls 12), (D.mp (mpD (pd ls 13)))])
)
)

def defs_Inline_l21 (n : Nat) (ls : List D) : Option (List D ⊕ (List D ⊕ D)) :=
 obind (binP false .lss (pd ls 3) (pd ls 2)) fun v69 =>
 oif v69 (
 obind (lookP (.int .i64) (.bool false) false (mpD (pd ls 12)) (pd ls 3)) fun v73 =>
 obind (gD v73 true (
 og (oneP (pd ls 3)) <|
 obind (defs_reachedL n [(pd ls 1), (D.sl 1 [[(pd ls 3)]])]) fun v78 =>
 obind (entP v78) fun es80 =>
 obind (lookP (.int .i64) (.bool false) false es80 (pd ls 3)) fun v80 =>
 some v80
)) fun v80 =>
 obind (pickP v73 v80 (eB false)) fun v81 =>
 oif v81 (
 inrX (
 inrX (
 some (D.tup [(D.agg [(eI 0), (eI 0), (eS ⟨#[]⟩), (D.val (.slice none 0 0))]), (eI 14)])
)
)
) (
 obind (binP false .add (pd ls 3) (eI 1)) fun v83 =>
 some (.inl [(pd ls 0), (pd ls 1), (pd ls 2), v83, (pd ls 4), (pd ls 5), (pd ls 6), (pd ls 7), (pd ls 8), (pd ls 9), (pd ls 10), (pd ls 11), (D.mp (mpD (pd ls 12)))])
)
) (
 inrX (
 some (.inl [(pd ls 0), (pd ls 4), (pd ls 5), (pd ls 6), (pd ls 7), (pd ls 8), (pd ls 9), (pd ls 10), (pd ls 11)])
)
)

def defs_Inline (n : Nat) (a0 : D) (a1 : D) : Option D :=
 og (aggP 4 a0) <|
 obind (terms_CheckL n [(D.agg [(celD a0 0), (celD a0 1), (celD a0 2), (celD a0 3)])]) fun v22 =>
 obind (binP false .neq v22 (eI 0)) fun v24 =>
 oif v24 (
 some (D.tup [(D.agg [(eI 0), (eI 0), (eS ⟨#[]⟩), (D.val (.slice none 0 0))]), v22])
) (
 obind (defs_namesL n [a1]) fun v28 =>
 obind (defs_linksL n [a1]) fun v30 =>
 obind (terms_NamesL n [(D.agg [(celD a0 0), (celD a0 1), (celD a0 2), (celD a0 3)])]) fun v33 =>
 obind (extP 0 v33) fun v34 =>
 obind (extP 1 v33) fun v35 =>
 obind (lenP v34) fun v37 =>
 obind (
 iterL (defs_Inline_l8 n) n [a1, v28, v30, v34, v37, (eI 0), (celD a0 0), (celD a0 1), (celD a0 2), (celD a0 3), (eI 0), (eI 0), (eS ⟨#[]⟩), (D.val (.slice none 0 0)), (D.sl 1 [])]
) <| jnX fun ls =>
 obind (defs_reached_h n [(pd ls 1), (D.sl 1 (esD (pd ls 10)))]) fun h1 =>
 obind (lenP (D.sl 1 (esD (pd ls 10)))) fun v58 =>
 obind (
 iterL (defs_Inline_l16 n) n [(pd ls 0), (pd ls 1), (D.sl 1 (esD (pd ls 10))), v58, (eI 0), (pd ls 2), (pd ls 3), (pd ls 4), (pd ls 5), (pd ls 6), (pd ls 7), (pd ls 8), (pd ls 9), (D.mp (mpD (pd h1 0)))]
) <| jnX fun ls =>
 obind (lenP (pd ls 0)) fun v67 =>
 obind (
 iterL (defs_Inline_l21 n) n [(pd ls 0), (pd ls 1), v67, (eI 0), (pd ls 2), (pd ls 3), (pd ls 4), (pd ls 5), (pd ls 6), (pd ls 7), (pd ls 8), (pd ls 9), (D.mp (mpD (pd ls 10)))]
) <| jnX fun ls =>
 obind (defs_inlineL n [(D.agg [(pd ls 1), (pd ls 2), (pd ls 3), (pd ls 4)]), (pd ls 0)]) fun v86 =>
 og (aggP 4 v86) <|
 obind (terms_CheckL n [(D.agg [(celD v86 0), (celD v86 1), (celD v86 2), (celD v86 3)])]) fun v88 =>
 obind (binP false .neq v88 (eI 0)) fun v90 =>
 oif v90 (
 some (D.tup [(D.agg [(eI 0), (eI 0), (eS ⟨#[]⟩), (D.val (.slice none 0 0))]), v88])
) (
 og (aggP 4 (D.agg [(celD v86 0), (celD v86 1), (celD v86 2), (celD v86 3)])) <|
 some (D.tup [(D.agg [(celD v86 0), (celD v86 1), (celD v86 2), (celD v86 3)]), (eI 0)])
)
)

def defs_InlineL (n : Nat) : List D → Option D
  | [a0, a1] => defs_Inline n a0 a1
  | _ => none
def ref03_Same_l4 (n : Nat) (ls : List D) : Option (List D ⊕ (List D ⊕ D)) :=
 obind (lenP (pd ls 0)) fun v13 =>
 obind (binP false .lss (pd ls 2) v13) fun v14 =>
 oif v14 (
 obind (ixP 1 (pd ls 0) (pd ls 2)) fun c19 =>
 obind (atP false 1 0 c19) fun v20 =>
 obind (ixP 1 (pd ls 1) (pd ls 2)) fun c23 =>
 obind (atP false 1 0 c23) fun v24 =>
 obind (binP false .neq v20 v24) fun v25 =>
 oif v25 (
 inrX (
 inrX (
 some (eB false)
)
)
) (
 obind (binP false .add (pd ls 2) (eI 1)) fun v16 =>
 some (.inl [(pd ls 0), (pd ls 1), v16])
)
) (
 inrX (
 some (.inl [])
)
)

def ref03_Same (n : Nat) (a0 : D) (a1 : D) : Option D :=
 obind (lenP a0) fun v7 =>
 obind (lenP a1) fun v9 =>
 obind (binP false .neq v7 v9) fun v10 =>
 oif v10 (
 some (eB false)
) (
 obind (
 iterL (ref03_Same_l4 n) n [a0, a1, (eI 0)]
) <| jnX fun ls =>
 some (eB true)
)

def ref03_SameL (n : Nat) : List D → Option D
  | [a0, a1] => ref03_Same n a0 a1
  | _ => none
def ref30_Same_l4 (r_ref30_Same : List D → Option D) (n : Nat) (ls : List D) : Option (List D ⊕ (List D ⊕ D)) :=
 obind (lenP (pd ls 4)) fun v37 =>
 obind (binP false .lss (pd ls 0) v37) fun v38 =>
 oif v38 (
 obind (ixP 4 (pd ls 4) (pd ls 0)) fun c44 =>
 obind (atP true 4 0 c44) fun v45 =>
 obind (ixP 4 (pd ls 8) (pd ls 0)) fun c49 =>
 obind (atP true 4 0 c49) fun v50 =>
 obind (r_ref30_Same [v45, v50]) fun v51 =>
 obind (unP .not v51) fun v52 =>
 oif v52 (
 inrX (
 inrX (
 some (eB false)
)
)
) (
 obind (binP false .add (pd ls 0) (eI 1)) fun v40 =>
 some (.inl [v40, (pd ls 1), (pd ls 2), (pd ls 3), (pd ls 4), (pd ls 5), (pd ls 6), (pd ls 7), (pd ls 8)])
)
) (
 inrX (
 some (.inl [])
)
)

def ref30_Same (r_ref30_Same : List D → Option D) (n : Nat) (a0 : D) (a1 : D) : Option D :=
 og (aggP 4 a0) <|
 og (aggP 4 a1) <|
 obind (binP false .neq (celD a0 0) (celD a1 0)) fun v10 =>
 obind (gD v10 false (
 obind (binP false .neq (celD a0 1) (celD a1 1)) fun v16 =>
 some v16
)) fun v16 =>
 obind (pickP v10 (eB true) v16) fun v17 =>
 obind (gD v17 false (
 obind (binP false .neq (celD a0 2) (celD a1 2)) fun v23 =>
 some v23
)) fun v23 =>
 obind (pickP v17 (eB true) v23) fun v24 =>
 obind (gD v24 false (
 obind (lenP (celD a0 3)) fun v28 =>
 obind (lenP (celD a1 3)) fun v31 =>
 obind (binP false .neq v28 v31) fun v32 =>
 some v32
)) fun v32 =>
 obind (pickP v24 (eB true) v32) fun v33 =>
 oif v33 (
 some (eB false)
) (
 obind (
 iterL (ref30_Same_l4 r_ref30_Same n) n [(eI 0), (celD a0 0), (celD a0 1), (celD a0 2), (celD a0 3), (celD a1 0), (celD a1 1), (celD a1 2), (celD a1 3)]
) <| jnX fun ls =>
 some (eB true)
)

def ref30_SameL : Nat → List D → Option D
  | 0, _ => none
  | n + 1, ds => match ds with
    | [a0, a1] => ref30_Same (ref30_SameL n) n a0 a1
    | _ => none
def defs_ring_l12 (n : Nat) (ls : List D) : Option (List D ⊕ (List D ⊕ (List D ⊕ (List D ⊕ (List D ⊕ (List D ⊕ (List D ⊕ (List D ⊕ D)))))))) :=
 obind (binP false .lss (pd ls 9) (pd ls 8)) fun v64 =>
 oif v64 (
 obind (ixP 1 (pd ls 7) (pd ls 9)) fun c65 =>
 obind (atP false 1 0 c65) fun v66 =>
 obind (numP ((esD (pd ls 11))).length (pd ls 3)) fun j70 =>
 obind (((esD (pd ls 11)))[j70]?) fun e71 =>
 obind (atP false 1 0 e71) fun v71 =>
 obind (binP false .eql v66 v71) fun v72 =>
 oif v72 (
 obind (lookP (.int .i64) (.int .i64 0) false (mpD (pd ls 10)) v66) fun v77 =>
 obind (binP false .add v77 (eI 1)) fun v78 =>
 obind (putP (.int .i64) (mpD (pd ls 10)) (pd ls 4) v78) fun m22_2 =>
 og (oneP (pd ls 4)) <|
 og (roomP (((esD (pd ls 11))).length + ([[(pd ls 4)]]).length) 8) <|
 inrX (
 some (.inl [(pd ls 0), (pd ls 1), (pd ls 2), (pd ls 3), (pd ls 5), (pd ls 6), (D.mp m22_2), (D.sl 1 ((esD (pd ls 11)) ++ [[(pd ls 4)]]))])
)
) (
 obind (binP false .add (pd ls 9) (eI 1)) fun v83 =>
 some (.inl [(pd ls 0), (pd ls 1), (pd ls 2), (pd ls 3), (pd ls 4), (pd ls 5), (pd ls 6), (pd ls 7), (pd ls 8), v83, (D.mp (mpD (pd ls 10))), (D.sl 1 (esD (pd ls 11)))])
)
) (
 inrX (
 some (.inl [(pd ls 0), (pd ls 1), (pd ls 2), (pd ls 3), (pd ls 5), (pd ls 6), (D.mp (mpD (pd ls 10))), (D.sl 1 (esD (pd ls 11)))])
)
)

def defs_ring_l7 (n : Nat) (ls : List D) : Option (List D ⊕ (List D ⊕ (List D ⊕ (List D ⊕ (List D ⊕ D))))) :=
 obind (binP false .lss (pd ls 5) (pd ls 4)) fun v36 =>
 oif v36 (
 obind (
 obind (lookP (.int .i64) (.int .i64 0) true (mpD (pd ls 6)) (pd ls 5)) fun v41 =>
 obind (extP 0 v41) fun v42 =>
 obind (extP 1 v41) fun v43 =>
 obind (gD v43 false (
 obind (ixP 5 (pd ls 0) (pd ls 5)) fun c48 =>
 obind (atP false 1 0 c48) fun v50 =>
 obind (ixP 5 (pd ls 0) (pd ls 2)) fun c53 =>
 obind (atP false 1 0 c53) fun v55 =>
 obind (binP false .lss v50 v55) fun v56 =>
 some v56
)) fun v56 =>
 obind (pickP v43 (eB true) v56) fun v57 =>
 oif v57 (
 some (.inl [(pd ls 0), (pd ls 1), (pd ls 2), (pd ls 3), (pd ls 4), (pd ls 5), (D.mp (mpD (pd ls 6))), (D.sl 1 (esD (pd ls 7)))])
) (
 obind (ixP 1 (pd ls 1) (pd ls 5)) fun c60 =>
 obind (atP false 1 0 c60) fun v61 =>
 obind (lenP v61) fun v62 =>
 obind (
 iterL (defs_ring_l12 n) n [(pd ls 0), (pd ls 1), (pd ls 2), (pd ls 3), (pd ls 5), (pd ls 4), (pd ls 5), v61, v62, (eI 0), (D.mp (mpD (pd ls 6))), (D.sl 1 (esD (pd ls 7)))]
) <| jnX fun ls =>
 some (.inl [(pd ls 0), (pd ls 1), (pd ls 2), (pd ls 3), (pd ls 4), (pd ls 5), (D.mp (mpD (pd ls 6))), (D.sl 1 (esD (pd ls 7)))])
)
) <| jnX fun ls =>
 obind (binP false .add (pd ls 5) (eI 1)) fun v84 =>
 some (.inl [(pd ls 0), (pd ls 1), (pd ls 2), (pd ls 3), (pd ls 4), v84, (D.mp (mpD (pd ls 6))), (D.sl 1 (esD (pd ls 7)))])
) (
 inrX (
 some (.inl [(pd ls 0), (pd ls 1), (pd ls 2), (pd ls 3), (D.mp (mpD (pd ls 6))), (D.sl 1 (esD (pd ls 7)))])
)
)

def defs_ring_l4 (n : Nat) (ls : List D) : Option (List D ⊕ (List D ⊕ D)) :=
 obind (binP false .lss (pd ls 3) (eI ((esD (pd ls 5))).length)) fun v30 =>
 oif v30 (
 obind (
 obind (lenP (pd ls 0)) fun v34 =>
 obind (
 iterL (defs_ring_l7 n) n [(pd ls 0), (pd ls 1), (pd ls 2), (pd ls 3), v34, (eI 0), (D.mp (mpD (pd ls 4))), (D.sl 1 (esD (pd ls 5)))]
) <| jnX fun ls =>
 some (.inl [(pd ls 0), (pd ls 1), (pd ls 2), (pd ls 3), (D.mp (mpD (pd ls 4))), (D.sl 1 (esD (pd ls 5)))])
) <| jnX fun ls =>
 obind (binP false .add (pd ls 3) (eI 1)) fun v32 =>
 some (.inl [(pd ls 0), (pd ls 1), (pd ls 2), v32, (D.mp (mpD (pd ls 4))), (D.sl 1 (esD (pd ls 5)))])
) (
 inrX (
 some (.inl [(pd ls 1), (pd ls 2), (D.mp (mpD (pd ls 4)))])
)
)

def defs_ring_l23 (n : Nat) (ls : List D) : Option (List D ⊕ (List D ⊕ (List D ⊕ (List D ⊕ D)))) :=
 obind (binP false .lss (pd ls 5) (pd ls 4)) fun v94 =>
 oif v94 (
 obind (
 obind (ixP 1 (pd ls 3) (pd ls 5)) fun c95 =>
 obind (atP false 1 0 c95) fun v96 =>
 obind (binP false .eql v96 (pd ls 1)) fun v99 =>
 oif v99 (
 inrX (
 inrX (
 some (.inl [(pd ls 0), (pd ls 1), v96, (D.mp (mpD (pd ls 6))), (D.sl 1 (esD (pd ls 7)))])
)
)
) (
 obind (lookP (.int .i64) (.int .i64 0) true (mpD (pd ls 6)) v96) fun v104 =>
 obind (extP 0 v104) fun v105 =>
 obind (extP 1 v104) fun v106 =>
 obind (gD v106 true (
 obind (binP false .lss (pd ls 2) (eI 0)) fun v110 =>
 some v110
)) fun v111 =>
 obind (gD v111 false (
 obind (lookP (.int .i64) (.int .i64 0) false (mpD (pd ls 6)) (pd ls 2)) fun v115 =>
 obind (binP false .lss v105 v115) fun v116 =>
 some v116
)) fun v116 =>
 obind (gD v106 true (
 obind (pickP v111 (eB true) v116) fun v117 =>
 some v117
)) fun v117 =>
 obind (pickP v106 v117 (eB false)) fun v118 =>
 obind (
 oif v118 (
 some (.inl [(pd ls 0), (pd ls 1), v96, (pd ls 3), (pd ls 4), (pd ls 5), (D.mp (mpD (pd ls 6))), (D.sl 1 (esD (pd ls 7)))])
) (
 some (.inl [(pd ls 0), (pd ls 1), (pd ls 2), (pd ls 3), (pd ls 4), (pd ls 5), (D.mp (mpD (pd ls 6))), (D.sl 1 (esD (pd ls 7)))])
)
) <| jnX fun ls =>
 some (.inl [(pd ls 0), (pd ls 1), (pd ls 2), (pd ls 3), (pd ls 4), (pd ls 5), (D.mp (mpD (pd ls 6))), (D.sl 1 (esD (pd ls 7)))])
)
) <| jnX fun ls =>
 obind (binP false .add (pd ls 5) (eI 1)) fun v120 =>
 some (.inl [(pd ls 0), (pd ls 1), (pd ls 2), (pd ls 3), (pd ls 4), v120, (D.mp (mpD (pd ls 6))), (D.sl 1 (esD (pd ls 7)))])
) (
 inrX (
 some (.inl [(pd ls 0), (pd ls 1), (pd ls 2), (D.mp (mpD (pd ls 6))), (D.sl 1 (esD (pd ls 7)))])
)
)

def defs_ring_l21 (n : Nat) (ls : List D) : Option (List D ⊕ D) :=
 obind (
 obind (ixP 1 (pd ls 0) (pd ls 2)) fun c90 =>
 obind (atP false 1 0 c90) fun v91 =>
 obind (lenP v91) fun v92 =>
 obind (
 iterL (defs_ring_l23 n) n [(pd ls 0), (pd ls 1), (eI (-1)), v91, v92, (eI 0), (D.mp (mpD (pd ls 3))), (D.sl 1 (esD (pd ls 4)))]
) <| jnX fun ls =>
 obind (binP false .lss (pd ls 2) (eI 0)) fun v122 =>
 oif v122 (
 inrX (
 inrX (
 some (D.val (.slice none 0 0))
)
)
) (
 obind (binP false .eql (pd ls 2) (pd ls 1)) fun v125 =>
 oif v125 (
 inrX (
 inrX (
 some (D.sl 1 (esD (pd ls 4)))
)
)
) (
 og (oneP (pd ls 2)) <|
 og (roomP (((esD (pd ls 4))).length + ([[(pd ls 2)]]).length) 8) <|
 some (.inl [(pd ls 0), (pd ls 1), (pd ls 2), (D.mp (mpD (pd ls 3))), (D.sl 1 ((esD (pd ls 4)) ++ [[(pd ls 2)]]))])
)
)
) <| jnX fun ls =>
 some (.inl [(pd ls 0), (pd ls 1), (pd ls 2), (D.mp (mpD (pd ls 3))), (D.sl 1 (esD (pd ls 4)))])

def defs_ring (n : Nat) (a0 : D) (a1 : D) (a2 : D) : Option D :=
 obind (putP (.int .i64) [] a2 (eI 0)) fun m22_1 =>
 og (oneP a2) <|
 obind (
 iterL (defs_ring_l4 n) n [a0, a1, a2, (eI 0), (D.mp m22_1), (D.sl 1 [[a2]])]
) <| jnX fun ls =>
 og (oneP (pd ls 1)) <|
 iterL (defs_ring_l21 n) n [(pd ls 0), (pd ls 1), (pd ls 1), (D.mp (mpD (pd ls 2))), (D.sl 1 [[(pd ls 1)]])]

def defs_ringL (n : Nat) : List D → Option D
  | [a0, a1, a2] => defs_ring n a0 a1 a2
  | _ => none
def defs_less_l4 (n : Nat) (ls : List D) : Option (List D ⊕ (List D ⊕ D)) :=
 obind (binP false .lss (pd ls 4) (pd ls 3)) fun v21 =>
 oif v21 (
 obind (ixP 1 (pd ls 1) (pd ls 4)) fun c26 =>
 obind (atP false 1 0 c26) fun v27 =>
 obind (ixP 5 (pd ls 0) v27) fun c28 =>
 obind (atP false 1 0 c28) fun v30 =>
 obind (ixP 1 (pd ls 2) (pd ls 4)) fun c34 =>
 obind (atP false 1 0 c34) fun v35 =>
 obind (ixP 5 (pd ls 0) v35) fun c36 =>
 obind (atP false 1 0 c36) fun v38 =>
 obind (binP false .neq v30 v38) fun v39 =>
 oif v39 (
 obind (ixP 1 (pd ls 1) (pd ls 4)) fun c43 =>
 obind (atP false 1 0 c43) fun v44 =>
 obind (ixP 5 (pd ls 0) v44) fun c45 =>
 obind (atP false 1 0 c45) fun v47 =>
 obind (ixP 1 (pd ls 2) (pd ls 4)) fun c51 =>
 obind (atP false 1 0 c51) fun v52 =>
 obind (ixP 5 (pd ls 0) v52) fun c53 =>
 obind (atP false 1 0 c53) fun v55 =>
 obind (binP false .lss v47 v55) fun v56 =>
 inrX (
 inrX (
 some v56
)
)
) (
 obind (binP false .add (pd ls 4) (eI 1)) fun v57 =>
 some (.inl [(pd ls 0), (pd ls 1), (pd ls 2), (pd ls 3), v57])
)
) (
 inrX (
 some (.inl [])
)
)

def defs_less (n : Nat) (a0 : D) (a1 : D) (a2 : D) : Option D :=
 obind (lenP a1) fun v9 =>
 obind (lenP a2) fun v11 =>
 obind (binP false .neq v9 v11) fun v12 =>
 oif v12 (
 obind (lenP a1) fun v14 =>
 obind (lenP a2) fun v16 =>
 obind (binP false .lss v14 v16) fun v17 =>
 some v17
) (
 obind (lenP a1) fun v19 =>
 obind (
 iterL (defs_less_l4 n) n [a0, a1, a2, v19, (eI 0)]
) <| jnX fun ls =>
 some (eB false)
)

def defs_lessL (n : Nat) : List D → Option D
  | [a0, a1, a2] => defs_less n a0 a1 a2
  | _ => none
def defs_Ring_l4 (n : Nat) (ls : List D) : Option (List D ⊕ (List D ⊕ D)) :=
 obind (binP false .lss (pd ls 4) (pd ls 3)) fun v15 =>
 oif v15 (
 obind (
 og (oneP (pd ls 4)) <|
 obind (defs_reachedL n [(pd ls 1), (D.sl 1 [[(pd ls 4)]])]) fun v20 =>
 obind (entP v20) fun es22 =>
 obind (lookP (.int .i64) (.bool false) false es22 (pd ls 4)) fun v22 =>
 obind (unP .not v22) fun v23 =>
 oif v23 (
 some (.inl [(pd ls 0), (pd ls 1), (pd ls 2), (pd ls 3), (pd ls 4)])
) (
 obind (defs_ringL n [(pd ls 0), (pd ls 1), (pd ls 4)]) fun v27 =>
 obind (nileqP .neq v27 (D.val (.slice none 0 0))) fun v29 =>
 obind (gD v29 true (
 obind (nileqP .eql (pd ls 2) (D.val (.slice none 0 0))) fun v32 =>
 some v32
)) fun v33 =>
 obind (gD v33 false (
 obind (defs_lessL n [(pd ls 0), v27, (pd ls 2)]) fun v37 =>
 some v37
)) fun v37 =>
 obind (gD v29 true (
 obind (pickP v33 (eB true) v37) fun v38 =>
 some v38
)) fun v38 =>
 obind (pickP v29 v38 (eB false)) fun v39 =>
 obind (
 oif v39 (
 some (.inl [(pd ls 0), (pd ls 1), v27, (pd ls 3), (pd ls 4)])
) (
 some (.inl [(pd ls 0), (pd ls 1), (pd ls 2), (pd ls 3), (pd ls 4)])
)
) <| jnX fun ls =>
 some (.inl [(pd ls 0), (pd ls 1), (pd ls 2), (pd ls 3), (pd ls 4)])
)
) <| jnX fun ls =>
 obind (binP false .add (pd ls 4) (eI 1)) fun v41 =>
 some (.inl [(pd ls 0), (pd ls 1), (pd ls 2), (pd ls 3), v41])
) (
 inrX (
 some (.inl [(pd ls 0), (pd ls 2)])
)
)

def defs_Ring_l13 (n : Nat) (ls : List D) : Option (List D ⊕ (List D ⊕ D)) :=
 obind (binP false .lss (pd ls 3) (pd ls 2)) fun v45 =>
 oif v45 (
 obind (ixP 1 (pd ls 1) (pd ls 3)) fun c46 =>
 obind (atP false 1 0 c46) fun v47 =>
 obind (ixP 5 (pd ls 0) v47) fun c51 =>
 obind (atP false 1 0 c51) fun v53 =>
 og (oneP v53) <|
 og (roomP (((esD (pd ls 4))).length + ([[v53]]).length) 16) <|
 obind (binP false .add (pd ls 3) (eI 1)) fun v56 =>
 some (.inl [(pd ls 0), (pd ls 1), (pd ls 2), v56, (D.sl 1 ((esD (pd ls 4)) ++ [[v53]]))])
) (
 inrX (
 some (.inl [(D.sl 1 (esD (pd ls 4)))])
)
)

def defs_Ring (n : Nat) (a0 : D) : Option D :=
 obind (defs_linksL n [a0]) fun v11 =>
 obind (lenP a0) fun v13 =>
 obind (
 iterL (defs_Ring_l4 n) n [a0, v11, (D.val (.slice none 0 0)), v13, (eI 0)]
) <| jnX fun ls =>
 obind (lenP (pd ls 1)) fun v43 =>
 obind (
 iterL (defs_Ring_l13 n) n [(pd ls 0), (pd ls 1), v43, (eI 0), (D.sl 1 [])]
) <| jnX fun ls =>
 some (D.sl 1 (esD (pd ls 0)))

def defs_RingL (n : Nat) : List D → Option D
  | [a0] => defs_Ring n a0
  | _ => none
def ref30_Texts_l4 (n : Nat) (ls : List D) : Option (List D ⊕ (List D ⊕ D)) :=
 obind (lenP (pd ls 0)) fun v13 =>
 obind (binP false .lss (pd ls 2) v13) fun v14 =>
 oif v14 (
 obind (ixP 1 (pd ls 0) (pd ls 2)) fun c19 =>
 obind (atP false 1 0 c19) fun v20 =>
 obind (ixP 1 (pd ls 1) (pd ls 2)) fun c23 =>
 obind (atP false 1 0 c23) fun v24 =>
 obind (binP false .neq v20 v24) fun v25 =>
 oif v25 (
 inrX (
 inrX (
 some (eB false)
)
)
) (
 obind (binP false .add (pd ls 2) (eI 1)) fun v16 =>
 some (.inl [(pd ls 0), (pd ls 1), v16])
)
) (
 inrX (
 some (.inl [])
)
)

def ref30_Texts (n : Nat) (a0 : D) (a1 : D) : Option D :=
 obind (lenP a0) fun v7 =>
 obind (lenP a1) fun v9 =>
 obind (binP false .neq v7 v9) fun v10 =>
 oif v10 (
 some (eB false)
) (
 obind (
 iterL (ref30_Texts_l4 n) n [a0, a1, (eI 0)]
) <| jnX fun ls =>
 some (eB true)
)

def ref30_TextsL (n : Nat) : List D → Option D
  | [a0, a1] => ref30_Texts n a0 a1
  | _ => none
def law35_lives (n : Nat) : Option D :=
 obind (law35_nameL n [(eS ⟨#[98]⟩)]) fun v10 =>
 obind (law35_numL n [(eI 1)]) fun v11 =>
 obind (law35_twoL n [(eI 14), v10, v11]) fun v12 =>
 og (aggP 4 v12) <|
 obind (law35_numL n [(eI 2)]) fun v14 =>
 og (aggP 4 v14) <|
 og (aggP 5 (D.agg [(eS ⟨#[97]⟩), (celD v12 0), (celD v12 1), (celD v12 2), (celD v12 3)])) <|
 og (aggP 5 (D.agg [(eS ⟨#[98]⟩), (celD v14 0), (celD v14 1), (celD v14 2), (celD v14 3)])) <|
 obind (defs_OrderL n [(D.sl 5 [[(eS ⟨#[97]⟩), (celD v12 0), (celD v12 1), (celD v12 2), (celD v12 3)], [(eS ⟨#[98]⟩), (celD v14 0), (celD v14 1), (celD v14 2), (celD v14 3)]])]) fun v19 =>
 obind (extP 0 v19) fun v20 =>
 obind (extP 1 v19) fun v21 =>
 obind (law35_numL n [(eI 2)]) fun v22 =>
 obind (law35_numL n [(eI 1)]) fun v23 =>
 obind (law35_twoL n [(eI 14), v22, v23]) fun v24 =>
 og (aggP 4 v24) <|
 obind (law35_nameL n [(eS ⟨#[97]⟩)]) fun v26 =>
 obind (law35_nameL n [(eS ⟨#[97]⟩)]) fun v27 =>
 obind (law35_twoL n [(eI 16), v26, v27]) fun v28 =>
 obind (defs_InlineL n [v28, (D.sl 5 [[(eS ⟨#[97]⟩), (celD v12 0), (celD v12 1), (celD v12 2), (celD v12 3)], [(eS ⟨#[98]⟩), (celD v14 0), (celD v14 1), (celD v14 2), (celD v14 3)]])]) fun v30 =>
 obind (extP 0 v30) fun v31 =>
 obind (extP 1 v30) fun v32 =>
 og (aggP 4 v31) <|
 obind (law35_nameL n [(eS ⟨#[99]⟩)]) fun v33 =>
 og (aggP 4 v33) <|
 obind (law35_nameL n [(eS ⟨#[100]⟩)]) fun v35 =>
 og (aggP 4 v35) <|
 og (aggP 5 (D.agg [(eS ⟨#[100]⟩), (celD v33 0), (celD v33 1), (celD v33 2), (celD v33 3)])) <|
 og (aggP 5 (D.agg [(eS ⟨#[99]⟩), (celD v35 0), (celD v35 1), (celD v35 2), (celD v35 3)])) <|
 obind (defs_OrderL n [(D.sl 5 [[(eS ⟨#[100]⟩), (celD v33 0), (celD v33 1), (celD v33 2), (celD v33 3)], [(eS ⟨#[99]⟩), (celD v35 0), (celD v35 1), (celD v35 2), (celD v35 3)]])]) fun v40 =>
 obind (extP 0 v40) fun v41 =>
 obind (extP 1 v40) fun v42 =>
 obind (binP false .eql v21 (eI 0)) fun v44 =>
 gX v44 true (
 obind (ref03_SameL n [v20, (D.sl 1 [[(eI 1)], [(eI 0)]])]) fun v48 =>
 og v48.flat <|
 obind (pickP v44 v48 (eB false)) fun v49 =>
 obind (gD v49 true (
 obind (binP false .eql v32 (eI 0)) fun v52 =>
 some v52
)) fun v52 =>
 obind (pickP v49 v52 (eB false)) fun v53 =>
 obind (gD v53 true (
 obind (law35_twoL n [(eI 16), (D.agg [(celD v24 0), (celD v24 1), (celD v24 2), (celD v24 3)]), (D.agg [(celD v24 0), (celD v24 1), (celD v24 2), (celD v24 3)])]) fun v58 =>
 obind (ref30_SameL n [(D.agg [(celD v31 0), (celD v31 1), (celD v31 2), (celD v31 3)]), v58]) fun v59 =>
 some v59
)) fun v59 =>
 obind (pickP v53 v59 (eB false)) fun v60 =>
 obind (gD v60 true (
 obind (binP false .eql v42 (eI 14)) fun v63 =>
 some v63
)) fun v63 =>
 obind (pickP v60 v63 (eB false)) fun v64 =>
 gX v64 true (
 obind (defs_RingL n [(D.sl 5 [[(eS ⟨#[100]⟩), (celD v33 0), (celD v33 1), (celD v33 2), (celD v33 3)], [(eS ⟨#[99]⟩), (celD v35 0), (celD v35 1), (celD v35 2), (celD v35 3)]])]) fun v67 =>
 obind (ref30_TextsL n [v67, (D.sl 1 [[(eS ⟨#[99]⟩)], [(eS ⟨#[100]⟩)]])]) fun v69 =>
 og v69.flat <|
 obind (pickP v64 v69 (eB false)) fun v70 =>
 some v70
) (
 obind (pickP v64 undefD (eB false)) fun v70 =>
 some v70
)
) (
 obind (pickP v44 undefD (eB false)) fun v49 =>
 obind (gD v49 true (
 obind (binP false .eql v32 (eI 0)) fun v52 =>
 some v52
)) fun v52 =>
 obind (pickP v49 v52 (eB false)) fun v53 =>
 obind (gD v53 true (
 obind (law35_twoL n [(eI 16), (D.agg [(celD v24 0), (celD v24 1), (celD v24 2), (celD v24 3)]), (D.agg [(celD v24 0), (celD v24 1), (celD v24 2), (celD v24 3)])]) fun v58 =>
 obind (ref30_SameL n [(D.agg [(celD v31 0), (celD v31 1), (celD v31 2), (celD v31 3)]), v58]) fun v59 =>
 some v59
)) fun v59 =>
 obind (pickP v53 v59 (eB false)) fun v60 =>
 obind (gD v60 true (
 obind (binP false .eql v42 (eI 14)) fun v63 =>
 some v63
)) fun v63 =>
 obind (pickP v60 v63 (eB false)) fun v64 =>
 gX v64 true (
 obind (defs_RingL n [(D.sl 5 [[(eS ⟨#[100]⟩), (celD v33 0), (celD v33 1), (celD v33 2), (celD v33 3)], [(eS ⟨#[99]⟩), (celD v35 0), (celD v35 1), (celD v35 2), (celD v35 3)]])]) fun v67 =>
 obind (ref30_TextsL n [v67, (D.sl 1 [[(eS ⟨#[99]⟩)], [(eS ⟨#[100]⟩)]])]) fun v69 =>
 og v69.flat <|
 obind (pickP v64 v69 (eB false)) fun v70 =>
 some v70
) (
 obind (pickP v64 undefD (eB false)) fun v70 =>
 some v70
)
)

def law35_livesL (n : Nat) : List D → Option D
  | [] => law35_lives n
  | _ => none
def ref30_In_l2 (n : Nat) (ls : List D) : Option (List D ⊕ (List D ⊕ D)) :=
 obind (lenP (pd ls 0)) fun v8 =>
 obind (binP false .lss (pd ls 2) v8) fun v9 =>
 oif v9 (
 obind (ixP 1 (pd ls 0) (pd ls 2)) fun c14 =>
 obind (atP false 1 0 c14) fun v15 =>
 obind (binP false .eql v15 (pd ls 1)) fun v17 =>
 oif v17 (
 inrX (
 inrX (
 some (eB true)
)
)
) (
 obind (binP false .add (pd ls 2) (eI 1)) fun v11 =>
 some (.inl [(pd ls 0), (pd ls 1), v11])
)
) (
 inrX (
 some (.inl [])
)
)

def ref30_In (n : Nat) (a0 : D) (a1 : D) : Option D :=
 obind (
 iterL (ref30_In_l2 n) n [a0, a1, (eI 0)]
) <| jnX fun ls =>
 some (eB false)

def ref30_InL (n : Nat) : List D → Option D
  | [a0, a1] => ref30_In n a0 a1
  | _ => none
def ref30_With_l6 (n : Nat) (ls : List D) : Option (List D ⊕ (List D ⊕ D)) :=
 obind (lenP (pd ls 0)) fun v15 =>
 obind (binP false .lss (pd ls 3) v15) fun v16 =>
 oif v16 (
 obind (unP .not (pd ls 2)) fun v20 =>
 obind (gD v20 true (
 obind (ixP 1 (pd ls 0) (pd ls 3)) fun c24 =>
 obind (atP false 1 0 c24) fun v25 =>
 obind (binP false .gtr v25 (pd ls 1)) fun v27 =>
 some v27
)) fun v27 =>
 obind (pickP v20 v27 (eB false)) fun v28 =>
 obind (
 oif v28 (
 og (oneP (pd ls 1)) <|
 og (roomP (((esD (pd ls 4))).length + ([[(pd ls 1)]]).length) 16) <|
 some (.inl [(pd ls 0), (pd ls 1), (eB true), (pd ls 3), (D.sl 1 ((esD (pd ls 4)) ++ [[(pd ls 1)]]))])
) (
 some (.inl [(pd ls 0), (pd ls 1), (pd ls 2), (pd ls 3), (D.sl 1 (esD (pd ls 4)))])
)
) <| jnX fun ls =>
 obind (ixP 1 (pd ls 0) (pd ls 3)) fun c36 =>
 obind (atP false 1 0 c36) fun v37 =>
 og (oneP v37) <|
 og (roomP (((esD (pd ls 4))).length + ([[v37]]).length) 16) <|
 obind (binP false .add (pd ls 3) (eI 1)) fun v18 =>
 some (.inl [(pd ls 0), (pd ls 1), (pd ls 2), v18, (D.sl 1 ((esD (pd ls 4)) ++ [[v37]]))])
) (
 inrX (
 some (.inl [(pd ls 1), (pd ls 2), (D.sl 1 (esD (pd ls 4)))])
)
)

def ref30_With (n : Nat) (a0 : D) (a1 : D) : Option D :=
 obind (ref30_InL n [a0, a1]) fun v10 =>
 oif v10 (
 some a0
) (
 obind (
 iterL (ref30_With_l6 n) n [a0, a1, (eB false), (eI 0), (D.sl 1 ([] : List (List D)))]
) <| jnX fun ls =>
 obind (unP .not (pd ls 1)) fun v41 =>
 obind (
 oif v41 (
 og (oneP (pd ls 0)) <|
 og (roomP (((esD (pd ls 2))).length + ([[(pd ls 0)]]).length) 16) <|
 some (.inl [(D.sl 1 ((esD (pd ls 2)) ++ [[(pd ls 0)]]))])
) (
 some (.inl [(D.sl 1 (esD (pd ls 2)))])
)
) <| jnX fun ls =>
 some (D.sl 1 (esD (pd ls 0)))
)

def ref30_WithL (n : Nat) : List D → Option D
  | [a0, a1] => ref30_With n a0 a1
  | _ => none
def ref30_names_l4 (r_ref30_names : List D → Option D) (n : Nat) (ls : List D) : Option (List D ⊕ (List D ⊕ D)) :=
 obind (lenP (pd ls 6)) fun v19 =>
 obind (binP false .lss (pd ls 2) v19) fun v20 =>
 oif v20 (
 obind (ixP 4 (pd ls 6) (pd ls 2)) fun c26 =>
 obind (atP true 4 0 c26) fun v27 =>
 obind (r_ref30_names [v27, (pd ls 0), (pd ls 1)]) fun v30 =>
 obind (binP false .add (pd ls 2) (eI 1)) fun v22 =>
 some (.inl [(pd ls 0), v30, v22, (pd ls 3), (pd ls 4), (pd ls 5), (pd ls 6)])
) (
 inrX (
 some (.inl [(pd ls 1)])
)
)

def ref30_names (r_ref30_names : List D → Option D) (n : Nat) (a0 : D) (a1 : D) (a2 : D) : Option D :=
 og (aggP 4 a0) <|
 obind (binP false .eql (celD a0 0) a1) fun v11 =>
 obind (
 oif v11 (
 obind (ref30_WithL n [a2, (celD a0 2)]) fun v15 =>
 some (.inl [a1, v15, (celD a0 0), (celD a0 1), (celD a0 2), (celD a0 3)])
) (
 some (.inl [a1, a2, (celD a0 0), (celD a0 1), (celD a0 2), (celD a0 3)])
)
) <| jnX fun ls =>
 obind (
 iterL (ref30_names_l4 r_ref30_names n) n [(pd ls 0), (pd ls 1), (eI 0), (pd ls 2), (pd ls 3), (pd ls 4), (pd ls 5)]
) <| jnX fun ls =>
 some (pd ls 0)

def ref30_namesL : Nat → List D → Option D
  | 0, _ => none
  | n + 1, ds => match ds with
    | [a0, a1, a2] => ref30_names (ref30_namesL n) n a0 a1 a2
    | _ => none
def ref30_Names (n : Nat) (a0 : D) : Option D :=
 og (aggP 4 a0) <|
 obind (ref30_namesL n [(D.agg [(celD a0 0), (celD a0 1), (celD a0 2), (celD a0 3)]), (eI 3), (D.val (.slice none 0 0))]) fun v5 =>
 obind (ref30_namesL n [(D.agg [(celD a0 0), (celD a0 1), (celD a0 2), (celD a0 3)]), (eI 4), (D.val (.slice none 0 0))]) fun v7 =>
 some (D.tup [v5, v7])

def ref30_NamesL (n : Nat) : List D → Option D
  | [a0] => ref30_Names n a0
  | _ => none
def ref35_Index_l2 (n : Nat) (ls : List D) : Option (List D ⊕ (List D ⊕ D)) :=
 obind (lenP (pd ls 0)) fun v8 =>
 obind (binP false .lss (pd ls 2) v8) fun v9 =>
 oif v9 (
 obind (ixP 5 (pd ls 0) (pd ls 2)) fun c14 =>
 obind (atP false 1 0 c14) fun v16 =>
 obind (binP false .eql v16 (pd ls 1)) fun v18 =>
 oif v18 (
 inrX (
 inrX (
 some (pd ls 2)
)
)
) (
 obind (binP false .add (pd ls 2) (eI 1)) fun v11 =>
 some (.inl [(pd ls 0), (pd ls 1), v11])
)
) (
 inrX (
 some (.inl [])
)
)

def ref35_Index (n : Nat) (a0 : D) (a1 : D) : Option D :=
 obind (
 iterL (ref35_Index_l2 n) n [a0, a1, (eI 0)]
) <| jnX fun ls =>
 some (eI (-1))

def ref35_IndexL (n : Nat) : List D → Option D
  | [a0, a1] => ref35_Index n a0 a1
  | _ => none
def ref35_direct_l4 (n : Nat) (ls : List D) : Option (List D ⊕ (List D ⊕ D)) :=
 obind (lenP (pd ls 1)) fun v18 =>
 obind (binP false .lss (pd ls 2) v18) fun v19 =>
 oif v19 (
 obind (
 obind (ixP 1 (pd ls 1) (pd ls 2)) fun c25 =>
 obind (atP false 1 0 c25) fun v26 =>
 obind (ref35_IndexL n [(pd ls 0), v26]) fun v27 =>
 obind (binP false .geq v27 (eI 0)) fun v29 =>
 obind (
 oif v29 (
 og (oneP v27) <|
 og (roomP (((esD (pd ls 3))).length + ([[v27]]).length) 8) <|
 some (.inl [(pd ls 0), (pd ls 1), (pd ls 2), (D.sl 1 ((esD (pd ls 3)) ++ [[v27]]))])
) (
 some (.inl [(pd ls 0), (pd ls 1), (pd ls 2), (D.sl 1 (esD (pd ls 3)))])
)
) <| jnX fun ls =>
 some (.inl [(pd ls 0), (pd ls 1), (pd ls 2), (D.sl 1 (esD (pd ls 3)))])
) <| jnX fun ls =>
 obind (binP false .add (pd ls 2) (eI 1)) fun v21 =>
 some (.inl [(pd ls 0), (pd ls 1), v21, (D.sl 1 (esD (pd ls 3)))])
) (
 inrX (
 some (.inl [(D.sl 1 (esD (pd ls 3)))])
)
)

def ref35_direct (n : Nat) (a0 : D) (a1 : D) : Option D :=
 og (aggP 4 a0) <|
 obind (ref30_NamesL n [(D.agg [(celD a0 0), (celD a0 1), (celD a0 2), (celD a0 3)])]) fun v13 =>
 obind (extP 0 v13) fun v14 =>
 obind (extP 1 v13) fun v15 =>
 obind (
 iterL (ref35_direct_l4 n) n [a1, v14, (eI 0), (D.sl 1 ([] : List (List D)))]
) <| jnX fun ls =>
 some (D.sl 1 (esD (pd ls 0)))

def ref35_directL (n : Nat) : List D → Option D
  | [a0, a1] => ref35_direct n a0 a1
  | _ => none
def ref35_has_l2 (n : Nat) (ls : List D) : Option (List D ⊕ (List D ⊕ D)) :=
 obind (lenP (pd ls 0)) fun v8 =>
 obind (binP false .lss (pd ls 2) v8) fun v9 =>
 oif v9 (
 obind (ixP 1 (pd ls 0) (pd ls 2)) fun c14 =>
 obind (atP false 1 0 c14) fun v15 =>
 obind (binP false .eql v15 (pd ls 1)) fun v17 =>
 oif v17 (
 inrX (
 inrX (
 some (eB true)
)
)
) (
 obind (binP false .add (pd ls 2) (eI 1)) fun v11 =>
 some (.inl [(pd ls 0), (pd ls 1), v11])
)
) (
 inrX (
 some (.inl [])
)
)

def ref35_has (n : Nat) (a0 : D) (a1 : D) : Option D :=
 obind (
 iterL (ref35_has_l2 n) n [a0, a1, (eI 0)]
) <| jnX fun ls =>
 some (eB false)

def ref35_hasL (n : Nat) : List D → Option D
  | [a0, a1] => ref35_has n a0 a1
  | _ => none
def ref35_below_l3 (r_ref35_below : List D → Option D) (n : Nat) (ls : List D) : Option (List D ⊕ (List D ⊕ D)) :=
 obind (lenP (pd ls 2)) fun v14 =>
 obind (binP false .lss (pd ls 3) v14) fun v15 =>
 oif v15 (
 obind (
 obind (ixP 1 (pd ls 2) (pd ls 3)) fun c21 =>
 obind (atP false 1 0 c21) fun v22 =>
 obind (ref35_hasL n [(pd ls 1), v22]) fun v23 =>
 obind (unP .not v23) fun v24 =>
 obind (
 oif v24 (
 obind (ixP 1 (pd ls 2) (pd ls 3)) fun c28 =>
 obind (atP false 1 0 c28) fun v29 =>
 obind (ixP 5 (pd ls 0) v29) fun c30 =>
 obind (atP true 4 1 c30) fun v32 =>
 obind (ixP 1 (pd ls 2) (pd ls 3)) fun c39 =>
 obind (atP false 1 0 c39) fun v40 =>
 obind (elP (pd ls 1)) fun q36 =>
 og (decide (q36.1 = 1 ∨ q36.2 = []) && decide (0 < 1)) <|
 og (roomP ((([] : List (List D))).length + (q36.2).length) 8) <|
 og (oneP v40) <|
 og (roomP (((([] : List (List D)) ++ q36.2)).length + ([[v40]]).length) 8) <|
 obind (r_ref35_below [v32, (pd ls 0), (D.sl 1 ((([] : List (List D)) ++ q36.2) ++ [[v40]]))]) fun v43 =>
 some (.inl [(pd ls 0), v43, (pd ls 2), (pd ls 3)])
) (
 some (.inl [(pd ls 0), (pd ls 1), (pd ls 2), (pd ls 3)])
)
) <| jnX fun ls =>
 some (.inl [(pd ls 0), (pd ls 1), (pd ls 2), (pd ls 3)])
) <| jnX fun ls =>
 obind (binP false .add (pd ls 3) (eI 1)) fun v17 =>
 some (.inl [(pd ls 0), (pd ls 1), (pd ls 2), v17])
) (
 inrX (
 some (.inl [(pd ls 1)])
)
)

def ref35_below (r_ref35_below : List D → Option D) (n : Nat) (a0 : D) (a1 : D) (a2 : D) : Option D :=
 og (aggP 4 a0) <|
 obind (ref35_directL n [(D.agg [(celD a0 0), (celD a0 1), (celD a0 2), (celD a0 3)]), a1]) fun v11 =>
 obind (
 iterL (ref35_below_l3 r_ref35_below n) n [a1, a2, v11, (eI 0)]
) <| jnX fun ls =>
 some (pd ls 0)

def ref35_belowL : Nat → List D → Option D
  | 0, _ => none
  | n + 1, ds => match ds with
    | [a0, a1, a2] => ref35_below (ref35_belowL n) n a0 a1 a2
    | _ => none
def ref35_Ringed (n : Nat) (a0 : D) (a1 : D) : Option D :=
 obind (ixP 5 a0 a1) fun c7 =>
 obind (atP true 4 1 c7) fun v9 =>
 obind (ref35_belowL n [v9, a0, (D.val (.slice none 0 0))]) fun v11 =>
 obind (ref35_hasL n [v11, a1]) fun v13 =>
 some v13

def ref35_RingedL (n : Nat) : List D → Option D
  | [a0, a1] => ref35_Ringed n a0 a1
  | _ => none
def ref35_Order_l2 (n : Nat) (ls : List D) : Option (List D ⊕ (List D ⊕ D)) :=
 obind (lenP (pd ls 0)) fun v13 =>
 obind (binP false .lss (pd ls 1) v13) fun v14 =>
 oif v14 (
 obind (ref35_RingedL n [(pd ls 0), (pd ls 1)]) fun v19 =>
 oif v19 (
 inrX (
 inrX (
 some (D.tup [(D.val (.slice none 0 0)), (eI 14)])
)
)
) (
 obind (binP false .add (pd ls 1) (eI 1)) fun v16 =>
 some (.inl [(pd ls 0), v16])
)
) (
 inrX (
 some (.inl [(pd ls 0)])
)
)

def ref35_Order_l15 (n : Nat) (ls : List D) : Option (List D ⊕ (List D ⊕ (List D ⊕ (List D ⊕ (List D ⊕ (List D ⊕ (List D ⊕ (List D ⊕ D)))))))) :=
 obind (lenP (pd ls 4)) fun v46 =>
 obind (binP false .lss (pd ls 5) v46) fun v47 =>
 oif v47 (
 obind (gD (pd ls 3) true (
 obind (ixP 1 (pd ls 4) (pd ls 5)) fun c55 =>
 obind (atP false 1 0 c55) fun v56 =>
 obind (ref35_hasL n [(D.sl 1 (esD (pd ls 6))), v56]) fun v57 =>
 og v57.flat <|
 some v57
)) fun v57 =>
 obind (pickP (pd ls 3) v57 (eB false)) fun v58 =>
 obind (binP false .add (pd ls 5) (eI 1)) fun v49 =>
 some (.inl [(pd ls 0), (pd ls 1), (pd ls 2), v58, (pd ls 4), v49, (D.sl 1 (esD (pd ls 6)))])
) (
 inrX (
 some (.inl [(pd ls 0), (pd ls 1), (pd ls 2), (pd ls 3), (D.sl 1 (esD (pd ls 6)))])
)
)

def ref35_Order_l10 (n : Nat) (ls : List D) : Option (List D ⊕ (List D ⊕ (List D ⊕ (List D ⊕ (List D ⊕ D))))) :=
 obind (binP false .geq (pd ls 2) (eI 0)) fun v30 =>
 oif v30 (
 obind (
 obind (ref35_hasL n [(D.sl 1 (esD (pd ls 3))), (pd ls 2)]) fun v35 =>
 og v35.flat <|
 obind (unP .not v35) fun v36 =>
 obind (ixP 5 (pd ls 0) (pd ls 2)) fun c39 =>
 obind (atP true 4 1 c39) fun v41 =>
 obind (ref35_belowL n [v41, (pd ls 0), (D.val (.slice none 0 0))]) fun v43 =>
 obind (
 iterL (ref35_Order_l15 n) n [(pd ls 0), (pd ls 1), (pd ls 2), v36, v43, (eI 0), (D.sl 1 (esD (pd ls 3)))]
) <| jnX fun ls =>
 obind (
 oif (pd ls 3) (
 some (.inl [(pd ls 0), (pd ls 2), (pd ls 2), (D.sl 1 (esD (pd ls 4)))])
) (
 some (.inl [(pd ls 0), (pd ls 1), (pd ls 2), (D.sl 1 (esD (pd ls 4)))])
)
) <| jnX fun ls =>
 some (.inl [(pd ls 0), (pd ls 1), (pd ls 2), (D.sl 1 (esD (pd ls 3)))])
) <| jnX fun ls =>
 obind (binP false .sub (pd ls 2) (eI 1)) fun v32 =>
 some (.inl [(pd ls 0), (pd ls 1), v32, (D.sl 1 (esD (pd ls 3)))])
) (
 inrX (
 some (.inl [(pd ls 0), (pd ls 1), (D.sl 1 (esD (pd ls 3)))])
)
)

def ref35_Order_l7 (n : Nat) (ls : List D) : Option (List D ⊕ (List D ⊕ D)) :=
 obind (lenP (pd ls 0)) fun v24 =>
 obind (binP false .lss (eI ((esD (pd ls 1))).length) v24) fun v25 =>
 oif v25 (
 obind (
 obind (lenP (pd ls 0)) fun v27 =>
 obind (binP false .sub v27 (eI 1)) fun v28 =>
 obind (
 iterL (ref35_Order_l10 n) n [(pd ls 0), (eI (-1)), v28, (D.sl 1 (esD (pd ls 1)))]
) <| jnX fun ls =>
 og (oneP (pd ls 1)) <|
 og (roomP (((esD (pd ls 2))).length + ([[(pd ls 1)]]).length) 8) <|
 some (.inl [(pd ls 0), (D.sl 1 ((esD (pd ls 2)) ++ [[(pd ls 1)]]))])
) <| jnX fun ls =>
 some (.inl [(pd ls 0), (D.sl 1 (esD (pd ls 1)))])
) (
 inrX (
 some (.inl [(D.sl 1 (esD (pd ls 1)))])
)
)

def ref35_Order (n : Nat) (a0 : D) : Option D :=
 obind (
 iterL (ref35_Order_l2 n) n [a0, (eI 0)]
) <| jnX fun ls =>
 obind (
 iterL (ref35_Order_l7 n) n [(pd ls 0), (D.sl 1 ([] : List (List D)))]
) <| jnX fun ls =>
 some (D.tup [(D.sl 1 (esD (pd ls 0))), (eI 0)])

def ref35_OrderL (n : Nat) : List D → Option D
  | [a0] => ref35_Order n a0
  | _ => none
def ref35_ring_l3 (r_ref35_ring : List D → Option D) (n : Nat) (ls : List D) : Option (List D ⊕ (List D ⊕ D)) :=
 obind (lenP (pd ls 3)) fun v24 =>
 obind (binP false .lss (pd ls 4) v24) fun v25 =>
 oif v25 (
 obind (
 obind (binP false .eql (pd ls 2) (eI 0)) fun v29 =>
 obind (gD v29 true (
 obind (ixP 1 (pd ls 3) (pd ls 4)) fun c33 =>
 obind (atP false 1 0 c33) fun v34 =>
 obind (ixP 1 (pd ls 1) (eI 0)) fun c36 =>
 obind (atP false 1 0 c36) fun v37 =>
 obind (binP false .eql v34 v37) fun v38 =>
 some v38
)) fun v38 =>
 obind (pickP v29 v38 (eB false)) fun v39 =>
 oif v39 (
 inrX (
 inrX (
 inrX (
 some (pd ls 1)
)
)
)
) (
 obind (binP false .eql (pd ls 2) (eI 0)) fun v42 =>
 obind (gD v42 false (
 obind (ixP 1 (pd ls 3) (pd ls 4)) fun c47 =>
 obind (atP false 1 0 c47) fun v48 =>
 obind (ref35_hasL n [(pd ls 1), v48]) fun v49 =>
 some v49
)) fun v49 =>
 obind (pickP v42 (eB true) v49) fun v50 =>
 obind (gD v50 false (
 obind (ixP 1 (pd ls 3) (pd ls 4)) fun c55 =>
 obind (atP false 1 0 c55) fun v56 =>
 obind (ixP 5 (pd ls 0) v56) fun c57 =>
 obind (atP false 1 0 c57) fun v59 =>
 obind (ixP 1 (pd ls 1) (eI 0)) fun c62 =>
 obind (atP false 1 0 c62) fun v63 =>
 obind (ixP 5 (pd ls 0) v63) fun c64 =>
 obind (atP false 1 0 c64) fun v66 =>
 obind (binP false .leq v59 v66) fun v67 =>
 some v67
)) fun v67 =>
 obind (pickP v50 (eB true) v67) fun v68 =>
 oif v68 (
 some (.inl [(pd ls 0), (pd ls 1), (pd ls 2), (pd ls 3), (pd ls 4)])
) (
 obind (ixP 1 (pd ls 3) (pd ls 4)) fun c75 =>
 obind (atP false 1 0 c75) fun v76 =>
 obind (binP false .sub (pd ls 2) (eI 1)) fun v80 =>
 obind (elP (pd ls 1)) fun q72 =>
 og (decide (q72.1 = 1 ∨ q72.2 = []) && decide (0 < 1)) <|
 og (roomP ((([] : List (List D))).length + (q72.2).length) 8) <|
 og (oneP v76) <|
 og (roomP (((([] : List (List D)) ++ q72.2)).length + ([[v76]]).length) 8) <|
 obind (r_ref35_ring [(pd ls 0), (D.sl 1 ((([] : List (List D)) ++ q72.2) ++ [[v76]])), v80]) fun v81 =>
 obind (lenP v81) fun v83 =>
 obind (binP false .gtr v83 (eI 0)) fun v84 =>
 oif v84 (
 inrX (
 inrX (
 inrX (
 some v81
)
)
)
) (
 some (.inl [(pd ls 0), (pd ls 1), (pd ls 2), (pd ls 3), (pd ls 4)])
)
)
)
) <| jnX fun ls =>
 obind (binP false .add (pd ls 4) (eI 1)) fun v27 =>
 some (.inl [(pd ls 0), (pd ls 1), (pd ls 2), (pd ls 3), v27])
) (
 inrX (
 some (.inl [])
)
)

def ref35_ring (r_ref35_ring : List D → Option D) (n : Nat) (a0 : D) (a1 : D) (a2 : D) : Option D :=
 obind (lenP a1) fun v13 =>
 obind (binP false .sub v13 (eI 1)) fun v14 =>
 obind (ixP 1 a1 v14) fun c15 =>
 obind (atP false 1 0 c15) fun v16 =>
 obind (ixP 5 a0 v16) fun c17 =>
 obind (atP true 4 1 c17) fun v19 =>
 obind (ref35_directL n [v19, a0]) fun v21 =>
 obind (
 iterL (ref35_ring_l3 r_ref35_ring n) n [a0, a1, a2, v21, (eI 0)]
) <| jnX fun ls =>
 some (D.val (.slice none 0 0))

def ref35_ringL : Nat → List D → Option D
  | 0, _ => none
  | n + 1, ds => match ds with
    | [a0, a1, a2] => ref35_ring (ref35_ringL n) n a0 a1 a2
    | _ => none
def ref35_Ring_l3 (n : Nat) (ls : List D) : Option (List D ⊕ (List D ⊕ D)) :=
 obind (lenP (pd ls 0)) fun v13 =>
 obind (binP false .lss (pd ls 2) v13) fun v14 =>
 oif v14 (
 obind (ixP 5 (pd ls 0) (pd ls 2)) fun c20 =>
 obind (atP false 1 0 c20) fun v22 =>
 obind (ref30_WithL n [(pd ls 1), v22]) fun v23 =>
 obind (binP false .add (pd ls 2) (eI 1)) fun v16 =>
 some (.inl [(pd ls 0), v23, v16])
) (
 inrX (
 some (.inl [(pd ls 0), (pd ls 1)])
)
)

def ref35_Ring_l16 (n : Nat) (ls : List D) : Option (List D ⊕ (List D ⊕ (List D ⊕ (List D ⊕ (List D ⊕ (List D ⊕ (List D ⊕ (List D ⊕ D)))))))) :=
 obind (lenP (pd ls 1)) fun v52 =>
 obind (binP false .lss (pd ls 2) v52) fun v53 =>
 oif v53 (
 obind (ixP 1 (pd ls 1) (pd ls 2)) fun c60 =>
 obind (atP false 1 0 c60) fun v61 =>
 obind (ixP 5 (pd ls 0) v61) fun c62 =>
 obind (atP false 1 0 c62) fun v64 =>
 og (oneP v64) <|
 og (roomP (((esD (pd ls 3))).length + ([[v64]]).length) 16) <|
 obind (binP false .add (pd ls 2) (eI 1)) fun v55 =>
 some (.inl [(pd ls 0), (pd ls 1), v55, (D.sl 1 ((esD (pd ls 3)) ++ [[v64]]))])
) (
 inrX (
 some (.inl [(D.sl 1 (esD (pd ls 3)))])
)
)

def ref35_Ring_l10 (n : Nat) (ls : List D) : Option (List D ⊕ (List D ⊕ (List D ⊕ (List D ⊕ (List D ⊕ D))))) :=
 obind (lenP (pd ls 1)) fun v32 =>
 obind (binP false .lss (pd ls 3) v32) fun v33 =>
 oif v33 (
 obind (
 obind (ixP 1 (pd ls 1) (pd ls 3)) fun c40 =>
 obind (atP false 1 0 c40) fun v41 =>
 obind (ref35_IndexL n [(pd ls 0), v41]) fun v42 =>
 og (oneP v42) <|
 obind (ref35_ringL n [(pd ls 0), (D.sl 1 [[v42]]), (pd ls 2)]) fun v45 =>
 obind (lenP v45) fun v47 =>
 obind (binP false .gtr v47 (eI 0)) fun v48 =>
 oif v48 (
 obind (
 iterL (ref35_Ring_l16 n) n [(pd ls 0), v45, (eI 0), (D.sl 1 ([] : List (List D)))]
) <| jnX fun ls =>
 inrX (
 inrX (
 inrX (
 inrX (
 inrX (
 inrX (
 some (D.sl 1 (esD (pd ls 0)))
)
)
)
)
)
)
) (
 some (.inl [(pd ls 0), (pd ls 1), (pd ls 2), (pd ls 3)])
)
) <| jnX fun ls =>
 obind (binP false .add (pd ls 3) (eI 1)) fun v35 =>
 some (.inl [(pd ls 0), (pd ls 1), (pd ls 2), v35])
) (
 inrX (
 some (.inl [(pd ls 0), (pd ls 1), (pd ls 2)])
)
)

def ref35_Ring_l7 (n : Nat) (ls : List D) : Option (List D ⊕ (List D ⊕ D)) :=
 obind (lenP (pd ls 0)) fun v26 =>
 obind (binP false .lss (pd ls 2) v26) fun v27 =>
 oif v27 (
 obind (
 obind (
 iterL (ref35_Ring_l10 n) n [(pd ls 0), (pd ls 1), (pd ls 2), (eI 0)]
) <| jnX fun ls =>
 some (.inl [(pd ls 0), (pd ls 1), (pd ls 2)])
) <| jnX fun ls =>
 obind (binP false .add (pd ls 2) (eI 1)) fun v29 =>
 some (.inl [(pd ls 0), (pd ls 1), v29])
) (
 inrX (
 some (.inl [])
)
)

def ref35_Ring (n : Nat) (a0 : D) : Option D :=
 obind (
 iterL (ref35_Ring_l3 n) n [a0, (D.sl 1 ([] : List (List D))), (eI 0)]
) <| jnX fun ls =>
 obind (
 iterL (ref35_Ring_l7 n) n [(pd ls 0), (pd ls 1), (eI 0)]
) <| jnX fun ls =>
 some (D.val (.slice none 0 0))

def ref35_RingL (n : Nat) : List D → Option D
  | [a0] => ref35_Ring n a0
  | _ => none
def law35_DefsOrders (n : Nat) (a0 : D) : Option D :=
 obind (law35_fewL n [a0]) fun v9 =>
 obind (unP .not v9) fun v10 =>
 oif v10 (
 obind (law35_livesL n []) fun v11 =>
 some v11
) (
 obind (defs_OrderL n [a0]) fun v14 =>
 obind (extP 0 v14) fun v15 =>
 obind (extP 1 v14) fun v16 =>
 obind (ref35_OrderL n [a0]) fun v19 =>
 obind (extP 0 v19) fun v20 =>
 obind (extP 1 v19) fun v21 =>
 obind (defs_RingL n [a0]) fun v23 =>
 obind (ref03_SameL n [v15, v20]) fun v26 =>
 obind (gD v26 true (
 obind (binP false .eql v16 v21) fun v30 =>
 some v30
)) fun v30 =>
 obind (pickP v26 v30 (eB false)) fun v31 =>
 obind (gD v31 true (
 obind (ref35_RingL n [a0]) fun v35 =>
 obind (ref30_TextsL n [v23, v35]) fun v36 =>
 some v36
)) fun v36 =>
 obind (pickP v31 v36 (eB false)) fun v37 =>
 obind (gD v37 true (
 obind (lenP v23) fun v40 =>
 obind (binP false .gtr v40 (eI 0)) fun v41 =>
 obind (binP false .eql v16 (eI 14)) fun v43 =>
 obind (binP true .eql v41 v43) fun v44 =>
 some v44
)) fun v44 =>
 obind (pickP v37 v44 (eB false)) fun v45 =>
 obind (gD v45 true (
 obind (law35_livesL n []) fun v47 =>
 some v47
)) fun v47 =>
 obind (pickP v45 v47 (eB false)) fun v48 =>
 some v48
)

def law35_DefsOrdersL (n : Nat) : List D → Option D
  | [a0] => law35_DefsOrders n a0
  | _ => none
def law30_Light (n : Nat) (a0 : D) : Option D :=
 og (aggP 4 a0) <|
 obind (ref30_PartsL n [(D.agg [(celD a0 0), (celD a0 1), (celD a0 2), (celD a0 3)])]) fun v7 =>
 obind (extP 0 v7) fun v8 =>
 obind (extP 1 v7) fun v9 =>
 obind (binP false .leq v8 (eI 300)) fun v11 =>
 obind (gD v11 true (
 obind (binP false .leq v9 (eI 80)) fun v14 =>
 some v14
)) fun v14 =>
 obind (pickP v11 v14 (eB false)) fun v15 =>
 some v15

def law30_LightL (n : Nat) : List D → Option D
  | [a0] => law30_Light n a0
  | _ => none
def ref30_Kids (n : Nat) (a0 : D) : Option D :=
 obind (
 obind (binP false .eql a0 (eI 1)) fun v6 =>
 obind (
 oif v6 (
 some (.inl [a0, a0, v6])
) (
 obind (binP false .eql a0 (eI 2)) fun v7 =>
 obind (
 oif v7 (
 some (.inl [a0, a0, v7])
) (
 obind (binP false .eql a0 (eI 3)) fun v8 =>
 obind (
 oif v8 (
 some (.inl [a0, a0, v8])
) (
 obind (binP false .eql a0 (eI 4)) fun v9 =>
 some (.inl [a0, a0, v9])
)
) <| jnX fun ls =>
 some (.inl [(pd ls 0), (pd ls 1), (pd ls 2)])
)
) <| jnX fun ls =>
 some (.inl [(pd ls 0), (pd ls 1), (pd ls 2)])
)
) <| jnX fun ls =>
 oif (pd ls 2) (
 inrX (
 some (D.tup [(eI 0), (eI 0)])
)
) (
 obind (binP false .eql (pd ls 1) (eI 5)) fun v11 =>
 oif v11 (
 inrX (
 some (D.tup [(eI 1), (eI 1)])
)
) (
 obind (binP false .eql (pd ls 1) (eI 6)) fun v13 =>
 obind (
 oif v13 (
 some (.inl [(pd ls 0), (pd ls 1), v13])
) (
 obind (binP false .eql (pd ls 1) (eI 7)) fun v14 =>
 some (.inl [(pd ls 0), (pd ls 1), v14])
)
) <| jnX fun ls =>
 oif (pd ls 2) (
 inrX (
 some (D.tup [(eI 1), (eI 64)])
)
) (
 obind (binP false .eql (pd ls 1) (eI 18)) fun v16 =>
 oif v16 (
 inrX (
 some (D.tup [(eI 3), (eI 3)])
)
) (
 some (.inl [(pd ls 0)])
)
)
)
)
) <| jnX fun ls =>
 obind (binP false .lss (pd ls 0) (eI 1)) fun v18 =>
 obind (gD v18 false (
 obind (binP false .gtr (pd ls 0) (eI 18)) fun v21 =>
 some v21
)) fun v21 =>
 obind (pickP v18 (eB true) v21) fun v22 =>
 oif v22 (
 some (D.tup [(eI (-1)), (eI (-1))])
) (
 some (D.tup [(eI 2), (eI 2)])
)

def ref30_KidsL (n : Nat) : List D → Option D
  | [a0] => ref30_Kids n a0
  | _ => none
def ref30_Part (n : Nat) (a0 : D) (a1 : D) : Option D :=
 og (aggP 4 a0) <|
 obind (binP false .gtr a1 (eI 64)) fun v11 =>
 oif v11 (
 some (eI 17)
) (
 obind (ref30_KidsL n [(celD a0 0)]) fun v15 =>
 obind (extP 0 v15) fun v16 =>
 obind (extP 1 v15) fun v17 =>
 obind (binP false .lss v16 (eI 0)) fun v19 =>
 oif v19 (
 some (eI 11)
) (
 obind (binP false .eql (celD a0 0) (eI 1)) fun v22 =>
 obind (
 oif v22 (
 some (.inl [v16, v17, (eI (-255)), (eI 255), (celD a0 0), (celD a0 1), (celD a0 2), (celD a0 3)])
) (
 some (.inl [v16, v17, (eI 0), (eI 0), (celD a0 0), (celD a0 1), (celD a0 2), (celD a0 3)])
)
) <| jnX fun ls =>
 obind (binP false .eql (pd ls 4) (eI 2)) fun v25 =>
 obind (
 oif v25 (
 some (.inl [(pd ls 0), (pd ls 1), (pd ls 2), (eI 1), (pd ls 4), (pd ls 5), (pd ls 6), (pd ls 7)])
) (
 some (.inl [(pd ls 0), (pd ls 1), (pd ls 2), (pd ls 3), (pd ls 4), (pd ls 5), (pd ls 6), (pd ls 7)])
)
) <| jnX fun ls =>
 obind (binP false .lss (pd ls 5) (pd ls 2)) fun v29 =>
 obind (gD v29 false (
 obind (binP false .gtr (pd ls 5) (pd ls 3)) fun v34 =>
 some v34
)) fun v34 =>
 obind (pickP v29 (eB true) v34) fun v35 =>
 oif v35 (
 some (eI 2)
) (
 obind (binP false .eql (pd ls 4) (eI 3)) fun v38 =>
 obind (gD v38 false (
 obind (binP false .eql (pd ls 4) (eI 4)) fun v42 =>
 some v42
)) fun v42 =>
 obind (pickP v38 (eB true) v42) fun v43 =>
 obind (gD v43 true (
 obind (lensP (pd ls 6)) fun v48 =>
 obind (binP false .lss v48 (eI 1)) fun v49 =>
 some v49
)) fun v50 =>
 obind (gD v50 false (
 obind (lensP (pd ls 6)) fun v53 =>
 obind (binP false .gtr v53 (eI 24)) fun v54 =>
 some v54
)) fun v54 =>
 obind (gD v43 true (
 obind (pickP v50 (eB true) v54) fun v55 =>
 some v55
)) fun v55 =>
 obind (pickP v43 v55 (eB false)) fun v56 =>
 obind (gD v56 false (
 obind (unP .not v43) fun v59 =>
 some v59
)) fun v60 =>
 obind (gD v60 true (
 obind (binP false .neq (pd ls 6) (eS ⟨#[]⟩)) fun v63 =>
 some v63
)) fun v63 =>
 obind (gD v56 false (
 obind (pickP v60 v63 (eB false)) fun v64 =>
 some v64
)) fun v64 =>
 obind (pickP v56 (eB true) v64) fun v65 =>
 oif v65 (
 some (eI 12)
) (
 obind (lenP (pd ls 7)) fun v68 =>
 obind (binP false .lss v68 (pd ls 0)) fun v70 =>
 obind (gD v70 false (
 obind (lenP (pd ls 7)) fun v74 =>
 obind (binP false .gtr v74 (pd ls 1)) fun v76 =>
 some v76
)) fun v76 =>
 obind (pickP v70 (eB true) v76) fun v77 =>
 oif v77 (
 some (eI 3)
) (
 some (eI 0)
)
)
)
)
)

def ref30_PartL (n : Nat) : List D → Option D
  | [a0, a1] => ref30_Part n a0 a1
  | _ => none
def ref30_check_l8 (r_ref30_check : List D → Option D) (n : Nat) (ls : List D) : Option (List D ⊕ (List D ⊕ D)) :=
 obind (lenP (pd ls 6)) fun v27 =>
 obind (binP false .lss (pd ls 2) v27) fun v28 =>
 oif v28 (
 obind (ixP 4 (pd ls 6) (pd ls 2)) fun c35 =>
 obind (atP true 4 0 c35) fun v36 =>
 obind (binP false .add (pd ls 0) (eI 1)) fun v38 =>
 obind (r_ref30_check [v36, v38, (pd ls 1)]) fun v40 =>
 obind (extP 0 v40) fun v41 =>
 obind (extP 1 v40) fun v42 =>
 obind (binP false .neq v41 (eI 0)) fun v44 =>
 oif v44 (
 inrX (
 inrX (
 some (D.tup [v41, v42])
)
)
) (
 obind (binP false .add (pd ls 2) (eI 1)) fun v30 =>
 some (.inl [(pd ls 0), v42, v30, (pd ls 3), (pd ls 4), (pd ls 5), (pd ls 6)])
)
) (
 inrX (
 some (.inl [(pd ls 1)])
)
)

def ref30_check (r_ref30_check : List D → Option D) (n : Nat) (a0 : D) (a1 : D) (a2 : D) : Option D :=
 og (aggP 4 a0) <|
 obind (binP false .add a2 (eI 1)) fun v13 =>
 obind (ref30_PartL n [(D.agg [(celD a0 0), (celD a0 1), (celD a0 2), (celD a0 3)]), a1]) fun v16 =>
 obind (binP false .neq v16 (eI 0)) fun v18 =>
 oif v18 (
 some (D.tup [v16, v13])
) (
 obind (binP false .gtr v13 (eI 4096)) fun v22 =>
 oif v22 (
 some (D.tup [(eI 4), v13])
) (
 obind (
 iterL (ref30_check_l8 r_ref30_check n) n [a1, v13, (eI 0), (celD a0 0), (celD a0 1), (celD a0 2), (celD a0 3)]
) <| jnX fun ls =>
 some (D.tup [(eI 0), (pd ls 0)])
)
)

def ref30_checkL : Nat → List D → Option D
  | 0, _ => none
  | n + 1, ds => match ds with
    | [a0, a1, a2] => ref30_check (ref30_checkL n) n a0 a1 a2
    | _ => none
def ref30_Check (n : Nat) (a0 : D) : Option D :=
 og (aggP 4 a0) <|
 obind (ref30_checkL n [(D.agg [(celD a0 0), (celD a0 1), (celD a0 2), (celD a0 3)]), (eI 1), (eI 0)]) fun v7 =>
 obind (extP 0 v7) fun v8 =>
 obind (extP 1 v7) fun v9 =>
 some v8

def ref30_CheckL (n : Nat) : List D → Option D
  | [a0] => ref30_Check n a0
  | _ => none
def ref35_put_l13 (r_ref35_put : List D → Option D) (n : Nat) (ls : List D) : Option (List D ⊕ (List D ⊕ D)) :=
 obind (lenP (pd ls 7)) fun v57 =>
 obind (binP false .lss (pd ls 3) v57) fun v58 =>
 oif v58 (
 obind (ixP 4 (pd ls 7) (pd ls 3)) fun c65 =>
 obind (atP true 4 0 c65) fun v66 =>
 obind (binP false .add (pd ls 1) (eI 1)) fun v69 =>
 obind (r_ref35_put [v66, (pd ls 0), v69, (pd ls 2)]) fun v71 =>
 obind (extP 0 v71) fun v72 =>
 obind (extP 1 v71) fun v73 =>
 obind (extP 2 v71) fun v74 =>
 og (aggP 4 v72) <|
 obind (binP false .neq v74 (eI 0)) fun v76 =>
 oif v76 (
 inrX (
 inrX (
 some (D.tup [(D.agg [(eI 0), (eI 0), (eS ⟨#[]⟩), (D.val (.slice none 0 0))]), v73, v74])
)
)
) (
 og (aggP 4 (D.agg [(celD v72 0), (celD v72 1), (celD v72 2), (celD v72 3)])) <|
 og (roomP (((esD (pd ls 12))).length + ([[(celD v72 0), (celD v72 1), (celD v72 2), (celD v72 3)]]).length) 56) <|
 obind (binP false .add (pd ls 3) (eI 1)) fun v60 =>
 some (.inl [(pd ls 0), (pd ls 1), v73, v60, (pd ls 4), (pd ls 5), (pd ls 6), (pd ls 7), (pd ls 8), (pd ls 9), (pd ls 10), (pd ls 11), (D.sl 4 ((esD (pd ls 12)) ++ [[(celD v72 0), (celD v72 1), (celD v72 2), (celD v72 3)]]))])
)
) (
 inrX (
 some (.inl [(pd ls 2), (pd ls 4), (pd ls 5), (pd ls 6), (pd ls 7), (pd ls 8), (pd ls 9), (pd ls 10), (pd ls 11), (D.sl 4 (esD (pd ls 12)))])
)
)

def ref35_put (r_ref35_put : List D → Option D) (n : Nat) (a0 : D) (a1 : D) (a2 : D) (a3 : D) : Option D :=
 og (aggP 4 a0) <|
 obind (binP false .eql (celD a0 0) (eI 3)) fun v20 =>
 obind (
 oif v20 (
 obind (ref35_IndexL n [a1, (celD a0 2)]) fun v24 =>
 obind (binP false .geq v24 (eI 0)) fun v26 =>
 oif v26 (
 obind (ixP 5 a1 v24) fun c29 =>
 obind (atP true 4 1 c29) fun v31 =>
 obind (r_ref35_put [v31, a1, a2, a3]) fun v35 =>
 obind (extP 0 v35) fun v36 =>
 obind (extP 1 v35) fun v37 =>
 obind (extP 2 v35) fun v38 =>
 og (aggP 4 v36) <|
 inrX (
 some (D.tup [(D.agg [(celD v36 0), (celD v36 1), (celD v36 2), (celD v36 3)]), v37, v38])
)
) (
 some (.inl [a1, a2, a3, (celD a0 0), (celD a0 1), (celD a0 2), (celD a0 3), (eI 0), (eI 0), (eS ⟨#[]⟩), (D.val (.slice none 0 0))])
)
) (
 some (.inl [a1, a2, a3, (celD a0 0), (celD a0 1), (celD a0 2), (celD a0 3), (eI 0), (eI 0), (eS ⟨#[]⟩), (D.val (.slice none 0 0))])
)
) <| jnX fun ls =>
 obind (binP false .add (pd ls 2) (eI 1)) fun v40 =>
 obind (ref30_PartL n [(D.agg [(pd ls 3), (pd ls 4), (pd ls 5), (pd ls 6)]), (pd ls 1)]) fun v43 =>
 obind (binP false .neq v43 (eI 0)) fun v45 =>
 oif v45 (
 some (D.tup [(D.agg [(eI 0), (eI 0), (eS ⟨#[]⟩), (D.val (.slice none 0 0))]), v40, v43])
) (
 obind (binP false .gtr v40 (eI 4096)) fun v50 =>
 oif v50 (
 some (D.tup [(D.agg [(eI 0), (eI 0), (eS ⟨#[]⟩), (D.val (.slice none 0 0))]), v40, (eI 4)])
) (
 obind (
 iterL (ref35_put_l13 r_ref35_put n) n [(pd ls 0), (pd ls 1), v40, (eI 0), (pd ls 3), (pd ls 4), (pd ls 5), (pd ls 6), (pd ls 7), (pd ls 8), (pd ls 9), (pd ls 10), (D.sl 4 ([] : List (List D)))]
) <| jnX fun ls =>
 og (oneP (pd ls 1)) <|
 og (oneP (pd ls 2)) <|
 og (oneP (pd ls 3)) <|
 some (D.tup [(D.agg [(pd ls 1), (pd ls 2), (pd ls 3), (D.sl 4 (esD (pd ls 9)))]), (pd ls 0), (eI 0)])
)
)

def ref35_putL : Nat → List D → Option D
  | 0, _ => none
  | n + 1, ds => match ds with
    | [a0, a1, a2, a3] => ref35_put (ref35_putL n) n a0 a1 a2 a3
    | _ => none
def ref35_Inline_l6 (n : Nat) (ls : List D) : Option (List D ⊕ (List D ⊕ D)) :=
 obind (lenP (pd ls 1)) fun v23 =>
 obind (binP false .lss (pd ls 2) v23) fun v24 =>
 oif v24 (
 obind (ixP 1 (pd ls 1) (pd ls 2)) fun c30 =>
 obind (atP false 1 0 c30) fun v31 =>
 obind (ref35_RingedL n [(pd ls 0), v31]) fun v32 =>
 oif v32 (
 inrX (
 inrX (
 some (D.tup [(D.agg [(eI 0), (eI 0), (eS ⟨#[]⟩), (D.val (.slice none 0 0))]), (eI 14)])
)
)
) (
 obind (binP false .add (pd ls 2) (eI 1)) fun v26 =>
 some (.inl [(pd ls 0), (pd ls 1), v26, (pd ls 3), (pd ls 4), (pd ls 5), (pd ls 6), (pd ls 7), (pd ls 8), (pd ls 9), (pd ls 10)])
)
) (
 inrX (
 some (.inl [(pd ls 0), (pd ls 3), (pd ls 4), (pd ls 5), (pd ls 6), (pd ls 7), (pd ls 8), (pd ls 9), (pd ls 10)])
)
)

def ref35_Inline (n : Nat) (a0 : D) (a1 : D) : Option D :=
 og (aggP 4 a0) <|
 obind (ref30_CheckL n [(D.agg [(celD a0 0), (celD a0 1), (celD a0 2), (celD a0 3)])]) fun v13 =>
 obind (binP false .neq v13 (eI 0)) fun v15 =>
 oif v15 (
 some (D.tup [(D.agg [(eI 0), (eI 0), (eS ⟨#[]⟩), (D.val (.slice none 0 0))]), v13])
) (
 obind (ref35_belowL n [(D.agg [(celD a0 0), (celD a0 1), (celD a0 2), (celD a0 3)]), a1, (D.val (.slice none 0 0))]) fun v20 =>
 obind (
 iterL (ref35_Inline_l6 n) n [a1, v20, (eI 0), (celD a0 0), (celD a0 1), (celD a0 2), (celD a0 3), (eI 0), (eI 0), (eS ⟨#[]⟩), (D.val (.slice none 0 0))]
) <| jnX fun ls =>
 obind (ref35_putL n [(D.agg [(pd ls 1), (pd ls 2), (pd ls 3), (pd ls 4)]), (pd ls 0), (eI 1), (eI 0)]) fun v37 =>
 obind (extP 0 v37) fun v38 =>
 obind (extP 1 v37) fun v39 =>
 obind (extP 2 v37) fun v40 =>
 og (aggP 4 v38) <|
 og (aggP 4 (D.agg [(celD v38 0), (celD v38 1), (celD v38 2), (celD v38 3)])) <|
 some (D.tup [(D.agg [(celD v38 0), (celD v38 1), (celD v38 2), (celD v38 3)]), v40])
)

def ref35_InlineL (n : Nat) : List D → Option D
  | [a0, a1] => ref35_Inline n a0 a1
  | _ => none
def law35_DefsInlines_l12 (n : Nat) (ls : List D) : Option (List D ⊕ (List D ⊕ D)) :=
 obind (lenP (pd ls 2)) fun v60 =>
 obind (binP false .lss (pd ls 3) v60) fun v61 =>
 oif v61 (
 obind (ixP 1 (pd ls 2) (pd ls 3)) fun c67 =>
 obind (atP false 1 0 c67) fun v68 =>
 obind (ref35_IndexL n [(pd ls 0), v68]) fun v69 =>
 obind (binP false .geq v69 (eI 0)) fun v70 =>
 oif v70 (
 inrX (
 inrX (
 some (eB false)
)
)
) (
 obind (binP false .add (pd ls 3) (eI 1)) fun v63 =>
 some (.inl [(pd ls 0), (pd ls 1), (pd ls 2), v63, (pd ls 4), (pd ls 5), (pd ls 6), (pd ls 7), (pd ls 8), (pd ls 9), (pd ls 10), (pd ls 11)])
)
) (
 inrX (
 some (.inl [(pd ls 1), (pd ls 4), (pd ls 5), (pd ls 6), (pd ls 7), (pd ls 8), (pd ls 9), (pd ls 10), (pd ls 11)])
)
)

def law35_DefsInlines (n : Nat) (a0 : D) (a1 : D) : Option D :=
 og (aggP 4 a0) <|
 obind (law30_LightL n [(D.agg [(celD a0 0), (celD a0 1), (celD a0 2), (celD a0 3)])]) fun v15 =>
 obind (unP .not v15) fun v16 =>
 obind (gD v16 false (
 obind (law35_fewL n [a1]) fun v19 =>
 obind (unP .not v19) fun v20 =>
 some v20
)) fun v20 =>
 obind (pickP v16 (eB true) v20) fun v21 =>
 oif v21 (
 obind (law35_livesL n []) fun v22 =>
 some v22
) (
 obind (defs_InlineL n [(D.agg [(celD a0 0), (celD a0 1), (celD a0 2), (celD a0 3)]), a1]) fun v26 =>
 obind (extP 0 v26) fun v27 =>
 obind (extP 1 v26) fun v28 =>
 og (aggP 4 v27) <|
 obind (ref35_InlineL n [(D.agg [(celD a0 0), (celD a0 1), (celD a0 2), (celD a0 3)]), a1]) fun v32 =>
 obind (extP 0 v32) fun v33 =>
 obind (extP 1 v32) fun v34 =>
 og (aggP 4 v33) <|
 obind (ref30_SameL n [(D.agg [(celD v27 0), (celD v27 1), (celD v27 2), (celD v27 3)]), (D.agg [(celD v33 0), (celD v33 1), (celD v33 2), (celD v33 3)])]) fun v37 =>
 obind (unP .not v37) fun v38 =>
 obind (gD v38 false (
 obind (binP false .neq v28 v34) fun v42 =>
 some v42
)) fun v42 =>
 obind (pickP v38 (eB true) v42) fun v43 =>
 oif v43 (
 some (eB false)
) (
 obind (binP false .neq v28 (eI 0)) fun v45 =>
 oif v45 (
 obind (law35_livesL n []) fun v46 =>
 some v46
) (
 obind (defs_InlineL n [(D.agg [(celD v27 0), (celD v27 1), (celD v27 2), (celD v27 3)]), a1]) fun v50 =>
 obind (extP 0 v50) fun v51 =>
 obind (extP 1 v50) fun v52 =>
 og (aggP 4 v51) <|
 obind (ref30_NamesL n [(D.agg [(celD v27 0), (celD v27 1), (celD v27 2), (celD v27 3)])]) fun v55 =>
 obind (extP 0 v55) fun v56 =>
 obind (extP 1 v55) fun v57 =>
 obind (
 iterL (law35_DefsInlines_l12 n) n [a1, v52, v56, (eI 0), (celD v27 0), (celD v27 1), (celD v27 2), (celD v27 3), (celD v51 0), (celD v51 1), (celD v51 2), (celD v51 3)]
) <| jnX fun ls =>
 obind (binP false .eql (pd ls 0) (eI 0)) fun v72 =>
 obind (gD v72 true (
 obind (ref30_SameL n [(D.agg [(pd ls 1), (pd ls 2), (pd ls 3), (pd ls 4)]), (D.agg [(pd ls 5), (pd ls 6), (pd ls 7), (pd ls 8)])]) fun v76 =>
 some v76
)) fun v76 =>
 obind (pickP v72 v76 (eB false)) fun v77 =>
 obind (gD v77 true (
 obind (law35_livesL n []) fun v79 =>
 some v79
)) fun v79 =>
 obind (pickP v77 v79 (eB false)) fun v80 =>
 some v80
)
)
)

def law35_DefsInlinesL (n : Nat) : List D → Option D
  | [a0, a1] => law35_DefsInlines n a0 a1
  | _ => none
def law35_DefsDoubles_l4 (n : Nat) (ls : List D) : Option (List D ⊕ (List D ⊕ D)) :=
 obind (binP false .lss (pd ls 3) (pd ls 2)) fun v25 =>
 oif v25 (
 obind (binP false .sub (pd ls 3) (eI 1)) fun v30 =>
 obind (numP ((esD (pd ls 4))).length v30) fun j31 =>
 obind (((esD (pd ls 4)))[j31]?) fun e33 =>
 obind (atP false 1 0 e33) fun v33 =>
 obind (law35_nameL n [v33]) fun v34 =>
 og (aggP 4 v34) <|
 obind (law35_twoL n [(eI 14), (D.agg [(celD v34 0), (celD v34 1), (celD v34 2), (celD v34 3)]), (D.agg [(celD v34 0), (celD v34 1), (celD v34 2), (celD v34 3)])]) fun v37 =>
 og (aggP 4 v37) <|
 obind (binP false .rem (pd ls 1) (D.val (.int .u8 3))) fun v39 =>
 obind (binP false .eql v39 (D.val (.int .u8 1))) fun v40 =>
 obind (
 oif v40 (
 obind (law35_numL n [(eI 1)]) fun v42 =>
 obind (law35_twoL n [(eI 14), (D.agg [(celD v34 0), (celD v34 1), (celD v34 2), (celD v34 3)]), v42]) fun v43 =>
 og (aggP 4 v43) <|
 some (.inl [(pd ls 0), (pd ls 1), (pd ls 2), (pd ls 3), (D.sl 5 (esD (pd ls 4))), (celD v43 0), (celD v43 1), (celD v43 2), (celD v43 3)])
) (
 some (.inl [(pd ls 0), (pd ls 1), (pd ls 2), (pd ls 3), (D.sl 5 (esD (pd ls 4))), (celD v37 0), (celD v37 1), (celD v37 2), (celD v37 3)])
)
) <| jnX fun ls =>
 obind (binP false .add (pd ls 3) (eI 1)) fun v47 =>
 obind (subsP (eS ⟨#[97, 98, 99, 100, 101, 102, 103, 104, 105, 106, 107, 108, 109, 110, 111]⟩) (some (pd ls 3)) (some v47)) fun v48 =>
 obind (binP false .add (eS ⟨#[120]⟩) v48) fun v49 =>
 og (oneP v49) <|
 og (aggP 4 (D.agg [(pd ls 5), (pd ls 6), (pd ls 7), (pd ls 8)])) <|
 og (aggP 5 (D.agg [v49, (pd ls 5), (pd ls 6), (pd ls 7), (pd ls 8)])) <|
 og (roomP (((esD (pd ls 4))).length + ([[v49, (pd ls 5), (pd ls 6), (pd ls 7), (pd ls 8)]]).length) 72) <|
 obind (binP false .add (pd ls 3) (eI 1)) fun v27 =>
 some (.inl [(pd ls 0), (pd ls 1), (pd ls 2), v27, (D.sl 5 ((esD (pd ls 4)) ++ [[v49, (pd ls 5), (pd ls 6), (pd ls 7), (pd ls 8)]]))])
) (
 inrX (
 some (.inl [(pd ls 0), (pd ls 1), (D.sl 5 (esD (pd ls 4)))])
)
)

def law35_DefsDoubles_l14 (n : Nat) (ls : List D) : Option (List D ⊕ (List D ⊕ (List D ⊕ D))) :=
 obind (cvP .i64 (pd ls 0)) fun v67 =>
 obind (binP false .quo v67 (eI 8)) fun v68 =>
 obind (binP false .sub (eI 63) v68) fun v69 =>
 obind (binP false .lss (pd ls 1) v69) fun v70 =>
 oif v70 (
 og (aggP 4 (D.agg [(pd ls 3), (pd ls 4), (pd ls 5), (pd ls 6)])) <|
 og (aggP 4 (D.agg [(eI 5), (eI 0), (eS ⟨#[]⟩), (D.sl 4 [[(pd ls 3), (pd ls 4), (pd ls 5), (pd ls 6)]])])) <|
 obind (binP false .add (pd ls 1) (eI 1)) fun v72 =>
 some (.inl [(pd ls 0), v72, (D.sl 5 (esD (pd ls 2))), (eI 5), (eI 0), (eS ⟨#[]⟩), (D.sl 4 [[(pd ls 3), (pd ls 4), (pd ls 5), (pd ls 6)]])])
) (
 inrX (
 some (.inl [(D.sl 5 (esD (pd ls 2))), (pd ls 3), (pd ls 4), (pd ls 5), (pd ls 6)])
)
)

def law35_DefsDoubles (n : Nat) (a0 : D) (a1 : D) : Option D :=
 obind (law35_numL n [(eI 1)]) fun v16 =>
 og (aggP 4 v16) <|
 og (aggP 5 (D.agg [(eS ⟨#[120, 48]⟩), (celD v16 0), (celD v16 1), (celD v16 2), (celD v16 3)])) <|
 obind (cvP .i64 a0) fun v20 =>
 obind (binP false .rem v20 (eI 15)) fun v21 =>
 obind (binP false .add (eI 1) v21) fun v22 =>
 obind (
 iterL (law35_DefsDoubles_l4 n) n [a0, a1, v22, (eI 1), (D.sl 5 [[(eS ⟨#[120, 48]⟩), (celD v16 0), (celD v16 1), (celD v16 2), (celD v16 3)]])]
) <| jnX fun ls =>
 obind (binP false .sub (eI ((esD (pd ls 2))).length) (eI 1)) fun v57 =>
 obind (numP ((esD (pd ls 2))).length v57) fun j58 =>
 obind (((esD (pd ls 2)))[j58]?) fun e60 =>
 obind (atP false 1 0 e60) fun v60 =>
 obind (law35_nameL n [v60]) fun v61 =>
 og (aggP 4 v61) <|
 obind (binP false .rem (pd ls 1) (D.val (.int .u8 3))) fun v63 =>
 obind (binP false .eql v63 (D.val (.int .u8 2))) fun v64 =>
 obind (
 oif v64 (
 obind (
 iterL (law35_DefsDoubles_l14 n) n [(pd ls 0), (eI 0), (D.sl 5 (esD (pd ls 2))), (celD v61 0), (celD v61 1), (celD v61 2), (celD v61 3)]
) <| jnX fun ls =>
 some (.inl [(D.sl 5 (esD (pd ls 0))), (pd ls 1), (pd ls 2), (pd ls 3), (pd ls 4)])
) (
 some (.inl [(D.sl 5 (esD (pd ls 2))), (celD v61 0), (celD v61 1), (celD v61 2), (celD v61 3)])
)
) <| jnX fun ls =>
 obind (defs_InlineL n [(D.agg [(pd ls 1), (pd ls 2), (pd ls 3), (pd ls 4)]), (D.sl 5 (esD (pd ls 0)))]) fun v79 =>
 obind (extP 0 v79) fun v80 =>
 obind (extP 1 v79) fun v81 =>
 og (aggP 4 v80) <|
 obind (ref35_InlineL n [(D.agg [(pd ls 1), (pd ls 2), (pd ls 3), (pd ls 4)]), (D.sl 5 (esD (pd ls 0)))]) fun v85 =>
 obind (extP 0 v85) fun v86 =>
 obind (extP 1 v85) fun v87 =>
 og (aggP 4 v86) <|
 obind (ref30_SameL n [(D.agg [(celD v80 0), (celD v80 1), (celD v80 2), (celD v80 3)]), (D.agg [(celD v86 0), (celD v86 1), (celD v86 2), (celD v86 3)])]) fun v90 =>
 obind (gD v90 true (
 obind (binP false .eql v81 v87) fun v94 =>
 some v94
)) fun v94 =>
 obind (pickP v90 v94 (eB false)) fun v95 =>
 obind (gD v95 true (
 obind (law35_livesL n []) fun v97 =>
 some v97
)) fun v97 =>
 obind (pickP v95 v97 (eB false)) fun v98 =>
 some v98

def law35_DefsDoublesL (n : Nat) : List D → Option D
  | [a0, a1] => law35_DefsDoubles n a0 a1
  | _ => none
def ref32_terms_l2 (r_ref32_terms : List D → Option D) (n : Nat) (ls : List D) : Option (List D ⊕ (List D ⊕ D)) :=
 obind (lenP (pd ls 5)) fun v9 =>
 obind (binP false .lss (pd ls 1) v9) fun v10 =>
 obind (gD v10 true (
 obind (binP false .geq (pd ls 0) (eI 0)) fun v13 =>
 some v13
)) fun v13 =>
 obind (pickP v10 v13 (eB false)) fun v14 =>
 oif v14 (
 obind (ixP 4 (pd ls 5) (pd ls 1)) fun c20 =>
 obind (atP true 4 0 c20) fun v21 =>
 obind (binP false .sub (pd ls 0) (eI 1)) fun v23 =>
 obind (r_ref32_terms [v21, v23]) fun v24 =>
 obind (binP false .add (pd ls 1) (eI 1)) fun v16 =>
 some (.inl [v24, v16, (pd ls 2), (pd ls 3), (pd ls 4), (pd ls 5)])
) (
 inrX (
 some (.inl [(pd ls 0)])
)
)

def ref32_terms (r_ref32_terms : List D → Option D) (n : Nat) (a0 : D) (a1 : D) : Option D :=
 og (aggP 4 a0) <|
 obind (
 iterL (ref32_terms_l2 r_ref32_terms n) n [a1, (eI 0), (celD a0 0), (celD a0 1), (celD a0 2), (celD a0 3)]
) <| jnX fun ls =>
 some (pd ls 0)

def ref32_termsL : Nat → List D → Option D
  | 0, _ => none
  | n + 1, ds => match ds with
    | [a0, a1] => ref32_terms (ref32_termsL n) n a0 a1
    | _ => none
def ref32_left_l3 (r_ref32_left : List D → Option D) (n : Nat) (ls : List D) : Option (List D ⊕ (List D ⊕ D)) :=
 obind (lenP (pd ls 7)) fun v14 =>
 obind (binP false .lss (pd ls 1) v14) fun v15 =>
 obind (gD v15 true (
 obind (binP false .geq (pd ls 0) (eI 0)) fun v18 =>
 some v18
)) fun v18 =>
 obind (pickP v15 v18 (eB false)) fun v19 =>
 oif v19 (
 obind (ixP 6 (pd ls 7) (pd ls 1)) fun c25 =>
 obind (atP true 6 0 c25) fun v26 =>
 obind (r_ref32_left [v26, (pd ls 0)]) fun v28 =>
 obind (binP false .add (pd ls 1) (eI 1)) fun v21 =>
 some (.inl [v28, v21, (pd ls 2), (pd ls 3), (pd ls 4), (pd ls 5), (pd ls 6), (pd ls 7)])
) (
 inrX (
 some (.inl [(pd ls 0)])
)
)

def ref32_left (r_ref32_left : List D → Option D) (n : Nat) (a0 : D) (a1 : D) : Option D :=
 og (aggP 6 a0) <|
 obind (binP false .sub a1 (eI 1)) fun v9 =>
 obind (ref32_termsL n [(D.agg [(celD a0 1), (celD a0 2), (celD a0 3), (celD a0 4)]), v9]) fun v10 =>
 obind (
 iterL (ref32_left_l3 r_ref32_left n) n [v10, (eI 0), (celD a0 0), (celD a0 1), (celD a0 2), (celD a0 3), (celD a0 4), (celD a0 5)]
) <| jnX fun ls =>
 some (pd ls 0)

def ref32_leftL : Nat → List D → Option D
  | 0, _ => none
  | n + 1, ds => match ds with
    | [a0, a1] => ref32_left (ref32_leftL n) n a0 a1
    | _ => none
def ref32_Many (n : Nat) (a0 : D) (a1 : D) : Option D :=
 og (aggP 6 a0) <|
 obind (ref32_leftL n [(D.agg [(celD a0 0), (celD a0 1), (celD a0 2), (celD a0 3), (celD a0 4), (celD a0 5)]), a1]) fun v7 =>
 obind (binP false .geq v7 (eI 0)) fun v8 =>
 some v8

def ref32_ManyL (n : Nat) : List D → Option D
  | [a0, a1] => ref32_Many n a0 a1
  | _ => none
def forms_term (n : Nat) (a0 : D) : Option D :=
 og (aggP 6 a0) <|
 obind (binP false .neq (celD a0 0) (eI 1)) fun v8 =>
 oif v8 (
 some (eI 0)
) (
 obind (terms_CheckL n [(D.agg [(celD a0 1), (celD a0 2), (celD a0 3), (celD a0 4)])]) fun v11 =>
 obind (binP false .neq v11 (eI 0)) fun v13 =>
 oif v13 (
 some v11
) (
 obind (terms_NamesL n [(D.agg [(celD a0 1), (celD a0 2), (celD a0 3), (celD a0 4)])]) fun v18 =>
 obind (extP 0 v18) fun v19 =>
 obind (extP 1 v18) fun v20 =>
 obind (lenP v20) fun v22 =>
 obind (binP false .gtr v22 (eI 0)) fun v23 =>
 oif v23 (
 some (eI 24)
) (
 some (eI 0)
)
)
)

def forms_termL (n : Nat) : List D → Option D
  | [a0] => forms_term n a0
  | _ => none
def forms_kids (n : Nat) (a0 : D) : Option D :=
 obind (
 obind (binP false .eql a0 (eI 1)) fun v5 =>
 oif v5 (
 inrX (
 some (eI 0)
)
) (
 obind (binP false .eql a0 (eI 3)) fun v7 =>
 obind (
 oif v7 (
 some (.inl [a0, v7])
) (
 obind (binP false .eql a0 (eI 4)) fun v8 =>
 obind (
 oif v8 (
 some (.inl [a0, v8])
) (
 obind (binP false .eql a0 (eI 5)) fun v9 =>
 obind (
 oif v9 (
 some (.inl [a0, v9])
) (
 obind (binP false .eql a0 (eI 9)) fun v10 =>
 obind (
 oif v10 (
 some (.inl [a0, v10])
) (
 obind (binP false .eql a0 (eI 13)) fun v11 =>
 some (.inl [a0, v11])
)
) <| jnX fun ls =>
 some (.inl [(pd ls 0), (pd ls 1)])
)
) <| jnX fun ls =>
 some (.inl [(pd ls 0), (pd ls 1)])
)
) <| jnX fun ls =>
 some (.inl [(pd ls 0), (pd ls 1)])
)
) <| jnX fun ls =>
 oif (pd ls 1) (
 inrX (
 some (eI 2)
)
) (
 obind (binP false .eql (pd ls 0) (eI 2)) fun v13 =>
 obind (
 oif v13 (
 some (.inl [v13])
) (
 obind (binP false .eql (pd ls 0) (eI 6)) fun v14 =>
 obind (
 oif v14 (
 some (.inl [v14])
) (
 obind (binP false .eql (pd ls 0) (eI 7)) fun v15 =>
 obind (
 oif v15 (
 some (.inl [v15])
) (
 obind (binP false .eql (pd ls 0) (eI 8)) fun v16 =>
 obind (
 oif v16 (
 some (.inl [v16])
) (
 obind (binP false .eql (pd ls 0) (eI 10)) fun v17 =>
 obind (
 oif v17 (
 some (.inl [v17])
) (
 obind (binP false .eql (pd ls 0) (eI 11)) fun v18 =>
 obind (
 oif v18 (
 some (.inl [v18])
) (
 obind (binP false .eql (pd ls 0) (eI 12)) fun v19 =>
 some (.inl [v19])
)
) <| jnX fun ls =>
 some (.inl [(pd ls 0)])
)
) <| jnX fun ls =>
 some (.inl [(pd ls 0)])
)
) <| jnX fun ls =>
 some (.inl [(pd ls 0)])
)
) <| jnX fun ls =>
 some (.inl [(pd ls 0)])
)
) <| jnX fun ls =>
 some (.inl [(pd ls 0)])
)
) <| jnX fun ls =>
 oif (pd ls 0) (
 inrX (
 some (eI 1)
)
) (
 some (.inl [])
)
)
)
) <| jnX fun ls =>
 some (eI (-1))

def forms_kidsL (n : Nat) : List D → Option D
  | [a0] => forms_kids n a0
  | _ => none
def forms_Check_1_h (n : Nat) (ls : List D) : Option (List D) :=
 og (aggP 6 (pd ls 0)) <|
 obind (binP false .add (pd ls 2) (eI 1)) fun v11 =>
 og (oneP v11) <|
 obind (binP false .eql (celD (pd ls 0) 1) (eI 0)) fun v15 =>
 obind (gD v15 true (
 obind (binP false .eql (celD (pd ls 0) 2) (eI 0)) fun v20 =>
 some v20
)) fun v20 =>
 obind (pickP v15 v20 (eB false)) fun v21 =>
 obind (gD v21 true (
 obind (binP false .eql (celD (pd ls 0) 3) (eS ⟨#[]⟩)) fun v26 =>
 some v26
)) fun v26 =>
 obind (pickP v21 v26 (eB false)) fun v27 =>
 obind (gD v27 true (
 obind (lenP (celD (pd ls 0) 4)) fun v32 =>
 obind (binP false .eql v32 (eI 0)) fun v33 =>
 some v33
)) fun v33 =>
 obind (pickP v27 v33 (eB false)) fun v34 =>
 obind (forms_termL n [(D.agg [(celD (pd ls 0) 0), (celD (pd ls 0) 1), (celD (pd ls 0) 2), (celD (pd ls 0) 3), (celD (pd ls 0) 4), (celD (pd ls 0) 5)])]) fun v36 =>
 obind (forms_kidsL n [(celD (pd ls 0) 0)]) fun v39 =>
 obind (
 obind (binP false .gtr (pd ls 1) (eI 64)) fun v42 =>
 obind (
 oif v42 (
 some (.inl [(eI 17), v11])
) (
 obind (binP false .lss v39 (eI 0)) fun v45 =>
 obind (
 oif v45 (
 some (.inl [(eI 11), v11])
) (
 obind (binP false .neq v36 (eI 0)) fun v48 =>
 obind (
 oif v48 (
 og (oneP v36) <|
 some (.inl [v36, v11])
) (
 obind (lenP (celD (pd ls 0) 5)) fun v53 =>
 obind (binP false .neq v53 v39) fun v55 =>
 obind (gD v55 false (
 obind (binP false .neq (celD (pd ls 0) 0) (eI 1)) fun v59 =>
 some v59
)) fun v60 =>
 obind (gD v60 true (
 obind (unP .not v34) fun v62 =>
 some v62
)) fun v62 =>
 obind (gD v55 false (
 obind (pickP v60 v62 (eB false)) fun v63 =>
 some v63
)) fun v63 =>
 obind (pickP v55 (eB true) v63) fun v64 =>
 obind (
 oif v64 (
 some (.inl [(eI 3), v11])
) (
 obind (binP false .gtr v11 (eI 4096)) fun v67 =>
 obind (
 oif v67 (
 some (.inl [(eI 4), v11])
) (
 some (.inl [(pd ls 3), v11])
)
) <| jnX fun ls =>
 some (.inl [(pd ls 0), (pd ls 1)])
)
) <| jnX fun ls =>
 some (.inl [(pd ls 0), (pd ls 1)])
)
) <| jnX fun ls =>
 some (.inl [(pd ls 0), (pd ls 1)])
)
) <| jnX fun ls =>
 some (.inl [(pd ls 0), (pd ls 1)])
)
) <| jnX fun ls =>
 some (.inl [(pd ls 0), (pd ls 1)])
) <| jnX fun ls =>
 obind (binP false .eql (pd ls 0) (eI 0)) fun v69 =>
 some [v69, (pd ls 1), (pd ls 0)]

def forms_each_h_forms_Check_1_l4 (r_forms_each_h_forms_Check_1 : List D → Option (List D)) (n : Nat) (ls : List D) : Option (List D ⊕ (List D ⊕ (List D))) :=
 obind (binP false .lss (pd ls 3) (pd ls 2)) fun v18 =>
 oif v18 (
 obind (ixP 6 (pd ls 1) (pd ls 3)) fun c19 =>
 obind (atP true 6 0 c19) fun v20 =>
 og (aggP 6 v20) <|
 obind (binP false .add (pd ls 0) (eI 1)) fun v23 =>
 obind (r_forms_each_h_forms_Check_1 [(D.agg [(celD v20 0), (celD v20 1), (celD v20 2), (celD v20 3), (celD v20 4), (celD v20 5)]), v23, (pd ls 4), (pd ls 5)]) fun h2 =>
 obind (unP .not (pd h2 0)) fun v26 =>
 oif v26 (
 inrX (
 inrX (
 some [(eB false), (pd h2 1), (pd h2 2)]
)
)
) (
 obind (binP false .add (pd ls 3) (eI 1)) fun v27 =>
 some (.inl [(pd ls 0), (pd ls 1), (pd ls 2), v27, (pd h2 1), (pd h2 2)])
)
) (
 inrX (
 some (.inl [(pd ls 4), (pd ls 5)])
)
)

def forms_each_h_forms_Check_1 (r_forms_each_h_forms_Check_1 : List D → Option (List D)) (n : Nat) (ls : List D) : Option (List D) :=
 og (aggP 6 (pd ls 0)) <|
 obind (forms_Check_1_h n [(D.agg [(celD (pd ls 0) 0), (celD (pd ls 0) 1), (celD (pd ls 0) 2), (celD (pd ls 0) 3), (celD (pd ls 0) 4), (celD (pd ls 0) 5)]), (pd ls 1), (pd ls 2), (pd ls 3)]) fun h1 =>
 obind (unP .not (pd h1 0)) fun v13 =>
 oif v13 (
 some [(eB false), (pd h1 1), (pd h1 2)]
) (
 obind (lenP (celD (pd ls 0) 5)) fun v16 =>
 obind (
 iterL (forms_each_h_forms_Check_1_l4 r_forms_each_h_forms_Check_1 n) n [(pd ls 1), (celD (pd ls 0) 5), v16, (eI 0), (pd h1 1), (pd h1 2)]
) <| jnX fun ls =>
 some [(eB true), (pd ls 0), (pd ls 1)]
)

def forms_each_h_forms_Check_1L : Nat → List D → Option (List D)
  | 0, _ => none
  | n + 1, ls => forms_each_h_forms_Check_1 (forms_each_h_forms_Check_1L n) n ls
def forms_Check (n : Nat) (a0 : D) : Option D :=
 og (aggP 6 a0) <|
 obind (forms_each_h_forms_Check_1L n [(D.agg [(celD a0 0), (celD a0 1), (celD a0 2), (celD a0 3), (celD a0 4), (celD a0 5)]), (eI 1), (eI 0), (eI 0)]) fun h1 =>
 some (pd h1 2)

def forms_CheckL (n : Nat) : List D → Option D
  | [a0] => forms_Check n a0
  | _ => none
def defs_Form_1_h_l8 (r_defs_Form_1_h : List D → Option (List D)) (n : Nat) (ls : List D) : Option (List D ⊕ (List D ⊕ (List D))) :=
 obind (binP false .lss (pd ls 2) (pd ls 1)) fun v35 =>
 oif v35 (
 obind (ixP 6 (pd ls 0) (pd ls 2)) fun c36 =>
 obind (atP true 6 0 c36) fun v37 =>
 og (aggP 6 v37) <|
 obind (r_defs_Form_1_h [(D.agg [(celD v37 0), (celD v37 1), (celD v37 2), (celD v37 3), (celD v37 4), (celD v37 5)]), (pd ls 16)]) fun h2 =>
 obind (extP 0 (pd h2 0)) fun v42 =>
 obind (extP 1 (pd h2 0)) fun v43 =>
 og (aggP 6 v42) <|
 obind (binP false .neq v43 (eI 0)) fun v45 =>
 oif v45 (
 inrX (
 inrX (
 some [(D.tup [(D.agg [(eI 0), (eI 0), (eI 0), (eS ⟨#[]⟩), (D.val (.slice none 0 0)), (D.val (.slice none 0 0))]), v43]), (pd h2 1)]
)
)
) (
 og (aggP 6 (D.agg [(celD v42 0), (celD v42 1), (celD v42 2), (celD v42 3), (celD v42 4), (celD v42 5)])) <|
 og (roomP (((esD (pd ls 15))).length + ([[(celD v42 0), (celD v42 1), (celD v42 2), (celD v42 3), (celD v42 4), (celD v42 5)]]).length) 88) <|
 obind (binP false .add (pd ls 2) (eI 1)) fun v52 =>
 some (.inl [(pd ls 0), (pd ls 1), v52, (pd ls 3), (pd ls 4), (pd ls 5), (pd ls 6), (pd ls 7), (pd ls 8), (pd ls 9), (pd ls 10), (pd ls 11), (pd ls 12), (pd ls 13), (pd ls 14), (D.sl 6 ((esD (pd ls 15)) ++ [[(celD v42 0), (celD v42 1), (celD v42 2), (celD v42 3), (celD v42 4), (celD v42 5)]])), (pd h2 1)])
)
) (
 inrX (
 some (.inl [(pd ls 3), (pd ls 4), (pd ls 5), (pd ls 6), (pd ls 7), (pd ls 8), (pd ls 9), (pd ls 10), (pd ls 11), (pd ls 12), (pd ls 13), (pd ls 14), (D.sl 6 (esD (pd ls 15))), (pd ls 16)])
)
)

def defs_Form_1_h (r_defs_Form_1_h : List D → Option (List D)) (n : Nat) (ls : List D) : Option (List D) :=
 og (aggP 6 (pd ls 0)) <|
 obind (binP false .eql (celD (pd ls 0) 0) (eI 1)) fun v15 =>
 oif v15 (
 obind (defs_InlineL n [(D.agg [(celD (pd ls 0) 1), (celD (pd ls 0) 2), (celD (pd ls 0) 3), (celD (pd ls 0) 4)]), (pd ls 1)]) fun v20 =>
 obind (extP 0 v20) fun v21 =>
 obind (extP 1 v20) fun v22 =>
 og (aggP 4 v21) <|
 obind (binP false .neq v22 (eI 0)) fun v24 =>
 oif v24 (
 some [(D.tup [(D.agg [(eI 0), (eI 0), (eI 0), (eS ⟨#[]⟩), (D.val (.slice none 0 0)), (D.val (.slice none 0 0))]), v22]), (pd ls 1)]
) (
 og (oneP (celD (pd ls 0) 0)) <|
 og (aggP 4 (D.agg [(celD v21 0), (celD v21 1), (celD v21 2), (celD v21 3)])) <|
 og (aggP 6 (D.agg [(celD (pd ls 0) 0), (celD v21 0), (celD v21 1), (celD v21 2), (celD v21 3), (D.val (.slice none 0 0))])) <|
 some [(D.tup [(D.agg [(celD (pd ls 0) 0), (celD v21 0), (celD v21 1), (celD v21 2), (celD v21 3), (D.val (.slice none 0 0))]), (eI 0)]), (pd ls 1)]
)
) (
 obind (lenP (celD (pd ls 0) 5)) fun v33 =>
 obind (
 iterL (defs_Form_1_h_l8 r_defs_Form_1_h n) n [(celD (pd ls 0) 5), v33, (eI 0), (celD (pd ls 0) 0), (celD (pd ls 0) 1), (celD (pd ls 0) 2), (celD (pd ls 0) 3), (celD (pd ls 0) 4), (celD (pd ls 0) 5), (eI 0), (eI 0), (eI 0), (eS ⟨#[]⟩), (D.val (.slice none 0 0)), (D.val (.slice none 0 0)), (D.sl 6 []), (pd ls 1)]
) <| jnX fun ls =>
 og (oneP (pd ls 0)) <|
 og (aggP 6 (D.agg [(pd ls 0), (eI 0), (eI 0), (eS ⟨#[]⟩), (D.val (.slice none 0 0)), (D.sl 6 (esD (pd ls 12)))])) <|
 some [(D.tup [(D.agg [(pd ls 0), (eI 0), (eI 0), (eS ⟨#[]⟩), (D.val (.slice none 0 0)), (D.sl 6 (esD (pd ls 12)))]), (eI 0)]), (pd ls 13)]
)

def defs_Form_1_hL : Nat → List D → Option (List D)
  | 0, _ => none
  | n + 1, ls => defs_Form_1_h (defs_Form_1_hL n) n ls
def defs_Form (n : Nat) (a0 : D) (a1 : D) : Option D :=
 og (aggP 6 a0) <|
 og (oneP a1) <|
 obind (forms_CheckL n [(D.agg [(celD a0 0), (celD a0 1), (celD a0 2), (celD a0 3), (celD a0 4), (celD a0 5)])]) fun v9 =>
 obind (binP false .neq v9 (eI 0)) fun v11 =>
 oif v11 (
 some (D.tup [(D.agg [(eI 0), (eI 0), (eI 0), (eS ⟨#[]⟩), (D.val (.slice none 0 0)), (D.val (.slice none 0 0))]), v9])
) (
 obind (defs_Form_1_hL n [(D.agg [(celD a0 0), (celD a0 1), (celD a0 2), (celD a0 3), (celD a0 4), (celD a0 5)]), a1]) fun h1 =>
 obind (extP 0 (pd h1 0)) fun v18 =>
 obind (extP 1 (pd h1 0)) fun v19 =>
 og (aggP 6 v18) <|
 some (D.tup [(D.agg [(celD v18 0), (celD v18 1), (celD v18 2), (celD v18 3), (celD v18 4), (celD v18 5)]), v19])
)

def defs_FormL (n : Nat) : List D → Option D
  | [a0, a1] => defs_Form n a0 a1
  | _ => none
def ref32_Kids (n : Nat) (a0 : D) : Option D :=
 obind (
 obind (binP false .eql a0 (eI 1)) fun v5 =>
 oif v5 (
 inrX (
 some (eI 0)
)
) (
 obind (binP false .eql a0 (eI 2)) fun v7 =>
 obind (
 oif v7 (
 some (.inl [a0, v7])
) (
 obind (binP false .eql a0 (eI 6)) fun v8 =>
 obind (
 oif v8 (
 some (.inl [a0, v8])
) (
 obind (binP false .eql a0 (eI 7)) fun v9 =>
 obind (
 oif v9 (
 some (.inl [a0, v9])
) (
 obind (binP false .eql a0 (eI 8)) fun v10 =>
 obind (
 oif v10 (
 some (.inl [a0, v10])
) (
 obind (binP false .eql a0 (eI 10)) fun v11 =>
 obind (
 oif v11 (
 some (.inl [a0, v11])
) (
 obind (binP false .eql a0 (eI 11)) fun v12 =>
 obind (
 oif v12 (
 some (.inl [a0, v12])
) (
 obind (binP false .eql a0 (eI 12)) fun v13 =>
 some (.inl [a0, v13])
)
) <| jnX fun ls =>
 some (.inl [(pd ls 0), (pd ls 1)])
)
) <| jnX fun ls =>
 some (.inl [(pd ls 0), (pd ls 1)])
)
) <| jnX fun ls =>
 some (.inl [(pd ls 0), (pd ls 1)])
)
) <| jnX fun ls =>
 some (.inl [(pd ls 0), (pd ls 1)])
)
) <| jnX fun ls =>
 some (.inl [(pd ls 0), (pd ls 1)])
)
) <| jnX fun ls =>
 oif (pd ls 1) (
 inrX (
 some (eI 1)
)
) (
 obind (binP false .eql (pd ls 0) (eI 3)) fun v15 =>
 obind (
 oif v15 (
 some (.inl [v15])
) (
 obind (binP false .eql (pd ls 0) (eI 4)) fun v16 =>
 obind (
 oif v16 (
 some (.inl [v16])
) (
 obind (binP false .eql (pd ls 0) (eI 5)) fun v17 =>
 obind (
 oif v17 (
 some (.inl [v17])
) (
 obind (binP false .eql (pd ls 0) (eI 9)) fun v18 =>
 obind (
 oif v18 (
 some (.inl [v18])
) (
 obind (binP false .eql (pd ls 0) (eI 13)) fun v19 =>
 some (.inl [v19])
)
) <| jnX fun ls =>
 some (.inl [(pd ls 0)])
)
) <| jnX fun ls =>
 some (.inl [(pd ls 0)])
)
) <| jnX fun ls =>
 some (.inl [(pd ls 0)])
)
) <| jnX fun ls =>
 oif (pd ls 0) (
 inrX (
 some (eI 2)
)
) (
 some (.inl [])
)
)
)
) <| jnX fun ls =>
 some (eI (-1))

def ref32_KidsL (n : Nat) : List D → Option D
  | [a0] => ref32_Kids n a0
  | _ => none
def ref32_nothing (n : Nat) (a0 : D) : Option D :=
 og (aggP 4 a0) <|
 obind (binP false .eql (celD a0 0) (eI 0)) fun v5 =>
 obind (gD v5 true (
 obind (binP false .eql (celD a0 1) (eI 0)) fun v9 =>
 some v9
)) fun v9 =>
 obind (pickP v5 v9 (eB false)) fun v10 =>
 obind (gD v10 true (
 obind (binP false .eql (celD a0 2) (eS ⟨#[]⟩)) fun v14 =>
 some v14
)) fun v14 =>
 obind (pickP v10 v14 (eB false)) fun v15 =>
 obind (gD v15 true (
 obind (lenP (celD a0 3)) fun v19 =>
 obind (binP false .eql v19 (eI 0)) fun v20 =>
 some v20
)) fun v20 =>
 obind (pickP v15 v20 (eB false)) fun v21 =>
 some v21

def ref32_nothingL (n : Nat) : List D → Option D
  | [a0] => ref32_nothing n a0
  | _ => none
def ref32_one (n : Nat) (a0 : D) : Option D :=
 og (aggP 6 a0) <|
 obind (ref32_KidsL n [(celD a0 0)]) fun v8 =>
 obind (binP false .lss v8 (eI 0)) fun v9 =>
 oif v9 (
 some (eI 11)
) (
 obind (binP false .eql (celD a0 0) (eI 1)) fun v12 =>
 obind (
 oif v12 (
 obind (ref30_CheckL n [(D.agg [(celD a0 1), (celD a0 2), (celD a0 3), (celD a0 4)])]) fun v15 =>
 obind (binP false .neq v15 (eI 0)) fun v17 =>
 oif v17 (
 inrX (
 some v15
)
) (
 obind (ref30_NamesL n [(D.agg [(celD a0 1), (celD a0 2), (celD a0 3), (celD a0 4)])]) fun v22 =>
 obind (extP 0 v22) fun v23 =>
 obind (extP 1 v22) fun v24 =>
 obind (lenP v24) fun v26 =>
 obind (binP false .gtr v26 (eI 0)) fun v27 =>
 oif v27 (
 inrX (
 some (eI 24)
)
) (
 some (.inl [(celD a0 0), (celD a0 1), (celD a0 2), (celD a0 3), (celD a0 4), (celD a0 5)])
)
)
) (
 some (.inl [(celD a0 0), (celD a0 1), (celD a0 2), (celD a0 3), (celD a0 4), (celD a0 5)])
)
) <| jnX fun ls =>
 obind (lenP (pd ls 5)) fun v30 =>
 obind (ref32_KidsL n [(pd ls 0)]) fun v33 =>
 obind (binP false .neq v30 v33) fun v34 =>
 obind (gD v34 false (
 obind (binP false .neq (pd ls 0) (eI 1)) fun v38 =>
 some v38
)) fun v39 =>
 obind (gD v39 true (
 obind (ref32_nothingL n [(D.agg [(pd ls 1), (pd ls 2), (pd ls 3), (pd ls 4)])]) fun v42 =>
 obind (unP .not v42) fun v43 =>
 some v43
)) fun v43 =>
 obind (gD v34 false (
 obind (pickP v39 v43 (eB false)) fun v44 =>
 some v44
)) fun v44 =>
 obind (pickP v34 (eB true) v44) fun v45 =>
 oif v45 (
 some (eI 3)
) (
 some (eI 0)
)
)

def ref32_oneL (n : Nat) : List D → Option D
  | [a0] => ref32_one n a0
  | _ => none
def ref32_walk_l10 (r_ref32_walk : List D → Option D) (n : Nat) (ls : List D) : Option (List D ⊕ (List D ⊕ D)) :=
 obind (lenP (pd ls 8)) fun v27 =>
 obind (binP false .lss (pd ls 2) v27) fun v28 =>
 oif v28 (
 obind (ixP 6 (pd ls 8) (pd ls 2)) fun c35 =>
 obind (atP true 6 0 c35) fun v36 =>
 obind (binP false .add (pd ls 0) (eI 1)) fun v38 =>
 obind (r_ref32_walk [v36, v38, (pd ls 1)]) fun v40 =>
 obind (extP 0 v40) fun v41 =>
 obind (extP 1 v40) fun v42 =>
 obind (binP false .neq v41 (eI 0)) fun v44 =>
 oif v44 (
 inrX (
 inrX (
 some (D.tup [v41, v42])
)
)
) (
 obind (binP false .add (pd ls 2) (eI 1)) fun v30 =>
 some (.inl [(pd ls 0), v42, v30, (pd ls 3), (pd ls 4), (pd ls 5), (pd ls 6), (pd ls 7), (pd ls 8)])
)
) (
 inrX (
 some (.inl [(pd ls 1)])
)
)

def ref32_walk (r_ref32_walk : List D → Option D) (n : Nat) (a0 : D) (a1 : D) (a2 : D) : Option D :=
 og (aggP 6 a0) <|
 obind (binP false .gtr a1 (eI 64)) fun v11 =>
 oif v11 (
 some (D.tup [(eI 17), a2])
) (
 obind (ref32_oneL n [(D.agg [(celD a0 0), (celD a0 1), (celD a0 2), (celD a0 3), (celD a0 4), (celD a0 5)])]) fun v14 =>
 obind (binP false .neq v14 (eI 0)) fun v16 =>
 oif v16 (
 some (D.tup [v14, a2])
) (
 obind (binP false .add a2 (eI 1)) fun v20 =>
 obind (binP false .gtr v20 (eI 4096)) fun v22 =>
 oif v22 (
 some (D.tup [(eI 4), v20])
) (
 obind (
 iterL (ref32_walk_l10 r_ref32_walk n) n [a1, v20, (eI 0), (celD a0 0), (celD a0 1), (celD a0 2), (celD a0 3), (celD a0 4), (celD a0 5)]
) <| jnX fun ls =>
 some (D.tup [(eI 0), (pd ls 0)])
)
)
)

def ref32_walkL : Nat → List D → Option D
  | 0, _ => none
  | n + 1, ds => match ds with
    | [a0, a1, a2] => ref32_walk (ref32_walkL n) n a0 a1 a2
    | _ => none
def ref32_Check (n : Nat) (a0 : D) : Option D :=
 og (aggP 6 a0) <|
 obind (ref32_walkL n [(D.agg [(celD a0 0), (celD a0 1), (celD a0 2), (celD a0 3), (celD a0 4), (celD a0 5)]), (eI 1), (eI 0)]) fun v7 =>
 obind (extP 0 v7) fun v8 =>
 obind (extP 1 v7) fun v9 =>
 some v8

def ref32_CheckL (n : Nat) : List D → Option D
  | [a0] => ref32_Check n a0
  | _ => none
def ref35_form_l9 (r_ref35_form : List D → Option D) (n : Nat) (ls : List D) : Option (List D ⊕ (List D ⊕ D)) :=
 obind (lenP (pd ls 7)) fun v33 =>
 obind (binP false .lss (pd ls 1) v33) fun v34 =>
 oif v34 (
 obind (ixP 6 (pd ls 7) (pd ls 1)) fun c41 =>
 obind (atP true 6 0 c41) fun v42 =>
 obind (r_ref35_form [v42, (pd ls 0)]) fun v44 =>
 obind (extP 0 v44) fun v45 =>
 obind (extP 1 v44) fun v46 =>
 og (aggP 6 v45) <|
 obind (binP false .neq v46 (eI 0)) fun v48 =>
 oif v48 (
 inrX (
 inrX (
 some (D.tup [(D.agg [(eI 0), (eI 0), (eI 0), (eS ⟨#[]⟩), (D.val (.slice none 0 0)), (D.val (.slice none 0 0))]), v46])
)
)
) (
 og (aggP 6 (D.agg [(celD v45 0), (celD v45 1), (celD v45 2), (celD v45 3), (celD v45 4), (celD v45 5)])) <|
 og (roomP (((esD (pd ls 14))).length + ([[(celD v45 0), (celD v45 1), (celD v45 2), (celD v45 3), (celD v45 4), (celD v45 5)]]).length) 88) <|
 obind (binP false .add (pd ls 1) (eI 1)) fun v36 =>
 some (.inl [(pd ls 0), v36, (pd ls 2), (pd ls 3), (pd ls 4), (pd ls 5), (pd ls 6), (pd ls 7), (pd ls 8), (pd ls 9), (pd ls 10), (pd ls 11), (pd ls 12), (pd ls 13), (D.sl 6 ((esD (pd ls 14)) ++ [[(celD v45 0), (celD v45 1), (celD v45 2), (celD v45 3), (celD v45 4), (celD v45 5)]]))])
)
) (
 inrX (
 some (.inl [(pd ls 2), (pd ls 3), (pd ls 4), (pd ls 5), (pd ls 6), (pd ls 7), (pd ls 8), (pd ls 9), (pd ls 10), (pd ls 11), (pd ls 12), (pd ls 13), (D.sl 6 (esD (pd ls 14)))])
)
)

def ref35_form (r_ref35_form : List D → Option D) (n : Nat) (a0 : D) (a1 : D) : Option D :=
 og (aggP 6 a0) <|
 obind (binP false .eql (celD a0 0) (eI 1)) fun v14 =>
 oif v14 (
 obind (ref35_InlineL n [(D.agg [(celD a0 1), (celD a0 2), (celD a0 3), (celD a0 4)]), a1]) fun v19 =>
 obind (extP 0 v19) fun v20 =>
 obind (extP 1 v19) fun v21 =>
 og (aggP 4 v20) <|
 obind (binP false .neq v21 (eI 0)) fun v23 =>
 oif v23 (
 some (D.tup [(D.agg [(eI 0), (eI 0), (eI 0), (eS ⟨#[]⟩), (D.val (.slice none 0 0)), (D.val (.slice none 0 0))]), v21])
) (
 og (aggP 4 (D.agg [(celD v20 0), (celD v20 1), (celD v20 2), (celD v20 3)])) <|
 og (aggP 6 (D.agg [(celD a0 0), (celD v20 0), (celD v20 1), (celD v20 2), (celD v20 3), (celD a0 5)])) <|
 some (D.tup [(D.agg [(celD a0 0), (celD v20 0), (celD v20 1), (celD v20 2), (celD v20 3), (celD a0 5)]), (eI 0)])
)
) (
 obind (
 iterL (ref35_form_l9 r_ref35_form n) n [a1, (eI 0), (celD a0 0), (celD a0 1), (celD a0 2), (celD a0 3), (celD a0 4), (celD a0 5), (eI 0), (eI 0), (eI 0), (eS ⟨#[]⟩), (D.val (.slice none 0 0)), (D.val (.slice none 0 0)), (D.sl 6 ([] : List (List D)))]
) <| jnX fun ls =>
 og (oneP (pd ls 0)) <|
 og (oneP (pd ls 1)) <|
 og (oneP (pd ls 2)) <|
 og (oneP (pd ls 3)) <|
 og (oneP (pd ls 4)) <|
 some (D.tup [(D.agg [(pd ls 0), (pd ls 1), (pd ls 2), (pd ls 3), (pd ls 4), (D.sl 6 (esD (pd ls 12)))]), (eI 0)])
)

def ref35_formL : Nat → List D → Option D
  | 0, _ => none
  | n + 1, ds => match ds with
    | [a0, a1] => ref35_form (ref35_formL n) n a0 a1
    | _ => none
def ref35_Form (n : Nat) (a0 : D) (a1 : D) : Option D :=
 og (aggP 6 a0) <|
 obind (ref32_CheckL n [(D.agg [(celD a0 0), (celD a0 1), (celD a0 2), (celD a0 3), (celD a0 4), (celD a0 5)])]) fun v8 =>
 obind (binP false .neq v8 (eI 0)) fun v10 =>
 oif v10 (
 some (D.tup [(D.agg [(eI 0), (eI 0), (eI 0), (eS ⟨#[]⟩), (D.val (.slice none 0 0)), (D.val (.slice none 0 0))]), v8])
) (
 obind (ref35_formL n [(D.agg [(celD a0 0), (celD a0 1), (celD a0 2), (celD a0 3), (celD a0 4), (celD a0 5)]), a1]) fun v15 =>
 obind (extP 0 v15) fun v16 =>
 obind (extP 1 v15) fun v17 =>
 og (aggP 6 v16) <|
 some (D.tup [(D.agg [(celD v16 0), (celD v16 1), (celD v16 2), (celD v16 3), (celD v16 4), (celD v16 5)]), v17])
)

def ref35_FormL (n : Nat) : List D → Option D
  | [a0, a1] => ref35_Form n a0 a1
  | _ => none
def ref32_term_l4 (r_ref32_term : List D → Option D) (n : Nat) (ls : List D) : Option (List D ⊕ (List D ⊕ D)) :=
 obind (lenP (pd ls 4)) fun v37 =>
 obind (binP false .lss (pd ls 0) v37) fun v38 =>
 oif v38 (
 obind (ixP 4 (pd ls 4) (pd ls 0)) fun c44 =>
 obind (atP true 4 0 c44) fun v45 =>
 obind (ixP 4 (pd ls 8) (pd ls 0)) fun c49 =>
 obind (atP true 4 0 c49) fun v50 =>
 obind (r_ref32_term [v45, v50]) fun v51 =>
 obind (unP .not v51) fun v52 =>
 oif v52 (
 inrX (
 inrX (
 some (eB false)
)
)
) (
 obind (binP false .add (pd ls 0) (eI 1)) fun v40 =>
 some (.inl [v40, (pd ls 1), (pd ls 2), (pd ls 3), (pd ls 4), (pd ls 5), (pd ls 6), (pd ls 7), (pd ls 8)])
)
) (
 inrX (
 some (.inl [])
)
)

def ref32_term (r_ref32_term : List D → Option D) (n : Nat) (a0 : D) (a1 : D) : Option D :=
 og (aggP 4 a0) <|
 og (aggP 4 a1) <|
 obind (binP false .neq (celD a0 0) (celD a1 0)) fun v10 =>
 obind (gD v10 false (
 obind (binP false .neq (celD a0 1) (celD a1 1)) fun v16 =>
 some v16
)) fun v16 =>
 obind (pickP v10 (eB true) v16) fun v17 =>
 obind (gD v17 false (
 obind (binP false .neq (celD a0 2) (celD a1 2)) fun v23 =>
 some v23
)) fun v23 =>
 obind (pickP v17 (eB true) v23) fun v24 =>
 obind (gD v24 false (
 obind (lenP (celD a0 3)) fun v28 =>
 obind (lenP (celD a1 3)) fun v31 =>
 obind (binP false .neq v28 v31) fun v32 =>
 some v32
)) fun v32 =>
 obind (pickP v24 (eB true) v32) fun v33 =>
 oif v33 (
 some (eB false)
) (
 obind (
 iterL (ref32_term_l4 r_ref32_term n) n [(eI 0), (celD a0 0), (celD a0 1), (celD a0 2), (celD a0 3), (celD a1 0), (celD a1 1), (celD a1 2), (celD a1 3)]
) <| jnX fun ls =>
 some (eB true)
)

def ref32_termL : Nat → List D → Option D
  | 0, _ => none
  | n + 1, ds => match ds with
    | [a0, a1] => ref32_term (ref32_termL n) n a0 a1
    | _ => none
def ref32_Same_l4 (r_ref32_Same : List D → Option D) (n : Nat) (ls : List D) : Option (List D ⊕ (List D ⊕ D)) :=
 obind (lenP (pd ls 6)) fun v31 =>
 obind (binP false .lss (pd ls 0) v31) fun v32 =>
 oif v32 (
 obind (ixP 6 (pd ls 6) (pd ls 0)) fun c38 =>
 obind (atP true 6 0 c38) fun v39 =>
 obind (ixP 6 (pd ls 12) (pd ls 0)) fun c43 =>
 obind (atP true 6 0 c43) fun v44 =>
 obind (r_ref32_Same [v39, v44]) fun v45 =>
 obind (unP .not v45) fun v46 =>
 oif v46 (
 inrX (
 inrX (
 some (eB false)
)
)
) (
 obind (binP false .add (pd ls 0) (eI 1)) fun v34 =>
 some (.inl [v34, (pd ls 1), (pd ls 2), (pd ls 3), (pd ls 4), (pd ls 5), (pd ls 6), (pd ls 7), (pd ls 8), (pd ls 9), (pd ls 10), (pd ls 11), (pd ls 12)])
)
) (
 inrX (
 some (.inl [])
)
)

def ref32_Same (r_ref32_Same : List D → Option D) (n : Nat) (a0 : D) (a1 : D) : Option D :=
 og (aggP 6 a0) <|
 og (aggP 6 a1) <|
 obind (binP false .neq (celD a0 0) (celD a1 0)) fun v10 =>
 obind (gD v10 false (
 obind (ref32_termL n [(D.agg [(celD a0 1), (celD a0 2), (celD a0 3), (celD a0 4)]), (D.agg [(celD a1 1), (celD a1 2), (celD a1 3), (celD a1 4)])]) fun v16 =>
 obind (unP .not v16) fun v17 =>
 some v17
)) fun v17 =>
 obind (pickP v10 (eB true) v17) fun v18 =>
 obind (gD v18 false (
 obind (lenP (celD a0 5)) fun v22 =>
 obind (lenP (celD a1 5)) fun v25 =>
 obind (binP false .neq v22 v25) fun v26 =>
 some v26
)) fun v26 =>
 obind (pickP v18 (eB true) v26) fun v27 =>
 oif v27 (
 some (eB false)
) (
 obind (
 iterL (ref32_Same_l4 r_ref32_Same n) n [(eI 0), (celD a0 0), (celD a0 1), (celD a0 2), (celD a0 3), (celD a0 4), (celD a0 5), (celD a1 0), (celD a1 1), (celD a1 2), (celD a1 3), (celD a1 4), (celD a1 5)]
) <| jnX fun ls =>
 some (eB true)
)

def ref32_SameL : Nat → List D → Option D
  | 0, _ => none
  | n + 1, ds => match ds with
    | [a0, a1] => ref32_Same (ref32_SameL n) n a0 a1
    | _ => none
def law35_DefsForms (n : Nat) (a0 : D) (a1 : D) : Option D :=
 og (aggP 6 a0) <|
 obind (ref32_ManyL n [(D.agg [(celD a0 0), (celD a0 1), (celD a0 2), (celD a0 3), (celD a0 4), (celD a0 5)]), (eI 300)]) fun v10 =>
 obind (unP .not v10) fun v11 =>
 obind (gD v11 false (
 obind (law35_fewL n [a1]) fun v14 =>
 obind (unP .not v14) fun v15 =>
 some v15
)) fun v15 =>
 obind (pickP v11 (eB true) v15) fun v16 =>
 oif v16 (
 obind (law35_livesL n []) fun v17 =>
 some v17
) (
 obind (defs_FormL n [(D.agg [(celD a0 0), (celD a0 1), (celD a0 2), (celD a0 3), (celD a0 4), (celD a0 5)]), a1]) fun v21 =>
 obind (extP 0 v21) fun v22 =>
 obind (extP 1 v21) fun v23 =>
 og (aggP 6 v22) <|
 obind (ref35_FormL n [(D.agg [(celD a0 0), (celD a0 1), (celD a0 2), (celD a0 3), (celD a0 4), (celD a0 5)]), a1]) fun v27 =>
 obind (extP 0 v27) fun v28 =>
 obind (extP 1 v27) fun v29 =>
 og (aggP 6 v28) <|
 obind (ref32_SameL n [(D.agg [(celD v22 0), (celD v22 1), (celD v22 2), (celD v22 3), (celD v22 4), (celD v22 5)]), (D.agg [(celD v28 0), (celD v28 1), (celD v28 2), (celD v28 3), (celD v28 4), (celD v28 5)])]) fun v32 =>
 obind (gD v32 true (
 obind (binP false .eql v23 v29) fun v36 =>
 some v36
)) fun v36 =>
 obind (pickP v32 v36 (eB false)) fun v37 =>
 obind (gD v37 true (
 obind (law35_livesL n []) fun v39 =>
 some v39
)) fun v39 =>
 obind (pickP v37 v39 (eB false)) fun v40 =>
 some v40
)

def law35_DefsFormsL (n : Nat) : List D → Option D
  | [a0, a1] => law35_DefsForms n a0 a1
  | _ => none
def law35_small_l3 (n : Nat) (ls : List D) : Option (List D ⊕ (List D ⊕ D)) :=
 obind (binP false .lss (pd ls 0) (eI ((esD (pd ls 9))).length)) fun v23 =>
 oif v23 (
 obind (numP ((esD (pd ls 9))).length (pd ls 0)) fun j28 =>
 obind (((esD (pd ls 9)))[j28]?) fun e29 =>
 obind (atP true 4 0 e29) fun v29 =>
 obind (law30_LightL n [v29]) fun v30 =>
 obind (unP .not v30) fun v31 =>
 oif v31 (
 inrX (
 inrX (
 some (eB false)
)
)
) (
 obind (binP false .add (pd ls 0) (eI 1)) fun v25 =>
 some (.inl [v25, (pd ls 1), (pd ls 2), (pd ls 3), (pd ls 4), (pd ls 5), (pd ls 6), (pd ls 7), (pd ls 8), (D.sl 4 (esD (pd ls 9)))])
)
) (
 inrX (
 some (.inl [(pd ls 1), (pd ls 2), (pd ls 3), (pd ls 4), (pd ls 5), (pd ls 6), (pd ls 7), (pd ls 8), (D.sl 4 (esD (pd ls 9)))])
)
)

def law35_small_l8 (n : Nat) (ls : List D) : Option (List D ⊕ (List D ⊕ D)) :=
 obind (lenP (pd ls 5)) fun v35 =>
 obind (binP false .lss (pd ls 0) v35) fun v36 =>
 oif v36 (
 obind (ixP 5 (pd ls 5) (pd ls 0)) fun c42 =>
 obind (atP true 4 1 c42) fun v44 =>
 obind (law30_LightL n [v44]) fun v45 =>
 obind (unP .not v45) fun v46 =>
 oif v46 (
 inrX (
 inrX (
 some (eB false)
)
)
) (
 obind (binP false .add (pd ls 0) (eI 1)) fun v38 =>
 some (.inl [v38, (pd ls 1), (pd ls 2), (pd ls 3), (pd ls 4), (pd ls 5), (pd ls 6), (pd ls 7), (pd ls 8), (D.sl 4 (esD (pd ls 9)))])
)
) (
 inrX (
 some (.inl [(pd ls 1), (pd ls 2), (pd ls 3), (pd ls 4), (pd ls 5), (pd ls 6), (pd ls 7), (pd ls 8), (D.sl 4 (esD (pd ls 9)))])
)
)

def law35_small_l13 (n : Nat) (ls : List D) : Option (List D ⊕ (List D ⊕ D)) :=
 obind (lenP (pd ls 8)) fun v50 =>
 obind (binP false .lss (pd ls 0) v50) fun v51 =>
 oif v51 (
 obind (ixP 7 (pd ls 8) (pd ls 0)) fun c57 =>
 obind (atP true 6 1 c57) fun v59 =>
 obind (ref32_ManyL n [v59, (eI 300)]) fun v60 =>
 obind (unP .not v60) fun v61 =>
 oif v61 (
 inrX (
 inrX (
 some (eB false)
)
)
) (
 obind (binP false .add (pd ls 0) (eI 1)) fun v53 =>
 some (.inl [v53, (pd ls 1), (pd ls 2), (pd ls 3), (pd ls 4), (pd ls 5), (pd ls 6), (pd ls 7), (pd ls 8), (D.sl 4 (esD (pd ls 9)))])
)
) (
 inrX (
 some (.inl [(pd ls 1), (pd ls 2), (pd ls 3), (pd ls 4), (pd ls 5), (pd ls 6), (pd ls 7), (pd ls 8), (D.sl 4 (esD (pd ls 9)))])
)
)

def law35_small (n : Nat) (a0 : D) : Option D :=
 og (aggP 8 a0) <|
 obind (elP (celD a0 2)) fun q10 =>
 og (decide (q10.1 = 4 ∨ q10.2 = []) && decide (0 < 4)) <|
 og (roomP ((([] : List (List D))).length + (q10.2).length) 56) <|
 obind (elP (celD a0 3)) fun q13 =>
 og (decide (q13.1 = 4 ∨ q13.2 = []) && decide (0 < 4)) <|
 og (roomP (((([] : List (List D)) ++ q10.2)).length + (q13.2).length) 56) <|
 obind (elP (celD a0 5)) fun q16 =>
 og (decide (q16.1 = 4 ∨ q16.2 = []) && decide (0 < 4)) <|
 og (roomP ((((([] : List (List D)) ++ q10.2) ++ q13.2)).length + (q16.2).length) 56) <|
 obind (elP (celD a0 6)) fun q19 =>
 og (decide (q19.1 = 4 ∨ q19.2 = []) && decide (0 < 4)) <|
 og (roomP (((((([] : List (List D)) ++ q10.2) ++ q13.2) ++ q16.2)).length + (q19.2).length) 56) <|
 obind (
 iterL (law35_small_l3 n) n [(eI 0), (celD a0 0), (celD a0 1), (celD a0 2), (celD a0 3), (celD a0 4), (celD a0 5), (celD a0 6), (celD a0 7), (D.sl 4 ((((([] : List (List D)) ++ q10.2) ++ q13.2) ++ q16.2) ++ q19.2))]
) <| jnX fun ls =>
 obind (
 iterL (law35_small_l8 n) n [(eI 0), (pd ls 0), (pd ls 1), (pd ls 2), (pd ls 3), (pd ls 4), (pd ls 5), (pd ls 6), (pd ls 7), (D.sl 4 (esD (pd ls 8)))]
) <| jnX fun ls =>
 obind (
 iterL (law35_small_l13 n) n [(eI 0), (pd ls 0), (pd ls 1), (pd ls 2), (pd ls 3), (pd ls 4), (pd ls 5), (pd ls 6), (pd ls 7), (D.sl 4 (esD (pd ls 8)))]
) <| jnX fun ls =>
 obind (law35_fewL n [(pd ls 1)]) fun v64 =>
 obind (gD v64 true (
 obind (binP false .leq (eI ((esD (pd ls 8))).length) (eI 30)) fun v68 =>
 some v68
)) fun v68 =>
 obind (pickP v64 v68 (eB false)) fun v69 =>
 obind (gD v69 true (
 obind (lenP (pd ls 4)) fun v73 =>
 obind (binP false .leq v73 (eI 12)) fun v74 =>
 some v74
)) fun v74 =>
 obind (pickP v69 v74 (eB false)) fun v75 =>
 obind (gD v75 true (
 obind (lenP (pd ls 7)) fun v79 =>
 obind (binP false .leq v79 (eI 12)) fun v80 =>
 some v80
)) fun v80 =>
 obind (pickP v75 v80 (eB false)) fun v81 =>
 obind (gD v81 true (
 obind (lenP (pd ls 0)) fun v85 =>
 obind (binP false .leq v85 (eI 20)) fun v86 =>
 some v86
)) fun v86 =>
 obind (pickP v81 v86 (eB false)) fun v87 =>
 some v87

def law35_smallL (n : Nat) : List D → Option D
  | [a0] => law35_small n a0
  | _ => none
def defs_all_l2 (n : Nat) (ls : List D) : Option (List D ⊕ (List D ⊕ D)) :=
 obind (binP false .lss (pd ls 3) (pd ls 2)) fun v14 =>
 oif v14 (
 obind (ixP 4 (pd ls 1) (pd ls 3)) fun c16 =>
 obind (atP true 4 0 c16) fun v17 =>
 og (aggP 4 v17) <|
 obind (defs_InlineL n [(D.agg [(celD v17 0), (celD v17 1), (celD v17 2), (celD v17 3)]), (pd ls 0)]) fun v21 =>
 obind (extP 0 v21) fun v22 =>
 obind (extP 1 v21) fun v23 =>
 og (aggP 4 v22) <|
 obind (binP false .neq v23 (eI 0)) fun v25 =>
 oif v25 (
 inrX (
 inrX (
 some (D.tup [(D.val (.slice none 0 0)), (pd ls 3), v23])
)
)
) (
 og (aggP 4 (D.agg [(celD v22 0), (celD v22 1), (celD v22 2), (celD v22 3)])) <|
 og (roomP (((esD (pd ls 4))).length + ([[(celD v22 0), (celD v22 1), (celD v22 2), (celD v22 3)]]).length) 56) <|
 obind (binP false .add (pd ls 3) (eI 1)) fun v32 =>
 some (.inl [(pd ls 0), (pd ls 1), (pd ls 2), v32, (D.sl 4 ((esD (pd ls 4)) ++ [[(celD v22 0), (celD v22 1), (celD v22 2), (celD v22 3)]]))])
)
) (
 inrX (
 some (.inl [(D.sl 4 (esD (pd ls 4)))])
)
)

def defs_all (n : Nat) (a0 : D) (a1 : D) : Option D :=
 obind (lenP a0) fun v12 =>
 obind (
 iterL (defs_all_l2 n) n [a1, a0, v12, (eI 0), (D.sl 4 [])]
) <| jnX fun ls =>
 some (D.tup [(D.sl 4 (esD (pd ls 0))), (eI 0), (eI 0)])

def defs_allL (n : Nat) : List D → Option D
  | [a0, a1] => defs_all n a0 a1
  | _ => none
def defs_nexts_l2 (n : Nat) (ls : List D) : Option (List D ⊕ (List D ⊕ D)) :=
 obind (binP false .lss (pd ls 3) (pd ls 2)) fun v14 =>
 oif v14 (
 obind (ixP 5 (pd ls 1) (pd ls 3)) fun c16 =>
 obind (atP true 5 0 c16) fun v17 =>
 og (aggP 5 v17) <|
 obind (defs_InlineL n [(D.agg [(celD v17 1), (celD v17 2), (celD v17 3), (celD v17 4)]), (pd ls 0)]) fun v22 =>
 obind (extP 0 v22) fun v23 =>
 obind (extP 1 v22) fun v24 =>
 og (aggP 4 v23) <|
 obind (binP false .neq v24 (eI 0)) fun v26 =>
 oif v26 (
 inrX (
 inrX (
 some (D.tup [(D.val (.slice none 0 0)), (pd ls 3), v24])
)
)
) (
 og (oneP (celD v17 0)) <|
 og (aggP 4 (D.agg [(celD v23 0), (celD v23 1), (celD v23 2), (celD v23 3)])) <|
 og (aggP 5 (D.agg [(celD v17 0), (celD v23 0), (celD v23 1), (celD v23 2), (celD v23 3)])) <|
 og (roomP (((esD (pd ls 4))).length + ([[(celD v17 0), (celD v23 0), (celD v23 1), (celD v23 2), (celD v23 3)]]).length) 72) <|
 obind (binP false .add (pd ls 3) (eI 1)) fun v36 =>
 some (.inl [(pd ls 0), (pd ls 1), (pd ls 2), v36, (D.sl 5 ((esD (pd ls 4)) ++ [[(celD v17 0), (celD v23 0), (celD v23 1), (celD v23 2), (celD v23 3)]]))])
)
) (
 inrX (
 some (.inl [(D.sl 5 (esD (pd ls 4)))])
)
)

def defs_nexts (n : Nat) (a0 : D) (a1 : D) : Option D :=
 obind (lenP a0) fun v12 =>
 obind (
 iterL (defs_nexts_l2 n) n [a1, a0, v12, (eI 0), (D.sl 5 [])]
) <| jnX fun ls =>
 some (D.tup [(D.sl 5 (esD (pd ls 0))), (eI 0), (eI 0)])

def defs_nextsL (n : Nat) : List D → Option D
  | [a0, a1] => defs_nexts n a0 a1
  | _ => none
def defs_specs_l2 (n : Nat) (ls : List D) : Option (List D ⊕ (List D ⊕ D)) :=
 obind (binP false .lss (pd ls 3) (pd ls 2)) fun v14 =>
 oif v14 (
 obind (ixP 7 (pd ls 1) (pd ls 3)) fun c16 =>
 obind (atP true 7 0 c16) fun v17 =>
 og (aggP 7 v17) <|
 obind (defs_FormL n [(D.agg [(celD v17 1), (celD v17 2), (celD v17 3), (celD v17 4), (celD v17 5), (celD v17 6)]), (pd ls 0)]) fun v22 =>
 obind (extP 0 v22) fun v23 =>
 obind (extP 1 v22) fun v24 =>
 og (aggP 6 v23) <|
 obind (binP false .neq v24 (eI 0)) fun v26 =>
 oif v26 (
 inrX (
 inrX (
 some (D.tup [(D.val (.slice none 0 0)), (pd ls 3), v24])
)
)
) (
 og (oneP (celD v17 0)) <|
 og (aggP 6 (D.agg [(celD v23 0), (celD v23 1), (celD v23 2), (celD v23 3), (celD v23 4), (celD v23 5)])) <|
 og (aggP 7 (D.agg [(celD v17 0), (celD v23 0), (celD v23 1), (celD v23 2), (celD v23 3), (celD v23 4), (celD v23 5)])) <|
 og (roomP (((esD (pd ls 4))).length + ([[(celD v17 0), (celD v23 0), (celD v23 1), (celD v23 2), (celD v23 3), (celD v23 4), (celD v23 5)]]).length) 104) <|
 obind (binP false .add (pd ls 3) (eI 1)) fun v36 =>
 some (.inl [(pd ls 0), (pd ls 1), (pd ls 2), v36, (D.sl 7 ((esD (pd ls 4)) ++ [[(celD v17 0), (celD v23 0), (celD v23 1), (celD v23 2), (celD v23 3), (celD v23 4), (celD v23 5)]]))])
)
) (
 inrX (
 some (.inl [(D.sl 7 (esD (pd ls 4)))])
)
)

def defs_specs (n : Nat) (a0 : D) (a1 : D) : Option D :=
 obind (lenP a0) fun v12 =>
 obind (
 iterL (defs_specs_l2 n) n [a1, a0, v12, (eI 0), (D.sl 7 [])]
) <| jnX fun ls =>
 some (D.tup [(D.sl 7 (esD (pd ls 0))), (eI 0), (eI 0)])

def defs_specsL (n : Nat) : List D → Option D
  | [a0, a1] => defs_specs n a0 a1
  | _ => none
def defs_Flat (n : Nat) (a0 : D) : Option D :=
 og (aggP 8 a0) <|
 og (oneP (celD a0 0)) <|
 obind (defs_allL n [(celD a0 2), (celD a0 1)]) fun v13 =>
 obind (extP 0 v13) fun v14 =>
 obind (extP 1 v13) fun v15 =>
 obind (extP 2 v13) fun v16 =>
 og (oneP v14) <|
 og (oneP v15) <|
 obind (binP false .neq v16 (eI 0)) fun v20 =>
 oif v20 (
 og (oneP v15) <|
 og (aggP 2 (D.agg [(eI 3), v15])) <|
 some (D.tup [(D.agg [(D.val (.slice none 0 0)), (D.val (.slice none 0 0)), (D.val (.slice none 0 0)), (D.val (.slice none 0 0)), (D.val (.slice none 0 0)), (D.val (.slice none 0 0)), (D.val (.slice none 0 0)), (D.val (.slice none 0 0))]), (D.agg [(eI 3), v15]), v16])
) (
 obind (defs_allL n [(celD a0 3), (celD a0 1)]) fun v31 =>
 obind (extP 0 v31) fun v32 =>
 obind (extP 1 v31) fun v33 =>
 obind (extP 2 v31) fun v34 =>
 og (oneP v32) <|
 og (oneP v33) <|
 obind (binP false .neq v34 (eI 0)) fun v38 =>
 oif v38 (
 og (oneP v33) <|
 og (aggP 2 (D.agg [(eI 4), v33])) <|
 some (D.tup [(D.agg [(D.val (.slice none 0 0)), (D.val (.slice none 0 0)), (D.val (.slice none 0 0)), (D.val (.slice none 0 0)), (D.val (.slice none 0 0)), (D.val (.slice none 0 0)), (D.val (.slice none 0 0)), (D.val (.slice none 0 0))]), (D.agg [(eI 4), v33]), v34])
) (
 obind (defs_nextsL n [(celD a0 4), (celD a0 1)]) fun v49 =>
 obind (extP 0 v49) fun v50 =>
 obind (extP 1 v49) fun v51 =>
 obind (extP 2 v49) fun v52 =>
 og (oneP v50) <|
 og (oneP v51) <|
 obind (binP false .neq v52 (eI 0)) fun v56 =>
 oif v56 (
 og (oneP v51) <|
 og (aggP 2 (D.agg [(eI 5), v51])) <|
 some (D.tup [(D.agg [(D.val (.slice none 0 0)), (D.val (.slice none 0 0)), (D.val (.slice none 0 0)), (D.val (.slice none 0 0)), (D.val (.slice none 0 0)), (D.val (.slice none 0 0)), (D.val (.slice none 0 0)), (D.val (.slice none 0 0))]), (D.agg [(eI 5), v51]), v52])
) (
 obind (defs_allL n [(celD a0 5), (celD a0 1)]) fun v67 =>
 obind (extP 0 v67) fun v68 =>
 obind (extP 1 v67) fun v69 =>
 obind (extP 2 v67) fun v70 =>
 og (oneP v68) <|
 og (oneP v69) <|
 obind (binP false .neq v70 (eI 0)) fun v74 =>
 oif v74 (
 og (oneP v69) <|
 og (aggP 2 (D.agg [(eI 6), v69])) <|
 some (D.tup [(D.agg [(D.val (.slice none 0 0)), (D.val (.slice none 0 0)), (D.val (.slice none 0 0)), (D.val (.slice none 0 0)), (D.val (.slice none 0 0)), (D.val (.slice none 0 0)), (D.val (.slice none 0 0)), (D.val (.slice none 0 0))]), (D.agg [(eI 6), v69]), v70])
) (
 obind (defs_allL n [(celD a0 6), (celD a0 1)]) fun v85 =>
 obind (extP 0 v85) fun v86 =>
 obind (extP 1 v85) fun v87 =>
 obind (extP 2 v85) fun v88 =>
 og (oneP v86) <|
 og (oneP v87) <|
 obind (binP false .neq v88 (eI 0)) fun v92 =>
 oif v92 (
 og (oneP v87) <|
 og (aggP 2 (D.agg [(eI 7), v87])) <|
 some (D.tup [(D.agg [(D.val (.slice none 0 0)), (D.val (.slice none 0 0)), (D.val (.slice none 0 0)), (D.val (.slice none 0 0)), (D.val (.slice none 0 0)), (D.val (.slice none 0 0)), (D.val (.slice none 0 0)), (D.val (.slice none 0 0))]), (D.agg [(eI 7), v87]), v88])
) (
 obind (defs_specsL n [(celD a0 7), (celD a0 1)]) fun v103 =>
 obind (extP 0 v103) fun v104 =>
 obind (extP 1 v103) fun v105 =>
 obind (extP 2 v103) fun v106 =>
 og (oneP v104) <|
 og (oneP v105) <|
 obind (binP false .neq v106 (eI 0)) fun v110 =>
 oif v110 (
 og (oneP v105) <|
 og (aggP 2 (D.agg [(eI 8), v105])) <|
 some (D.tup [(D.agg [(D.val (.slice none 0 0)), (D.val (.slice none 0 0)), (D.val (.slice none 0 0)), (D.val (.slice none 0 0)), (D.val (.slice none 0 0)), (D.val (.slice none 0 0)), (D.val (.slice none 0 0)), (D.val (.slice none 0 0))]), (D.agg [(eI 8), v105]), v106])
) (
 og (aggP 8 (D.agg [(celD a0 0), (D.val (.slice none 0 0)), v14, v32, v50, v68, v86, v104])) <|
 some (D.tup [(D.agg [(celD a0 0), (D.val (.slice none 0 0)), v14, v32, v50, v68, v86, v104]), (D.agg [(eI 0), (eI 0)]), (eI 0)])
)
)
)
)
)
)

def defs_FlatL (n : Nat) : List D → Option D
  | [a0] => defs_Flat n a0
  | _ => none
def ref35_all_l3 (n : Nat) (ls : List D) : Option (List D ⊕ (List D ⊕ D)) :=
 obind (lenP (pd ls 0)) fun v14 =>
 obind (binP false .lss (pd ls 2) v14) fun v15 =>
 oif v15 (
 obind (ixP 4 (pd ls 0) (pd ls 2)) fun c21 =>
 obind (atP true 4 0 c21) fun v22 =>
 obind (ref35_InlineL n [v22, (pd ls 1)]) fun v24 =>
 obind (extP 0 v24) fun v25 =>
 obind (extP 1 v24) fun v26 =>
 og (aggP 4 v25) <|
 obind (binP false .neq v26 (eI 0)) fun v28 =>
 oif v28 (
 inrX (
 inrX (
 some (D.tup [(D.val (.slice none 0 0)), (pd ls 2), v26])
)
)
) (
 og (aggP 4 (D.agg [(celD v25 0), (celD v25 1), (celD v25 2), (celD v25 3)])) <|
 og (roomP (((esD (pd ls 3))).length + ([[(celD v25 0), (celD v25 1), (celD v25 2), (celD v25 3)]]).length) 56) <|
 obind (binP false .add (pd ls 2) (eI 1)) fun v17 =>
 some (.inl [(pd ls 0), (pd ls 1), v17, (D.sl 4 ((esD (pd ls 3)) ++ [[(celD v25 0), (celD v25 1), (celD v25 2), (celD v25 3)]]))])
)
) (
 inrX (
 some (.inl [(D.sl 4 (esD (pd ls 3)))])
)
)

def ref35_all (n : Nat) (a0 : D) (a1 : D) : Option D :=
 obind (
 iterL (ref35_all_l3 n) n [a0, a1, (eI 0), (D.sl 4 ([] : List (List D)))]
) <| jnX fun ls =>
 some (D.tup [(D.sl 4 (esD (pd ls 0))), (eI 0), (eI 0)])

def ref35_allL (n : Nat) : List D → Option D
  | [a0, a1] => ref35_all n a0 a1
  | _ => none
def ref35_Flat_l11 (n : Nat) (ls : List D) : Option (List D ⊕ (List D ⊕ D)) :=
 obind (lenP (pd ls 5)) fun v55 =>
 obind (binP false .lss (pd ls 0) v55) fun v56 =>
 oif v56 (
 obind (ixP 5 (pd ls 5) (pd ls 0)) fun c63 =>
 obind (atP true 4 1 c63) fun v65 =>
 obind (ref35_InlineL n [v65, (pd ls 2)]) fun v68 =>
 obind (extP 0 v68) fun v69 =>
 obind (extP 1 v68) fun v70 =>
 og (aggP 4 v69) <|
 obind (binP false .neq v70 (eI 0)) fun v72 =>
 oif v72 (
 og (oneP (pd ls 0)) <|
 og (aggP 2 (D.agg [(eI 5), (pd ls 0)])) <|
 inrX (
 inrX (
 some (D.tup [(D.agg [(D.val (.slice none 0 0)), (D.val (.slice none 0 0)), (D.val (.slice none 0 0)), (D.val (.slice none 0 0)), (D.val (.slice none 0 0)), (D.val (.slice none 0 0)), (D.val (.slice none 0 0)), (D.val (.slice none 0 0))]), (D.agg [(eI 5), (pd ls 0)]), v70])
)
)
) (
 obind (ixP 5 (pd ls 5) (pd ls 0)) fun c82 =>
 obind (atP false 1 0 c82) fun v84 =>
 og (oneP v84) <|
 og (aggP 4 (D.agg [(celD v69 0), (celD v69 1), (celD v69 2), (celD v69 3)])) <|
 og (aggP 5 (D.agg [v84, (celD v69 0), (celD v69 1), (celD v69 2), (celD v69 3)])) <|
 og (roomP (((esD (pd ls 26))).length + ([[v84, (celD v69 0), (celD v69 1), (celD v69 2), (celD v69 3)]]).length) 72) <|
 obind (binP false .add (pd ls 0) (eI 1)) fun v58 =>
 some (.inl [v58, (pd ls 1), (pd ls 2), (pd ls 3), (pd ls 4), (pd ls 5), (pd ls 6), (pd ls 7), (pd ls 8), (pd ls 9), (pd ls 10), (pd ls 11), (pd ls 12), (pd ls 13), (pd ls 14), (pd ls 15), (pd ls 16), (pd ls 17), (pd ls 18), (pd ls 19), (pd ls 20), (pd ls 21), (pd ls 22), (pd ls 23), (pd ls 24), (pd ls 25), (D.sl 5 ((esD (pd ls 26)) ++ [[v84, (celD v69 0), (celD v69 1), (celD v69 2), (celD v69 3)]]))])
)
) (
 inrX (
 some (.inl [(pd ls 1), (pd ls 2), (pd ls 3), (pd ls 4), (pd ls 5), (pd ls 6), (pd ls 7), (pd ls 8), (pd ls 9), (pd ls 10), (pd ls 11), (pd ls 12), (pd ls 13), (pd ls 14), (pd ls 15), (pd ls 16), (pd ls 17), (pd ls 18), (pd ls 19), (pd ls 20), (pd ls 21), (pd ls 22), (pd ls 23), (pd ls 24), (pd ls 25), (D.sl 5 (esD (pd ls 26)))])
)
)

def ref35_Flat_l26 (n : Nat) (ls : List D) : Option (List D ⊕ (List D ⊕ D)) :=
 obind (lenP (pd ls 8)) fun v127 =>
 obind (binP false .lss (pd ls 0) v127) fun v128 =>
 oif v128 (
 obind (ixP 7 (pd ls 8) (pd ls 0)) fun c135 =>
 obind (atP true 6 1 c135) fun v137 =>
 obind (ref35_FormL n [v137, (pd ls 2)]) fun v140 =>
 obind (extP 0 v140) fun v141 =>
 obind (extP 1 v140) fun v142 =>
 og (aggP 6 v141) <|
 obind (binP false .neq v142 (eI 0)) fun v144 =>
 oif v144 (
 og (oneP (pd ls 0)) <|
 og (aggP 2 (D.agg [(eI 8), (pd ls 0)])) <|
 inrX (
 inrX (
 some (D.tup [(D.agg [(D.val (.slice none 0 0)), (D.val (.slice none 0 0)), (D.val (.slice none 0 0)), (D.val (.slice none 0 0)), (D.val (.slice none 0 0)), (D.val (.slice none 0 0)), (D.val (.slice none 0 0)), (D.val (.slice none 0 0))]), (D.agg [(eI 8), (pd ls 0)]), v142])
)
)
) (
 obind (ixP 7 (pd ls 8) (pd ls 0)) fun c154 =>
 obind (atP false 1 0 c154) fun v156 =>
 og (oneP v156) <|
 og (aggP 6 (D.agg [(celD v141 0), (celD v141 1), (celD v141 2), (celD v141 3), (celD v141 4), (celD v141 5)])) <|
 og (aggP 7 (D.agg [v156, (celD v141 0), (celD v141 1), (celD v141 2), (celD v141 3), (celD v141 4), (celD v141 5)])) <|
 og (roomP (((esD (pd ls 26))).length + ([[v156, (celD v141 0), (celD v141 1), (celD v141 2), (celD v141 3), (celD v141 4), (celD v141 5)]]).length) 104) <|
 obind (binP false .add (pd ls 0) (eI 1)) fun v130 =>
 some (.inl [v130, (pd ls 1), (pd ls 2), (pd ls 3), (pd ls 4), (pd ls 5), (pd ls 6), (pd ls 7), (pd ls 8), (pd ls 9), (pd ls 10), (pd ls 11), (pd ls 12), (pd ls 13), (pd ls 14), (pd ls 15), (pd ls 16), (pd ls 17), (pd ls 18), (pd ls 19), (pd ls 20), (pd ls 21), (pd ls 22), (pd ls 23), (pd ls 24), (D.sl 5 (esD (pd ls 25))), (D.sl 7 ((esD (pd ls 26)) ++ [[v156, (celD v141 0), (celD v141 1), (celD v141 2), (celD v141 3), (celD v141 4), (celD v141 5)]]))])
)
) (
 inrX (
 some (.inl [(pd ls 9), (pd ls 10), (pd ls 11), (pd ls 12), (pd ls 13), (pd ls 14), (pd ls 15), (pd ls 16), (pd ls 17), (pd ls 18), (pd ls 19), (pd ls 20), (pd ls 21), (pd ls 22), (pd ls 23), (pd ls 24), (D.sl 5 (esD (pd ls 25))), (D.sl 7 (esD (pd ls 26)))])
)
)

def ref35_Flat (n : Nat) (a0 : D) : Option D :=
 og (aggP 8 a0) <|
 og (oneP (celD a0 0)) <|
 og (aggP 8 (D.agg [(celD a0 0), (D.val (.slice none 0 0)), (D.val (.slice none 0 0)), (D.val (.slice none 0 0)), (D.val (.slice none 0 0)), (D.val (.slice none 0 0)), (D.val (.slice none 0 0)), (D.val (.slice none 0 0))])) <|
 obind (ref35_allL n [(celD a0 2), (celD a0 1)]) fun v23 =>
 obind (extP 0 v23) fun v24 =>
 obind (extP 1 v23) fun v25 =>
 obind (extP 2 v23) fun v26 =>
 obind (binP false .neq v26 (eI 0)) fun v28 =>
 oif v28 (
 og (oneP v25) <|
 og (aggP 2 (D.agg [(eI 3), v25])) <|
 some (D.tup [(D.agg [(D.val (.slice none 0 0)), (D.val (.slice none 0 0)), (D.val (.slice none 0 0)), (D.val (.slice none 0 0)), (D.val (.slice none 0 0)), (D.val (.slice none 0 0)), (D.val (.slice none 0 0)), (D.val (.slice none 0 0))]), (D.agg [(eI 3), v25]), v26])
) (
 og (oneP v24) <|
 obind (ref35_allL n [(celD a0 3), (celD a0 1)]) fun v40 =>
 obind (extP 0 v40) fun v41 =>
 obind (extP 1 v40) fun v42 =>
 obind (extP 2 v40) fun v43 =>
 obind (binP false .neq v43 (eI 0)) fun v45 =>
 oif v45 (
 og (oneP v42) <|
 og (aggP 2 (D.agg [(eI 4), v42])) <|
 some (D.tup [(D.agg [(D.val (.slice none 0 0)), (D.val (.slice none 0 0)), (D.val (.slice none 0 0)), (D.val (.slice none 0 0)), (D.val (.slice none 0 0)), (D.val (.slice none 0 0)), (D.val (.slice none 0 0)), (D.val (.slice none 0 0))]), (D.agg [(eI 4), v42]), v43])
) (
 og (oneP v41) <|
 obind (
 iterL (ref35_Flat_l11 n) n [(eI 0), (celD a0 0), (celD a0 1), (celD a0 2), (celD a0 3), (celD a0 4), (celD a0 5), (celD a0 6), (celD a0 7), (D.val (.slice none 0 0)), (D.val (.slice none 0 0)), (D.val (.slice none 0 0)), (D.val (.slice none 0 0)), (D.val (.slice none 0 0)), (D.val (.slice none 0 0)), (D.val (.slice none 0 0)), (D.val (.slice none 0 0)), (eI 0), (eI 0), (celD a0 0), (D.val (.slice none 0 0)), v24, v41, (D.val (.slice none 0 0)), (D.val (.slice none 0 0)), (D.val (.slice none 0 0)), (D.sl 5 [])]
) <| jnX fun ls =>
 obind (ref35_allL n [(pd ls 5), (pd ls 1)]) fun v95 =>
 obind (extP 0 v95) fun v96 =>
 obind (extP 1 v95) fun v97 =>
 obind (extP 2 v95) fun v98 =>
 obind (binP false .neq v98 (eI 0)) fun v100 =>
 oif v100 (
 og (oneP v97) <|
 og (aggP 2 (D.agg [(eI 6), v97])) <|
 some (D.tup [(D.agg [(D.val (.slice none 0 0)), (D.val (.slice none 0 0)), (D.val (.slice none 0 0)), (D.val (.slice none 0 0)), (D.val (.slice none 0 0)), (D.val (.slice none 0 0)), (D.val (.slice none 0 0)), (D.val (.slice none 0 0))]), (D.agg [(eI 6), v97]), v98])
) (
 og (oneP v96) <|
 obind (ref35_allL n [(pd ls 6), (pd ls 1)]) fun v112 =>
 obind (extP 0 v112) fun v113 =>
 obind (extP 1 v112) fun v114 =>
 obind (extP 2 v112) fun v115 =>
 obind (binP false .neq v115 (eI 0)) fun v117 =>
 oif v117 (
 og (oneP v114) <|
 og (aggP 2 (D.agg [(eI 7), v114])) <|
 some (D.tup [(D.agg [(D.val (.slice none 0 0)), (D.val (.slice none 0 0)), (D.val (.slice none 0 0)), (D.val (.slice none 0 0)), (D.val (.slice none 0 0)), (D.val (.slice none 0 0)), (D.val (.slice none 0 0)), (D.val (.slice none 0 0))]), (D.agg [(eI 7), v114]), v115])
) (
 og (oneP v113) <|
 obind (
 og (nilP (pd ls 24)) <|
 iterL (ref35_Flat_l26 n) n [(eI 0), (pd ls 0), (pd ls 1), (pd ls 2), (pd ls 3), (pd ls 4), (pd ls 5), (pd ls 6), (pd ls 7), (pd ls 8), (pd ls 9), (pd ls 10), (pd ls 11), (pd ls 12), (pd ls 13), (pd ls 14), (pd ls 15), (pd ls 16), (pd ls 17), (pd ls 18), (pd ls 19), (pd ls 20), (pd ls 21), v96, v113, (D.sl 5 (esD (pd ls 25))), (D.sl 7 [])]
) <| jnX fun ls =>
 og (aggP 8 (D.agg [(pd ls 10), (pd ls 11), (pd ls 12), (pd ls 13), (D.sl 5 (esD (pd ls 16))), (pd ls 14), (pd ls 15), (D.sl 7 (esD (pd ls 17)))])) <|
 some (D.tup [(D.agg [(pd ls 10), (pd ls 11), (pd ls 12), (pd ls 13), (D.sl 5 (esD (pd ls 16))), (pd ls 14), (pd ls 15), (D.sl 7 (esD (pd ls 17)))]), (D.agg [(eI 0), (eI 0)]), (eI 0)])
)
)
)
)

def ref35_FlatL (n : Nat) : List D → Option D
  | [a0] => ref35_Flat n a0
  | _ => none
def ref35_Defs_l4 (n : Nat) (ls : List D) : Option (List D ⊕ (List D ⊕ D)) :=
 obind (lenP (pd ls 0)) fun v13 =>
 obind (binP false .lss (pd ls 2) v13) fun v14 =>
 oif v14 (
 obind (ixP 5 (pd ls 0) (pd ls 2)) fun c19 =>
 obind (atP false 1 0 c19) fun v21 =>
 obind (ixP 5 (pd ls 1) (pd ls 2)) fun c24 =>
 obind (atP false 1 0 c24) fun v26 =>
 obind (binP false .neq v21 v26) fun v27 =>
 obind (gD v27 false (
 obind (ixP 5 (pd ls 0) (pd ls 2)) fun c31 =>
 obind (atP true 4 1 c31) fun v33 =>
 obind (ixP 5 (pd ls 1) (pd ls 2)) fun c36 =>
 obind (atP true 4 1 c36) fun v38 =>
 obind (ref30_SameL n [v33, v38]) fun v39 =>
 obind (unP .not v39) fun v40 =>
 some v40
)) fun v40 =>
 obind (pickP v27 (eB true) v40) fun v41 =>
 oif v41 (
 inrX (
 inrX (
 some (eB false)
)
)
) (
 obind (binP false .add (pd ls 2) (eI 1)) fun v16 =>
 some (.inl [(pd ls 0), (pd ls 1), v16])
)
) (
 inrX (
 some (.inl [])
)
)

def ref35_Defs (n : Nat) (a0 : D) (a1 : D) : Option D :=
 obind (lenP a0) fun v7 =>
 obind (lenP a1) fun v9 =>
 obind (binP false .neq v7 v9) fun v10 =>
 oif v10 (
 some (eB false)
) (
 obind (
 iterL (ref35_Defs_l4 n) n [a0, a1, (eI 0)]
) <| jnX fun ls =>
 some (eB true)
)

def ref35_DefsL (n : Nat) : List D → Option D
  | [a0, a1] => ref35_Defs n a0 a1
  | _ => none
def ref35_Terms_l4 (n : Nat) (ls : List D) : Option (List D ⊕ (List D ⊕ D)) :=
 obind (lenP (pd ls 0)) fun v13 =>
 obind (binP false .lss (pd ls 2) v13) fun v14 =>
 oif v14 (
 obind (ixP 4 (pd ls 0) (pd ls 2)) fun c19 =>
 obind (atP true 4 0 c19) fun v20 =>
 obind (ixP 4 (pd ls 1) (pd ls 2)) fun c23 =>
 obind (atP true 4 0 c23) fun v24 =>
 obind (ref30_SameL n [v20, v24]) fun v25 =>
 obind (unP .not v25) fun v26 =>
 oif v26 (
 inrX (
 inrX (
 some (eB false)
)
)
) (
 obind (binP false .add (pd ls 2) (eI 1)) fun v16 =>
 some (.inl [(pd ls 0), (pd ls 1), v16])
)
) (
 inrX (
 some (.inl [])
)
)

def ref35_Terms (n : Nat) (a0 : D) (a1 : D) : Option D :=
 obind (lenP a0) fun v7 =>
 obind (lenP a1) fun v9 =>
 obind (binP false .neq v7 v9) fun v10 =>
 oif v10 (
 some (eB false)
) (
 obind (
 iterL (ref35_Terms_l4 n) n [a0, a1, (eI 0)]
) <| jnX fun ls =>
 some (eB true)
)

def ref35_TermsL (n : Nat) : List D → Option D
  | [a0, a1] => ref35_Terms n a0 a1
  | _ => none
def ref35_Same_l4 (n : Nat) (ls : List D) : Option (List D ⊕ (List D ⊕ D)) :=
 obind (lenP (pd ls 1)) fun v26 =>
 obind (binP false .lss (pd ls 0) v26) fun v27 =>
 oif v27 (
 obind (ixP 4 (pd ls 1) (pd ls 0)) fun c33 =>
 obind (atP true 4 0 c33) fun v34 =>
 obind (ixP 4 (pd ls 9) (pd ls 0)) fun c38 =>
 obind (atP true 4 0 c38) fun v39 =>
 obind (eqvP [.string, .bool, .int .i64, .int .i64] .neq v34 v39) fun v40 =>
 oif v40 (
 inrX (
 inrX (
 some (eB false)
)
)
) (
 obind (binP false .add (pd ls 0) (eI 1)) fun v29 =>
 some (.inl [v29, (pd ls 1), (pd ls 2), (pd ls 3), (pd ls 4), (pd ls 5), (pd ls 6), (pd ls 7), (pd ls 8), (pd ls 9), (pd ls 10), (pd ls 11), (pd ls 12), (pd ls 13), (pd ls 14), (pd ls 15), (pd ls 16)])
)
) (
 inrX (
 some (.inl [(pd ls 1), (pd ls 2), (pd ls 3), (pd ls 4), (pd ls 5), (pd ls 6), (pd ls 7), (pd ls 8), (pd ls 9), (pd ls 10), (pd ls 11), (pd ls 12), (pd ls 13), (pd ls 14), (pd ls 15), (pd ls 16)])
)
)

def ref35_Same_l9 (n : Nat) (ls : List D) : Option (List D ⊕ (List D ⊕ D)) :=
 obind (lenP (pd ls 8)) fun v44 =>
 obind (binP false .lss (pd ls 0) v44) fun v45 =>
 oif v45 (
 obind (ixP 7 (pd ls 8) (pd ls 0)) fun c51 =>
 obind (atP false 1 0 c51) fun v53 =>
 obind (ixP 7 (pd ls 16) (pd ls 0)) fun c57 =>
 obind (atP false 1 0 c57) fun v59 =>
 obind (binP false .neq v53 v59) fun v60 =>
 obind (gD v60 false (
 obind (ixP 7 (pd ls 8) (pd ls 0)) fun c65 =>
 obind (atP true 6 1 c65) fun v67 =>
 obind (ixP 7 (pd ls 16) (pd ls 0)) fun c71 =>
 obind (atP true 6 1 c71) fun v73 =>
 obind (ref32_SameL n [v67, v73]) fun v74 =>
 obind (unP .not v74) fun v75 =>
 some v75
)) fun v75 =>
 obind (pickP v60 (eB true) v75) fun v76 =>
 oif v76 (
 inrX (
 inrX (
 some (eB false)
)
)
) (
 obind (binP false .add (pd ls 0) (eI 1)) fun v47 =>
 some (.inl [v47, (pd ls 1), (pd ls 2), (pd ls 3), (pd ls 4), (pd ls 5), (pd ls 6), (pd ls 7), (pd ls 8), (pd ls 9), (pd ls 10), (pd ls 11), (pd ls 12), (pd ls 13), (pd ls 14), (pd ls 15), (pd ls 16)])
)
) (
 inrX (
 some (.inl [(pd ls 1), (pd ls 2), (pd ls 3), (pd ls 4), (pd ls 5), (pd ls 6), (pd ls 7), (pd ls 8), (pd ls 9), (pd ls 10), (pd ls 11), (pd ls 12), (pd ls 13), (pd ls 14), (pd ls 15), (pd ls 16)])
)
)

def ref35_Same (n : Nat) (a0 : D) (a1 : D) : Option D :=
 og (aggP 8 a0) <|
 og (aggP 8 a1) <|
 obind (lenP (celD a0 0)) fun v9 =>
 obind (lenP (celD a1 0)) fun v12 =>
 obind (binP false .neq v9 v12) fun v13 =>
 obind (gD v13 false (
 obind (lenP (celD a0 7)) fun v17 =>
 obind (lenP (celD a1 7)) fun v20 =>
 obind (binP false .neq v17 v20) fun v21 =>
 some v21
)) fun v21 =>
 obind (pickP v13 (eB true) v21) fun v22 =>
 oif v22 (
 some (eB false)
) (
 obind (
 iterL (ref35_Same_l4 n) n [(eI 0), (celD a0 0), (celD a0 1), (celD a0 2), (celD a0 3), (celD a0 4), (celD a0 5), (celD a0 6), (celD a0 7), (celD a1 0), (celD a1 1), (celD a1 2), (celD a1 3), (celD a1 4), (celD a1 5), (celD a1 6), (celD a1 7)]
) <| jnX fun ls =>
 obind (
 iterL (ref35_Same_l9 n) n [(eI 0), (pd ls 0), (pd ls 1), (pd ls 2), (pd ls 3), (pd ls 4), (pd ls 5), (pd ls 6), (pd ls 7), (pd ls 8), (pd ls 9), (pd ls 10), (pd ls 11), (pd ls 12), (pd ls 13), (pd ls 14), (pd ls 15)]
) <| jnX fun ls =>
 obind (ref35_DefsL n [(pd ls 1), (pd ls 9)]) fun v81 =>
 obind (gD v81 true (
 obind (ref35_TermsL n [(pd ls 2), (pd ls 10)]) fun v87 =>
 some v87
)) fun v87 =>
 obind (pickP v81 v87 (eB false)) fun v88 =>
 obind (gD v88 true (
 obind (ref35_TermsL n [(pd ls 3), (pd ls 11)]) fun v94 =>
 some v94
)) fun v94 =>
 obind (pickP v88 v94 (eB false)) fun v95 =>
 obind (gD v95 true (
 obind (ref35_DefsL n [(pd ls 4), (pd ls 12)]) fun v101 =>
 some v101
)) fun v101 =>
 obind (pickP v95 v101 (eB false)) fun v102 =>
 obind (gD v102 true (
 obind (ref35_TermsL n [(pd ls 5), (pd ls 13)]) fun v108 =>
 some v108
)) fun v108 =>
 obind (pickP v102 v108 (eB false)) fun v109 =>
 obind (gD v109 true (
 obind (ref35_TermsL n [(pd ls 6), (pd ls 14)]) fun v115 =>
 some v115
)) fun v115 =>
 obind (pickP v109 v115 (eB false)) fun v116 =>
 some v116
)

def ref35_SameL (n : Nat) : List D → Option D
  | [a0, a1] => ref35_Same n a0 a1
  | _ => none
def law35_DefsFlats (n : Nat) (a0 : D) : Option D :=
 og (aggP 8 a0) <|
 obind (law35_smallL n [(D.agg [(celD a0 0), (celD a0 1), (celD a0 2), (celD a0 3), (celD a0 4), (celD a0 5), (celD a0 6), (celD a0 7)])]) fun v10 =>
 obind (unP .not v10) fun v11 =>
 oif v11 (
 obind (law35_livesL n []) fun v12 =>
 some v12
) (
 obind (defs_FlatL n [(D.agg [(celD a0 0), (celD a0 1), (celD a0 2), (celD a0 3), (celD a0 4), (celD a0 5), (celD a0 6), (celD a0 7)])]) fun v15 =>
 obind (extP 0 v15) fun v16 =>
 obind (extP 1 v15) fun v17 =>
 obind (extP 2 v15) fun v18 =>
 og (aggP 8 v16) <|
 og (aggP 2 v17) <|
 obind (ref35_FlatL n [(D.agg [(celD a0 0), (celD a0 1), (celD a0 2), (celD a0 3), (celD a0 4), (celD a0 5), (celD a0 6), (celD a0 7)])]) fun v21 =>
 obind (extP 0 v21) fun v22 =>
 obind (extP 1 v21) fun v23 =>
 obind (extP 2 v21) fun v24 =>
 og (aggP 8 v22) <|
 og (aggP 2 v23) <|
 obind (ref35_SameL n [(D.agg [(celD v16 0), (celD v16 1), (celD v16 2), (celD v16 3), (celD v16 4), (celD v16 5), (celD v16 6), (celD v16 7)]), (D.agg [(celD v22 0), (celD v22 1), (celD v22 2), (celD v22 3), (celD v22 4), (celD v22 5), (celD v22 6), (celD v22 7)])]) fun v27 =>
 obind (gD v27 true (
 obind (eqvP [.int .i64, .int .i64] .eql (D.agg [(celD v17 0), (celD v17 1)]) (D.agg [(celD v23 0), (celD v23 1)])) fun v31 =>
 some v31
)) fun v31 =>
 obind (pickP v27 v31 (eB false)) fun v32 =>
 obind (gD v32 true (
 obind (binP false .eql v18 v24) fun v36 =>
 some v36
)) fun v36 =>
 obind (pickP v32 v36 (eB false)) fun v37 =>
 obind (gD v37 true (
 obind (law35_livesL n []) fun v39 =>
 some v39
)) fun v39 =>
 obind (pickP v37 v39 (eB false)) fun v40 =>
 some v40
)

def law35_DefsFlatsL (n : Nat) : List D → Option D
  | [a0] => law35_DefsFlats n a0
  | _ => none
def terms_names_l3 (n : Nat) (ls : List D) : Option (List D ⊕ (List D ⊕ D)) :=
 obind (binP false .lss (pd ls 2) (pd ls 1)) fun v12 =>
 oif v12 (
 obind (
 obind (ixP 4 (pd ls 0) (pd ls 2)) fun c14 =>
 obind (atP true 4 0 c14) fun v15 =>
 og (aggP 4 v15) <|
 obind (lookP (.string) (.int .i64 0) true (mpD (pd ls 3)) (celD v15 0)) fun v20 =>
 obind (extP 0 v20) fun v21 =>
 obind (extP 1 v20) fun v22 =>
 obind (unP .not v22) fun v24 =>
 obind (
 oif v24 (
 obind (putP (.string) (mpD (pd ls 3)) (celD v15 0) (pd ls 2)) fun m8_1 =>
 some (.inl [(pd ls 0), (pd ls 1), (pd ls 2), (D.mp m8_1)])
) (
 some (.inl [(pd ls 0), (pd ls 1), (pd ls 2), (D.mp (mpD (pd ls 3)))])
)
) <| jnX fun ls =>
 some (.inl [(pd ls 0), (pd ls 1), (pd ls 2), (D.mp (mpD (pd ls 3)))])
) <| jnX fun ls =>
 obind (binP false .add (pd ls 2) (eI 1)) fun v29 =>
 some (.inl [(pd ls 0), (pd ls 1), v29, (D.mp (mpD (pd ls 3)))])
) (
 inrX (
 some (.inl [(D.mp (mpD (pd ls 3)))])
)
)

def terms_names (n : Nat) (a0 : D) : Option D :=
 obind (lenP a0) fun v10 =>
 obind (
 iterL (terms_names_l3 n) n [a0, v10, (eI 0), (D.mp [])]
) <| jnX fun ls =>
 some (D.mp (mpD (pd ls 0)))

def terms_namesL (n : Nat) : List D → Option D
  | [a0] => terms_names n a0
  | _ => none
def terms_span (n : Nat) (a0 : D) (a1 : D) : Option D :=
 obind (binP false .lss a0 (eI (-1048576))) fun v7 =>
 obind (gD v7 false (
 obind (binP false .gtr a1 (eI 1048576)) fun v10 =>
 some v10
)) fun v10 =>
 obind (pickP v7 (eB true) v10) fun v11 =>
 obind (gD v11 false (
 obind (binP false .gtr a0 a1) fun v15 =>
 some v15
)) fun v15 =>
 obind (pickP v11 (eB true) v15) fun v16 =>
 obind (gD v16 false (
 obind (binP false .sub a1 a0) fun v20 =>
 obind (binP false .gtr v20 (eI 4096)) fun v21 =>
 some v21
)) fun v21 =>
 obind (pickP v16 (eB true) v21) fun v22 =>
 oif v22 (
 some (D.tup [(D.agg [(eB false), (eI 0), (eI 0)]), (eI 2)])
) (
 og (oneP a0) <|
 og (oneP a1) <|
 og (aggP 3 (D.agg [(eB false), a0, a1])) <|
 some (D.tup [(D.agg [(eB false), a0, a1]), (eI 0)])
)

def terms_spanL (n : Nat) : List D → Option D
  | [a0, a1] => terms_span n a0 a1
  | _ => none
def terms_truths_l2 (n : Nat) (ls : List D) : Option (List D ⊕ (List D ⊕ D)) :=
 obind (binP false .lss (pd ls 2) (pd ls 1)) fun v9 =>
 oif v9 (
 obind (ixP 3 (pd ls 0) (pd ls 2)) fun c10 =>
 obind (atP true 3 0 c10) fun v11 =>
 og (aggP 3 v11) <|
 obind (unP .not (celD v11 0)) fun v14 =>
 oif v14 (
 inrX (
 inrX (
 some (D.tup [(D.agg [(eB false), (eI 0), (eI 0)]), (eI 13)])
)
)
) (
 obind (binP false .add (pd ls 2) (eI 1)) fun v16 =>
 some (.inl [(pd ls 0), (pd ls 1), v16, (pd ls 3), (pd ls 4), (pd ls 5)])
)
) (
 inrX (
 some (.inl [(pd ls 3), (pd ls 4), (pd ls 5)])
)
)

def terms_truths (n : Nat) (a0 : D) : Option D :=
 obind (lenP a0) fun v7 =>
 obind (
 iterL (terms_truths_l2 n) n [a0, v7, (eI 0), (eB false), (eI 0), (eI 0)]
) <| jnX fun ls =>
 some (D.tup [(D.agg [(eB true), (eI 0), (eI 0)]), (eI 0)])

def terms_truthsL (n : Nat) : List D → Option D
  | [a0] => terms_truths n a0
  | _ => none
def terms_reckoned (n : Nat) (a0 : D) (a1 : D) (a2 : D) : Option D :=
 og (aggP 3 a1) <|
 og (aggP 3 a2) <|
 obind (binP false .eql a0 (eI 15)) fun v13 =>
 obind (
 oif v13 (
 obind (unP .neg (celD a2 2)) fun v16 =>
 obind (unP .neg (celD a2 1)) fun v19 =>
 og (oneP v16) <|
 og (oneP v19) <|
 og (aggP 3 (D.agg [(eB false), v16, v19])) <|
 some (.inl [(eI 14), (celD a1 0), (celD a1 1), (celD a1 2), (eB false), v16, v19, (eB false), (eI 0), (eI 0)])
) (
 some (.inl [a0, (celD a1 0), (celD a1 1), (celD a1 2), (celD a2 0), (celD a2 1), (celD a2 2), (eB false), (eI 0), (eI 0)])
)
) <| jnX fun ls =>
 obind (binP false .eql (pd ls 0) (eI 14)) fun v22 =>
 oif v22 (
 obind (binP false .add (pd ls 2) (pd ls 5)) fun v27 =>
 obind (binP false .add (pd ls 3) (pd ls 6)) fun v32 =>
 obind (terms_spanL n [v27, v32]) fun v33 =>
 obind (extP 0 v33) fun v34 =>
 obind (extP 1 v33) fun v35 =>
 og (aggP 3 v34) <|
 some (D.tup [(D.agg [(celD v34 0), (celD v34 1), (celD v34 2)]), v35])
) (
 obind (binP false .mul (pd ls 2) (pd ls 5)) fun v40 =>
 obind (binP false .mul (pd ls 2) (pd ls 6)) fun v45 =>
 obind (binP false .mul (pd ls 3) (pd ls 5)) fun v50 =>
 obind (binP false .mul (pd ls 3) (pd ls 6)) fun v55 =>
 obind (mmP false [v40, v45, v50, v55]) fun v60 =>
 obind (mmP true [v40, v45, v50, v55]) fun v65 =>
 obind (terms_spanL n [v60, v65]) fun v66 =>
 obind (extP 0 v66) fun v67 =>
 obind (extP 1 v66) fun v68 =>
 og (aggP 3 v67) <|
 some (D.tup [(D.agg [(celD v67 0), (celD v67 1), (celD v67 2)]), v68])
)

def terms_reckonedL (n : Nat) : List D → Option D
  | [a0, a1, a2] => terms_reckoned n a0 a1 a2
  | _ => none
def terms_part (n : Nat) (a0 : D) (a1 : D) (a2 : D) (a3 : D) (a4 : D) : Option D :=
 og (aggP 4 a2) <|
 obind (
 obind (binP false .eql (celD a2 0) (eI 1)) fun v18 =>
 oif v18 (
 obind (terms_spanL n [(celD a2 1), (celD a2 1)]) fun v23 =>
 obind (extP 0 v23) fun v24 =>
 obind (extP 1 v23) fun v25 =>
 og (aggP 3 v24) <|
 inrX (
 some (D.tup [(D.agg [(celD v24 0), (celD v24 1), (celD v24 2)]), v25])
)
) (
 obind (binP false .eql (celD a2 0) (eI 2)) fun v27 =>
 oif v27 (
 inrX (
 some (D.tup [(D.agg [(eB true), (eI 0), (eI 0)]), (eI 0)])
)
) (
 obind (binP false .eql (celD a2 0) (eI 3)) fun v30 =>
 obind (
 oif v30 (
 some (.inl [a0, a1, a3, a4, (celD a2 0), v30, (celD a2 0), (celD a2 1), (celD a2 2), (celD a2 3), (eB false), (eI 0), (eI 0)])
) (
 obind (binP false .eql (celD a2 0) (eI 4)) fun v31 =>
 some (.inl [a0, a1, a3, a4, (celD a2 0), v31, (celD a2 0), (celD a2 1), (celD a2 2), (celD a2 3), (eB false), (eI 0), (eI 0)])
)
) <| jnX fun ls =>
 oif (pd ls 5) (
 obind (entP (pd ls 1)) fun es36 =>
 obind (lookP (.string) (.int .i64 0) true es36 (pd ls 8)) fun v36 =>
 obind (extP 0 v36) fun v37 =>
 obind (extP 1 v36) fun v38 =>
 obind (unP .not v38) fun v40 =>
 oif v40 (
 inrX (
 some (D.tup [(D.agg [(eB false), (eI 0), (eI 0)]), (eI 12)])
)
) (
 obind (binP false .eql (pd ls 6) (eI 4)) fun v44 =>
 obind (gD v44 true (
 obind (unP .not (pd ls 2)) fun v47 =>
 some v47
)) fun v47 =>
 obind (pickP v44 v47 (eB false)) fun v48 =>
 oif v48 (
 inrX (
 some (D.tup [(D.agg [(eB false), (eI 0), (eI 0)]), (eI 24)])
)
) (
 obind (ixP 4 (pd ls 0) v37) fun c52 =>
 obind (atP false 1 1 c52) fun v54 =>
 oif v54 (
 inrX (
 some (D.tup [(D.agg [(eB true), (eI 0), (eI 0)]), (eI 0)])
)
) (
 obind (ixP 4 (pd ls 0) v37) fun c58 =>
 obind (atP false 1 2 c58) fun v60 =>
 obind (ixP 4 (pd ls 0) v37) fun c63 =>
 obind (atP false 1 3 c63) fun v65 =>
 obind (terms_spanL n [v60, v65]) fun v66 =>
 obind (extP 0 v66) fun v67 =>
 obind (extP 1 v66) fun v68 =>
 og (aggP 3 v67) <|
 inrX (
 some (D.tup [(D.agg [(celD v67 0), (celD v67 1), (celD v67 2)]), v68])
)
)
)
)
) (
 obind (binP false .eql (pd ls 4) (eI 5)) fun v70 =>
 obind (
 oif v70 (
 some (.inl [(pd ls 3), (pd ls 4), v70, (pd ls 6), (pd ls 7), (pd ls 8), (pd ls 9), (pd ls 10), (pd ls 11), (pd ls 12)])
) (
 obind (binP false .eql (pd ls 4) (eI 6)) fun v71 =>
 obind (
 oif v71 (
 some (.inl [(pd ls 3), (pd ls 4), v71, (pd ls 6), (pd ls 7), (pd ls 8), (pd ls 9), (pd ls 10), (pd ls 11), (pd ls 12)])
) (
 obind (binP false .eql (pd ls 4) (eI 7)) fun v72 =>
 obind (
 oif v72 (
 some (.inl [(pd ls 3), (pd ls 4), v72, (pd ls 6), (pd ls 7), (pd ls 8), (pd ls 9), (pd ls 10), (pd ls 11), (pd ls 12)])
) (
 obind (binP false .eql (pd ls 4) (eI 8)) fun v73 =>
 obind (
 oif v73 (
 some (.inl [(pd ls 3), (pd ls 4), v73, (pd ls 6), (pd ls 7), (pd ls 8), (pd ls 9), (pd ls 10), (pd ls 11), (pd ls 12)])
) (
 obind (binP false .eql (pd ls 4) (eI 9)) fun v74 =>
 some (.inl [(pd ls 3), (pd ls 4), v74, (pd ls 6), (pd ls 7), (pd ls 8), (pd ls 9), (pd ls 10), (pd ls 11), (pd ls 12)])
)
) <| jnX fun ls =>
 some (.inl [(pd ls 0), (pd ls 1), (pd ls 2), (pd ls 3), (pd ls 4), (pd ls 5), (pd ls 6), (pd ls 7), (pd ls 8), (pd ls 9)])
)
) <| jnX fun ls =>
 some (.inl [(pd ls 0), (pd ls 1), (pd ls 2), (pd ls 3), (pd ls 4), (pd ls 5), (pd ls 6), (pd ls 7), (pd ls 8), (pd ls 9)])
)
) <| jnX fun ls =>
 some (.inl [(pd ls 0), (pd ls 1), (pd ls 2), (pd ls 3), (pd ls 4), (pd ls 5), (pd ls 6), (pd ls 7), (pd ls 8), (pd ls 9)])
)
) <| jnX fun ls =>
 oif (pd ls 2) (
 obind (terms_truthsL n [(pd ls 0)]) fun v76 =>
 obind (extP 0 v76) fun v77 =>
 obind (extP 1 v76) fun v78 =>
 og (aggP 3 v77) <|
 inrX (
 some (D.tup [(D.agg [(celD v77 0), (celD v77 1), (celD v77 2)]), v78])
)
) (
 obind (binP false .eql (pd ls 1) (eI 18)) fun v80 =>
 oif v80 (
 obind (ixP 3 (pd ls 0) (eI 0)) fun c82 =>
 obind (atP false 1 0 c82) fun v84 =>
 obind (unP .not v84) fun v85 =>
 obind (gD v85 false (
 obind (ixP 3 (pd ls 0) (eI 1)) fun c88 =>
 obind (atP false 1 0 c88) fun v90 =>
 obind (ixP 3 (pd ls 0) (eI 2)) fun c92 =>
 obind (atP false 1 0 c92) fun v94 =>
 obind (binP true .neq v90 v94) fun v95 =>
 some v95
)) fun v95 =>
 obind (pickP v85 (eB true) v95) fun v96 =>
 oif v96 (
 inrX (
 some (D.tup [(D.agg [(eB false), (eI 0), (eI 0)]), (eI 13)])
)
) (
 obind (ixP 3 (pd ls 0) (eI 1)) fun c99 =>
 obind (atP false 1 0 c99) fun v101 =>
 oif v101 (
 obind (ixP 3 (pd ls 0) (eI 1)) fun c103 =>
 obind (atP true 3 0 c103) fun v104 =>
 og (aggP 3 v104) <|
 inrX (
 some (D.tup [(D.agg [(celD v104 0), (celD v104 1), (celD v104 2)]), (eI 0)])
)
) (
 obind (ixP 3 (pd ls 0) (eI 1)) fun c106 =>
 obind (atP false 1 1 c106) fun v108 =>
 obind (ixP 3 (pd ls 0) (eI 2)) fun c110 =>
 obind (atP false 1 1 c110) fun v112 =>
 obind (mmP false [v108, v112]) fun v113 =>
 obind (ixP 3 (pd ls 0) (eI 1)) fun c115 =>
 obind (atP false 1 2 c115) fun v117 =>
 obind (ixP 3 (pd ls 0) (eI 2)) fun c119 =>
 obind (atP false 1 2 c119) fun v121 =>
 obind (mmP true [v117, v121]) fun v122 =>
 obind (terms_spanL n [v113, v122]) fun v123 =>
 obind (extP 0 v123) fun v124 =>
 obind (extP 1 v123) fun v125 =>
 og (aggP 3 v124) <|
 inrX (
 some (D.tup [(D.agg [(celD v124 0), (celD v124 1), (celD v124 2)]), v125])
)
)
)
) (
 obind (binP false .eql (pd ls 1) (eI 10)) fun v127 =>
 obind (
 oif v127 (
 some (.inl [(pd ls 0), v127, (pd ls 3), (pd ls 4), (pd ls 5), (pd ls 6), (pd ls 7), (pd ls 8), (pd ls 9)])
) (
 obind (binP false .eql (pd ls 1) (eI 11)) fun v128 =>
 some (.inl [(pd ls 0), v128, (pd ls 3), (pd ls 4), (pd ls 5), (pd ls 6), (pd ls 7), (pd ls 8), (pd ls 9)])
)
) <| jnX fun ls =>
 oif (pd ls 1) (
 obind (ixP 3 (pd ls 0) (eI 0)) fun c130 =>
 obind (atP false 1 0 c130) fun v132 =>
 obind (ixP 3 (pd ls 0) (eI 1)) fun c134 =>
 obind (atP false 1 0 c134) fun v136 =>
 obind (binP true .neq v132 v136) fun v137 =>
 oif v137 (
 inrX (
 some (D.tup [(D.agg [(eB false), (eI 0), (eI 0)]), (eI 13)])
)
) (
 inrX (
 some (D.tup [(D.agg [(eB true), (eI 0), (eI 0)]), (eI 0)])
)
)
) (
 some (.inl [(pd ls 0), (pd ls 2), (pd ls 3), (pd ls 4), (pd ls 5), (pd ls 6), (pd ls 7), (pd ls 8)])
)
)
)
)
)
)
) <| jnX fun ls =>
 obind (ixP 3 (pd ls 0) (eI 0)) fun c141 =>
 obind (atP false 1 0 c141) fun v143 =>
 obind (gD v143 false (
 obind (ixP 3 (pd ls 0) (eI 1)) fun c146 =>
 obind (atP false 1 0 c146) fun v148 =>
 some v148
)) fun v148 =>
 obind (pickP v143 (eB true) v148) fun v149 =>
 oif v149 (
 some (D.tup [(D.agg [(eB false), (eI 0), (eI 0)]), (eI 13)])
) (
 obind (binP false .eql (pd ls 1) (eI 12)) fun v165 =>
 obind (
 oif v165 (
 some (.inl [(pd ls 0), (pd ls 1), v165, (pd ls 1), (pd ls 2), (pd ls 3), (pd ls 4), (pd ls 5), (pd ls 6), (pd ls 7)])
) (
 obind (binP false .eql (pd ls 1) (eI 13)) fun v166 =>
 some (.inl [(pd ls 0), (pd ls 1), v166, (pd ls 1), (pd ls 2), (pd ls 3), (pd ls 4), (pd ls 5), (pd ls 6), (pd ls 7)])
)
) <| jnX fun ls =>
 oif (pd ls 2) (
 some (D.tup [(D.agg [(eB true), (eI 0), (eI 0)]), (eI 0)])
) (
 obind (binP false .eql (pd ls 1) (eI 17)) fun v169 =>
 oif v169 (
 obind (ixP 4 (pd ls 6) (eI 1)) fun c172 =>
 obind (atP true 4 0 c172) fun v173 =>
 og (aggP 4 v173) <|
 obind (binP false .neq (celD v173 0) (eI 1)) fun v176 =>
 obind (gD v176 false (
 obind (binP false .lss (celD v173 1) (eI 1)) fun v180 =>
 some v180
)) fun v180 =>
 obind (pickP v176 (eB true) v180) fun v181 =>
 oif v181 (
 some (D.tup [(D.agg [(eB false), (eI 0), (eI 0)]), (eI 2)])
) (
 obind (ixP 4 (pd ls 6) (eI 1)) fun c185 =>
 obind (atP false 1 1 c185) fun v187 =>
 obind (binP false .sub v187 (eI 1)) fun v188 =>
 obind (terms_spanL n [(eI 0), v188]) fun v189 =>
 obind (extP 0 v189) fun v190 =>
 obind (extP 1 v189) fun v191 =>
 og (aggP 3 v190) <|
 some (D.tup [(D.agg [(celD v190 0), (celD v190 1), (celD v190 2)]), v191])
)
) (
 obind (ixP 3 (pd ls 0) (eI 0)) fun c156 =>
 obind (atP true 3 0 c156) fun v157 =>
 obind (ixP 3 (pd ls 0) (eI 1)) fun c159 =>
 obind (atP true 3 0 c159) fun v160 =>
 obind (terms_reckonedL n [(pd ls 3), v157, v160]) fun v161 =>
 obind (extP 0 v161) fun v162 =>
 obind (extP 1 v161) fun v163 =>
 og (aggP 3 v162) <|
 some (D.tup [(D.agg [(celD v162 0), (celD v162 1), (celD v162 2)]), v163])
)
)
)

def terms_partL (n : Nat) : List D → Option D
  | [a0, a1, a2, a3, a4] => terms_part n a0 a1 a2 a3 a4
  | _ => none
def terms_typed_l3 (r_terms_typed : List D → Option D) (n : Nat) (ls : List D) : Option (List D ⊕ (List D ⊕ D)) :=
 obind (binP false .lss (pd ls 5) (pd ls 4)) fun v19 =>
 oif v19 (
 obind (ixP 4 (pd ls 3) (pd ls 5)) fun c20 =>
 obind (atP true 4 0 c20) fun v21 =>
 og (aggP 4 v21) <|
 obind (r_terms_typed [(pd ls 0), (pd ls 1), (D.agg [(celD v21 0), (celD v21 1), (celD v21 2), (celD v21 3)]), (pd ls 2)]) fun v27 =>
 obind (extP 0 v27) fun v28 =>
 obind (extP 1 v27) fun v29 =>
 og (aggP 3 v28) <|
 obind (binP false .neq v29 (eI 0)) fun v31 =>
 oif v31 (
 inrX (
 inrX (
 some (D.tup [(D.agg [(eB false), (eI 0), (eI 0)]), v29])
)
)
) (
 og (aggP 3 (D.agg [(celD v28 0), (celD v28 1), (celD v28 2)])) <|
 og (roomP (((esD (pd ls 13))).length + ([[(celD v28 0), (celD v28 1), (celD v28 2)]]).length) 24) <|
 obind (binP false .add (pd ls 5) (eI 1)) fun v38 =>
 some (.inl [(pd ls 0), (pd ls 1), (pd ls 2), (pd ls 3), (pd ls 4), v38, (pd ls 6), (pd ls 7), (pd ls 8), (pd ls 9), (pd ls 10), (pd ls 11), (pd ls 12), (D.sl 3 ((esD (pd ls 13)) ++ [[(celD v28 0), (celD v28 1), (celD v28 2)]]))])
)
) (
 inrX (
 some (.inl [(pd ls 0), (pd ls 1), (pd ls 2), (pd ls 6), (pd ls 7), (pd ls 8), (pd ls 9), (pd ls 10), (pd ls 11), (pd ls 12), (D.sl 3 (esD (pd ls 13)))])
)
)

def terms_typed (r_terms_typed : List D → Option D) (n : Nat) (a0 : D) (a1 : D) (a2 : D) (a3 : D) : Option D :=
 og (aggP 4 a2) <|
 obind (lenP (celD a2 3)) fun v17 =>
 obind (
 iterL (terms_typed_l3 r_terms_typed n) n [a0, a1, a3, (celD a2 3), v17, (eI 0), (celD a2 0), (celD a2 1), (celD a2 2), (celD a2 3), (eB false), (eI 0), (eI 0), (D.sl 3 [])]
) <| jnX fun ls =>
 obind (terms_partL n [(pd ls 0), (pd ls 1), (D.agg [(pd ls 3), (pd ls 4), (pd ls 5), (pd ls 6)]), (pd ls 2), (D.sl 3 (esD (pd ls 10)))]) fun v44 =>
 og v44.flat <|
 obind (extP 0 v44) fun v45 =>
 obind (extP 1 v44) fun v46 =>
 og (aggP 3 v45) <|
 some (D.tup [(D.agg [(celD v45 0), (celD v45 1), (celD v45 2)]), v46])

def terms_typedL : Nat → List D → Option D
  | 0, _ => none
  | n + 1, ds => match ds with
    | [a0, a1, a2, a3] => terms_typed (terms_typedL n) n a0 a1 a2 a3
    | _ => none
def terms_Type (n : Nat) (a0 : D) (a1 : D) (a2 : D) : Option D :=
 og (aggP 4 a1) <|
 obind (terms_CheckL n [(D.agg [(celD a1 0), (celD a1 1), (celD a1 2), (celD a1 3)])]) fun v10 =>
 obind (binP false .neq v10 (eI 0)) fun v12 =>
 oif v12 (
 some (D.tup [(D.agg [(eB false), (eI 0), (eI 0)]), v10])
) (
 obind (terms_namesL n [a0]) fun v17 =>
 obind (terms_typedL n [a0, v17, (D.agg [(celD a1 0), (celD a1 1), (celD a1 2), (celD a1 3)]), a2]) fun v20 =>
 obind (extP 0 v20) fun v21 =>
 obind (extP 1 v20) fun v22 =>
 og (aggP 3 v21) <|
 some (D.tup [(D.agg [(celD v21 0), (celD v21 1), (celD v21 2)]), v22])
)

def terms_TypeL (n : Nat) : List D → Option D
  | [a0, a1, a2] => terms_Type n a0 a1 a2
  | _ => none
def terms_truth (n : Nat) (a0 : D) : Option D :=
 oif a0 (
 some (D.tup [(eI 1), (eB true)])
) (
 some (D.tup [(eI 0), (eB true)])
)

def terms_truthL (n : Nat) : List D → Option D
  | [a0] => terms_truth n a0
  | _ => none
def num_held (n : Nat) (a0 : D) (a1 : D) : Option D :=
 obind (unP .not a1) fun v7 =>
 obind (gD v7 false (
 obind (binP false .lss a0 (eI (-9007199254740992))) fun v10 =>
 some v10
)) fun v10 =>
 obind (pickP v7 (eB true) v10) fun v11 =>
 obind (gD v11 false (
 obind (binP false .gtr a0 (eI 9007199254740992)) fun v14 =>
 some v14
)) fun v14 =>
 obind (pickP v11 (eB true) v14) fun v15 =>
 oif v15 (
 some (D.tup [(eI 0), (eB false)])
) (
 some (D.tup [a0, (eB true)])
)

def num_heldL (n : Nat) : List D → Option D
  | [a0, a1] => num_held n a0 a1
  | _ => none
def num_Add (n : Nat) (a0 : D) (a1 : D) : Option D :=
 obind (binP false .add a0 a1) fun v8 =>
 obind (binP false .lss a0 (eI 0)) fun v11 =>
 obind (binP false .lss a1 (eI 0)) fun v13 =>
 obind (binP true .neq v11 v13) fun v14 =>
 obind (gD v14 false (
 obind (binP false .lss a0 (eI 0)) fun v17 =>
 obind (binP false .lss v8 (eI 0)) fun v19 =>
 obind (binP true .eql v17 v19) fun v20 =>
 some v20
)) fun v20 =>
 obind (pickP v14 (eB true) v20) fun v21 =>
 obind (num_heldL n [v8, v21]) fun v22 =>
 obind (extP 0 v22) fun v23 =>
 obind (extP 1 v22) fun v24 =>
 some (D.tup [v23, v24])

def num_AddL (n : Nat) : List D → Option D
  | [a0, a1] => num_Add n a0 a1
  | _ => none
def num_size (n : Nat) (a0 : D) : Option D :=
 obind (binP false .lss a0 (eI 0)) fun v4 =>
 oif v4 (
 obind (cvP .u64 a0) fun v6 =>
 obind (unP .neg v6) fun v7 =>
 some v7
) (
 obind (cvP .u64 a0) fun v9 =>
 some v9
)

def num_sizeL (n : Nat) : List D → Option D
  | [a0] => num_size n a0
  | _ => none
def math_bits_Mul64 (n : Nat) (a0 : D) (a1 : D) : Option D :=
 obind (binP false .and a0 (D.val (.int .u64 4294967295))) fun v15 =>
 obind (binP false .shr a0 (D.val (.int .u64 32))) fun v17 =>
 obind (binP false .and a1 (D.val (.int .u64 4294967295))) fun v19 =>
 obind (binP false .shr a1 (D.val (.int .u64 32))) fun v21 =>
 obind (binP false .mul v15 v19) fun v24 =>
 obind (binP false .mul v17 v19) fun v27 =>
 obind (binP false .shr v24 (D.val (.int .u64 32))) fun v29 =>
 obind (binP false .add v27 v29) fun v30 =>
 obind (binP false .and v30 (D.val (.int .u64 4294967295))) fun v32 =>
 obind (binP false .shr v30 (D.val (.int .u64 32))) fun v34 =>
 obind (binP false .mul v15 v21) fun v38 =>
 obind (binP false .add v32 v38) fun v39 =>
 obind (binP false .mul v17 v21) fun v42 =>
 obind (binP false .add v42 v34) fun v44 =>
 obind (binP false .shr v39 (D.val (.int .u64 32))) fun v46 =>
 obind (binP false .add v44 v46) fun v47 =>
 obind (binP false .mul a0 a1) fun v50 =>
 some (D.tup [v47, v50])

def math_bits_Mul64L (n : Nat) : List D → Option D
  | [a0, a1] => math_bits_Mul64 n a0 a1
  | _ => none
def num_Mul (n : Nat) (a0 : D) (a1 : D) : Option D :=
 obind (num_sizeL n [a0]) fun v10 =>
 obind (num_sizeL n [a1]) fun v12 =>
 obind (math_bits_Mul64L n [v10, v12]) fun v13 =>
 obind (extP 0 v13) fun v14 =>
 obind (extP 1 v13) fun v15 =>
 obind (binP false .neq v14 (D.val (.int .u64 0))) fun v17 =>
 obind (gD v17 false (
 obind (binP false .gtr v15 (D.val (.int .u64 9007199254740992))) fun v20 =>
 some v20
)) fun v20 =>
 obind (pickP v17 (eB true) v20) fun v21 =>
 oif v21 (
 some (D.tup [(eI 0), (eB false)])
) (
 obind (binP false .lss a0 (eI 0)) fun v23 =>
 obind (binP false .lss a1 (eI 0)) fun v25 =>
 obind (binP true .neq v23 v25) fun v26 =>
 oif v26 (
 obind (cvP .i64 v15) fun v28 =>
 obind (unP .neg v28) fun v29 =>
 some (D.tup [v29, (eB true)])
) (
 obind (cvP .i64 v15) fun v31 =>
 some (D.tup [v31, (eB true)])
)
)

def num_MulL (n : Nat) : List D → Option D
  | [a0, a1] => num_Mul n a0 a1
  | _ => none
def terms_joined_l29 (n : Nat) (ls : List D) : Option (List D ⊕ (List D ⊕ D)) :=
 obind (binP false .lss (pd ls 4) (pd ls 3)) fun v150 =>
 oif v150 (
 obind (ixP 1 (pd ls 2) (pd ls 4)) fun c151 =>
 obind (atP false 1 0 c151) fun v152 =>
 obind (binP false .add (pd ls 1) v152) fun v155 =>
 obind (binP false .add (pd ls 4) (eI 1)) fun v156 =>
 some (.inl [(pd ls 0), v155, (pd ls 2), (pd ls 3), v156, (pd ls 5), (pd ls 6), (pd ls 7), (pd ls 8)])
) (
 inrX (
 some (.inl [(pd ls 0), (pd ls 1), (pd ls 5), (pd ls 6), (pd ls 7), (pd ls 8)])
)
)

def terms_joined (n : Nat) (a0 : D) (a1 : D) : Option D :=
 og (aggP 4 a0) <|
 obind (binP false .eql (celD a0 0) (eI 5)) fun v12 =>
 oif v12 (
 obind (ixP 1 a1 (eI 0)) fun c14 =>
 obind (atP false 1 0 c14) fun v15 =>
 obind (binP false .eql v15 (eI 0)) fun v16 =>
 obind (terms_truthL n [v16]) fun v17 =>
 obind (extP 0 v17) fun v18 =>
 obind (extP 1 v17) fun v19 =>
 some (D.tup [v18, v19])
) (
 obind (binP false .eql (celD a0 0) (eI 8)) fun v21 =>
 oif v21 (
 obind (ixP 1 a1 (eI 0)) fun c23 =>
 obind (atP false 1 0 c23) fun v24 =>
 obind (binP false .eql v24 (eI 0)) fun v25 =>
 obind (gD v25 false (
 obind (ixP 1 a1 (eI 1)) fun c28 =>
 obind (atP false 1 0 c28) fun v29 =>
 obind (binP false .neq v29 (eI 0)) fun v30 =>
 some v30
)) fun v30 =>
 obind (pickP v25 (eB true) v30) fun v31 =>
 obind (terms_truthL n [v31]) fun v32 =>
 obind (extP 0 v32) fun v33 =>
 obind (extP 1 v32) fun v34 =>
 some (D.tup [v33, v34])
) (
 obind (binP false .eql (celD a0 0) (eI 9)) fun v36 =>
 obind (
 oif v36 (
 some (.inl [a1, (celD a0 0), v36, (celD a0 0), (celD a0 1), (celD a0 2), (celD a0 3)])
) (
 obind (binP false .eql (celD a0 0) (eI 10)) fun v37 =>
 some (.inl [a1, (celD a0 0), v37, (celD a0 0), (celD a0 1), (celD a0 2), (celD a0 3)])
)
) <| jnX fun ls =>
 oif (pd ls 2) (
 obind (ixP 1 (pd ls 0) (eI 0)) fun c39 =>
 obind (atP false 1 0 c39) fun v40 =>
 obind (ixP 1 (pd ls 0) (eI 1)) fun c42 =>
 obind (atP false 1 0 c42) fun v43 =>
 obind (binP false .eql v40 v43) fun v44 =>
 obind (terms_truthL n [v44]) fun v45 =>
 obind (extP 0 v45) fun v46 =>
 obind (extP 1 v45) fun v47 =>
 some (D.tup [v46, v47])
) (
 obind (binP false .eql (pd ls 1) (eI 11)) fun v49 =>
 oif v49 (
 obind (ixP 1 (pd ls 0) (eI 0)) fun c51 =>
 obind (atP false 1 0 c51) fun v52 =>
 obind (ixP 1 (pd ls 0) (eI 1)) fun c54 =>
 obind (atP false 1 0 c54) fun v55 =>
 obind (binP false .neq v52 v55) fun v56 =>
 obind (terms_truthL n [v56]) fun v57 =>
 obind (extP 0 v57) fun v58 =>
 obind (extP 1 v57) fun v59 =>
 some (D.tup [v58, v59])
) (
 obind (binP false .eql (pd ls 1) (eI 12)) fun v61 =>
 oif v61 (
 obind (ixP 1 (pd ls 0) (eI 0)) fun c63 =>
 obind (atP false 1 0 c63) fun v64 =>
 obind (ixP 1 (pd ls 0) (eI 1)) fun c66 =>
 obind (atP false 1 0 c66) fun v67 =>
 obind (binP false .lss v64 v67) fun v68 =>
 obind (terms_truthL n [v68]) fun v69 =>
 obind (extP 0 v69) fun v70 =>
 obind (extP 1 v69) fun v71 =>
 some (D.tup [v70, v71])
) (
 obind (binP false .eql (pd ls 1) (eI 13)) fun v73 =>
 oif v73 (
 obind (ixP 1 (pd ls 0) (eI 0)) fun c75 =>
 obind (atP false 1 0 c75) fun v76 =>
 obind (ixP 1 (pd ls 0) (eI 1)) fun c78 =>
 obind (atP false 1 0 c78) fun v79 =>
 obind (binP false .leq v76 v79) fun v80 =>
 obind (terms_truthL n [v80]) fun v81 =>
 obind (extP 0 v81) fun v82 =>
 obind (extP 1 v81) fun v83 =>
 some (D.tup [v82, v83])
) (
 obind (binP false .eql (pd ls 1) (eI 14)) fun v85 =>
 oif v85 (
 obind (ixP 1 (pd ls 0) (eI 0)) fun c87 =>
 obind (atP false 1 0 c87) fun v88 =>
 obind (ixP 1 (pd ls 0) (eI 1)) fun c90 =>
 obind (atP false 1 0 c90) fun v91 =>
 obind (num_AddL n [v88, v91]) fun v92 =>
 obind (extP 0 v92) fun v93 =>
 obind (extP 1 v92) fun v94 =>
 some (D.tup [v93, v94])
) (
 obind (binP false .eql (pd ls 1) (eI 15)) fun v96 =>
 oif v96 (
 obind (ixP 1 (pd ls 0) (eI 0)) fun c98 =>
 obind (atP false 1 0 c98) fun v99 =>
 obind (ixP 1 (pd ls 0) (eI 1)) fun c101 =>
 obind (atP false 1 0 c101) fun v102 =>
 obind (unP .neg v102) fun v103 =>
 obind (num_AddL n [v99, v103]) fun v104 =>
 obind (extP 0 v104) fun v105 =>
 obind (extP 1 v104) fun v106 =>
 some (D.tup [v105, v106])
) (
 obind (binP false .eql (pd ls 1) (eI 16)) fun v108 =>
 oif v108 (
 obind (ixP 1 (pd ls 0) (eI 0)) fun c110 =>
 obind (atP false 1 0 c110) fun v111 =>
 obind (ixP 1 (pd ls 0) (eI 1)) fun c113 =>
 obind (atP false 1 0 c113) fun v114 =>
 obind (num_MulL n [v111, v114]) fun v115 =>
 obind (extP 0 v115) fun v116 =>
 obind (extP 1 v115) fun v117 =>
 some (D.tup [v116, v117])
) (
 obind (binP false .eql (pd ls 1) (eI 17)) fun v119 =>
 oif v119 (
 obind (ixP 1 (pd ls 0) (eI 0)) fun c121 =>
 obind (atP false 1 0 c121) fun v122 =>
 obind (ixP 1 (pd ls 0) (eI 1)) fun c124 =>
 obind (atP false 1 0 c124) fun v125 =>
 obind (binP false .rem v122 v125) fun v126 =>
 obind (ixP 1 (pd ls 0) (eI 1)) fun c128 =>
 obind (atP false 1 0 c128) fun v129 =>
 obind (binP false .add v126 v129) fun v130 =>
 obind (ixP 1 (pd ls 0) (eI 1)) fun c132 =>
 obind (atP false 1 0 c132) fun v133 =>
 obind (binP false .rem v130 v133) fun v134 =>
 some (D.tup [v134, (eB true)])
) (
 obind (binP false .eql (pd ls 1) (eI 18)) fun v136 =>
 oif v136 (
 obind (ixP 1 (pd ls 0) (eI 0)) fun c138 =>
 obind (atP false 1 0 c138) fun v139 =>
 obind (binP false .neq v139 (eI 0)) fun v140 =>
 oif v140 (
 obind (ixP 1 (pd ls 0) (eI 1)) fun c142 =>
 obind (atP false 1 0 c142) fun v143 =>
 some (D.tup [v143, (eB true)])
) (
 obind (ixP 1 (pd ls 0) (eI 2)) fun c145 =>
 obind (atP false 1 0 c145) fun v146 =>
 some (D.tup [v146, (eB true)])
)
) (
 obind (lenP (pd ls 0)) fun v148 =>
 obind (
 iterL (terms_joined_l29 n) n [(pd ls 0), (eI 0), (pd ls 0), v148, (eI 0), (pd ls 3), (pd ls 4), (pd ls 5), (pd ls 6)]
) <| jnX fun ls =>
 obind (lenP (pd ls 0)) fun v159 =>
 obind (binP false .eql (pd ls 1) v159) fun v160 =>
 obind (gD v160 false (
 obind (binP false .eql (pd ls 2) (eI 7)) fun v164 =>
 some v164
)) fun v165 =>
 obind (gD v165 true (
 obind (binP false .gtr (pd ls 1) (eI 0)) fun v167 =>
 some v167
)) fun v167 =>
 obind (gD v160 false (
 obind (pickP v165 v167 (eB false)) fun v168 =>
 some v168
)) fun v168 =>
 obind (pickP v160 (eB true) v168) fun v169 =>
 obind (terms_truthL n [v169]) fun v170 =>
 obind (extP 0 v170) fun v171 =>
 obind (extP 1 v170) fun v172 =>
 some (D.tup [v171, v172])
)
)
)
)
)
)
)
)
)
)
)

def terms_joinedL (n : Nat) : List D → Option D
  | [a0, a1] => terms_joined n a0 a1
  | _ => none
def terms_Eval_1_h_l3 (r_terms_Eval_1_h : List D → Option (List D)) (n : Nat) (ls : List D) : Option (List D ⊕ (List D ⊕ (List D))) :=
 obind (binP false .lss (pd ls 2) (pd ls 1)) fun v20 =>
 oif v20 (
 obind (ixP 4 (pd ls 0) (pd ls 2)) fun c21 =>
 obind (atP true 4 0 c21) fun v22 =>
 og (aggP 4 v22) <|
 obind (r_terms_Eval_1_h [(D.agg [(celD v22 0), (celD v22 1), (celD v22 2), (celD v22 3)]), (pd ls 3), (pd ls 4), (pd ls 5), (pd ls 6)]) fun h2 =>
 obind (extP 0 (pd h2 0)) fun v27 =>
 obind (extP 1 (pd h2 0)) fun v28 =>
 obind (unP .not v28) fun v30 =>
 oif v30 (
 inrX (
 inrX (
 some [(D.tup [(eI 0), (eB false)]), (pd h2 1), (pd h2 2), (pd h2 3), (pd h2 4)]
)
)
) (
 og (oneP v27) <|
 og (roomP (((esD (pd ls 11))).length + ([[v27]]).length) 8) <|
 obind (binP false .add (pd ls 2) (eI 1)) fun v35 =>
 some (.inl [(pd ls 0), (pd ls 1), v35, (pd h2 1), (pd h2 2), (pd h2 3), (pd h2 4), (pd ls 7), (pd ls 8), (pd ls 9), (pd ls 10), (D.sl 1 ((esD (pd ls 11)) ++ [[v27]]))])
)
) (
 inrX (
 some (.inl [(pd ls 3), (pd ls 4), (pd ls 5), (pd ls 6), (pd ls 7), (pd ls 8), (pd ls 9), (pd ls 10), (D.sl 1 (esD (pd ls 11)))])
)
)

def terms_Eval_1_h (r_terms_Eval_1_h : List D → Option (List D)) (n : Nat) (ls : List D) : Option (List D) :=
 og (aggP 4 (pd ls 0)) <|
 obind (lenP (celD (pd ls 0) 3)) fun v18 =>
 obind (
 iterL (terms_Eval_1_h_l3 r_terms_Eval_1_h n) n [(celD (pd ls 0) 3), v18, (eI 0), (pd ls 1), (pd ls 2), (pd ls 3), (pd ls 4), (celD (pd ls 0) 0), (celD (pd ls 0) 1), (celD (pd ls 0) 2), (celD (pd ls 0) 3), (D.sl 1 [])]
) <| jnX fun ls =>
 obind (binP false .eql (pd ls 4) (eI 1)) fun v44 =>
 obind (
 oif v44 (
 some (.inl [(pd ls 4), v44, (pd ls 0), (pd ls 1), (pd ls 2), (pd ls 3), (pd ls 4), (pd ls 5), (pd ls 6), (pd ls 7), (D.sl 1 (esD (pd ls 8)))])
) (
 obind (binP false .eql (pd ls 4) (eI 2)) fun v45 =>
 some (.inl [(pd ls 4), v45, (pd ls 0), (pd ls 1), (pd ls 2), (pd ls 3), (pd ls 4), (pd ls 5), (pd ls 6), (pd ls 7), (D.sl 1 (esD (pd ls 8)))])
)
) <| jnX fun ls =>
 oif (pd ls 1) (
 some [(D.tup [(pd ls 7), (eB true)]), (pd ls 2), (pd ls 3), (pd ls 4), (pd ls 5)]
) (
 obind (binP false .eql (pd ls 0) (eI 3)) fun v49 =>
 obind (
 oif v49 (
 some (.inl [v49, (pd ls 2), (pd ls 3), (pd ls 4), (pd ls 5), (pd ls 6), (pd ls 7), (pd ls 8), (pd ls 9), (D.sl 1 (esD (pd ls 10)))])
) (
 obind (binP false .eql (pd ls 0) (eI 4)) fun v50 =>
 some (.inl [v50, (pd ls 2), (pd ls 3), (pd ls 4), (pd ls 5), (pd ls 6), (pd ls 7), (pd ls 8), (pd ls 9), (D.sl 1 (esD (pd ls 10)))])
)
) <| jnX fun ls =>
 oif (pd ls 0) (
 obind (entP (pd ls 2)) fun es55 =>
 obind (lookP (.string) (.int .i64 0) false es55 (pd ls 7)) fun v55 =>
 obind (binP false .eql (pd ls 5) (eI 4)) fun v58 =>
 obind (
 oif v58 (
 some (.inl [(pd ls 3), v55, (pd ls 4), (pd ls 1), (pd ls 2), (pd ls 3)])
) (
 some (.inl [(pd ls 1), v55, (pd ls 4), (pd ls 1), (pd ls 2), (pd ls 3)])
)
) <| jnX fun ls =>
 obind (lenP (pd ls 0)) fun v61 =>
 obind (lenP (pd ls 2)) fun v63 =>
 obind (binP false .neq v61 v63) fun v64 =>
 oif v64 (
 some [(D.tup [(eI 0), (eB false)]), (pd ls 3), (pd ls 4), (pd ls 5), (pd ls 2)]
) (
 obind (ixP 4 (pd ls 2) (pd ls 1)) fun c67 =>
 obind (atP false 1 1 c67) fun v69 =>
 oif v69 (
 obind (ixP 1 (pd ls 0) (pd ls 1)) fun c72 =>
 obind (atP false 1 0 c72) fun v73 =>
 obind (binP false .neq v73 (eI 0)) fun v74 =>
 obind (terms_truthL n [v74]) fun v75 =>
 obind (extP 0 v75) fun v76 =>
 obind (extP 1 v75) fun v77 =>
 some [(D.tup [v76, v77]), (pd ls 3), (pd ls 4), (pd ls 5), (pd ls 2)]
) (
 obind (ixP 1 (pd ls 0) (pd ls 1)) fun c80 =>
 obind (atP false 1 0 c80) fun v81 =>
 obind (num_AddL n [v81, (eI 0)]) fun v82 =>
 obind (extP 0 v82) fun v83 =>
 obind (extP 1 v82) fun v84 =>
 some [(D.tup [v83, v84]), (pd ls 3), (pd ls 4), (pd ls 5), (pd ls 2)]
)
)
) (
 obind (terms_joinedL n [(D.agg [(pd ls 5), (pd ls 6), (pd ls 7), (pd ls 8)]), (D.sl 1 (esD (pd ls 9)))]) fun v40 =>
 og v40.flat <|
 obind (extP 0 v40) fun v41 =>
 obind (extP 1 v40) fun v42 =>
 some [(D.tup [v41, v42]), (pd ls 1), (pd ls 2), (pd ls 3), (pd ls 4)]
)
)

def terms_Eval_1_hL : Nat → List D → Option (List D)
  | 0, _ => none
  | n + 1, ls => terms_Eval_1_h (terms_Eval_1_hL n) n ls
def terms_Eval (n : Nat) (a0 : D) (a1 : D) (a2 : D) (a3 : D) : Option D :=
 og (oneP a0) <|
 og (aggP 4 a1) <|
 og (oneP a2) <|
 og (oneP a3) <|
 obind (terms_TypeL n [a0, (D.agg [(celD a1 0), (celD a1 1), (celD a1 2), (celD a1 3)]), (eB true)]) fun v17 =>
 obind (extP 0 v17) fun v18 =>
 obind (extP 1 v17) fun v19 =>
 og (aggP 3 v18) <|
 obind (binP false .neq v19 (eI 0)) fun v21 =>
 obind (gD v21 false (
 obind (lenP a2) fun v24 =>
 obind (lenP a0) fun v26 =>
 obind (binP false .neq v24 v26) fun v27 =>
 some v27
)) fun v27 =>
 obind (pickP v21 (eB true) v27) fun v28 =>
 oif v28 (
 some (D.tup [(eI 0), (eB false)])
) (
 obind (terms_namesL n [a0]) fun v30 =>
 og (oneP v30) <|
 obind (terms_Eval_1_hL n [(D.agg [(celD a1 0), (celD a1 1), (celD a1 2), (celD a1 3)]), a2, v30, a3, a0]) fun h1 =>
 obind (extP 0 (pd h1 0)) fun v35 =>
 obind (extP 1 (pd h1 0)) fun v36 =>
 some (D.tup [v35, v36])
)

def terms_EvalL (n : Nat) : List D → Option D
  | [a0, a1, a2, a3] => terms_Eval n a0 a1 a2 a3
  | _ => none
def ref30_Index_l2 (n : Nat) (ls : List D) : Option (List D ⊕ (List D ⊕ D)) :=
 obind (lenP (pd ls 0)) fun v8 =>
 obind (binP false .lss (pd ls 2) v8) fun v9 =>
 oif v9 (
 obind (ixP 4 (pd ls 0) (pd ls 2)) fun c14 =>
 obind (atP false 1 0 c14) fun v16 =>
 obind (binP false .eql v16 (pd ls 1)) fun v18 =>
 oif v18 (
 inrX (
 inrX (
 some (pd ls 2)
)
)
) (
 obind (binP false .add (pd ls 2) (eI 1)) fun v11 =>
 some (.inl [(pd ls 0), (pd ls 1), v11])
)
) (
 inrX (
 some (.inl [])
)
)

def ref30_Index (n : Nat) (a0 : D) (a1 : D) : Option D :=
 obind (
 iterL (ref30_Index_l2 n) n [a0, a1, (eI 0)]
) <| jnX fun ls =>
 some (eI (-1))

def ref30_IndexL (n : Nat) : List D → Option D
  | [a0, a1] => ref30_Index n a0 a1
  | _ => none
def law35_DefsMeans_l5 (n : Nat) (ls : List D) : Option (List D ⊕ (List D ⊕ D)) :=
 obind (lenP (pd ls 1)) fun v57 =>
 obind (binP false .lss (pd ls 3) v57) fun v58 =>
 oif v58 (
 obind (ixP 5 (pd ls 1) (pd ls 3)) fun c64 =>
 obind (atP false 1 0 c64) fun v66 =>
 obind (law35_nameL n [v66]) fun v67 =>
 obind (defs_InlineL n [v67, (pd ls 1)]) fun v69 =>
 obind (extP 0 v69) fun v70 =>
 obind (extP 1 v69) fun v71 =>
 og (aggP 4 v70) <|
 obind (terms_TypeL n [(pd ls 0), (D.agg [(celD v70 0), (celD v70 1), (celD v70 2), (celD v70 3)]), (eB false)]) fun v75 =>
 obind (extP 0 v75) fun v76 =>
 obind (extP 1 v75) fun v77 =>
 og (aggP 3 v76) <|
 obind (terms_EvalL n [(pd ls 0), (D.agg [(celD v70 0), (celD v70 1), (celD v70 2), (celD v70 3)]), (pd ls 2), (D.val (.slice none 0 0))]) fun v82 =>
 obind (extP 0 v82) fun v83 =>
 obind (extP 1 v82) fun v84 =>
 obind (binP false .neq v71 (eI 0)) fun v86 =>
 obind (gD v86 false (
 obind (binP false .neq v77 (eI 0)) fun v89 =>
 some v89
)) fun v89 =>
 obind (pickP v86 (eB true) v89) fun v90 =>
 obind (gD v90 false (
 obind (unP .not v84) fun v93 =>
 some v93
)) fun v93 =>
 obind (pickP v90 (eB true) v93) fun v94 =>
 obind (gD v94 false (
 obind (ixP 5 (pd ls 1) (pd ls 3)) fun c99 =>
 obind (atP false 1 0 c99) fun v101 =>
 obind (ref30_IndexL n [(pd ls 0), v101]) fun v102 =>
 obind (binP false .geq v102 (eI 0)) fun v103 =>
 some v103
)) fun v103 =>
 obind (pickP v94 (eB true) v103) fun v104 =>
 oif v104 (
 obind (law35_livesL n []) fun v105 =>
 inrX (
 inrX (
 some v105
)
)
) (
 obind (ixP 5 (pd ls 1) (pd ls 3)) fun c109 =>
 obind (atP false 1 0 c109) fun v111 =>
 og (oneP v111) <|
 og (oneP (celD v76 0)) <|
 og (oneP (celD v76 1)) <|
 og (oneP (celD v76 2)) <|
 og (aggP 4 (D.agg [v111, (celD v76 0), (celD v76 1), (celD v76 2)])) <|
 og (roomP (((esD (pd ls 8))).length + ([[v111, (celD v76 0), (celD v76 1), (celD v76 2)]]).length) 40) <|
 og (oneP v83) <|
 og (roomP (((esD (pd ls 9))).length + ([[v83]]).length) 8) <|
 obind (binP false .add (pd ls 3) (eI 1)) fun v60 =>
 some (.inl [(pd ls 0), (pd ls 1), (pd ls 2), v60, (pd ls 4), (pd ls 5), (pd ls 6), (pd ls 7), (D.sl 4 ((esD (pd ls 8)) ++ [[v111, (celD v76 0), (celD v76 1), (celD v76 2)]])), (D.sl 1 ((esD (pd ls 9)) ++ [[v83]]))])
)
) (
 inrX (
 some (.inl [(pd ls 0), (pd ls 1), (pd ls 2), (pd ls 4), (pd ls 5), (pd ls 6), (pd ls 7), (D.sl 4 (esD (pd ls 8))), (D.sl 1 (esD (pd ls 9)))])
)
)

def law35_DefsMeans (n : Nat) (a0 : D) (a1 : D) (a2 : D) (a3 : D) : Option D :=
 og (aggP 4 a1) <|
 obind (law30_LightL n [(D.agg [(celD a1 0), (celD a1 1), (celD a1 2), (celD a1 3)])]) fun v29 =>
 obind (unP .not v29) fun v30 =>
 obind (gD v30 false (
 obind (law35_fewL n [a2]) fun v33 =>
 obind (unP .not v33) fun v34 =>
 some v34
)) fun v34 =>
 obind (pickP v30 (eB true) v34) fun v35 =>
 obind (gD v35 false (
 obind (lenP a0) fun v38 =>
 obind (binP false .gtr v38 (eI 20)) fun v39 =>
 some v39
)) fun v39 =>
 obind (pickP v35 (eB true) v39) fun v40 =>
 obind (gD v40 false (
 obind (lenP a3) fun v43 =>
 obind (lenP a0) fun v45 =>
 obind (binP false .neq v43 v45) fun v46 =>
 some v46
)) fun v46 =>
 obind (pickP v40 (eB true) v46) fun v47 =>
 oif v47 (
 obind (law35_livesL n []) fun v48 =>
 some v48
) (
 obind (elP a0) fun q51 =>
 og (decide (q51.1 = 4 ∨ q51.2 = []) && decide (0 < 4)) <|
 og (roomP ((([] : List (List D))).length + (q51.2).length) 40) <|
 obind (elP a3) fun q54 =>
 og (decide (q54.1 = 1 ∨ q54.2 = []) && decide (0 < 1)) <|
 og (roomP ((([] : List (List D))).length + (q54.2).length) 8) <|
 obind (
 iterL (law35_DefsMeans_l5 n) n [a0, a2, a3, (eI 0), (celD a1 0), (celD a1 1), (celD a1 2), (celD a1 3), (D.sl 4 (([] : List (List D)) ++ q51.2)), (D.sl 1 (([] : List (List D)) ++ q54.2))]
) <| jnX fun ls =>
 obind (defs_InlineL n [(D.agg [(pd ls 3), (pd ls 4), (pd ls 5), (pd ls 6)]), (pd ls 1)]) fun v128 =>
 obind (extP 0 v128) fun v129 =>
 obind (extP 1 v128) fun v130 =>
 og (aggP 4 v129) <|
 obind (terms_TypeL n [(pd ls 0), (D.agg [(celD v129 0), (celD v129 1), (celD v129 2), (celD v129 3)]), (eB false)]) fun v134 =>
 obind (extP 0 v134) fun v135 =>
 obind (extP 1 v134) fun v136 =>
 og (aggP 3 v135) <|
 obind (terms_TypeL n [(D.sl 4 (esD (pd ls 7))), (D.agg [(pd ls 3), (pd ls 4), (pd ls 5), (pd ls 6)]), (eB false)]) fun v140 =>
 og v140.flat <|
 obind (extP 0 v140) fun v141 =>
 obind (extP 1 v140) fun v142 =>
 og (aggP 3 v141) <|
 obind (binP false .neq v130 (eI 0)) fun v144 =>
 obind (gD v144 false (
 obind (binP false .neq v136 (eI 0)) fun v147 =>
 some v147
)) fun v147 =>
 obind (pickP v144 (eB true) v147) fun v148 =>
 obind (gD v148 false (
 obind (binP false .neq v142 (eI 0)) fun v151 =>
 some v151
)) fun v151 =>
 obind (pickP v148 (eB true) v151) fun v152 =>
 oif v152 (
 obind (law35_livesL n []) fun v153 =>
 some v153
) (
 obind (terms_EvalL n [(pd ls 0), (D.agg [(celD v129 0), (celD v129 1), (celD v129 2), (celD v129 3)]), (pd ls 2), (D.val (.slice none 0 0))]) fun v158 =>
 obind (extP 0 v158) fun v159 =>
 obind (extP 1 v158) fun v160 =>
 obind (terms_EvalL n [(D.sl 4 (esD (pd ls 7))), (D.agg [(pd ls 3), (pd ls 4), (pd ls 5), (pd ls 6)]), (D.sl 1 (esD (pd ls 8))), (D.val (.slice none 0 0))]) fun v165 =>
 og v165.flat <|
 obind (extP 0 v165) fun v166 =>
 obind (extP 1 v165) fun v167 =>
 obind (eqvP [.bool, .int .i64, .int .i64] .eql (D.agg [(celD v135 0), (celD v135 1), (celD v135 2)]) (D.agg [(celD v141 0), (celD v141 1), (celD v141 2)])) fun v170 =>
 obind (gD v170 true (
 obind (binP true .eql v160 v167) fun v174 =>
 some v174
)) fun v174 =>
 obind (pickP v170 v174 (eB false)) fun v175 =>
 obind (gD v175 true (
 obind (binP false .eql v159 v166) fun v179 =>
 some v179
)) fun v179 =>
 obind (pickP v175 v179 (eB false)) fun v180 =>
 obind (gD v180 true (
 obind (law35_livesL n []) fun v182 =>
 some v182
)) fun v182 =>
 obind (pickP v180 v182 (eB false)) fun v183 =>
 some v183
)
)

def law35_DefsMeansL (n : Nat) : List D → Option D
  | [a0, a1, a2, a3] => law35_DefsMeans n a0 a1 a2 a3
  | _ => none
def terms_put_l2 (n : Nat) (ls : List D) : Option (List D ⊕ (List D ⊕ D)) :=
 obind (binP false .gtr (pd ls 2) (eI 0)) fun v9 =>
 obind (gD v9 true (
 obind (binP false .sub (pd ls 2) (eI 1)) fun v13 =>
 obind (ixP 1 (pd ls 0) v13) fun c14 =>
 obind (atP false 1 0 c14) fun v15 =>
 obind (binP false .gtr v15 (pd ls 1)) fun v17 =>
 some v17
)) fun v17 =>
 obind (pickP v9 v17 (eB false)) fun v18 =>
 oif v18 (
 obind (binP false .sub (pd ls 2) (eI 1)) fun v20 =>
 some (.inl [(pd ls 0), (pd ls 1), v20])
) (
 inrX (
 some (.inl [(pd ls 0), (pd ls 1), (pd ls 2)])
)
)

def terms_put (n : Nat) (a0 : D) (a1 : D) : Option D :=
 obind (lenP a0) fun v7 =>
 obind (
 iterL (terms_put_l2 n) n [a0, a1, v7]
) <| jnX fun ls =>
 obind (binP false .gtr (pd ls 2) (eI 0)) fun v22 =>
 obind (gD v22 true (
 obind (binP false .sub (pd ls 2) (eI 1)) fun v26 =>
 obind (ixP 1 (pd ls 0) v26) fun c27 =>
 obind (atP false 1 0 c27) fun v28 =>
 obind (binP false .eql v28 (pd ls 1)) fun v30 =>
 some v30
)) fun v30 =>
 obind (pickP v22 v30 (eB false)) fun v31 =>
 oif v31 (
 some (pd ls 0)
) (
 og (nilP (pd ls 0) && roomP ([[(eS ⟨#[]⟩)]]).length 16) <|
 obind (binP false .add (pd ls 2) (eI 1)) fun v38 =>
 obind (cutP ([[(eS ⟨#[]⟩)]]).length (some v38) none) fun p39 =>
 obind (cutP ([[(eS ⟨#[]⟩)]]).length (some (pd ls 2)) none) fun p42 =>
 og (decide (p42.1 + p42.2 ≤ ([[(eS ⟨#[]⟩)]]).length)) <|
 og (decide (p39.1 + p39.2 ≤ ([[(eS ⟨#[]⟩)]]).length)) <|
 obind (numP ((([[(eS ⟨#[]⟩)]]).take p39.1 ++ ((([[(eS ⟨#[]⟩)]]).drop p42.1).take p42.2).take (min ((([[(eS ⟨#[]⟩)]]).drop p42.1).take p42.2).length p39.2) ++ ([[(eS ⟨#[]⟩)]]).drop (p39.1 + (min ((([[(eS ⟨#[]⟩)]]).drop p42.1).take p42.2).length p39.2)))).length (pd ls 2)) fun j47 =>
 og (oneP (pd ls 1)) <|
 obind (((([[(eS ⟨#[]⟩)]]).take p39.1 ++ ((([[(eS ⟨#[]⟩)]]).drop p42.1).take p42.2).take (min ((([[(eS ⟨#[]⟩)]]).drop p42.1).take p42.2).length p39.2) ++ ([[(eS ⟨#[]⟩)]]).drop (p39.1 + (min ((([[(eS ⟨#[]⟩)]]).drop p42.1).take p42.2).length p39.2))))[j47]?) fun w1 =>
 some (D.sl 1 (((([[(eS ⟨#[]⟩)]]).take p39.1 ++ ((([[(eS ⟨#[]⟩)]]).drop p42.1).take p42.2).take (min ((([[(eS ⟨#[]⟩)]]).drop p42.1).take p42.2).length p39.2) ++ ([[(eS ⟨#[]⟩)]]).drop (p39.1 + (min ((([[(eS ⟨#[]⟩)]]).drop p42.1).take p42.2).length p39.2)))).set j47 (setSegD w1 0 [(pd ls 1)])))
)

def terms_putL (n : Nat) : List D → Option D
  | [a0, a1] => terms_put n a0 a1
  | _ => none
end Go.Am
