/- The law, joined to the program. No condition. -/
import Derived.Test.YtnhjgipcepnocaaH50
set_option linter.all false
set_option linter.unnecessarySimpa false
namespace Go.Am
set_option linter.unusedVariables false
set_option linter.unusedSimpArgs false
attribute [local irreducible] og obind oif jnX iterL defs_allL defs_nextsL defs_specsL ref35_allL
theorem FlatB1 (n : Nat) (m : Md)  (i e : Int) (H1 : ref35_allL n [eTs m.init, eDs m.defs] = some (.tup [NILD, eI i, eI e])) (ne : (e != 0) = true) : ref35_FlatL n [m.d] = some (.tup [M0, .agg [eI 3, eI i], eI e]) := by
  show ref35_Flat n m.d = _
  unfold ref35_Flat
  repeat (first | refine og_eq rfl ?_ | refine oif_t ne ?_ | refine oif_f rfl ?_ | refine ob_eq H1 ?_ | refine jn_eq ?_ | refine ob_eq b_neq ?_ | refine ob_eq rfl ?_)
  first | exact jn_r | rfl
theorem FlatB2 (n : Nat) (m : Md) (X1 : List Tm) (H1 : ref35_allL n [eTs m.init, eDs m.defs] = some (.tup [eTs X1, eI 0, eI 0])) (i e : Int) (H2 : ref35_allL n [eTs m.invar, eDs m.defs] = some (.tup [NILD, eI i, eI e])) (ne : (e != 0) = true) : ref35_FlatL n [m.d] = some (.tup [M0, .agg [eI 4, eI i], eI e]) := by
  show ref35_Flat n m.d = _
  unfold ref35_Flat
  repeat (first | refine og_eq rfl ?_ | refine oif_t ne ?_ | refine oif_f rfl ?_ | refine ob_eq H1 ?_ | refine ob_eq H2 ?_ | refine jn_eq ?_ | refine ob_eq b_neq ?_ | refine ob_eq rfl ?_)
  first | exact jn_r | rfl
theorem FlatB3 (n : Nat) (m : Md) (X1 : List Tm) (H1 : ref35_allL n [eTs m.init, eDs m.defs] = some (.tup [eTs X1, eI 0, eI 0])) (X2 : List Tm) (H2 : ref35_allL n [eTs m.invar, eDs m.defs] = some (.tup [eTs X2, eI 0, eI 0])) (i e : Int) (H3 : ∀ a1 a3 a4 a6 a7 a8 a9 a10 a11 a12 a13 a14 a15 a16 a17 a18 a19 a20 a21 a22 a23 a24 a25 : D, iterL (ref35_Flat_l11 n) n [eI 0, a1, eDs m.defs, a3, a4, eDs m.next, a6, a7, a8, a9, a10, a11, a12, a13, a14, a15, a16, a17, a18, a19, a20, a21, a22, a23, a24, a25, eDs []] = some (.inr (.tup [M0, .agg [eI 5, eI i], eI e]))) (ne : (e != 0) = true) : ref35_FlatL n [m.d] = some (.tup [M0, .agg [eI 5, eI i], eI e]) := by
  show ref35_Flat n m.d = _
  unfold ref35_Flat
  repeat (first | refine og_eq rfl ?_ | refine oif_t ne ?_ | refine oif_f rfl ?_ | refine ob_eq H1 ?_ | refine ob_eq H2 ?_ | refine ob_eq (H3 _ _ _ _ _ _ _ _ _ _ _ _ _ _ _ _ _ _ _ _ _ _ _) ?_ | refine jn_eq ?_ | refine ob_eq b_neq ?_ | refine ob_eq rfl ?_)
  first | exact jn_r | rfl
theorem FlatB4 (n : Nat) (m : Md) (X1 : List Tm) (H1 : ref35_allL n [eTs m.init, eDs m.defs] = some (.tup [eTs X1, eI 0, eI 0])) (X2 : List Tm) (H2 : ref35_allL n [eTs m.invar, eDs m.defs] = some (.tup [eTs X2, eI 0, eI 0])) (X3 : List Df) (H3 : ∀ a1 a3 a4 a6 a7 a8 a9 a10 a11 a12 a13 a14 a15 a16 a17 a18 a19 a20 a21 a22 a23 a24 a25 : D, iterL (ref35_Flat_l11 n) n [eI 0, a1, eDs m.defs, a3, a4, eDs m.next, a6, a7, a8, a9, a10, a11, a12, a13, a14, a15, a16, a17, a18, a19, a20, a21, a22, a23, a24, a25, eDs []] = some (.inl [a1, eDs m.defs, a3, a4, eDs m.next, a6, a7, a8, a9, a10, a11, a12, a13, a14, a15, a16, a17, a18, a19, a20, a21, a22, a23, a24, a25, eDs X3])) (i e : Int) (H4 : ref35_allL n [eTs m.trans, eDs m.defs] = some (.tup [NILD, eI i, eI e])) (ne : (e != 0) = true) : ref35_FlatL n [m.d] = some (.tup [M0, .agg [eI 6, eI i], eI e]) := by
  show ref35_Flat n m.d = _
  unfold ref35_Flat
  repeat (first | refine og_eq rfl ?_ | refine oif_t ne ?_ | refine oif_f rfl ?_ | refine ob_eq H1 ?_ | refine ob_eq H2 ?_ | refine ob_eq H4 ?_ | refine ob_eq (H3 _ _ _ _ _ _ _ _ _ _ _ _ _ _ _ _ _ _ _ _ _ _ _) ?_ | refine jn_eq ?_ | refine ob_eq b_neq ?_ | refine ob_eq rfl ?_)
  first | exact jn_r | rfl
theorem FlatB5 (n : Nat) (m : Md) (X1 : List Tm) (H1 : ref35_allL n [eTs m.init, eDs m.defs] = some (.tup [eTs X1, eI 0, eI 0])) (X2 : List Tm) (H2 : ref35_allL n [eTs m.invar, eDs m.defs] = some (.tup [eTs X2, eI 0, eI 0])) (X3 : List Df) (H3 : ∀ a1 a3 a4 a6 a7 a8 a9 a10 a11 a12 a13 a14 a15 a16 a17 a18 a19 a20 a21 a22 a23 a24 a25 : D, iterL (ref35_Flat_l11 n) n [eI 0, a1, eDs m.defs, a3, a4, eDs m.next, a6, a7, a8, a9, a10, a11, a12, a13, a14, a15, a16, a17, a18, a19, a20, a21, a22, a23, a24, a25, eDs []] = some (.inl [a1, eDs m.defs, a3, a4, eDs m.next, a6, a7, a8, a9, a10, a11, a12, a13, a14, a15, a16, a17, a18, a19, a20, a21, a22, a23, a24, a25, eDs X3])) (X4 : List Tm) (H4 : ref35_allL n [eTs m.trans, eDs m.defs] = some (.tup [eTs X4, eI 0, eI 0])) (i e : Int) (H5 : ref35_allL n [eTs m.fair, eDs m.defs] = some (.tup [NILD, eI i, eI e])) (ne : (e != 0) = true) : ref35_FlatL n [m.d] = some (.tup [M0, .agg [eI 7, eI i], eI e]) := by
  show ref35_Flat n m.d = _
  unfold ref35_Flat
  repeat (first | refine og_eq rfl ?_ | refine oif_t ne ?_ | refine oif_f rfl ?_ | refine ob_eq H1 ?_ | refine ob_eq H2 ?_ | refine ob_eq H4 ?_ | refine ob_eq H5 ?_ | refine ob_eq (H3 _ _ _ _ _ _ _ _ _ _ _ _ _ _ _ _ _ _ _ _ _ _ _) ?_ | refine jn_eq ?_ | refine ob_eq b_neq ?_ | refine ob_eq rfl ?_)
  first | exact jn_r | rfl
theorem FlatB6 (n : Nat) (m : Md) (X1 : List Tm) (H1 : ref35_allL n [eTs m.init, eDs m.defs] = some (.tup [eTs X1, eI 0, eI 0])) (X2 : List Tm) (H2 : ref35_allL n [eTs m.invar, eDs m.defs] = some (.tup [eTs X2, eI 0, eI 0])) (X3 : List Df) (H3 : ∀ a1 a3 a4 a6 a7 a8 a9 a10 a11 a12 a13 a14 a15 a16 a17 a18 a19 a20 a21 a22 a23 a24 a25 : D, iterL (ref35_Flat_l11 n) n [eI 0, a1, eDs m.defs, a3, a4, eDs m.next, a6, a7, a8, a9, a10, a11, a12, a13, a14, a15, a16, a17, a18, a19, a20, a21, a22, a23, a24, a25, eDs []] = some (.inl [a1, eDs m.defs, a3, a4, eDs m.next, a6, a7, a8, a9, a10, a11, a12, a13, a14, a15, a16, a17, a18, a19, a20, a21, a22, a23, a24, a25, eDs X3])) (X4 : List Tm) (H4 : ref35_allL n [eTs m.trans, eDs m.defs] = some (.tup [eTs X4, eI 0, eI 0])) (X5 : List Tm) (H5 : ref35_allL n [eTs m.fair, eDs m.defs] = some (.tup [eTs X5, eI 0, eI 0])) (i e : Int) (H6 : ∀ (a1 a3 a4 a5 a6 a7 a9 a10 a11 a12 a13 a14 a15 a16 a17 a18 a19 a20 a21 a22 a23 a24 : D) (nx : List Df), iterL (ref35_Flat_l26 n) n [eI 0, a1, eDs m.defs, a3, a4, a5, a6, a7, eSps m.specs, a9, a10, a11, a12, a13, a14, a15, a16, a17, a18, a19, a20, a21, a22, a23, a24, eDs nx, eSps []] = some (.inr (.tup [M0, .agg [eI 8, eI i], eI e]))) (ne : (e != 0) = true) : ref35_FlatL n [m.d] = some (.tup [M0, .agg [eI 8, eI i], eI e]) := by
  show ref35_Flat n m.d = _
  unfold ref35_Flat
  repeat (first | refine og_eq rfl ?_ | refine oif_t ne ?_ | refine oif_f rfl ?_ | refine ob_eq H1 ?_ | refine ob_eq H2 ?_ | refine ob_eq H4 ?_ | refine ob_eq H5 ?_ | refine ob_eq (H3 _ _ _ _ _ _ _ _ _ _ _ _ _ _ _ _ _ _ _ _ _ _ _) ?_ | refine ob_eq (og_eq2 rfl (H6 _ _ _ _ _ _ _ _ _ _ _ _ _ _ _ _ _ _ _ _ _ _ _)) ?_ | refine jn_eq ?_ | refine ob_eq b_neq ?_ | refine ob_eq rfl ?_)
  first | exact jn_r | rfl
theorem FlatB7 (n : Nat) (m : Md) (X1 : List Tm) (H1 : ref35_allL n [eTs m.init, eDs m.defs] = some (.tup [eTs X1, eI 0, eI 0])) (X2 : List Tm) (H2 : ref35_allL n [eTs m.invar, eDs m.defs] = some (.tup [eTs X2, eI 0, eI 0])) (X3 : List Df) (H3 : ∀ a1 a3 a4 a6 a7 a8 a9 a10 a11 a12 a13 a14 a15 a16 a17 a18 a19 a20 a21 a22 a23 a24 a25 : D, iterL (ref35_Flat_l11 n) n [eI 0, a1, eDs m.defs, a3, a4, eDs m.next, a6, a7, a8, a9, a10, a11, a12, a13, a14, a15, a16, a17, a18, a19, a20, a21, a22, a23, a24, a25, eDs []] = some (.inl [a1, eDs m.defs, a3, a4, eDs m.next, a6, a7, a8, a9, a10, a11, a12, a13, a14, a15, a16, a17, a18, a19, a20, a21, a22, a23, a24, a25, eDs X3])) (X4 : List Tm) (H4 : ref35_allL n [eTs m.trans, eDs m.defs] = some (.tup [eTs X4, eI 0, eI 0])) (X5 : List Tm) (H5 : ref35_allL n [eTs m.fair, eDs m.defs] = some (.tup [eTs X5, eI 0, eI 0])) (X6 : List Sp) (H6 : ∀ (a1 a3 a4 a5 a6 a7 a9 a10 a11 a12 a13 a14 a15 a16 a17 a18 a19 a20 a21 a22 a23 a24 : D) (nx : List Df), iterL (ref35_Flat_l26 n) n [eI 0, a1, eDs m.defs, a3, a4, a5, a6, a7, eSps m.specs, a9, a10, a11, a12, a13, a14, a15, a16, a17, a18, a19, a20, a21, a22, a23, a24, eDs nx, eSps []] = some (.inl [a9, a10, a11, a12, a13, a14, a15, a16, a17, a18, a19, a20, a21, a22, a23, a24, eDs nx, eSps X6])) : ref35_FlatL n [m.d] = some (.tup [.agg [eVs m.vars, NILD, eTs X1, eTs X2, eDs X3, eTs X4, eTs X5, eSps X6], .agg [eI 0, eI 0], eI 0]) := by
  show ref35_Flat n m.d = _
  unfold ref35_Flat
  repeat (first | refine og_eq rfl ?_ | refine oif_f rfl ?_ | refine ob_eq H1 ?_ | refine ob_eq H2 ?_ | refine ob_eq H4 ?_ | refine ob_eq H5 ?_ | refine ob_eq (H3 _ _ _ _ _ _ _ _ _ _ _ _ _ _ _ _ _ _ _ _ _ _ _) ?_ | refine ob_eq (og_eq2 rfl (H6 _ _ _ _ _ _ _ _ _ _ _ _ _ _ _ _ _ _ _ _ _ _ _)) ?_ | refine jn_eq ?_ | refine ob_eq b_neq ?_ | refine ob_eq rfl ?_)
  first | exact jn_r | rfl
end Go.Am
