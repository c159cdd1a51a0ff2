/- The law, joined to the program. No condition. -/
import Derived.Test.YtnhjgipcepnocaaH50
set_option linter.all false
set_option linter.unnecessarySimpa false
namespace Go.Am
set_option linter.unusedVariables false
set_option linter.unusedSimpArgs false
attribute [local irreducible] og obind oif jnX iterL defs_allL defs_nextsL defs_specsL ref35_allL
theorem FlatA1 (n : Nat) (m : Md)  (i e : Int) (H1 : defs_allL n [eTs m.init, eDs m.defs] = some (.tup [NILD, eI i, eI e])) (ne : (e != 0) = true) : defs_FlatL n [m.d] = some (.tup [M0, .agg [eI 3, eI i], eI e]) := by
  show defs_Flat n m.d = _
  unfold defs_Flat
  repeat (first | refine og_eq rfl ?_ | refine oif_t ne ?_ | refine oif_f rfl ?_ | refine ob_eq H1 ?_ | refine jn_eq ?_ | refine ob_eq b_neq ?_ | refine ob_eq rfl ?_)
  rfl
theorem FlatA2 (n : Nat) (m : Md) (X1 : List Tm) (H1 : defs_allL n [eTs m.init, eDs m.defs] = some (.tup [eTs X1, eI 0, eI 0])) (i e : Int) (H2 : defs_allL n [eTs m.invar, eDs m.defs] = some (.tup [NILD, eI i, eI e])) (ne : (e != 0) = true) : defs_FlatL n [m.d] = some (.tup [M0, .agg [eI 4, eI i], eI e]) := by
  show defs_Flat n m.d = _
  unfold defs_Flat
  repeat (first | refine og_eq rfl ?_ | refine oif_t ne ?_ | refine oif_f rfl ?_ | refine ob_eq H1 ?_ | refine ob_eq H2 ?_ | refine jn_eq ?_ | refine ob_eq b_neq ?_ | refine ob_eq rfl ?_)
  rfl
theorem FlatA3 (n : Nat) (m : Md) (X1 : List Tm) (H1 : defs_allL n [eTs m.init, eDs m.defs] = some (.tup [eTs X1, eI 0, eI 0])) (X2 : List Tm) (H2 : defs_allL n [eTs m.invar, eDs m.defs] = some (.tup [eTs X2, eI 0, eI 0])) (i e : Int) (H3 : defs_nextsL n [eDs m.next, eDs m.defs] = some (.tup [NILD, eI i, eI e])) (ne : (e != 0) = true) : defs_FlatL n [m.d] = some (.tup [M0, .agg [eI 5, eI i], eI e]) := by
  show defs_Flat n m.d = _
  unfold defs_Flat
  repeat (first | refine og_eq rfl ?_ | refine oif_t ne ?_ | refine oif_f rfl ?_ | refine ob_eq H1 ?_ | refine ob_eq H2 ?_ | refine ob_eq H3 ?_ | refine jn_eq ?_ | refine ob_eq b_neq ?_ | refine ob_eq rfl ?_)
  rfl
theorem FlatA4 (n : Nat) (m : Md) (X1 : List Tm) (H1 : defs_allL n [eTs m.init, eDs m.defs] = some (.tup [eTs X1, eI 0, eI 0])) (X2 : List Tm) (H2 : defs_allL n [eTs m.invar, eDs m.defs] = some (.tup [eTs X2, eI 0, eI 0])) (X3 : List Df) (H3 : defs_nextsL n [eDs m.next, eDs m.defs] = some (.tup [eDs X3, eI 0, eI 0])) (i e : Int) (H4 : defs_allL n [eTs m.trans, eDs m.defs] = some (.tup [NILD, eI i, eI e])) (ne : (e != 0) = true) : defs_FlatL n [m.d] = some (.tup [M0, .agg [eI 6, eI i], eI e]) := by
  show defs_Flat n m.d = _
  unfold defs_Flat
  repeat (first | refine og_eq rfl ?_ | refine oif_t ne ?_ | refine oif_f rfl ?_ | refine ob_eq H1 ?_ | refine ob_eq H2 ?_ | refine ob_eq H3 ?_ | refine ob_eq H4 ?_ | refine jn_eq ?_ | refine ob_eq b_neq ?_ | refine ob_eq rfl ?_)
  rfl
theorem FlatA5 (n : Nat) (m : Md) (X1 : List Tm) (H1 : defs_allL n [eTs m.init, eDs m.defs] = some (.tup [eTs X1, eI 0, eI 0])) (X2 : List Tm) (H2 : defs_allL n [eTs m.invar, eDs m.defs] = some (.tup [eTs X2, eI 0, eI 0])) (X3 : List Df) (H3 : defs_nextsL n [eDs m.next, eDs m.defs] = some (.tup [eDs X3, eI 0, eI 0])) (X4 : List Tm) (H4 : defs_allL n [eTs m.trans, eDs m.defs] = some (.tup [eTs X4, eI 0, eI 0])) (i e : Int) (H5 : defs_allL n [eTs m.fair, eDs m.defs] = some (.tup [NILD, eI i, eI e])) (ne : (e != 0) = true) : defs_FlatL n [m.d] = some (.tup [M0, .agg [eI 7, eI i], eI e]) := by
  show defs_Flat n m.d = _
  unfold defs_Flat
  repeat (first | refine og_eq rfl ?_ | refine oif_t ne ?_ | refine oif_f rfl ?_ | refine ob_eq H1 ?_ | refine ob_eq H2 ?_ | refine ob_eq H3 ?_ | refine ob_eq H4 ?_ | refine ob_eq H5 ?_ | refine jn_eq ?_ | refine ob_eq b_neq ?_ | refine ob_eq rfl ?_)
  rfl
theorem FlatA6 (n : Nat) (m : Md) (X1 : List Tm) (H1 : defs_allL n [eTs m.init, eDs m.defs] = some (.tup [eTs X1, eI 0, eI 0])) (X2 : List Tm) (H2 : defs_allL n [eTs m.invar, eDs m.defs] = some (.tup [eTs X2, eI 0, eI 0])) (X3 : List Df) (H3 : defs_nextsL n [eDs m.next, eDs m.defs] = some (.tup [eDs X3, eI 0, eI 0])) (X4 : List Tm) (H4 : defs_allL n [eTs m.trans, eDs m.defs] = some (.tup [eTs X4, eI 0, eI 0])) (X5 : List Tm) (H5 : defs_allL n [eTs m.fair, eDs m.defs] = some (.tup [eTs X5, eI 0, eI 0])) (i e : Int) (H6 : defs_specsL n [eSps m.specs, eDs m.defs] = some (.tup [NILD, eI i, eI e])) (ne : (e != 0) = true) : defs_FlatL n [m.d] = some (.tup [M0, .agg [eI 8, eI i], eI e]) := by
  show defs_Flat n m.d = _
  unfold defs_Flat
  repeat (first | refine og_eq rfl ?_ | refine oif_t ne ?_ | refine oif_f rfl ?_ | refine ob_eq H1 ?_ | refine ob_eq H2 ?_ | refine ob_eq H3 ?_ | refine ob_eq H4 ?_ | refine ob_eq H5 ?_ | refine ob_eq H6 ?_ | refine jn_eq ?_ | refine ob_eq b_neq ?_ | refine ob_eq rfl ?_)
  rfl
theorem FlatA7 (n : Nat) (m : Md) (X1 : List Tm) (H1 : defs_allL n [eTs m.init, eDs m.defs] = some (.tup [eTs X1, eI 0, eI 0])) (X2 : List Tm) (H2 : defs_allL n [eTs m.invar, eDs m.defs] = some (.tup [eTs X2, eI 0, eI 0])) (X3 : List Df) (H3 : defs_nextsL n [eDs m.next, eDs m.defs] = some (.tup [eDs X3, eI 0, eI 0])) (X4 : List Tm) (H4 : defs_allL n [eTs m.trans, eDs m.defs] = some (.tup [eTs X4, eI 0, eI 0])) (X5 : List Tm) (H5 : defs_allL n [eTs m.fair, eDs m.defs] = some (.tup [eTs X5, eI 0, eI 0])) (X6 : List Sp) (H6 : defs_specsL n [eSps m.specs, eDs m.defs] = some (.tup [eSps X6, eI 0, eI 0])) : defs_FlatL n [m.d] = some (.tup [.agg [eVs m.vars, NILD, eTs X1, eTs X2, eDs X3, eTs X4, eTs X5, eSps X6], .agg [eI 0, eI 0], eI 0]) := by
  show defs_Flat n m.d = _
  unfold defs_Flat
  repeat (first | refine og_eq rfl ?_ | refine oif_f rfl ?_ | refine ob_eq H1 ?_ | refine ob_eq H2 ?_ | refine ob_eq H3 ?_ | refine ob_eq H4 ?_ | refine ob_eq H5 ?_ | refine ob_eq H6 ?_ | refine jn_eq ?_ | refine ob_eq b_neq ?_ | refine ob_eq rfl ?_)
  rfl
end Go.Am
