/- The law, joined to the program. No condition. -/
import Derived.Test.YtnhjgipcepnocaaH2
set_option linter.all false
set_option linter.unnecessarySimpa false
namespace Go.Am
set_option linter.unusedVariables false
set_option linter.unusedSimpArgs false
structure Md where
  vars : List V
  defs : List Df
  init : List Tm
  invar : List Tm
  next : List Df
  trans : List Tm
  fair : List Tm
  specs : List Sp
def Md.d (m : Md) : D := .agg [eVs m.vars, eDs m.defs, eTs m.init, eTs m.invar, eDs m.next, eTs m.trans, eTs m.fair, eSps m.specs]
theorem eta8 (a b c d e f g h : D) : D.agg [celD (.agg [a, b, c, d, e, f, g, h]) 0, celD (.agg [a, b, c, d, e, f, g, h]) 1, celD (.agg [a, b, c, d, e, f, g, h]) 2, celD (.agg [a, b, c, d, e, f, g, h]) 3, celD (.agg [a, b, c, d, e, f, g, h]) 4, celD (.agg [a, b, c, d, e, f, g, h]) 5, celD (.agg [a, b, c, d, e, f, g, h]) 6, celD (.agg [a, b, c, d, e, f, g, h]) 7] = .agg [a, b, c, d, e, f, g, h] := rfl
section
variable (m : Md)
theorem Md.c0 : celD m.d 0 = eVs m.vars := rfl
theorem Md.c1 : celD m.d 1 = eDs m.defs := rfl
theorem Md.c2 : celD m.d 2 = eTs m.init := rfl
theorem Md.c3 : celD m.d 3 = eTs m.invar := rfl
theorem Md.c4 : celD m.d 4 = eDs m.next := rfl
theorem Md.c5 : celD m.d 5 = eTs m.trans := rfl
theorem Md.c6 : celD m.d 6 = eTs m.fair := rfl
theorem Md.c7 : celD m.d 7 = eSps m.specs := rfl
theorem Md.agg : aggP 8 m.d = true := rfl
theorem Md.eta : D.agg [eVs m.vars, eDs m.defs, eTs m.init, eTs m.invar, eDs m.next, eTs m.trans, eTs m.fair, eSps m.specs] = m.d := rfl
end
theorem one_eVs (l : List V) : (eVs l).one = true := rfl
theorem one_eDs (l : List Df) : (eDs l).one = true := rfl
theorem one_eTs (l : List Tm) : (eTs l).one = true := rfl
theorem one_eSps (l : List Sp) : (eSps l).one = true := rfl
theorem oneP_eVs (l : List V) : oneP (eVs l) = true := rfl
theorem oneP_eTs (l : List Tm) : oneP (eTs l) = true := rfl
theorem oneP_eSps (l : List Sp) : oneP (eSps l) = true := rfl
theorem terms_same (n : Nat) (hn : 302000000 < n) (xs ys : List Tm) (h : ys.length = xs.length) (hb : xs.length ≤ 1000000) (hh : ∀ (j : Nat) (a b : Tm), xs[j]? = some a → ys[j]? = some b → a.Ok ∧ b.Ok ∧ a.sz ≤ 12300 ∧ sameT a b = true) : ref35_TermsL n [eTs xs, eTs ys] = some (eB true) := by
  have e0 : (eI ((0 : Nat) : Int)) = eI 0 := rfl
  have hzl : (xs.zip ys).length = xs.length := by simp [h]
  have hl := iterL_list (f := ref35_Terms_l4 n) (xs.zip ys) (fun i (_ : Unit) => [eTs xs, eTs ys, eI (i : Int)]) (fun _ _ => (.inl [] : List D ⊕ D)) (fun _ _ => True) ?_ ?_ n 0 () trivial (by omega) (Nat.zero_le _)
  · rw [e0] at hl
    have hne : ((xs.length : Int) != (xs.length : Int)) = false := by simp
    simp only [ref35_TermsL, ref35_Terms, obind_s, og_t, oif_b, pd_0, pd_s, and_ch, or_ch, b_lss, b_leq, b_gtr, b_geq, b_eql, b_neq, s_eql, s_neq, s_lss, u_not, jnX_l, jnX_r, inrX_s, oneP_I, oneP_B, oneP_S, oneP_sl, oneP_row, oneP_nil, one_I, one_B, one_S, one_sl, one_row, one_nil, extP_tup, List.getElem?_cons_zero, List.getElem?_cons_succ, esD_sl, lenP_sl, lenP_row, lenP_nil, elP_sl, ixP_nat, Bool.and_true, Bool.true_and, Bool.and_self, if_true, if_false, Bool.not_true, Bool.not_false, Bool.false_eq_true, flat_eB, flat_eI, flat_eS, Bool.or_true, Bool.true_or, agg2, agg3, agg4, agg5, agg6, agg7, agg8, zB, zI, zS, celsD_agg, mpD_mp, eTs_len, h, hne, hl]
  · intro s _
    rw [hzl]
    simp only [ref35_Terms_l4, obind_s, og_t, oif_b, pd_0, pd_s, and_ch, or_ch, b_lss, b_leq, b_gtr, b_geq, b_eql, b_neq, s_eql, s_neq, s_lss, u_not, jnX_l, jnX_r, inrX_s, oneP_I, oneP_B, oneP_S, oneP_sl, oneP_row, oneP_nil, one_I, one_B, one_S, one_sl, one_row, one_nil, extP_tup, List.getElem?_cons_zero, List.getElem?_cons_succ, esD_sl, lenP_sl, lenP_row, lenP_nil, elP_sl, ixP_nat, Bool.and_true, Bool.true_and, Bool.and_self, if_true, if_false, Bool.not_true, Bool.not_false, Bool.false_eq_true, flat_eB, flat_eI, flat_eS, Bool.or_true, Bool.true_or, agg2, agg3, agg4, agg5, agg6, agg7, agg8, zB, zI, zS, celsD_agg, mpD_mp, eTs_len, decide_eq_false (show ¬ ((xs.length : Int) < xs.length) by omega)]
  · rintro i ⟨a, b⟩ s hx hi _
    obtain ⟨ha, hb'⟩ := zip_get hx
    rw [hzl] at hi
    obtain ⟨q1, q2, q3, q4⟩ := hh i a b ha hb'
    have hS := ref30_Same_ok n a b (by omega) q1 q2
    rw [q4] at hS
    left
    refine ⟨(), ?_, rfl, trivial⟩
    simp only [ref35_Terms_l4, obind_s, og_t, oif_b, pd_0, pd_s, and_ch, or_ch, b_lss, b_leq, b_gtr, b_geq, b_eql, b_neq, s_eql, s_neq, s_lss, u_not, jnX_l, jnX_r, inrX_s, oneP_I, oneP_B, oneP_S, oneP_sl, oneP_row, oneP_nil, one_I, one_B, one_S, one_sl, one_row, one_nil, extP_tup, List.getElem?_cons_zero, List.getElem?_cons_succ, esD_sl, lenP_sl, lenP_row, lenP_nil, elP_sl, ixP_nat, Bool.and_true, Bool.true_and, Bool.and_self, if_true, if_false, Bool.not_true, Bool.not_false, Bool.false_eq_true, flat_eB, flat_eI, flat_eS, Bool.or_true, Bool.true_or, agg2, agg3, agg4, agg5, agg6, agg7, agg8, zB, zI, zS, celsD_agg, mpD_mp, Tm.aggP_d, Tm.cel0, Tm.cel1, Tm.cel2, Tm.cel3, Tm.agg_d, Tm.atP_cells, Tm.rows_len, eTs_len, decide_eq_true (show ((i : Int) < (xs.length : Int)) by omega), eTs_ix ha, eTs_ix hb', hS, add1 (bt := false) (i := i) (by omega)]
theorem defs_same (n : Nat) (hn : 302000000 < n) (xs ys : List Df) (h : ys.length = xs.length) (hb : xs.length ≤ 1000000) (hh : ∀ (j : Nat) (a b : Df), xs[j]? = some a → ys[j]? = some b → a.name = b.name ∧ a.e.Ok ∧ b.e.Ok ∧ a.e.sz ≤ 12300 ∧ sameT a.e b.e = true) : ref35_DefsL n [eDs xs, eDs ys] = some (eB true) := by
  have e0 : (eI ((0 : Nat) : Int)) = eI 0 := rfl
  have hzl : (xs.zip ys).length = xs.length := by simp [h]
  have hl := iterL_list (f := ref35_Defs_l4 n) (xs.zip ys) (fun i (_ : Unit) => [eDs xs, eDs ys, eI (i : Int)]) (fun _ _ => (.inl [] : List D ⊕ D)) (fun _ _ => True) ?_ ?_ n 0 () trivial (by omega) (Nat.zero_le _)
  · rw [e0] at hl
    have hne : ((xs.length : Int) != (xs.length : Int)) = false := by simp
    simp only [ref35_DefsL, ref35_Defs, obind_s, og_t, oif_b, pd_0, pd_s, and_ch, or_ch, b_lss, b_leq, b_gtr, b_geq, b_eql, b_neq, s_eql, s_neq, s_lss, u_not, jnX_l, jnX_r, inrX_s, oneP_I, oneP_B, oneP_S, oneP_sl, oneP_row, oneP_nil, one_I, one_B, one_S, one_sl, one_row, one_nil, extP_tup, List.getElem?_cons_zero, List.getElem?_cons_succ, esD_sl, lenP_sl, lenP_row, lenP_nil, elP_sl, ixP_nat, Bool.and_true, Bool.true_and, Bool.and_self, if_true, if_false, Bool.not_true, Bool.not_false, Bool.false_eq_true, flat_eB, flat_eI, flat_eS, Bool.or_true, Bool.true_or, agg2, agg3, agg4, agg5, agg6, agg7, agg8, zB, zI, zS, celsD_agg, mpD_mp, eDs_len, h, hne, hl]
  · intro s _
    rw [hzl]
    simp only [ref35_Defs_l4, obind_s, og_t, oif_b, pd_0, pd_s, and_ch, or_ch, b_lss, b_leq, b_gtr, b_geq, b_eql, b_neq, s_eql, s_neq, s_lss, u_not, jnX_l, jnX_r, inrX_s, oneP_I, oneP_B, oneP_S, oneP_sl, oneP_row, oneP_nil, one_I, one_B, one_S, one_sl, one_row, one_nil, extP_tup, List.getElem?_cons_zero, List.getElem?_cons_succ, esD_sl, lenP_sl, lenP_row, lenP_nil, elP_sl, ixP_nat, Bool.and_true, Bool.true_and, Bool.and_self, if_true, if_false, Bool.not_true, Bool.not_false, Bool.false_eq_true, flat_eB, flat_eI, flat_eS, Bool.or_true, Bool.true_or, agg2, agg3, agg4, agg5, agg6, agg7, agg8, zB, zI, zS, celsD_agg, mpD_mp, eDs_len, decide_eq_false (show ¬ ((xs.length : Int) < xs.length) by omega)]
  · rintro i ⟨a, b⟩ s hx hi _
    obtain ⟨ha, hb'⟩ := zip_get hx
    rw [hzl] at hi
    obtain ⟨q0, q1, q2, q3, q4⟩ := hh i a b ha hb'
    have hS := ref30_Same_ok n a.e b.e (by omega) q1 q2
    rw [q4] at hS
    left
    refine ⟨(), ?_, rfl, trivial⟩
    simp only [ref35_Defs_l4, obind_s, og_t, oif_b, pd_0, pd_s, and_ch, or_ch, b_lss, b_leq, b_gtr, b_geq, b_eql, b_neq, s_eql, s_neq, s_lss, u_not, jnX_l, jnX_r, inrX_s, oneP_I, oneP_B, oneP_S, oneP_sl, oneP_row, oneP_nil, one_I, one_B, one_S, one_sl, one_row, one_nil, extP_tup, List.getElem?_cons_zero, List.getElem?_cons_succ, esD_sl, lenP_sl, lenP_row, lenP_nil, elP_sl, ixP_nat, Bool.and_true, Bool.true_and, Bool.and_self, if_true, if_false, Bool.not_true, Bool.not_false, Bool.false_eq_true, flat_eB, flat_eI, flat_eS, Bool.or_true, Bool.true_or, agg2, agg3, agg4, agg5, agg6, agg7, agg8, zB, zI, zS, celsD_agg, mpD_mp, eDs_len, decide_eq_true (show ((i : Int) < (xs.length : Int)) by omega), eDs_ix ha, eDs_ix hb', Df.at0, Df.at1, q0, decide_true, hS, Bool.or_self, add1 (bt := false) (i := i) (by omega)]
theorem defs_same_nil (n : Nat) : ref35_DefsL (n + 3) [NILD, NILD] = some (eB true) := by kernel_rfl
theorem same_M0 (n : Nat) : ref35_SameL (n + 200) [M0, M0] = some (eB true) := by kernel_rfl
theorem eqv_V (v : V) : eqvP [.string, .bool, .int .i64, .int .i64] .neq v.d v.d = some (eB false) := by
  obtain ⟨a, b, c, d⟩ := v
  have h : (a == a) = true := by first | (simp; done) | exact beq_self_eq_true a | (obtain ⟨x⟩ := a; show (x == x) = true; simp)
  simp [V.d, V.cells, eqvP, eB, eI, eS, aggBin, eqFlat, Instr.sameNow, toDo, -zB, -zI, -zS]
  rw [h]; rfl
theorem eqv_P (a b : Int) : eqvP [.int .i64, .int .i64] .eql (.agg [eI a, eI b]) (.agg [eI a, eI b]) = some (eB true) := by
  simp [eqvP, eB, eI, aggBin, eqFlat, Instr.sameNow, toDo, -zB, -zI]
end Go.Am
