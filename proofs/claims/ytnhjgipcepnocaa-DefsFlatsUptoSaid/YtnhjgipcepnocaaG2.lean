/- The law, joined to the program. No condition. -/
import Derived.Test.YtnhjgipcepnocaaG1
set_option linter.all false
set_option linter.unnecessarySimpa false
namespace Go.Am
set_option linter.unusedVariables false
set_option linter.unusedSimpArgs false
/-- What both Forms come to. -/
theorem Form_both {l : List Df} (hl : DL 12300 l) (hl8 : l.length ≤ 20) (f : Fm) (hok : f.Ok) (hsz : f.sz ≤ 2000) : ∃ (g h : Fm) (e : Int), g.Ok ∧ h.Ok ∧ g.sz ≤ 13000 * f.sz ∧ h.sz ≤ 13000 * f.sz ∧ sameF g h = true ∧
    (∀ n, 301000000 < n → defs_FormL n [f.d, eDs l] = some (.tup [g.d, eI e])) ∧ (∀ n, 301000000 < n → ref35_FormL n [f.d, eDs l] = some (.tup [h.d, eI e])) := by
  have hz0 : D.agg [eI 0, eI 0, eI 0, eS ⟨#[]⟩, D.val (.slice none 0 0), D.val (.slice none 0 0)] = F0.d := rfl
  have hfl := f.sz_len
  by_cases h0 : chkF f = 0
  case neg =>
    have hne : (chkF f != 0) = true := by simpa using h0
    refine ⟨F0, F0, chkF f, F0_ok, F0_ok, ?_, ?_, sameF_refl _, ?_, ?_⟩
    · show 2 + 2 + 0 ≤ _; omega
    · show 2 + 2 + 0 ≤ _; omega
    · intro n hn
      have hC := forms_Check_ok n f (by omega) hok (by omega)
      simp only [defs_FormL, defs_Form, obind_s, og_t, oif_b, pd_0, pd_s, and_ch, or_ch, b_lss, b_leq, b_gtr, b_geq, b_eql, b_neq, s_eql, s_neq, s_lss, u_not, jnX_l, jnX_r, inrX_s, oneP_I, oneP_B, oneP_S, oneP_sl, oneP_row, oneP_nil, one_I, one_B, one_S, one_sl, one_row, one_nil, extP_tup, List.getElem?_cons_zero, List.getElem?_cons_succ, esD_sl, lenP_sl, lenP_row, lenP_nil, elP_sl, ixP_nat, Bool.and_true, Bool.true_and, Bool.and_self, if_true, if_false, Bool.not_true, Bool.not_false, Bool.false_eq_true, flat_eB, flat_eI, flat_eS, Bool.or_true, Bool.true_or, agg2, agg3, agg4, agg5, agg6, agg7, agg8, zB, zI, zS, celsD_agg, mpD_mp, Tm.agg_d, Fm.aggP_d, Fm.cel0, Fm.cel1, Fm.cel2, Fm.cel3, Fm.cel4, Fm.cel5, Fm.agg_d, Fm.atP_cells, Fm.rows_len, eDs_one, hC, hne, hz0]
    · intro n hn
      have hC := ref32_Check_ok n f (by omega) hok (by omega)
      simp only [ref35_FormL, ref35_Form, obind_s, og_t, oif_b, pd_0, pd_s, and_ch, or_ch, b_lss, b_leq, b_gtr, b_geq, b_eql, b_neq, s_eql, s_neq, s_lss, u_not, jnX_l, jnX_r, inrX_s, oneP_I, oneP_B, oneP_S, oneP_sl, oneP_row, oneP_nil, one_I, one_B, one_S, one_sl, one_row, one_nil, extP_tup, List.getElem?_cons_zero, List.getElem?_cons_succ, esD_sl, lenP_sl, lenP_row, lenP_nil, elP_sl, ixP_nat, Bool.and_true, Bool.true_and, Bool.and_self, if_true, if_false, Bool.not_true, Bool.not_false, Bool.false_eq_true, flat_eB, flat_eI, flat_eS, Bool.or_true, Bool.true_or, agg2, agg3, agg4, agg5, agg6, agg7, agg8, zB, zI, zS, celsD_agg, mpD_mp, Tm.agg_d, Fm.aggP_d, Fm.cel0, Fm.cel1, Fm.cel2, Fm.cel3, Fm.cel4, Fm.cel5, Fm.agg_d, Fm.atP_cells, Fm.rows_len, hC, hne, hz0]
  obtain ⟨⟨g, h, e⟩, q1, q2, q3, q4, q5, q6, q7⟩ := form_both hl hl8 f ⟨1, 0, h0⟩ hok hsz
  refine ⟨g, h, e, q1, q2, q3, q4, q5, ?_, ?_⟩
  · intro n hn
    have hC := forms_Check_ok n f (by omega) hok (by omega)
    have hF := q6 n (by omega)
    have h00 : ((0 : Int) != 0) = false := rfl
    simp only [defs_FormL, defs_Form, obind_s, og_t, oif_b, pd_0, pd_s, and_ch, or_ch, b_lss, b_leq, b_gtr, b_geq, b_eql, b_neq, s_eql, s_neq, s_lss, u_not, jnX_l, jnX_r, inrX_s, oneP_I, oneP_B, oneP_S, oneP_sl, oneP_row, oneP_nil, one_I, one_B, one_S, one_sl, one_row, one_nil, extP_tup, List.getElem?_cons_zero, List.getElem?_cons_succ, esD_sl, lenP_sl, lenP_row, lenP_nil, elP_sl, ixP_nat, Bool.and_true, Bool.true_and, Bool.and_self, if_true, if_false, Bool.not_true, Bool.not_false, Bool.false_eq_true, flat_eB, flat_eI, flat_eS, Bool.or_true, Bool.true_or, agg2, agg3, agg4, agg5, agg6, agg7, agg8, zB, zI, zS, celsD_agg, mpD_mp, Tm.agg_d, Fm.aggP_d, Fm.cel0, Fm.cel1, Fm.cel2, Fm.cel3, Fm.cel4, Fm.cel5, Fm.agg_d, Fm.atP_cells, Fm.rows_len, eDs_one, hC, h0, h00, hF]
  · intro n hn
    have hC := ref32_Check_ok n f (by omega) hok (by omega)
    have hF := q7 n (by omega)
    have h00 : ((0 : Int) != 0) = false := rfl
    simp only [ref35_FormL, ref35_Form, obind_s, og_t, oif_b, pd_0, pd_s, and_ch, or_ch, b_lss, b_leq, b_gtr, b_geq, b_eql, b_neq, s_eql, s_neq, s_lss, u_not, jnX_l, jnX_r, inrX_s, oneP_I, oneP_B, oneP_S, oneP_sl, oneP_row, oneP_nil, one_I, one_B, one_S, one_sl, one_row, one_nil, extP_tup, List.getElem?_cons_zero, List.getElem?_cons_succ, esD_sl, lenP_sl, lenP_row, lenP_nil, elP_sl, ixP_nat, Bool.and_true, Bool.true_and, Bool.and_self, if_true, if_false, Bool.not_true, Bool.not_false, Bool.false_eq_true, flat_eB, flat_eI, flat_eS, Bool.or_true, Bool.true_or, agg2, agg3, agg4, agg5, agg6, agg7, agg8, zB, zI, zS, celsD_agg, mpD_mp, Tm.agg_d, Fm.aggP_d, Fm.cel0, Fm.cel1, Fm.cel2, Fm.cel3, Fm.cel4, Fm.cel5, Fm.agg_d, Fm.atP_cells, Fm.rows_len, hC, h0, h00, hF]
theorem DefsForms_ok (n : Nat) (f : Fm) (l : List Df) (hok : f.Ok) (hll : l.length ≤ 2000000) (hd : ∀ d ∈ l, d.e.Ok ∧ d.e.sz ≤ 2000000) (hn : f.sz + 400000000 < n) : law35_DefsFormsL n [f.d, eDs l] = some (eB true) := by
  obtain ⟨n', rfl⟩ : ∃ q, n = q + 200 := ⟨n - 200, by omega⟩
  have hL := lives35_ok n'
  generalize n' + 200 = n at *
  have hM := ref32_Many_ok n f 300 (by omega) hok (by omega) (by omega)
  have hF := law35_few_ok n l (by omega) (by omega) fun d hm => ⟨(hd d hm).1, by have := (hd d hm).2; omega⟩
  cases h1 : manyB f 300
  · simp only [law35_DefsFormsL, law35_DefsForms, obind_s, og_t, oif_b, pd_0, pd_s, and_ch, or_ch, b_lss, b_leq, b_gtr, b_geq, b_eql, b_neq, s_eql, s_neq, s_lss, u_not, jnX_l, jnX_r, inrX_s, oneP_I, oneP_B, oneP_S, oneP_sl, oneP_row, oneP_nil, one_I, one_B, one_S, one_sl, one_row, one_nil, extP_tup, List.getElem?_cons_zero, List.getElem?_cons_succ, esD_sl, lenP_sl, lenP_row, lenP_nil, elP_sl, ixP_nat, Bool.and_true, Bool.true_and, Bool.and_self, if_true, if_false, Bool.not_true, Bool.not_false, Bool.false_eq_true, flat_eB, flat_eI, flat_eS, Bool.or_true, Bool.true_or, agg2, agg3, agg4, agg5, agg6, agg7, agg8, zB, zI, zS, celsD_agg, mpD_mp, Tm.agg_d, Fm.aggP_d, Fm.cel0, Fm.cel1, Fm.cel2, Fm.cel3, Fm.cel4, Fm.cel5, Fm.agg_d, Fm.atP_cells, Fm.rows_len, hM, h1, hF, hL]
  cases h2 : fewB l
  · simp only [law35_DefsFormsL, law35_DefsForms, obind_s, og_t, oif_b, pd_0, pd_s, and_ch, or_ch, b_lss, b_leq, b_gtr, b_geq, b_eql, b_neq, s_eql, s_neq, s_lss, u_not, jnX_l, jnX_r, inrX_s, oneP_I, oneP_B, oneP_S, oneP_sl, oneP_row, oneP_nil, one_I, one_B, one_S, one_sl, one_row, one_nil, extP_tup, List.getElem?_cons_zero, List.getElem?_cons_succ, esD_sl, lenP_sl, lenP_row, lenP_nil, elP_sl, ixP_nat, Bool.and_true, Bool.true_and, Bool.and_self, if_true, if_false, Bool.not_true, Bool.not_false, Bool.false_eq_true, flat_eB, flat_eI, flat_eS, Bool.or_true, Bool.true_or, agg2, agg3, agg4, agg5, agg6, agg7, agg8, zB, zI, zS, celsD_agg, mpD_mp, Tm.agg_d, Fm.aggP_d, Fm.cel0, Fm.cel1, Fm.cel2, Fm.cel3, Fm.cel4, Fm.cel5, Fm.agg_d, Fm.atP_cells, Fm.rows_len, hM, h1, hF, h2, hL]
  have hdl := fewB_dl h2 fun d hm => ⟨(hd d hm).1, by have := (hd d hm).2; omega⟩
  have hl8 : l.length ≤ 8 := by simp [fewB] at h2; omega
  have hsz := manyB_sz h1 (by omega)
  obtain ⟨g, h, e, hg, hh, hgs, hhs, hs, hA, hB⟩ := Form_both hdl (by omega) f hok (by omega)
  have hA' := hA n (by omega)
  have hB' := hB n (by omega)
  have hS := ref32_Same_ok n g h (by omega) hg hh
  rw [hs] at hS
  simp only [law35_DefsFormsL, law35_DefsForms, obind_s, og_t, oif_b, pd_0, pd_s, and_ch, or_ch, b_lss, b_leq, b_gtr, b_geq, b_eql, b_neq, s_eql, s_neq, s_lss, u_not, jnX_l, jnX_r, inrX_s, oneP_I, oneP_B, oneP_S, oneP_sl, oneP_row, oneP_nil, one_I, one_B, one_S, one_sl, one_row, one_nil, extP_tup, List.getElem?_cons_zero, List.getElem?_cons_succ, esD_sl, lenP_sl, lenP_row, lenP_nil, elP_sl, ixP_nat, Bool.and_true, Bool.true_and, Bool.and_self, if_true, if_false, Bool.not_true, Bool.not_false, Bool.false_eq_true, flat_eB, flat_eI, flat_eS, Bool.or_true, Bool.true_or, agg2, agg3, agg4, agg5, agg6, agg7, agg8, zB, zI, zS, celsD_agg, mpD_mp, Tm.agg_d, Fm.aggP_d, Fm.cel0, Fm.cel1, Fm.cel2, Fm.cel3, Fm.cel4, Fm.cel5, Fm.agg_d, Fm.atP_cells, Fm.rows_len, hM, h1, hF, h2, hL, hA', hB', hS, beq_self_eq_true, Bool.or_self]
end Go.Am
