/- The law, joined to the program. No condition. -/
import Derived.Test.YtnhjgipcepnocaaH1
set_option linter.all false
set_option linter.unnecessarySimpa false
namespace Go.Am
set_option linter.unusedVariables false
set_option linter.unusedSimpArgs false
abbrev M0 : D := .agg [NILD, NILD, NILD, NILD, NILD, NILD, NILD, NILD]
theorem map_snd_drop {α β : Type} {a : List α} {b : List β} (h : b.length = a.length) (i : Nat) : ((a.zip b).drop i).map (·.2) = b.drop i := by
  rw [List.map_drop, zip_snd h]
section
variable {l : List Df} {ts : List Df} {r : List ((Tm × Tm) × Int)} (hr : r.length = ts.length) (hq : ∀ (j : Nat) (a : Df) (b : (Tm × Tm) × Int), ts[j]? = some a → r[j]? = some b → QT l a.e b)
include hr hq
theorem defs_nexts_ok (n : Nat) (hn : 302000000 < n) (hb : ts.length ≤ 1000000) : defs_nextsL n [eDs ts, eDs l] = some (.tup [if fE r = 0 then eDs ((ts.zip r).map (fun p : Df × ((Tm × Tm) × Int) => Df.mk p.1.name p.2.1.1)) else NILD, eI (fI r r.length), eI (fE r)]) := by
  have e0 : (eI ((0 : Nat) : Int)) = eI 0 := rfl
  have ee : ∀ x, D.sl 5 (esD (eDs x)) = eDs x := fun _ => rfl
  have hzl : (ts.zip r).length = ts.length := by simp [hr]
  have hl := iterL_list (f := defs_nexts_l2 n) (ts.zip r) (fun i (s : List Df) => [eDs l, eDs ts, eI ts.length, eI (i : Int), eDs s])
    (fun q (s : List Df) => (if fE (q.map (·.2)) = 0 then .inl [eDs (s ++ q.map (fun p : Df × ((Tm × Tm) × Int) => Df.mk p.1.name p.2.1.1))] else .inr (.tup [NILD, eI (fI (q.map (·.2)) r.length), eI (fE (q.map (·.2)))]) : List D ⊕ D)) (fun i s => s.length = i) ?_ ?_ n 0 [] rfl (by omega) (Nat.zero_le _)
  · rw [e0, List.drop_zero, zip_snd hr] at hl
    have e1 : eDs [] = D.sl 5 [] := rfl
    rw [e1] at hl
    by_cases h : fE r = 0
    · simp only [h, if_true, List.nil_append] at hl ⊢
      rw [fI_0 r _ h]
      simp only [defs_nextsL, defs_nexts, obind_s, og_t, oif_b, pd_0, pd_s, and_ch, or_ch, b_lss, b_leq, b_gtr, b_geq, b_eql, b_neq, s_eql, s_neq, s_lss, u_not, jnX_l, jnX_r, inrX_s, oneP_I, oneP_B, oneP_S, oneP_sl, oneP_row, oneP_nil, one_I, one_B, one_S, one_sl, one_row, one_nil, extP_tup, List.getElem?_cons_zero, List.getElem?_cons_succ, esD_sl, lenP_sl, lenP_row, lenP_nil, elP_sl, ixP_nat, Bool.and_true, Bool.true_and, Bool.and_self, if_true, if_false, Bool.not_true, Bool.not_false, Bool.false_eq_true, flat_eB, flat_eI, flat_eS, Bool.or_true, Bool.true_or, agg2, agg3, agg4, agg5, agg6, agg7, agg8, zB, zI, zS, celsD_agg, mpD_mp, eDs_len, hl, ee, e0]
    · simp only [h, if_false] at hl ⊢
      simp only [defs_nextsL, defs_nexts, obind_s, og_t, oif_b, pd_0, pd_s, and_ch, or_ch, b_lss, b_leq, b_gtr, b_geq, b_eql, b_neq, s_eql, s_neq, s_lss, u_not, jnX_l, jnX_r, inrX_s, oneP_I, oneP_B, oneP_S, oneP_sl, oneP_row, oneP_nil, one_I, one_B, one_S, one_sl, one_row, one_nil, extP_tup, List.getElem?_cons_zero, List.getElem?_cons_succ, esD_sl, lenP_sl, lenP_row, lenP_nil, elP_sl, ixP_nat, Bool.and_true, Bool.true_and, Bool.and_self, if_true, if_false, Bool.not_true, Bool.not_false, Bool.false_eq_true, flat_eB, flat_eI, flat_eS, Bool.or_true, Bool.true_or, agg2, agg3, agg4, agg5, agg6, agg7, agg8, zB, zI, zS, celsD_agg, mpD_mp, eDs_len, hl]
  · intro s _
    rw [hzl]
    simp only [defs_nexts_l2, obind_s, og_t, oif_b, pd_0, pd_s, and_ch, or_ch, b_lss, b_leq, b_gtr, b_geq, b_eql, b_neq, s_eql, s_neq, s_lss, u_not, jnX_l, jnX_r, inrX_s, oneP_I, oneP_B, oneP_S, oneP_sl, oneP_row, oneP_nil, one_I, one_B, one_S, one_sl, one_row, one_nil, extP_tup, List.getElem?_cons_zero, List.getElem?_cons_succ, esD_sl, lenP_sl, lenP_row, lenP_nil, elP_sl, ixP_nat, Bool.and_true, Bool.true_and, Bool.and_self, if_true, if_false, Bool.not_true, Bool.not_false, Bool.false_eq_true, flat_eB, flat_eI, flat_eS, Bool.or_true, Bool.true_or, agg2, agg3, agg4, agg5, agg6, agg7, agg8, zB, zI, zS, celsD_agg, mpD_mp, decide_eq_false (show ¬ ((ts.length : Int) < ts.length) by omega), fE, ee, List.map_nil, List.append_nil]
  · rintro i ⟨t, ⟨x, y⟩, e⟩ s hx hi hs
    obtain ⟨ht, hx⟩ := zip_get hx
    simp only at ht hx
    have hQ := hq i t _ ht hx
    rw [hzl] at hi
    have hA := hQ.2.2.2.2.2.1 n (by omega)
    simp only at hA
    by_cases he : e = 0
    · subst he
      left
      have h00 : ((0 : Int) != 0) = false := rfl
      have hrm : roomP (s.length + 1) 72 = true := roomP_ok (by omega) (by omega)
      have e2 : D.sl 5 (esD (eDs s) ++ [[eS t.name, eI x.op, eI x.num, eS x.name, rowD 4 x.nl (Tm.rows x.kids)]]) = eDs (s ++ [⟨t.name, x⟩]) := by simp [eDs, Df.cells]
      have e3 : (esD (eDs s)).length = s.length := by simp [eDs]
      refine ⟨s ++ [⟨t.name, x⟩], ?_, ?_, by simp [hs]⟩
      · simp only [defs_nexts_l2, obind_s, og_t, oif_b, pd_0, pd_s, and_ch, or_ch, b_lss, b_leq, b_gtr, b_geq, b_eql, b_neq, s_eql, s_neq, s_lss, u_not, jnX_l, jnX_r, inrX_s, oneP_I, oneP_B, oneP_S, oneP_sl, oneP_row, oneP_nil, one_I, one_B, one_S, one_sl, one_row, one_nil, extP_tup, List.getElem?_cons_zero, List.getElem?_cons_succ, esD_sl, lenP_sl, lenP_row, lenP_nil, elP_sl, ixP_nat, Bool.and_true, Bool.true_and, Bool.and_self, if_true, if_false, Bool.not_true, Bool.not_false, Bool.false_eq_true, flat_eB, flat_eI, flat_eS, Bool.or_true, Bool.true_or, agg2, agg3, agg4, agg5, agg6, agg7, agg8, zB, zI, zS, celsD_agg, mpD_mp, Tm.aggP_d, Tm.cel0, Tm.cel1, Tm.cel2, Tm.cel3, Tm.agg_d, Tm.atP_cells, Tm.rows_len, decide_eq_true (show ((i : Int) < (ts.length : Int)) by omega), eDs_ix ht, Df.at5, Df.agg, Df.c0, Df.c1, Df.c2, Df.c3, Df.c4, hA, h00, e2, e3, List.length_cons, List.length_nil, Nat.zero_add, hrm, add1 (bt := false) (i := i) (by omega)]
      · simp only [fE, if_true, fI, List.map_cons, List.append_assoc, List.singleton_append]
    · have hne : (e != 0) = true := by simpa using he
      have hidx : r.length - ((((ts.zip r).drop (i + 1)).map (·.2)).length + 1) = i := by rw [map_snd_drop hr, List.length_drop]; omega
      right
      simp only [defs_nexts_l2, obind_s, og_t, oif_b, pd_0, pd_s, and_ch, or_ch, b_lss, b_leq, b_gtr, b_geq, b_eql, b_neq, s_eql, s_neq, s_lss, u_not, jnX_l, jnX_r, inrX_s, oneP_I, oneP_B, oneP_S, oneP_sl, oneP_row, oneP_nil, one_I, one_B, one_S, one_sl, one_row, one_nil, extP_tup, List.getElem?_cons_zero, List.getElem?_cons_succ, esD_sl, lenP_sl, lenP_row, lenP_nil, elP_sl, ixP_nat, Bool.and_true, Bool.true_and, Bool.and_self, if_true, if_false, Bool.not_true, Bool.not_false, Bool.false_eq_true, flat_eB, flat_eI, flat_eS, Bool.or_true, Bool.true_or, agg2, agg3, agg4, agg5, agg6, agg7, agg8, zB, zI, zS, celsD_agg, mpD_mp, Tm.aggP_d, Tm.cel0, Tm.cel1, Tm.cel2, Tm.cel3, Tm.agg_d, Tm.atP_cells, Tm.rows_len, decide_eq_true (show ((i : Int) < (ts.length : Int)) by omega), eDs_ix ht, Df.at5, Df.agg, Df.c0, Df.c1, Df.c2, Df.c3, Df.c4, hA, hne, List.map_cons, fE, fI, he, if_false, hidx]
theorem ref35_Flat_l11_dat (n : Nat) (hn : 302000000 < n) (hb : ts.length ≤ 1000000) (a1 a3 a4 a6 a7 a8 a9 a10 a11 a12 a13 a14 a15 a16 a17 a18 a19 a20 a21 a22 a23 a24 a25 : D) : iterL (ref35_Flat_l11 n) n [eI 0, a1, eDs l, a3, a4, eDs ts, a6, a7, a8, a9, a10, a11, a12, a13, a14, a15, a16, a17, a18, a19, a20, a21, a22, a23, a24, a25, eDs []] =
    some (if fE r = 0 then .inl [a1, eDs l, a3, a4, eDs ts, a6, a7, a8, a9, a10, a11, a12, a13, a14, a15, a16, a17, a18, a19, a20, a21, a22, a23, a24, a25, eDs ((ts.zip r).map (fun p : Df × ((Tm × Tm) × Int) => Df.mk p.1.name p.2.1.2))] else .inr (.tup [M0, .agg [eI 5, eI (fI r r.length)], eI (fE r)])) := by
  have e0 : (eI ((0 : Nat) : Int)) = eI 0 := rfl
  have ee : ∀ x, D.sl 5 (esD (eDs x)) = eDs x := fun _ => rfl
  have ee5 : ∀ x, D.sl 5 (esD (eDs x)) = eDs x := fun _ => rfl
  have hzl : (ts.zip r).length = ts.length := by simp [hr]
  have hl := iterL_list (f := ref35_Flat_l11 n) (ts.zip r) (fun i (s : List Df) => [eI (i : Int), a1, eDs l, a3, a4, eDs ts, a6, a7, a8, a9, a10, a11, a12, a13, a14, a15, a16, a17, a18, a19, a20, a21, a22, a23, a24, a25, eDs s])
    (fun q (s : List Df) => (if fE (q.map (·.2)) = 0 then .inl [a1, eDs l, a3, a4, eDs ts, a6, a7, a8, a9, a10, a11, a12, a13, a14, a15, a16, a17, a18, a19, a20, a21, a22, a23, a24, a25, eDs (s ++ q.map (fun p : Df × ((Tm × Tm) × Int) => Df.mk p.1.name p.2.1.2))] else .inr (.tup [M0, .agg [eI 5, eI (fI (q.map (·.2)) r.length)], eI (fE (q.map (·.2)))]) : List D ⊕ D)) (fun i s => s.length = i) ?_ ?_ n 0 [] rfl (by omega) (Nat.zero_le _)
  · rw [e0, List.drop_zero, zip_snd hr] at hl
    simp only [List.nil_append] at hl
    exact hl
  · intro s _
    rw [hzl]
    simp only [ref35_Flat_l11, obind_s, og_t, oif_b, pd_0, pd_s, and_ch, or_ch, b_lss, b_leq, b_gtr, b_geq, b_eql, b_neq, s_eql, s_neq, s_lss, u_not, jnX_l, jnX_r, inrX_s, oneP_I, oneP_B, oneP_S, oneP_sl, oneP_row, oneP_nil, one_I, one_B, one_S, one_sl, one_row, one_nil, extP_tup, List.getElem?_cons_zero, List.getElem?_cons_succ, esD_sl, lenP_sl, lenP_row, lenP_nil, elP_sl, ixP_nat, Bool.and_true, Bool.true_and, Bool.and_self, if_true, if_false, Bool.not_true, Bool.not_false, Bool.false_eq_true, flat_eB, flat_eI, flat_eS, Bool.or_true, Bool.true_or, agg2, agg3, agg4, agg5, agg6, agg7, agg8, zB, zI, zS, celsD_agg, mpD_mp, eDs_len, decide_eq_false (show ¬ ((ts.length : Int) < ts.length) by omega), fE, ee, ee5, List.map_nil, List.append_nil]
  · rintro i ⟨t, ⟨x, y⟩, e⟩ s hx hi hs
    obtain ⟨ht, hx⟩ := zip_get hx
    simp only at ht hx
    have hQ := hq i t _ ht hx
    rw [hzl] at hi
    have hA := hQ.2.2.2.2.2.2 n (by omega)
    simp only at hA
    by_cases he : e = 0
    · subst he
      left
      have h00 : ((0 : Int) != 0) = false := rfl
      have hrm : roomP (s.length + 1) 72 = true := roomP_ok (by omega) (by omega)
      have e2 : D.sl 5 (esD (eDs s) ++ [[eS t.name, eI y.op, eI y.num, eS y.name, rowD 4 y.nl (Tm.rows y.kids)]]) = eDs (s ++ [⟨t.name, y⟩]) := by simp [eDs, Df.cells]
      have e3 : (esD (eDs s)).length = s.length := by simp [eDs]
      refine ⟨s ++ [⟨t.name, y⟩], ?_, ?_, by simp [hs]⟩
      · simp only [ref35_Flat_l11, obind_s, og_t, oif_b, pd_0, pd_s, and_ch, or_ch, b_lss, b_leq, b_gtr, b_geq, b_eql, b_neq, s_eql, s_neq, s_lss, u_not, jnX_l, jnX_r, inrX_s, oneP_I, oneP_B, oneP_S, oneP_sl, oneP_row, oneP_nil, one_I, one_B, one_S, one_sl, one_row, one_nil, extP_tup, List.getElem?_cons_zero, List.getElem?_cons_succ, esD_sl, lenP_sl, lenP_row, lenP_nil, elP_sl, ixP_nat, Bool.and_true, Bool.true_and, Bool.and_self, if_true, if_false, Bool.not_true, Bool.not_false, Bool.false_eq_true, flat_eB, flat_eI, flat_eS, Bool.or_true, Bool.true_or, agg2, agg3, agg4, agg5, agg6, agg7, agg8, zB, zI, zS, celsD_agg, mpD_mp, Tm.aggP_d, Tm.cel0, Tm.cel1, Tm.cel2, Tm.cel3, Tm.agg_d, Tm.atP_cells, Tm.rows_len, eDs_len, decide_eq_true (show ((i : Int) < (ts.length : Int)) by omega), eDs_ix ht, Df.at1, Df.at0, hA, h00, e2, e3, ee5, List.length_cons, List.length_nil, Nat.zero_add, hrm, add1 (bt := false) (i := i) (by omega)]
      · simp only [fE, if_true, fI, List.map_cons, List.append_assoc, List.singleton_append]
    · have hne : (e != 0) = true := by simpa using he
      have hidx : r.length - ((((ts.zip r).drop (i + 1)).map (·.2)).length + 1) = i := by rw [map_snd_drop hr, List.length_drop]; omega
      right
      simp only [ref35_Flat_l11, obind_s, og_t, oif_b, pd_0, pd_s, and_ch, or_ch, b_lss, b_leq, b_gtr, b_geq, b_eql, b_neq, s_eql, s_neq, s_lss, u_not, jnX_l, jnX_r, inrX_s, oneP_I, oneP_B, oneP_S, oneP_sl, oneP_row, oneP_nil, one_I, one_B, one_S, one_sl, one_row, one_nil, extP_tup, List.getElem?_cons_zero, List.getElem?_cons_succ, esD_sl, lenP_sl, lenP_row, lenP_nil, elP_sl, ixP_nat, Bool.and_true, Bool.true_and, Bool.and_self, if_true, if_false, Bool.not_true, Bool.not_false, Bool.false_eq_true, flat_eB, flat_eI, flat_eS, Bool.or_true, Bool.true_or, agg2, agg3, agg4, agg5, agg6, agg7, agg8, zB, zI, zS, celsD_agg, mpD_mp, Tm.aggP_d, Tm.cel0, Tm.cel1, Tm.cel2, Tm.cel3, Tm.agg_d, Tm.atP_cells, Tm.rows_len, eDs_len, decide_eq_true (show ((i : Int) < (ts.length : Int)) by omega), eDs_ix ht, Df.at1, Df.at0, hA, hne, List.map_cons, fE, fI, he, if_false, hidx]
end
section
variable {l : List Df} {ts : List Sp} {r : List ((Fm × Fm) × Int)} (hr : r.length = ts.length) (hq : ∀ (j : Nat) (a : Sp) (b : (Fm × Fm) × Int), ts[j]? = some a → r[j]? = some b → QS l a.f b)
include hr hq
theorem defs_specs_ok (n : Nat) (hn : 302000000 < n) (hb : ts.length ≤ 1000000) : defs_specsL n [eSps ts, eDs l] = some (.tup [if fE r = 0 then eSps ((ts.zip r).map (fun p : Sp × ((Fm × Fm) × Int) => Sp.mk p.1.name p.2.1.1)) else NILD, eI (fI r r.length), eI (fE r)]) := by
  have e0 : (eI ((0 : Nat) : Int)) = eI 0 := rfl
  have ee : ∀ x, D.sl 7 (esD (eSps x)) = eSps x := fun _ => rfl
  have hzl : (ts.zip r).length = ts.length := by simp [hr]
  have hl := iterL_list (f := defs_specs_l2 n) (ts.zip r) (fun i (s : List Sp) => [eDs l, eSps ts, eI ts.length, eI (i : Int), eSps s])
    (fun q (s : List Sp) => (if fE (q.map (·.2)) = 0 then .inl [eSps (s ++ q.map (fun p : Sp × ((Fm × Fm) × Int) => Sp.mk p.1.name p.2.1.1))] else .inr (.tup [NILD, eI (fI (q.map (·.2)) r.length), eI (fE (q.map (·.2)))]) : List D ⊕ D)) (fun i s => s.length = i) ?_ ?_ n 0 [] rfl (by omega) (Nat.zero_le _)
  · rw [e0, List.drop_zero, zip_snd hr] at hl
    have e1 : eSps [] = D.sl 7 [] := rfl
    rw [e1] at hl
    by_cases h : fE r = 0
    · simp only [h, if_true, List.nil_append] at hl ⊢
      rw [fI_0 r _ h]
      simp only [defs_specsL, defs_specs, obind_s, og_t, oif_b, pd_0, pd_s, and_ch, or_ch, b_lss, b_leq, b_gtr, b_geq, b_eql, b_neq, s_eql, s_neq, s_lss, u_not, jnX_l, jnX_r, inrX_s, oneP_I, oneP_B, oneP_S, oneP_sl, oneP_row, oneP_nil, one_I, one_B, one_S, one_sl, one_row, one_nil, extP_tup, List.getElem?_cons_zero, List.getElem?_cons_succ, esD_sl, lenP_sl, lenP_row, lenP_nil, elP_sl, ixP_nat, Bool.and_true, Bool.true_and, Bool.and_self, if_true, if_false, Bool.not_true, Bool.not_false, Bool.false_eq_true, flat_eB, flat_eI, flat_eS, Bool.or_true, Bool.true_or, agg2, agg3, agg4, agg5, agg6, agg7, agg8, zB, zI, zS, celsD_agg, mpD_mp, eSps_len, hl, ee, e0]
    · simp only [h, if_false] at hl ⊢
      simp only [defs_specsL, defs_specs, obind_s, og_t, oif_b, pd_0, pd_s, and_ch, or_ch, b_lss, b_leq, b_gtr, b_geq, b_eql, b_neq, s_eql, s_neq, s_lss, u_not, jnX_l, jnX_r, inrX_s, oneP_I, oneP_B, oneP_S, oneP_sl, oneP_row, oneP_nil, one_I, one_B, one_S, one_sl, one_row, one_nil, extP_tup, List.getElem?_cons_zero, List.getElem?_cons_succ, esD_sl, lenP_sl, lenP_row, lenP_nil, elP_sl, ixP_nat, Bool.and_true, Bool.true_and, Bool.and_self, if_true, if_false, Bool.not_true, Bool.not_false, Bool.false_eq_true, flat_eB, flat_eI, flat_eS, Bool.or_true, Bool.true_or, agg2, agg3, agg4, agg5, agg6, agg7, agg8, zB, zI, zS, celsD_agg, mpD_mp, eSps_len, hl]
  · intro s _
    rw [hzl]
    simp only [defs_specs_l2, obind_s, og_t, oif_b, pd_0, pd_s, and_ch, or_ch, b_lss, b_leq, b_gtr, b_geq, b_eql, b_neq, s_eql, s_neq, s_lss, u_not, jnX_l, jnX_r, inrX_s, oneP_I, oneP_B, oneP_S, oneP_sl, oneP_row, oneP_nil, one_I, one_B, one_S, one_sl, one_row, one_nil, extP_tup, List.getElem?_cons_zero, List.getElem?_cons_succ, esD_sl, lenP_sl, lenP_row, lenP_nil, elP_sl, ixP_nat, Bool.and_true, Bool.true_and, Bool.and_self, if_true, if_false, Bool.not_true, Bool.not_false, Bool.false_eq_true, flat_eB, flat_eI, flat_eS, Bool.or_true, Bool.true_or, agg2, agg3, agg4, agg5, agg6, agg7, agg8, zB, zI, zS, celsD_agg, mpD_mp, decide_eq_false (show ¬ ((ts.length : Int) < ts.length) by omega), fE, ee, List.map_nil, List.append_nil]
  · rintro i ⟨t, ⟨x, y⟩, e⟩ s hx hi hs
    obtain ⟨ht, hx⟩ := zip_get hx
    simp only at ht hx
    have hQ := hq i t _ ht hx
    rw [hzl] at hi
    have hA := hQ.2.2.2.2.2.1 n (by omega)
    simp only at hA
    by_cases he : e = 0
    · subst he
      left
      have h00 : ((0 : Int) != 0) = false := rfl
      have hrm : roomP (s.length + 1) 104 = true := roomP_ok (by omega) (by omega)
      have e2 : D.sl 7 (esD (eSps s) ++ [[eS t.name, eI x.op, eI x.e.op, eI x.e.num, eS x.e.name, rowD 4 x.e.nl (Tm.rows x.e.kids), rowD 6 x.nl (Fm.rows x.kids)]]) = eSps (s ++ [⟨t.name, x⟩]) := by simp [eSps, Sp.cells]
      have e3 : (esD (eSps s)).length = s.length := by simp [eSps]
      refine ⟨s ++ [⟨t.name, x⟩], ?_, ?_, by simp [hs]⟩
      · simp only [defs_specs_l2, obind_s, og_t, oif_b, pd_0, pd_s, and_ch, or_ch, b_lss, b_leq, b_gtr, b_geq, b_eql, b_neq, s_eql, s_neq, s_lss, u_not, jnX_l, jnX_r, inrX_s, oneP_I, oneP_B, oneP_S, oneP_sl, oneP_row, oneP_nil, one_I, one_B, one_S, one_sl, one_row, one_nil, extP_tup, List.getElem?_cons_zero, List.getElem?_cons_succ, esD_sl, lenP_sl, lenP_row, lenP_nil, elP_sl, ixP_nat, Bool.and_true, Bool.true_and, Bool.and_self, if_true, if_false, Bool.not_true, Bool.not_false, Bool.false_eq_true, flat_eB, flat_eI, flat_eS, Bool.or_true, Bool.true_or, agg2, agg3, agg4, agg5, agg6, agg7, agg8, zB, zI, zS, celsD_agg, mpD_mp, Tm.agg_d, Fm.aggP_d, Fm.cel0, Fm.cel1, Fm.cel2, Fm.cel3, Fm.cel4, Fm.cel5, Fm.agg_d, Fm.atP_cells, Fm.rows_len, decide_eq_true (show ((i : Int) < (ts.length : Int)) by omega), eSps_ix ht, Sp.at7, Sp.agg, Sp.c0, Sp.c1, Sp.c2, Sp.c3, Sp.c4, Sp.c5, Sp.c6, hA, h00, e2, e3, List.length_cons, List.length_nil, Nat.zero_add, hrm, add1 (bt := false) (i := i) (by omega)]
      · simp only [fE, if_true, fI, List.map_cons, List.append_assoc, List.singleton_append]
    · have hne : (e != 0) = true := by simpa using he
      have hidx : r.length - ((((ts.zip r).drop (i + 1)).map (·.2)).length + 1) = i := by rw [map_snd_drop hr, List.length_drop]; omega
      right
      simp only [defs_specs_l2, obind_s, og_t, oif_b, pd_0, pd_s, and_ch, or_ch, b_lss, b_leq, b_gtr, b_geq, b_eql, b_neq, s_eql, s_neq, s_lss, u_not, jnX_l, jnX_r, inrX_s, oneP_I, oneP_B, oneP_S, oneP_sl, oneP_row, oneP_nil, one_I, one_B, one_S, one_sl, one_row, one_nil, extP_tup, List.getElem?_cons_zero, List.getElem?_cons_succ, esD_sl, lenP_sl, lenP_row, lenP_nil, elP_sl, ixP_nat, Bool.and_true, Bool.true_and, Bool.and_self, if_true, if_false, Bool.not_true, Bool.not_false, Bool.false_eq_true, flat_eB, flat_eI, flat_eS, Bool.or_true, Bool.true_or, agg2, agg3, agg4, agg5, agg6, agg7, agg8, zB, zI, zS, celsD_agg, mpD_mp, Tm.agg_d, Fm.aggP_d, Fm.cel0, Fm.cel1, Fm.cel2, Fm.cel3, Fm.cel4, Fm.cel5, Fm.agg_d, Fm.atP_cells, Fm.rows_len, decide_eq_true (show ((i : Int) < (ts.length : Int)) by omega), eSps_ix ht, Sp.at7, Sp.agg, Sp.c0, Sp.c1, Sp.c2, Sp.c3, Sp.c4, Sp.c5, Sp.c6, hA, hne, List.map_cons, fE, fI, he, if_false, hidx]
theorem ref35_Flat_l26_dat (n : Nat) (hn : 302000000 < n) (hb : ts.length ≤ 1000000) (a1 a3 a4 a5 a6 a7 a9 a10 a11 a12 a13 a14 a15 a16 a17 a18 a19 a20 a21 a22 a23 a24 : D) (nx : List Df) : iterL (ref35_Flat_l26 n) n [eI 0, a1, eDs l, a3, a4, a5, a6, a7, eSps ts, a9, a10, a11, a12, a13, a14, a15, a16, a17, a18, a19, a20, a21, a22, a23, a24, eDs nx, eSps []] =
    some (if fE r = 0 then .inl [a9, a10, a11, a12, a13, a14, a15, a16, a17, a18, a19, a20, a21, a22, a23, a24, eDs nx, eSps ((ts.zip r).map (fun p : Sp × ((Fm × Fm) × Int) => Sp.mk p.1.name p.2.1.2))] else .inr (.tup [M0, .agg [eI 8, eI (fI r r.length)], eI (fE r)])) := by
  have e0 : (eI ((0 : Nat) : Int)) = eI 0 := rfl
  have ee : ∀ x, D.sl 7 (esD (eSps x)) = eSps x := fun _ => rfl
  have ee5 : ∀ x, D.sl 5 (esD (eDs x)) = eDs x := fun _ => rfl
  have hzl : (ts.zip r).length = ts.length := by simp [hr]
  have hl := iterL_list (f := ref35_Flat_l26 n) (ts.zip r) (fun i (s : List Sp) => [eI (i : Int), a1, eDs l, a3, a4, a5, a6, a7, eSps ts, a9, a10, a11, a12, a13, a14, a15, a16, a17, a18, a19, a20, a21, a22, a23, a24, eDs nx, eSps s])
    (fun q (s : List Sp) => (if fE (q.map (·.2)) = 0 then .inl [a9, a10, a11, a12, a13, a14, a15, a16, a17, a18, a19, a20, a21, a22, a23, a24, eDs nx, eSps (s ++ q.map (fun p : Sp × ((Fm × Fm) × Int) => Sp.mk p.1.name p.2.1.2))] else .inr (.tup [M0, .agg [eI 8, eI (fI (q.map (·.2)) r.length)], eI (fE (q.map (·.2)))]) : List D ⊕ D)) (fun i s => s.length = i) ?_ ?_ n 0 [] rfl (by omega) (Nat.zero_le _)
  · rw [e0, List.drop_zero, zip_snd hr] at hl
    simp only [List.nil_append] at hl
    exact hl
  · intro s _
    rw [hzl]
    simp only [ref35_Flat_l26, obind_s, og_t, oif_b, pd_0, pd_s, and_ch, or_ch, b_lss, b_leq, b_gtr, b_geq, b_eql, b_neq, s_eql, s_neq, s_lss, u_not, jnX_l, jnX_r, inrX_s, oneP_I, oneP_B, oneP_S, oneP_sl, oneP_row, oneP_nil, one_I, one_B, one_S, one_sl, one_row, one_nil, extP_tup, List.getElem?_cons_zero, List.getElem?_cons_succ, esD_sl, lenP_sl, lenP_row, lenP_nil, elP_sl, ixP_nat, Bool.and_true, Bool.true_and, Bool.and_self, if_true, if_false, Bool.not_true, Bool.not_false, Bool.false_eq_true, flat_eB, flat_eI, flat_eS, Bool.or_true, Bool.true_or, agg2, agg3, agg4, agg5, agg6, agg7, agg8, zB, zI, zS, celsD_agg, mpD_mp, eSps_len, decide_eq_false (show ¬ ((ts.length : Int) < ts.length) by omega), fE, ee, ee5, List.map_nil, List.append_nil]
  · rintro i ⟨t, ⟨x, y⟩, e⟩ s hx hi hs
    obtain ⟨ht, hx⟩ := zip_get hx
    simp only at ht hx
    have hQ := hq i t _ ht hx
    rw [hzl] at hi
    have hA := hQ.2.2.2.2.2.2 n (by omega)
    simp only at hA
    by_cases he : e = 0
    · subst he
      left
      have h00 : ((0 : Int) != 0) = false := rfl
      have hrm : roomP (s.length + 1) 104 = true := roomP_ok (by omega) (by omega)
      have e2 : D.sl 7 (esD (eSps s) ++ [[eS t.name, eI y.op, eI y.e.op, eI y.e.num, eS y.e.name, rowD 4 y.e.nl (Tm.rows y.e.kids), rowD 6 y.nl (Fm.rows y.kids)]]) = eSps (s ++ [⟨t.name, y⟩]) := by simp [eSps, Sp.cells]
      have e3 : (esD (eSps s)).length = s.length := by simp [eSps]
      refine ⟨s ++ [⟨t.name, y⟩], ?_, ?_, by simp [hs]⟩
      · simp only [ref35_Flat_l26, obind_s, og_t, oif_b, pd_0, pd_s, and_ch, or_ch, b_lss, b_leq, b_gtr, b_geq, b_eql, b_neq, s_eql, s_neq, s_lss, u_not, jnX_l, jnX_r, inrX_s, oneP_I, oneP_B, oneP_S, oneP_sl, oneP_row, oneP_nil, one_I, one_B, one_S, one_sl, one_row, one_nil, extP_tup, List.getElem?_cons_zero, List.getElem?_cons_succ, esD_sl, lenP_sl, lenP_row, lenP_nil, elP_sl, ixP_nat, Bool.and_true, Bool.true_and, Bool.and_self, if_true, if_false, Bool.not_true, Bool.not_false, Bool.false_eq_true, flat_eB, flat_eI, flat_eS, Bool.or_true, Bool.true_or, agg2, agg3, agg4, agg5, agg6, agg7, agg8, zB, zI, zS, celsD_agg, mpD_mp, Tm.agg_d, Fm.aggP_d, Fm.cel0, Fm.cel1, Fm.cel2, Fm.cel3, Fm.cel4, Fm.cel5, Fm.agg_d, Fm.atP_cells, Fm.rows_len, eSps_len, decide_eq_true (show ((i : Int) < (ts.length : Int)) by omega), eSps_ix ht, Sp.at1, Sp.at0, hA, h00, e2, e3, ee5, List.length_cons, List.length_nil, Nat.zero_add, hrm, add1 (bt := false) (i := i) (by omega)]
      · simp only [fE, if_true, fI, List.map_cons, List.append_assoc, List.singleton_append]
    · have hne : (e != 0) = true := by simpa using he
      have hidx : r.length - ((((ts.zip r).drop (i + 1)).map (·.2)).length + 1) = i := by rw [map_snd_drop hr, List.length_drop]; omega
      right
      simp only [ref35_Flat_l26, obind_s, og_t, oif_b, pd_0, pd_s, and_ch, or_ch, b_lss, b_leq, b_gtr, b_geq, b_eql, b_neq, s_eql, s_neq, s_lss, u_not, jnX_l, jnX_r, inrX_s, oneP_I, oneP_B, oneP_S, oneP_sl, oneP_row, oneP_nil, one_I, one_B, one_S, one_sl, one_row, one_nil, extP_tup, List.getElem?_cons_zero, List.getElem?_cons_succ, esD_sl, lenP_sl, lenP_row, lenP_nil, elP_sl, ixP_nat, Bool.and_true, Bool.true_and, Bool.and_self, if_true, if_false, Bool.not_true, Bool.not_false, Bool.false_eq_true, flat_eB, flat_eI, flat_eS, Bool.or_true, Bool.true_or, agg2, agg3, agg4, agg5, agg6, agg7, agg8, zB, zI, zS, celsD_agg, mpD_mp, Tm.agg_d, Fm.aggP_d, Fm.cel0, Fm.cel1, Fm.cel2, Fm.cel3, Fm.cel4, Fm.cel5, Fm.agg_d, Fm.atP_cells, Fm.rows_len, eSps_len, decide_eq_true (show ((i : Int) < (ts.length : Int)) by omega), eSps_ix ht, Sp.at1, Sp.at0, hA, hne, List.map_cons, fE, fI, he, if_false, hidx]
end
end Go.Am
