/- The law, joined to the program. No condition. -/
import Derived.Test.YtnhjgipcepnocaaH5A
import Derived.Test.YtnhjgipcepnocaaH5B
set_option linter.all false
set_option linter.unnecessarySimpa false
namespace Go.Am
set_option linter.unusedVariables false
set_option linter.unusedSimpArgs false
theorem aggM0 : aggP 8 M0 = true := rfl
theorem etaM0 : D.agg [celD M0 0, celD M0 1, celD M0 2, celD M0 3, celD M0 4, celD M0 5, celD M0 6, celD M0 7] = M0 := rfl
theorem eta2 (a b : D) : D.agg [celD (.agg [a, b]) 0, celD (.agg [a, b]) 1] = .agg [a, b] := rfl
theorem law_fin1 (n : Nat) (m : Md) (hs : law35_smallL n [m.d] = some (eB true)) (k i e : Int) (a0 a1 a2 a3 a4 a5 a6 a7 b0 b1 b2 b3 b4 b5 b6 b7 : D) (ha : aggP 8 (.agg [a0, a1, a2, a3, a4, a5, a6, a7]) = true) (hb : aggP 8 (.agg [b0, b1, b2, b3, b4, b5, b6, b7]) = true)
    (hA : defs_FlatL n [m.d] = some (.tup [.agg [a0, a1, a2, a3, a4, a5, a6, a7], .agg [eI k, eI i], eI e])) (hB : ref35_FlatL n [m.d] = some (.tup [.agg [b0, b1, b2, b3, b4, b5, b6, b7], .agg [eI k, eI i], eI e]))
    (hS : ref35_SameL n [.agg [a0, a1, a2, a3, a4, a5, a6, a7], .agg [b0, b1, b2, b3, b4, b5, b6, b7]] = some (eB true)) (hL : law35_livesL n [] = some (eB true)) : law35_DefsFlatsL n [m.d] = some (eB true) := by
  generalize hx : D.agg [a0, a1, a2, a3, a4, a5, a6, a7] = x at *
  generalize hy : D.agg [b0, b1, b2, b3, b4, b5, b6, b7] = y at *
  have ex : D.agg [celD x 0, celD x 1, celD x 2, celD x 3, celD x 4, celD x 5, celD x 6, celD x 7] = x := by subst hx; rfl
  have ey : D.agg [celD y 0, celD y 1, celD y 2, celD y 3, celD y 4, celD y 5, celD y 6, celD y 7] = y := by subst hy; rfl
  simp only [law35_DefsFlatsL, law35_DefsFlats, obind_s, og_t, oif_b, pd_0, pd_s, and_ch, or_ch, b_lss, b_leq, b_gtr, b_geq, b_eql, b_neq, s_eql, s_neq, s_lss, u_not, jnX_l, jnX_r, inrX_s, oneP_I, oneP_B, oneP_S, oneP_sl, oneP_row, oneP_nil, one_I, one_B, one_S, one_sl, one_row, one_nil, extP_tup, List.getElem?_cons_zero, List.getElem?_cons_succ, esD_sl, lenP_sl, lenP_row, lenP_nil, elP_sl, ixP_nat, Bool.and_true, Bool.true_and, Bool.and_self, if_true, if_false, Bool.not_true, Bool.not_false, Bool.false_eq_true, flat_eB, flat_eI, flat_eS, Bool.or_true, Bool.true_or, agg2, agg3, agg4, agg5, agg6, agg7, agg8, zB, zI, zS, celsD_agg, mpD_mp, Md.agg, Md.c0, Md.c1, Md.c2, Md.c3, Md.c4, Md.c5, Md.c6, Md.c7, Md.eta, hs, hA, hB, ha, hb, ex, ey, eta2, hS, eqv_P, hL, beq_self_eq_true, cel_0, cel_1]
theorem law_fin0 (n : Nat) (m : Md) (hs : law35_smallL n [m.d] = some (eB true)) (k i e : Int) (hA : defs_FlatL n [m.d] = some (.tup [M0, .agg [eI k, eI i], eI e])) (hB : ref35_FlatL n [m.d] = some (.tup [M0, .agg [eI k, eI i], eI e]))
    (hS : ref35_SameL n [M0, M0] = some (eB true)) (hL : law35_livesL n [] = some (eB true)) : law35_DefsFlatsL n [m.d] = some (eB true) :=
  law_fin1 n m hs k i e NILD NILD NILD NILD NILD NILD NILD NILD NILD NILD NILD NILD NILD NILD NILD NILD rfl rfl hA hB hS hL
theorem DefsFlats_ok (S n : Nat) (m : Md) (hm : m.Ok S) (hn : S + 400000200 < n) : law35_DefsFlatsL n [m.d] = some (eB true) := by
  obtain ⟨n', rfl⟩ : ∃ q, n = q + 200 := ⟨n - 200, by omega⟩
  have hL := lives35_ok n'
  have hS0 : ref35_SameL (n' + 200) [M0, M0] = some (eB true) := same_M0 n'
  generalize n' + 200 = n at *
  have hs := small_ok S n m hm (by omega)
  cases hb : smallB m with
  | false =>
    rw [hb] at hs
    simp only [law35_DefsFlatsL, law35_DefsFlats, obind_s, og_t, oif_b, pd_0, pd_s, and_ch, or_ch, b_lss, b_leq, b_gtr, b_geq, b_eql, b_neq, s_eql, s_neq, s_lss, u_not, jnX_l, jnX_r, inrX_s, oneP_I, oneP_B, oneP_S, oneP_sl, oneP_row, oneP_nil, one_I, one_B, one_S, one_sl, one_row, one_nil, extP_tup, List.getElem?_cons_zero, List.getElem?_cons_succ, esD_sl, lenP_sl, lenP_row, lenP_nil, elP_sl, ixP_nat, Bool.and_true, Bool.true_and, Bool.and_self, if_true, if_false, Bool.not_true, Bool.not_false, Bool.false_eq_true, flat_eB, flat_eI, flat_eS, Bool.or_true, Bool.true_or, agg2, agg3, agg4, agg5, agg6, agg7, agg8, zB, zI, zS, celsD_agg, mpD_mp, Md.agg, Md.c0, Md.c1, Md.c2, Md.c3, Md.c4, Md.c5, Md.c6, Md.c7, Md.eta, hs, hL]
  | true =>
  rw [hb] at hs
  simp only [smallB, Bool.and_eq_true, List.all_eq_true, decide_eq_true_eq] at hb
  obtain ⟨⟨⟨b1, b2⟩, b3⟩, ⟨⟨⟨b4, b5⟩, b6⟩, b7⟩, b8⟩ := hb
  have hdl := fewB_dl b4 fun d hd => ⟨(hm.d.2 d hd).1, by have := (hm.d.2 d hd).2; omega⟩
  have hl8 : m.defs.length ≤ 20 := by simp [fewB] at b4; omega
  have hlen : (m.init ++ m.invar ++ m.trans ++ m.fair).length = m.init.length + m.invar.length + m.trans.length + m.fair.length := by simp; omega
  have hT : ∀ x ∈ m.init ++ m.invar ++ m.trans ++ m.fair, ∃ r, QT m.defs x r := fun x hx => QT_ex hdl hl8 x (hm.t x hx).1 (by have := lightB_sz (b1 x hx) (by have := (hm.t x hx).2; omega); omega)
  have hD : ∀ x ∈ m.next, ∃ r, QT m.defs x.e r := fun x hx => QT_ex hdl hl8 x.e (hm.n.2 x hx).1 (by have := lightB_sz (b2 x hx) (by have := (hm.n.2 x hx).2; omega); omega)
  have hSp : ∀ x ∈ m.specs, ∃ r, QS m.defs x.f r := fun x hx => QS_ex hdl hl8 x.f (hm.s.2 x hx).1 (by have := manyB_sz (b3 x hx) (by omega); omega)
  have hv : m.vars.length ≤ 1000000 := by omega
  obtain ⟨r1, c1, q1⟩ := list_ex (P := QT m.defs) m.init (fun x hx => hT x (by simp [hx]))
  have A1 := defs_all_ok c1 q1 n (by omega) (by omega)
  have B1 := ref35_all_ok c1 q1 n (by omega) (by omega)
  obtain ⟨r2, c2, q2⟩ := list_ex (P := QT m.defs) m.invar (fun x hx => hT x (by simp [hx]))
  have A2 := defs_all_ok c2 q2 n (by omega) (by omega)
  have B2 := ref35_all_ok c2 q2 n (by omega) (by omega)
  obtain ⟨r3, c3, q3⟩ := list_ex (P := fun (x : Df) r => QT m.defs x.e r) m.next hD
  have A3 := defs_nexts_ok c3 q3 n (by omega) (by omega)
  have B3 := ref35_Flat_l11_dat c3 q3 n (by omega) (by omega)
  obtain ⟨r4, c4, q4⟩ := list_ex (P := QT m.defs) m.trans (fun x hx => hT x (by simp [hx]))
  have A4 := defs_all_ok c4 q4 n (by omega) (by omega)
  have B4 := ref35_all_ok c4 q4 n (by omega) (by omega)
  obtain ⟨r5, c5, q5⟩ := list_ex (P := QT m.defs) m.fair (fun x hx => hT x (by simp [hx]))
  have A5 := defs_all_ok c5 q5 n (by omega) (by omega)
  have B5 := ref35_all_ok c5 q5 n (by omega) (by omega)
  obtain ⟨r6, c6, q6⟩ := list_ex (P := fun (x : Sp) r => QS m.defs x.f r) m.specs hSp
  have A6 := defs_specs_ok c6 q6 n (by omega) (by omega)
  have B6 := ref35_Flat_l26_dat c6 q6 n (by omega) (by omega)
  by_cases h1 : fE r1 = 0
  case neg =>
    have ne : (fE r1 != 0) = true := by simpa using h1
    simp only [h1, if_false] at A1 B1
    exact law_fin0 n m hs 3 (fI r1 r1.length) (fE r1) (FlatA1 n m  (fI r1 r1.length) (fE r1) A1 ne) (FlatB1 n m  (fI r1 r1.length) (fE r1) B1 ne) hS0 hL
  simp only [h1, if_true, fI_0 _ _ h1] at A1 B1
  by_cases h2 : fE r2 = 0
  case neg =>
    have ne : (fE r2 != 0) = true := by simpa using h2
    simp only [h2, if_false] at A2 B2
    exact law_fin0 n m hs 4 (fI r2 r2.length) (fE r2) (FlatA2 n m (r1.map (·.1.1)) A1 (fI r2 r2.length) (fE r2) A2 ne) (FlatB2 n m (r1.map (·.1.2)) B1 (fI r2 r2.length) (fE r2) B2 ne) hS0 hL
  simp only [h2, if_true, fI_0 _ _ h2] at A2 B2
  by_cases h3 : fE r3 = 0
  case neg =>
    have ne : (fE r3 != 0) = true := by simpa using h3
    simp only [h3, if_false] at A3 B3
    exact law_fin0 n m hs 5 (fI r3 r3.length) (fE r3) (FlatA3 n m (r1.map (·.1.1)) A1 (r2.map (·.1.1)) A2 (fI r3 r3.length) (fE r3) A3 ne) (FlatB3 n m (r1.map (·.1.2)) B1 (r2.map (·.1.2)) B2 (fI r3 r3.length) (fE r3) B3 ne) hS0 hL
  simp only [h3, if_true, fI_0 _ _ h3] at A3 B3
  by_cases h4 : fE r4 = 0
  case neg =>
    have ne : (fE r4 != 0) = true := by simpa using h4
    simp only [h4, if_false] at A4 B4
    exact law_fin0 n m hs 6 (fI r4 r4.length) (fE r4) (FlatA4 n m (r1.map (·.1.1)) A1 (r2.map (·.1.1)) A2 ((m.next.zip r3).map (fun p => Df.mk p.1.name p.2.1.1)) A3 (fI r4 r4.length) (fE r4) A4 ne) (FlatB4 n m (r1.map (·.1.2)) B1 (r2.map (·.1.2)) B2 ((m.next.zip r3).map (fun p => Df.mk p.1.name p.2.1.2)) B3 (fI r4 r4.length) (fE r4) B4 ne) hS0 hL
  simp only [h4, if_true, fI_0 _ _ h4] at A4 B4
  by_cases h5 : fE r5 = 0
  case neg =>
    have ne : (fE r5 != 0) = true := by simpa using h5
    simp only [h5, if_false] at A5 B5
    exact law_fin0 n m hs 7 (fI r5 r5.length) (fE r5) (FlatA5 n m (r1.map (·.1.1)) A1 (r2.map (·.1.1)) A2 ((m.next.zip r3).map (fun p => Df.mk p.1.name p.2.1.1)) A3 (r4.map (·.1.1)) A4 (fI r5 r5.length) (fE r5) A5 ne) (FlatB5 n m (r1.map (·.1.2)) B1 (r2.map (·.1.2)) B2 ((m.next.zip r3).map (fun p => Df.mk p.1.name p.2.1.2)) B3 (r4.map (·.1.2)) B4 (fI r5 r5.length) (fE r5) B5 ne) hS0 hL
  simp only [h5, if_true, fI_0 _ _ h5] at A5 B5
  by_cases h6 : fE r6 = 0
  case neg =>
    have ne : (fE r6 != 0) = true := by simpa using h6
    simp only [h6, if_false] at A6 B6
    exact law_fin0 n m hs 8 (fI r6 r6.length) (fE r6) (FlatA6 n m (r1.map (·.1.1)) A1 (r2.map (·.1.1)) A2 ((m.next.zip r3).map (fun p => Df.mk p.1.name p.2.1.1)) A3 (r4.map (·.1.1)) A4 (r5.map (·.1.1)) A5 (fI r6 r6.length) (fE r6) A6 ne) (FlatB6 n m (r1.map (·.1.2)) B1 (r2.map (·.1.2)) B2 ((m.next.zip r3).map (fun p => Df.mk p.1.name p.2.1.2)) B3 (r4.map (·.1.2)) B4 (r5.map (·.1.2)) B5 (fI r6 r6.length) (fE r6) B6 ne) hS0 hL
  simp only [h6, if_true, fI_0 _ _ h6] at A6 B6
  refine law_fin1 n m hs 0 0 0 _ _ _ _ _ _ _ _ _ _ _ _ _ _ _ _ rfl rfl (FlatA7 n m (r1.map (·.1.1)) A1 (r2.map (·.1.1)) A2 ((m.next.zip r3).map (fun p => Df.mk p.1.name p.2.1.1)) A3 (r4.map (·.1.1)) A4 (r5.map (·.1.1)) A5 ((m.specs.zip r6).map (fun p => Sp.mk p.1.name p.2.1.1)) A6) (FlatB7 n m (r1.map (·.1.2)) B1 (r2.map (·.1.2)) B2 ((m.next.zip r3).map (fun p => Df.mk p.1.name p.2.1.2)) B3 (r4.map (·.1.2)) B4 (r5.map (·.1.2)) B5 ((m.specs.zip r6).map (fun p => Sp.mk p.1.name p.2.1.2)) B6) ?_ hL
  refine Same_ok n (by omega) m.vars hv _ _ _ _ _ _ _ _ _ _ _ _ (by simp) (by simp [c6]; omega) ?_ rfl rfl rfl rfl rfl rfl rfl rfl rfl rfl (TSame c1 q1 n (by omega) (by omega)) (TSame c2 q2 n (by omega) (by omega)) ?_ (TSame c4 q4 n (by omega) (by omega)) (TSame c5 q5 n (by omega) (by omega))
  · intro j a b ha hb
    obtain ⟨u, v, p1, p2, rfl, rfl⟩ := zmap_get ha hb
    have hQ := q6 j u v p1 p2
    exact ⟨rfl, hQ.1, hQ.2.1, hQ.2.2.1, hQ.2.2.2.2.1⟩
  · refine defs_same n (by omega) _ _ (by simp) (by simp [c3]; omega) ?_
    intro j a b ha hb
    obtain ⟨u, v, p1, p2, rfl, rfl⟩ := zmap_get ha hb
    have hQ := q3 j u v p1 p2
    exact ⟨rfl, hQ.1, hQ.2.1, hQ.2.2.1, hQ.2.2.2.2.1⟩
end Go.Am
