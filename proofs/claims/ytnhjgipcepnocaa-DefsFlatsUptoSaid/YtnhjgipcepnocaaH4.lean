/- The law, joined to the program. No condition. -/
import Derived.Test.YtnhjgipcepnocaaH3
set_option linter.all false
set_option linter.unnecessarySimpa false
namespace Go.Am
set_option linter.unusedVariables false
set_option linter.unusedSimpArgs false
theorem eVs_ix {l : List V} {i : Nat} {v : V} (h : l[i]? = some v) : ixP 4 (eVs l) (eI (i : Int)) = some v.cells := by simp [eVs, h]
theorem eVs_len (l : List V) : lenP (eVs l) = some (eI l.length) := by simp [eVs]
theorem V.at4 (v : V) : atP true 4 0 v.cells = some v.d := rfl
/-! ### Equal modules -/
theorem vars_loop (n : Nat) (vs : List V) (hn : vs.length + 10 < n) (hb : vs.length ≤ 1000000) (a2 a3 a4 a5 a6 a7 a8 b2 b3 b4 b5 b6 b7 b8 : D) : iterL (ref35_Same_l4 n) n [eI 0, eVs vs, a2, a3, a4, a5, a6, a7, a8, eVs vs, b2, b3, b4, b5, b6, b7, b8] = some (.inl [eVs vs, a2, a3, a4, a5, a6, a7, a8, eVs vs, b2, b3, b4, b5, b6, b7, b8]) := by
  have e0 : (eI ((0 : Nat) : Int)) = eI 0 := rfl
  have hl := iterL_list (f := ref35_Same_l4 n) vs (fun i (_ : Unit) => [eI (i : Int), eVs vs, a2, a3, a4, a5, a6, a7, a8, eVs vs, b2, b3, b4, b5, b6, b7, b8]) (fun _ _ => (.inl [eVs vs, a2, a3, a4, a5, a6, a7, a8, eVs vs, b2, b3, b4, b5, b6, b7, b8] : List D ⊕ D)) (fun _ _ => True) ?_ ?_ n 0 () trivial (by omega) (Nat.zero_le _)
  · rw [e0] at hl; exact hl
  · intro s _
    simp only [ref35_Same_l4, obind_s, og_t, oif_b, pd_0, pd_s, and_ch, or_ch, b_lss, b_leq, b_gtr, b_geq, b_eql, b_neq, s_eql, s_neq, s_lss, u_not, jnX_l, jnX_r, inrX_s, oneP_I, oneP_B, oneP_S, oneP_sl, oneP_row, oneP_nil, one_I, one_B, one_S, one_sl, one_row, one_nil, extP_tup, List.getElem?_cons_zero, List.getElem?_cons_succ, esD_sl, lenP_sl, lenP_row, lenP_nil, elP_sl, ixP_nat, Bool.and_true, Bool.true_and, Bool.and_self, if_true, if_false, Bool.not_true, Bool.not_false, Bool.false_eq_true, flat_eB, flat_eI, flat_eS, Bool.or_true, Bool.true_or, agg2, agg3, agg4, agg5, agg6, agg7, agg8, zB, zI, zS, celsD_agg, mpD_mp, eVs_len, decide_eq_false (show ¬ ((vs.length : Int) < vs.length) by omega)]
  · intro i v s hv hi _
    left
    refine ⟨(), ?_, rfl, trivial⟩
    simp only [ref35_Same_l4, obind_s, og_t, oif_b, pd_0, pd_s, and_ch, or_ch, b_lss, b_leq, b_gtr, b_geq, b_eql, b_neq, s_eql, s_neq, s_lss, u_not, jnX_l, jnX_r, inrX_s, oneP_I, oneP_B, oneP_S, oneP_sl, oneP_row, oneP_nil, one_I, one_B, one_S, one_sl, one_row, one_nil, extP_tup, List.getElem?_cons_zero, List.getElem?_cons_succ, esD_sl, lenP_sl, lenP_row, lenP_nil, elP_sl, ixP_nat, Bool.and_true, Bool.true_and, Bool.and_self, if_true, if_false, Bool.not_true, Bool.not_false, Bool.false_eq_true, flat_eB, flat_eI, flat_eS, Bool.or_true, Bool.true_or, agg2, agg3, agg4, agg5, agg6, agg7, agg8, zB, zI, zS, celsD_agg, mpD_mp, eVs_len, decide_eq_true (show ((i : Int) < (vs.length : Int)) by omega), eVs_ix hv, V.at4, eqv_V, add1 (bt := false) (i := i) (by omega)]
theorem specs_loop (n : Nat) (xs ys : List Sp) (hn : 302000000 < n) (h : ys.length = xs.length) (hb : xs.length ≤ 1000000) (hh : ∀ (j : Nat) (a b : Sp), xs[j]? = some a → ys[j]? = some b → a.name = b.name ∧ a.f.Ok ∧ b.f.Ok ∧ a.f.sz ≤ 26000000 ∧ sameF a.f b.f = true) (a1 a2 a3 a4 a5 a6 a7 b1 b2 b3 b4 b5 b6 b7 : D) : iterL (ref35_Same_l9 n) n [eI 0, a1, a2, a3, a4, a5, a6, a7, eSps xs, b1, b2, b3, b4, b5, b6, b7, eSps ys] = some (.inl [a1, a2, a3, a4, a5, a6, a7, eSps xs, b1, b2, b3, b4, b5, b6, b7, eSps ys]) := by
  have e0 : (eI ((0 : Nat) : Int)) = eI 0 := rfl
  have hzl : (xs.zip ys).length = xs.length := by simp [h]
  have hl := iterL_list (f := ref35_Same_l9 n) (xs.zip ys) (fun i (_ : Unit) => [eI (i : Int), a1, a2, a3, a4, a5, a6, a7, eSps xs, b1, b2, b3, b4, b5, b6, b7, eSps ys]) (fun _ _ => (.inl [a1, a2, a3, a4, a5, a6, a7, eSps xs, b1, b2, b3, b4, b5, b6, b7, eSps ys] : List D ⊕ D)) (fun _ _ => True) ?_ ?_ n 0 () trivial (by omega) (Nat.zero_le _)
  · rw [e0] at hl; exact hl
  · intro s _
    rw [hzl]
    simp only [ref35_Same_l9, obind_s, og_t, oif_b, pd_0, pd_s, and_ch, or_ch, b_lss, b_leq, b_gtr, b_geq, b_eql, b_neq, s_eql, s_neq, s_lss, u_not, jnX_l, jnX_r, inrX_s, oneP_I, oneP_B, oneP_S, oneP_sl, oneP_row, oneP_nil, one_I, one_B, one_S, one_sl, one_row, one_nil, extP_tup, List.getElem?_cons_zero, List.getElem?_cons_succ, esD_sl, lenP_sl, lenP_row, lenP_nil, elP_sl, ixP_nat, Bool.and_true, Bool.true_and, Bool.and_self, if_true, if_false, Bool.not_true, Bool.not_false, Bool.false_eq_true, flat_eB, flat_eI, flat_eS, Bool.or_true, Bool.true_or, agg2, agg3, agg4, agg5, agg6, agg7, agg8, zB, zI, zS, celsD_agg, mpD_mp, eSps_len, decide_eq_false (show ¬ ((xs.length : Int) < xs.length) by omega)]
  · rintro i ⟨a, b⟩ s hx hi _
    obtain ⟨ha, hb'⟩ := zip_get hx
    rw [hzl] at hi
    obtain ⟨q0, q1, q2, q3, q4⟩ := hh i a b ha hb'
    have hS := ref32_Same_ok n a.f b.f (by omega) q1 q2
    rw [q4] at hS
    left
    refine ⟨(), ?_, rfl, trivial⟩
    simp only [ref35_Same_l9, obind_s, og_t, oif_b, pd_0, pd_s, and_ch, or_ch, b_lss, b_leq, b_gtr, b_geq, b_eql, b_neq, s_eql, s_neq, s_lss, u_not, jnX_l, jnX_r, inrX_s, oneP_I, oneP_B, oneP_S, oneP_sl, oneP_row, oneP_nil, one_I, one_B, one_S, one_sl, one_row, one_nil, extP_tup, List.getElem?_cons_zero, List.getElem?_cons_succ, esD_sl, lenP_sl, lenP_row, lenP_nil, elP_sl, ixP_nat, Bool.and_true, Bool.true_and, Bool.and_self, if_true, if_false, Bool.not_true, Bool.not_false, Bool.false_eq_true, flat_eB, flat_eI, flat_eS, Bool.or_true, Bool.true_or, agg2, agg3, agg4, agg5, agg6, agg7, agg8, zB, zI, zS, celsD_agg, mpD_mp, eSps_len, decide_eq_true (show ((i : Int) < (xs.length : Int)) by omega), eSps_ix ha, eSps_ix hb', Sp.at0, Sp.at1, q0, decide_true, hS, Bool.or_self, add1 (bt := false) (i := i) (by omega)]
theorem TSame {l : List Df} {ts : List Tm} {r : List ((Tm × Tm) × Int)} (hr : r.length = ts.length) (hq : ∀ (j : Nat) (a : Tm) (b : (Tm × Tm) × Int), ts[j]? = some a → r[j]? = some b → QT l a b) (n : Nat) (hn : 302000000 < n) (hb : ts.length ≤ 1000000) :
    ref35_TermsL n [eTs (r.map (·.1.1)), eTs (r.map (·.1.2))] = some (eB true) := by
  refine terms_same n hn _ _ (by simp) (by simp; omega) ?_
  intro j a b ha hb'
  rw [List.getElem?_map] at ha hb'
  obtain ⟨x, hx, rfl⟩ := Option.map_eq_some_iff.1 ha
  rw [hx] at hb'
  simp only [Option.map_some, Option.some.injEq] at hb'
  subst hb'
  obtain ⟨t, _, hQ, _⟩ := get_ts hr hq hx
  exact ⟨hQ.1, hQ.2.1, hQ.2.2.1, hQ.2.2.2.2.1⟩
theorem zmap_get {α β γ : Type} {a : List α} {b : List β} {p q : α × β → γ} {j : Nat} {x y : γ} (h : ((a.zip b).map p)[j]? = some x) (h' : ((a.zip b).map q)[j]? = some y) : ∃ u v, a[j]? = some u ∧ b[j]? = some v ∧ x = p (u, v) ∧ y = q (u, v) := by
  rw [List.getElem?_map] at h h'
  obtain ⟨⟨u, v⟩, hx, rfl⟩ := Option.map_eq_some_iff.1 h
  rw [hx] at h'
  simp only [Option.map_some, Option.some.injEq] at h'
  obtain ⟨q1, q2⟩ := zip_get hx
  exact ⟨u, v, q1, q2, rfl, h'.symm⟩
theorem Same_ok (n : Nat) (hn : 302000010 < n) (vs : List V) (hv : vs.length ≤ 1000000) (A2 B2 A3 B3 A4 B4 A5 B5 A6 B6 : D) (xs ys : List Sp) (h : ys.length = xs.length) (hb : xs.length ≤ 1000000) (hh : ∀ (j : Nat) (a b : Sp), xs[j]? = some a → ys[j]? = some b → a.name = b.name ∧ a.f.Ok ∧ b.f.Ok ∧ a.f.sz ≤ 26000000 ∧ sameF a.f b.f = true)
    (o2 : A2.one = true) (o3 : A3.one = true) (o4 : A4.one = true) (o5 : A5.one = true) (o6 : A6.one = true) (p2 : B2.one = true) (p3 : B3.one = true) (p4 : B4.one = true) (p5 : B5.one = true) (p6 : B6.one = true)
    (h2 : ref35_TermsL n [A2, B2] = some (eB true)) (h3 : ref35_TermsL n [A3, B3] = some (eB true)) (h4 : ref35_DefsL n [A4, B4] = some (eB true)) (h5 : ref35_TermsL n [A5, B5] = some (eB true)) (h6 : ref35_TermsL n [A6, B6] = some (eB true)) :
    ref35_SameL n [.agg [eVs vs, NILD, A2, A3, A4, A5, A6, eSps xs], .agg [eVs vs, NILD, B2, B3, B4, B5, B6, eSps ys]] = some (eB true) := by
  have hd : ref35_DefsL n [NILD, NILD] = some (eB true) := by
    obtain ⟨q, rfl⟩ : ∃ q, n = q + 3 := ⟨n - 3, by omega⟩
    exact defs_same_nil q
  have c : ∀ (a b c d e f g i : D), celD (.agg [a, b, c, d, e, f, g, i]) 0 = a ∧ celD (.agg [a, b, c, d, e, f, g, i]) 1 = b ∧ celD (.agg [a, b, c, d, e, f, g, i]) 2 = c ∧ celD (.agg [a, b, c, d, e, f, g, i]) 3 = d ∧ celD (.agg [a, b, c, d, e, f, g, i]) 4 = e ∧ celD (.agg [a, b, c, d, e, f, g, i]) 5 = f ∧ celD (.agg [a, b, c, d, e, f, g, i]) 6 = g ∧ celD (.agg [a, b, c, d, e, f, g, i]) 7 = i := fun _ _ _ _ _ _ _ _ => ⟨rfl, rfl, rfl, rfl, rfl, rfl, rfl, rfl⟩
  have hne1 : ((vs.length : Int) != (vs.length : Int)) = false := by simp
  have hne2 : ((xs.length : Int) != (xs.length : Int)) = false := by simp
  simp only [ref35_SameL, ref35_Same, obind_s, og_t, oif_b, pd_0, pd_s, and_ch, or_ch, b_lss, b_leq, b_gtr, b_geq, b_eql, b_neq, s_eql, s_neq, s_lss, u_not, jnX_l, jnX_r, inrX_s, oneP_I, oneP_B, oneP_S, oneP_sl, oneP_row, oneP_nil, one_I, one_B, one_S, one_sl, one_row, one_nil, extP_tup, List.getElem?_cons_zero, List.getElem?_cons_succ, esD_sl, lenP_sl, lenP_row, lenP_nil, elP_sl, ixP_nat, Bool.and_true, Bool.true_and, Bool.and_self, if_true, if_false, Bool.not_true, Bool.not_false, Bool.false_eq_true, flat_eB, flat_eI, flat_eS, Bool.or_true, Bool.true_or, agg2, agg3, agg4, agg5, agg6, agg7, agg8, zB, zI, zS, celsD_agg, mpD_mp, one_eVs, one_eSps, o2, o3, o4, o5, o6, p2, p3, p4, p5, p6, (c _ _ _ _ _ _ _ _).1, (c _ _ _ _ _ _ _ _).2.1, (c _ _ _ _ _ _ _ _).2.2.1, (c _ _ _ _ _ _ _ _).2.2.2.1, (c _ _ _ _ _ _ _ _).2.2.2.2.1, (c _ _ _ _ _ _ _ _).2.2.2.2.2.1, (c _ _ _ _ _ _ _ _).2.2.2.2.2.2.1, (c _ _ _ _ _ _ _ _).2.2.2.2.2.2.2, eVs_len, eSps_len, hne1, h, hne2, Bool.or_self, vars_loop n vs (by omega) hv, specs_loop n xs ys (by omega) h hb hh, hd, h2, h3, h4, h5, h6]
/-! ### Small modules -/
def smallB (m : Md) : Bool := (m.init ++ m.invar ++ m.trans ++ m.fair).all lightB && m.next.all (fun d => lightB d.e) && m.specs.all (fun s => manyB s.f 300) &&
  (fewB m.defs && (decide (((m.init ++ m.invar ++ m.trans ++ m.fair).length : Int) ≤ 30)) && decide ((m.next.length : Int) ≤ 12) && decide ((m.specs.length : Int) ≤ 12) && decide ((m.vars.length : Int) ≤ 20))
structure Md.Ok (S : Nat) (m : Md) : Prop where
  v : m.vars.length ≤ 2000000
  d : m.defs.length ≤ 2000000 ∧ ∀ x ∈ m.defs, x.e.Ok ∧ x.e.sz ≤ 2000000
  t : ∀ x ∈ m.init ++ m.invar ++ m.trans ++ m.fair, x.Ok ∧ x.sz ≤ 2000000
  tl : (m.init ++ m.invar ++ m.trans ++ m.fair).length ≤ 10000000
  n : m.next.length ≤ 2000000 ∧ ∀ x ∈ m.next, x.e.Ok ∧ x.e.sz ≤ 2000000
  s : m.specs.length ≤ 2000000 ∧ ∀ x ∈ m.specs, x.f.Ok ∧ x.f.sz ≤ S
theorem small_ok (S n : Nat) (m : Md) (hm : m.Ok S) (hn : S + 400000000 < n) : law35_smallL n [m.d] = some (eB (smallB m)) := by
  have e0 : (eI ((0 : Nat) : Int)) = eI 0 := rfl
  have ee : ∀ x, D.sl 4 (esD (eTs x)) = eTs x := fun _ => rfl
  have he5 : ∀ x : List Tm, (esD (eTs x)).length = x.length := fun x => by simp [eTs]
  have hlen : (m.init ++ m.invar ++ m.trans ++ m.fair).length = m.init.length + m.invar.length + m.trans.length + m.fair.length := by simp; omega
  have htl := hm.tl
  generalize hall : m.init ++ m.invar ++ m.trans ++ m.fair = all at *
  have l3 := iterL_list (f := law35_small_l3 n) all (fun i (_ : Unit) => [eI (i : Int), eVs m.vars, eDs m.defs, eTs m.init, eTs m.invar, eDs m.next, eTs m.trans, eTs m.fair, eSps m.specs, eTs all])
    (fun q _ => (if q.all lightB then .inl [eVs m.vars, eDs m.defs, eTs m.init, eTs m.invar, eDs m.next, eTs m.trans, eTs m.fair, eSps m.specs, eTs all] else .inr (eB false) : List D ⊕ D)) (fun _ _ => True)
    (fun s _ => by simp only [law35_small_l3, obind_s, og_t, oif_b, pd_0, pd_s, and_ch, or_ch, b_lss, b_leq, b_gtr, b_geq, b_eql, b_neq, s_eql, s_neq, s_lss, u_not, jnX_l, jnX_r, inrX_s, oneP_I, oneP_B, oneP_S, oneP_sl, oneP_row, oneP_nil, one_I, one_B, one_S, one_sl, one_row, one_nil, extP_tup, List.getElem?_cons_zero, List.getElem?_cons_succ, esD_sl, lenP_sl, lenP_row, lenP_nil, elP_sl, ixP_nat, Bool.and_true, Bool.true_and, Bool.and_self, if_true, if_false, Bool.not_true, Bool.not_false, Bool.false_eq_true, flat_eB, flat_eI, flat_eS, Bool.or_true, Bool.true_or, agg2, agg3, agg4, agg5, agg6, agg7, agg8, zB, zI, zS, celsD_agg, mpD_mp, he5, ee, decide_eq_false (show ¬ ((all.length : Int) < all.length) by omega), List.all_nil]) ?_ n 0 () trivial (by omega) (Nat.zero_le _)
  · have l8 := iterL_list (f := law35_small_l8 n) m.next (fun i (_ : Unit) => [eI (i : Int), eVs m.vars, eDs m.defs, eTs m.init, eTs m.invar, eDs m.next, eTs m.trans, eTs m.fair, eSps m.specs, eTs all])
      (fun q _ => (if q.all (fun d => lightB d.e) then .inl [eVs m.vars, eDs m.defs, eTs m.init, eTs m.invar, eDs m.next, eTs m.trans, eTs m.fair, eSps m.specs, eTs all] else .inr (eB false) : List D ⊕ D)) (fun _ _ => True)
      (fun s _ => by simp only [law35_small_l8, obind_s, og_t, oif_b, pd_0, pd_s, and_ch, or_ch, b_lss, b_leq, b_gtr, b_geq, b_eql, b_neq, s_eql, s_neq, s_lss, u_not, jnX_l, jnX_r, inrX_s, oneP_I, oneP_B, oneP_S, oneP_sl, oneP_row, oneP_nil, one_I, one_B, one_S, one_sl, one_row, one_nil, extP_tup, List.getElem?_cons_zero, List.getElem?_cons_succ, esD_sl, lenP_sl, lenP_row, lenP_nil, elP_sl, ixP_nat, Bool.and_true, Bool.true_and, Bool.and_self, if_true, if_false, Bool.not_true, Bool.not_false, Bool.false_eq_true, flat_eB, flat_eI, flat_eS, Bool.or_true, Bool.true_or, agg2, agg3, agg4, agg5, agg6, agg7, agg8, zB, zI, zS, celsD_agg, mpD_mp, eDs_len, ee, decide_eq_false (show ¬ ((m.next.length : Int) < m.next.length) by omega), List.all_nil]) ?_ n 0 () trivial (by have := hm.n.1; omega) (Nat.zero_le _)
    · have l13 := iterL_list (f := law35_small_l13 n) m.specs (fun i (_ : Unit) => [eI (i : Int), eVs m.vars, eDs m.defs, eTs m.init, eTs m.invar, eDs m.next, eTs m.trans, eTs m.fair, eSps m.specs, eTs all])
        (fun q _ => (if q.all (fun s => manyB s.f 300) then .inl [eVs m.vars, eDs m.defs, eTs m.init, eTs m.invar, eDs m.next, eTs m.trans, eTs m.fair, eSps m.specs, eTs all] else .inr (eB false) : List D ⊕ D)) (fun _ _ => True)
        (fun s _ => by simp only [law35_small_l13, obind_s, og_t, oif_b, pd_0, pd_s, and_ch, or_ch, b_lss, b_leq, b_gtr, b_geq, b_eql, b_neq, s_eql, s_neq, s_lss, u_not, jnX_l, jnX_r, inrX_s, oneP_I, oneP_B, oneP_S, oneP_sl, oneP_row, oneP_nil, one_I, one_B, one_S, one_sl, one_row, one_nil, extP_tup, List.getElem?_cons_zero, List.getElem?_cons_succ, esD_sl, lenP_sl, lenP_row, lenP_nil, elP_sl, ixP_nat, Bool.and_true, Bool.true_and, Bool.and_self, if_true, if_false, Bool.not_true, Bool.not_false, Bool.false_eq_true, flat_eB, flat_eI, flat_eS, Bool.or_true, Bool.true_or, agg2, agg3, agg4, agg5, agg6, agg7, agg8, zB, zI, zS, celsD_agg, mpD_mp, eSps_len, ee, decide_eq_false (show ¬ ((m.specs.length : Int) < m.specs.length) by omega), List.all_nil]) ?_ n 0 () trivial (by have := hm.s.1; omega) (Nat.zero_le _)
      · rw [e0, List.drop_zero] at l3 l8 l13
        have hF := law35_few_ok n m.defs (by have := hm.d.1; omega) (by have := hm.d.1; omega) fun d hd => ⟨(hm.d.2 d hd).1, by have := (hm.d.2 d hd).2; omega⟩
        have h04 : decide (0 < 4) = true := rfl
        have r1 : roomP m.init.length 56 = true := roomP_ok (by omega) (by omega)
        have r2 : roomP (m.init.length + m.invar.length) 56 = true := roomP_ok (by omega) (by omega)
        have r3 : roomP (m.init.length + m.invar.length + m.trans.length) 56 = true := roomP_ok (by omega) (by omega)
        have r4 : roomP (m.init.length + m.invar.length + m.trans.length + m.fair.length) 56 = true := roomP_ok (by omega) (by omega)
        have hcat : D.sl 4 (((Tm.rows m.init ++ Tm.rows m.invar) ++ Tm.rows m.trans) ++ Tm.rows m.fair) = eTs all := by
          rw [← hall]; simp [eTs, Tm.rows_map]
        have hel : ∀ x, elP (eTs x) = some (4, Tm.rows x) := fun _ => rfl
        unfold smallB
        rw [hall]
        cases h1 : all.all lightB with
        | false =>
          simp only [h1, Bool.false_eq_true, if_false] at l3
          simp only [law35_smallL, law35_small, obind_s, og_t, oif_b, pd_0, pd_s, and_ch, or_ch, b_lss, b_leq, b_gtr, b_geq, b_eql, b_neq, s_eql, s_neq, s_lss, u_not, jnX_l, jnX_r, inrX_s, oneP_I, oneP_B, oneP_S, oneP_sl, oneP_row, oneP_nil, one_I, one_B, one_S, one_sl, one_row, one_nil, extP_tup, List.getElem?_cons_zero, List.getElem?_cons_succ, esD_sl, lenP_sl, lenP_row, lenP_nil, elP_sl, ixP_nat, Bool.and_true, Bool.true_and, Bool.and_self, if_true, if_false, Bool.not_true, Bool.not_false, Bool.false_eq_true, flat_eB, flat_eI, flat_eS, Bool.or_true, Bool.true_or, agg2, agg3, agg4, agg5, agg6, agg7, agg8, zB, zI, zS, celsD_agg, mpD_mp, Md.agg, Md.c0, Md.c1, Md.c2, Md.c3, Md.c4, Md.c5, Md.c6, Md.c7, hel, true_or, decide_true, h04, List.length_nil, List.nil_append, List.length_append, Tm.rows_len, Nat.zero_add, r1, r2, r3, r4, hcat, l3, Bool.false_and]
        | true =>
        simp only [h1, if_true] at l3
        cases h2 : m.next.all (fun d => lightB d.e) with
        | false =>
          simp only [h2, Bool.false_eq_true, if_false] at l8
          simp only [law35_smallL, law35_small, obind_s, og_t, oif_b, pd_0, pd_s, and_ch, or_ch, b_lss, b_leq, b_gtr, b_geq, b_eql, b_neq, s_eql, s_neq, s_lss, u_not, jnX_l, jnX_r, inrX_s, oneP_I, oneP_B, oneP_S, oneP_sl, oneP_row, oneP_nil, one_I, one_B, one_S, one_sl, one_row, one_nil, extP_tup, List.getElem?_cons_zero, List.getElem?_cons_succ, esD_sl, lenP_sl, lenP_row, lenP_nil, elP_sl, ixP_nat, Bool.and_true, Bool.true_and, Bool.and_self, if_true, if_false, Bool.not_true, Bool.not_false, Bool.false_eq_true, flat_eB, flat_eI, flat_eS, Bool.or_true, Bool.true_or, agg2, agg3, agg4, agg5, agg6, agg7, agg8, zB, zI, zS, celsD_agg, mpD_mp, Md.agg, Md.c0, Md.c1, Md.c2, Md.c3, Md.c4, Md.c5, Md.c6, Md.c7, hel, true_or, decide_true, h04, List.length_nil, List.nil_append, List.length_append, Tm.rows_len, Nat.zero_add, r1, r2, r3, r4, hcat, l3, ee, l8, Bool.false_and, Bool.and_false]
        | true =>
        simp only [h2, if_true] at l8
        cases h3 : m.specs.all (fun s => manyB s.f 300) with
        | false =>
          simp only [h3, Bool.false_eq_true, if_false] at l13
          simp only [law35_smallL, law35_small, obind_s, og_t, oif_b, pd_0, pd_s, and_ch, or_ch, b_lss, b_leq, b_gtr, b_geq, b_eql, b_neq, s_eql, s_neq, s_lss, u_not, jnX_l, jnX_r, inrX_s, oneP_I, oneP_B, oneP_S, oneP_sl, oneP_row, oneP_nil, one_I, one_B, one_S, one_sl, one_row, one_nil, extP_tup, List.getElem?_cons_zero, List.getElem?_cons_succ, esD_sl, lenP_sl, lenP_row, lenP_nil, elP_sl, ixP_nat, Bool.and_true, Bool.true_and, Bool.and_self, if_true, if_false, Bool.not_true, Bool.not_false, Bool.false_eq_true, flat_eB, flat_eI, flat_eS, Bool.or_true, Bool.true_or, agg2, agg3, agg4, agg5, agg6, agg7, agg8, zB, zI, zS, celsD_agg, mpD_mp, Md.agg, Md.c0, Md.c1, Md.c2, Md.c3, Md.c4, Md.c5, Md.c6, Md.c7, hel, true_or, decide_true, h04, List.length_nil, List.nil_append, List.length_append, Tm.rows_len, Nat.zero_add, r1, r2, r3, r4, hcat, l3, ee, l8, l13, Bool.false_and, Bool.and_false]
        | true =>
        simp only [h3, if_true] at l13
        simp only [law35_smallL, law35_small, obind_s, og_t, oif_b, pd_0, pd_s, and_ch, or_ch, b_lss, b_leq, b_gtr, b_geq, b_eql, b_neq, s_eql, s_neq, s_lss, u_not, jnX_l, jnX_r, inrX_s, oneP_I, oneP_B, oneP_S, oneP_sl, oneP_row, oneP_nil, one_I, one_B, one_S, one_sl, one_row, one_nil, extP_tup, List.getElem?_cons_zero, List.getElem?_cons_succ, esD_sl, lenP_sl, lenP_row, lenP_nil, elP_sl, ixP_nat, Bool.and_true, Bool.true_and, Bool.and_self, if_true, if_false, Bool.not_true, Bool.not_false, Bool.false_eq_true, flat_eB, flat_eI, flat_eS, Bool.or_true, Bool.true_or, agg2, agg3, agg4, agg5, agg6, agg7, agg8, zB, zI, zS, celsD_agg, mpD_mp, Md.agg, Md.c0, Md.c1, Md.c2, Md.c3, Md.c4, Md.c5, Md.c6, Md.c7, hel, true_or, decide_true, h04, List.length_nil, List.nil_append, List.length_append, Tm.rows_len, Nat.zero_add, r1, r2, r3, r4, hcat, l3, ee, l8, l13, hF, he5, eDs_len, eSps_len, eVs_len]
      · intro i s _ hs hi _
        have hok := hm.s.2 s (List.mem_of_getElem? hs)
        have hM := ref32_Many_ok n s.f 300 (by omega) hok.1 (by omega) (by omega)
        have := hm.s.1
        cases hb : manyB s.f 300 with
        | true =>
          rw [hb] at hM
          left
          refine ⟨(), ?_, by simp only [List.all_cons, hb, Bool.true_and], trivial⟩
          simp only [law35_small_l13, obind_s, og_t, oif_b, pd_0, pd_s, and_ch, or_ch, b_lss, b_leq, b_gtr, b_geq, b_eql, b_neq, s_eql, s_neq, s_lss, u_not, jnX_l, jnX_r, inrX_s, oneP_I, oneP_B, oneP_S, oneP_sl, oneP_row, oneP_nil, one_I, one_B, one_S, one_sl, one_row, one_nil, extP_tup, List.getElem?_cons_zero, List.getElem?_cons_succ, esD_sl, lenP_sl, lenP_row, lenP_nil, elP_sl, ixP_nat, Bool.and_true, Bool.true_and, Bool.and_self, if_true, if_false, Bool.not_true, Bool.not_false, Bool.false_eq_true, flat_eB, flat_eI, flat_eS, Bool.or_true, Bool.true_or, agg2, agg3, agg4, agg5, agg6, agg7, agg8, zB, zI, zS, celsD_agg, mpD_mp, eSps_len, decide_eq_true (show ((i : Int) < (m.specs.length : Int)) by omega), eSps_ix hs, Sp.at1, hM, ee, add1 (bt := false) (i := i) (by omega)]
        | false =>
          rw [hb] at hM
          right
          simp only [law35_small_l13, obind_s, og_t, oif_b, pd_0, pd_s, and_ch, or_ch, b_lss, b_leq, b_gtr, b_geq, b_eql, b_neq, s_eql, s_neq, s_lss, u_not, jnX_l, jnX_r, inrX_s, oneP_I, oneP_B, oneP_S, oneP_sl, oneP_row, oneP_nil, one_I, one_B, one_S, one_sl, one_row, one_nil, extP_tup, List.getElem?_cons_zero, List.getElem?_cons_succ, esD_sl, lenP_sl, lenP_row, lenP_nil, elP_sl, ixP_nat, Bool.and_true, Bool.true_and, Bool.and_self, if_true, if_false, Bool.not_true, Bool.not_false, Bool.false_eq_true, flat_eB, flat_eI, flat_eS, Bool.or_true, Bool.true_or, agg2, agg3, agg4, agg5, agg6, agg7, agg8, zB, zI, zS, celsD_agg, mpD_mp, eSps_len, decide_eq_true (show ((i : Int) < (m.specs.length : Int)) by omega), eSps_ix hs, Sp.at1, hM, List.all_cons, hb, Bool.false_and]
    · intro i d _ hd hi _
      have hok := hm.n.2 d (List.mem_of_getElem? hd)
      have hM := law30_Light_ok n d.e (by omega) hok.1
      have := hm.n.1
      cases hb : lightB d.e with
      | true =>
        rw [hb] at hM
        left
        refine ⟨(), ?_, by simp only [List.all_cons, hb, Bool.true_and], trivial⟩
        simp only [law35_small_l8, obind_s, og_t, oif_b, pd_0, pd_s, and_ch, or_ch, b_lss, b_leq, b_gtr, b_geq, b_eql, b_neq, s_eql, s_neq, s_lss, u_not, jnX_l, jnX_r, inrX_s, oneP_I, oneP_B, oneP_S, oneP_sl, oneP_row, oneP_nil, one_I, one_B, one_S, one_sl, one_row, one_nil, extP_tup, List.getElem?_cons_zero, List.getElem?_cons_succ, esD_sl, lenP_sl, lenP_row, lenP_nil, elP_sl, ixP_nat, Bool.and_true, Bool.true_and, Bool.and_self, if_true, if_false, Bool.not_true, Bool.not_false, Bool.false_eq_true, flat_eB, flat_eI, flat_eS, Bool.or_true, Bool.true_or, agg2, agg3, agg4, agg5, agg6, agg7, agg8, zB, zI, zS, celsD_agg, mpD_mp, eDs_len, decide_eq_true (show ((i : Int) < (m.next.length : Int)) by omega), eDs_ix hd, Df.at1, hM, ee, add1 (bt := false) (i := i) (by omega)]
      | false =>
        rw [hb] at hM
        right
        simp only [law35_small_l8, obind_s, og_t, oif_b, pd_0, pd_s, and_ch, or_ch, b_lss, b_leq, b_gtr, b_geq, b_eql, b_neq, s_eql, s_neq, s_lss, u_not, jnX_l, jnX_r, inrX_s, oneP_I, oneP_B, oneP_S, oneP_sl, oneP_row, oneP_nil, one_I, one_B, one_S, one_sl, one_row, one_nil, extP_tup, List.getElem?_cons_zero, List.getElem?_cons_succ, esD_sl, lenP_sl, lenP_row, lenP_nil, elP_sl, ixP_nat, Bool.and_true, Bool.true_and, Bool.and_self, if_true, if_false, Bool.not_true, Bool.not_false, Bool.false_eq_true, flat_eB, flat_eI, flat_eS, Bool.or_true, Bool.true_or, agg2, agg3, agg4, agg5, agg6, agg7, agg8, zB, zI, zS, celsD_agg, mpD_mp, eDs_len, decide_eq_true (show ((i : Int) < (m.next.length : Int)) by omega), eDs_ix hd, Df.at1, hM, List.all_cons, hb, Bool.false_and]
  · intro i t _ ht hi _
    have hok := hm.t t (by rw [hall]; exact List.mem_of_getElem? ht)
    have hM := law30_Light_ok n t (by omega) hok.1
    have hnp : numP all.length (eI (i : Int)) = some i := by rw [numP_nat, if_pos hi]
    have hrow : (esD (eTs all))[i]? = some t.cells := by simp [eTs, Tm.rows_get ht]
    cases hb : lightB t with
    | true =>
      rw [hb] at hM
      left
      refine ⟨(), ?_, by simp only [List.all_cons, hb, Bool.true_and], trivial⟩
      simp only [law35_small_l3, obind_s, og_t, oif_b, pd_0, pd_s, and_ch, or_ch, b_lss, b_leq, b_gtr, b_geq, b_eql, b_neq, s_eql, s_neq, s_lss, u_not, jnX_l, jnX_r, inrX_s, oneP_I, oneP_B, oneP_S, oneP_sl, oneP_row, oneP_nil, one_I, one_B, one_S, one_sl, one_row, one_nil, extP_tup, List.getElem?_cons_zero, List.getElem?_cons_succ, esD_sl, lenP_sl, lenP_row, lenP_nil, elP_sl, ixP_nat, Bool.and_true, Bool.true_and, Bool.and_self, if_true, if_false, Bool.not_true, Bool.not_false, Bool.false_eq_true, flat_eB, flat_eI, flat_eS, Bool.or_true, Bool.true_or, agg2, agg3, agg4, agg5, agg6, agg7, agg8, zB, zI, zS, celsD_agg, mpD_mp, Tm.aggP_d, Tm.cel0, Tm.cel1, Tm.cel2, Tm.cel3, Tm.agg_d, Tm.atP_cells, Tm.rows_len, he5, decide_eq_true (show ((i : Int) < (all.length : Int)) by omega), hnp, hrow, hM, ee, add1 (bt := false) (i := i) (by omega)]
    | false =>
      rw [hb] at hM
      right
      simp only [law35_small_l3, obind_s, og_t, oif_b, pd_0, pd_s, and_ch, or_ch, b_lss, b_leq, b_gtr, b_geq, b_eql, b_neq, s_eql, s_neq, s_lss, u_not, jnX_l, jnX_r, inrX_s, oneP_I, oneP_B, oneP_S, oneP_sl, oneP_row, oneP_nil, one_I, one_B, one_S, one_sl, one_row, one_nil, extP_tup, List.getElem?_cons_zero, List.getElem?_cons_succ, esD_sl, lenP_sl, lenP_row, lenP_nil, elP_sl, ixP_nat, Bool.and_true, Bool.true_and, Bool.and_self, if_true, if_false, Bool.not_true, Bool.not_false, Bool.false_eq_true, flat_eB, flat_eI, flat_eS, Bool.or_true, Bool.true_or, agg2, agg3, agg4, agg5, agg6, agg7, agg8, zB, zI, zS, celsD_agg, mpD_mp, Tm.aggP_d, Tm.cel0, Tm.cel1, Tm.cel2, Tm.cel3, Tm.agg_d, Tm.atP_cells, Tm.rows_len, he5, decide_eq_true (show ((i : Int) < (all.length : Int)) by omega), hnp, hrow, hM, List.all_cons, hb, Bool.false_and]
end Go.Am
