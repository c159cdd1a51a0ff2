/- The law, joined to the program. No condition. -/
import Derived.Test.YtnhjgipcepnocaaLaws
set_option linter.all false
set_option linter.unnecessarySimpa false
namespace Go.Am
set_option linter.unusedVariables false
set_option linter.unusedSimpArgs false
theorem name_ok (n : Nat) (s : ByteArray) : law35_nameL n [eS s] = some (Tm.mk 3 0 s true []).d := by
  simp only [law35_nameL, law35_name, obind_s, og_t, oif_b, pd_0, pd_s, and_ch, or_ch, b_lss, b_leq, b_gtr, b_geq, b_eql, b_neq, s_eql, s_neq, s_lss, u_not, jnX_l, jnX_r, inrX_s, oneP_I, oneP_B, oneP_S, oneP_sl, oneP_row, oneP_nil, one_I, one_B, one_S, one_sl, one_row, one_nil, extP_tup, List.getElem?_cons_zero, List.getElem?_cons_succ, esD_sl, lenP_sl, lenP_row, lenP_nil, elP_sl, ixP_nat, Bool.and_true, Bool.true_and, Bool.and_self, if_true, if_false, Bool.not_true, Bool.not_false, Bool.false_eq_true, flat_eB, flat_eI, flat_eS, Bool.or_true, Bool.true_or, agg2, agg3, agg4, agg5, agg6, agg7, agg8, zB, zI, zS, celsD_agg, mpD_mp]; rfl
theorem num_ok (n : Nat) (v : Int) : law35_numL n [eI v] = some (Tm.mk 1 v ⟨#[]⟩ true []).d := by
  simp only [law35_numL, law35_num, obind_s, og_t, oif_b, pd_0, pd_s, and_ch, or_ch, b_lss, b_leq, b_gtr, b_geq, b_eql, b_neq, s_eql, s_neq, s_lss, u_not, jnX_l, jnX_r, inrX_s, oneP_I, oneP_B, oneP_S, oneP_sl, oneP_row, oneP_nil, one_I, one_B, one_S, one_sl, one_row, one_nil, extP_tup, List.getElem?_cons_zero, List.getElem?_cons_succ, esD_sl, lenP_sl, lenP_row, lenP_nil, elP_sl, ixP_nat, Bool.and_true, Bool.true_and, Bool.and_self, if_true, if_false, Bool.not_true, Bool.not_false, Bool.false_eq_true, flat_eB, flat_eI, flat_eS, Bool.or_true, Bool.true_or, agg2, agg3, agg4, agg5, agg6, agg7, agg8, zB, zI, zS, celsD_agg, mpD_mp]; rfl
theorem two_ok (n : Nat) (o : Int) (a b : Tm) : law35_twoL n [eI o, a.d, b.d] = some (Tm.mk o 0 ⟨#[]⟩ false [a, b]).d := by
  simp only [law35_twoL, law35_two, obind_s, og_t, oif_b, pd_0, pd_s, and_ch, or_ch, b_lss, b_leq, b_gtr, b_geq, b_eql, b_neq, s_eql, s_neq, s_lss, u_not, jnX_l, jnX_r, inrX_s, oneP_I, oneP_B, oneP_S, oneP_sl, oneP_row, oneP_nil, one_I, one_B, one_S, one_sl, one_row, one_nil, extP_tup, List.getElem?_cons_zero, List.getElem?_cons_succ, esD_sl, lenP_sl, lenP_row, lenP_nil, elP_sl, ixP_nat, Bool.and_true, Bool.true_and, Bool.and_self, if_true, if_false, Bool.not_true, Bool.not_false, Bool.false_eq_true, flat_eB, flat_eI, flat_eS, Bool.or_true, Bool.true_or, agg2, agg3, agg4, agg5, agg6, agg7, agg8, zB, zI, zS, celsD_agg, mpD_mp, Tm.aggP_d, Tm.cel0, Tm.cel1, Tm.cel2, Tm.cel3, Tm.agg_d, Tm.atP_cells, Tm.rows_len]
  show some (D.agg [eI o, eI 0, eS ⟨#[]⟩, _]) = some (D.agg [eI o, eI 0, eS ⟨#[]⟩, rowD 4 false [a.cells, b.cells]])
  rw [rowD_f, a.cells_eq, b.cells_eq]
theorem u8_rem (a : Int) : binP false .rem (D.val (.int .u8 a)) (D.val (.int .u8 3)) = some (D.val (.int .u8 (a.tmod 3))) := by
  simp [binP, intBin, toDo]
theorem u8_eql (a b : Int) : binP false .eql (D.val (.int .u8 a)) (D.val (.int .u8 b)) = some (eB (a == b)) := rfl
def nm35 (i : Nat) : ByteArray := ⟨#[120]⟩ ++ (⟨#[97, 98, 99, 100, 101, 102, 103, 104, 105, 106, 107, 108, 109, 110, 111]⟩ : ByteArray).extract i (i + 1)
theorem nm35_ok : ∀ i : Nat, i < 15 → (nm35 i).size ≤ 100 := by decide
theorem nm35_sub (i : Nat) (h : i < 15) : subsP (eS ⟨#[97, 98, 99, 100, 101, 102, 103, 104, 105, 106, 107, 108, 109, 110, 111]⟩) (some (eI (i : Int))) (some (eI ((i + 1 : Nat) : Int))) = some (eS ((⟨#[97, 98, 99, 100, 101, 102, 103, 104, 105, 106, 107, 108, 109, 110, 111]⟩ : ByteArray).extract i (i + 1))) := by
  have h1 : (⟨#[97, 98, 99, 100, 101, 102, 103, 104, 105, 106, 107, 108, 109, 110, 111]⟩ : ByteArray).size = 15 := rfl
  simp only [subsP, eS, eI, bndP, h1]
  rw [if_pos (by omega), if_pos (by omega)]
  simp only [Int.toNat_natCast]
  rw [if_pos (by omega)]
theorem nm35_add (i : Nat) (h : i < 15) : binP false .add (eS ⟨#[120]⟩) (eS ((⟨#[97, 98, 99, 100, 101, 102, 103, 104, 105, 106, 107, 108, 109, 110, 111]⟩ : ByteArray).extract i (i + 1))) = some (eS (nm35 i)) := by
  have h1 : (⟨#[97, 98, 99, 100, 101, 102, 103, 104, 105, 106, 107, 108, 109, 110, 111]⟩ : ByteArray).size = 15 := rfl
  have h2 : (⟨#[120]⟩ : ByteArray).size = 1 := rfl
  simp only [binP, strBin, eS, toDo, nm35, ByteArray.size_extract, h1, h2]
  have h3 : IntKind.i64.max = 9223372036854775807 := rfl
  rw [if_neg (by rw [h3]; omega)]
theorem dbl4_ok (n : Nat) (A : D) (op : Int) (K : Nat) (hK : K ≤ 15) : ∀ (m q : Nat) (L : List Df), L.length = q + 1 → (∀ d ∈ L, d.e.Ok ∧ d.e.sz ≤ 20 ∧ d.name.size ≤ 100) → K - (q + 1) < m → q + 1 ≤ K →
    ∃ L', iterL (law35_DefsDoubles_l4 n) m [A, D.val (.int .u8 op), eI (K : Int), eI ((q + 1 : Nat) : Int), eDs L] = some (.inl [A, D.val (.int .u8 op), eDs L']) ∧ L'.length = K ∧ ∀ d ∈ L', d.e.Ok ∧ d.e.sz ≤ 20 ∧ d.name.size ≤ 100
  | 0, _, _, _, _, h, _ => absurd h (Nat.not_lt_zero _)
  | m + 1, q, L, hL, hd, hm, hq => by
    have ee : ∀ x, D.sl 5 (esD (eDs x)) = eDs x := fun _ => rfl
    have e5 : ∀ x : List Df, (esD (eDs x)).length = x.length := fun x => by simp [eDs]
    rw [iterL_s]
    by_cases hk : q + 1 < K
    · have hsub : binP false .sub (eI ((q + 1 : Nat) : Int)) (eI 1) = some (eI (q : Int)) := by
        rw [b_sub (by omega) (by omega)]; congr 2; omega
      obtain ⟨d, hdq⟩ : ∃ d, L[q]? = some d := ⟨L[q]'(by omega), List.getElem?_eq_getElem (by omega)⟩
      have hdm := hd d (List.mem_of_getElem? hdq)
      have hnp : numP L.length (eI (q : Int)) = some q := by rw [numP_nat, if_pos (by omega)]
      have hrow : (esD (eDs L))[q]? = some d.cells := by simp [eDs, hdq]
      have hrm : roomP (L.length + 1) 72 = true := roomP_ok (by omega) (by omega)
      have hsn : ∀ (t : Tm), D.sl 5 (esD (eDs L) ++ [[eS (nm35 (q + 1)), eI t.op, eI t.num, eS t.name, rowD 4 t.nl (Tm.rows t.kids)]]) = eDs (L ++ [⟨nm35 (q + 1), t⟩]) := by
        intro t; simp [eDs, Df.cells]
      have ha5 : ∀ (t : Tm), aggP 5 (D.agg [eS (nm35 (q + 1)), eI t.op, eI t.num, eS t.name, rowD 4 t.nl (Tm.rows t.kids)]) = true := by intro t; simp
      have nOk : (Tm.mk 3 0 d.name true []).Ok := .mk _ _ _ _ _ (by omega) (by omega) (by omega) (by simp) (by simp)
      have numOk : (Tm.mk 1 1 ⟨#[]⟩ true []).Ok := .mk _ _ _ _ _ (by omega) (by omega) (by decide) (by simp) (by simp)
      have hstep : ∃ t : Tm, t.Ok ∧ t.sz ≤ 20 ∧ law35_DefsDoubles_l4 n [A, D.val (.int .u8 op), eI (K : Int), eI ((q + 1 : Nat) : Int), eDs L] = some (.inl [A, D.val (.int .u8 op), eI (K : Int), eI ((q + 1 + 1 : Nat) : Int), eDs (L ++ [⟨nm35 (q + 1), t⟩])]) := by
        cases hop : (op.tmod 3 == 1)
        · refine ⟨.mk 14 0 ⟨#[]⟩ false [.mk 3 0 d.name true [], .mk 3 0 d.name true []], .mk _ _ _ _ _ (by omega) (by omega) (by decide) (by simp) (by intro k hk; simp at hk; subst hk; exact nOk), (by show 2 + (1 + 2 + (1 + 2 + 0)) ≤ 20; omega), ?_⟩
          simp only [law35_DefsDoubles_l4, obind_s, og_t, oif_b, pd_0, pd_s, and_ch, or_ch, b_lss, b_leq, b_gtr, b_geq, b_eql, b_neq, s_eql, s_neq, s_lss, u_not, jnX_l, jnX_r, inrX_s, oneP_I, oneP_B, oneP_S, oneP_sl, oneP_row, oneP_nil, one_I, one_B, one_S, one_sl, one_row, one_nil, extP_tup, List.getElem?_cons_zero, List.getElem?_cons_succ, esD_sl, lenP_sl, lenP_row, lenP_nil, elP_sl, ixP_nat, Bool.and_true, Bool.true_and, Bool.and_self, if_true, if_false, Bool.not_true, Bool.not_false, Bool.false_eq_true, flat_eB, flat_eI, flat_eS, Bool.or_true, Bool.true_or, agg2, agg3, agg4, agg5, agg6, agg7, agg8, zB, zI, zS, celsD_agg, mpD_mp, Tm.aggP_d, Tm.cel0, Tm.cel1, Tm.cel2, Tm.cel3, Tm.agg_d, Tm.atP_cells, Tm.rows_len, decide_eq_true (show (((q + 1 : Nat) : Int) < (K : Int)) by omega), hsub, e5, hnp, hrow, Df.at0, name_ok, two_ok, u8_rem, u8_eql, hop, add1 (bt := false) (i := q + 1) (by omega), nm35_sub (q + 1) (by omega), nm35_add (q + 1) (by omega), hsn, ha5, ee, List.length_cons, List.length_nil, Nat.zero_add, hrm]
        · refine ⟨.mk 14 0 ⟨#[]⟩ false [.mk 3 0 d.name true [], .mk 1 1 ⟨#[]⟩ true []], .mk _ _ _ _ _ (by omega) (by omega) (by decide) (by simp) (by intro k hk; simp at hk; rcases hk with rfl | rfl; exact nOk; exact numOk), (by show 2 + (1 + 2 + (1 + 2 + 0)) ≤ 20; omega), ?_⟩
          simp only [law35_DefsDoubles_l4, obind_s, og_t, oif_b, pd_0, pd_s, and_ch, or_ch, b_lss, b_leq, b_gtr, b_geq, b_eql, b_neq, s_eql, s_neq, s_lss, u_not, jnX_l, jnX_r, inrX_s, oneP_I, oneP_B, oneP_S, oneP_sl, oneP_row, oneP_nil, one_I, one_B, one_S, one_sl, one_row, one_nil, extP_tup, List.getElem?_cons_zero, List.getElem?_cons_succ, esD_sl, lenP_sl, lenP_row, lenP_nil, elP_sl, ixP_nat, Bool.and_true, Bool.true_and, Bool.and_self, if_true, if_false, Bool.not_true, Bool.not_false, Bool.false_eq_true, flat_eB, flat_eI, flat_eS, Bool.or_true, Bool.true_or, agg2, agg3, agg4, agg5, agg6, agg7, agg8, zB, zI, zS, celsD_agg, mpD_mp, Tm.aggP_d, Tm.cel0, Tm.cel1, Tm.cel2, Tm.cel3, Tm.agg_d, Tm.atP_cells, Tm.rows_len, decide_eq_true (show (((q + 1 : Nat) : Int) < (K : Int)) by omega), hsub, e5, hnp, hrow, Df.at0, name_ok, num_ok, two_ok, u8_rem, u8_eql, hop, add1 (bt := false) (i := q + 1) (by omega), nm35_sub (q + 1) (by omega), nm35_add (q + 1) (by omega), hsn, ha5, ee, List.length_cons, List.length_nil, Nat.zero_add, hrm]
      obtain ⟨t, t1, t2, t3⟩ := hstep
      have hnm := nm35_ok (q + 1) (by omega)
      obtain ⟨L', g1, g2, g3⟩ := dbl4_ok n A op K hK m (q + 1) (L ++ [⟨nm35 (q + 1), t⟩]) (by simp [hL]) (by
        intro x hx
        rcases List.mem_append.1 hx with hx | hx
        · exact hd x hx
        · simp at hx; subst hx; exact ⟨t1, t2, hnm⟩) (by omega) hk
      exact ⟨L', by rw [t3]; exact g1, g2, g3⟩
    · have : q + 1 = K := by omega
      subst this
      refine ⟨L, ?_, hL, hd⟩
      simp only [law35_DefsDoubles_l4, obind_s, og_t, oif_b, pd_0, pd_s, and_ch, or_ch, b_lss, b_leq, b_gtr, b_geq, b_eql, b_neq, s_eql, s_neq, s_lss, u_not, jnX_l, jnX_r, inrX_s, oneP_I, oneP_B, oneP_S, oneP_sl, oneP_row, oneP_nil, one_I, one_B, one_S, one_sl, one_row, one_nil, extP_tup, List.getElem?_cons_zero, List.getElem?_cons_succ, esD_sl, lenP_sl, lenP_row, lenP_nil, elP_sl, ixP_nat, Bool.and_true, Bool.true_and, Bool.and_self, if_true, if_false, Bool.not_true, Bool.not_false, Bool.false_eq_true, flat_eB, flat_eI, flat_eS, Bool.or_true, Bool.true_or, agg2, agg3, agg4, agg5, agg6, agg7, agg8, zB, zI, zS, celsD_agg, mpD_mp, decide_eq_false (show ¬ (((q + 1 : Nat) : Int) < ((q + 1 : Nat) : Int)) by omega), ee]
theorem dbl14_ok (n : Nat) (many : Int) (h1 : 0 ≤ many) (h2 : many ≤ 255) (L : List Df) (K : Nat) (hK : (K : Int) = 63 - many.tdiv 8) (hK2 : K ≤ 63) : ∀ (m j : Nat) (t : Tm), t.Ok → K - j < m → j ≤ K →
    ∃ t' : Tm, iterL (law35_DefsDoubles_l14 n) m [D.val (.int .u8 many), eI (j : Int), eDs L, eI t.op, eI t.num, eS t.name, rowD 4 t.nl (Tm.rows t.kids)] = some (.inl [eDs L, eI t'.op, eI t'.num, eS t'.name, rowD 4 t'.nl (Tm.rows t'.kids)]) ∧ t'.Ok ∧ t'.sz ≤ t.sz + 3 * (K - j)
  | 0, _, _, _, h, _ => absurd h (Nat.not_lt_zero _)
  | m + 1, j, t, hok, hm, hj => by
    have ee : ∀ x, D.sl 5 (esD (eDs x)) = eDs x := fun _ => rfl
    have hcv : cvP .i64 (.val (.int .u8 many)) = some (eI many) := by
      show some (D.val (.int .i64 (IntKind.i64.wrap many))) = _
      rw [wrap64 _ (by omega) (by omega)]; rfl
    have hq : binP false .quo (eI many) (eI 8) = some (eI (many.tdiv 8)) := by
      rw [b_quo (by omega), wrap64 _ (by omega) (by omega)]
    have hs : binP false .sub (eI 63) (eI (many.tdiv 8)) = some (eI (K : Int)) := by
      rw [b_sub (by omega) (by omega), ← hK]
    rw [iterL_s]
    by_cases hjk : j < K
    · let t1 : Tm := .mk 5 0 ⟨#[]⟩ false [t]
      have t1ok : t1.Ok := .mk _ _ _ _ _ (by omega) (by omega) (by decide) (by simp) (by intro k hk; simp at hk; subst hk; exact hok)
      have t1sz : t1.sz = t.sz + 3 := by show 2 + (1 + t.sz + 0) = _; omega
      obtain ⟨t', g1, g2, g3⟩ := dbl14_ok n many h1 h2 L K hK hK2 m (j + 1) t1 t1ok (by omega) hjk
      refine ⟨t', ?_, g2, by omega⟩
      rw [← g1]
      have e1 : [eI t1.op, eI t1.num, eS t1.name, rowD 4 t1.nl (Tm.rows t1.kids)] = [eI 5, eI 0, eS ⟨#[]⟩, D.sl 4 [[eI t.op, eI t.num, eS t.name, rowD 4 t.nl (Tm.rows t.kids)]]] := by
        show [eI 5, eI 0, eS ⟨#[]⟩, rowD 4 false [t.cells]] = _
        rw [rowD_f, Tm.cells_eq]
      rw [e1]
      simp only [law35_DefsDoubles_l14, obind_s, og_t, oif_b, pd_0, pd_s, and_ch, or_ch, b_lss, b_leq, b_gtr, b_geq, b_eql, b_neq, s_eql, s_neq, s_lss, u_not, jnX_l, jnX_r, inrX_s, oneP_I, oneP_B, oneP_S, oneP_sl, oneP_row, oneP_nil, one_I, one_B, one_S, one_sl, one_row, one_nil, extP_tup, List.getElem?_cons_zero, List.getElem?_cons_succ, esD_sl, lenP_sl, lenP_row, lenP_nil, elP_sl, ixP_nat, Bool.and_true, Bool.true_and, Bool.and_self, if_true, if_false, Bool.not_true, Bool.not_false, Bool.false_eq_true, flat_eB, flat_eI, flat_eS, Bool.or_true, Bool.true_or, agg2, agg3, agg4, agg5, agg6, agg7, agg8, zB, zI, zS, celsD_agg, mpD_mp, hcv, hq, hs, decide_eq_true (show ((j : Int) < (K : Int)) by omega), add1 (bt := false) (i := j) (by omega), ee]
    · have : j = K := by omega
      subst this
      refine ⟨t, ?_, hok, by omega⟩
      simp only [law35_DefsDoubles_l14, obind_s, og_t, oif_b, pd_0, pd_s, and_ch, or_ch, b_lss, b_leq, b_gtr, b_geq, b_eql, b_neq, s_eql, s_neq, s_lss, u_not, jnX_l, jnX_r, inrX_s, oneP_I, oneP_B, oneP_S, oneP_sl, oneP_row, oneP_nil, one_I, one_B, one_S, one_sl, one_row, one_nil, extP_tup, List.getElem?_cons_zero, List.getElem?_cons_succ, esD_sl, lenP_sl, lenP_row, lenP_nil, elP_sl, ixP_nat, Bool.and_true, Bool.true_and, Bool.and_self, if_true, if_false, Bool.not_true, Bool.not_false, Bool.false_eq_true, flat_eB, flat_eI, flat_eS, Bool.or_true, Bool.true_or, agg2, agg3, agg4, agg5, agg6, agg7, agg8, zB, zI, zS, celsD_agg, mpD_mp, hcv, hq, hs, decide_eq_false (show ¬ ((j : Int) < (j : Int)) by omega), ee]
theorem DefsDoubles_ok (n : Nat) (many op : Int) (h1 : 0 ≤ many) (h2 : many ≤ 255) (hn : 400000000 < n) : law35_DefsDoublesL n [D.val (.int .u8 many), D.val (.int .u8 op)] = some (eB true) := by
  obtain ⟨n', rfl⟩ : ∃ q, n = q + 200 := ⟨n - 200, by omega⟩
  have hL := lives35_ok n'
  generalize n' + 200 = n at *
  have ee : ∀ x, D.sl 5 (esD (eDs x)) = eDs x := fun _ => rfl
  have e5 : ∀ x : List Df, (esD (eDs x)).length = x.length := fun x => by simp [eDs]
  have hcv : cvP .i64 (.val (.int .u8 many)) = some (eI many) := by
    show some (D.val (.int .i64 (IntKind.i64.wrap many))) = _
    rw [wrap64 _ (by omega) (by omega)]; rfl
  obtain ⟨K, hK, hK1, hK2⟩ : ∃ K : Nat, (K : Int) = 1 + many.tmod 15 ∧ 1 ≤ K ∧ K ≤ 15 := by
    have := Int.tmod_nonneg 15 h1
    have := Int.tmod_lt_of_pos many (show (0 : Int) < 15 by omega)
    exact ⟨(1 + many.tmod 15).toNat, by omega, by omega, by omega⟩
  have hrem : binP false .rem (eI many) (eI 15) = some (eI (many.tmod 15)) := b_rem (by omega)
  have hadd : binP false .add (eI 1) (eI (many.tmod 15)) = some (eI (K : Int)) := by rw [b_add (by omega) (by omega), ← hK]
  let d0 : Df := ⟨⟨#[120, 48]⟩, .mk 1 1 ⟨#[]⟩ true []⟩
  have d0ok : d0.e.Ok := .mk _ _ _ _ _ (by omega) (by omega) (by decide) (by simp) (by simp)
  obtain ⟨L, g1, g2, g3⟩ := dbl4_ok n (D.val (.int .u8 many)) op K hK2 n 0 [d0] rfl (by intro d hd; simp at hd; subst hd; exact ⟨d0ok, by decide, by decide⟩) (by omega) (by omega)
  have e1 : eI ((0 + 1 : Nat) : Int) = eI 1 := rfl
  rw [e1] at g1
  have hdl : DL 12300 L := ⟨by omega, fun d hd => ⟨(g3 d hd).1, by have := (g3 d hd).2.1; omega⟩, by omega⟩
  have hsub : binP false .sub (eI (L.length : Int)) (eI 1) = some (eI ((K - 1 : Nat) : Int)) := by
    rw [b_sub (by omega) (by omega)]; congr 2; omega
  obtain ⟨d, hdq⟩ : ∃ d, L[K - 1]? = some d := ⟨L[K - 1]'(by omega), List.getElem?_eq_getElem (by omega)⟩
  have hdm := g3 d (List.mem_of_getElem? hdq)
  have hnp : numP L.length (eI ((K - 1 : Nat) : Int)) = some (K - 1) := by rw [numP_nat, if_pos (by omega)]
  have hrow : (esD (eDs L))[K - 1]? = some d.cells := by simp [eDs, hdq]
  have nOk : (Tm.mk 3 0 d.name true []).Ok := .mk _ _ _ _ _ (by omega) (by omega) (by omega) (by simp) (by simp)
  have e0 : (eI ((0 : Nat) : Int)) = eI 0 := rfl
  have hrows : ∀ (x : Tm), D.agg [eI x.op, eI x.num, eS x.name, rowD 4 x.nl (Tm.rows x.kids)] = x.d := Tm.agg_d
  have hfin : ∀ t : Tm, t.Ok → t.sz ≤ 12300 → ∃ (x y : Tm) (e : Int), defs_InlineL n [t.d, eDs L] = some (.tup [x.d, eI e]) ∧ ref35_InlineL n [t.d, eDs L] = some (.tup [y.d, eI e]) ∧ ref30_SameL n [x.d, y.d] = some (eB true) := by
    intro t ht hts
    obtain ⟨x, y, e, hx, hy, hxs, hys, hs, hA, hB, hE⟩ := inl_both hdl (by omega) t ht hts
    have hS := ref30_Same_ok n x y (by omega) hx hy
    rw [hs] at hS
    exact ⟨x, y, e, hA n (by omega), hB n (by omega), hS⟩
  have hz : [[eS ⟨#[120, 48]⟩, eI (Tm.mk 1 1 ⟨#[]⟩ true []).op, eI (Tm.mk 1 1 ⟨#[]⟩ true []).num, eS (Tm.mk 1 1 ⟨#[]⟩ true []).name, rowD 4 (Tm.mk 1 1 ⟨#[]⟩ true []).nl (Tm.rows (Tm.mk 1 1 ⟨#[]⟩ true []).kids)]] = [d0.cells] := rfl
  have hz2 : D.sl 5 [d0.cells] = eDs [d0] := rfl
  have hz3 : aggP 5 (D.agg d0.cells) = true := rfl
  have hz4 : [eS ⟨#[120, 48]⟩, eI (Tm.mk 1 1 ⟨#[]⟩ true []).op, eI (Tm.mk 1 1 ⟨#[]⟩ true []).num, eS (Tm.mk 1 1 ⟨#[]⟩ true []).name, rowD 4 (Tm.mk 1 1 ⟨#[]⟩ true []).nl (Tm.rows (Tm.mk 1 1 ⟨#[]⟩ true []).kids)] = d0.cells := rfl
  cases hop : (op.tmod 3 == 2)
  · obtain ⟨x, y, e, q1, q2, q3⟩ := hfin _ nOk (by show 2 ≤ _; omega)
    simp only [law35_DefsDoublesL, law35_DefsDoubles, obind_s, og_t, oif_b, pd_0, pd_s, and_ch, or_ch, b_lss, b_leq, b_gtr, b_geq, b_eql, b_neq, s_eql, s_neq, s_lss, u_not, jnX_l, jnX_r, inrX_s, oneP_I, oneP_B, oneP_S, oneP_sl, oneP_row, oneP_nil, one_I, one_B, one_S, one_sl, one_row, one_nil, extP_tup, List.getElem?_cons_zero, List.getElem?_cons_succ, esD_sl, lenP_sl, lenP_row, lenP_nil, elP_sl, ixP_nat, Bool.and_true, Bool.true_and, Bool.and_self, if_true, if_false, Bool.not_true, Bool.not_false, Bool.false_eq_true, flat_eB, flat_eI, flat_eS, Bool.or_true, Bool.true_or, agg2, agg3, agg4, agg5, agg6, agg7, agg8, zB, zI, zS, celsD_agg, mpD_mp, Tm.aggP_d, Tm.cel0, Tm.cel1, Tm.cel2, Tm.cel3, Tm.agg_d, Tm.atP_cells, Tm.rows_len, num_ok, hz4, hz3, hz2, hcv, hrem, hadd, g1, ee, e5, hsub, hnp, hrow, Df.at0, name_ok, u8_rem, u8_eql, hop, q1, q2, q3, beq_self_eq_true, hL]
  · obtain ⟨K2, hK3, hK4⟩ : ∃ K2 : Nat, (K2 : Int) = 63 - many.tdiv 8 ∧ K2 ≤ 63 := by
      have hte := Int.tdiv_eq_ediv_of_nonneg h1 (b := 8)
      refine ⟨(63 - many.tdiv 8).toNat, by omega, by omega⟩
    obtain ⟨t, k1, k2, k3⟩ := dbl14_ok n many h1 h2 L K2 hK3 hK4 n 0 _ nOk (by omega) (Nat.zero_le _)
    rw [e0] at k1
    obtain ⟨x, y, e, q1, q2, q3⟩ := hfin t k2 (by have : (Tm.mk 3 0 d.name true []).sz = 2 := rfl; omega)
    simp only [law35_DefsDoublesL, law35_DefsDoubles, obind_s, og_t, oif_b, pd_0, pd_s, and_ch, or_ch, b_lss, b_leq, b_gtr, b_geq, b_eql, b_neq, s_eql, s_neq, s_lss, u_not, jnX_l, jnX_r, inrX_s, oneP_I, oneP_B, oneP_S, oneP_sl, oneP_row, oneP_nil, one_I, one_B, one_S, one_sl, one_row, one_nil, extP_tup, List.getElem?_cons_zero, List.getElem?_cons_succ, esD_sl, lenP_sl, lenP_row, lenP_nil, elP_sl, ixP_nat, Bool.and_true, Bool.true_and, Bool.and_self, if_true, if_false, Bool.not_true, Bool.not_false, Bool.false_eq_true, flat_eB, flat_eI, flat_eS, Bool.or_true, Bool.true_or, agg2, agg3, agg4, agg5, agg6, agg7, agg8, zB, zI, zS, celsD_agg, mpD_mp, Tm.aggP_d, Tm.cel0, Tm.cel1, Tm.cel2, Tm.cel3, Tm.agg_d, Tm.atP_cells, Tm.rows_len, num_ok, hz4, hz3, hz2, hcv, hrem, hadd, g1, ee, e5, hsub, hnp, hrow, Df.at0, name_ok, u8_rem, u8_eql, hop, k1, q1, q2, q3, beq_self_eq_true, hL]
end Go.Am
