/- The law, joined to the program. No condition. -/
import Derived.Test.YtnhjgipcepnocaaFChk
set_option linter.all false
set_option linter.unnecessarySimpa false
namespace Go.Am
set_option linter.unusedVariables false
set_option linter.unusedSimpArgs false
/-! ### How many nodes -/
mutual
def tmsT : Tm → Int → Int
  | .mk _ _ _ _ ks, m => tmsL ks m
def tmsL : List Tm → Int → Int
  | [], m => m
  | t :: r, m => if 0 ≤ m then tmsL r (tmsT t (m - 1)) else m
end
mutual
def lefF : Fm → Int → Int
  | .mk _ e _ ks, m => lefL ks (tmsT e (m - 1))
def lefL : List Fm → Int → Int
  | [], m => m
  | t :: r, m => if 0 ≤ m then lefL r (lefF t m) else m
end
theorem tmsT_eq (t : Tm) (m : Int) : tmsT t m = tmsL t.kids m := by cases t; rw [tmsT]; rfl
theorem lefF_eq (t : Fm) (m : Int) : lefF t m = lefL t.kids (tmsT t.e (m - 1)) := by cases t; rw [lefF]; rfl
mutual
theorem tmsT_bd : ∀ (t : Tm) (m : Int), -1 ≤ m → -1 ≤ tmsT t m ∧ tmsT t m ≤ m ∧ (0 ≤ tmsT t m → 5 * tmsT t m + t.sz ≤ 5 * m + 2)
  | .mk o n s b ks, m, h => by
    have := tmsL_bd ks m h
    rw [tmsT]; simp only [Tm.sz]; omega
theorem tmsL_bd : ∀ (l : List Tm) (m : Int), -1 ≤ m → -1 ≤ tmsL l m ∧ tmsL l m ≤ m ∧ (0 ≤ tmsL l m → 5 * tmsL l m + Tm.szL l ≤ 5 * m)
  | [], m, h => by simp only [tmsL, Tm.szL]; omega
  | t :: r, m, h => by
    rw [tmsL]
    split
    · have h1 := tmsT_bd t (m - 1) (by omega)
      have h2 := tmsL_bd r (tmsT t (m - 1)) h1.1
      simp only [Tm.szL]; omega
    · omega
end
mutual
theorem lefF_bd : ∀ (t : Fm) (m : Int), 0 ≤ m → -1 ≤ lefF t m ∧ lefF t m ≤ m - 1 ∧ (0 ≤ lefF t m → 5 * lefF t m + t.sz + 1 ≤ 5 * m)
  | .mk o e b ks, m, h => by
    have h1 := tmsT_bd e (m - 1) (by omega)
    have h2 := lefL_bd ks (tmsT e (m - 1)) h1.1
    rw [lefF]; simp only [Fm.sz]; omega
theorem lefL_bd : ∀ (l : List Fm) (m : Int), -1 ≤ m → -1 ≤ lefL l m ∧ lefL l m ≤ m ∧ (0 ≤ lefL l m → 5 * lefL l m + Fm.szL l ≤ 5 * m)
  | [], m, h => by simp only [lefL, Fm.szL]; omega
  | t :: r, m, h => by
    rw [lefL]
    split
    · have h1 := lefF_bd t m (by omega)
      have h2 := lefL_bd r (lefF t m) h1.1
      simp only [Fm.szL]; omega
    · omega
end
theorem ref32_terms_ok : ∀ (n : Nat) (t : Tm) (m : Int), t.sz + 5 < n → t.Ok → -1 ≤ m → m < 1000000 → ref32_termsL n [t.d, eI m] = some (eI (tmsT t m))
  | 0, t, _, h, _, _, _ => absurd h (Nat.not_lt_zero _)
  | n + 1, t, m, hn, hok, h1, h2 => by
    have hlen := hok.len
    have hszl := t.sz_len
    have hl := iterL_list (f := ref32_terms_l2 (ref32_termsL n) n) t.kids (fun i (s : Int) => [eI s, eI (i : Int), eI t.op, eI t.num, eS t.name, rowD 4 t.nl (Tm.rows t.kids)])
      (fun r s => (.inl [eI (tmsL r s)] : List D ⊕ D)) (fun i s => -1 ≤ s ∧ s ≤ m)
      (fun s _ => by simp [ref32_terms_l2, tmsL]) ?_ n 0 m (by omega) (by omega) (Nat.zero_le _)
    · have e0 : (eI ((0 : Nat) : Int)) = eI 0 := rfl
      rw [e0] at hl
      simp only [List.drop_zero] at hl
      rw [tmsT_eq]
      simp only [ref32_termsL, ref32_terms, obind_s, og_t, oif_b, pd_0, pd_s, and_ch, or_ch, b_lss, b_leq, b_gtr, b_geq, b_eql, b_neq, s_eql, s_neq, s_lss, u_not, jnX_l, jnX_r, inrX_s, oneP_I, oneP_B, oneP_S, oneP_sl, oneP_row, oneP_nil, one_I, one_B, one_S, one_sl, one_row, one_nil, extP_tup, List.getElem?_cons_zero, List.getElem?_cons_succ, esD_sl, lenP_sl, lenP_row, lenP_nil, elP_sl, ixP_nat, Bool.and_true, Bool.true_and, Bool.and_self, if_true, if_false, Bool.not_true, Bool.not_false, Bool.false_eq_true, flat_eB, flat_eI, flat_eS, Bool.or_true, Bool.true_or, agg2, agg3, agg4, agg5, agg6, agg7, agg8, zB, zI, zS, celsD_agg, mpD_mp, Tm.aggP_d, Tm.cel0, Tm.cel1, Tm.cel2, Tm.cel3, Tm.agg_d, Tm.atP_cells, Tm.rows_len, hl]
    · intro i a s ha hi hs
      have hm := List.mem_of_getElem? ha
      have hz := Tm.sz_kid hm
      by_cases h0 : 0 ≤ s
      · have hr := ref32_terms_ok n a (s - 1) (by omega) (hok.kid hm) (by omega) (by omega)
        have hb := tmsT_bd a (s - 1) (by omega)
        left
        refine ⟨tmsT a (s - 1), ?_, by simp [tmsL, h0], by omega⟩
        simp only [ref32_terms_l2, obind_s, og_t, oif_b, pd_0, pd_s, and_ch, or_ch, b_lss, b_leq, b_gtr, b_geq, b_eql, b_neq, s_eql, s_neq, s_lss, u_not, jnX_l, jnX_r, inrX_s, oneP_I, oneP_B, oneP_S, oneP_sl, oneP_row, oneP_nil, one_I, one_B, one_S, one_sl, one_row, one_nil, extP_tup, List.getElem?_cons_zero, List.getElem?_cons_succ, esD_sl, lenP_sl, lenP_row, lenP_nil, elP_sl, ixP_nat, Bool.and_true, Bool.true_and, Bool.and_self, if_true, if_false, Bool.not_true, Bool.not_false, Bool.false_eq_true, flat_eB, flat_eI, flat_eS, Bool.or_true, Bool.true_or, agg2, agg3, agg4, agg5, agg6, agg7, agg8, zB, zI, zS, celsD_agg, mpD_mp, Tm.aggP_d, Tm.cel0, Tm.cel1, Tm.cel2, Tm.cel3, Tm.agg_d, Tm.atP_cells, Tm.rows_len, decide_eq_true (show ((i : Int) < (t.kids.length : Int)) by omega), decide_eq_true (show s ≥ 0 by omega), Tm.ixP_kid ha, b_sub (bt := false) (a := s) (b := 1) (by omega) (by omega), hr, add1 (bt := false) (i := i) (by omega)]
      · right
        simp only [ref32_terms_l2, obind_s, og_t, oif_b, pd_0, pd_s, and_ch, or_ch, b_lss, b_leq, b_gtr, b_geq, b_eql, b_neq, s_eql, s_neq, s_lss, u_not, jnX_l, jnX_r, inrX_s, oneP_I, oneP_B, oneP_S, oneP_sl, oneP_row, oneP_nil, one_I, one_B, one_S, one_sl, one_row, one_nil, extP_tup, List.getElem?_cons_zero, List.getElem?_cons_succ, esD_sl, lenP_sl, lenP_row, lenP_nil, elP_sl, ixP_nat, Bool.and_true, Bool.true_and, Bool.and_self, if_true, if_false, Bool.not_true, Bool.not_false, Bool.false_eq_true, flat_eB, flat_eI, flat_eS, Bool.or_true, Bool.true_or, agg2, agg3, agg4, agg5, agg6, agg7, agg8, zB, zI, zS, celsD_agg, mpD_mp, Tm.aggP_d, Tm.cel0, Tm.cel1, Tm.cel2, Tm.cel3, Tm.agg_d, Tm.atP_cells, Tm.rows_len, decide_eq_true (show ((i : Int) < (t.kids.length : Int)) by omega), decide_eq_false (show ¬ s ≥ 0 by omega), tmsL, if_neg h0]
theorem ref32_left_ok : ∀ (n : Nat) (t : Fm) (m : Int), t.sz + 10 < n → t.Ok → 0 ≤ m → m < 1000000 → ref32_leftL n [t.d, eI m] = some (eI (lefF t m))
  | 0, t, _, h, _, _, _ => absurd h (Nat.not_lt_zero _)
  | n + 1, t, m, hn, hok, h1, h2 => by
    have hlen := hok.len
    have hszl := t.sz_len
    have hse := t.sz_e
    have hb := tmsT_bd t.e (m - 1) (by omega)
    have hT := ref32_terms_ok n t.e (m - 1) (by omega) hok.e (by omega) (by omega)
    have hl := iterL_list (f := ref32_left_l3 (ref32_leftL n) n) t.kids (fun i (s : Int) => [eI s, eI (i : Int), eI t.op, eI t.e.op, eI t.e.num, eS t.e.name, rowD 4 t.e.nl (Tm.rows t.e.kids), rowD 6 t.nl (Fm.rows t.kids)])
      (fun r s => (.inl [eI (lefL r s)] : List D ⊕ D)) (fun i s => -1 ≤ s ∧ s ≤ m)
      (fun s _ => by simp [ref32_left_l3, lefL]) ?_ n 0 (tmsT t.e (m - 1)) (by omega) (by omega) (Nat.zero_le _)
    · have e0 : (eI ((0 : Nat) : Int)) = eI 0 := rfl
      rw [e0] at hl
      simp only [List.drop_zero] at hl
      rw [lefF_eq]
      simp only [ref32_leftL, ref32_left, obind_s, og_t, oif_b, pd_0, pd_s, and_ch, or_ch, b_lss, b_leq, b_gtr, b_geq, b_eql, b_neq, s_eql, s_neq, s_lss, u_not, jnX_l, jnX_r, inrX_s, oneP_I, oneP_B, oneP_S, oneP_sl, oneP_row, oneP_nil, one_I, one_B, one_S, one_sl, one_row, one_nil, extP_tup, List.getElem?_cons_zero, List.getElem?_cons_succ, esD_sl, lenP_sl, lenP_row, lenP_nil, elP_sl, ixP_nat, Bool.and_true, Bool.true_and, Bool.and_self, if_true, if_false, Bool.not_true, Bool.not_false, Bool.false_eq_true, flat_eB, flat_eI, flat_eS, Bool.or_true, Bool.true_or, agg2, agg3, agg4, agg5, agg6, agg7, agg8, zB, zI, zS, celsD_agg, mpD_mp, Tm.agg_d, Fm.aggP_d, Fm.cel0, Fm.cel1, Fm.cel2, Fm.cel3, Fm.cel4, Fm.cel5, Fm.agg_d, Fm.atP_cells, Fm.rows_len, b_sub (bt := false) (a := m) (b := 1) (by omega) (by omega), hT, hl]
    · intro i a s ha hi hs
      have hm := List.mem_of_getElem? ha
      have hz := Fm.sz_kid hm
      by_cases h0 : 0 ≤ s
      · have hr := ref32_left_ok n a s (by omega) (hok.kid hm) (by omega) (by omega)
        have hb := lefF_bd a s (by omega)
        left
        refine ⟨lefF a s, ?_, by simp [lefL, h0], by omega⟩
        simp only [ref32_left_l3, obind_s, og_t, oif_b, pd_0, pd_s, and_ch, or_ch, b_lss, b_leq, b_gtr, b_geq, b_eql, b_neq, s_eql, s_neq, s_lss, u_not, jnX_l, jnX_r, inrX_s, oneP_I, oneP_B, oneP_S, oneP_sl, oneP_row, oneP_nil, one_I, one_B, one_S, one_sl, one_row, one_nil, extP_tup, List.getElem?_cons_zero, List.getElem?_cons_succ, esD_sl, lenP_sl, lenP_row, lenP_nil, elP_sl, ixP_nat, Bool.and_true, Bool.true_and, Bool.and_self, if_true, if_false, Bool.not_true, Bool.not_false, Bool.false_eq_true, flat_eB, flat_eI, flat_eS, Bool.or_true, Bool.true_or, agg2, agg3, agg4, agg5, agg6, agg7, agg8, zB, zI, zS, celsD_agg, mpD_mp, Tm.agg_d, Fm.aggP_d, Fm.cel0, Fm.cel1, Fm.cel2, Fm.cel3, Fm.cel4, Fm.cel5, Fm.agg_d, Fm.atP_cells, Fm.rows_len, decide_eq_true (show ((i : Int) < (t.kids.length : Int)) by omega), decide_eq_true (show s ≥ 0 by omega), Fm.ixP_kid ha, hr, add1 (bt := false) (i := i) (by omega)]
      · right
        simp only [ref32_left_l3, obind_s, og_t, oif_b, pd_0, pd_s, and_ch, or_ch, b_lss, b_leq, b_gtr, b_geq, b_eql, b_neq, s_eql, s_neq, s_lss, u_not, jnX_l, jnX_r, inrX_s, oneP_I, oneP_B, oneP_S, oneP_sl, oneP_row, oneP_nil, one_I, one_B, one_S, one_sl, one_row, one_nil, extP_tup, List.getElem?_cons_zero, List.getElem?_cons_succ, esD_sl, lenP_sl, lenP_row, lenP_nil, elP_sl, ixP_nat, Bool.and_true, Bool.true_and, Bool.and_self, if_true, if_false, Bool.not_true, Bool.not_false, Bool.false_eq_true, flat_eB, flat_eI, flat_eS, Bool.or_true, Bool.true_or, agg2, agg3, agg4, agg5, agg6, agg7, agg8, zB, zI, zS, celsD_agg, mpD_mp, Tm.agg_d, Fm.aggP_d, Fm.cel0, Fm.cel1, Fm.cel2, Fm.cel3, Fm.cel4, Fm.cel5, Fm.agg_d, Fm.atP_cells, Fm.rows_len, decide_eq_true (show ((i : Int) < (t.kids.length : Int)) by omega), decide_eq_false (show ¬ s ≥ 0 by omega), lefL, if_neg h0]
def manyB (f : Fm) (m : Int) : Bool := decide (lefF f m ≥ 0)
theorem ref32_Many_ok (n : Nat) (f : Fm) (m : Int) (hn : f.sz + 20 < n) (hok : f.Ok) (h1 : 0 ≤ m) (h2 : m < 1000000) : ref32_ManyL n [f.d, eI m] = some (eB (manyB f m)) := by
  have := ref32_left_ok n f m (by omega) hok h1 h2
  simp [ref32_ManyL, ref32_Many, this, manyB]
theorem manyB_sz {f : Fm} {m : Int} (h : manyB f m = true) (hm : 0 ≤ m) : (f.sz : Int) + 1 ≤ 5 * m := by
  have h1 := of_decide_eq_true h
  have h2 := (lefF_bd f m hm).2.2 h1
  omega
end Go.Am
