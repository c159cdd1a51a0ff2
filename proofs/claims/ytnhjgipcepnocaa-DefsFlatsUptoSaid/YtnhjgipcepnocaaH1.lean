/- The law, joined to the program. No condition. -/
import Derived.Test.YtnhjgipcepnocaaG2
import Derived.Test.YtnhjgipcepnocaaEngS
set_option linter.all false
set_option linter.unnecessarySimpa false
namespace Go.Am
set_option linter.unusedVariables false
set_option linter.unusedSimpArgs false
structure Sp where
  name : ByteArray
  f : Fm
def Sp.cells (d : Sp) : List D := [eS d.name, eI d.f.op, eI d.f.e.op, eI d.f.e.num, eS d.f.e.name, rowD 4 d.f.e.nl (Tm.rows d.f.e.kids), rowD 6 d.f.nl (Fm.rows d.f.kids)]
def eTs (l : List Tm) : D := .sl 4 (Tm.rows l)
def eSps (l : List Sp) : D := .sl 7 (l.map Sp.cells)
theorem eTs_ix {l : List Tm} {i : Nat} {t : Tm} (h : l[i]? = some t) : ixP 4 (eTs l) (eI (i : Int)) = some t.cells := by simp [eTs, Tm.rows_get h]
theorem eTs_len (l : List Tm) : lenP (eTs l) = some (eI l.length) := by simp [eTs]
theorem eSps_ix {l : List Sp} {i : Nat} {t : Sp} (h : l[i]? = some t) : ixP 7 (eSps l) (eI (i : Int)) = some t.cells := by simp [eSps, h]
theorem eSps_len (l : List Sp) : lenP (eSps l) = some (eI l.length) := by simp [eSps]
def Sp.d (d : Sp) : D := .agg d.cells
theorem Sp.at7 (d : Sp) : atP true 7 0 d.cells = some d.d := rfl
theorem Sp.at1 (d : Sp) : atP true 6 1 d.cells = some d.f.d := by rw [Fm.d_eq]; rfl
theorem Sp.at0 (d : Sp) : atP false 1 0 d.cells = some (eS d.name) := rfl
theorem Sp.agg (d : Sp) : aggP 7 d.d = true := by unfold Sp.d Sp.cells; simp [agg7]
theorem Sp.c0 (d : Sp) : celD d.d 0 = eS d.name := rfl
theorem Sp.c1 (d : Sp) : celD d.d 1 = eI d.f.op := rfl
theorem Sp.c2 (d : Sp) : celD d.d 2 = eI d.f.e.op := rfl
theorem Sp.c3 (d : Sp) : celD d.d 3 = eI d.f.e.num := rfl
theorem Sp.c4 (d : Sp) : celD d.d 4 = eS d.f.e.name := rfl
theorem Sp.c5 (d : Sp) : celD d.d 5 = rowD 4 d.f.e.nl (Tm.rows d.f.e.kids) := rfl
theorem Sp.c6 (d : Sp) : celD d.d 6 = rowD 6 d.f.nl (Fm.rows d.f.kids) := rfl
/-! ### The first error of a list -/
def fE {α : Type} : List (α × Int) → Int
  | [] => 0
  | x :: r => if x.2 = 0 then fE r else x.2
def fI {α : Type} : List (α × Int) → Nat → Nat
  | [], _ => 0
  | x :: r, N => if x.2 = 0 then fI r N else N - (r.length + 1)
theorem fI_0 {α : Type} : ∀ (l : List (α × Int)) (N : Nat), fE l = 0 → fI l N = 0
  | [], _, _ => rfl
  | x :: r, N, h => by
    rw [fE] at h
    by_cases h0 : x.2 = 0
    · rw [if_pos h0] at h; rw [fI, if_pos h0, fI_0 r N h]
    · rw [if_neg h0] at h; exact absurd h h0
theorem fI_le {α : Type} : ∀ (l : List (α × Int)) (N : Nat), fI l N ≤ N
  | [], _ => Nat.zero_le _
  | x :: r, N => by
    rw [fI]; split
    · exact fI_le r N
    · omega
/-- What the two Inlines of a term come to. -/
def QT (l : List Df) (t : Tm) (r : (Tm × Tm) × Int) : Prop := r.1.1.Ok ∧ r.1.2.Ok ∧ r.1.1.sz ≤ 12300 ∧ r.1.2.sz ≤ 12300 ∧ sameT r.1.1 r.1.2 = true ∧
  (∀ n, 301000000 < n → defs_InlineL n [t.d, eDs l] = some (.tup [r.1.1.d, eI r.2])) ∧ (∀ n, 301000000 < n → ref35_InlineL n [t.d, eDs l] = some (.tup [r.1.2.d, eI r.2]))
theorem QT_ex {l : List Df} (hl : DL 12300 l) (hl8 : l.length ≤ 20) (t : Tm) (hok : t.Ok) (ht : t.sz ≤ 12300) : ∃ r, QT l t r := by
  obtain ⟨x, y, e, h1, h2, h3, h4, h5, h6, h7, _⟩ := inl_both hl hl8 t hok ht
  exact ⟨((x, y), e), h1, h2, h3, h4, h5, fun n hn => h6 n (by omega), fun n hn => h7 n (by omega)⟩
def QS (l : List Df) (f : Fm) (r : (Fm × Fm) × Int) : Prop := r.1.1.Ok ∧ r.1.2.Ok ∧ r.1.1.sz ≤ 26000000 ∧ r.1.2.sz ≤ 26000000 ∧ sameF r.1.1 r.1.2 = true ∧
  (∀ n, 301000000 < n → defs_FormL n [f.d, eDs l] = some (.tup [r.1.1.d, eI r.2])) ∧ (∀ n, 301000000 < n → ref35_FormL n [f.d, eDs l] = some (.tup [r.1.2.d, eI r.2]))
theorem QS_ex {l : List Df} (hl : DL 12300 l) (hl8 : l.length ≤ 20) (f : Fm) (hok : f.Ok) (ht : f.sz ≤ 2000) : ∃ r, QS l f r := by
  obtain ⟨x, y, e, h1, h2, h3, h4, h5, h6, h7⟩ := Form_both hl hl8 f hok ht
  exact ⟨((x, y), e), h1, h2, by simp only; omega, by simp only; omega, h5, h6, h7⟩
theorem list_ex {β α : Type} {P : β → α → Prop} : ∀ (ks : List β), (∀ a ∈ ks, ∃ b, P a b) → ∃ r : List α, r.length = ks.length ∧ ∀ (j : Nat) (a : β) (b : α), ks[j]? = some a → r[j]? = some b → P a b
  | [], _ => ⟨[], rfl, by intro j a b h; simp at h⟩
  | k :: r, h => by
    obtain ⟨b, hb⟩ := h k (by simp)
    obtain ⟨bs, h1, h2⟩ := list_ex (P := P) r (fun a ha => h a (by simp [ha]))
    refine ⟨b :: bs, by simp [h1], ?_⟩
    intro j a c ha hc
    cases j with
    | zero => simp at ha hc; subst ha; subst hc; exact hb
    | succ j => exact h2 j a c (by simpa using ha) (by simpa using hc)
section
variable {l : List Df} {ts : List Tm} {r : List ((Tm × Tm) × Int)} (hr : r.length = ts.length) (hq : ∀ (j : Nat) (a : Tm) (b : (Tm × Tm) × Int), ts[j]? = some a → r[j]? = some b → QT l a b)
include hr hq
theorem get_ts {i : Nat} {b : (Tm × Tm) × Int} (h : r[i]? = some b) : ∃ t, ts[i]? = some t ∧ QT l t b ∧ i < ts.length := by
  have hi := (List.getElem?_eq_some_iff.1 h).1
  have ht : ts[i]? = some (ts[i]'(by omega)) := List.getElem?_eq_getElem (by omega)
  exact ⟨_, ht, hq i _ b ht h, by omega⟩
theorem defs_all_ok (n : Nat) (hn : 302000000 < n) (hb : ts.length ≤ 1000000) : defs_allL n [eTs ts, eDs l] = some (.tup [if fE r = 0 then eTs (r.map (·.1.1)) else NILD, eI (fI r r.length), eI (fE r)]) := by
  have e0 : (eI ((0 : Nat) : Int)) = eI 0 := rfl
  have ee : ∀ x, D.sl 4 (esD (eTs x)) = eTs x := fun _ => rfl
  have hl := iterL_list (f := defs_all_l2 n) r (fun i (s : List Tm) => [eDs l, eTs ts, eI ts.length, eI (i : Int), eTs s])
    (fun q (s : List Tm) => (if fE q = 0 then .inl [eTs (s ++ q.map (·.1.1))] else .inr (.tup [NILD, eI (fI q r.length), eI (fE q)]) : List D ⊕ D)) (fun i s => s.length = i) ?_ ?_ n 0 [] rfl (by omega) (Nat.zero_le _)
  · rw [e0, List.drop_zero] at hl
    have e1 : eTs [] = D.sl 4 [] := rfl
    rw [e1] at hl
    by_cases h : fE r = 0
    · simp only [h, if_true, List.nil_append] at hl ⊢
      rw [fI_0 r _ h]
      simp only [defs_allL, defs_all, obind_s, og_t, oif_b, pd_0, pd_s, and_ch, or_ch, b_lss, b_leq, b_gtr, b_geq, b_eql, b_neq, s_eql, s_neq, s_lss, u_not, jnX_l, jnX_r, inrX_s, oneP_I, oneP_B, oneP_S, oneP_sl, oneP_row, oneP_nil, one_I, one_B, one_S, one_sl, one_row, one_nil, extP_tup, List.getElem?_cons_zero, List.getElem?_cons_succ, esD_sl, lenP_sl, lenP_row, lenP_nil, elP_sl, ixP_nat, Bool.and_true, Bool.true_and, Bool.and_self, if_true, if_false, Bool.not_true, Bool.not_false, Bool.false_eq_true, flat_eB, flat_eI, flat_eS, Bool.or_true, Bool.true_or, agg2, agg3, agg4, agg5, agg6, agg7, agg8, zB, zI, zS, celsD_agg, mpD_mp, eTs_len, hl, ee, e0]
    · simp only [h, if_false] at hl ⊢
      simp only [defs_allL, defs_all, obind_s, og_t, oif_b, pd_0, pd_s, and_ch, or_ch, b_lss, b_leq, b_gtr, b_geq, b_eql, b_neq, s_eql, s_neq, s_lss, u_not, jnX_l, jnX_r, inrX_s, oneP_I, oneP_B, oneP_S, oneP_sl, oneP_row, oneP_nil, one_I, one_B, one_S, one_sl, one_row, one_nil, extP_tup, List.getElem?_cons_zero, List.getElem?_cons_succ, esD_sl, lenP_sl, lenP_row, lenP_nil, elP_sl, ixP_nat, Bool.and_true, Bool.true_and, Bool.and_self, if_true, if_false, Bool.not_true, Bool.not_false, Bool.false_eq_true, flat_eB, flat_eI, flat_eS, Bool.or_true, Bool.true_or, agg2, agg3, agg4, agg5, agg6, agg7, agg8, zB, zI, zS, celsD_agg, mpD_mp, eTs_len, hl]
  · intro s _
    simp only [defs_all_l2, obind_s, og_t, oif_b, pd_0, pd_s, and_ch, or_ch, b_lss, b_leq, b_gtr, b_geq, b_eql, b_neq, s_eql, s_neq, s_lss, u_not, jnX_l, jnX_r, inrX_s, oneP_I, oneP_B, oneP_S, oneP_sl, oneP_row, oneP_nil, one_I, one_B, one_S, one_sl, one_row, one_nil, extP_tup, List.getElem?_cons_zero, List.getElem?_cons_succ, esD_sl, lenP_sl, lenP_row, lenP_nil, elP_sl, ixP_nat, Bool.and_true, Bool.true_and, Bool.and_self, if_true, if_false, Bool.not_true, Bool.not_false, Bool.false_eq_true, flat_eB, flat_eI, flat_eS, Bool.or_true, Bool.true_or, agg2, agg3, agg4, agg5, agg6, agg7, agg8, zB, zI, zS, celsD_agg, mpD_mp, hr, decide_eq_false (show ¬ ((ts.length : Int) < ts.length) by omega), fE, ee, List.map_nil, List.append_nil]
  · rintro i ⟨⟨x, y⟩, e⟩ s hx hi hs
    obtain ⟨t, ht, hQ, hit⟩ := get_ts hr hq hx
    have hA := hQ.2.2.2.2.2.1 n (by omega)
    simp only at hA
    have hdl : (r.drop (i + 1)).length = r.length - (i + 1) := List.length_drop
    by_cases he : e = 0
    · subst he
      left
      have h00 : ((0 : Int) != 0) = false := rfl
      have hrm : roomP (s.length + 1) 56 = true := roomP_ok (by omega) (by omega)
      have e2 : D.sl 4 (esD (eTs s) ++ [x.cells]) = eTs (s ++ [x]) := by simp [eTs, Tm.rows_snoc]
      have e3 : (esD (eTs s)).length = s.length := by simp [eTs]
      refine ⟨s ++ [x], ?_, ?_, by simp [hs]⟩
      · simp only [defs_all_l2, obind_s, og_t, oif_b, pd_0, pd_s, and_ch, or_ch, b_lss, b_leq, b_gtr, b_geq, b_eql, b_neq, s_eql, s_neq, s_lss, u_not, jnX_l, jnX_r, inrX_s, oneP_I, oneP_B, oneP_S, oneP_sl, oneP_row, oneP_nil, one_I, one_B, one_S, one_sl, one_row, one_nil, extP_tup, List.getElem?_cons_zero, List.getElem?_cons_succ, esD_sl, lenP_sl, lenP_row, lenP_nil, elP_sl, ixP_nat, Bool.and_true, Bool.true_and, Bool.and_self, if_true, if_false, Bool.not_true, Bool.not_false, Bool.false_eq_true, flat_eB, flat_eI, flat_eS, Bool.or_true, Bool.true_or, agg2, agg3, agg4, agg5, agg6, agg7, agg8, zB, zI, zS, celsD_agg, mpD_mp, Tm.aggP_d, Tm.cel0, Tm.cel1, Tm.cel2, Tm.cel3, Tm.agg_d, Tm.atP_cells, Tm.rows_len, decide_eq_true (show ((i : Int) < (ts.length : Int)) by omega), eTs_ix ht, hA, h00, T.cells4, e2, e3, List.length_cons, List.length_nil, Nat.zero_add, hrm, add1 (bt := false) (i := i) (by omega)]
        simp only [T.dc, hA, obind_s, og_t, oif_b, pd_0, pd_s, and_ch, or_ch, b_lss, b_leq, b_gtr, b_geq, b_eql, b_neq, s_eql, s_neq, s_lss, u_not, jnX_l, jnX_r, inrX_s, oneP_I, oneP_B, oneP_S, oneP_sl, oneP_row, oneP_nil, one_I, one_B, one_S, one_sl, one_row, one_nil, extP_tup, List.getElem?_cons_zero, List.getElem?_cons_succ, esD_sl, lenP_sl, lenP_row, lenP_nil, elP_sl, ixP_nat, Bool.and_true, Bool.true_and, Bool.and_self, if_true, if_false, Bool.not_true, Bool.not_false, Bool.false_eq_true, flat_eB, flat_eI, flat_eS, Bool.or_true, Bool.true_or, agg2, agg3, agg4, agg5, agg6, agg7, agg8, zB, zI, zS, celsD_agg, mpD_mp, Tm.aggP_d, Tm.cel0, Tm.cel1, Tm.cel2, Tm.cel3, Tm.agg_d, Tm.atP_cells, Tm.rows_len, h00, T.cells4, e2, e3, List.length_cons, List.length_nil, Nat.zero_add, hrm, add1 (bt := false) (i := i) (by omega)]
      · simp only [fE, if_true, fI, List.map_cons, List.append_assoc, List.singleton_append]
    · have hne : (e != 0) = true := by simpa using he
      have hidx : r.length - ((r.drop (i + 1)).length + 1) = i := by omega
      right
      simp only [defs_all_l2, obind_s, og_t, oif_b, pd_0, pd_s, and_ch, or_ch, b_lss, b_leq, b_gtr, b_geq, b_eql, b_neq, s_eql, s_neq, s_lss, u_not, jnX_l, jnX_r, inrX_s, oneP_I, oneP_B, oneP_S, oneP_sl, oneP_row, oneP_nil, one_I, one_B, one_S, one_sl, one_row, one_nil, extP_tup, List.getElem?_cons_zero, List.getElem?_cons_succ, esD_sl, lenP_sl, lenP_row, lenP_nil, elP_sl, ixP_nat, Bool.and_true, Bool.true_and, Bool.and_self, if_true, if_false, Bool.not_true, Bool.not_false, Bool.false_eq_true, flat_eB, flat_eI, flat_eS, Bool.or_true, Bool.true_or, agg2, agg3, agg4, agg5, agg6, agg7, agg8, zB, zI, zS, celsD_agg, mpD_mp, Tm.aggP_d, Tm.cel0, Tm.cel1, Tm.cel2, Tm.cel3, Tm.agg_d, Tm.atP_cells, Tm.rows_len, decide_eq_true (show ((i : Int) < (ts.length : Int)) by omega), eTs_ix ht, hA, hne, fE, fI, he, if_false, hidx]
theorem ref35_all_ok (n : Nat) (hn : 302000000 < n) (hb : ts.length ≤ 1000000) : ref35_allL n [eTs ts, eDs l] = some (.tup [if fE r = 0 then eTs (r.map (·.1.2)) else NILD, eI (fI r r.length), eI (fE r)]) := by
  have e0 : (eI ((0 : Nat) : Int)) = eI 0 := rfl
  have ee : ∀ x, D.sl 4 (esD (eTs x)) = eTs x := fun _ => rfl
  have hl := iterL_list (f := ref35_all_l3 n) r (fun i (s : List Tm) => [eTs ts, eDs l, eI (i : Int), eTs s])
    (fun q (s : List Tm) => (if fE q = 0 then .inl [eTs (s ++ q.map (·.1.2))] else .inr (.tup [NILD, eI (fI q r.length), eI (fE q)]) : List D ⊕ D)) (fun i s => s.length = i) ?_ ?_ n 0 [] rfl (by omega) (Nat.zero_le _)
  · rw [e0, List.drop_zero] at hl
    have e1 : eTs [] = D.sl 4 [] := rfl
    rw [e1] at hl
    by_cases h : fE r = 0
    · simp only [h, if_true, List.nil_append] at hl ⊢
      rw [fI_0 r _ h]
      simp only [ref35_allL, ref35_all, obind_s, og_t, oif_b, pd_0, pd_s, and_ch, or_ch, b_lss, b_leq, b_gtr, b_geq, b_eql, b_neq, s_eql, s_neq, s_lss, u_not, jnX_l, jnX_r, inrX_s, oneP_I, oneP_B, oneP_S, oneP_sl, oneP_row, oneP_nil, one_I, one_B, one_S, one_sl, one_row, one_nil, extP_tup, List.getElem?_cons_zero, List.getElem?_cons_succ, esD_sl, lenP_sl, lenP_row, lenP_nil, elP_sl, ixP_nat, Bool.and_true, Bool.true_and, Bool.and_self, if_true, if_false, Bool.not_true, Bool.not_false, Bool.false_eq_true, flat_eB, flat_eI, flat_eS, Bool.or_true, Bool.true_or, agg2, agg3, agg4, agg5, agg6, agg7, agg8, zB, zI, zS, celsD_agg, mpD_mp, eTs_len, hl, ee, e0]
    · simp only [h, if_false] at hl ⊢
      simp only [ref35_allL, ref35_all, obind_s, og_t, oif_b, pd_0, pd_s, and_ch, or_ch, b_lss, b_leq, b_gtr, b_geq, b_eql, b_neq, s_eql, s_neq, s_lss, u_not, jnX_l, jnX_r, inrX_s, oneP_I, oneP_B, oneP_S, oneP_sl, oneP_row, oneP_nil, one_I, one_B, one_S, one_sl, one_row, one_nil, extP_tup, List.getElem?_cons_zero, List.getElem?_cons_succ, esD_sl, lenP_sl, lenP_row, lenP_nil, elP_sl, ixP_nat, Bool.and_true, Bool.true_and, Bool.and_self, if_true, if_false, Bool.not_true, Bool.not_false, Bool.false_eq_true, flat_eB, flat_eI, flat_eS, Bool.or_true, Bool.true_or, agg2, agg3, agg4, agg5, agg6, agg7, agg8, zB, zI, zS, celsD_agg, mpD_mp, eTs_len, hl]
  · intro s _
    simp only [ref35_all_l3, obind_s, og_t, oif_b, pd_0, pd_s, and_ch, or_ch, b_lss, b_leq, b_gtr, b_geq, b_eql, b_neq, s_eql, s_neq, s_lss, u_not, jnX_l, jnX_r, inrX_s, oneP_I, oneP_B, oneP_S, oneP_sl, oneP_row, oneP_nil, one_I, one_B, one_S, one_sl, one_row, one_nil, extP_tup, List.getElem?_cons_zero, List.getElem?_cons_succ, esD_sl, lenP_sl, lenP_row, lenP_nil, elP_sl, ixP_nat, Bool.and_true, Bool.true_and, Bool.and_self, if_true, if_false, Bool.not_true, Bool.not_false, Bool.false_eq_true, flat_eB, flat_eI, flat_eS, Bool.or_true, Bool.true_or, agg2, agg3, agg4, agg5, agg6, agg7, agg8, zB, zI, zS, celsD_agg, mpD_mp, hr, eTs_len, decide_eq_false (show ¬ ((ts.length : Int) < ts.length) by omega), fE, ee, List.map_nil, List.append_nil]
  · rintro i ⟨⟨x, y⟩, e⟩ s hx hi hs
    obtain ⟨t, ht, hQ, hit⟩ := get_ts hr hq hx
    have hA := hQ.2.2.2.2.2.2 n (by omega)
    simp only at hA
    have hdl : (r.drop (i + 1)).length = r.length - (i + 1) := List.length_drop
    by_cases he : e = 0
    · subst he
      left
      have h00 : ((0 : Int) != 0) = false := rfl
      have hrm : roomP (s.length + 1) 56 = true := roomP_ok (by omega) (by omega)
      have e2 : D.sl 4 (esD (eTs s) ++ [y.cells]) = eTs (s ++ [y]) := by simp [eTs, Tm.rows_snoc]
      have e3 : (esD (eTs s)).length = s.length := by simp [eTs]
      refine ⟨s ++ [y], ?_, ?_, by simp [hs]⟩
      · simp only [ref35_all_l3, obind_s, og_t, oif_b, pd_0, pd_s, and_ch, or_ch, b_lss, b_leq, b_gtr, b_geq, b_eql, b_neq, s_eql, s_neq, s_lss, u_not, jnX_l, jnX_r, inrX_s, oneP_I, oneP_B, oneP_S, oneP_sl, oneP_row, oneP_nil, one_I, one_B, one_S, one_sl, one_row, one_nil, extP_tup, List.getElem?_cons_zero, List.getElem?_cons_succ, esD_sl, lenP_sl, lenP_row, lenP_nil, elP_sl, ixP_nat, Bool.and_true, Bool.true_and, Bool.and_self, if_true, if_false, Bool.not_true, Bool.not_false, Bool.false_eq_true, flat_eB, flat_eI, flat_eS, Bool.or_true, Bool.true_or, agg2, agg3, agg4, agg5, agg6, agg7, agg8, zB, zI, zS, celsD_agg, mpD_mp, Tm.aggP_d, Tm.cel0, Tm.cel1, Tm.cel2, Tm.cel3, Tm.agg_d, Tm.atP_cells, Tm.rows_len, eTs_len, decide_eq_true (show ((i : Int) < (ts.length : Int)) by omega), eTs_ix ht, hA, h00, T.cells4, e2, e3, List.length_cons, List.length_nil, Nat.zero_add, hrm, add1 (bt := false) (i := i) (by omega)]
      · simp only [fE, if_true, fI, List.map_cons, List.append_assoc, List.singleton_append]
    · have hne : (e != 0) = true := by simpa using he
      have hidx : r.length - ((r.drop (i + 1)).length + 1) = i := by omega
      right
      simp only [ref35_all_l3, obind_s, og_t, oif_b, pd_0, pd_s, and_ch, or_ch, b_lss, b_leq, b_gtr, b_geq, b_eql, b_neq, s_eql, s_neq, s_lss, u_not, jnX_l, jnX_r, inrX_s, oneP_I, oneP_B, oneP_S, oneP_sl, oneP_row, oneP_nil, one_I, one_B, one_S, one_sl, one_row, one_nil, extP_tup, List.getElem?_cons_zero, List.getElem?_cons_succ, esD_sl, lenP_sl, lenP_row, lenP_nil, elP_sl, ixP_nat, Bool.and_true, Bool.true_and, Bool.and_self, if_true, if_false, Bool.not_true, Bool.not_false, Bool.false_eq_true, flat_eB, flat_eI, flat_eS, Bool.or_true, Bool.true_or, agg2, agg3, agg4, agg5, agg6, agg7, agg8, zB, zI, zS, celsD_agg, mpD_mp, Tm.aggP_d, Tm.cel0, Tm.cel1, Tm.cel2, Tm.cel3, Tm.agg_d, Tm.atP_cells, Tm.rows_len, eTs_len, decide_eq_true (show ((i : Int) < (ts.length : Int)) by omega), eTs_ix ht, hA, hne, fE, fI, he, if_false, hidx]
end
end Go.Am
