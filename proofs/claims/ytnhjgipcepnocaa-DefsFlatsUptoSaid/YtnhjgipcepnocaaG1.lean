/- The law, joined to the program. No condition. -/
import Derived.Test.YtnhjgipcepnocaaLaws
import Derived.Test.YtnhjgipcepnocaaFVal
set_option linter.all false
set_option linter.unnecessarySimpa false
namespace Go.Am
set_option linter.unusedVariables false
set_option linter.unusedSimpArgs false
def F0 : Fm := .mk 0 T0 true []
theorem F0_ok : F0.Ok := .mk _ _ _ _ (by omega) T0_ok (by simp) (by simp)
theorem F0_d : F0.d = D.agg [eI 0, eI 0, eI 0, eS ⟨#[]⟩, D.val (.slice none 0 0), D.val (.slice none 0 0)] := rfl
theorem VF.bare {t : Fm} (h : VF t) (ho : t.op ≠ 1) : bareT t.e = true := by
  have h1 := h.one
  unfold oneF at h1
  rw [if_neg h.len.2, if_neg (fun h => ho h.1)] at h1
  cases hb : bareT t.e with
  | true => rfl
  | false => rw [if_pos (.inr ⟨ho, hb⟩)] at h1; cases h1
theorem same_bare {t : Tm} (h : bareT t = true) : sameT T0 t = true := by
  simp only [bareT, Bool.and_eq_true, beq_iff_eq, decide_eq_true_eq] at h
  obtain ⟨h1, h2, h3, h4⟩ := h
  rw [sameT_eq]
  have h5 : t.kids = [] := List.eq_nil_of_length_eq_zero h4
  rw [h1, h2, h3, h5]
  rfl
theorem sameFL_of : ∀ (l m : List Fm), l.length = m.length → (∀ (j : Nat) (a b : Fm), l[j]? = some a → m[j]? = some b → sameF a b = true) → sameFL l m = true
  | [], m, _, _ => by cases m <;> rfl
  | a :: r, [], h, _ => by simp at h
  | a :: r, b :: q, h, hh => by
    rw [sameFL, hh 0 a b rfl rfl, sameFL_of r q (by simpa using h) (fun j x y hx hy => hh (j + 1) x y (by simpa using hx) (by simpa using hy))]
    rfl
/-- What the two forms of one formula come to. -/
def QF (l : List Df) (f : Fm) (r : Fm × Fm × Int) : Prop := r.1.Ok ∧ r.2.1.Ok ∧ r.1.sz ≤ 13000 * f.sz ∧ r.2.1.sz ≤ 13000 * f.sz ∧ sameF r.1 r.2.1 = true ∧
  (∀ n, 300000000 + f.sz < n → defs_Form_1_hL n [f.d, eDs l] = some [.tup [r.1.d, eI r.2.2], eDs l]) ∧
  (∀ n, 300000000 + f.sz < n → ref35_formL n [f.d, eDs l] = some (.tup [r.2.1.d, eI r.2.2]))
def firE : List (Fm × Fm × Fm × Int) → Int
  | [] => 0
  | x :: r => if x.2.2.2 = 0 then firE r else x.2.2.2
theorem list_existsF {α : Type} {P : Fm → α → Prop} : ∀ (ks : List Fm), (∀ a ∈ ks, ∃ b, P a b) → ∃ r : List α, r.length = ks.length ∧ ∀ (j : Nat) (a : Fm) (b : α), ks[j]? = some a → r[j]? = some b → P a b
  | [], _ => ⟨[], rfl, by intro j a b h; simp at h⟩
  | k :: r, h => by
    obtain ⟨b, hb⟩ := h k (by simp)
    obtain ⟨bs, h1, h2⟩ := list_existsF (P := P) r (fun a ha => h a (by simp [ha]))
    refine ⟨b :: bs, by simp [h1], ?_⟩
    intro j a c ha hc
    cases j with
    | zero => simp at ha hc; subst ha; subst hc; exact hb
    | succ j => exact h2 j a c (by simpa using ha) (by simpa using hc)
theorem szL_bd {α : Type} (p : α → Fm) : ∀ (ks : List Fm) (r : List α), r.length = ks.length → (∀ (j : Nat) (a : Fm) (b : α), ks[j]? = some a → r[j]? = some b → (p b).sz ≤ 13000 * a.sz) → Fm.szL (r.map p) ≤ 13000 * Fm.szL ks
  | [], r, h, _ => by
    have : r = [] := List.eq_nil_of_length_eq_zero h
    subst this; simp [Fm.szL]
  | k :: ks, [], h, _ => by simp at h
  | k :: ks, b :: r, h, hh => by
    have h1 := hh 0 k b rfl rfl
    have h2 := szL_bd p ks r (by simpa using h) (fun j a b ha hb => hh (j + 1) a b (by simpa using ha) (by simpa using hb))
    simp only [List.map_cons, Fm.szL]
    omega
theorem form_both {l : List Df} (hl : DL 12300 l) (hl8 : l.length ≤ 20) (f : Fm) : VF f → f.Ok → f.sz ≤ 2000 → ∃ r, QF l f r := by
  refine Fm.ind (P := fun f => VF f → f.Ok → f.sz ≤ 2000 → ∃ r, QF l f r) ?_ f
  intro f ih hv hok hsz
  have hop := hok.op
  have hfe := f.sz_e
  have hfs := f.sz_eq
  have hfl := f.sz_len
  have hz0 : D.agg [eI 0, eI 0, eI 0, eS ⟨#[]⟩, D.val (.slice none 0 0), D.val (.slice none 0 0)] = F0.d := rfl
  have h00 : ((0 : Int) != 0) = false := rfl
  by_cases ho : f.op = 1
  · have hk0 : f.kids = [] := by
      have := hv.len.1
      rw [ho] at this
      exact List.eq_nil_of_length_eq_zero (by simpa [kidsF] using this)
    obtain ⟨x, y, e, hx, hy, hxs, hys, hs, hA, hB, hE⟩ := inl_both hl hl8 f.e hok.e (by omega)
    have h11 : (f.op == 1) = true := by simp [ho]
    by_cases he : e = 0
    · subst he
      have ex : (Fm.mk f.op x true []).d = D.agg [eI f.op, eI x.op, eI x.num, eS x.name, rowD 4 x.nl (Tm.rows x.kids), D.val (.slice none 0 0)] := rfl
      have ey : (Fm.mk f.op y f.nl f.kids).d = D.agg [eI f.op, eI y.op, eI y.num, eS y.name, rowD 4 y.nl (Tm.rows y.kids), rowD 6 f.nl (Fm.rows f.kids)] := rfl
      refine ⟨(.mk f.op x true [], .mk f.op y f.nl f.kids, 0), .mk _ _ _ _ hop hx (by simp) (by simp), .mk _ _ _ _ hop hy hok.len (fun k hk => hok.kid hk), ?_, ?_, ?_, ?_, ?_⟩
      · show 2 + x.sz + 0 ≤ _; omega
      · show 2 + y.sz + Fm.szL f.kids ≤ _
        rw [hk0]; simp only [Fm.szL]; omega
      · show sameF (.mk f.op x true []) (.mk f.op y f.nl f.kids) = true
        rw [hk0, sameF_eq]
        show (decide (f.op = f.op) && (sameT x y && (decide (([] : List Fm).length = ([] : List Fm).length) && sameFL [] []))) = true
        rw [hs]; simp [sameFL]
      · intro n hn
        obtain ⟨m, rfl⟩ : ∃ m, n = m + 1 := ⟨n - 1, by omega⟩
        have hA' := hA m (by omega)
        show defs_Form_1_h (defs_Form_1_hL m) m _ = _
        simp only [defs_Form_1_h, obind_s, og_t, oif_b, pd_0, pd_s, and_ch, or_ch, b_lss, b_leq, b_gtr, b_geq, b_eql, b_neq, s_eql, s_neq, s_lss, u_not, jnX_l, jnX_r, inrX_s, oneP_I, oneP_B, oneP_S, oneP_sl, oneP_row, oneP_nil, one_I, one_B, one_S, one_sl, one_row, one_nil, extP_tup, List.getElem?_cons_zero, List.getElem?_cons_succ, esD_sl, lenP_sl, lenP_row, lenP_nil, elP_sl, ixP_nat, Bool.and_true, Bool.true_and, Bool.and_self, if_true, if_false, Bool.not_true, Bool.not_false, Bool.false_eq_true, flat_eB, flat_eI, flat_eS, Bool.or_true, Bool.true_or, agg2, agg3, agg4, agg5, agg6, agg7, agg8, zB, zI, zS, celsD_agg, mpD_mp, Tm.aggP_d, Tm.cel0, Tm.cel1, Tm.cel2, Tm.cel3, Tm.agg_d, Tm.atP_cells, Tm.rows_len, Tm.agg_d, Fm.aggP_d, Fm.cel0, Fm.cel1, Fm.cel2, Fm.cel3, Fm.cel4, Fm.cel5, Fm.agg_d, Fm.atP_cells, Fm.rows_len, h11, hA', h00, ex]
      · intro n hn
        obtain ⟨m, rfl⟩ : ∃ m, n = m + 1 := ⟨n - 1, by omega⟩
        have hB' := hB m (by omega)
        show ref35_form (ref35_formL m) m _ _ = _
        simp only [ref35_form, obind_s, og_t, oif_b, pd_0, pd_s, and_ch, or_ch, b_lss, b_leq, b_gtr, b_geq, b_eql, b_neq, s_eql, s_neq, s_lss, u_not, jnX_l, jnX_r, inrX_s, oneP_I, oneP_B, oneP_S, oneP_sl, oneP_row, oneP_nil, one_I, one_B, one_S, one_sl, one_row, one_nil, extP_tup, List.getElem?_cons_zero, List.getElem?_cons_succ, esD_sl, lenP_sl, lenP_row, lenP_nil, elP_sl, ixP_nat, Bool.and_true, Bool.true_and, Bool.and_self, if_true, if_false, Bool.not_true, Bool.not_false, Bool.false_eq_true, flat_eB, flat_eI, flat_eS, Bool.or_true, Bool.true_or, agg2, agg3, agg4, agg5, agg6, agg7, agg8, zB, zI, zS, celsD_agg, mpD_mp, Tm.aggP_d, Tm.cel0, Tm.cel1, Tm.cel2, Tm.cel3, Tm.agg_d, Tm.atP_cells, Tm.rows_len, Tm.agg_d, Fm.aggP_d, Fm.cel0, Fm.cel1, Fm.cel2, Fm.cel3, Fm.cel4, Fm.cel5, Fm.agg_d, Fm.atP_cells, Fm.rows_len, h11, hB', h00, ey]
    · have hne : (e != 0) = true := by simpa using he
      refine ⟨(F0, F0, e), F0_ok, F0_ok, ?_, ?_, sameF_refl _, ?_, ?_⟩
      · show 2 + 2 + 0 ≤ _; omega
      · show 2 + 2 + 0 ≤ _; omega
      · intro n hn
        obtain ⟨m, rfl⟩ : ∃ m, n = m + 1 := ⟨n - 1, by omega⟩
        have hA' := hA m (by omega)
        show defs_Form_1_h (defs_Form_1_hL m) m _ = _
        simp only [defs_Form_1_h, obind_s, og_t, oif_b, pd_0, pd_s, and_ch, or_ch, b_lss, b_leq, b_gtr, b_geq, b_eql, b_neq, s_eql, s_neq, s_lss, u_not, jnX_l, jnX_r, inrX_s, oneP_I, oneP_B, oneP_S, oneP_sl, oneP_row, oneP_nil, one_I, one_B, one_S, one_sl, one_row, one_nil, extP_tup, List.getElem?_cons_zero, List.getElem?_cons_succ, esD_sl, lenP_sl, lenP_row, lenP_nil, elP_sl, ixP_nat, Bool.and_true, Bool.true_and, Bool.and_self, if_true, if_false, Bool.not_true, Bool.not_false, Bool.false_eq_true, flat_eB, flat_eI, flat_eS, Bool.or_true, Bool.true_or, agg2, agg3, agg4, agg5, agg6, agg7, agg8, zB, zI, zS, celsD_agg, mpD_mp, Tm.aggP_d, Tm.cel0, Tm.cel1, Tm.cel2, Tm.cel3, Tm.agg_d, Tm.atP_cells, Tm.rows_len, Tm.agg_d, Fm.aggP_d, Fm.cel0, Fm.cel1, Fm.cel2, Fm.cel3, Fm.cel4, Fm.cel5, Fm.agg_d, Fm.atP_cells, Fm.rows_len, h11, hA', hne, hz0]
      · intro n hn
        obtain ⟨m, rfl⟩ : ∃ m, n = m + 1 := ⟨n - 1, by omega⟩
        have hB' := hB m (by omega)
        show ref35_form (ref35_formL m) m _ _ = _
        simp only [ref35_form, obind_s, og_t, oif_b, pd_0, pd_s, and_ch, or_ch, b_lss, b_leq, b_gtr, b_geq, b_eql, b_neq, s_eql, s_neq, s_lss, u_not, jnX_l, jnX_r, inrX_s, oneP_I, oneP_B, oneP_S, oneP_sl, oneP_row, oneP_nil, one_I, one_B, one_S, one_sl, one_row, one_nil, extP_tup, List.getElem?_cons_zero, List.getElem?_cons_succ, esD_sl, lenP_sl, lenP_row, lenP_nil, elP_sl, ixP_nat, Bool.and_true, Bool.true_and, Bool.and_self, if_true, if_false, Bool.not_true, Bool.not_false, Bool.false_eq_true, flat_eB, flat_eI, flat_eS, Bool.or_true, Bool.true_or, agg2, agg3, agg4, agg5, agg6, agg7, agg8, zB, zI, zS, celsD_agg, mpD_mp, Tm.aggP_d, Tm.cel0, Tm.cel1, Tm.cel2, Tm.cel3, Tm.agg_d, Tm.atP_cells, Tm.rows_len, Tm.agg_d, Fm.aggP_d, Fm.cel0, Fm.cel1, Fm.cel2, Fm.cel3, Fm.cel4, Fm.cel5, Fm.agg_d, Fm.atP_cells, Fm.rows_len, h11, hB', hne, hz0]
  · have h11 : (f.op == 1) = false := by simp [ho]
    have hb := hv.bare ho
    obtain ⟨r, hr1, hr2⟩ := list_existsF (P := QF l) f.kids (fun k hk => ih k hk (hv.kid hk) (hok.kid hk) (by have := Fm.sz_kid hk; omega))
    have hlen := hok.len
    have hzl : (f.kids.zip r).map (·.2) = r := zip_snd hr1
    have hzlen : (f.kids.zip r).length = f.kids.length := by simp [hr1]
    have hzf : ∀ (L : List Fm), (Fm.mk f.op T0 false L).d = D.agg [eI f.op, eI 0, eI 0, eS ⟨#[]⟩, D.val (.slice none 0 0), D.sl 6 (Fm.rows L)] := fun L => rfl
    have hzh : ∀ (L : List Fm), (Fm.mk f.op f.e false L).d = D.agg [eI f.op, eI f.e.op, eI f.e.num, eS f.e.name, rowD 4 f.e.nl (Tm.rows f.e.kids), D.sl 6 (Fm.rows L)] := fun L => by rw [Fm.d_eq]; rfl
    have e0 : (eI ((0 : Nat) : Int)) = eI 0 := rfl
    have er : Fm.rows [] = [] := rfl
    have loopA : ∀ m, 300000000 + f.sz < m + 1 → iterL (defs_Form_1_h_l8 (defs_Form_1_hL m) m) m [rowD 6 f.nl (Fm.rows f.kids), eI f.kids.length, eI 0, eI f.op, eI f.e.op, eI f.e.num, eS f.e.name, rowD 4 f.e.nl (Tm.rows f.e.kids), rowD 6 f.nl (Fm.rows f.kids), eI 0, eI 0, eI 0, eS ⟨#[]⟩, NILD, NILD, D.sl 6 [], eDs l] =
        some (if firE (f.kids.zip r) = 0 then .inl [eI f.op, eI f.e.op, eI f.e.num, eS f.e.name, rowD 4 f.e.nl (Tm.rows f.e.kids), rowD 6 f.nl (Fm.rows f.kids), eI 0, eI 0, eI 0, eS ⟨#[]⟩, NILD, NILD, D.sl 6 (Fm.rows (r.map (·.1))), eDs l] else .inr [.tup [F0.d, eI (firE (f.kids.zip r))], eDs l]) := by
      intro m hm
      have hl' := iterL_list (f := defs_Form_1_h_l8 (defs_Form_1_hL m) m) (f.kids.zip r) (fun i (s : List Fm) => [rowD 6 f.nl (Fm.rows f.kids), eI f.kids.length, eI (i : Int), eI f.op, eI f.e.op, eI f.e.num, eS f.e.name, rowD 4 f.e.nl (Tm.rows f.e.kids), rowD 6 f.nl (Fm.rows f.kids), eI 0, eI 0, eI 0, eS ⟨#[]⟩, NILD, NILD, D.sl 6 (Fm.rows s), eDs l])
        (fun q (s : List Fm) => (if firE q = 0 then .inl [eI f.op, eI f.e.op, eI f.e.num, eS f.e.name, rowD 4 f.e.nl (Tm.rows f.e.kids), rowD 6 f.nl (Fm.rows f.kids), eI 0, eI 0, eI 0, eS ⟨#[]⟩, NILD, NILD, D.sl 6 (Fm.rows (s ++ (q.map (·.2)).map (·.1))), eDs l] else .inr [.tup [F0.d, eI (firE q)], eDs l] : List D ⊕ List D))
        (fun i s => s.length = i) ?_ ?_ m 0 [] rfl (by omega) (Nat.zero_le _)
      · rw [e0, List.drop_zero, hzl, er, List.nil_append] at hl'
        exact hl'
      · intro s _
        rw [hzlen]
        simp only [defs_Form_1_h_l8, obind_s, og_t, oif_b, pd_0, pd_s, and_ch, or_ch, b_lss, b_leq, b_gtr, b_geq, b_eql, b_neq, s_eql, s_neq, s_lss, u_not, jnX_l, jnX_r, inrX_s, oneP_I, oneP_B, oneP_S, oneP_sl, oneP_row, oneP_nil, one_I, one_B, one_S, one_sl, one_row, one_nil, extP_tup, List.getElem?_cons_zero, List.getElem?_cons_succ, esD_sl, lenP_sl, lenP_row, lenP_nil, elP_sl, ixP_nat, Bool.and_true, Bool.true_and, Bool.and_self, if_true, if_false, Bool.not_true, Bool.not_false, Bool.false_eq_true, flat_eB, flat_eI, flat_eS, Bool.or_true, Bool.true_or, agg2, agg3, agg4, agg5, agg6, agg7, agg8, zB, zI, zS, celsD_agg, mpD_mp, Tm.agg_d, Fm.aggP_d, Fm.cel0, Fm.cel1, Fm.cel2, Fm.cel3, Fm.cel4, Fm.cel5, Fm.agg_d, Fm.atP_cells, Fm.rows_len, decide_eq_false (show ¬ ((f.kids.length : Int) < f.kids.length) by omega), firE, List.map_nil, List.append_nil]
      · rintro i ⟨k, g, h, e⟩ s hab hi hs
        rw [hzlen] at hi
        obtain ⟨ha, hb'⟩ := zip_get hab
        simp only at ha hb'
        have hQ := hr2 i k (g, h, e) ha hb'
        have hm' := Fm.sz_kid (List.mem_of_getElem? ha)
        have hq := hQ.2.2.2.2.2.1 m (by omega)
        simp only at hq
        have hrm : roomP (s.length + 1) 88 = true := roomP_ok (by omega) (by omega)
        by_cases he : e = 0
        · subst he
          left
          refine ⟨s ++ [g], ?_, ?_, by simp [hs]⟩
          · simp only [defs_Form_1_h_l8, obind_s, og_t, oif_b, pd_0, pd_s, and_ch, or_ch, b_lss, b_leq, b_gtr, b_geq, b_eql, b_neq, s_eql, s_neq, s_lss, u_not, jnX_l, jnX_r, inrX_s, oneP_I, oneP_B, oneP_S, oneP_sl, oneP_row, oneP_nil, one_I, one_B, one_S, one_sl, one_row, one_nil, extP_tup, List.getElem?_cons_zero, List.getElem?_cons_succ, esD_sl, lenP_sl, lenP_row, lenP_nil, elP_sl, ixP_nat, Bool.and_true, Bool.true_and, Bool.and_self, if_true, if_false, Bool.not_true, Bool.not_false, Bool.false_eq_true, flat_eB, flat_eI, flat_eS, Bool.or_true, Bool.true_or, agg2, agg3, agg4, agg5, agg6, agg7, agg8, zB, zI, zS, celsD_agg, mpD_mp, Tm.agg_d, Fm.aggP_d, Fm.cel0, Fm.cel1, Fm.cel2, Fm.cel3, Fm.cel4, Fm.cel5, Fm.agg_d, Fm.atP_cells, Fm.rows_len, decide_eq_true (show ((i : Int) < (f.kids.length : Int)) by omega), Fm.ixP_kid ha, hq, h00, F.cells6, F.dc, rows_snoc, List.length_cons, List.length_nil, Nat.zero_add, hrm, add1 (bt := false) (i := i) (by omega)]
          · simp only [firE, if_true, List.map_cons, List.append_assoc, List.singleton_append]
        · have hne : (e != 0) = true := by simpa using he
          right
          simp only [defs_Form_1_h_l8, obind_s, og_t, oif_b, pd_0, pd_s, and_ch, or_ch, b_lss, b_leq, b_gtr, b_geq, b_eql, b_neq, s_eql, s_neq, s_lss, u_not, jnX_l, jnX_r, inrX_s, oneP_I, oneP_B, oneP_S, oneP_sl, oneP_row, oneP_nil, one_I, one_B, one_S, one_sl, one_row, one_nil, extP_tup, List.getElem?_cons_zero, List.getElem?_cons_succ, esD_sl, lenP_sl, lenP_row, lenP_nil, elP_sl, ixP_nat, Bool.and_true, Bool.true_and, Bool.and_self, if_true, if_false, Bool.not_true, Bool.not_false, Bool.false_eq_true, flat_eB, flat_eI, flat_eS, Bool.or_true, Bool.true_or, agg2, agg3, agg4, agg5, agg6, agg7, agg8, zB, zI, zS, celsD_agg, mpD_mp, Tm.agg_d, Fm.aggP_d, Fm.cel0, Fm.cel1, Fm.cel2, Fm.cel3, Fm.cel4, Fm.cel5, Fm.agg_d, Fm.atP_cells, Fm.rows_len, decide_eq_true (show ((i : Int) < (f.kids.length : Int)) by omega), Fm.ixP_kid ha, hq, hne, hz0, firE, he]
    have loopB : ∀ m, 300000000 + f.sz < m + 1 → iterL (ref35_form_l9 (ref35_formL m) m) m [eDs l, eI 0, eI f.op, eI f.e.op, eI f.e.num, eS f.e.name, rowD 4 f.e.nl (Tm.rows f.e.kids), rowD 6 f.nl (Fm.rows f.kids), eI 0, eI 0, eI 0, eS ⟨#[]⟩, NILD, NILD, D.sl 6 []] =
        some (if firE (f.kids.zip r) = 0 then .inl [eI f.op, eI f.e.op, eI f.e.num, eS f.e.name, rowD 4 f.e.nl (Tm.rows f.e.kids), rowD 6 f.nl (Fm.rows f.kids), eI 0, eI 0, eI 0, eS ⟨#[]⟩, NILD, NILD, D.sl 6 (Fm.rows (r.map (·.2.1)))] else .inr (.tup [F0.d, eI (firE (f.kids.zip r))])) := by
      intro m hm
      have hl' := iterL_list (f := ref35_form_l9 (ref35_formL m) m) (f.kids.zip r) (fun i (s : List Fm) => [eDs l, eI (i : Int), eI f.op, eI f.e.op, eI f.e.num, eS f.e.name, rowD 4 f.e.nl (Tm.rows f.e.kids), rowD 6 f.nl (Fm.rows f.kids), eI 0, eI 0, eI 0, eS ⟨#[]⟩, NILD, NILD, D.sl 6 (Fm.rows s)])
        (fun q (s : List Fm) => (if firE q = 0 then .inl [eI f.op, eI f.e.op, eI f.e.num, eS f.e.name, rowD 4 f.e.nl (Tm.rows f.e.kids), rowD 6 f.nl (Fm.rows f.kids), eI 0, eI 0, eI 0, eS ⟨#[]⟩, NILD, NILD, D.sl 6 (Fm.rows (s ++ (q.map (·.2)).map (·.2.1)))] else .inr (.tup [F0.d, eI (firE q)]) : List D ⊕ D))
        (fun i s => s.length = i) ?_ ?_ m 0 [] rfl (by omega) (Nat.zero_le _)
      · rw [e0, List.drop_zero, hzl, er, List.nil_append] at hl'
        exact hl'
      · intro s _
        rw [hzlen]
        simp only [ref35_form_l9, obind_s, og_t, oif_b, pd_0, pd_s, and_ch, or_ch, b_lss, b_leq, b_gtr, b_geq, b_eql, b_neq, s_eql, s_neq, s_lss, u_not, jnX_l, jnX_r, inrX_s, oneP_I, oneP_B, oneP_S, oneP_sl, oneP_row, oneP_nil, one_I, one_B, one_S, one_sl, one_row, one_nil, extP_tup, List.getElem?_cons_zero, List.getElem?_cons_succ, esD_sl, lenP_sl, lenP_row, lenP_nil, elP_sl, ixP_nat, Bool.and_true, Bool.true_and, Bool.and_self, if_true, if_false, Bool.not_true, Bool.not_false, Bool.false_eq_true, flat_eB, flat_eI, flat_eS, Bool.or_true, Bool.true_or, agg2, agg3, agg4, agg5, agg6, agg7, agg8, zB, zI, zS, celsD_agg, mpD_mp, Tm.agg_d, Fm.aggP_d, Fm.cel0, Fm.cel1, Fm.cel2, Fm.cel3, Fm.cel4, Fm.cel5, Fm.agg_d, Fm.atP_cells, Fm.rows_len, decide_eq_false (show ¬ ((f.kids.length : Int) < f.kids.length) by omega), firE, List.map_nil, List.append_nil]
      · rintro i ⟨k, g, h, e⟩ s hab hi hs
        rw [hzlen] at hi
        obtain ⟨ha, hb'⟩ := zip_get hab
        simp only at ha hb'
        have hQ := hr2 i k (g, h, e) ha hb'
        have hm' := Fm.sz_kid (List.mem_of_getElem? ha)
        have hq := hQ.2.2.2.2.2.2 m (by omega)
        simp only at hq
        have hrm : roomP (s.length + 1) 88 = true := roomP_ok (by omega) (by omega)
        by_cases he : e = 0
        · subst he
          left
          refine ⟨s ++ [h], ?_, ?_, by simp [hs]⟩
          · simp only [ref35_form_l9, obind_s, og_t, oif_b, pd_0, pd_s, and_ch, or_ch, b_lss, b_leq, b_gtr, b_geq, b_eql, b_neq, s_eql, s_neq, s_lss, u_not, jnX_l, jnX_r, inrX_s, oneP_I, oneP_B, oneP_S, oneP_sl, oneP_row, oneP_nil, one_I, one_B, one_S, one_sl, one_row, one_nil, extP_tup, List.getElem?_cons_zero, List.getElem?_cons_succ, esD_sl, lenP_sl, lenP_row, lenP_nil, elP_sl, ixP_nat, Bool.and_true, Bool.true_and, Bool.and_self, if_true, if_false, Bool.not_true, Bool.not_false, Bool.false_eq_true, flat_eB, flat_eI, flat_eS, Bool.or_true, Bool.true_or, agg2, agg3, agg4, agg5, agg6, agg7, agg8, zB, zI, zS, celsD_agg, mpD_mp, Tm.agg_d, Fm.aggP_d, Fm.cel0, Fm.cel1, Fm.cel2, Fm.cel3, Fm.cel4, Fm.cel5, Fm.agg_d, Fm.atP_cells, Fm.rows_len, decide_eq_true (show ((i : Int) < (f.kids.length : Int)) by omega), Fm.ixP_kid ha, hq, h00, F.cells6, F.dc, rows_snoc, List.length_cons, List.length_nil, Nat.zero_add, hrm, add1 (bt := false) (i := i) (by omega)]
          · simp only [firE, if_true, List.map_cons, List.append_assoc, List.singleton_append]
        · have hne : (e != 0) = true := by simpa using he
          right
          simp only [ref35_form_l9, obind_s, og_t, oif_b, pd_0, pd_s, and_ch, or_ch, b_lss, b_leq, b_gtr, b_geq, b_eql, b_neq, s_eql, s_neq, s_lss, u_not, jnX_l, jnX_r, inrX_s, oneP_I, oneP_B, oneP_S, oneP_sl, oneP_row, oneP_nil, one_I, one_B, one_S, one_sl, one_row, one_nil, extP_tup, List.getElem?_cons_zero, List.getElem?_cons_succ, esD_sl, lenP_sl, lenP_row, lenP_nil, elP_sl, ixP_nat, Bool.and_true, Bool.true_and, Bool.and_self, if_true, if_false, Bool.not_true, Bool.not_false, Bool.false_eq_true, flat_eB, flat_eI, flat_eS, Bool.or_true, Bool.true_or, agg2, agg3, agg4, agg5, agg6, agg7, agg8, zB, zI, zS, celsD_agg, mpD_mp, Tm.agg_d, Fm.aggP_d, Fm.cel0, Fm.cel1, Fm.cel2, Fm.cel3, Fm.cel4, Fm.cel5, Fm.agg_d, Fm.atP_cells, Fm.rows_len, decide_eq_true (show ((i : Int) < (f.kids.length : Int)) by omega), Fm.ixP_kid ha, hq, hne, hz0, firE, he]
    by_cases hE : firE (f.kids.zip r) = 0
    · simp only [hE, if_true] at loopA loopB
      have hget : ∀ {p : Fm × Fm × Int → Fm} {j : Nat} {b : Fm}, (r.map p)[j]? = some b → ∃ k x, f.kids[j]? = some k ∧ r[j]? = some x ∧ b = p x := by
        intro p j b hj
        rw [List.getElem?_map] at hj
        obtain ⟨x, hx, rfl⟩ := Option.map_eq_some_iff.1 hj
        have hjl := (List.getElem?_eq_some_iff.1 hx).1
        exact ⟨_, x, List.getElem?_eq_getElem (by omega), hx, rfl⟩
      refine ⟨(.mk f.op T0 false (r.map (·.1)), .mk f.op f.e false (r.map (·.2.1)), 0), .mk _ _ _ _ hop T0_ok (by simp [hr1]; omega) ?_, .mk _ _ _ _ hop hok.e (by simp [hr1]; omega) ?_, ?_, ?_, ?_, ?_, ?_⟩
      · intro b hbm
        obtain ⟨j, hj⟩ := List.mem_iff_getElem?.1 hbm
        obtain ⟨k, x, q1, q2, rfl⟩ := hget hj
        exact (hr2 j k x q1 q2).1
      · intro b hbm
        obtain ⟨j, hj⟩ := List.mem_iff_getElem?.1 hbm
        obtain ⟨k, x, q1, q2, rfl⟩ := hget hj
        exact (hr2 j k x q1 q2).2.1
      · have := szL_bd (fun x : Fm × Fm × Int => x.1) f.kids r hr1 (fun j a b ha hb => (hr2 j a b ha hb).2.2.1)
        show 2 + 2 + Fm.szL (r.map (·.1)) ≤ _
        omega
      · have := szL_bd (fun x : Fm × Fm × Int => x.2.1) f.kids r hr1 (fun j a b ha hb => (hr2 j a b ha hb).2.2.2.1)
        show 2 + f.e.sz + Fm.szL (r.map (·.2.1)) ≤ _
        omega
      · rw [sameF_eq]
        have hs := sameFL_of (r.map (·.1)) (r.map (·.2.1)) (by simp) (by
          intro j a b ha hb
          obtain ⟨k, x, q1, q2, rfl⟩ := hget ha
          obtain ⟨k', x', q1', q2', rfl⟩ := hget hb
          rw [q2] at q2'; cases q2'
          exact (hr2 j k x q1 q2).2.2.2.2.1)
        have hl2 : (r.map (·.1)).length = (r.map (·.2.1)).length := by simp
        show (decide (f.op = f.op) && (sameT T0 f.e && (decide ((r.map (·.1)).length = (r.map (·.2.1)).length) && sameFL (r.map (·.1)) (r.map (·.2.1))))) = true
        rw [same_bare hb, hs, hl2]; simp
      · intro n hn
        obtain ⟨m, rfl⟩ := (⟨n - 1, by omega⟩ : ∃ m, n = m + 1)
        have hA' := loopA m (by omega)
        show defs_Form_1_h (defs_Form_1_hL m) m _ = _
        simp only [defs_Form_1_h, obind_s, og_t, oif_b, pd_0, pd_s, and_ch, or_ch, b_lss, b_leq, b_gtr, b_geq, b_eql, b_neq, s_eql, s_neq, s_lss, u_not, jnX_l, jnX_r, inrX_s, oneP_I, oneP_B, oneP_S, oneP_sl, oneP_row, oneP_nil, one_I, one_B, one_S, one_sl, one_row, one_nil, extP_tup, List.getElem?_cons_zero, List.getElem?_cons_succ, esD_sl, lenP_sl, lenP_row, lenP_nil, elP_sl, ixP_nat, Bool.and_true, Bool.true_and, Bool.and_self, if_true, if_false, Bool.not_true, Bool.not_false, Bool.false_eq_true, flat_eB, flat_eI, flat_eS, Bool.or_true, Bool.true_or, agg2, agg3, agg4, agg5, agg6, agg7, agg8, zB, zI, zS, celsD_agg, mpD_mp, Tm.aggP_d, Tm.cel0, Tm.cel1, Tm.cel2, Tm.cel3, Tm.agg_d, Tm.atP_cells, Tm.rows_len, Tm.agg_d, Fm.aggP_d, Fm.cel0, Fm.cel1, Fm.cel2, Fm.cel3, Fm.cel4, Fm.cel5, Fm.agg_d, Fm.atP_cells, Fm.rows_len, h11, hA', hzf]
      · intro n hn
        obtain ⟨m, rfl⟩ := (⟨n - 1, by omega⟩ : ∃ m, n = m + 1)
        have hB' := loopB m (by omega)
        show ref35_form (ref35_formL m) m _ _ = _
        simp only [ref35_form, obind_s, og_t, oif_b, pd_0, pd_s, and_ch, or_ch, b_lss, b_leq, b_gtr, b_geq, b_eql, b_neq, s_eql, s_neq, s_lss, u_not, jnX_l, jnX_r, inrX_s, oneP_I, oneP_B, oneP_S, oneP_sl, oneP_row, oneP_nil, one_I, one_B, one_S, one_sl, one_row, one_nil, extP_tup, List.getElem?_cons_zero, List.getElem?_cons_succ, esD_sl, lenP_sl, lenP_row, lenP_nil, elP_sl, ixP_nat, Bool.and_true, Bool.true_and, Bool.and_self, if_true, if_false, Bool.not_true, Bool.not_false, Bool.false_eq_true, flat_eB, flat_eI, flat_eS, Bool.or_true, Bool.true_or, agg2, agg3, agg4, agg5, agg6, agg7, agg8, zB, zI, zS, celsD_agg, mpD_mp, Tm.aggP_d, Tm.cel0, Tm.cel1, Tm.cel2, Tm.cel3, Tm.agg_d, Tm.atP_cells, Tm.rows_len, Tm.agg_d, Fm.aggP_d, Fm.cel0, Fm.cel1, Fm.cel2, Fm.cel3, Fm.cel4, Fm.cel5, Fm.agg_d, Fm.atP_cells, Fm.rows_len, h11, hB', hzh]
    · simp only [hE, if_false] at loopA loopB
      refine ⟨(F0, F0, firE (f.kids.zip r)), F0_ok, F0_ok, ?_, ?_, sameF_refl _, ?_, ?_⟩
      · show 2 + 2 + 0 ≤ _; omega
      · show 2 + 2 + 0 ≤ _; omega
      · intro n hn
        obtain ⟨m, rfl⟩ := (⟨n - 1, by omega⟩ : ∃ m, n = m + 1)
        have hA' := loopA m (by omega)
        show defs_Form_1_h (defs_Form_1_hL m) m _ = _
        simp only [defs_Form_1_h, obind_s, og_t, oif_b, pd_0, pd_s, and_ch, or_ch, b_lss, b_leq, b_gtr, b_geq, b_eql, b_neq, s_eql, s_neq, s_lss, u_not, jnX_l, jnX_r, inrX_s, oneP_I, oneP_B, oneP_S, oneP_sl, oneP_row, oneP_nil, one_I, one_B, one_S, one_sl, one_row, one_nil, extP_tup, List.getElem?_cons_zero, List.getElem?_cons_succ, esD_sl, lenP_sl, lenP_row, lenP_nil, elP_sl, ixP_nat, Bool.and_true, Bool.true_and, Bool.and_self, if_true, if_false, Bool.not_true, Bool.not_false, Bool.false_eq_true, flat_eB, flat_eI, flat_eS, Bool.or_true, Bool.true_or, agg2, agg3, agg4, agg5, agg6, agg7, agg8, zB, zI, zS, celsD_agg, mpD_mp, Tm.aggP_d, Tm.cel0, Tm.cel1, Tm.cel2, Tm.cel3, Tm.agg_d, Tm.atP_cells, Tm.rows_len, Tm.agg_d, Fm.aggP_d, Fm.cel0, Fm.cel1, Fm.cel2, Fm.cel3, Fm.cel4, Fm.cel5, Fm.agg_d, Fm.atP_cells, Fm.rows_len, h11, hA']
      · intro n hn
        obtain ⟨m, rfl⟩ := (⟨n - 1, by omega⟩ : ∃ m, n = m + 1)
        have hB' := loopB m (by omega)
        show ref35_form (ref35_formL m) m _ _ = _
        simp only [ref35_form, obind_s, og_t, oif_b, pd_0, pd_s, and_ch, or_ch, b_lss, b_leq, b_gtr, b_geq, b_eql, b_neq, s_eql, s_neq, s_lss, u_not, jnX_l, jnX_r, inrX_s, oneP_I, oneP_B, oneP_S, oneP_sl, oneP_row, oneP_nil, one_I, one_B, one_S, one_sl, one_row, one_nil, extP_tup, List.getElem?_cons_zero, List.getElem?_cons_succ, esD_sl, lenP_sl, lenP_row, lenP_nil, elP_sl, ixP_nat, Bool.and_true, Bool.true_and, Bool.and_self, if_true, if_false, Bool.not_true, Bool.not_false, Bool.false_eq_true, flat_eB, flat_eI, flat_eS, Bool.or_true, Bool.true_or, agg2, agg3, agg4, agg5, agg6, agg7, agg8, zB, zI, zS, celsD_agg, mpD_mp, Tm.aggP_d, Tm.cel0, Tm.cel1, Tm.cel2, Tm.cel3, Tm.agg_d, Tm.atP_cells, Tm.rows_len, Tm.agg_d, Fm.aggP_d, Fm.cel0, Fm.cel1, Fm.cel2, Fm.cel3, Fm.cel4, Fm.cel5, Fm.agg_d, Fm.atP_cells, Fm.rows_len, h11, hB']
end Go.Am
