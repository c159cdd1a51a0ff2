/- The law, joined to the program. No condition. -/
import Derived.Test.YtnhjgipcepnocaaEngD
import Derived.Test.YtnhjgipcepnocaaLaws
set_option linter.all false
set_option linter.unnecessarySimpa false
namespace Go.Am
set_option linter.unusedVariables false
set_option linter.unusedSimpArgs false
/-! ### The error of one node -/
def kidsF (op : Int) : Int :=
  if op = 1 then 0 else if op = 3 ∨ op = 4 ∨ op = 5 ∨ op = 9 ∨ op = 13 then 2 else if op = 2 ∨ op = 6 ∨ op = 7 ∨ op = 8 ∨ op = 10 ∨ op = 11 ∨ op = 12 then 1 else -1
theorem forms_kids_ok (n : Nat) (op : Int) : forms_kidsL n [eI op] = some (eI (kidsF op)) := by
  rcases opCases op with rfl|rfl|rfl|rfl|rfl|rfl|rfl|rfl|rfl|rfl|rfl|rfl|rfl|rfl|rfl|rfl|rfl|rfl|h
  case inr.inr.inr.inr.inr.inr.inr.inr.inr.inr.inr.inr.inr.inr.inr.inr.inr.inr =>
    have e : ∀ k : Int, 1 ≤ k → k ≤ 18 → (op == k) = false := fun k h1 h2 => by simp; omega
    have e2 : kidsF op = -1 := by unfold kidsF; repeat (first | rw [if_neg (by omega)] | rw [if_pos (by omega)])
    simp [forms_kidsL, forms_kids, e, e2]
  all_goals rfl
theorem ref32_Kids_ok (n : Nat) (op : Int) : ref32_KidsL n [eI op] = some (eI (kidsF op)) := by
  rcases opCases op with rfl|rfl|rfl|rfl|rfl|rfl|rfl|rfl|rfl|rfl|rfl|rfl|rfl|rfl|rfl|rfl|rfl|rfl|h
  case inr.inr.inr.inr.inr.inr.inr.inr.inr.inr.inr.inr.inr.inr.inr.inr.inr.inr =>
    have e : ∀ k : Int, 1 ≤ k → k ≤ 18 → (op == k) = false := fun k h1 h2 => by simp; omega
    have e2 : kidsF op = -1 := by unfold kidsF; repeat (first | rw [if_neg (by omega)] | rw [if_pos (by omega)])
    simp [ref32_KidsL, ref32_Kids, e, e2]
  all_goals rfl
/-- The error of the term of a node. -/
def termE (t : Tm) : Int := if (chk t 1 0).1 ≠ 0 then (chk t 1 0).1 else if 0 < (nmT 4 t []).length then 24 else 0
def bareT (t : Tm) : Bool := t.op == 0 && (t.num == 0 && (decide (t.name = ⟨#[]⟩) && decide (t.kids.length = 0)))
def oneF (f : Fm) : Int :=
  if kidsF f.op < 0 then 11 else if f.op = 1 ∧ termE f.e ≠ 0 then termE f.e
  else if (f.kids.length : Int) ≠ kidsF f.op ∨ (f.op ≠ 1 ∧ bareT f.e = false) then 3 else 0
theorem termE_pos (t : Tm) : termE t = 0 ↔ (chk t 1 0).1 = 0 ∧ (nmT 4 t []).length = 0 := by
  unfold termE
  by_cases h : (chk t 1 0).1 = 0
  · simp [h]
  · simp [h]
theorem forms_term_ok (n : Nat) (f : Fm) (hn : 2 * f.e.sz + 40 < n) (hok : f.Ok) (hb : f.e.sz < 100000000) : forms_termL n [f.d] = some (eI (if f.op ≠ 1 then 0 else termE f.e)) := by
  have h1 := terms_Check_ok n f.e (by omega) hok.e
  have h2 := terms_Names_ok n f.e (by omega) hok.e hb
  by_cases ho : f.op = 1
  case neg => simp [forms_termL, forms_term, ho]
  unfold termE
  by_cases hc : (chk f.e 1 0).1 = 0
  · have e4 : lenP (eSs (nmT 4 f.e [])) = some (eI (nmT 4 f.e []).length) := by simp [eSs]
    by_cases h4 : 0 < (nmT 4 f.e []).length <;> simp [forms_termL, forms_term, ho, h1, hc, h2, e4, h4]
  · simp [forms_termL, forms_term, ho, h1, hc]
theorem ref32_nothing_ok (n : Nat) (t : Tm) : ref32_nothingL n [t.d] = some (eB (bareT t)) := by
  unfold bareT
  simp [ref32_nothingL, ref32_nothing]
  by_cases h1 : t.op = 0 <;> by_cases h2 : t.num = 0 <;> by_cases h3 : t.name = ⟨#[]⟩ <;> by_cases h4 : t.kids = [] <;> simp [h1, h2, h3, h4]
theorem ref32_one_ok (n : Nat) (f : Fm) (hn : 2 * f.e.sz + 40 < n) (hok : f.Ok) (hb : f.e.sz < 100000000) : ref32_oneL n [f.d] = some (eI (oneF f)) := by
  have h1 := ref30_Check_ok n f.e (by omega) hok.e
  have h2 := ref30_Names_ok n f.e (by omega) hok.e (by omega)
  have hk := ref32_Kids_ok n f.op
  have hz := ref32_nothing_ok n f.e
  have e4 : lenP (sD true (nmT 4 f.e [])) = some (eI (nmT 4 f.e []).length) := sD_len _ _
  unfold oneF
  by_cases h0 : kidsF f.op < 0
  · simp [ref32_oneL, ref32_one, hk, h0]
  by_cases ho : f.op = 1
  · unfold termE
    have k1 : kidsF 1 = 0 := rfl
    rw [ho, k1] at hk
    by_cases hc : (chk f.e 1 0).1 = 0
    · by_cases h4 : 0 < (nmT 4 f.e []).length
      · simp [ref32_oneL, ref32_one, hk, ho, h1, hc, h2, e4, h4, k1]
      · simp [ref32_oneL, ref32_one, hk, ho, h1, hc, h2, e4, h4, k1]
        by_cases h5 : f.kids = [] <;> simp [h5]
    · simp [ref32_oneL, ref32_one, hk, ho, h1, hc, k1]
  · simp [ref32_oneL, ref32_one, hk, h0, ho, hz]
    by_cases h5 : (f.kids.length : Int) = kidsF f.op
    · cases h6 : bareT f.e <;> simp [h5, h6]
    · simp [h5]
/-! ### Check -/
mutual
/-- The error of a formula at a depth, behind so many nodes; and how many nodes there were then. -/
def chF : Fm → Int → Int → Int × Int
  | .mk o t b ks, deep, k =>
    if deep > 64 then (17, k + 1) else if oneF (.mk o t b ks) ≠ 0 then (oneF (.mk o t b ks), k + 1) else if k + 1 > 4096 then (4, k + 1) else chFL ks (deep + 1) (k + 1)
def chFL : List Fm → Int → Int → Int × Int
  | [], _, k => (0, k)
  | t :: r, deep, k => if (chF t deep k).1 ≠ 0 then chF t deep k else chFL r deep (chF t deep k).2
end
theorem chF_eq (t : Fm) (deep k : Int) : chF t deep k = if deep > 64 then (17, k + 1) else if oneF t ≠ 0 then (oneF t, k + 1) else if k + 1 > 4096 then (4, k + 1) else chFL t.kids (deep + 1) (k + 1) := by
  cases t; rw [chF]; rfl
mutual
/-- The same, where an error is told before the node is counted. -/
def wkF : Fm → Int → Int → Int × Int
  | .mk o t b ks, deep, k =>
    if deep > 64 then (17, k) else if oneF (.mk o t b ks) ≠ 0 then (oneF (.mk o t b ks), k) else if k + 1 > 4096 then (4, k + 1) else wkFL ks (deep + 1) (k + 1)
def wkFL : List Fm → Int → Int → Int × Int
  | [], _, k => (0, k)
  | t :: r, deep, k => if (wkF t deep k).1 ≠ 0 then wkF t deep k else wkFL r deep (wkF t deep k).2
end
theorem wkF_eq (t : Fm) (deep k : Int) : wkF t deep k = if deep > 64 then (17, k) else if oneF t ≠ 0 then (oneF t, k) else if k + 1 > 4096 then (4, k + 1) else wkFL t.kids (deep + 1) (k + 1) := by
  cases t; rw [wkF]; rfl
theorem wk_ch (t : Fm) : ∀ deep k, (wkF t deep k).1 = (chF t deep k).1 ∧ ((wkF t deep k).1 = 0 → (wkF t deep k).2 = (chF t deep k).2) := by
  refine Fm.ind (P := fun t => ∀ deep k, (wkF t deep k).1 = (chF t deep k).1 ∧ ((wkF t deep k).1 = 0 → (wkF t deep k).2 = (chF t deep k).2)) ?_ t
  intro t ih deep k
  rw [wkF_eq, chF_eq]
  split
  · simp
  split
  · rename_i h; simp [h]
  split
  · simp
  have key : ∀ (l : List Fm), (∀ x ∈ l, ∀ deep k, (wkF x deep k).1 = (chF x deep k).1 ∧ ((wkF x deep k).1 = 0 → (wkF x deep k).2 = (chF x deep k).2)) → ∀ deep k, (wkFL l deep k).1 = (chFL l deep k).1 ∧ ((wkFL l deep k).1 = 0 → (wkFL l deep k).2 = (chFL l deep k).2) := by
    intro l
    induction l with
    | nil => intro _ deep k; simp [wkFL, chFL]
    | cons a r ihr =>
      intro h deep k
      rw [wkFL, chFL]
      have h1 := h a (by simp) deep k
      by_cases h2 : (chF a deep k).1 = 0
      · have h3 := h1.1.trans h2
        have h4 := h1.2 h3
        simp only [h2, h3, ne_eq, not_true_eq_false, if_false, h4]
        exact ihr (fun x hx => h x (by simp [hx])) deep _
      · have h3 : (wkF a deep k).1 ≠ 0 := by rw [h1.1]; exact h2
        simp only [ne_eq, h2, h3, not_false_eq_true, if_true]
        exact ⟨h1.1, fun h => h.elim⟩
  exact key t.kids ih _ _
theorem chF_pos (t : Fm) : ∀ (deep k : Int), k + 1 ≤ (chF t deep k).2 ∧ ((chF t deep k).1 = 0 → (chF t deep k).2 ≤ 4096) := by
  refine Fm.ind (P := fun t => ∀ (deep k : Int), k + 1 ≤ (chF t deep k).2 ∧ ((chF t deep k).1 = 0 → (chF t deep k).2 ≤ 4096)) ?_ t
  intro t ih deep k
  rw [chF_eq]
  split
  · simp
  split
  · rename_i h; simp [h]
  split
  · simp
  have key : ∀ (l : List Fm) (deep k : Int), (∀ x ∈ l, ∀ (deep k : Int), k + 1 ≤ (chF x deep k).2 ∧ ((chF x deep k).1 = 0 → (chF x deep k).2 ≤ 4096)) → k ≤ 4096 → k ≤ (chFL l deep k).2 ∧ ((chFL l deep k).1 = 0 → (chFL l deep k).2 ≤ 4096) := by
    intro l
    induction l with
    | nil => intro deep k _ h; simp [chFL, h]
    | cons a r ihr =>
      intro deep k h hk
      rw [chFL]
      have h1 := h a (by simp) deep k
      split
      · rename_i h2; exact ⟨by omega, fun h3 => absurd h3 h2⟩
      · rename_i h2
        simp only [ne_eq, Decidable.not_not] at h2
        have h3 := ihr deep (chF a deep k).2 (fun x hx => h x (by simp [hx])) (h1.2 h2)
        exact ⟨by omega, h3.2⟩
  exact key t.kids (deep + 1) (k + 1) ih (by omega)
theorem ref32_walk_ok : ∀ (n : Nat) (t : Fm) (deep k : Int), 2 * t.sz + 40 < n → t.Ok → t.sz < 100000000 → 0 ≤ deep → deep ≤ 65 → 0 ≤ k → k ≤ 4096 → ref32_walkL n [t.d, eI deep, eI k] = some (.tup [eI (wkF t deep k).1, eI (wkF t deep k).2])
  | 0, t, _, _, h, _, _, _, _, _, _ => absurd h (Nat.not_lt_zero _)
  | n + 1, t, deep, k, hn, hok, hb, h1, h2, h3, h4 => by
    have hse := t.sz_e
    have hp := ref32_one_ok n t (by omega) hok (by omega)
    rw [wkF_eq]
    simp [ref32_walkL, ref32_walk, add1i (bt := false) (i := k) (by omega) (by omega), hp]
    by_cases hd : 64 < deep
    · simp [hd]
    simp [hd]
    by_cases hw : oneF t = 0
    case neg => simp [hw]
    simp [hw]
    by_cases hc : 4096 < k + 1
    · simp [hc]
    simp [hc]
    have hl := iterL_list (f := ref32_walk_l10 (ref32_walkL n) n) t.kids (fun i s => [eI deep, eI s, eI (i : Int), eI t.op, eI t.e.op, eI t.e.num, eS t.e.name, rowD 4 t.e.nl (Tm.rows t.e.kids), rowD 6 t.nl (Fm.rows t.kids)])
      (fun r (s : Int) => if (wkFL r (deep + 1) s).1 = 0 then (Sum.inl [eI (wkFL r (deep + 1) s).2] : List D ⊕ D) else .inr (.tup [eI (wkFL r (deep + 1) s).1, eI (wkFL r (deep + 1) s).2]))
      (fun i s => 0 ≤ s ∧ s ≤ 4096) ?_ ?_ n 0 (k + 1) ⟨by omega, by omega⟩ (by have := t.sz_len; omega) (Nat.zero_le _)
    · have e0 : (eI ((0 : Nat) : Int)) = eI 0 := rfl
      rw [e0] at hl
      rw [hl]
      simp only [List.drop_zero, obind_s]
      by_cases h0 : (wkFL t.kids (deep + 1) (k + 1)).1 = 0
      · simp [h0]
      · simp [h0]
    · intro s hs
      simp [ref32_walk_l10, wkFL]
    · intro i a s ha hi hs
      have hm := List.mem_of_getElem? ha
      have hz := Fm.sz_kid hm
      have hlen := hok.len
      have hr := ref32_walk_ok n a (deep + 1) s (by omega) (hok.kid hm) (by omega) (by omega) (by omega) hs.1 hs.2
      have hpos := chF_pos a (deep + 1) s
      have hwc := wk_ch a (deep + 1) s
      simp [ref32_walk_l10, hi, Fm.ixP_kid ha, add1i (bt := false) (i := deep) (by omega) (by omega), hr, add1 (bt := false) (i := i) (by omega), wkFL]
      by_cases h0 : (wkF a (deep + 1) s).1 = 0
      · left
        simp only [h0]
        have h5 := hwc.2 h0
        have h6 := hwc.1 ▸ h0
        refine ⟨(wkF a (deep + 1) s).2, by simp, by simp, by omega, by rw [h5]; exact hpos.2 (by rw [← hwc.1]; exact h0)⟩
      · right
        simp [h0]
/-- What Check answers. -/
def chkF (f : Fm) : Int := (chF f 1 0).1
theorem ref32_Check_ok (n : Nat) (f : Fm) (hn : 2 * f.sz + 50 < n) (hok : f.Ok) (hb : f.sz < 100000000) : ref32_CheckL n [f.d] = some (eI (chkF f)) := by
  have := ref32_walk_ok n f 1 0 (by omega) hok hb (by omega) (by omega) (by omega) (by omega)
  have e := (wk_ch f 1 0).1
  simp [ref32_CheckL, ref32_Check, this, e, chkF]
theorem forms_Check_1_ok (n : Nat) (f : Fm) (deep k w : Int) (hn : 2 * f.sz + 40 < n) (hok : f.Ok) (hb : f.sz < 100000000) (h1 : 0 ≤ k) (h2 : k ≤ 4096) : ∃ e, e = (if deep > 64 then 17 else if oneF f ≠ 0 then oneF f else if k + 1 > 4096 then 4 else w) ∧
    forms_Check_1_h n [f.d, eI deep, eI k, eI w] = some [eB (decide (e = 0)), eI (k + 1), eI e] := by
  refine ⟨_, rfl, ?_⟩
  have hse := f.sz_e
  have hp := forms_term_ok n f (by omega) hok (by omega)
  have hk := forms_kids_ok n f.op
  have hlen : lenP (rowD 6 f.nl (Fm.rows f.kids)) = some (eI f.kids.length) := by simp
  have hbare : (f.e.op == 0 && (f.e.num == 0 && (decide (f.e.name = ⟨#[]⟩) && decide (f.e.kids.length = 0)))) = bareT f.e := rfl
  have hl0 : ((f.e.kids.length : Int) == 0) = decide (f.e.kids.length = 0) := by
    by_cases h : f.e.kids.length = 0 <;> simp [h]
  unfold oneF
  simp only [forms_Check_1_h, obind_s, og_t, oif_b, pd_0, pd_s, and_ch, or_ch, b_lss, b_leq, b_gtr, b_geq, b_eql, b_neq, s_eql, s_neq, s_lss, u_not, jnX_l, jnX_r, inrX_s, oneP_I, oneP_B, oneP_S, oneP_sl, oneP_row, oneP_nil, one_I, one_B, one_S, one_sl, one_row, one_nil, extP_tup, List.getElem?_cons_zero, List.getElem?_cons_succ, esD_sl, lenP_sl, lenP_row, lenP_nil, elP_sl, ixP_nat, Bool.and_true, Bool.true_and, Bool.and_self, if_true, if_false, Bool.not_true, Bool.not_false, Bool.false_eq_true, flat_eB, flat_eI, flat_eS, Bool.or_true, Bool.true_or, agg2, agg3, agg4, agg5, agg6, agg7, agg8, zB, zI, zS, celsD_agg, mpD_mp, Tm.agg_d, Fm.aggP_d, Fm.cel0, Fm.cel1, Fm.cel2, Fm.cel3, Fm.cel4, Fm.cel5, Fm.agg_d, Fm.atP_cells, Fm.rows_len, Tm.rows_len, add1i (bt := false) (i := k) (by omega) (by omega), hp, hk, hl0, Bool.and_assoc, hbare]
  have hw : (w == 0) = decide (w = 0) := by by_cases h : w = 0 <;> simp [h]
  generalize bareT f.e = bb
  by_cases c1 : 64 < deep
  · simp [c1]
  by_cases c2 : kidsF f.op < 0
  · simp [c1, c2]
  by_cases c3 : f.op = 1
  · have k1 : kidsF 1 = 0 := rfl
    by_cases c4 : termE f.e = 0
    · by_cases c5 : f.kids = [] <;> by_cases c6 : 4096 < k + 1 <;> simp [c1, c2, c3, c4, c5, c6, k1, hw]
    · simp [c1, c2, c3, c4, k1]
  · by_cases c5 : (f.kids.length : Int) = kidsF f.op <;> by_cases c6 : 4096 < k + 1 <;> cases bb <;> simp [c1, c2, c3, c5, c6, hw]
theorem each_Check_ok : ∀ (n : Nat) (t : Fm) (deep k : Int), 2 * t.sz + 45 < n → t.Ok → t.sz < 100000000 → 0 ≤ deep → deep ≤ 65 → 0 ≤ k → k ≤ 4096 →
    forms_each_h_forms_Check_1L n [t.d, eI deep, eI k, eI 0] = some [eB (decide ((chF t deep k).1 = 0)), eI (chF t deep k).2, eI (chF t deep k).1]
  | 0, t, _, _, h, _, _, _, _, _, _ => absurd h (Nat.not_lt_zero _)
  | n + 1, t, deep, k, hn, hok, hb, h1, h2, h3, h4 => by
    obtain ⟨e, he, hp⟩ := forms_Check_1_ok n t deep k 0 (by omega) hok hb h3 h4
    rw [chF_eq]
    simp only [forms_each_h_forms_Check_1L, forms_each_h_forms_Check_1, obind_s, og_t, oif_b, pd_0, pd_s, and_ch, or_ch, b_lss, b_leq, b_gtr, b_geq, b_eql, b_neq, s_eql, s_neq, s_lss, u_not, jnX_l, jnX_r, inrX_s, oneP_I, oneP_B, oneP_S, oneP_sl, oneP_row, oneP_nil, one_I, one_B, one_S, one_sl, one_row, one_nil, extP_tup, List.getElem?_cons_zero, List.getElem?_cons_succ, esD_sl, lenP_sl, lenP_row, lenP_nil, elP_sl, ixP_nat, Bool.and_true, Bool.true_and, Bool.and_self, if_true, if_false, Bool.not_true, Bool.not_false, Bool.false_eq_true, flat_eB, flat_eI, flat_eS, Bool.or_true, Bool.true_or, agg2, agg3, agg4, agg5, agg6, agg7, agg8, zB, zI, zS, celsD_agg, mpD_mp, Tm.agg_d, Fm.aggP_d, Fm.cel0, Fm.cel1, Fm.cel2, Fm.cel3, Fm.cel4, Fm.cel5, Fm.agg_d, Fm.atP_cells, Fm.rows_len, hp]
    by_cases he0 : e = 0
    case neg =>
      simp [he0]
      grind
    have hc : ¬ deep > 64 ∧ oneF t = 0 ∧ ¬ k + 1 > 4096 := by grind
    simp [he0, hc]
    have hl := iterL_list (f := forms_each_h_forms_Check_1_l4 (forms_each_h_forms_Check_1L n) n) t.kids (fun i (s : Int) => [eI deep, rowD 6 t.nl (Fm.rows t.kids), eI t.kids.length, eI (i : Int), eI s, eI 0])
      (fun r (s : Int) => if (chFL r (deep + 1) s).1 = 0 then (Sum.inl [eI (chFL r (deep + 1) s).2, eI 0] : List D ⊕ List D) else .inr [eB false, eI (chFL r (deep + 1) s).2, eI (chFL r (deep + 1) s).1])
      (fun i s => 0 ≤ s ∧ s ≤ 4096) ?_ ?_ n 0 (k + 1) ⟨by omega, by omega⟩ (by have := t.sz_len; omega) (Nat.zero_le _)
    · have e0 : (eI ((0 : Nat) : Int)) = eI 0 := rfl
      rw [e0] at hl
      rw [hl]
      simp only [List.drop_zero, obind_s]
      by_cases h0 : (chFL t.kids (deep + 1) (k + 1)).1 = 0
      · simp [h0]
      · simp [h0]
    · intro s hs
      simp [forms_each_h_forms_Check_1_l4, chFL]
    · intro i a s ha hi hs
      have hm := List.mem_of_getElem? ha
      have hz := Fm.sz_kid hm
      have hlen := hok.len
      have hr := each_Check_ok n a (deep + 1) s (by omega) (hok.kid hm) (by omega) (by omega) (by omega) hs.1 hs.2
      have hpos := chF_pos a (deep + 1) s
      simp [forms_each_h_forms_Check_1_l4, hi, Fm.ixP_kid ha, add1i (bt := false) (i := deep) (by omega) (by omega), hr, add1 (bt := false) (i := i) (by omega), chFL]
      by_cases h0 : (chF a (deep + 1) s).1 = 0
      · left
        exact ⟨(chF a (deep + 1) s).2, by simp [h0], by simp [h0], by omega, hpos.2 h0⟩
      · right
        simp [h0]
theorem forms_Check_ok (n : Nat) (f : Fm) (hn : 2 * f.sz + 50 < n) (hok : f.Ok) (hb : f.sz < 100000000) : forms_CheckL n [f.d] = some (eI (chkF f)) := by
  have := each_Check_ok n f 1 0 (by omega) hok hb (by omega) (by omega) (by omega) (by omega)
  simp [forms_CheckL, forms_Check, this, chkF]
end Go.Am
