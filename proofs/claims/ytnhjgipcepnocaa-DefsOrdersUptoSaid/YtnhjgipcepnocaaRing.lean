/- Laws, on data. No condition. -/
import Derived.Test.YtnhjgipcepnocaaLaws
set_option linter.all false
set_option linter.unnecessarySimpa false
namespace Go.Am
set_option linter.unusedVariables false
set_option linter.unusedSimpArgs false
/-! ### Order -/
/-- Not placed, and all it names are. -/
def frB (l : List Df) (S : List Nat) (i : Nat) : Bool := !decide (i ∈ S) && (to l i).all (fun k => decide (k ∈ S))
def fstO (l : List Df) (S : List Nat) (q : List Nat) : Int := match q.find? (frB l S) with
  | some i => (i : Int)
  | none => -1
def ordS (l : List Df) : Nat → List Nat → Option (List Nat)
  | 0, _ => none
  | n + 1, S => if S.length < l.length then (match (List.range l.length).find? (frB l S) with
      | some i => ordS l n (S ++ [i])
      | none => none) else some S
theorem ord10_ok (n : Nat) (ks : List Nat) (S : List Nat) {M : List (Value × D)} (hM : KM M S) (b : Bool) (out : List Nat) (a0 a1 a2 a3 a5 a6 : D) (hn : ks.length < n) (hb : ks.length < 1000000000) :
    iterL (defs_Order_l10 n) n [a0, a1, a2, a3, eB b, a5, a6, eNs ks, eI ks.length, eI 0, eNs out, .mp M] = some (.inl [a0, a1, a2, a3, eB (b && ks.all (fun k => decide (k ∈ S))), a5, a6, eNs out, .mp M]) := by
  have e0 : (eI ((0 : Nat) : Int)) = eI 0 := rfl
  have ee : ∀ x, D.sl 1 (esD (eNs x)) = eNs x := fun _ => rfl
  have hl := iterL_list (f := defs_Order_l10 n) ks (fun j (c : Bool) => [a0, a1, a2, a3, eB c, a5, a6, eNs ks, eI ks.length, eI (j : Int), eNs out, .mp M])
    (fun q c => (.inl [a0, a1, a2, a3, eB (c && q.all (fun k => decide (k ∈ S))), a5, a6, eNs out, .mp M] : List D ⊕ (List D ⊕ (List D ⊕ (List D ⊕ (List D ⊕ (List D ⊕ (List D ⊕ D)))))))) (fun _ _ => True) ?_ ?_ n 0 b trivial (by omega) (Nat.zero_le _)
  · rw [e0] at hl; exact hl
  · intro c _
    simp only [defs_Order_l10, obind_s, og_t, oif_b, pd_0, pd_s, and_ch, or_ch, b_lss, b_leq, b_gtr, b_geq, b_eql, b_neq, s_eql, s_neq, s_lss, u_not, jnX_l, jnX_r, inrX_s, oneP_I, oneP_B, oneP_S, oneP_sl, oneP_row, oneP_nil, one_I, one_B, one_S, one_sl, one_row, one_nil, extP_tup, List.getElem?_cons_zero, List.getElem?_cons_succ, esD_sl, lenP_sl, lenP_row, lenP_nil, elP_sl, ixP_nat, Bool.and_true, Bool.true_and, Bool.and_self, if_true, if_false, Bool.not_true, Bool.not_false, Bool.false_eq_true, flat_eB, flat_eI, flat_eS, Bool.or_true, Bool.true_or, agg2, agg3, agg4, agg5, agg6, agg7, agg8, zB, zI, zS, celsD_agg, mpD_mp, decide_eq_false (show ¬ ((ks.length : Int) < ks.length) by omega), ee, List.all_nil]
  · intro j k c hk hj _
    have hlo := hM.look (i := k) (z := .bool false)
    left
    refine ⟨c && decide (k ∈ S), ?_, by simp only [List.all_cons, Bool.and_assoc], trivial⟩
    simp only [defs_Order_l10, obind_s, og_t, oif_b, pd_0, pd_s, and_ch, or_ch, b_lss, b_leq, b_gtr, b_geq, b_eql, b_neq, s_eql, s_neq, s_lss, u_not, jnX_l, jnX_r, inrX_s, oneP_I, oneP_B, oneP_S, oneP_sl, oneP_row, oneP_nil, one_I, one_B, one_S, one_sl, one_row, one_nil, extP_tup, List.getElem?_cons_zero, List.getElem?_cons_succ, esD_sl, lenP_sl, lenP_row, lenP_nil, elP_sl, ixP_nat, Bool.and_true, Bool.true_and, Bool.and_self, if_true, if_false, Bool.not_true, Bool.not_false, Bool.false_eq_true, flat_eB, flat_eI, flat_eS, Bool.or_true, Bool.true_or, agg2, agg3, agg4, agg5, agg6, agg7, agg8, zB, zI, zS, celsD_agg, mpD_mp, decide_eq_true (show ((j : Int) < (ks.length : Int)) by omega), eNs_ix hk, atP_f, hlo, ee, add1 (bt := false) (i := j) (by omega)]
theorem ord6_ok (n : Nat) (l : List Df) {B : Nat} (hl : DL B l) (S : List Nat) {M : List (Value × D)} (hM : KM M S) (out : List Nat) (hn : 2 * B + 100 < n) :
    iterL (defs_Order_l6 n) n [eDs l, eNss (l.map fun d => lk l d.e), eI (-1), eI l.length, eI 0, eNs out, .mp M] = some (.inl [eDs l, eNss (l.map fun d => lk l d.e), eI (fstO l S (List.range l.length)), eNs out, .mp M]) := by
  have hlen := hl.len
  have hBb := hl.b
  have e0 : (eI ((0 : Nat) : Int)) = eI 0 := rfl
  have ee : ∀ x, D.sl 1 (esD (eNs x)) = eNs x := fun _ => rfl
  have hl' := iterL_list (f := defs_Order_l6 n) (List.range l.length) (fun j (_ : Unit) => [eDs l, eNss (l.map fun d => lk l d.e), eI (-1), eI l.length, eI (j : Int), eNs out, .mp M])
    (fun q _ => (.inl [eDs l, eNss (l.map fun d => lk l d.e), eI (fstO l S q), eNs out, .mp M] : List D ⊕ (List D ⊕ (List D ⊕ (List D ⊕ D))))) (fun _ _ => True) ?_ ?_ n 0 () trivial (by simp; omega) (Nat.zero_le _)
  · rw [e0] at hl'; exact hl'
  · intro _ _
    rw [List.length_range]
    simp only [defs_Order_l6, obind_s, og_t, oif_b, pd_0, pd_s, and_ch, or_ch, b_lss, b_leq, b_gtr, b_geq, b_eql, b_neq, s_eql, s_neq, s_lss, u_not, jnX_l, jnX_r, inrX_s, oneP_I, oneP_B, oneP_S, oneP_sl, oneP_row, oneP_nil, one_I, one_B, one_S, one_sl, one_row, one_nil, extP_tup, List.getElem?_cons_zero, List.getElem?_cons_succ, esD_sl, lenP_sl, lenP_row, lenP_nil, elP_sl, ixP_nat, Bool.and_true, Bool.true_and, Bool.and_self, if_true, if_false, Bool.not_true, Bool.not_false, Bool.false_eq_true, flat_eB, flat_eI, flat_eS, Bool.or_true, Bool.true_or, agg2, agg3, agg4, agg5, agg6, agg7, agg8, zB, zI, zS, celsD_agg, mpD_mp, decide_eq_false (show ¬ ((l.length : Int) < l.length) by omega), ee, fstO, List.find?_nil]
  · intro j i _ hi hj _
    rw [List.length_range] at hj
    have hij : i = j := by rw [List.getElem?_range hj] at hi; exact (Option.some.inj hi).symm
    subst hij
    obtain ⟨d, hd⟩ : ∃ d, l[i]? = some d := ⟨l[i], List.getElem?_eq_getElem hj⟩
    have hdm := hl.e d (List.mem_of_getElem? hd)
    have hll := lk_len l d.e
    have hx : ixP 1 (eNss (l.map fun d => lk l d.e)) (eI (i : Int)) = some [eNs (lk l d.e)] := eNss_ix (by simp [hd])
    have hlo := hM.look (i := i) (z := .bool false)
    have h10 := ord10_ok n (lk l d.e) S hM (!decide (i ∈ S)) out (eDs l) (eNss (l.map fun d => lk l d.e)) (eI (-1)) (eI (i : Int)) (eI l.length) (eI (i : Int)) (by omega) (by omega)
    have hfr : (!decide (i ∈ S) && (lk l d.e).all (fun k => decide (k ∈ S))) = frB l S i := by rw [frB, to_some hd]
    rw [hfr] at h10
    cases hf : frB l S i with
    | true =>
      rw [hf] at h10
      right
      simp only [defs_Order_l6, obind_s, og_t, oif_b, pd_0, pd_s, and_ch, or_ch, b_lss, b_leq, b_gtr, b_geq, b_eql, b_neq, s_eql, s_neq, s_lss, u_not, jnX_l, jnX_r, inrX_s, oneP_I, oneP_B, oneP_S, oneP_sl, oneP_row, oneP_nil, one_I, one_B, one_S, one_sl, one_row, one_nil, extP_tup, List.getElem?_cons_zero, List.getElem?_cons_succ, esD_sl, lenP_sl, lenP_row, lenP_nil, elP_sl, ixP_nat, Bool.and_true, Bool.true_and, Bool.and_self, if_true, if_false, Bool.not_true, Bool.not_false, Bool.false_eq_true, flat_eB, flat_eI, flat_eS, Bool.or_true, Bool.true_or, agg2, agg3, agg4, agg5, agg6, agg7, agg8, zB, zI, zS, celsD_agg, mpD_mp, decide_eq_true (show ((i : Int) < (l.length : Int)) by omega), hlo, hx, atP_f, eNs_len, ee, h10, fstO, List.find?_cons, hf]
    | false =>
      rw [hf] at h10
      left
      refine ⟨(), ?_, by simp only [fstO, List.find?_cons, hf], trivial⟩
      simp only [defs_Order_l6, obind_s, og_t, oif_b, pd_0, pd_s, and_ch, or_ch, b_lss, b_leq, b_gtr, b_geq, b_eql, b_neq, s_eql, s_neq, s_lss, u_not, jnX_l, jnX_r, inrX_s, oneP_I, oneP_B, oneP_S, oneP_sl, oneP_row, oneP_nil, one_I, one_B, one_S, one_sl, one_row, one_nil, extP_tup, List.getElem?_cons_zero, List.getElem?_cons_succ, esD_sl, lenP_sl, lenP_row, lenP_nil, elP_sl, ixP_nat, Bool.and_true, Bool.true_and, Bool.and_self, if_true, if_false, Bool.not_true, Bool.not_false, Bool.false_eq_true, flat_eB, flat_eI, flat_eS, Bool.or_true, Bool.true_or, agg2, agg3, agg4, agg5, agg6, agg7, agg8, zB, zI, zS, celsD_agg, mpD_mp, decide_eq_true (show ((i : Int) < (l.length : Int)) by omega), hlo, hx, atP_f, eNs_len, ee, h10, add1 (bt := false) (i := i) (by omega)]
theorem ord3_ok (n : Nat) (l : List Df) {B : Nat} (hl : DL B l) (hn : 2 * B + 100 < n) : ∀ (m : Nat) (S : List Nat) (M : List (Value × D)), KM M S → SInv l.length S → l.length - S.length < m →
    iterL (defs_Order_l3 n) m [eDs l, eNss (l.map fun d => lk l d.e), eNs S, .mp M] = some (match ordS l m S with
      | some S' => .inl [eNs S']
      | none => .inr (.tup [NILD, eI 14]))
  | 0, _, _, _, _, h => absurd h (Nat.not_lt_zero _)
  | m + 1, S, M, hM, hS, hm => by
    have hlen := hl.len
    have hBb := hl.b
    have hsl := hS.len
    have ee : ∀ x, D.sl 1 (esD (eNs x)) = eNs x := fun _ => rfl
    have e5 : ∀ x, (esD (eNs x)).length = x.length := fun x => by simp [eNs]
    rw [iterL_s, ordS]
    by_cases hlt : S.length < l.length
    · rw [if_pos hlt]
      have h6 := ord6_ok n l hl S hM S hn
      cases hf : (List.range l.length).find? (frB l S) with
      | none =>
        have hfo : fstO l S (List.range l.length) = -1 := by rw [fstO, hf]
        rw [hfo] at h6
        simp only [defs_Order_l3, obind_s, og_t, oif_b, pd_0, pd_s, and_ch, or_ch, b_lss, b_leq, b_gtr, b_geq, b_eql, b_neq, s_eql, s_neq, s_lss, u_not, jnX_l, jnX_r, inrX_s, oneP_I, oneP_B, oneP_S, oneP_sl, oneP_row, oneP_nil, one_I, one_B, one_S, one_sl, one_row, one_nil, extP_tup, List.getElem?_cons_zero, List.getElem?_cons_succ, esD_sl, lenP_sl, lenP_row, lenP_nil, elP_sl, ixP_nat, Bool.and_true, Bool.true_and, Bool.and_self, if_true, if_false, Bool.not_true, Bool.not_false, Bool.false_eq_true, flat_eB, flat_eI, flat_eS, Bool.or_true, Bool.true_or, agg2, agg3, agg4, agg5, agg6, agg7, agg8, zB, zI, zS, celsD_agg, mpD_mp, eDs_len, e5, decide_eq_true (show ((S.length : Int) < (l.length : Int)) by omega), ee, h6, decide_eq_true (show ((-1 : Int) < 0) by omega)]
      | some i =>
        have hfo : fstO l S (List.range l.length) = (i : Int) := by rw [fstO, hf]
        rw [hfo] at h6
        have hfi := List.find?_some hf
        have hil : i < l.length := by simpa using List.mem_of_find?_eq_some hf
        have hin : i ∉ S := by
          intro h
          simp [frB, h] at hfi
        obtain ⟨M', p1, p2⟩ := hM.put i
        rw [if_neg hin] at p2
        have hrm : roomP (S.length + 1) 8 = true := roomP_ok (by omega) (by omega)
        have e2 : D.sl 1 (esD (eNs S) ++ [[eI (i : Int)]]) = eNs (S ++ [i]) := by simp [eNs]
        have ih := ord3_ok n l hl hn m (S ++ [i]) M' p2 (hS.snoc hil hin) (by simp; omega)
        simp only [defs_Order_l3, obind_s, og_t, oif_b, pd_0, pd_s, and_ch, or_ch, b_lss, b_leq, b_gtr, b_geq, b_eql, b_neq, s_eql, s_neq, s_lss, u_not, jnX_l, jnX_r, inrX_s, oneP_I, oneP_B, oneP_S, oneP_sl, oneP_row, oneP_nil, one_I, one_B, one_S, one_sl, one_row, one_nil, extP_tup, List.getElem?_cons_zero, List.getElem?_cons_succ, esD_sl, lenP_sl, lenP_row, lenP_nil, elP_sl, ixP_nat, Bool.and_true, Bool.true_and, Bool.and_self, if_true, if_false, Bool.not_true, Bool.not_false, Bool.false_eq_true, flat_eB, flat_eI, flat_eS, Bool.or_true, Bool.true_or, agg2, agg3, agg4, agg5, agg6, agg7, agg8, zB, zI, zS, celsD_agg, mpD_mp, eDs_len, e5, decide_eq_true (show ((S.length : Int) < (l.length : Int)) by omega), ee, h6, decide_eq_false (show ¬ ((i : Int) < 0) by omega), p1, e2, List.length_cons, List.length_nil, Nat.zero_add, hrm, ih]
    · rw [if_neg hlt]
      simp only [defs_Order_l3, obind_s, og_t, oif_b, pd_0, pd_s, and_ch, or_ch, b_lss, b_leq, b_gtr, b_geq, b_eql, b_neq, s_eql, s_neq, s_lss, u_not, jnX_l, jnX_r, inrX_s, oneP_I, oneP_B, oneP_S, oneP_sl, oneP_row, oneP_nil, one_I, one_B, one_S, one_sl, one_row, one_nil, extP_tup, List.getElem?_cons_zero, List.getElem?_cons_succ, esD_sl, lenP_sl, lenP_row, lenP_nil, elP_sl, ixP_nat, Bool.and_true, Bool.true_and, Bool.and_self, if_true, if_false, Bool.not_true, Bool.not_false, Bool.false_eq_true, flat_eB, flat_eI, flat_eS, Bool.or_true, Bool.true_or, agg2, agg3, agg4, agg5, agg6, agg7, agg8, zB, zI, zS, celsD_agg, mpD_mp, eDs_len, e5, decide_eq_false (show ¬ ((S.length : Int) < (l.length : Int)) by omega), ee]
theorem defs_Order_ok (n : Nat) (l : List Df) {B : Nat} (hl : DL B l) (hn : 4 * B + 300 < n) : defs_OrderL n [eDs l] = some (match ordS l n [] with
    | some S => .tup [eNs S, eI 0]
    | none => .tup [NILD, eI 14]) := by
  have hL := defs_links_ok n l hl (by omega)
  have hlen := hl.len
  have ee : ∀ x, D.sl 1 (esD (eNs x)) = eNs x := fun _ => rfl
  have e1 : eNs [] = D.sl 1 [] := rfl
  have h3 := ord3_ok n l hl (by omega) n [] [] KM.nil ⟨by simp, by simp⟩ (by simp; omega)
  rw [e1] at h3
  cases ho : ordS l n [] with
  | some S =>
    rw [ho] at h3
    simp only [defs_OrderL, defs_Order, obind_s, og_t, oif_b, pd_0, pd_s, and_ch, or_ch, b_lss, b_leq, b_gtr, b_geq, b_eql, b_neq, s_eql, s_neq, s_lss, u_not, jnX_l, jnX_r, inrX_s, oneP_I, oneP_B, oneP_S, oneP_sl, oneP_row, oneP_nil, one_I, one_B, one_S, one_sl, one_row, one_nil, extP_tup, List.getElem?_cons_zero, List.getElem?_cons_succ, esD_sl, lenP_sl, lenP_row, lenP_nil, elP_sl, ixP_nat, Bool.and_true, Bool.true_and, Bool.and_self, if_true, if_false, Bool.not_true, Bool.not_false, Bool.false_eq_true, flat_eB, flat_eI, flat_eS, Bool.or_true, Bool.true_or, agg2, agg3, agg4, agg5, agg6, agg7, agg8, zB, zI, zS, celsD_agg, mpD_mp, hL, h3, ee]
  | none =>
    rw [ho] at h3
    simp only [defs_OrderL, defs_Order, obind_s, og_t, oif_b, pd_0, pd_s, and_ch, or_ch, b_lss, b_leq, b_gtr, b_geq, b_eql, b_neq, s_eql, s_neq, s_lss, u_not, jnX_l, jnX_r, inrX_s, oneP_I, oneP_B, oneP_S, oneP_sl, oneP_row, oneP_nil, one_I, one_B, one_S, one_sl, one_row, one_nil, extP_tup, List.getElem?_cons_zero, List.getElem?_cons_succ, esD_sl, lenP_sl, lenP_row, lenP_nil, elP_sl, ixP_nat, Bool.and_true, Bool.true_and, Bool.and_self, if_true, if_false, Bool.not_true, Bool.not_false, Bool.false_eq_true, flat_eB, flat_eI, flat_eS, Bool.or_true, Bool.true_or, agg2, agg3, agg4, agg5, agg6, agg7, agg8, zB, zI, zS, celsD_agg, mpD_mp, hL, h3]
end Go.Am
namespace Go.Am
set_option linter.unusedVariables false
set_option linter.unusedSimpArgs false
def rdB (l : List Df) (S : List Nat) (i : Nat) : Bool := !decide (i ∈ S) && (clos l (to l i)).all (fun k => decide (k ∈ S))
theorem free_ready {l : List Df} {S : List Nat} (h : ClS l S) (i : Nat) : frB l S i = rdB l S i := by
  have : (to l i).all (fun k => decide (k ∈ S)) = (clos l (to l i)).all (fun k => decide (k ∈ S)) := by
    rw [Bool.eq_iff_iff]
    simp only [List.all_eq_true, decide_eq_true_eq]
    constructor
    · intro h1 x hx
      obtain ⟨k, hk, hr⟩ := (clos_iff l _ (to_lt i) x).1 hx
      exact h.rch hr (h1 k hk)
    · intro h1 k hk
      exact h1 k ((clos_spec l _ (to_lt i)).mem k hk)
  rw [frB, rdB, this]
/-- What is placed so far. -/
structure OI (l : List Df) (S : List Nat) : Prop where
  inv : SInv l.length S
  cls : ClS l S
  nor : ∀ x ∈ S, ringB l x = false
theorem OI.snoc {l : List Df} {S : List Nat} (h : OI l S) {i : Nat} (hi : i < l.length) (hf : frB l S i = true) : OI l (S ++ [i]) := by
  simp only [frB, Bool.and_eq_true, Bool.not_eq_true', decide_eq_false_iff_not, List.all_eq_true, decide_eq_true_eq] at hf
  refine ⟨h.inv.snoc hi hf.1, ?_, ?_⟩
  · intro x hx y hy
    rcases List.mem_append.1 hx with hx | hx
    · exact List.mem_append.2 (.inl (h.cls x hx y hy))
    · simp at hx; subst hx; exact List.mem_append.2 (.inl (hf.2 y hy))
  · intro x hx
    rcases List.mem_append.1 hx with hx | hx
    · exact h.nor x hx
    · simp at hx; subst hx
      cases hr : ringB l x with
      | false => rfl
      | true =>
        obtain ⟨k, hk, hkr⟩ := (ringB_iff l x).1 hr
        exact absurd (h.cls.rch hkr (hf.2 k hk)) hf.1
theorem all_in {l : List Df} {S : List Nat} (h : SInv l.length S) (hl : l.length ≤ S.length) : ∀ i, i < l.length → i ∈ S := by
  intro i hi
  rcases Classical.em (i ∈ S) with hs | hs
  · exact hs
  · have := h.lt hi hs; omega
theorem none_free {l : List Df} {S : List Nat} (h : OI l S) (hlt : S.length < l.length) (hn : ∀ i, i < l.length → frB l S i = false) : ∃ i, i < l.length ∧ ringB l i = true := by
  rcases Classical.em (∃ i, i < l.length ∧ ringB l i = true) with he | he
  · exact he
  exfalso
  have hnr : ∀ i, i < l.length → ringB l i = false := by
    intro i hi
    cases hr : ringB l i with
    | false => rfl
    | true => exact absurd ⟨i, hi, hr⟩ he
  have key : ∀ (r i : Nat), i < l.length → rank l i < r → i ∈ S := by
    intro r
    induction r with
    | zero => intro i _ h; exact absurd h (Nat.not_lt_zero _)
    | succ r ih =>
      intro i hi hr
      rcases Classical.em (i ∈ S) with hs | hs
      · exact hs
      · have hf := hn i hi
        have hall : (to l i).all (fun k => decide (k ∈ S)) = true := by
          simp only [List.all_eq_true, decide_eq_true_eq]
          intro k hk
          have hkl := to_lt i k hk
          have := rank_lt hk (hnr k hkl)
          exact ih k hkl (by omega)
        rw [frB, hall] at hf
        simp [hs] at hf
  have hsub : ∀ x ∈ List.range l.length, x ∈ S := fun x hx => key (rank l x + 1) x (by simpa using hx) (by omega)
  have := sub_len (A := List.range l.length) (B := S) List.nodup_range hsub
  simp at this
  omega
theorem ordS_spec (l : List Df) : ∀ (n : Nat) (S : List Nat), OI l S → l.length - S.length < n → (∀ S', ordS l n S = some S' → (∀ i, i < l.length → ringB l i = false) ∧ OI l S') ∧ (ordS l n S = none → ∃ i, i < l.length ∧ ringB l i = true)
  | 0, _, _, h => absurd h (Nat.not_lt_zero _)
  | n + 1, S, hO, hn => by
    have hsl := hO.inv.len
    rw [ordS]
    by_cases hlt : S.length < l.length
    · rw [if_pos hlt]
      cases hf : (List.range l.length).find? (frB l S) with
      | none =>
        refine ⟨fun S' h => (by cases h), fun _ => ?_⟩
        refine none_free hO hlt fun i hi => ?_
        have := List.find?_eq_none.1 hf i (by simpa using hi)
        simpa using this
      | some i =>
        have hfi := List.find?_some hf
        have hil : i < l.length := by simpa using List.mem_of_find?_eq_some hf
        exact ordS_spec l n (S ++ [i]) (hO.snoc hil hfi) (by simp; omega)
    · rw [if_neg hlt]
      refine ⟨fun S' h => ?_, fun h => (by cases h)⟩
      cases h
      exact ⟨fun i hi => hO.nor i (all_in hO.inv (by omega) i hi), hO⟩
/-! ### The reference -/
theorem rord15_ok (n : Nat) (C : List Nat) (dC : D) (hlC : lenP dC = some (eI C.length)) (hxC : ∀ (i x : Nat), C[i]? = some x → ixP 1 dC (eI (i : Int)) = some [eI (x : Int)]) (S : List Nat) (b : Bool) (a0 a1 a2 : D) (hn : C.length < n) (hb : C.length < 1000000000) (hS : S.length + 5 < n) (hS2 : S.length < 1000000000) :
    iterL (ref35_Order_l15 n) n [a0, a1, a2, eB b, dC, eI 0, eNs S] = some (.inl [a0, a1, a2, eB (b && C.all (fun k => decide (k ∈ S))), eNs S]) := by
  have e0 : (eI ((0 : Nat) : Int)) = eI 0 := rfl
  have ee : ∀ x, D.sl 1 (esD (eNs x)) = eNs x := fun _ => rfl
  have hl := iterL_list (f := ref35_Order_l15 n) C (fun j (c : Bool) => [a0, a1, a2, eB c, dC, eI (j : Int), eNs S])
    (fun q c => (.inl [a0, a1, a2, eB (c && q.all (fun k => decide (k ∈ S))), eNs S] : List D ⊕ (List D ⊕ (List D ⊕ (List D ⊕ (List D ⊕ (List D ⊕ (List D ⊕ D)))))))) (fun _ _ => True) ?_ ?_ n 0 b trivial (by omega) (Nat.zero_le _)
  · rw [e0] at hl; exact hl
  · intro c _
    simp only [ref35_Order_l15, obind_s, og_t, oif_b, pd_0, pd_s, and_ch, or_ch, b_lss, b_leq, b_gtr, b_geq, b_eql, b_neq, s_eql, s_neq, s_lss, u_not, jnX_l, jnX_r, inrX_s, oneP_I, oneP_B, oneP_S, oneP_sl, oneP_row, oneP_nil, one_I, one_B, one_S, one_sl, one_row, one_nil, extP_tup, List.getElem?_cons_zero, List.getElem?_cons_succ, esD_sl, lenP_sl, lenP_row, lenP_nil, elP_sl, ixP_nat, Bool.and_true, Bool.true_and, Bool.and_self, if_true, if_false, Bool.not_true, Bool.not_false, Bool.false_eq_true, flat_eB, flat_eI, flat_eS, Bool.or_true, Bool.true_or, agg2, agg3, agg4, agg5, agg6, agg7, agg8, zB, zI, zS, celsD_agg, mpD_mp, hlC, decide_eq_false (show ¬ ((C.length : Int) < C.length) by omega), ee, List.all_nil]
  · intro j k c hk hj _
    have hlo := ref35_has_ok n S k (eNs S) (.inl rfl) hS2 hS
    left
    refine ⟨c && decide (k ∈ S), ?_, by simp only [List.all_cons, Bool.and_assoc], trivial⟩
    simp only [ref35_Order_l15, obind_s, og_t, oif_b, pd_0, pd_s, and_ch, or_ch, b_lss, b_leq, b_gtr, b_geq, b_eql, b_neq, s_eql, s_neq, s_lss, u_not, jnX_l, jnX_r, inrX_s, oneP_I, oneP_B, oneP_S, oneP_sl, oneP_row, oneP_nil, one_I, one_B, one_S, one_sl, one_row, one_nil, extP_tup, List.getElem?_cons_zero, List.getElem?_cons_succ, esD_sl, lenP_sl, lenP_row, lenP_nil, elP_sl, ixP_nat, Bool.and_true, Bool.true_and, Bool.and_self, if_true, if_false, Bool.not_true, Bool.not_false, Bool.false_eq_true, flat_eB, flat_eI, flat_eS, Bool.or_true, Bool.true_or, agg2, agg3, agg4, agg5, agg6, agg7, agg8, zB, zI, zS, celsD_agg, mpD_mp, hlC, decide_eq_true (show ((j : Int) < (C.length : Int)) by omega), hxC j k hk, atP_f, hlo, ee, add1 (bt := false) (i := j) (by omega)]
theorem rord10_ok (n : Nat) (l : List Df) {B : Nat} (hl : DL B l) (S : List Nat) (hS : SInv l.length S) (hn : 8 * B + 500 < n) : ∀ (k m : Nat) (at_ : Int), k ≤ l.length → k < m →
    iterL (ref35_Order_l10 n) m [eDs l, eI at_, eI ((k : Int) - 1), eNs S] = some (.inl [eDs l, eI (match (List.range k).find? (rdB l S) with | some i => (i : Int) | none => at_), eNs S])
  | _, 0, _, _, h => absurd h (Nat.not_lt_zero _)
  | 0, m + 1, at_, _, _ => by
    have ee : ∀ x, D.sl 1 (esD (eNs x)) = eNs x := fun _ => rfl
    rw [iterL_s]
    simp only [ref35_Order_l10, obind_s, og_t, oif_b, pd_0, pd_s, and_ch, or_ch, b_lss, b_leq, b_gtr, b_geq, b_eql, b_neq, s_eql, s_neq, s_lss, u_not, jnX_l, jnX_r, inrX_s, oneP_I, oneP_B, oneP_S, oneP_sl, oneP_row, oneP_nil, one_I, one_B, one_S, one_sl, one_row, one_nil, extP_tup, List.getElem?_cons_zero, List.getElem?_cons_succ, esD_sl, lenP_sl, lenP_row, lenP_nil, elP_sl, ixP_nat, Bool.and_true, Bool.true_and, Bool.and_self, if_true, if_false, Bool.not_true, Bool.not_false, Bool.false_eq_true, flat_eB, flat_eI, flat_eS, Bool.or_true, Bool.true_or, agg2, agg3, agg4, agg5, agg6, agg7, agg8, zB, zI, zS, celsD_agg, mpD_mp, decide_eq_false (show ¬ ((((0 : Nat) : Int) - 1) ≥ 0) by omega), ee, List.range_zero, List.find?_nil]
  | k + 1, m + 1, at_, hk, hm => by
    have hlen := hl.len
    have hBb := hl.b
    have hsl := hS.len
    have ee : ∀ x, D.sl 1 (esD (eNs x)) = eNs x := fun _ => rfl
    have ek : ((k + 1 : Nat) : Int) - 1 = (k : Int) := by omega
    rw [ek, iterL_s]
    have hkl : k < l.length := by omega
    obtain ⟨d, hd⟩ : ∃ d, l[k]? = some d := ⟨l[k], List.getElem?_eq_getElem hkl⟩
    have hdm := hl.e d (List.mem_of_getElem? hd)
    have hh := ref35_has_ok n S k (eNs S) (.inl rfl) (by omega) (by omega)
    have hbl := ref35_below_ok l hl n d.e [] NILD (.inr ⟨rfl, rfl⟩) hdm.1 hdm.2 ⟨by simp, by simp⟩ (by simp; omega)
    have hfu : dfs (to l) n (lk l d.e) [] = clos l (lk l d.e) := dfs_fuel (fun i k hk => to_lt i k hk) n _ (lk l d.e) [] ⟨by simp, by simp⟩ lk_lt (by simp; omega) (by simp)
    rw [hfu, ← to_some hd] at hbl
    have hcl := (clos_spec l (to l k) (to_lt k)).inv.len
    have h15 : ∀ C : List Nat, C.length ≤ l.length → ∀ a0 a1 a2 : D, iterL (ref35_Order_l15 n) n [a0, a1, a2, eB (!decide (k ∈ S)), dOf [] NILD C, eI 0, eNs S] = some (.inl [a0, a1, a2, eB (!decide (k ∈ S) && C.all (fun k => decide (k ∈ S))), eNs S]) := by
      intro C hC a0 a1 a2
      refine rord15_ok n C (dOf [] NILD C) ?_ ?_ S _ a0 a1 a2 (by omega) (by omega) (by omega) (by omega)
      · unfold dOf; split
        · rename_i h; rw [h]; rfl
        · exact eNs_len C
      · intro i x hx
        unfold dOf; split
        · rename_i h
          have : C = [] := List.eq_nil_of_length_eq_zero h
          subst this; simp at hx
        · exact eNs_ix hx
    have h15' := h15 _ hcl
    have hrd : (!decide (k ∈ S) && (clos l (to l k)).all (fun k => decide (k ∈ S))) = rdB l S k := rfl
    rw [hrd] at h15'
    have hsub : binP false .sub (eI (k : Int)) (eI 1) = some (eI ((k : Int) - 1)) := b_sub (by omega) (by omega)
    have hrange : (List.range (k + 1)).find? (rdB l S) = ((List.range k).find? (rdB l S)).or ([k].find? (rdB l S)) := by
      rw [List.range_succ, List.find?_append]
    cases hf : rdB l S k with
    | true =>
      rw [hf] at h15'
      have ih := rord10_ok n l hl S hS hn k m (k : Int) (by omega) (by omega)
      simp only [ref35_Order_l10, obind_s, og_t, oif_b, pd_0, pd_s, and_ch, or_ch, b_lss, b_leq, b_gtr, b_geq, b_eql, b_neq, s_eql, s_neq, s_lss, u_not, jnX_l, jnX_r, inrX_s, oneP_I, oneP_B, oneP_S, oneP_sl, oneP_row, oneP_nil, one_I, one_B, one_S, one_sl, one_row, one_nil, extP_tup, List.getElem?_cons_zero, List.getElem?_cons_succ, esD_sl, lenP_sl, lenP_row, lenP_nil, elP_sl, ixP_nat, Bool.and_true, Bool.true_and, Bool.and_self, if_true, if_false, Bool.not_true, Bool.not_false, Bool.false_eq_true, flat_eB, flat_eI, flat_eS, Bool.or_true, Bool.true_or, agg2, agg3, agg4, agg5, agg6, agg7, agg8, zB, zI, zS, celsD_agg, mpD_mp, decide_eq_true (show ((k : Int) ≥ 0) by omega), ee, hh, eDs_ix hd, Df.at1, hbl, h15', hsub, ih]
      rw [hrange]
      cases (List.range k).find? (rdB l S) <;> simp [hf]
    | false =>
      rw [hf] at h15'
      have ih := rord10_ok n l hl S hS hn k m at_ (by omega) (by omega)
      simp only [ref35_Order_l10, obind_s, og_t, oif_b, pd_0, pd_s, and_ch, or_ch, b_lss, b_leq, b_gtr, b_geq, b_eql, b_neq, s_eql, s_neq, s_lss, u_not, jnX_l, jnX_r, inrX_s, oneP_I, oneP_B, oneP_S, oneP_sl, oneP_row, oneP_nil, one_I, one_B, one_S, one_sl, one_row, one_nil, extP_tup, List.getElem?_cons_zero, List.getElem?_cons_succ, esD_sl, lenP_sl, lenP_row, lenP_nil, elP_sl, ixP_nat, Bool.and_true, Bool.true_and, Bool.and_self, if_true, if_false, Bool.not_true, Bool.not_false, Bool.false_eq_true, flat_eB, flat_eI, flat_eS, Bool.or_true, Bool.true_or, agg2, agg3, agg4, agg5, agg6, agg7, agg8, zB, zI, zS, celsD_agg, mpD_mp, decide_eq_true (show ((k : Int) ≥ 0) by omega), ee, hh, eDs_ix hd, Df.at1, hbl, h15', hsub, ih]
      rw [hrange]
      cases (List.range k).find? (rdB l S) <;> simp [hf]
end Go.Am
namespace Go.Am
set_option linter.unusedVariables false
set_option linter.unusedSimpArgs false
theorem rord7_ok (n : Nat) (l : List Df) {B : Nat} (hl : DL B l) (hn : 8 * B + 500 < n) (hnr : ∀ i, i < l.length → ringB l i = false) : ∀ (m : Nat) (S : List Nat), OI l S → l.length - S.length < m →
    ∃ S', ordS l m S = some S' ∧ iterL (ref35_Order_l7 n) m [eDs l, eNs S] = some (.inl [eNs S'])
  | 0, _, _, h => absurd h (Nat.not_lt_zero _)
  | m + 1, S, hO, hm => by
    have hlen := hl.len
    have hBb := hl.b
    have hsl := hO.inv.len
    have ee : ∀ x, D.sl 1 (esD (eNs x)) = eNs x := fun _ => rfl
    have e5 : ∀ x, (esD (eNs x)).length = x.length := fun x => by simp [eNs]
    rw [iterL_s, ordS]
    by_cases hlt : S.length < l.length
    · rw [if_pos hlt]
      have h10 := rord10_ok n l hl S hO.inv hn l.length n (-1) (Nat.le_refl _) (by omega)
      have hfe : (rdB l S) = frB l S := by funext i; exact (free_ready hO.cls i).symm
      rw [hfe] at h10
      have hsub : binP false .sub (eI (l.length : Int)) (eI 1) = some (eI ((l.length : Int) - 1)) := b_sub (by omega) (by omega)
      cases hf : (List.range l.length).find? (frB l S) with
      | none =>
        obtain ⟨i, hi, hr⟩ := none_free hO hlt fun i hi => by
          have := List.find?_eq_none.1 hf i (by simpa using hi)
          simpa using this
        rw [hnr i hi] at hr; cases hr
      | some i =>
        rw [hf] at h10
        have hfi := List.find?_some hf
        have hil : i < l.length := by simpa using List.mem_of_find?_eq_some hf
        have hrm : roomP (S.length + 1) 8 = true := roomP_ok (by omega) (by omega)
        have e2 : D.sl 1 (esD (eNs S) ++ [[eI (i : Int)]]) = eNs (S ++ [i]) := by simp [eNs]
        obtain ⟨S', g1, g2⟩ := rord7_ok n l hl hn hnr m (S ++ [i]) (hO.snoc hil hfi) (by simp; omega)
        refine ⟨S', g1, ?_⟩
        simp only [ref35_Order_l7, obind_s, og_t, oif_b, pd_0, pd_s, and_ch, or_ch, b_lss, b_leq, b_gtr, b_geq, b_eql, b_neq, s_eql, s_neq, s_lss, u_not, jnX_l, jnX_r, inrX_s, oneP_I, oneP_B, oneP_S, oneP_sl, oneP_row, oneP_nil, one_I, one_B, one_S, one_sl, one_row, one_nil, extP_tup, List.getElem?_cons_zero, List.getElem?_cons_succ, esD_sl, lenP_sl, lenP_row, lenP_nil, elP_sl, ixP_nat, Bool.and_true, Bool.true_and, Bool.and_self, if_true, if_false, Bool.not_true, Bool.not_false, Bool.false_eq_true, flat_eB, flat_eI, flat_eS, Bool.or_true, Bool.true_or, agg2, agg3, agg4, agg5, agg6, agg7, agg8, zB, zI, zS, celsD_agg, mpD_mp, eDs_len, e5, decide_eq_true (show ((S.length : Int) < (l.length : Int)) by omega), ee, hsub, h10, e2, List.length_cons, List.length_nil, Nat.zero_add, hrm, g2]
    · rw [if_neg hlt]
      refine ⟨S, rfl, ?_⟩
      simp only [ref35_Order_l7, obind_s, og_t, oif_b, pd_0, pd_s, and_ch, or_ch, b_lss, b_leq, b_gtr, b_geq, b_eql, b_neq, s_eql, s_neq, s_lss, u_not, jnX_l, jnX_r, inrX_s, oneP_I, oneP_B, oneP_S, oneP_sl, oneP_row, oneP_nil, one_I, one_B, one_S, one_sl, one_row, one_nil, extP_tup, List.getElem?_cons_zero, List.getElem?_cons_succ, esD_sl, lenP_sl, lenP_row, lenP_nil, elP_sl, ixP_nat, Bool.and_true, Bool.true_and, Bool.and_self, if_true, if_false, Bool.not_true, Bool.not_false, Bool.false_eq_true, flat_eB, flat_eI, flat_eS, Bool.or_true, Bool.true_or, agg2, agg3, agg4, agg5, agg6, agg7, agg8, zB, zI, zS, celsD_agg, mpD_mp, eDs_len, e5, decide_eq_false (show ¬ ((S.length : Int) < (l.length : Int)) by omega), ee]
/-- Both Orders. -/
theorem Order_both (n : Nat) (l : List Df) {B : Nat} (hl : DL B l) (hn : 8 * B + 500 < n) :
    ((∀ i, i < l.length → ringB l i = false) ∧ ∃ S, SInv l.length S ∧ defs_OrderL n [eDs l] = some (.tup [eNs S, eI 0]) ∧ ref35_OrderL n [eDs l] = some (.tup [eNs S, eI 0])) ∨
    ((∃ i, i < l.length ∧ ringB l i = true) ∧ defs_OrderL n [eDs l] = some (.tup [NILD, eI 14]) ∧ ref35_OrderL n [eDs l] = some (.tup [NILD, eI 14])) := by
  have hlen := hl.len
  have hBb := hl.b
  have e0 : (eI ((0 : Nat) : Int)) = eI 0 := rfl
  have ee : ∀ x, D.sl 1 (esD (eNs x)) = eNs x := fun _ => rfl
  have hA := defs_Order_ok n l hl (by omega)
  have hO : OI l [] := ⟨⟨by simp, by simp⟩, (by intro x hx; cases hx), (by intro x hx; cases hx)⟩
  have hsp := ordS_spec l n [] hO (by simp; omega)
  have h2 := iterL_list (f := ref35_Order_l2 n) (List.range l.length) (fun j (_ : Unit) => [eDs l, eI (j : Int)]) (fun q _ => (if q.any (ringB l) then .inr (.tup [NILD, eI 14]) else .inl [eDs l] : List D ⊕ D)) (fun _ _ => True) ?_ ?_ n 0 () trivial (by simp; omega) (Nat.zero_le _)
  · rw [e0, List.drop_zero] at h2
    cases hr : (List.range l.length).any (ringB l) with
    | true =>
      right
      rw [hr] at h2
      simp only [if_true] at h2
      obtain ⟨i, hi, hri⟩ := List.any_eq_true.1 hr
      have hil : i < l.length := by simpa using hi
      refine ⟨⟨i, hil, hri⟩, ?_, ?_⟩
      · cases ho : ordS l n [] with
        | none => rw [ho] at hA; exact hA
        | some S =>
          have := (hsp.1 S ho).1 i hil
          rw [this] at hri; cases hri
      · simp only [ref35_OrderL, ref35_Order, obind_s, og_t, oif_b, pd_0, pd_s, and_ch, or_ch, b_lss, b_leq, b_gtr, b_geq, b_eql, b_neq, s_eql, s_neq, s_lss, u_not, jnX_l, jnX_r, inrX_s, oneP_I, oneP_B, oneP_S, oneP_sl, oneP_row, oneP_nil, one_I, one_B, one_S, one_sl, one_row, one_nil, extP_tup, List.getElem?_cons_zero, List.getElem?_cons_succ, esD_sl, lenP_sl, lenP_row, lenP_nil, elP_sl, ixP_nat, Bool.and_true, Bool.true_and, Bool.and_self, if_true, if_false, Bool.not_true, Bool.not_false, Bool.false_eq_true, flat_eB, flat_eI, flat_eS, Bool.or_true, Bool.true_or, agg2, agg3, agg4, agg5, agg6, agg7, agg8, zB, zI, zS, celsD_agg, mpD_mp, h2]
    | false =>
      left
      rw [hr] at h2
      simp only [Bool.false_eq_true, if_false] at h2
      have hnr : ∀ i, i < l.length → ringB l i = false := by
        intro i hi
        cases hri : ringB l i with
        | false => rfl
        | true =>
          have : (List.range l.length).any (ringB l) = true := List.any_eq_true.2 ⟨i, by simpa using hi, hri⟩
          rw [hr] at this; cases this
      obtain ⟨S, g1, g2⟩ := rord7_ok n l hl hn hnr n [] hO (by simp; omega)
      have e1 : eNs [] = D.sl 1 [] := rfl
      rw [e1] at g2
      rw [g1] at hA
      refine ⟨hnr, S, (hsp.1 S g1).2.inv, hA, ?_⟩
      simp only [ref35_OrderL, ref35_Order, obind_s, og_t, oif_b, pd_0, pd_s, and_ch, or_ch, b_lss, b_leq, b_gtr, b_geq, b_eql, b_neq, s_eql, s_neq, s_lss, u_not, jnX_l, jnX_r, inrX_s, oneP_I, oneP_B, oneP_S, oneP_sl, oneP_row, oneP_nil, one_I, one_B, one_S, one_sl, one_row, one_nil, extP_tup, List.getElem?_cons_zero, List.getElem?_cons_succ, esD_sl, lenP_sl, lenP_row, lenP_nil, elP_sl, ixP_nat, Bool.and_true, Bool.true_and, Bool.and_self, if_true, if_false, Bool.not_true, Bool.not_false, Bool.false_eq_true, flat_eB, flat_eI, flat_eS, Bool.or_true, Bool.true_or, agg2, agg3, agg4, agg5, agg6, agg7, agg8, zB, zI, zS, celsD_agg, mpD_mp, h2, g2, ee]
  · intro _ _
    rw [List.length_range]
    simp only [ref35_Order_l2, obind_s, og_t, oif_b, pd_0, pd_s, and_ch, or_ch, b_lss, b_leq, b_gtr, b_geq, b_eql, b_neq, s_eql, s_neq, s_lss, u_not, jnX_l, jnX_r, inrX_s, oneP_I, oneP_B, oneP_S, oneP_sl, oneP_row, oneP_nil, one_I, one_B, one_S, one_sl, one_row, one_nil, extP_tup, List.getElem?_cons_zero, List.getElem?_cons_succ, esD_sl, lenP_sl, lenP_row, lenP_nil, elP_sl, ixP_nat, Bool.and_true, Bool.true_and, Bool.and_self, if_true, if_false, Bool.not_true, Bool.not_false, Bool.false_eq_true, flat_eB, flat_eI, flat_eS, Bool.or_true, Bool.true_or, agg2, agg3, agg4, agg5, agg6, agg7, agg8, zB, zI, zS, celsD_agg, mpD_mp, eDs_len, decide_eq_false (show ¬ ((l.length : Int) < l.length) by omega), List.any_nil]
  · intro j i _ hi hj _
    rw [List.length_range] at hj
    have hij : i = j := by rw [List.getElem?_range hj] at hi; exact (Option.some.inj hi).symm
    subst hij
    have hr := ref35_Ringed_ok l hl n i hj (by omega)
    cases hrg : ringB l i with
    | true =>
      right
      rw [hrg] at hr
      simp only [ref35_Order_l2, obind_s, og_t, oif_b, pd_0, pd_s, and_ch, or_ch, b_lss, b_leq, b_gtr, b_geq, b_eql, b_neq, s_eql, s_neq, s_lss, u_not, jnX_l, jnX_r, inrX_s, oneP_I, oneP_B, oneP_S, oneP_sl, oneP_row, oneP_nil, one_I, one_B, one_S, one_sl, one_row, one_nil, extP_tup, List.getElem?_cons_zero, List.getElem?_cons_succ, esD_sl, lenP_sl, lenP_row, lenP_nil, elP_sl, ixP_nat, Bool.and_true, Bool.true_and, Bool.and_self, if_true, if_false, Bool.not_true, Bool.not_false, Bool.false_eq_true, flat_eB, flat_eI, flat_eS, Bool.or_true, Bool.true_or, agg2, agg3, agg4, agg5, agg6, agg7, agg8, zB, zI, zS, celsD_agg, mpD_mp, eDs_len, decide_eq_true (show ((i : Int) < (l.length : Int)) by omega), hr, List.any_cons, hrg, Bool.true_or]
    | false =>
      left
      rw [hrg] at hr
      refine ⟨(), ?_, by simp only [List.any_cons, hrg, Bool.false_or], trivial⟩
      simp only [ref35_Order_l2, obind_s, og_t, oif_b, pd_0, pd_s, and_ch, or_ch, b_lss, b_leq, b_gtr, b_geq, b_eql, b_neq, s_eql, s_neq, s_lss, u_not, jnX_l, jnX_r, inrX_s, oneP_I, oneP_B, oneP_S, oneP_sl, oneP_row, oneP_nil, one_I, one_B, one_S, one_sl, one_row, one_nil, extP_tup, List.getElem?_cons_zero, List.getElem?_cons_succ, esD_sl, lenP_sl, lenP_row, lenP_nil, elP_sl, ixP_nat, Bool.and_true, Bool.true_and, Bool.and_self, if_true, if_false, Bool.not_true, Bool.not_false, Bool.false_eq_true, flat_eB, flat_eI, flat_eS, Bool.or_true, Bool.true_or, agg2, agg3, agg4, agg5, agg6, agg7, agg8, zB, zI, zS, celsD_agg, mpD_mp, eDs_len, decide_eq_true (show ((i : Int) < (l.length : Int)) by omega), hr, add1 (bt := false) (i := i) (by omega)]
end Go.Am
namespace Go.Am
set_option linter.unusedVariables false
set_option linter.unusedSimpArgs false
/-! ### Ways and their order -/
def nmD1 (l : List Df) (i : Nat) : ByteArray := match l[i]? with
  | some d => d.name
  | none => ⟨#[]⟩
theorem nmD1_some {l : List Df} {i : Nat} {d : Df} (h : l[i]? = some d) : nmD1 l i = d.name := by simp [nmD1, h]
/-- What a term names, it names by its first definition: names tell places apart. -/
theorem lk_inj {l : List Df} {t u : Tm} {i j : Nat} (hi : i ∈ lk l t) (hj : j ∈ lk l u) (h : nmD1 l i = nmD1 l j) : i = j := by
  obtain ⟨x, _, hx⟩ := lk_mem.1 hi
  obtain ⟨y, _, hy⟩ := lk_mem.1 hj
  obtain ⟨d, h1, h2, _⟩ := idxD_lt hx
  obtain ⟨e, h3, h4, _⟩ := idxD_lt hy
  rw [nmD1_some h1, nmD1_some h3, h2, h4] at h
  subst h
  rw [hx] at hy
  exact Option.some.inj hy
def lexW (l : List Df) : List (Nat × Nat) → Option Bool
  | [] => none
  | x :: r => if nmD1 l x.1 = nmD1 l x.2 then lexW l r else some (blt (nmD1 l x.1) (nmD1 l x.2))
def lessB (l : List Df) (a b : List Nat) : Bool := if a.length = b.length then (lexW l (a.zip b)).getD false else decide ((a.length : Int) < b.length)
theorem defs_less_ok (n : Nat) (l : List Df) (a b : List Nat) (ha : ∀ i ∈ a, i < l.length) (hb : ∀ i ∈ b, i < l.length) (hn : a.length < n) (hl : a.length < 1000000000) : defs_lessL n [eDs l, eNs a, eNs b] = some (eB (lessB l a b)) := by
  have e0 : (eI ((0 : Nat) : Int)) = eI 0 := rfl
  unfold lessB
  by_cases he : a.length = b.length
  case neg =>
    have hne : ((a.length : Int) != (b.length : Int)) = true := by simp; omega
    rw [if_neg he]
    simp only [defs_lessL, defs_less, obind_s, og_t, oif_b, pd_0, pd_s, and_ch, or_ch, b_lss, b_leq, b_gtr, b_geq, b_eql, b_neq, s_eql, s_neq, s_lss, u_not, jnX_l, jnX_r, inrX_s, oneP_I, oneP_B, oneP_S, oneP_sl, oneP_row, oneP_nil, one_I, one_B, one_S, one_sl, one_row, one_nil, extP_tup, List.getElem?_cons_zero, List.getElem?_cons_succ, esD_sl, lenP_sl, lenP_row, lenP_nil, elP_sl, ixP_nat, Bool.and_true, Bool.true_and, Bool.and_self, if_true, if_false, Bool.not_true, Bool.not_false, Bool.false_eq_true, flat_eB, flat_eI, flat_eS, Bool.or_true, Bool.true_or, agg2, agg3, agg4, agg5, agg6, agg7, agg8, zB, zI, zS, celsD_agg, mpD_mp, eNs_len, hne]
  rw [if_pos he]
  have hne : ((a.length : Int) != (b.length : Int)) = false := by simp; omega
  have hzl : (a.zip b).length = a.length := by simp [he]
  have hi := iterL_list (f := defs_less_l4 n) (a.zip b) (fun j (_ : Unit) => [eDs l, eNs a, eNs b, eI a.length, eI (j : Int)]) (fun q _ => (match lexW l q with | some c => .inr (eB c) | none => .inl [] : List D ⊕ D)) (fun _ _ => True) ?_ ?_ n 0 () trivial (by omega) (Nat.zero_le _)
  · rw [e0, List.drop_zero] at hi
    cases hx : lexW l (a.zip b) with
    | none =>
      rw [hx] at hi
      simp only [defs_lessL, defs_less, obind_s, og_t, oif_b, pd_0, pd_s, and_ch, or_ch, b_lss, b_leq, b_gtr, b_geq, b_eql, b_neq, s_eql, s_neq, s_lss, u_not, jnX_l, jnX_r, inrX_s, oneP_I, oneP_B, oneP_S, oneP_sl, oneP_row, oneP_nil, one_I, one_B, one_S, one_sl, one_row, one_nil, extP_tup, List.getElem?_cons_zero, List.getElem?_cons_succ, esD_sl, lenP_sl, lenP_row, lenP_nil, elP_sl, ixP_nat, Bool.and_true, Bool.true_and, Bool.and_self, if_true, if_false, Bool.not_true, Bool.not_false, Bool.false_eq_true, flat_eB, flat_eI, flat_eS, Bool.or_true, Bool.true_or, agg2, agg3, agg4, agg5, agg6, agg7, agg8, zB, zI, zS, celsD_agg, mpD_mp, eNs_len, hne, hi, Option.getD_none]
    | some c =>
      rw [hx] at hi
      simp only [defs_lessL, defs_less, obind_s, og_t, oif_b, pd_0, pd_s, and_ch, or_ch, b_lss, b_leq, b_gtr, b_geq, b_eql, b_neq, s_eql, s_neq, s_lss, u_not, jnX_l, jnX_r, inrX_s, oneP_I, oneP_B, oneP_S, oneP_sl, oneP_row, oneP_nil, one_I, one_B, one_S, one_sl, one_row, one_nil, extP_tup, List.getElem?_cons_zero, List.getElem?_cons_succ, esD_sl, lenP_sl, lenP_row, lenP_nil, elP_sl, ixP_nat, Bool.and_true, Bool.true_and, Bool.and_self, if_true, if_false, Bool.not_true, Bool.not_false, Bool.false_eq_true, flat_eB, flat_eI, flat_eS, Bool.or_true, Bool.true_or, agg2, agg3, agg4, agg5, agg6, agg7, agg8, zB, zI, zS, celsD_agg, mpD_mp, eNs_len, hne, hi, Option.getD_some]
  · intro _ _
    rw [hzl]
    simp only [defs_less_l4, obind_s, og_t, oif_b, pd_0, pd_s, and_ch, or_ch, b_lss, b_leq, b_gtr, b_geq, b_eql, b_neq, s_eql, s_neq, s_lss, u_not, jnX_l, jnX_r, inrX_s, oneP_I, oneP_B, oneP_S, oneP_sl, oneP_row, oneP_nil, one_I, one_B, one_S, one_sl, one_row, one_nil, extP_tup, List.getElem?_cons_zero, List.getElem?_cons_succ, esD_sl, lenP_sl, lenP_row, lenP_nil, elP_sl, ixP_nat, Bool.and_true, Bool.true_and, Bool.and_self, if_true, if_false, Bool.not_true, Bool.not_false, Bool.false_eq_true, flat_eB, flat_eI, flat_eS, Bool.or_true, Bool.true_or, agg2, agg3, agg4, agg5, agg6, agg7, agg8, zB, zI, zS, celsD_agg, mpD_mp, decide_eq_false (show ¬ ((a.length : Int) < a.length) by omega), lexW]
  · rintro j ⟨x, y⟩ _ hj hjl _
    rw [hzl] at hjl
    obtain ⟨hx, hy⟩ := zip_get hj
    simp only at hx hy
    have hxl := ha x (List.mem_of_getElem? hx)
    have hyl := hb y (List.mem_of_getElem? hy)
    obtain ⟨d, hd⟩ : ∃ d, l[x]? = some d := ⟨l[x], List.getElem?_eq_getElem hxl⟩
    obtain ⟨e, hE⟩ : ∃ d, l[y]? = some d := ⟨l[y], List.getElem?_eq_getElem hyl⟩
    have e1 := nmD1_some hd
    have e2 := nmD1_some hE
    have h0 : ∀ d : Df, d.cells[0]? = some (eS d.name) := fun _ => rfl
    by_cases hq : d.name = e.name
    · left
      refine ⟨(), ?_, by simp only [lexW, e1, e2, hq, if_true], trivial⟩
      simp only [defs_less_l4, obind_s, og_t, oif_b, pd_0, pd_s, and_ch, or_ch, b_lss, b_leq, b_gtr, b_geq, b_eql, b_neq, s_eql, s_neq, s_lss, u_not, jnX_l, jnX_r, inrX_s, oneP_I, oneP_B, oneP_S, oneP_sl, oneP_row, oneP_nil, one_I, one_B, one_S, one_sl, one_row, one_nil, extP_tup, List.getElem?_cons_zero, List.getElem?_cons_succ, esD_sl, lenP_sl, lenP_row, lenP_nil, elP_sl, ixP_nat, Bool.and_true, Bool.true_and, Bool.and_self, if_true, if_false, Bool.not_true, Bool.not_false, Bool.false_eq_true, flat_eB, flat_eI, flat_eS, Bool.or_true, Bool.true_or, agg2, agg3, agg4, agg5, agg6, agg7, agg8, zB, zI, zS, celsD_agg, mpD_mp, decide_eq_true (show ((j : Int) < (a.length : Int)) by omega), eNs_ix hx, eNs_ix hy, atP_f, eDs_ix hd, eDs_ix hE, h0, decide_eq_true hq, add1 (bt := false) (i := j) (by omega)]
    · right
      simp only [defs_less_l4, obind_s, og_t, oif_b, pd_0, pd_s, and_ch, or_ch, b_lss, b_leq, b_gtr, b_geq, b_eql, b_neq, s_eql, s_neq, s_lss, u_not, jnX_l, jnX_r, inrX_s, oneP_I, oneP_B, oneP_S, oneP_sl, oneP_row, oneP_nil, one_I, one_B, one_S, one_sl, one_row, one_nil, extP_tup, List.getElem?_cons_zero, List.getElem?_cons_succ, esD_sl, lenP_sl, lenP_row, lenP_nil, elP_sl, ixP_nat, Bool.and_true, Bool.true_and, Bool.and_self, if_true, if_false, Bool.not_true, Bool.not_false, Bool.false_eq_true, flat_eB, flat_eI, flat_eS, Bool.or_true, Bool.true_or, agg2, agg3, agg4, agg5, agg6, agg7, agg8, zB, zI, zS, celsD_agg, mpD_mp, decide_eq_true (show ((j : Int) < (a.length : Int)) by omega), eNs_ix hx, eNs_ix hy, atP_f, eDs_ix hd, eDs_ix hE, h0, hq, decide_false, lexW, e1, e2]
end Go.Am
namespace Go.Am
set_option linter.unusedVariables false
set_option linter.unusedSimpArgs false
def lastN (w : List Nat) : Nat := w.getLast?.getD 0
def leqN (l : List Df) (i j : Nat) : Bool := blt (nmD1 l i) (nmD1 l j) || decide (nmD1 l i = nmD1 l j)
/-- The first way, by names, that m more places bring back to w0. -/
def wayF (l : List Df) (w0 : Nat) : Nat → List Nat → Option (List Nat)
  | 0, w => (to l (lastN w)).findSome? fun k => if k = w0 then some w else none
  | m + 1, w => (to l (lastN w)).findSome? fun k => if (decide (k ∈ w) || leqN l k w0) = true then none else wayF l w0 m (w ++ [k])
theorem wayF_pos {l : List Df} {w0 : Nat} : ∀ (m : Nat) (w w' : List Nat), 0 < w.length → wayF l w0 m w = some w' → 0 < w'.length
  | 0, w, w', h, hw => by
    rw [wayF] at hw
    obtain ⟨k, hk, h2⟩ := List.exists_of_findSome?_eq_some hw
    split at h2
    · cases h2; exact h
    · cases h2
  | m + 1, w, w', h, hw => by
    rw [wayF] at hw
    obtain ⟨k, hk, h2⟩ := List.exists_of_findSome?_eq_some hw
    split at h2
    · cases h2
    · exact wayF_pos m (w ++ [k]) w' (by simp) h2
def wayD : Option (List Nat) → D
  | some w => eNs w
  | none => NILD
theorem s_leq' {bt : Bool} {x y : ByteArray} : binP bt .leq (eS x) (eS y) = some (eB (blt x y || decide (x = y))) := rfl
theorem ref35_ring_ok (l : List Df) {B : Nat} (hl : DL B l) : ∀ (m n w0 : Nat) (r : List Nat), (∀ i ∈ w0 :: r, i < l.length) → r.length + m ≤ 1000000 → 2 * m + r.length + 2 * B + 200 < n → ref35_ringL n [eDs l, eNs (w0 :: r), eI (m : Int)] = some (wayD (wayF l w0 m (w0 :: r)))
  | _, 0, _, _, _, _, h => absurd h (Nat.not_lt_zero _)
  | m, n + 1, w0, r, hw, hr, hn => by
    have hlen := hl.len
    have hBb := hl.b
    have e0 : (eI ((0 : Nat) : Int)) = eI 0 := rfl
    have hwl : (w0 :: r).length = r.length + 1 := rfl
    have h0ix : ixP 1 (eNs (w0 :: r)) (eI 0) = some [eI (w0 : Int)] := eNs_ix (i := 0) rfl
    obtain ⟨x, hx⟩ : ∃ x, (w0 :: r)[r.length]? = some x := ⟨_, List.getElem?_eq_getElem (by simp)⟩
    have hlast : lastN (w0 :: r) = x := by
      rw [lastN, List.getLast?_eq_getElem?, hwl, Nat.add_sub_cancel, hx]; rfl
    have hxl := hw x (List.mem_of_getElem? hx)
    have hw0 := hw w0 (by simp)
    obtain ⟨d, hd⟩ : ∃ d, l[x]? = some d := ⟨l[x], List.getElem?_eq_getElem hxl⟩
    obtain ⟨d0, hd0⟩ : ∃ d, l[w0]? = some d := ⟨l[w0], List.getElem?_eq_getElem hw0⟩
    have hdm := hl.e d (List.mem_of_getElem? hd)
    have hdir := ref35_direct_ok n l d.e hlen hdm.1 hdm.2 hBb (by omega)
    have hsub : binP false .sub (eI ((w0 :: r).length : Int)) (eI 1) = some (eI (r.length : Int)) := by
      rw [b_sub (by rw [hwl]; omega) (by rw [hwl]; omega), hwl]; congr 2; omega
    have hll := lk_len l d.e
    have h0 : ∀ d : Df, d.cells[0]? = some (eS d.name) := fun _ => rfl
    have hto : to l (lastN (w0 :: r)) = lk l d.e := by rw [hlast, to_some hd]
    let F : Nat → Option (List Nat) := match m with
      | 0 => fun k => if k = w0 then some (w0 :: r) else none
      | m' + 1 => fun k => if (decide (k ∈ w0 :: r) || leqN l k w0) = true then none else wayF l w0 m' (w0 :: r ++ [k])
    have hF : wayF l w0 m (w0 :: r) = (lk l d.e).findSome? F := by
      cases m with
      | zero => rw [wayF, hto]
      | succ m' => rw [wayF, hto]
    have hi := iterL_list (f := ref35_ring_l3 (ref35_ringL n) n) (lk l d.e) (fun j (_ : Unit) => [eDs l, eNs (w0 :: r), eI (m : Int), eNs (lk l d.e), eI (j : Int)]) (fun q _ => (match q.findSome? F with | some w => .inr (eNs w) | none => .inl [] : List D ⊕ D)) (fun _ _ => True) ?_ ?_ n 0 () trivial (by omega) (Nat.zero_le _)
    · rw [e0, List.drop_zero] at hi
      show ref35_ring (ref35_ringL n) n _ _ _ = _
      rw [hF]
      cases hq : (lk l d.e).findSome? F with
      | none =>
        rw [hq] at hi
        simp only [ref35_ring, obind_s, og_t, oif_b, pd_0, pd_s, and_ch, or_ch, b_lss, b_leq, b_gtr, b_geq, b_eql, b_neq, s_eql, s_neq, s_lss, u_not, jnX_l, jnX_r, inrX_s, oneP_I, oneP_B, oneP_S, oneP_sl, oneP_row, oneP_nil, one_I, one_B, one_S, one_sl, one_row, one_nil, extP_tup, List.getElem?_cons_zero, List.getElem?_cons_succ, esD_sl, lenP_sl, lenP_row, lenP_nil, elP_sl, ixP_nat, Bool.and_true, Bool.true_and, Bool.and_self, if_true, if_false, Bool.not_true, Bool.not_false, Bool.false_eq_true, flat_eB, flat_eI, flat_eS, Bool.or_true, Bool.true_or, agg2, agg3, agg4, agg5, agg6, agg7, agg8, zB, zI, zS, celsD_agg, mpD_mp, eNs_len, hsub, eNs_ix hx, atP_f, eDs_ix hd, Df.at1, hdir, hi, wayD]
      | some w =>
        rw [hq] at hi
        simp only [ref35_ring, obind_s, og_t, oif_b, pd_0, pd_s, and_ch, or_ch, b_lss, b_leq, b_gtr, b_geq, b_eql, b_neq, s_eql, s_neq, s_lss, u_not, jnX_l, jnX_r, inrX_s, oneP_I, oneP_B, oneP_S, oneP_sl, oneP_row, oneP_nil, one_I, one_B, one_S, one_sl, one_row, one_nil, extP_tup, List.getElem?_cons_zero, List.getElem?_cons_succ, esD_sl, lenP_sl, lenP_row, lenP_nil, elP_sl, ixP_nat, Bool.and_true, Bool.true_and, Bool.and_self, if_true, if_false, Bool.not_true, Bool.not_false, Bool.false_eq_true, flat_eB, flat_eI, flat_eS, Bool.or_true, Bool.true_or, agg2, agg3, agg4, agg5, agg6, agg7, agg8, zB, zI, zS, celsD_agg, mpD_mp, eNs_len, hsub, eNs_ix hx, atP_f, eDs_ix hd, Df.at1, hdir, hi, wayD]
    · intro _ _
      simp only [ref35_ring_l3, obind_s, og_t, oif_b, pd_0, pd_s, and_ch, or_ch, b_lss, b_leq, b_gtr, b_geq, b_eql, b_neq, s_eql, s_neq, s_lss, u_not, jnX_l, jnX_r, inrX_s, oneP_I, oneP_B, oneP_S, oneP_sl, oneP_row, oneP_nil, one_I, one_B, one_S, one_sl, one_row, one_nil, extP_tup, List.getElem?_cons_zero, List.getElem?_cons_succ, esD_sl, lenP_sl, lenP_row, lenP_nil, elP_sl, ixP_nat, Bool.and_true, Bool.true_and, Bool.and_self, if_true, if_false, Bool.not_true, Bool.not_false, Bool.false_eq_true, flat_eB, flat_eI, flat_eS, Bool.or_true, Bool.true_or, agg2, agg3, agg4, agg5, agg6, agg7, agg8, zB, zI, zS, celsD_agg, mpD_mp, eNs_len, decide_eq_false (show ¬ (((lk l d.e).length : Int) < (lk l d.e).length) by omega), List.findSome?_nil]
    · intro j k _ hk hj _
      have hkl := lk_lt k (List.mem_of_getElem? hk)
      obtain ⟨dk, hdk⟩ : ∃ d, l[k]? = some d := ⟨l[k], List.getElem?_eq_getElem hkl⟩
      have hh := ref35_has_ok n (w0 :: r) k (eNs (w0 :: r)) (.inl rfl) (by rw [hwl]; omega) (by rw [hwl]; omega)
      have hle : (blt dk.name d0.name || decide (dk.name = d0.name)) = leqN l k w0 := by rw [leqN, nmD1_some hdk, nmD1_some hd0]
      have hjl := decide_eq_true (show ((j : Int) < ((lk l d.e).length : Int)) by omega)
      cases m with
      | zero =>
        have z0 : (((0 : Nat) : Int) == 0) = true := rfl
        by_cases hkw : k = w0
        · right
          have hkk : (((k : Nat) : Int) == (w0 : Int)) = true := by simp [hkw]
          have hFk : F k = some (w0 :: r) := by show (if k = w0 then _ else _) = _; rw [if_pos hkw]
          simp only [ref35_ring_l3, obind_s, og_t, oif_b, pd_0, pd_s, and_ch, or_ch, b_lss, b_leq, b_gtr, b_geq, b_eql, b_neq, s_eql, s_neq, s_lss, u_not, jnX_l, jnX_r, inrX_s, oneP_I, oneP_B, oneP_S, oneP_sl, oneP_row, oneP_nil, one_I, one_B, one_S, one_sl, one_row, one_nil, extP_tup, List.getElem?_cons_zero, List.getElem?_cons_succ, esD_sl, lenP_sl, lenP_row, lenP_nil, elP_sl, ixP_nat, Bool.and_true, Bool.true_and, Bool.and_self, if_true, if_false, Bool.not_true, Bool.not_false, Bool.false_eq_true, flat_eB, flat_eI, flat_eS, Bool.or_true, Bool.true_or, agg2, agg3, agg4, agg5, agg6, agg7, agg8, zB, zI, zS, celsD_agg, mpD_mp, eNs_len, hjl, z0, eNs_ix hk, h0ix, atP_f, hkk, List.findSome?_cons, hFk]
        · left
          have hkk : (((k : Nat) : Int) == (w0 : Int)) = false := by simp; omega
          have hFk : F k = none := by show (if k = w0 then _ else _) = _; rw [if_neg hkw]
          refine ⟨(), ?_, by simp only [List.findSome?_cons, hFk], trivial⟩
          simp only [ref35_ring_l3, obind_s, og_t, oif_b, pd_0, pd_s, and_ch, or_ch, b_lss, b_leq, b_gtr, b_geq, b_eql, b_neq, s_eql, s_neq, s_lss, u_not, jnX_l, jnX_r, inrX_s, oneP_I, oneP_B, oneP_S, oneP_sl, oneP_row, oneP_nil, one_I, one_B, one_S, one_sl, one_row, one_nil, extP_tup, List.getElem?_cons_zero, List.getElem?_cons_succ, esD_sl, lenP_sl, lenP_row, lenP_nil, elP_sl, ixP_nat, Bool.and_true, Bool.true_and, Bool.and_self, if_true, if_false, Bool.not_true, Bool.not_false, Bool.false_eq_true, flat_eB, flat_eI, flat_eS, Bool.or_true, Bool.true_or, agg2, agg3, agg4, agg5, agg6, agg7, agg8, zB, zI, zS, celsD_agg, mpD_mp, eNs_len, hjl, z0, eNs_ix hk, h0ix, atP_f, hkk, hh, eDs_ix hdk, eDs_ix hd0, h0, s_leq', add1 (bt := false) (i := j) (by omega)]
      | succ m' =>
        have z0 : (((m' + 1 : Nat) : Int) == 0) = false := by simp; omega
        by_cases hc : (decide (k ∈ w0 :: r) || leqN l k w0) = true
        · left
          have hFk : F k = none := by show (if (decide (k ∈ w0 :: r) || leqN l k w0) = true then _ else _) = _; rw [if_pos hc]
          refine ⟨(), ?_, by simp only [List.findSome?_cons, hFk], trivial⟩
          simp only [ref35_ring_l3, obind_s, og_t, oif_b, pd_0, pd_s, and_ch, or_ch, b_lss, b_leq, b_gtr, b_geq, b_eql, b_neq, s_eql, s_neq, s_lss, u_not, jnX_l, jnX_r, inrX_s, oneP_I, oneP_B, oneP_S, oneP_sl, oneP_row, oneP_nil, one_I, one_B, one_S, one_sl, one_row, one_nil, extP_tup, List.getElem?_cons_zero, List.getElem?_cons_succ, esD_sl, lenP_sl, lenP_row, lenP_nil, elP_sl, ixP_nat, Bool.and_true, Bool.true_and, Bool.and_self, if_true, if_false, Bool.not_true, Bool.not_false, Bool.false_eq_true, flat_eB, flat_eI, flat_eS, Bool.or_true, Bool.true_or, agg2, agg3, agg4, agg5, agg6, agg7, agg8, zB, zI, zS, celsD_agg, mpD_mp, eNs_len, hjl, z0, eNs_ix hk, h0ix, atP_f, Bool.false_and, Bool.false_or, hh, eDs_ix hdk, eDs_ix hd0, h0, s_leq', hle, hc, add1 (bt := false) (i := j) (by omega)]
        · have hc' : (decide (k ∈ w0 :: r) || leqN l k w0) = false := by simpa using hc
          have ih := ref35_ring_ok l hl m' n w0 (r ++ [k]) (by
            intro i hi
            rw [← List.cons_append] at hi
            rcases List.mem_append.1 hi with hi | hi
            · exact hw i hi
            · simp at hi; subst hi; exact hkl) (by simp; omega) (by simp; omega)
          have hFk : F k = wayF l w0 m' (w0 :: (r ++ [k])) := by show (if (decide (k ∈ w0 :: r) || leqN l k w0) = true then _ else _) = _; rw [if_neg hc]; rfl
          have hsm : binP false .sub (eI ((m' + 1 : Nat) : Int)) (eI 1) = some (eI (m' : Int)) := by
            rw [b_sub (by omega) (by omega)]; congr 2; omega
          have hel : elP (eNs (w0 :: r)) = some (1, (w0 :: r).map fun (i : Nat) => [eI (i : Int)]) := rfl
          have hd01 : decide (0 < 1) = true := rfl
          have r1 : roomP (r.length + 1) 8 = true := roomP_ok (by omega) (by omega)
          have r2 : roomP (r.length + 1 + 1) 8 = true := roomP_ok (by omega) (by omega)
          have hcat : D.sl 1 (((w0 :: r).map fun (i : Nat) => [eI (i : Int)]) ++ [[eI (k : Int)]]) = eNs (w0 :: (r ++ [k])) := by simp [eNs]
          cases hwf : wayF l w0 m' (w0 :: (r ++ [k])) with
          | none =>
            rw [hwf, wayD] at ih
            left
            refine ⟨(), ?_, by simp only [List.findSome?_cons, hFk, hwf], trivial⟩
            have hgt : decide ((0 : Int) > 0) = false := rfl
            simp only [ref35_ring_l3, obind_s, og_t, oif_b, pd_0, pd_s, and_ch, or_ch, b_lss, b_leq, b_gtr, b_geq, b_eql, b_neq, s_eql, s_neq, s_lss, u_not, jnX_l, jnX_r, inrX_s, oneP_I, oneP_B, oneP_S, oneP_sl, oneP_row, oneP_nil, one_I, one_B, one_S, one_sl, one_row, one_nil, extP_tup, List.getElem?_cons_zero, List.getElem?_cons_succ, esD_sl, lenP_sl, lenP_row, lenP_nil, elP_sl, ixP_nat, Bool.and_true, Bool.true_and, Bool.and_self, if_true, if_false, Bool.not_true, Bool.not_false, Bool.false_eq_true, flat_eB, flat_eI, flat_eS, Bool.or_true, Bool.true_or, agg2, agg3, agg4, agg5, agg6, agg7, agg8, zB, zI, zS, celsD_agg, mpD_mp, eNs_len, hjl, z0, eNs_ix hk, h0ix, atP_f, Bool.false_and, Bool.false_or, hh, eDs_ix hdk, eDs_ix hd0, h0, s_leq', hle, hc', hsm, hel, true_or, decide_true, hd01, List.nil_append, List.length_nil, Nat.zero_add, List.length_map, List.length_cons, r1, r2, hcat, ih, hgt, add1 (bt := false) (i := j) (by omega)]
          | some w =>
            rw [hwf, wayD] at ih
            have hp := wayF_pos m' _ w (by simp) hwf
            have hgt : decide ((w.length : Int) > 0) = true := decide_eq_true (by omega)
            right
            simp only [ref35_ring_l3, obind_s, og_t, oif_b, pd_0, pd_s, and_ch, or_ch, b_lss, b_leq, b_gtr, b_geq, b_eql, b_neq, s_eql, s_neq, s_lss, u_not, jnX_l, jnX_r, inrX_s, oneP_I, oneP_B, oneP_S, oneP_sl, oneP_row, oneP_nil, one_I, one_B, one_S, one_sl, one_row, one_nil, extP_tup, List.getElem?_cons_zero, List.getElem?_cons_succ, esD_sl, lenP_sl, lenP_row, lenP_nil, elP_sl, ixP_nat, Bool.and_true, Bool.true_and, Bool.and_self, if_true, if_false, Bool.not_true, Bool.not_false, Bool.false_eq_true, flat_eB, flat_eI, flat_eS, Bool.or_true, Bool.true_or, agg2, agg3, agg4, agg5, agg6, agg7, agg8, zB, zI, zS, celsD_agg, mpD_mp, eNs_len, hjl, z0, eNs_ix hk, h0ix, atP_f, Bool.false_and, Bool.false_or, hh, eDs_ix hdk, eDs_ix hd0, h0, s_leq', hle, hc', hsm, hel, true_or, decide_true, hd01, List.nil_append, List.length_nil, Nat.zero_add, List.length_map, List.length_cons, r1, r2, hcat, ih, hgt, List.findSome?_cons, hFk, hwf]
end Go.Am
namespace Go.Am
set_option linter.unusedVariables false
set_option linter.unusedSimpArgs false
/-- The texts of a way. -/
def txt (l : List Df) (w : List Nat) : List ByteArray := w.map (nmD1 l)
theorem txt16_ok (n : Nat) (l : List Df) (w : List Nat) (hw : ∀ i ∈ w, i < l.length) (hn : w.length < n) (hb : w.length < 1000000000) : iterL (ref35_Ring_l16 n) n [eDs l, eNs w, eI 0, D.sl 1 []] = some (.inl [eSs (txt l w)]) := by
  have e0 : (eI ((0 : Nat) : Int)) = eI 0 := rfl
  have e1 : eSs [] = D.sl 1 [] := rfl
  have ee : ∀ x, D.sl 1 (esD (eSs x)) = eSs x := fun _ => rfl
  have hi := iterL_list (f := ref35_Ring_l16 n) w (fun j (s : List ByteArray) => [eDs l, eNs w, eI (j : Int), eSs s]) (fun q s => (.inl [eSs (s ++ txt l q)] : List D ⊕ (List D ⊕ (List D ⊕ (List D ⊕ (List D ⊕ (List D ⊕ (List D ⊕ D)))))))) (fun j s => s.length = j) ?_ ?_ n 0 [] rfl (by omega) (Nat.zero_le _)
  · rw [e0, e1, List.drop_zero, List.nil_append] at hi; exact hi
  · intro s _
    simp only [ref35_Ring_l16, obind_s, og_t, oif_b, pd_0, pd_s, and_ch, or_ch, b_lss, b_leq, b_gtr, b_geq, b_eql, b_neq, s_eql, s_neq, s_lss, u_not, jnX_l, jnX_r, inrX_s, oneP_I, oneP_B, oneP_S, oneP_sl, oneP_row, oneP_nil, one_I, one_B, one_S, one_sl, one_row, one_nil, extP_tup, List.getElem?_cons_zero, List.getElem?_cons_succ, esD_sl, lenP_sl, lenP_row, lenP_nil, elP_sl, ixP_nat, Bool.and_true, Bool.true_and, Bool.and_self, if_true, if_false, Bool.not_true, Bool.not_false, Bool.false_eq_true, flat_eB, flat_eI, flat_eS, Bool.or_true, Bool.true_or, agg2, agg3, agg4, agg5, agg6, agg7, agg8, zB, zI, zS, celsD_agg, mpD_mp, eNs_len, decide_eq_false (show ¬ ((w.length : Int) < w.length) by omega), ee, txt, List.map_nil, List.append_nil]
  · intro j i s hi hj hs
    have hil := hw i (List.mem_of_getElem? hi)
    obtain ⟨d, hd⟩ : ∃ d, l[i]? = some d := ⟨l[i], List.getElem?_eq_getElem hil⟩
    have h0 : ∀ d : Df, d.cells[0]? = some (eS d.name) := fun _ => rfl
    have hrm : roomP (s.length + 1) 16 = true := roomP_ok (by omega) (by omega)
    have e2 : D.sl 1 (esD (eSs s) ++ [[eS d.name]]) = eSs (s ++ [d.name]) := by simp [eSs]
    have e3 : (esD (eSs s)).length = s.length := by simp [eSs]
    left
    refine ⟨s ++ [d.name], ?_, ?_, by simp [hs]⟩
    · simp only [ref35_Ring_l16, obind_s, og_t, oif_b, pd_0, pd_s, and_ch, or_ch, b_lss, b_leq, b_gtr, b_geq, b_eql, b_neq, s_eql, s_neq, s_lss, u_not, jnX_l, jnX_r, inrX_s, oneP_I, oneP_B, oneP_S, oneP_sl, oneP_row, oneP_nil, one_I, one_B, one_S, one_sl, one_row, one_nil, extP_tup, List.getElem?_cons_zero, List.getElem?_cons_succ, esD_sl, lenP_sl, lenP_row, lenP_nil, elP_sl, ixP_nat, Bool.and_true, Bool.true_and, Bool.and_self, if_true, if_false, Bool.not_true, Bool.not_false, Bool.false_eq_true, flat_eB, flat_eI, flat_eS, Bool.or_true, Bool.true_or, agg2, agg3, agg4, agg5, agg6, agg7, agg8, zB, zI, zS, celsD_agg, mpD_mp, eNs_len, decide_eq_true (show ((j : Int) < (w.length : Int)) by omega), eNs_ix hi, atP_f, eDs_ix hd, h0, e2, e3, List.length_cons, List.length_nil, Nat.zero_add, hrm, add1 (bt := false) (i := j) (by omega)]
    · simp only [txt, List.map_cons, nmD1_some hd, List.append_assoc, List.singleton_append]
end Go.Am
namespace Go.Am
set_option linter.unusedVariables false
set_option linter.unusedSimpArgs false
/-- All names, in order. -/
def nmsR (l : List Df) : List ByteArray := l.foldl (fun s d => insS d.name s) []
theorem insS_len1 (s : ByteArray) (l : List ByteArray) (h : Srt l) : (insS s l).length ≤ l.length + 1 := by
  rcases Classical.em (s ∈ l) with hm | hm
  · rw [insS_in h hm]; omega
  · obtain ⟨a, b, h1, h2, _⟩ := insS_out h hm
    rw [h2, h1]; simp; omega
theorem nmsR_srt (l : List Df) : ∀ (s : List ByteArray), Srt s → Srt (l.foldl (fun s d => insS d.name s) s) ∧ (l.foldl (fun s d => insS d.name s) s).length ≤ s.length + l.length := by
  induction l with
  | nil => intro s h; exact ⟨h, Nat.le_refl _⟩
  | cons d r ih =>
    intro s h
    have h1 := insS_len1 d.name s h
    obtain ⟨h2, h3⟩ := ih _ (insS_srt (s := d.name) h)
    refine ⟨h2, ?_⟩
    simp only [List.foldl_cons, List.length_cons]
    omega
theorem names3_ok (n : Nat) (l : List Df) (hn : l.length + 10 < n) (hb : l.length < 100000000) : iterL (ref35_Ring_l3 n) n [eDs l, D.sl 1 [], eI 0] = some (.inl [eDs l, eSs (nmsR l)]) := by
  have e0 : (eI ((0 : Nat) : Int)) = eI 0 := rfl
  have e1 : eSs [] = D.sl 1 [] := rfl
  have hi := iterL_list (f := ref35_Ring_l3 n) l (fun j (s : List ByteArray) => [eDs l, eSs s, eI (j : Int)]) (fun q s => (.inl [eDs l, eSs (q.foldl (fun s d => insS d.name s) s)] : List D ⊕ D)) (fun j s => Srt s ∧ s.length ≤ j) ?_ ?_ n 0 [] ⟨trivial, Nat.le_refl _⟩ (by omega) (Nat.zero_le _)
  · rw [e0, e1, List.drop_zero] at hi; exact hi
  · intro s _
    simp only [ref35_Ring_l3, obind_s, og_t, oif_b, pd_0, pd_s, and_ch, or_ch, b_lss, b_leq, b_gtr, b_geq, b_eql, b_neq, s_eql, s_neq, s_lss, u_not, jnX_l, jnX_r, inrX_s, oneP_I, oneP_B, oneP_S, oneP_sl, oneP_row, oneP_nil, one_I, one_B, one_S, one_sl, one_row, one_nil, extP_tup, List.getElem?_cons_zero, List.getElem?_cons_succ, esD_sl, lenP_sl, lenP_row, lenP_nil, elP_sl, ixP_nat, Bool.and_true, Bool.true_and, Bool.and_self, if_true, if_false, Bool.not_true, Bool.not_false, Bool.false_eq_true, flat_eB, flat_eI, flat_eS, Bool.or_true, Bool.true_or, agg2, agg3, agg4, agg5, agg6, agg7, agg8, zB, zI, zS, celsD_agg, mpD_mp, eDs_len, decide_eq_false (show ¬ ((l.length : Int) < l.length) by omega), List.foldl_nil]
  · rintro j d s hd hj ⟨hs1, hs2⟩
    have hW := ref30_With_ok n false s d.name hs1 (by omega) (by omega)
    rw [sD_f] at hW
    have h0 : ∀ d : Df, d.cells[0]? = some (eS d.name) := fun _ => rfl
    left
    refine ⟨insS d.name s, ?_, by simp only [List.foldl_cons], insS_srt hs1, by have := insS_len1 d.name s hs1; omega⟩
    simp only [ref35_Ring_l3, obind_s, og_t, oif_b, pd_0, pd_s, and_ch, or_ch, b_lss, b_leq, b_gtr, b_geq, b_eql, b_neq, s_eql, s_neq, s_lss, u_not, jnX_l, jnX_r, inrX_s, oneP_I, oneP_B, oneP_S, oneP_sl, oneP_row, oneP_nil, one_I, one_B, one_S, one_sl, one_row, one_nil, extP_tup, List.getElem?_cons_zero, List.getElem?_cons_succ, esD_sl, lenP_sl, lenP_row, lenP_nil, elP_sl, ixP_nat, Bool.and_true, Bool.true_and, Bool.and_self, if_true, if_false, Bool.not_true, Bool.not_false, Bool.false_eq_true, flat_eB, flat_eI, flat_eS, Bool.or_true, Bool.true_or, agg2, agg3, agg4, agg5, agg6, agg7, agg8, zB, zI, zS, celsD_agg, mpD_mp, eDs_len, decide_eq_true (show ((j : Int) < (l.length : Int)) by omega), eDs_ix hd, atP_f, h0, hW, add1 (bt := false) (i := j) (by omega)]
theorem nmsR_mem {l : List Df} {x : ByteArray} (h : x ∈ nmsR l) : ∃ i, idxD l x = some i := by
  have key : ∀ (r : List Df) (s : List ByteArray), x ∈ r.foldl (fun s d => insS d.name s) s → x ∈ s ∨ ∃ d ∈ r, d.name = x := by
    intro r
    induction r with
    | nil => intro s h; exact .inl h
    | cons d r ih =>
      intro s h
      rcases ih _ h with h | ⟨e, he, h⟩
      · rcases insS_mem h with h | h
        · exact .inr ⟨d, by simp, h.symm⟩
        · exact .inl h
      · exact .inr ⟨e, by simp [he], h⟩
  rcases key l [] h with h | ⟨d, hd, h⟩
  · cases h
  · cases hx : idxD l x with
    | some i => exact ⟨i, rfl⟩
    | none =>
      rw [idxD, List.findIdx?_eq_none_iff] at hx
      have := hx d hd
      simp [h] at this
/-- The first ring with so many more places, by its first name. -/
def firW (l : List Df) (more : Nat) (q : List ByteArray) : Option (List Nat) := q.findSome? fun x => (idxD l x).bind fun i => wayF l i more [i]
theorem wayF_lt {l : List Df} {w0 : Nat} : ∀ (m : Nat) (w w' : List Nat), (∀ i ∈ w, i < l.length) → wayF l w0 m w = some w' → (∀ i ∈ w', i < l.length) ∧ w'.length ≤ w.length + m
  | 0, w, w', h, hw => by
    rw [wayF] at hw
    obtain ⟨k, hk, h2⟩ := List.exists_of_findSome?_eq_some hw
    split at h2
    · cases h2; exact ⟨h, by omega⟩
    · cases h2
  | m + 1, w, w', h, hw => by
    rw [wayF] at hw
    obtain ⟨k, hk, h2⟩ := List.exists_of_findSome?_eq_some hw
    split at h2
    · cases h2
    · have := wayF_lt m (w ++ [k]) w' (by
        intro i hi
        rcases List.mem_append.1 hi with hi | hi
        · exact h i hi
        · simp at hi; subst hi; exact to_lt _ i hk) h2
      refine ⟨this.1, ?_⟩
      have h3 := this.2
      simp at h3; omega
theorem ring10_ok (n : Nat) (l : List Df) {B : Nat} (hl : DL B l) (hB : B ≤ 100000) (more : Nat) (hm : more ≤ l.length) (hn : 6 * B + 500 < n) :
    iterL (ref35_Ring_l10 n) n [eDs l, eSs (nmsR l), eI (more : Int), eI 0] = some (match firW l more (nmsR l) with | some w => .inr (.inr (.inr (.inr (eSs (txt l w))))) | none => .inl [eDs l, eSs (nmsR l), eI (more : Int)]) := by
  have hlen := hl.len
  have e0 : (eI ((0 : Nat) : Int)) = eI 0 := rfl
  have hns := (nmsR_srt l [] trivial).2
  have hns' : (nmsR l).length ≤ l.length := by simpa [nmsR] using hns
  have hi := iterL_list (f := ref35_Ring_l10 n) (nmsR l) (fun j (_ : Unit) => [eDs l, eSs (nmsR l), eI (more : Int), eI (j : Int)]) (fun q _ => (match firW l more q with | some w => .inr (.inr (.inr (.inr (eSs (txt l w))))) | none => .inl [eDs l, eSs (nmsR l), eI (more : Int)] : List D ⊕ (List D ⊕ (List D ⊕ (List D ⊕ D))))) (fun _ _ => True) ?_ ?_ n 0 () trivial (by omega) (Nat.zero_le _)
  · rw [e0, List.drop_zero] at hi; exact hi
  · intro _ _
    simp only [ref35_Ring_l10, obind_s, og_t, oif_b, pd_0, pd_s, and_ch, or_ch, b_lss, b_leq, b_gtr, b_geq, b_eql, b_neq, s_eql, s_neq, s_lss, u_not, jnX_l, jnX_r, inrX_s, oneP_I, oneP_B, oneP_S, oneP_sl, oneP_row, oneP_nil, one_I, one_B, one_S, one_sl, one_row, one_nil, extP_tup, List.getElem?_cons_zero, List.getElem?_cons_succ, esD_sl, lenP_sl, lenP_row, lenP_nil, elP_sl, ixP_nat, Bool.and_true, Bool.true_and, Bool.and_self, if_true, if_false, Bool.not_true, Bool.not_false, Bool.false_eq_true, flat_eB, flat_eI, flat_eS, Bool.or_true, Bool.true_or, agg2, agg3, agg4, agg5, agg6, agg7, agg8, zB, zI, zS, celsD_agg, mpD_mp, eSs_len, decide_eq_false (show ¬ (((nmsR l).length : Int) < (nmsR l).length) by omega), firW, List.findSome?_nil]
  · intro j x _ hx hj _
    obtain ⟨i, hix⟩ := nmsR_mem (List.mem_of_getElem? hx)
    obtain ⟨d, hd1, hd2, hil⟩ := idxD_lt hix
    have hI := ref35_Index_ok n l x (by omega) (by omega)
    rw [hix] at hI
    simp only at hI
    have hR := ref35_ring_ok l hl more n i [] (by intro k hk; simp at hk; subst hk; exact hil) (by simp; omega) (by simp; omega)
    have he1 : D.sl 1 [[eI (i : Int)]] = eNs [i] := rfl
    have hq : firW l more (x :: (nmsR l).drop (j + 1)) = match wayF l i more [i] with | some w => some w | none => firW l more ((nmsR l).drop (j + 1)) := by
      simp only [firW, List.findSome?_cons, hix, Option.bind_some]
      cases wayF l i more [i] <;> rfl
    have hjl := decide_eq_true (show ((j : Int) < ((nmsR l).length : Int)) by omega)
    cases hw : wayF l i more [i] with
    | none =>
      rw [hw, wayD] at hR
      rw [hw] at hq
      left
      have hgt : decide ((0 : Int) > 0) = false := rfl
      refine ⟨(), ?_, by simp only [hq], trivial⟩
      simp only [ref35_Ring_l10, obind_s, og_t, oif_b, pd_0, pd_s, and_ch, or_ch, b_lss, b_leq, b_gtr, b_geq, b_eql, b_neq, s_eql, s_neq, s_lss, u_not, jnX_l, jnX_r, inrX_s, oneP_I, oneP_B, oneP_S, oneP_sl, oneP_row, oneP_nil, one_I, one_B, one_S, one_sl, one_row, one_nil, extP_tup, List.getElem?_cons_zero, List.getElem?_cons_succ, esD_sl, lenP_sl, lenP_row, lenP_nil, elP_sl, ixP_nat, Bool.and_true, Bool.true_and, Bool.and_self, if_true, if_false, Bool.not_true, Bool.not_false, Bool.false_eq_true, flat_eB, flat_eI, flat_eS, Bool.or_true, Bool.true_or, agg2, agg3, agg4, agg5, agg6, agg7, agg8, zB, zI, zS, celsD_agg, mpD_mp, eSs_len, hjl, eSs_ix hx, atP_f, hI, he1, hR, hgt, add1 (bt := false) (i := j) (by omega)]
    | some w =>
      rw [hw, wayD] at hR
      rw [hw] at hq
      have hp := wayF_pos more [i] w (by simp) hw
      obtain ⟨hwl, hwn⟩ := wayF_lt more [i] w (by intro k hk; simp at hk; subst hk; exact hil) hw
      simp at hwn
      have h16 := txt16_ok n l w hwl (by omega) (by omega)
      have hgt : decide ((w.length : Int) > 0) = true := decide_eq_true (by omega)
      have ee : ∀ x, D.sl 1 (esD (eSs x)) = eSs x := fun _ => rfl
      right
      simp only [ref35_Ring_l10, obind_s, og_t, oif_b, pd_0, pd_s, and_ch, or_ch, b_lss, b_leq, b_gtr, b_geq, b_eql, b_neq, s_eql, s_neq, s_lss, u_not, jnX_l, jnX_r, inrX_s, oneP_I, oneP_B, oneP_S, oneP_sl, oneP_row, oneP_nil, one_I, one_B, one_S, one_sl, one_row, one_nil, extP_tup, List.getElem?_cons_zero, List.getElem?_cons_succ, esD_sl, lenP_sl, lenP_row, lenP_nil, elP_sl, ixP_nat, Bool.and_true, Bool.true_and, Bool.and_self, if_true, if_false, Bool.not_true, Bool.not_false, Bool.false_eq_true, flat_eB, flat_eI, flat_eS, Bool.or_true, Bool.true_or, agg2, agg3, agg4, agg5, agg6, agg7, agg8, zB, zI, zS, celsD_agg, mpD_mp, eSs_len, hjl, eSs_ix hx, atP_f, hI, he1, hR, eNs_len, hgt, h16, ee, hq]
end Go.Am
namespace Go.Am
set_option linter.unusedVariables false
set_option linter.unusedSimpArgs false
/-- The ring that the reference finds. -/
def rngR (l : List Df) : Option (List Nat) := (List.range l.length).findSome? fun more => firW l more (nmsR l)
theorem ref35_Ring_ok (n : Nat) (l : List Df) {B : Nat} (hl : DL B l) (hB : B ≤ 100000) (hn : 6 * B + 500 < n) : ref35_RingL n [eDs l] = some (match rngR l with | some w => eSs (txt l w) | none => NILD) := by
  have hlen := hl.len
  have e0 : (eI ((0 : Nat) : Int)) = eI 0 := rfl
  have h3 := names3_ok n l (by omega) (by omega)
  have hi := iterL_list (f := ref35_Ring_l7 n) (List.range l.length) (fun j (_ : Unit) => [eDs l, eSs (nmsR l), eI (j : Int)]) (fun q _ => (match q.findSome? (fun more => firW l more (nmsR l)) with | some w => .inr (eSs (txt l w)) | none => .inl [] : List D ⊕ D)) (fun _ _ => True) ?_ ?_ n 0 () trivial (by simp; omega) (Nat.zero_le _)
  · rw [e0, List.drop_zero] at hi
    unfold rngR
    cases hq : (List.range l.length).findSome? (fun more => firW l more (nmsR l)) with
    | none =>
      rw [hq] at hi
      simp only [ref35_RingL, ref35_Ring, obind_s, og_t, oif_b, pd_0, pd_s, and_ch, or_ch, b_lss, b_leq, b_gtr, b_geq, b_eql, b_neq, s_eql, s_neq, s_lss, u_not, jnX_l, jnX_r, inrX_s, oneP_I, oneP_B, oneP_S, oneP_sl, oneP_row, oneP_nil, one_I, one_B, one_S, one_sl, one_row, one_nil, extP_tup, List.getElem?_cons_zero, List.getElem?_cons_succ, esD_sl, lenP_sl, lenP_row, lenP_nil, elP_sl, ixP_nat, Bool.and_true, Bool.true_and, Bool.and_self, if_true, if_false, Bool.not_true, Bool.not_false, Bool.false_eq_true, flat_eB, flat_eI, flat_eS, Bool.or_true, Bool.true_or, agg2, agg3, agg4, agg5, agg6, agg7, agg8, zB, zI, zS, celsD_agg, mpD_mp, h3, hi]
    | some w =>
      rw [hq] at hi
      simp only [ref35_RingL, ref35_Ring, obind_s, og_t, oif_b, pd_0, pd_s, and_ch, or_ch, b_lss, b_leq, b_gtr, b_geq, b_eql, b_neq, s_eql, s_neq, s_lss, u_not, jnX_l, jnX_r, inrX_s, oneP_I, oneP_B, oneP_S, oneP_sl, oneP_row, oneP_nil, one_I, one_B, one_S, one_sl, one_row, one_nil, extP_tup, List.getElem?_cons_zero, List.getElem?_cons_succ, esD_sl, lenP_sl, lenP_row, lenP_nil, elP_sl, ixP_nat, Bool.and_true, Bool.true_and, Bool.and_self, if_true, if_false, Bool.not_true, Bool.not_false, Bool.false_eq_true, flat_eB, flat_eI, flat_eS, Bool.or_true, Bool.true_or, agg2, agg3, agg4, agg5, agg6, agg7, agg8, zB, zI, zS, celsD_agg, mpD_mp, h3, hi]
  · intro _ _
    rw [List.length_range]
    simp only [ref35_Ring_l7, obind_s, og_t, oif_b, pd_0, pd_s, and_ch, or_ch, b_lss, b_leq, b_gtr, b_geq, b_eql, b_neq, s_eql, s_neq, s_lss, u_not, jnX_l, jnX_r, inrX_s, oneP_I, oneP_B, oneP_S, oneP_sl, oneP_row, oneP_nil, one_I, one_B, one_S, one_sl, one_row, one_nil, extP_tup, List.getElem?_cons_zero, List.getElem?_cons_succ, esD_sl, lenP_sl, lenP_row, lenP_nil, elP_sl, ixP_nat, Bool.and_true, Bool.true_and, Bool.and_self, if_true, if_false, Bool.not_true, Bool.not_false, Bool.false_eq_true, flat_eB, flat_eI, flat_eS, Bool.or_true, Bool.true_or, agg2, agg3, agg4, agg5, agg6, agg7, agg8, zB, zI, zS, celsD_agg, mpD_mp, eDs_len, decide_eq_false (show ¬ ((l.length : Int) < l.length) by omega), List.findSome?_nil]
  · intro j i _ hx hj _
    rw [List.length_range] at hj
    have hij : i = j := by rw [List.getElem?_range hj] at hx; exact (Option.some.inj hx).symm
    subst hij
    have h10 := ring10_ok n l hl hB i (by omega) hn
    have hjl := decide_eq_true (show ((i : Int) < (l.length : Int)) by omega)
    cases hw : firW l i (nmsR l) with
    | none =>
      rw [hw] at h10
      left
      refine ⟨(), ?_, by simp only [List.findSome?_cons, hw], trivial⟩
      simp only [ref35_Ring_l7, obind_s, og_t, oif_b, pd_0, pd_s, and_ch, or_ch, b_lss, b_leq, b_gtr, b_geq, b_eql, b_neq, s_eql, s_neq, s_lss, u_not, jnX_l, jnX_r, inrX_s, oneP_I, oneP_B, oneP_S, oneP_sl, oneP_row, oneP_nil, one_I, one_B, one_S, one_sl, one_row, one_nil, extP_tup, List.getElem?_cons_zero, List.getElem?_cons_succ, esD_sl, lenP_sl, lenP_row, lenP_nil, elP_sl, ixP_nat, Bool.and_true, Bool.true_and, Bool.and_self, if_true, if_false, Bool.not_true, Bool.not_false, Bool.false_eq_true, flat_eB, flat_eI, flat_eS, Bool.or_true, Bool.true_or, agg2, agg3, agg4, agg5, agg6, agg7, agg8, zB, zI, zS, celsD_agg, mpD_mp, eDs_len, hjl, h10, add1 (bt := false) (i := i) (by omega)]
    | some w =>
      rw [hw] at h10
      right
      simp only [ref35_Ring_l7, obind_s, og_t, oif_b, pd_0, pd_s, and_ch, or_ch, b_lss, b_leq, b_gtr, b_geq, b_eql, b_neq, s_eql, s_neq, s_lss, u_not, jnX_l, jnX_r, inrX_s, oneP_I, oneP_B, oneP_S, oneP_sl, oneP_row, oneP_nil, one_I, one_B, one_S, one_sl, one_row, one_nil, extP_tup, List.getElem?_cons_zero, List.getElem?_cons_succ, esD_sl, lenP_sl, lenP_row, lenP_nil, elP_sl, ixP_nat, Bool.and_true, Bool.true_and, Bool.and_self, if_true, if_false, Bool.not_true, Bool.not_false, Bool.false_eq_true, flat_eB, flat_eI, flat_eS, Bool.or_true, Bool.true_or, agg2, agg3, agg4, agg5, agg6, agg7, agg8, zB, zI, zS, celsD_agg, mpD_mp, eDs_len, hjl, h10, List.findSome?_cons, hw]
end Go.Am
namespace Go.Am
set_option linter.unusedVariables false
set_option linter.unusedSimpArgs false
/-! ### Search in breadth -/
/-- A way of d steps from a place to `fr`, over places that are allowed. -/
inductive Pth (to : Nat → List Nat) (ok : Nat → Bool) (fr : Nat) : Nat → Nat → Prop where
  | zero : Pth to ok fr 0 fr
  | succ (d i k : Nat) (h : ok i = true) (hk : k ∈ to i) (h' : Pth to ok fr d k) : Pth to ok fr (d + 1) i
def farQ : List (Nat × Nat) → Nat → Option Nat
  | [], _ => none
  | e :: r, x => if e.1 = x then some e.2 else farQ r x
theorem farQ_mem {Q : List (Nat × Nat)} {x d : Nat} (h : farQ Q x = some d) : (x, d) ∈ Q := by
  induction Q with
  | nil => cases h
  | cons e r ih =>
    rw [farQ] at h
    split at h
    · rename_i he; cases h; rw [← he]; simp
    · exact List.mem_cons_of_mem _ (ih h)
theorem farQ_none {Q : List (Nat × Nat)} {x : Nat} (h : farQ Q x = none) : ∀ e ∈ Q, e.1 ≠ x := by
  induction Q with
  | nil => intro e he; cases he
  | cons e r ih =>
    rw [farQ] at h
    split at h
    · cases h
    · rename_i he
      intro e' he'
      rcases List.mem_cons.1 he' with rfl | he'
      · exact he
      · exact ih h e' he'
theorem farQ_of {Q : List (Nat × Nat)} (hn : (Q.map (·.1)).Nodup) {x d : Nat} (h : (x, d) ∈ Q) : farQ Q x = some d := by
  induction Q with
  | nil => cases h
  | cons e r ih =>
    rw [List.map_cons, List.nodup_cons] at hn
    rw [farQ]
    rcases List.mem_cons.1 h with h | h
    · rw [← h]; simp
    · have : ¬ e.1 = x := by
        rintro rfl
        exact hn.1 (List.mem_map.2 ⟨_, h, rfl⟩)
      rw [if_neg this]
      exact ih hn.2 h
theorem farQ_snoc (Q : List (Nat × Nat)) (i d x : Nat) (h : farQ Q i = none) : farQ (Q ++ [(i, d)]) x = if x = i then some d else farQ Q x := by
  induction Q with
  | nil => simp [farQ, eq_comm]
  | cons e r ih =>
    rw [farQ] at h
    split at h
    · cases h
    · rename_i he
      rw [List.cons_append, farQ, farQ, ih h]
      by_cases hx : e.1 = x
      · subst hx; simp [he]
      · simp [hx]
/-- What one row of the search adds. -/
def bfsI (to : Nat → List Nat) (ok : Nat → Bool) (r dr : Nat) (q : List Nat) (Q : List (Nat × Nat)) : List (Nat × Nat) :=
  q.foldl (fun Q i => if (farQ Q i).isSome || !ok i then Q else if r ∈ to i then Q ++ [(i, dr + 1)] else Q) Q
def bfs (to : Nat → List Nat) (ok : Nat → Bool) (N : Nat) : Nat → Nat → List (Nat × Nat) → List (Nat × Nat)
  | 0, _, Q => Q
  | m + 1, n, Q => match Q[n]? with
    | none => Q
    | some e => bfs to ok N m (n + 1) (bfsI to ok e.1 e.2 (List.range N) Q)
theorem bfsI_spec (to : Nat → List Nat) (ok : Nat → Bool) (r dr : Nat) : ∀ (q : List Nat) (Q : List (Nat × Nat)), (Q.map (·.1)).Nodup →
    ∃ T, bfsI to ok r dr q Q = Q ++ T ∧ ((Q ++ T).map (·.1)).Nodup ∧ (∀ e ∈ T, e.2 = dr + 1 ∧ ok e.1 = true ∧ r ∈ to e.1 ∧ e.1 ∈ q) ∧ ∀ i ∈ q, ok i = true → r ∈ to i → ∃ d, (i, d) ∈ Q ++ T
  | [], Q, h => ⟨[], by simp [bfsI], by simpa using h, by simp, by simp⟩
  | a :: q, Q, h => by
    have hs : ∀ Q', bfsI to ok r dr (a :: q) Q = bfsI to ok r dr q Q' ↔ bfsI to ok r dr q (if (farQ Q a).isSome || !ok a then Q else if r ∈ to a then Q ++ [(a, dr + 1)] else Q) = bfsI to ok r dr q Q' := fun _ => Iff.rfl
    by_cases h1 : ((farQ Q a).isSome || !ok a) = true
    · obtain ⟨T, t1, t2, t3, t4⟩ := bfsI_spec to ok r dr q Q h
      refine ⟨T, ?_, t2, fun e he => ⟨(t3 e he).1, (t3 e he).2.1, (t3 e he).2.2.1, List.mem_cons_of_mem _ (t3 e he).2.2.2⟩, ?_⟩
      · rw [← t1, hs, if_pos h1]
      · intro i hi hok hr
        rcases List.mem_cons.1 hi with rfl | hi
        · rw [hok] at h1
          simp only [Bool.not_true, Bool.or_false] at h1
          obtain ⟨d, hd⟩ := Option.isSome_iff_exists.1 h1
          exact ⟨d, List.mem_append_left _ (farQ_mem hd)⟩
        · exact t4 i hi hok hr
    · have h1' : ((farQ Q a).isSome || !ok a) = false := by simpa using h1
      rw [Bool.or_eq_false_iff] at h1'
      have hfn : farQ Q a = none := by simpa using h1'.1
      have hoka : ok a = true := by simpa using h1'.2
      by_cases h2 : r ∈ to a
      · have hn' : ((Q ++ [(a, dr + 1)]).map (·.1)).Nodup := by
          rw [List.map_append, List.nodup_append]
          refine ⟨h, by simp, ?_⟩
          intro x hx y hy
          simp at hy; subst hy
          obtain ⟨e, he, rfl⟩ := List.mem_map.1 hx
          exact farQ_none hfn e he
        obtain ⟨T, t1, t2, t3, t4⟩ := bfsI_spec to ok r dr q _ hn'
        refine ⟨(a, dr + 1) :: T, ?_, by simpa using t2, ?_, ?_⟩
        · have := t1
          rw [List.append_assoc, List.singleton_append] at this
          rw [← this, hs, if_neg h1, if_pos h2]
        · intro e he
          rcases List.mem_cons.1 he with rfl | he
          · exact ⟨rfl, hoka, h2, by simp⟩
          · exact ⟨(t3 e he).1, (t3 e he).2.1, (t3 e he).2.2.1, List.mem_cons_of_mem _ (t3 e he).2.2.2⟩
        · intro i hi hok hr
          rcases List.mem_cons.1 hi with rfl | hi
          · exact ⟨dr + 1, by simp⟩
          · obtain ⟨d, hd⟩ := t4 i hi hok hr
            exact ⟨d, by simpa using hd⟩
      · obtain ⟨T, t1, t2, t3, t4⟩ := bfsI_spec to ok r dr q Q h
        refine ⟨T, ?_, t2, fun e he => ⟨(t3 e he).1, (t3 e he).2.1, (t3 e he).2.2.1, List.mem_cons_of_mem _ (t3 e he).2.2.2⟩, ?_⟩
        · rw [← t1, hs, if_neg h1, if_neg h2]
        · intro i hi hok hr
          rcases List.mem_cons.1 hi with rfl | hi
          · exact absurd hr h2
          · exact t4 i hi hok hr
/-- What holds of the rows. -/
structure BI (to : Nat → List Nat) (ok : Nat → Bool) (fr N n : Nat) (Q : List (Nat × Nat)) : Prop where
  nd : (Q.map (·.1)).Nodup
  lt : ∀ e ∈ Q, e.1 < N
  fst : (fr, 0) ∈ Q
  snd : ∀ e ∈ Q, Pth to ok fr e.2 e.1
  oks : ∀ e ∈ Q, e.1 = fr ∨ ok e.1 = true
  srt : Q.Pairwise (fun a b => a.2 ≤ b.2)
  bnd : ∀ e, Q[n]? = some e → ∀ e' ∈ Q, e'.2 ≤ e.2 + 1
  clo : ∀ j e, j < n → Q[j]? = some e → ∀ i, i < N → ok i = true → e.1 ∈ to i → ∃ d, d ≤ e.2 + 1 ∧ (i, d) ∈ Q
  len : n ≤ Q.length
theorem BI.qlen {to : Nat → List Nat} {ok : Nat → Bool} {fr N n : Nat} {Q : List (Nat × Nat)} (h : BI to ok fr N n Q) : Q.length ≤ N := by
  have := nodup_len N (Q.map (·.1)) h.nd (by
    intro x hx
    obtain ⟨e, he, rfl⟩ := List.mem_map.1 hx
    exact h.lt e he)
  simpa using this
theorem pw_le {Q : List (Nat × Nat)} (h : Q.Pairwise (fun a b => a.2 ≤ b.2)) {i j : Nat} {a b : Nat × Nat} (hi : Q[i]? = some a) (hj : Q[j]? = some b) (hij : i ≤ j) : a.2 ≤ b.2 := by
  obtain ⟨hi1, rfl⟩ := List.getElem?_eq_some_iff.1 hi
  obtain ⟨hj1, rfl⟩ := List.getElem?_eq_some_iff.1 hj
  rcases Nat.lt_or_eq_of_le hij with h2 | h2
  · exact List.pairwise_iff_getElem.1 h i j hi1 hj1 h2
  · subst h2; exact Nat.le_refl _
theorem BI.step {to : Nat → List Nat} {ok : Nat → Bool} {fr N n : Nat} {Q : List (Nat × Nat)} (h : BI to ok fr N n Q) {e : Nat × Nat} (he : Q[n]? = some e) :
    BI to ok fr N (n + 1) (bfsI to ok e.1 e.2 (List.range N) Q) := by
  obtain ⟨T, t1, t2, t3, t4⟩ := bfsI_spec to ok e.1 e.2 (List.range N) Q h.nd
  rw [t1]
  have heQ := List.mem_of_getElem? he
  have hnl := (List.getElem?_eq_some_iff.1 he).1
  have hQb := h.bnd e he
  have hall : ∀ e' ∈ Q ++ T, e'.2 ≤ e.2 + 1 := by
    intro e' he'
    rcases List.mem_append.1 he' with h1 | h1
    · exact hQb e' h1
    · rw [(t3 e' h1).1]; exact Nat.le_refl _
  have hsrt : (Q ++ T).Pairwise (fun a b => a.2 ≤ b.2) := by
    rw [List.pairwise_append]
    refine ⟨h.srt, ?_, ?_⟩
    · rw [List.pairwise_iff_getElem]
      intro i j hi hj _
      rw [(t3 _ (List.getElem_mem hi)).1, (t3 _ (List.getElem_mem hj)).1]; exact Nat.le_refl _
    · intro a ha b hb
      rw [(t3 b hb).1]; exact hQb a ha
  have hn' : (Q ++ T)[n]? = some e := by rw [List.getElem?_append_left hnl]; exact he
  refine ⟨t2, ?_, List.mem_append_left _ h.fst, ?_, ?_, hsrt, ?_, ?_, by simp; omega⟩
  · intro e' he'
    rcases List.mem_append.1 he' with h1 | h1
    · exact h.lt e' h1
    · simpa using (t3 e' h1).2.2.2
  · intro e' he'
    rcases List.mem_append.1 he' with h1 | h1
    · exact h.snd e' h1
    · obtain ⟨q1, q2, q3, _⟩ := t3 e' h1
      rw [q1]
      exact .succ _ _ _ q2 q3 (h.snd e heQ)
  · intro e' he'
    rcases List.mem_append.1 he' with h1 | h1
    · exact h.oks e' h1
    · exact .inr (t3 e' h1).2.1
  · intro e' he' e'' he''
    have h1 := pw_le hsrt hn' he' (Nat.le_succ n)
    have h2 := hall e'' he''
    omega
  · intro j e' hj he' i hi hok hto
    rcases Nat.lt_or_eq_of_le (Nat.le_of_lt_succ hj) with hj | hj
    · rw [List.getElem?_append_left (by omega)] at he'
      obtain ⟨d, d1, d2⟩ := h.clo j e' hj he' i hi hok hto
      exact ⟨d, d1, List.mem_append_left _ d2⟩
    · subst hj
      rw [hn'] at he'
      cases he'
      obtain ⟨d, hd⟩ := t4 i (by simpa using hi) hok hto
      exact ⟨d, hall _ hd, hd⟩
theorem bfs_BI {to : Nat → List Nat} {ok : Nat → Bool} {fr N : Nat} : ∀ (m n : Nat) (Q : List (Nat × Nat)), BI to ok fr N n Q → N - n < m → BI to ok fr N (bfs to ok N m n Q).length (bfs to ok N m n Q)
  | 0, _, _, _, h => absurd h (Nat.not_lt_zero _)
  | m + 1, n, Q, h, hm => by
    rw [bfs]
    cases he : Q[n]? with
    | none =>
      have hl : Q.length = n := Nat.le_antisymm (List.getElem?_eq_none_iff.1 he) h.len
      simp only
      rw [hl]; exact h
    | some e =>
      have hnl := (List.getElem?_eq_some_iff.1 he).1
      have := h.qlen
      exact bfs_BI m (n + 1) _ (h.step he) (by omega)
/-- All is reached, on the shortest way. -/
structure BD (to : Nat → List Nat) (ok : Nat → Bool) (fr N : Nat) (Q : List (Nat × Nat)) : Prop where
  nd : (Q.map (·.1)).Nodup
  lt : ∀ e ∈ Q, e.1 < N
  fst : (fr, 0) ∈ Q
  snd : ∀ e ∈ Q, Pth to ok fr e.2 e.1
  oks : ∀ e ∈ Q, e.1 = fr ∨ ok e.1 = true
  min : ∀ d i, Pth to ok fr d i → ∃ d', d' ≤ d ∧ (i, d') ∈ Q
theorem BI.done {to : Nat → List Nat} {ok : Nat → Bool} {fr N : Nat} {Q : List (Nat × Nat)} (hto : ∀ i k, k ∈ to i → i < N) (h : BI to ok fr N Q.length Q) : BD to ok fr N Q := by
  refine ⟨h.nd, h.lt, h.fst, h.snd, h.oks, ?_⟩
  intro d i hp
  induction hp with
  | zero => exact ⟨0, Nat.le_refl _, h.fst⟩
  | succ d i k hok hk _ ih =>
    obtain ⟨d', h1, h2⟩ := ih
    obtain ⟨j, hj⟩ := List.getElem?_of_mem h2
    obtain ⟨d2, h3, h4⟩ := h.clo j _ (List.getElem?_eq_some_iff.1 hj).1 hj i (hto i k hk) hok hk
    exact ⟨d2, by simp only at h3; omega, h4⟩
theorem BI.start {to : Nat → List Nat} {ok : Nat → Bool} {fr N : Nat} (h : fr < N) : BI to ok fr N 0 [(fr, 0)] :=
  ⟨by simp, by simpa using h, by simp, by intro e he; simp at he; subst he; exact .zero, by intro e he; simp at he; subst he; exact .inl rfl, by simp, by intro e he e' he'; simp at he'; subst he'; omega, by intro j e hj; omega, by simp⟩
theorem BD.far {to : Nat → List Nat} {ok : Nat → Bool} {fr N : Nat} {Q : List (Nat × Nat)} (h : BD to ok fr N Q) {x d : Nat} : farQ Q x = some d ↔ (x, d) ∈ Q := ⟨farQ_mem, farQ_of h.nd⟩
/-- The nearest of a list, the first of these. -/
def bst (Q : List (Nat × Nat)) (fr : Nat) : List Nat → Option Nat → Option Nat
  | [], b => b
  | k :: r, b => if k = fr then some k else match farQ Q k with
    | none => bst Q fr r b
    | some d => match b with
      | none => bst Q fr r (some k)
      | some b0 => if d < (farQ Q b0).getD 0 then bst Q fr r (some k) else bst Q fr r b
def Near (Q : List (Nat × Nat)) (ks : List Nat) (b d : Nat) : Prop := farQ Q b = some d ∧ ∃ A B, ks = A ++ b :: B ∧ (∀ k ∈ A, ∀ dk, farQ Q k = some dk → d < dk) ∧ ∀ k ∈ B, ∀ dk, farQ Q k = some dk → d ≤ dk
theorem bst_some {Q : List (Nat × Nat)} {fr : Nat} (h0 : ∀ x d, farQ Q x = some d → (x = fr ↔ d = 0)) : ∀ (ks : List Nat) (b0 d0 : Nat), farQ Q b0 = some d0 → (fr ∈ ks → farQ Q fr = some 0) → b0 ≠ fr →
    (bst Q fr ks (some b0) = some b0 ∧ ∀ k ∈ ks, ∀ dk, farQ Q k = some dk → d0 ≤ dk) ∨ ∃ b d, bst Q fr ks (some b0) = some b ∧ d < d0 ∧ Near Q ks b d
  | [], b0, d0, hb, _, _ => .inl ⟨rfl, by simp⟩
  | k :: r, b0, d0, hb, hf, hne => by
    have hd0 : 0 < d0 := by
      rcases Nat.eq_zero_or_pos d0 with h | h
      · exact absurd ((h0 b0 d0 hb).2 h) hne
      · exact h
    rw [bst]
    by_cases hk : k = fr
    · rw [if_pos hk]
      right
      refine ⟨k, 0, rfl, hd0, ?_, [], r, rfl, by simp, fun _ _ _ _ => Nat.zero_le _⟩
      rw [hk]; exact hf (by simp [hk])
    · rw [if_neg hk]
      have hf' : fr ∈ r → farQ Q fr = some 0 := fun h => hf (by simp [h])
      cases hfk : farQ Q k with
      | none =>
        rcases bst_some h0 r b0 d0 hb hf' hne with ⟨h1, h2⟩ | ⟨b, d, h1, h2, h3, A, B, h4, h5, h6⟩
        · left
          refine ⟨h1, ?_⟩
          intro x hx dx hdx
          rcases List.mem_cons.1 hx with rfl | hx
          · rw [hfk] at hdx; cases hdx
          · exact h2 x hx dx hdx
        · right
          refine ⟨b, d, h1, h2, h3, k :: A, B, by rw [h4]; rfl, ?_, h6⟩
          intro x hx dx hdx
          rcases List.mem_cons.1 hx with rfl | hx
          · rw [hfk] at hdx; cases hdx
          · exact h5 x hx dx hdx
      | some dk =>
        simp only [hb, Option.getD_some]
        by_cases hlt : dk < d0
        · rw [if_pos hlt]
          right
          rcases bst_some h0 r k dk hfk hf' hk with ⟨h1, h2⟩ | ⟨b, d, h1, h2, h3, A, B, h4, h5, h6⟩
          · exact ⟨k, dk, h1, hlt, hfk, [], r, rfl, by simp, h2⟩
          · refine ⟨b, d, h1, by omega, h3, k :: A, B, by rw [h4]; rfl, ?_, h6⟩
            intro x hx dx hdx
            rcases List.mem_cons.1 hx with rfl | hx
            · rw [hfk] at hdx; cases hdx; exact h2
            · exact h5 x hx dx hdx
        · rw [if_neg hlt]
          rcases bst_some h0 r b0 d0 hb hf' hne with ⟨h1, h2⟩ | ⟨b, d, h1, h2, h3, A, B, h4, h5, h6⟩
          · left
            refine ⟨h1, ?_⟩
            intro x hx dx hdx
            rcases List.mem_cons.1 hx with rfl | hx
            · rw [hfk] at hdx; cases hdx; omega
            · exact h2 x hx dx hdx
          · right
            refine ⟨b, d, h1, h2, h3, k :: A, B, by rw [h4]; rfl, ?_, h6⟩
            intro x hx dx hdx
            rcases List.mem_cons.1 hx with rfl | hx
            · rw [hfk] at hdx; cases hdx; omega
            · exact h5 x hx dx hdx
theorem bst_none {Q : List (Nat × Nat)} {fr : Nat} (h0 : ∀ x d, farQ Q x = some d → (x = fr ↔ d = 0)) : ∀ (ks : List Nat), (fr ∈ ks → farQ Q fr = some 0) →
    (bst Q fr ks none = none ∧ ∀ k ∈ ks, farQ Q k = none) ∨ ∃ b d, bst Q fr ks none = some b ∧ Near Q ks b d
  | [], _ => .inl ⟨rfl, by simp⟩
  | k :: r, hf => by
    rw [bst]
    have hf' : fr ∈ r → farQ Q fr = some 0 := fun h => hf (by simp [h])
    by_cases hk : k = fr
    · rw [if_pos hk]
      right
      refine ⟨k, 0, rfl, ?_, [], r, rfl, by simp, fun _ _ _ _ => Nat.zero_le _⟩
      rw [hk]; exact hf (by simp [hk])
    · rw [if_neg hk]
      cases hfk : farQ Q k with
      | none =>
        rcases bst_none h0 r hf' with ⟨h1, h2⟩ | ⟨b, d, h1, h3, A, B, h4, h5, h6⟩
        · left
          refine ⟨h1, ?_⟩
          intro x hx
          rcases List.mem_cons.1 hx with rfl | hx
          · exact hfk
          · exact h2 x hx
        · right
          refine ⟨b, d, h1, h3, k :: A, B, by rw [h4]; rfl, ?_, h6⟩
          intro x hx dx hdx
          rcases List.mem_cons.1 hx with rfl | hx
          · rw [hfk] at hdx; cases hdx
          · exact h5 x hx dx hdx
      | some dk =>
        right
        simp only
        rcases bst_some h0 r k dk hfk hf' hk with ⟨h1, h2⟩ | ⟨b, d, h1, h2, h3, A, B, h4, h5, h6⟩
        · exact ⟨k, dk, h1, hfk, [], r, rfl, by simp, h2⟩
        · refine ⟨b, d, h1, h3, k :: A, B, by rw [h4]; rfl, ?_, h6⟩
          intro x hx dx hdx
          rcases List.mem_cons.1 hx with rfl | hx
          · rw [hfk] at hdx; cases hdx; exact h2
          · exact h5 x hx dx hdx
theorem Near.mem {Q : List (Nat × Nat)} {ks : List Nat} {b d : Nat} (h : Near Q ks b d) : b ∈ ks := by
  obtain ⟨_, A, B, h1, _⟩ := h
  rw [h1]; simp
theorem Near.min {Q : List (Nat × Nat)} {ks : List Nat} {b d : Nat} (h : Near Q ks b d) {k dk : Nat} (hk : k ∈ ks) (hf : farQ Q k = some dk) : d ≤ dk := by
  obtain ⟨h0, A, B, h1, h2, h3⟩ := h
  rw [h1] at hk
  rcases List.mem_append.1 hk with hk | hk
  · exact Nat.le_of_lt (h2 k hk dk hf)
  · rcases List.mem_cons.1 hk with rfl | hk
    · rw [h0] at hf; cases hf; exact Nat.le_refl _
    · exact h3 k hk dk hf
end Go.Am
namespace Go.Am
set_option linter.unusedVariables false
set_option linter.unusedSimpArgs false
def okF (l : List Df) (fr i : Nat) : Bool := !blt (nmD1 l i) (nmD1 l fr)
theorem to_mem_lk {l : List Df} {i k : Nat} (h : k ∈ to l i) : ∃ t, k ∈ lk l t := by
  unfold to at h
  split at h
  · rename_i d _; exact ⟨d.e, h⟩
  · cases h
theorem to_inj {l : List Df} {a b i j : Nat} (hi : i ∈ to l a) (hj : j ∈ to l b) (h : nmD1 l i = nmD1 l j) : i = j := by
  obtain ⟨t, ht⟩ := to_mem_lk hi
  obtain ⟨u, hu⟩ := to_mem_lk hj
  exact lk_inj ht hu h
theorem to_dom {l : List Df} {i k : Nat} (h : k ∈ to l i) : i < l.length := by
  unfold to at h
  split at h
  · rename_i d hd; exact (List.getElem?_eq_some_iff.1 hd).1
  · cases h
theorem pth_end {tof : Nat → List Nat} {ok : Nat → Bool} {fr d i : Nat} (h : Pth tof ok fr d i) : d = 0 ∧ i = fr ∨ ∃ j, fr ∈ tof j := by
  induction h with
  | zero => exact .inl ⟨rfl, rfl⟩
  | succ d i k _ hk _ ih =>
    right
    rcases ih with ⟨_, rfl⟩ | h
    · exact ⟨i, hk⟩
    · exact h
theorem lastN_snoc (w : List Nat) (k : Nat) : lastN (w ++ [k]) = k := by simp [lastN]
theorem wayF_pth {l : List Df} {w0 : Nat} : ∀ (m : Nat) (w w' : List Nat), wayF l w0 m w = some w' → okF l w0 (lastN w) = true → Pth (to l) (okF l w0) w0 (m + 1) (lastN w)
  | 0, w, w', h, ho => by
    rw [wayF] at h
    obtain ⟨k, hk, h2⟩ := List.exists_of_findSome?_eq_some h
    split at h2
    · rename_i he; subst he
      exact .succ _ _ _ ho hk .zero
    · cases h2
  | m + 1, w, w', h, ho => by
    rw [wayF] at h
    obtain ⟨k, hk, h2⟩ := List.exists_of_findSome?_eq_some h
    split at h2
    · cases h2
    · rename_i hc
      have hc' : (decide (k ∈ w) || leqN l k w0) = false := by simpa using hc
      rw [Bool.or_eq_false_iff, leqN, Bool.or_eq_false_iff] at hc'
      have hok : okF l w0 k = true := by simp [okF, hc'.2.1]
      have := wayF_pth m (w ++ [k]) w' h2 (by rw [lastN_snoc]; exact hok)
      rw [lastN_snoc] at this
      exact .succ _ _ _ ho hk this
/-- The walk along the nearest. -/
def wkF (l : List Df) (Q : List (Nat × Nat)) (fr : Nat) : Nat → Nat → List Nat → Option (List Nat)
  | 0, _, _ => none
  | n + 1, at_, out => match bst Q fr (to l at_) none with
    | none => none
    | some b => if b = fr then some out else wkF l Q fr n b (out ++ [b])
theorem BD.zero {tof : Nat → List Nat} {ok : Nat → Bool} {fr N : Nat} {Q : List (Nat × Nat)} (h : BD tof ok fr N Q) (x d : Nat) (hf : farQ Q x = some d) : x = fr ↔ d = 0 := by
  constructor
  · rintro rfl
    have := h.far.2 h.fst
    rw [this] at hf; cases hf; rfl
  · rintro rfl
    have := h.snd _ (farQ_mem hf)
    cases this; rfl
theorem walk_way {l : List Df} {fr N : Nat} {Q : List (Nat × Nat)} (hQ : BD (to l) (okF l fr) fr N Q) : ∀ (m n at_ : Nat) (out : List Nat) (b : Nat), m < n → lastN out = at_ → bst Q fr (to l at_) none = some b → Near Q (to l at_) b m →
    (∀ x ∈ out, x = fr ∨ ∀ dx, farQ Q x = some dx → m + 1 ≤ dx) → ∃ w, wkF l Q fr n at_ out = some w ∧ wayF l fr m out = some w
  | _, 0, _, _, _, h, _, _, _, _ => absurd h (Nat.not_lt_zero _)
  | 0, n + 1, at_, out, b, _, hl, hb, hN, _ => by
    have hbf := (hQ.zero b 0 hN.1).2 rfl
    subst hbf
    refine ⟨out, by simp only [wkF, hb, if_true], ?_⟩
    rw [wayF, hl]
    obtain ⟨A, B, h1, h2, h3⟩ := hN.2
    rw [h1, List.findSome?_append]
    cases hA : A.findSome? (fun k => if k = b then some out else none) with
    | none => simp
    | some w =>
      obtain ⟨k, hk, h4⟩ := List.exists_of_findSome?_eq_some hA
      split at h4
      · cases h4; rfl
      · cases h4
  | m + 1, n + 1, at_, out, b, hmn, hl, hb, hN, hout => by
    have hbne : b ≠ fr := fun h => by have := (hQ.zero b _ hN.1).1 h; omega
    have hbQ := farQ_mem hN.1
    have hPb := hQ.snd _ hbQ
    have hokb : okF l fr b = true := by
      rcases hQ.oks _ hbQ with h | h
      · exact absurd h hbne
      · exact h
    obtain ⟨j, hj⟩ : ∃ j, fr ∈ to l j := by
      rcases pth_end hPb with ⟨h, _⟩ | h
      · exact absurd h (by omega)
      · exact h
    have hnmne : nmD1 l b ≠ nmD1 l fr := fun h => hbne (to_inj hN.mem hj h)
    -- the next one
    have hnext : ∃ b', bst Q fr (to l b) none = some b' ∧ Near Q (to l b) b' m := by
      simp only at hPb
      cases hPb with
      | succ _ _ k h1 h2 h3 =>
        obtain ⟨d', g1, g2⟩ := hQ.min m k h3
        rcases bst_none hQ.zero (to l b) (fun _ => hQ.far.2 hQ.fst) with ⟨_, q2⟩ | ⟨b', d, q1, q2⟩
        · have := q2 k h2
          rw [hQ.far.2 g2] at this; cases this
        · refine ⟨b', q1, ?_⟩
          have hd1 := q2.min h2 (hQ.far.2 g2)
          have hd2 := hQ.snd _ (farQ_mem q2.1)
          obtain ⟨d3, e1, e2⟩ := hQ.min _ _ (.succ _ _ _ h1 q2.mem hd2)
          have := hQ.far.2 e2
          rw [hN.1] at this
          cases this
          have hdm : d = m := by simp only at e1; omega
          subst hdm
          exact q2
    obtain ⟨b', hb1, hb2⟩ := hnext
    obtain ⟨w, hw1, hw2⟩ := walk_way hQ m n b (out ++ [b]) b' (by omega) (lastN_snoc out b) hb1 hb2 (by
      intro x hx
      rcases List.mem_append.1 hx with hx | hx
      · rcases hout x hx with h | h
        · exact .inl h
        · exact .inr fun dx hdx => by have := h dx hdx; omega
      · simp at hx; subst hx
        exact .inr fun dx hdx => by rw [hN.1] at hdx; cases hdx; omega)
    refine ⟨w, by simp only [wkF, hb, if_neg hbne, hw1], ?_⟩
    rw [wayF, hl]
    obtain ⟨A, B, h1, h2, h3⟩ := hN.2
    rw [h1, List.findSome?_append, List.findSome?_cons]
    have hbo : b ∉ out := by
      intro h
      rcases hout b h with h | h
      · exact hbne h
      · have := h _ hN.1; omega
    have hleq : leqN l b fr = false := by
      rw [leqN, Bool.or_eq_false_iff]
      refine ⟨by simpa [okF] using hokb, by simpa using hnmne⟩
    have hc : (decide (b ∈ out) || leqN l b fr) = false := by simp [hbo, hleq]
    have hA : A.findSome? (fun k => if (decide (k ∈ out) || leqN l k fr) = true then none else wayF l fr m (out ++ [k])) = none := by
      rw [List.findSome?_eq_none_iff]
      intro k hk
      split
      · rfl
      · rename_i hck
        have hck' : (decide (k ∈ out) || leqN l k fr) = false := by simpa using hck
        rw [Bool.or_eq_false_iff, leqN, Bool.or_eq_false_iff] at hck'
        cases hwk : wayF l fr m (out ++ [k]) with
        | none => rfl
        | some w2 =>
          have hp := wayF_pth m _ w2 hwk (by rw [lastN_snoc]; simp [okF, hck'.2.1])
          rw [lastN_snoc] at hp
          obtain ⟨d', g1, g2⟩ := hQ.min _ _ hp
          have := h2 k hk d' (hQ.far.2 g2)
          omega
    rw [hA, Option.none_or, if_neg (by simp [hc]), hw2]
/-- One place: its least shortest ring, or none at all. -/
def bfsQ (l : List Df) (fr : Nat) : List (Nat × Nat) := bfs (to l) (okF l fr) l.length (l.length + 1) 0 [(fr, 0)]
theorem bfsQ_BD {l : List Df} {fr : Nat} (h : fr < l.length) : BD (to l) (okF l fr) fr l.length (bfsQ l fr) :=
  (bfs_BI (l.length + 1) 0 _ (BI.start h) (by omega)).done fun i k hk => to_dom hk
def rgF (l : List Df) (fr : Nat) : Option (List Nat) := wkF l (bfsQ l fr) fr (l.length + 1) fr [fr]
theorem wayF_pre {l : List Df} {w0 : Nat} : ∀ (m : Nat) (w w' : List Nat), wayF l w0 m w = some w' → ∃ r, w' = w ++ r ∧ r.length = m
  | 0, w, w', h => by
    rw [wayF] at h
    obtain ⟨k, hk, h2⟩ := List.exists_of_findSome?_eq_some h
    split at h2
    · cases h2; exact ⟨[], by simp⟩
    · cases h2
  | m + 1, w, w', h => by
    rw [wayF] at h
    obtain ⟨k, hk, h2⟩ := List.exists_of_findSome?_eq_some h
    split at h2
    · cases h2
    · obtain ⟨r, h3, h4⟩ := wayF_pre m _ w' h2
      exact ⟨k :: r, by rw [h3]; simp, by simp [h4]⟩
theorem okF_self (l : List Df) (fr : Nat) : okF l fr fr = true := by simp [okF, blt_irrefl]
theorem rgF_spec {l : List Df} {fr : Nat} (h : fr < l.length) : (rgF l fr = none ∧ (∀ m, wayF l fr m [fr] = none) ∧ ∀ k ∈ to l fr, ∀ d, ¬ Pth (to l) (okF l fr) fr d k) ∨
    ∃ m w, rgF l fr = some w ∧ wayF l fr m [fr] = some w ∧ w.length = m + 1 ∧ m < l.length ∧ ∀ m', m' < m → wayF l fr m' [fr] = none := by
  have hQ := bfsQ_BD h
  rcases bst_none hQ.zero (to l fr) (fun _ => hQ.far.2 hQ.fst) with ⟨q1, q2⟩ | ⟨b, d, q1, q2⟩
  · left
    have hno : ∀ k ∈ to l fr, ∀ d, ¬ Pth (to l) (okF l fr) fr d k := by
      intro k hk d hp
      obtain ⟨d', g1, g2⟩ := hQ.min _ _ hp
      have := q2 k hk
      rw [hQ.far.2 g2] at this; cases this
    refine ⟨by simp only [rgF, wkF, q1], ?_, hno⟩
    intro m
    cases hw : wayF l fr m [fr] with
    | none => rfl
    | some w =>
      have hp := wayF_pth m [fr] w hw (okF_self l fr)
      have e : lastN [fr] = fr := rfl
      rw [e] at hp
      cases hp with
      | succ _ _ k _ hk h' => exact absurd h' (hno k hk _)
  · right
    have hdl : d < l.length := by
      -- the row of the nearest: its ways are told apart
      have key : ∀ (d i : Nat), Pth (to l) (okF l fr) fr d i → ∀ d', d' < d → ∃ x, farQ (bfsQ l fr) x = some d' ∨ ∃ d2, d2 < d ∧ farQ (bfsQ l fr) i = some d2 := by
        intro d i hp
        induction hp with
        | zero => intro d' h; omega
        | succ d i k hok hk hp ih =>
          intro d' hd'
          obtain ⟨d3, g1, g2⟩ := hQ.min _ _ (.succ _ _ _ hok hk hp)
          rcases Nat.lt_or_eq_of_le g1 with g1 | g1
          · exact ⟨0, .inr ⟨d3, g1, hQ.far.2 g2⟩⟩
          · rcases Nat.lt_or_eq_of_le (Nat.le_of_lt_succ hd') with h1 | h1
            · obtain ⟨x, hx | ⟨d2, h2, h3⟩⟩ := ih d' h1
              · exact ⟨x, .inl hx⟩
              · exfalso
                obtain ⟨d4, e1, e2⟩ := hQ.min _ _ (.succ _ _ _ hok hk (hQ.snd _ (farQ_mem h3)))
                have h5 := hQ.far.2 g2
                rw [hQ.far.2 e2] at h5
                cases h5
                simp only at e1
                omega
            · obtain ⟨d4, e1, e2⟩ := hQ.min _ _ hp
              rcases Nat.lt_or_eq_of_le e1 with e3 | e3
              · exfalso
                obtain ⟨d5, f1, f2⟩ := hQ.min _ _ (.succ _ _ _ hok hk (hQ.snd _ e2))
                have h5 := hQ.far.2 g2
                rw [hQ.far.2 f2] at h5
                cases h5
                simp only at f1
                omega
              · subst h1; subst e3
                exact ⟨k, .inl (hQ.far.2 e2)⟩
      have hall : ∀ d', d' ≤ d → ∃ x, farQ (bfsQ l fr) x = some d' := by
        intro d' hd'
        rcases Nat.lt_or_eq_of_le hd' with h1 | h1
        · obtain ⟨x, hx | ⟨d2, h2, h3⟩⟩ := key d b (hQ.snd _ (farQ_mem q2.1)) d' h1
          · exact ⟨x, hx⟩
          · rw [q2.1] at h3; cases h3; omega
        · subst h1; exact ⟨b, q2.1⟩
      have hsub : ∀ x ∈ List.range (d + 1), x ∈ (bfsQ l fr).map (·.2) := by
        intro x hx
        have hx : x < d + 1 := by simpa using hx
        obtain ⟨y, hy⟩ := hall x (by omega)
        exact List.mem_map.2 ⟨_, farQ_mem hy, rfl⟩
      have h1 := sub_len (A := List.range (d + 1)) List.nodup_range hsub
      have h2 := nodup_len l.length ((bfsQ l fr).map (·.1)) hQ.nd (by
        intro x hx
        obtain ⟨e, he, rfl⟩ := List.mem_map.1 hx
        exact hQ.lt e he)
      simp at h1 h2
      omega
    obtain ⟨w, w1, w2⟩ := walk_way hQ d (l.length + 1) fr [fr] b (by omega) rfl q1 q2 (by simp)
    obtain ⟨r, r1, r2⟩ := wayF_pre _ _ _ w2
    refine ⟨d, w, w1, w2, by rw [r1]; simp [r2], hdl, ?_⟩
    intro m' hm'
    cases hw : wayF l fr m' [fr] with
    | none => rfl
    | some w =>
      have hp := wayF_pth m' [fr] w hw (okF_self l fr)
      have e : lastN [fr] = fr := rfl
      rw [e] at hp
      cases hp with
      | succ _ _ k _ hk h' =>
        obtain ⟨d', g1, g2⟩ := hQ.min _ _ h'
        have := q2.min hk (hQ.far.2 g2)
        omega
end Go.Am
namespace Go.Am
set_option linter.unusedVariables false
set_option linter.unusedSimpArgs false
/-! ### Which ring is taken -/
theorem pth_rch {tof : Nat → List Nat} {ok : Nat → Bool} {fr d i : Nat} (h : Pth tof ok fr d i) : RchN tof i fr := by
  induction h with
  | zero => exact .refl _
  | succ d i k _ hk _ ih => exact .step _ k _ hk ih
theorem rgF_way {l : List Df} {fr : Nat} (h : fr < l.length) {w : List Nat} (hw : rgF l fr = some w) : ∃ m, wayF l fr m [fr] = some w ∧ w.length = m + 1 ∧ m < l.length ∧ ∀ m', m' < m → wayF l fr m' [fr] = none := by
  rcases rgF_spec h with ⟨h1, _⟩ | ⟨m, w', h1, h2, h3, h4, h5⟩
  · rw [h1] at hw; cases hw
  · rw [h1] at hw; cases hw; exact ⟨m, h2, h3, h4, h5⟩
theorem way_pth {l : List Df} {fr m : Nat} {w : List Nat} (h : wayF l fr m [fr] = some w) : Pth (to l) (okF l fr) fr (m + 1) fr := by
  have := wayF_pth m [fr] w h (okF_self l fr)
  exact this
theorem rgF_ring {l : List Df} {fr : Nat} (h : fr < l.length) {w : List Nat} (hw : rgF l fr = some w) : ringB l fr = true := by
  obtain ⟨m, h1, _⟩ := rgF_way h hw
  have hp := way_pth h1
  cases hp with
  | succ _ _ k _ hk h' => exact (ringB_iff l fr).2 ⟨k, hk, pth_rch h'⟩
theorem rgF_cons {l : List Df} {fr : Nat} (h : fr < l.length) {w : List Nat} (hw : rgF l fr = some w) : ∃ r, w = fr :: r := by
  obtain ⟨m, h1, _⟩ := rgF_way h hw
  obtain ⟨r, h2, _⟩ := wayF_pre _ _ _ h1
  exact ⟨r, h2⟩
theorem rgF_link {l : List Df} {fr : Nat} (h : fr < l.length) {w : List Nat} (hw : rgF l fr = some w) : ∃ j, fr ∈ to l j := by
  obtain ⟨m, h1, _⟩ := rgF_way h hw
  rcases pth_end (way_pth h1) with ⟨h2, _⟩ | h2
  · omega
  · exact h2
theorem lexW_self (l : List Df) : ∀ w : List Nat, lexW l (w.zip w) = none
  | [] => rfl
  | a :: r => by rw [List.zip_cons_cons, lexW, if_pos rfl, lexW_self l r]
theorem less_iff {l : List Df} {i j : Nat} (hi : i < l.length) (hj : j < l.length) {r w : List Nat} (hr : rgF l i = some r) (hw : rgF l j = some w) : lessB l r w = true ↔ r.length < w.length ∨ (r.length = w.length ∧ blt (nmD1 l i) (nmD1 l j) = true) := by
  unfold lessB
  by_cases he : r.length = w.length
  · rw [if_pos he]
    obtain ⟨a, ha⟩ := rgF_cons hi hr
    obtain ⟨b, hb⟩ := rgF_cons hj hw
    obtain ⟨x, hx⟩ := rgF_link hi hr
    obtain ⟨y, hy⟩ := rgF_link hj hw
    by_cases hn : nmD1 l i = nmD1 l j
    · have hij := to_inj hx hy hn
      subst hij
      rw [hr] at hw; cases hw
      rw [lexW_self]
      simp [blt_irrefl]
    · subst ha; subst hb
      rw [List.zip_cons_cons, lexW, if_neg hn]
      simp only [Option.getD_some]
      constructor
      · intro h; exact .inr ⟨he, h⟩
      · rintro (h | ⟨_, h⟩)
        · omega
        · exact h
  · rw [if_neg he]
    simp only [decide_eq_true_eq]
    omega
/-- The better one, the first of these. -/
def bestS (l : List Df) (b : Option (List Nat)) (i : Nat) : Option (List Nat) :=
  if ringB l i then (match rgF l i with
    | none => b
    | some r => match b with
      | none => some r
      | some w => if lessB l r w then some r else some w) else b
def BestI (l : List Df) (S : List Nat) (b : Option (List Nat)) : Prop := match b with
  | none => ∀ i ∈ S, rgF l i = none
  | some w => ∃ i ∈ S, rgF l i = some w ∧ ∀ j ∈ S, ∀ w', rgF l j = some w' → w.length < w'.length ∨ (w.length = w'.length ∧ (i = j ∨ blt (nmD1 l i) (nmD1 l j) = true))
theorem BestI.keep {l : List Df} {S : List Nat} {b : Option (List Nat)} {i : Nat} (h : BestI l S b) (hn : rgF l i = none) : BestI l (S ++ [i]) b := by
  cases b with
  | none =>
    intro j hj
    rcases List.mem_append.1 hj with hj | hj
    · exact h j hj
    · simp at hj; subst hj; exact hn
  | some w =>
    obtain ⟨k, hk, h1, h2⟩ := h
    refine ⟨k, List.mem_append_left _ hk, h1, ?_⟩
    intro j hj w' hw'
    rcases List.mem_append.1 hj with hj | hj
    · exact h2 j hj w' hw'
    · simp at hj; subst hj; rw [hn] at hw'; cases hw'
theorem BestI.step {l : List Df} {S : List Nat} {b : Option (List Nat)} {i : Nat} (h : BestI l S b) (hS : ∀ j ∈ S, j < l.length) (hi : i < l.length) : BestI l (S ++ [i]) (bestS l b i) := by
  unfold bestS
  by_cases hr : ringB l i = true
  · rw [if_pos hr]
    cases hw : rgF l i with
    | none => exact h.keep hw
    | some r =>
      cases b with
      | none =>
        refine ⟨i, by simp, hw, ?_⟩
        intro j hj w' hw'
        rcases List.mem_append.1 hj with hj | hj
        · rw [h j hj] at hw'; cases hw'
        · simp at hj; subst hj; rw [hw] at hw'; cases hw'; exact .inr ⟨rfl, .inl rfl⟩
      | some w =>
        obtain ⟨k, hk, h1, h2⟩ := h
        have hl := less_iff hi (hS k hk) hw h1
        simp only
        by_cases hlt : lessB l r w = true
        · rw [if_pos hlt]
          refine ⟨i, by simp, hw, ?_⟩
          intro j hj w' hw'
          rcases List.mem_append.1 hj with hj | hj
          · rcases hl.1 hlt with h3 | ⟨h3, h4⟩ <;> rcases h2 j hj w' hw' with h5 | ⟨h5, h6⟩
            · exact .inl (by omega)
            · exact .inl (by omega)
            · exact .inl (by omega)
            · refine .inr ⟨by omega, .inr ?_⟩
              rcases h6 with rfl | h6
              · exact h4
              · exact blt_trans h4 h6
          · simp at hj; subst hj; rw [hw] at hw'; cases hw'; exact .inr ⟨rfl, .inl rfl⟩
        · rw [if_neg hlt]
          refine ⟨k, List.mem_append_left _ hk, h1, ?_⟩
          intro j hj w' hw'
          rcases List.mem_append.1 hj with hj | hj
          · exact h2 j hj w' hw'
          · simp at hj; subst hj; rw [hw] at hw'; cases hw'
            rcases Nat.lt_trichotomy w.length r.length with h3 | h3 | h3
            · exact .inl h3
            · refine .inr ⟨h3, ?_⟩
              obtain ⟨x, hx⟩ := rgF_link hi hw
              obtain ⟨y, hy⟩ := rgF_link (hS k hk) h1
              rcases blt_tri (nmD1 l k) (nmD1 l j) with h4 | h4 | h4
              · exact .inr h4
              · exact .inl (to_inj hy hx h4)
              · exact absurd (hl.2 (.inr ⟨h3.symm, h4⟩)) hlt
            · exact absurd (hl.2 (.inl h3)) hlt
  · rw [if_neg hr]
    refine h.keep ?_
    cases hw : rgF l i with
    | none => rfl
    | some w => exact absurd (rgF_ring hi hw) hr
/-- The ring that the program finds. -/
def rngP (l : List Df) : Option (List Nat) := (List.range l.length).foldl (bestS l) none
theorem foldl_BestI {l : List Df} : ∀ (q S : List Nat) (b : Option (List Nat)), BestI l S b → (∀ j ∈ S, j < l.length) → (∀ j ∈ q, j < l.length) → BestI l (S ++ q) (q.foldl (bestS l) b)
  | [], S, b, h, _, _ => by simpa using h
  | i :: q, S, b, h, hS, hq => by
    have := foldl_BestI q (S ++ [i]) _ (h.step hS (hq i (by simp))) (by
      intro j hj
      rcases List.mem_append.1 hj with hj | hj
      · exact hS j hj
      · simp at hj; subst hj; exact hq j (by simp)) (fun j hj => hq j (by simp [hj]))
    rw [List.foldl_cons]
    simpa using this
theorem rngP_best (l : List Df) : BestI l (List.range l.length) (rngP l) := by
  have := foldl_BestI (l := l) (List.range l.length) [] none (by intro i hi; cases hi) (by intro j hj; cases hj) (by intro j hj; simpa using hj)
  rw [List.nil_append] at this
  exact this
theorem range_fst {α : Type} (f : Nat → Option α) (m : Nat) (b : α) (hm : f m = some b) (hk : ∀ k, k < m → f k = none) : ∀ N, m < N → (List.range N).findSome? f = some b
  | 0, h => absurd h (Nat.not_lt_zero _)
  | N + 1, h => by
    rw [List.range_succ, List.findSome?_append]
    rcases Nat.lt_or_eq_of_le (Nat.le_of_lt_succ h) with h1 | h1
    · rw [range_fst f m b hm hk N h1]; rfl
    · subst h1
      have : (List.range m).findSome? f = none := by
        rw [List.findSome?_eq_none_iff]
        intro x hx
        exact hk x (by simpa using hx)
      rw [this]
      simp [hm]
theorem srt_split {q : List ByteArray} (hs : Srt q) {x : ByteArray} (hx : x ∈ q) : ∃ A B, q = A ++ x :: B ∧ ∀ y ∈ A, blt y x = true := by
  induction q with
  | nil => cases hx
  | cons a r ih =>
    rcases List.mem_cons.1 hx with rfl | hx'
    · exact ⟨[], r, rfl, by simp⟩
    · obtain ⟨A, B, h1, h2⟩ := ih hs.2 hx'
      refine ⟨a :: A, B, by rw [h1]; rfl, ?_⟩
      intro y hy
      rcases List.mem_cons.1 hy with rfl | hy
      · exact hs.1 x hx'
      · exact h2 y hy
theorem nmsR_of {l : List Df} {i : Nat} {d : Df} (h : l[i]? = some d) : d.name ∈ nmsR l := by
  have keep : ∀ (r : List Df) (s : List ByteArray) (x : ByteArray), x ∈ s → x ∈ r.foldl (fun s d => insS d.name s) s := by
    intro r
    induction r with
    | nil => intro s x h; exact h
    | cons a r ih => intro s x h; exact ih _ x (insS_iff.2 (.inr h))
  have key : ∀ (r : List Df) (s : List ByteArray), d ∈ r → d.name ∈ r.foldl (fun s d => insS d.name s) s := by
    intro r
    induction r with
    | nil => intro s h; cases h
    | cons a r ih =>
      intro s h
      rcases List.mem_cons.1 h with rfl | h
      · exact keep r _ _ (insS_iff.2 (.inl rfl))
      · exact ih _ h
  exact key l [] (List.mem_of_getElem? h)
theorem to_idx {l : List Df} {i j : Nat} (h : i ∈ to l j) : idxD l (nmD1 l i) = some i := by
  obtain ⟨t, ht⟩ := to_mem_lk h
  obtain ⟨x, _, hx⟩ := lk_mem.1 ht
  obtain ⟨d, h1, h2, _⟩ := idxD_lt hx
  rw [nmD1_some h1, h2]; exact hx
/-- Both find the same ring. -/
theorem rng_both (l : List Df) : rngR l = rngP l := by
  have hb := rngP_best l
  cases hp : rngP l with
  | none =>
    rw [hp] at hb
    unfold rngR
    rw [List.findSome?_eq_none_iff]
    intro m hm
    unfold firW
    rw [List.findSome?_eq_none_iff]
    intro x hx
    obtain ⟨i, hi⟩ := nmsR_mem hx
    obtain ⟨_, _, _, hil⟩ := idxD_lt hi
    rw [hi, Option.bind_some]
    rcases rgF_spec hil with ⟨_, h2, _⟩ | ⟨m', w, h1, _⟩
    · exact h2 m
    · rw [hb i (by simpa using hil)] at h1; cases h1
  | some w =>
    rw [hp] at hb
    obtain ⟨i, hi, hw, hmin⟩ := hb
    have hil : i < l.length := by simpa using hi
    obtain ⟨m, hm1, hm2, hm3, hm4⟩ := rgF_way hil hw
    have hno : ∀ (j m' : Nat), j < l.length → m' < m → wayF l j m' [j] = none := by
      intro j m' hj hm'
      rcases rgF_spec hj with ⟨_, h2, _⟩ | ⟨mj, wj, h1, _, h3, _, h5⟩
      · exact h2 m'
      · have := hmin j (by simpa using hj) wj h1
        exact h5 m' (by omega)
    refine range_fst _ m w ?_ ?_ _ hm3
    · obtain ⟨j, hj⟩ := rgF_link hil hw
      have hix := to_idx hj
      have hxi : nmD1 l i ∈ nmsR l := by
        have h1 : l[i]? = some l[i] := List.getElem?_eq_getElem hil
        rw [nmD1_some h1]; exact nmsR_of h1
      obtain ⟨A, B, h1, h2⟩ := srt_split (nmsR_srt l [] trivial).1 hxi
      have h1' : nmsR l = A ++ nmD1 l i :: B := h1
      unfold firW
      rw [h1', List.findSome?_append, List.findSome?_cons, hix, Option.bind_some, hm1]
      have hA : A.findSome? (fun x => (idxD l x).bind fun i => wayF l i m [i]) = none := by
        rw [List.findSome?_eq_none_iff]
        intro y hy
        cases hyx : idxD l y with
        | none => rfl
        | some k =>
          obtain ⟨d, g1, g2, hkl⟩ := idxD_lt hyx
          rw [Option.bind_some]
          rcases rgF_spec hkl with ⟨_, h3, _⟩ | ⟨mk, wk, e1, _, e3, _, e5⟩
          · exact h3 m
          · rcases hmin k (by simpa using hkl) wk e1 with h4 | ⟨h4, h5⟩
            · exact e5 m (by omega)
            · exfalso
              have hyn : nmD1 l k = y := by rw [nmD1_some g1, g2]
              have hlt := h2 y hy
              rcases h5 with rfl | h5
              · rw [hyn, blt_irrefl] at hlt; cases hlt
              · rw [hyn] at h5
                have := blt_trans hlt h5
                rw [blt_irrefl] at this; cases this
      rw [hA]; rfl
    · intro m' hm'
      unfold firW
      rw [List.findSome?_eq_none_iff]
      intro x hx
      obtain ⟨k, hk⟩ := nmsR_mem hx
      obtain ⟨_, _, _, hkl⟩ := idxD_lt hk
      rw [hk, Option.bind_some]
      exact hno k m' hkl hm'
/-! ### There is a ring exactly if some definition depends on itself -/
theorem ring_rch {l : List Df} {j k : Nat} (hj : ringB l j = true) (hk : RchN (to l) j k) (hkj : RchN (to l) k j) : ringB l k = true := by
  obtain ⟨a, ha, hr⟩ := (ringB_iff l j).1 hj
  cases hkj with
  | refl => exact hj
  | step _ b _ hb hbj => exact (ringB_iff l k).2 ⟨b, hb, hbj.trans hk⟩
theorem rch_pth {l : List Df} {j : Nat} {k : Nat} (hk : RchN (to l) k j) : (∀ x, RchN (to l) k x → RchN (to l) x j → okF l j x = true) → ∃ d, Pth (to l) (okF l j) j d k := by
  induction hk with
  | refl i => intro _; exact ⟨0, .zero⟩
  | step i b c hb hbc ih =>
    intro h
    obtain ⟨d, hd⟩ := ih fun x hx hxj => h x (.step _ b _ hb hx) hxj
    exact ⟨d + 1, .succ _ _ _ (h i (.refl i) (.step _ b _ hb hbc)) hb hd⟩
/-- The one with the least name among some. -/
theorem least_nm (l : List Df) (P : Nat → Prop) : ∀ (N : Nat), (∃ i, i < N ∧ P i) → ∃ i, i < N ∧ P i ∧ ∀ j, j < N → P j → blt (nmD1 l j) (nmD1 l i) = false
  | 0, ⟨i, h, _⟩ => absurd h (Nat.not_lt_zero _)
  | N + 1, ⟨i, h, hP⟩ => by
    by_cases hex : ∃ i, i < N ∧ P i
    · obtain ⟨k, h1, h2, h3⟩ := least_nm l P N hex
      by_cases hN : P N ∧ blt (nmD1 l N) (nmD1 l k) = true
      · refine ⟨N, by omega, hN.1, ?_⟩
        intro j hj hPj
        rcases Nat.lt_or_eq_of_le (Nat.le_of_lt_succ hj) with h4 | h4
        · cases hq : blt (nmD1 l j) (nmD1 l N) with
          | false => rfl
          | true =>
            have := blt_trans hq hN.2
            rw [h3 j h4 hPj] at this; cases this
        · subst h4; exact blt_irrefl _
      · refine ⟨k, by omega, h2, ?_⟩
        intro j hj hPj
        rcases Nat.lt_or_eq_of_le (Nat.le_of_lt_succ hj) with h4 | h4
        · exact h3 j h4 hPj
        · subst h4
          cases hq : blt (nmD1 l j) (nmD1 l k) with
          | false => rfl
          | true => exact absurd ⟨hPj, hq⟩ hN
    · have hiN : i = N := by
        rcases Nat.lt_or_eq_of_le (Nat.le_of_lt_succ h) with h4 | h4
        · exact absurd ⟨i, h4, hP⟩ hex
        · exact h4
      subst hiN
      refine ⟨i, by omega, hP, ?_⟩
      intro j hj hPj
      rcases Nat.lt_or_eq_of_le (Nat.le_of_lt_succ hj) with h4 | h4
      · exact absurd ⟨j, h4, hPj⟩ hex
      · subst h4; exact blt_irrefl _
theorem rngP_some (l : List Df) : (∃ i, i < l.length ∧ ringB l i = true) ↔ (rngP l).isSome = true := by
  have hb := rngP_best l
  constructor
  · intro h
    obtain ⟨j, hj, hr, hmin⟩ := least_nm l (fun i => ringB l i = true) l.length h
    cases hp : rngP l with
    | some w => rfl
    | none =>
      exfalso
      rw [hp] at hb
      have hn := hb j (by simpa using hj)
      rcases rgF_spec hj with ⟨_, _, h3⟩ | ⟨m, w, h1, _⟩
      · obtain ⟨k, hk, hkj⟩ := (ringB_iff l j).1 hr
        have hjk : RchN (to l) j k := .step _ k _ hk (.refl k)
        obtain ⟨d, hd⟩ := rch_pth hkj fun x hx hxj => by
          have hxr := ring_rch hr (hjk.trans hx) hxj
          have hxl : x < l.length := by
            cases hxj with
            | refl => exact hj
            | step _ b _ hb _ => exact to_dom hb
          simp [okF, hmin x hxl hxr]
        exact h3 k hk d hd
      · rw [hn] at h1; cases h1
  · intro h
    cases hp : rngP l with
    | none => rw [hp] at h; cases h
    | some w =>
      rw [hp] at hb
      obtain ⟨i, hi, hw, _⟩ := hb
      have hil : i < l.length := by simpa using hi
      exact ⟨i, hil, rgF_ring hil hw⟩
end Go.Am
namespace Go.Am
set_option linter.unusedVariables false
set_option linter.unusedSimpArgs false
/-! ### The program's search for a ring -/
/-- A map that says how far. -/
def FM (M : List (Value × D)) (Q : List (Nat × Nat)) : Prop := IM M ∧ ∀ i : Nat, getI M (i : Int) = (farQ Q i).map fun (d : Nat) => eI (d : Int)
theorem FM.look {M : List (Value × D)} {Q : List (Nat × Nat)} (h : FM M Q) (i : Nat) : lookP (.int .i64) (.int .i64 0) false M (eI (i : Int)) = some (eI (((farQ Q i).getD 0 : Nat) : Int)) := by
  rw [lookI1 h.1, h.2 i]
  cases farQ Q i <;> rfl
theorem FM.look2 {M : List (Value × D)} {Q : List (Nat × Nat)} (h : FM M Q) (i : Nat) : lookP (.int .i64) (.int .i64 0) true M (eI (i : Int)) = some (.tup [eI (((farQ Q i).getD 0 : Nat) : Int), eB (farQ Q i).isSome]) := by
  rw [lookI1 h.1, h.2 i]
  cases farQ Q i <;> rfl
theorem FM.put {M : List (Value × D)} {Q : List (Nat × Nat)} (h : FM M Q) (i d : Nat) (hn : farQ Q i = none) : ∃ M', putP (.int .i64) M (eI (i : Int)) (eI (d : Int)) = some M' ∧ FM M' (Q ++ [(i, d)]) := by
  obtain ⟨M', h1, h2, h3, _⟩ := putI h.1 (i : Int) (eI (d : Int))
  refine ⟨M', h1, h2, fun j => ?_⟩
  rw [h3, h.2, farQ_snoc Q i d j hn]
  by_cases hj : j = i
  · subst hj; simp
  · have : ¬ ((j : Int) = (i : Int)) := by omega
    simp [this, hj]
theorem FM.nil : FM [] [] := ⟨by (intro e he; cases he), fun i => rfl⟩
def rwD (Q : List (Nat × Nat)) : D := eNs (Q.map (·.1))
theorem bfs12_ok (n : Nat) (ks : List Nat) {M M' : List (Value × D)} {Q : List (Nat × Nat)} (hM : FM M Q) (r dr nn i : Nat) (a0 a1 a2 a5 a6 : D) (hr : (Q.map (·.1))[nn]? = some r) (hd : farQ Q r = some dr) (hp : putP (.int .i64) M (eI (i : Int)) (eI ((dr + 1 : Nat) : Int)) = some M')
    (hn : ks.length < n) (hb : ks.length < 1000000000) (hq : Q.length < 1000000000) (hdr : dr < 1000000000) :
    iterL (defs_ring_l12 n) n [a0, a1, a2, eI (nn : Int), eI (i : Int), a5, a6, eNs ks, eI ks.length, eI 0, .mp M, rwD Q] = some (.inl (if r ∈ ks then [a0, a1, a2, eI (nn : Int), a5, a6, .mp M', rwD (Q ++ [(i, dr + 1)])] else [a0, a1, a2, eI (nn : Int), a5, a6, .mp M, rwD Q])) := by
  have e0 : (eI ((0 : Nat) : Int)) = eI 0 := rfl
  have ee : D.sl 1 (esD (rwD Q)) = rwD Q := rfl
  have e5 : (esD (rwD Q)).length = Q.length := by simp [rwD, eNs]
  have hnn : nn < Q.length := by have := (List.getElem?_eq_some_iff.1 hr).1; simpa using this
  have e6 : (esD (rwD Q))[nn]? = some [eI (r : Int)] := by
    show ((Q.map (·.1)).map fun (i : Nat) => [eI (i : Int)])[nn]? = _
    rw [List.getElem?_map, hr]; rfl
  have e7 : numP Q.length (eI (nn : Int)) = some nn := by rw [numP_nat, if_pos hnn]
  have hl := iterL_list (f := defs_ring_l12 n) ks (fun j (_ : Unit) => [a0, a1, a2, eI (nn : Int), eI (i : Int), a5, a6, eNs ks, eI ks.length, eI (j : Int), .mp M, rwD Q])
    (fun q _ => (.inl (if r ∈ q then [a0, a1, a2, eI (nn : Int), a5, a6, .mp M', rwD (Q ++ [(i, dr + 1)])] else [a0, a1, a2, eI (nn : Int), a5, a6, .mp M, rwD Q]) : List D ⊕ (List D ⊕ (List D ⊕ (List D ⊕ (List D ⊕ (List D ⊕ (List D ⊕ D)))))))) (fun _ _ => True) ?_ ?_ n 0 () trivial (by omega) (Nat.zero_le _)
  · rw [e0, List.drop_zero] at hl; exact hl
  · intro _ _
    simp only [defs_ring_l12, obind_s, og_t, oif_b, pd_0, pd_s, and_ch, or_ch, b_lss, b_leq, b_gtr, b_geq, b_eql, b_neq, s_eql, s_neq, s_lss, u_not, jnX_l, jnX_r, inrX_s, oneP_I, oneP_B, oneP_S, oneP_sl, oneP_row, oneP_nil, one_I, one_B, one_S, one_sl, one_row, one_nil, extP_tup, List.getElem?_cons_zero, List.getElem?_cons_succ, esD_sl, lenP_sl, lenP_row, lenP_nil, elP_sl, ixP_nat, Bool.and_true, Bool.true_and, Bool.and_self, if_true, if_false, Bool.not_true, Bool.not_false, Bool.false_eq_true, flat_eB, flat_eI, flat_eS, Bool.or_true, Bool.true_or, agg2, agg3, agg4, agg5, agg6, agg7, agg8, zB, zI, zS, celsD_agg, mpD_mp, decide_eq_false (show ¬ ((ks.length : Int) < ks.length) by omega), ee, List.not_mem_nil, if_false]
  · intro j k _ hk hj _
    have hjl := decide_eq_true (show ((j : Int) < (ks.length : Int)) by omega)
    by_cases hkr : k = r
    · subst hkr
      have hkk : (((k : Nat) : Int) == (k : Int)) = true := by simp
      have hlo := hM.look k
      rw [hd, Option.getD_some] at hlo
      have ha : binP false .add (eI (dr : Int)) (eI 1) = some (eI ((dr + 1 : Nat) : Int)) := add1 (by omega)
      have hrm : roomP (Q.length + 1) 8 = true := roomP_ok (by omega) (by omega)
      have e2 : D.sl 1 (esD (rwD Q) ++ [[eI (i : Int)]]) = rwD (Q ++ [(i, dr + 1)]) := by simp [rwD, eNs]
      right
      simp only [defs_ring_l12, obind_s, og_t, oif_b, pd_0, pd_s, and_ch, or_ch, b_lss, b_leq, b_gtr, b_geq, b_eql, b_neq, s_eql, s_neq, s_lss, u_not, jnX_l, jnX_r, inrX_s, oneP_I, oneP_B, oneP_S, oneP_sl, oneP_row, oneP_nil, one_I, one_B, one_S, one_sl, one_row, one_nil, extP_tup, List.getElem?_cons_zero, List.getElem?_cons_succ, esD_sl, lenP_sl, lenP_row, lenP_nil, elP_sl, ixP_nat, Bool.and_true, Bool.true_and, Bool.and_self, if_true, if_false, Bool.not_true, Bool.not_false, Bool.false_eq_true, flat_eB, flat_eI, flat_eS, Bool.or_true, Bool.true_or, agg2, agg3, agg4, agg5, agg6, agg7, agg8, zB, zI, zS, celsD_agg, mpD_mp, hjl, eNs_ix hk, atP_f, e5, e6, e7, hkk, hlo, ha, hp, List.length_cons, List.length_nil, Nat.zero_add, hrm, e2, List.mem_cons, true_or]
    · have hkk : (((k : Nat) : Int) == (r : Int)) = false := by simp; omega
      left
      refine ⟨(), ?_, by simp only [List.mem_cons, Ne.symm hkr, false_or, (fun h => hkr (Eq.symm h) : ¬ r = k)], trivial⟩
      simp only [defs_ring_l12, obind_s, og_t, oif_b, pd_0, pd_s, and_ch, or_ch, b_lss, b_leq, b_gtr, b_geq, b_eql, b_neq, s_eql, s_neq, s_lss, u_not, jnX_l, jnX_r, inrX_s, oneP_I, oneP_B, oneP_S, oneP_sl, oneP_row, oneP_nil, one_I, one_B, one_S, one_sl, one_row, one_nil, extP_tup, List.getElem?_cons_zero, List.getElem?_cons_succ, esD_sl, lenP_sl, lenP_row, lenP_nil, elP_sl, ixP_nat, Bool.and_true, Bool.true_and, Bool.and_self, if_true, if_false, Bool.not_true, Bool.not_false, Bool.false_eq_true, flat_eB, flat_eI, flat_eS, Bool.or_true, Bool.true_or, agg2, agg3, agg4, agg5, agg6, agg7, agg8, zB, zI, zS, celsD_agg, mpD_mp, hjl, eNs_ix hk, atP_f, e5, e6, e7, hkk, ee, add1 (bt := false) (i := j) (by omega)]
structure QI (N : Nat) (Q : List (Nat × Nat)) : Prop where
  nd : (Q.map (·.1)).Nodup
  lt : ∀ e ∈ Q, e.1 < N
theorem QI.len {N : Nat} {Q : List (Nat × Nat)} (h : QI N Q) : Q.length ≤ N := by
  have := nodup_len N (Q.map (·.1)) h.nd (by
    intro x hx
    obtain ⟨e, he, rfl⟩ := List.mem_map.1 hx
    exact h.lt e he)
  simpa using this
theorem QI.snoc {N : Nat} {Q : List (Nat × Nat)} (h : QI N Q) {i d : Nat} (hi : i < N) (hn : farQ Q i = none) : QI N (Q ++ [(i, d)]) := by
  refine ⟨?_, ?_⟩
  · rw [List.map_append, List.nodup_append]
    refine ⟨h.nd, by simp, ?_⟩
    intro x hx y hy
    simp at hy; subst hy
    obtain ⟨e, he, rfl⟩ := List.mem_map.1 hx
    exact farQ_none hn e he
  · intro e he
    rcases List.mem_append.1 he with he | he
    · exact h.lt e he
    · simp at he; subst he; exact hi
theorem bfs7_ok (n : Nat) (l : List Df) {B : Nat} (hl : DL B l) (hn : 2 * B + 100 < n) (fr nn r dr : Nat) (hfr : fr < l.length) (hdr : dr < 100000000) : ∀ (m j : Nat) (M : List (Value × D)) (Q : List (Nat × Nat)), FM M Q → QI l.length Q → (Q.map (·.1))[nn]? = some r → farQ Q r = some dr → l.length - j < m → j ≤ l.length →
    ∃ M', iterL (defs_ring_l7 n) m [eDs l, eNss (l.map fun d => lk l d.e), eI (fr : Int), eI (nn : Int), eI l.length, eI (j : Int), .mp M, rwD Q] = some (.inl [eDs l, eNss (l.map fun d => lk l d.e), eI (fr : Int), eI (nn : Int), .mp M', rwD (bfsI (to l) (okF l fr) r dr ((List.range l.length).drop j) Q)]) ∧
      FM M' (bfsI (to l) (okF l fr) r dr ((List.range l.length).drop j) Q)
  | 0, _, _, _, _, _, _, _, h, _ => absurd h (Nat.not_lt_zero _)
  | m + 1, j, M, Q, hM, hQ, hr, hd, hm, hj => by
    have hlen := hl.len
    have hBb := hl.b
    have hql := hQ.len
    rw [iterL_s]
    have ee : D.sl 1 (esD (rwD Q)) = rwD Q := rfl
    rcases Nat.lt_or_eq_of_le hj with hjl | hjl
    · have ed : (List.range l.length).drop j = j :: (List.range l.length).drop (j + 1) := by
        rw [List.drop_eq_getElem_cons (by simpa using hjl)]; simp
      have hjd := decide_eq_true (show ((j : Int) < (l.length : Int)) by omega)
      obtain ⟨d, hdj⟩ : ∃ d, l[j]? = some d := ⟨l[j], List.getElem?_eq_getElem hjl⟩
      obtain ⟨df, hdf⟩ : ∃ d, l[fr]? = some d := ⟨l[fr], List.getElem?_eq_getElem hfr⟩
      have hdm := hl.e d (List.mem_of_getElem? hdj)
      have hll := lk_len l d.e
      have hx : ixP 1 (eNss (l.map fun d => lk l d.e)) (eI (j : Int)) = some [eNs (lk l d.e)] := eNss_ix (by simp [hdj])
      have hlo := hM.look2 j
      have hoke : okF l fr j = !blt d.name df.name := by rw [okF, nmD1_some hdj, nmD1_some hdf]
      have h0 : ∀ d : Df, d.cells[0]? = some (eS d.name) := fun _ => rfl
      have hstep : bfsI (to l) (okF l fr) r dr (j :: (List.range l.length).drop (j + 1)) Q = bfsI (to l) (okF l fr) r dr ((List.range l.length).drop (j + 1)) (if (farQ Q j).isSome || !okF l fr j then Q else if r ∈ to l j then Q ++ [(j, dr + 1)] else Q) := rfl
      rw [ed, hstep]
      by_cases hs : ((farQ Q j).isSome || !okF l fr j) = true
      · rw [if_pos hs]
        obtain ⟨M', g1, g2⟩ := bfs7_ok n l hl hn fr nn r dr hfr hdr m (j + 1) M Q hM hQ hr hd (by omega) hjl
        refine ⟨M', ?_, g2⟩
        rw [hoke, Bool.not_not] at hs
        simp only [defs_ring_l7, obind_s, og_t, oif_b, pd_0, pd_s, and_ch, or_ch, b_lss, b_leq, b_gtr, b_geq, b_eql, b_neq, s_eql, s_neq, s_lss, u_not, jnX_l, jnX_r, inrX_s, oneP_I, oneP_B, oneP_S, oneP_sl, oneP_row, oneP_nil, one_I, one_B, one_S, one_sl, one_row, one_nil, extP_tup, List.getElem?_cons_zero, List.getElem?_cons_succ, esD_sl, lenP_sl, lenP_row, lenP_nil, elP_sl, ixP_nat, Bool.and_true, Bool.true_and, Bool.and_self, if_true, if_false, Bool.not_true, Bool.not_false, Bool.false_eq_true, flat_eB, flat_eI, flat_eS, Bool.or_true, Bool.true_or, agg2, agg3, agg4, agg5, agg6, agg7, agg8, zB, zI, zS, celsD_agg, mpD_mp, hjd, hlo, eDs_ix hdj, eDs_ix hdf, atP_f, h0, hs, ee, add1 (bt := false) (i := j) (by omega), g1]
      · have hs' : ((farQ Q j).isSome || !okF l fr j) = false := by simpa using hs
        rw [if_neg hs]
        have hfn : farQ Q j = none := by
          rw [Bool.or_eq_false_iff] at hs'
          simpa using hs'.1
        obtain ⟨M1, p1, p2⟩ := hM.put j (dr + 1) hfn
        have h12 := bfs12_ok n (lk l d.e) hM r dr nn j (eDs l) (eNss (l.map fun d => lk l d.e)) (eI (fr : Int)) (eI l.length) (eI (j : Int)) hr hd p1 (by omega) (by omega) (by omega) (by omega)
        rw [hoke, Bool.not_not] at hs'
        by_cases hrk : r ∈ to l j
        · rw [if_pos hrk]
          rw [to_some hdj] at hrk
          rw [if_pos hrk] at h12
          have hrj : r ≠ j := by rintro rfl; rw [hfn] at hd; cases hd
          obtain ⟨M', g1, g2⟩ := bfs7_ok n l hl hn fr nn r dr hfr hdr m (j + 1) M1 (Q ++ [(j, dr + 1)]) p2 (hQ.snoc hjl hfn) (by rw [List.map_append, List.getElem?_append_left (List.getElem?_eq_some_iff.1 hr).1, hr]) (by rw [farQ_snoc Q j _ r hfn, if_neg hrj, hd]) (by omega) hjl
          refine ⟨M', ?_, g2⟩
          have ee2 : ∀ Q, D.sl 1 (esD (rwD Q)) = rwD Q := fun _ => rfl
          simp only [defs_ring_l7, obind_s, og_t, oif_b, pd_0, pd_s, and_ch, or_ch, b_lss, b_leq, b_gtr, b_geq, b_eql, b_neq, s_eql, s_neq, s_lss, u_not, jnX_l, jnX_r, inrX_s, oneP_I, oneP_B, oneP_S, oneP_sl, oneP_row, oneP_nil, one_I, one_B, one_S, one_sl, one_row, one_nil, extP_tup, List.getElem?_cons_zero, List.getElem?_cons_succ, esD_sl, lenP_sl, lenP_row, lenP_nil, elP_sl, ixP_nat, Bool.and_true, Bool.true_and, Bool.and_self, if_true, if_false, Bool.not_true, Bool.not_false, Bool.false_eq_true, flat_eB, flat_eI, flat_eS, Bool.or_true, Bool.true_or, agg2, agg3, agg4, agg5, agg6, agg7, agg8, zB, zI, zS, celsD_agg, mpD_mp, hjd, hlo, eDs_ix hdj, eDs_ix hdf, atP_f, h0, hs', ee2, hx, eNs_len, h12, add1 (bt := false) (i := j) (by omega), g1]
        · rw [if_neg hrk]
          rw [to_some hdj] at hrk
          rw [if_neg hrk] at h12
          obtain ⟨M', g1, g2⟩ := bfs7_ok n l hl hn fr nn r dr hfr hdr m (j + 1) M Q hM hQ hr hd (by omega) hjl
          refine ⟨M', ?_, g2⟩
          simp only [defs_ring_l7, obind_s, og_t, oif_b, pd_0, pd_s, and_ch, or_ch, b_lss, b_leq, b_gtr, b_geq, b_eql, b_neq, s_eql, s_neq, s_lss, u_not, jnX_l, jnX_r, inrX_s, oneP_I, oneP_B, oneP_S, oneP_sl, oneP_row, oneP_nil, one_I, one_B, one_S, one_sl, one_row, one_nil, extP_tup, List.getElem?_cons_zero, List.getElem?_cons_succ, esD_sl, lenP_sl, lenP_row, lenP_nil, elP_sl, ixP_nat, Bool.and_true, Bool.true_and, Bool.and_self, if_true, if_false, Bool.not_true, Bool.not_false, Bool.false_eq_true, flat_eB, flat_eI, flat_eS, Bool.or_true, Bool.true_or, agg2, agg3, agg4, agg5, agg6, agg7, agg8, zB, zI, zS, celsD_agg, mpD_mp, hjd, hlo, eDs_ix hdj, eDs_ix hdf, atP_f, h0, hs', ee, hx, eNs_len, h12, add1 (bt := false) (i := j) (by omega), g1]
    · subst hjl
      have ed : (List.range l.length).drop l.length = [] := by simp
      rw [ed]
      refine ⟨M, ?_, hM⟩
      have : bfsI (to l) (okF l fr) r dr [] Q = Q := rfl
      simp only [defs_ring_l7, obind_s, og_t, oif_b, pd_0, pd_s, and_ch, or_ch, b_lss, b_leq, b_gtr, b_geq, b_eql, b_neq, s_eql, s_neq, s_lss, u_not, jnX_l, jnX_r, inrX_s, oneP_I, oneP_B, oneP_S, oneP_sl, oneP_row, oneP_nil, one_I, one_B, one_S, one_sl, one_row, one_nil, extP_tup, List.getElem?_cons_zero, List.getElem?_cons_succ, esD_sl, lenP_sl, lenP_row, lenP_nil, elP_sl, ixP_nat, Bool.and_true, Bool.true_and, Bool.and_self, if_true, if_false, Bool.not_true, Bool.not_false, Bool.false_eq_true, flat_eB, flat_eI, flat_eS, Bool.or_true, Bool.true_or, agg2, agg3, agg4, agg5, agg6, agg7, agg8, zB, zI, zS, celsD_agg, mpD_mp, decide_eq_false (show ¬ ((l.length : Int) < l.length) by omega), ee, this]
theorem stp_step {to : Nat → List Nat} {ok : Nat → Bool} {fr N n : Nat} {Q : List (Nat × Nat)} (h : BI to ok fr N n Q) (hs : ∀ (i : Nat) (e : Nat × Nat), Q[i]? = some e → e.2 ≤ i) {e : Nat × Nat} (he : Q[n]? = some e) : ∀ (i : Nat) (e' : Nat × Nat), (bfsI to ok e.1 e.2 (List.range N) Q)[i]? = some e' → e'.2 ≤ i := by
  obtain ⟨T, t1, _, t3, _⟩ := bfsI_spec to ok e.1 e.2 (List.range N) Q h.nd
  rw [t1]
  intro i e' he'
  have hnl := (List.getElem?_eq_some_iff.1 he).1
  have h1 := hs n e he
  rcases Nat.lt_or_ge i Q.length with hi | hi
  · rw [List.getElem?_append_left hi] at he'
    exact hs i e' he'
  · rw [List.getElem?_append_right hi] at he'
    have := (t3 e' (List.mem_of_getElem? he')).1
    omega
theorem bfs4_ok (n : Nat) (l : List Df) {B : Nat} (hl : DL B l) (hn : 2 * B + 100 < n) (fr : Nat) (hfr : fr < l.length) : ∀ (m k nn : Nat) (M : List (Value × D)) (Q : List (Nat × Nat)), FM M Q → BI (to l) (okF l fr) fr l.length nn Q → (∀ (i : Nat) (e : Nat × Nat), Q[i]? = some e → e.2 ≤ i) → l.length - nn < m → m ≤ k →
    ∃ M', iterL (defs_ring_l4 n) k [eDs l, eNss (l.map fun d => lk l d.e), eI (fr : Int), eI (nn : Int), .mp M, rwD Q] = some (.inl [eNss (l.map fun d => lk l d.e), eI (fr : Int), .mp M']) ∧ FM M' (bfs (to l) (okF l fr) l.length m nn Q)
  | 0, _, _, _, _, _, _, _, h, _ => absurd h (Nat.not_lt_zero _)
  | _ + 1, 0, _, _, _, _, _, _, _, h => absurd h (Nat.not_succ_le_zero _)
  | m + 1, k + 1, nn, M, Q, hM, hI, hst, hm, hk => by
    have hlen := hl.len
    have hBb := hl.b
    have hql := hI.qlen
    have hnl := hI.len
    have e5 : (esD (rwD Q)).length = Q.length := by simp [rwD, eNs]
    have ee : ∀ Q, D.sl 1 (esD (rwD Q)) = rwD Q := fun _ => rfl
    have e0 : (eI ((0 : Nat) : Int)) = eI 0 := rfl
    rw [iterL_s, bfs]
    cases he : Q[nn]? with
    | none =>
      have := List.getElem?_eq_none_iff.1 he
      refine ⟨M, ?_, hM⟩
      simp only [defs_ring_l4, obind_s, og_t, oif_b, pd_0, pd_s, and_ch, or_ch, b_lss, b_leq, b_gtr, b_geq, b_eql, b_neq, s_eql, s_neq, s_lss, u_not, jnX_l, jnX_r, inrX_s, oneP_I, oneP_B, oneP_S, oneP_sl, oneP_row, oneP_nil, one_I, one_B, one_S, one_sl, one_row, one_nil, extP_tup, List.getElem?_cons_zero, List.getElem?_cons_succ, esD_sl, lenP_sl, lenP_row, lenP_nil, elP_sl, ixP_nat, Bool.and_true, Bool.true_and, Bool.and_self, if_true, if_false, Bool.not_true, Bool.not_false, Bool.false_eq_true, flat_eB, flat_eI, flat_eS, Bool.or_true, Bool.true_or, agg2, agg3, agg4, agg5, agg6, agg7, agg8, zB, zI, zS, celsD_agg, mpD_mp, e5, decide_eq_false (show ¬ ((nn : Int) < (Q.length : Int)) by omega)]
    | some e =>
      have hlt := (List.getElem?_eq_some_iff.1 he).1
      have heQ := List.mem_of_getElem? he
      have hfe : farQ Q e.1 = some e.2 := farQ_of hI.nd heQ
      have hed : e.2 < 100000000 := by
        have := hst nn e he
        omega
      have hrn : (Q.map (·.1))[nn]? = some e.1 := by rw [List.getElem?_map, he]; rfl
      obtain ⟨M1, g1, g2⟩ := bfs7_ok n l hl hn fr nn e.1 e.2 hfr hed n 0 M Q hM ⟨hI.nd, hI.lt⟩ hrn hfe (by omega) (Nat.zero_le _)
      rw [List.drop_zero, e0] at g1
      rw [List.drop_zero] at g2
      obtain ⟨M', g3, g4⟩ := bfs4_ok n l hl hn fr hfr m k (nn + 1) M1 _ g2 (hI.step he) (stp_step hI hst he) (by omega) (by omega)
      refine ⟨M', ?_, g4⟩
      simp only [defs_ring_l4, obind_s, og_t, oif_b, pd_0, pd_s, and_ch, or_ch, b_lss, b_leq, b_gtr, b_geq, b_eql, b_neq, s_eql, s_neq, s_lss, u_not, jnX_l, jnX_r, inrX_s, oneP_I, oneP_B, oneP_S, oneP_sl, oneP_row, oneP_nil, one_I, one_B, one_S, one_sl, one_row, one_nil, extP_tup, List.getElem?_cons_zero, List.getElem?_cons_succ, esD_sl, lenP_sl, lenP_row, lenP_nil, elP_sl, ixP_nat, Bool.and_true, Bool.true_and, Bool.and_self, if_true, if_false, Bool.not_true, Bool.not_false, Bool.false_eq_true, flat_eB, flat_eI, flat_eS, Bool.or_true, Bool.true_or, agg2, agg3, agg4, agg5, agg6, agg7, agg8, zB, zI, zS, celsD_agg, mpD_mp, e5, decide_eq_true (show ((nn : Int) < (Q.length : Int)) by omega), eDs_len, ee, g1, add1 (bt := false) (i := nn) (by omega), g3]
end Go.Am
namespace Go.Am
set_option linter.unusedVariables false
set_option linter.unusedSimpArgs false
def bstD : Option Nat → D
  | some b => eI (b : Int)
  | none => eI (-1)
theorem wlk23_ok (n : Nat) (ks : List Nat) {M : List (Value × D)} {Q : List (Nat × Nat)} (hM : FM M Q) (fr : Nat) (a0 : D) (out : List Nat) (hn : ks.length < n) (hb : ks.length < 1000000000) :
    iterL (defs_ring_l23 n) n [a0, eI (fr : Int), eI (-1), eNs ks, eI ks.length, eI 0, .mp M, eNs out] = some (.inl [a0, eI (fr : Int), bstD (bst Q fr ks none), .mp M, eNs out]) := by
  have e0 : (eI ((0 : Nat) : Int)) = eI 0 := rfl
  have ee : ∀ x, D.sl 1 (esD (eNs x)) = eNs x := fun _ => rfl
  have hl := iterL_list (f := defs_ring_l23 n) ks (fun j (b : Option Nat) => [a0, eI (fr : Int), bstD b, eNs ks, eI ks.length, eI (j : Int), .mp M, eNs out])
    (fun q b => (.inl [a0, eI (fr : Int), bstD (bst Q fr q b), .mp M, eNs out] : List D ⊕ (List D ⊕ (List D ⊕ D)))) (fun _ _ => True) ?_ ?_ n 0 none trivial (by omega) (Nat.zero_le _)
  · rw [e0, List.drop_zero] at hl; exact hl
  · intro b _
    simp only [defs_ring_l23, obind_s, og_t, oif_b, pd_0, pd_s, and_ch, or_ch, b_lss, b_leq, b_gtr, b_geq, b_eql, b_neq, s_eql, s_neq, s_lss, u_not, jnX_l, jnX_r, inrX_s, oneP_I, oneP_B, oneP_S, oneP_sl, oneP_row, oneP_nil, one_I, one_B, one_S, one_sl, one_row, one_nil, extP_tup, List.getElem?_cons_zero, List.getElem?_cons_succ, esD_sl, lenP_sl, lenP_row, lenP_nil, elP_sl, ixP_nat, Bool.and_true, Bool.true_and, Bool.and_self, if_true, if_false, Bool.not_true, Bool.not_false, Bool.false_eq_true, flat_eB, flat_eI, flat_eS, Bool.or_true, Bool.true_or, agg2, agg3, agg4, agg5, agg6, agg7, agg8, zB, zI, zS, celsD_agg, mpD_mp, decide_eq_false (show ¬ ((ks.length : Int) < ks.length) by omega), ee, bst]
  · intro j k b hk hj _
    have hjl := decide_eq_true (show ((j : Int) < (ks.length : Int)) by omega)
    by_cases hkf : k = fr
    · right
      have hkk : (((k : Nat) : Int) == (fr : Int)) = true := by simp [hkf]
      have hb2 : bst Q fr (k :: ks.drop (j + 1)) b = some k := by rw [bst, if_pos hkf]
      rw [hb2]
      simp only [defs_ring_l23, obind_s, og_t, oif_b, pd_0, pd_s, and_ch, or_ch, b_lss, b_leq, b_gtr, b_geq, b_eql, b_neq, s_eql, s_neq, s_lss, u_not, jnX_l, jnX_r, inrX_s, oneP_I, oneP_B, oneP_S, oneP_sl, oneP_row, oneP_nil, one_I, one_B, one_S, one_sl, one_row, one_nil, extP_tup, List.getElem?_cons_zero, List.getElem?_cons_succ, esD_sl, lenP_sl, lenP_row, lenP_nil, elP_sl, ixP_nat, Bool.and_true, Bool.true_and, Bool.and_self, if_true, if_false, Bool.not_true, Bool.not_false, Bool.false_eq_true, flat_eB, flat_eI, flat_eS, Bool.or_true, Bool.true_or, agg2, agg3, agg4, agg5, agg6, agg7, agg8, zB, zI, zS, celsD_agg, mpD_mp, hjl, eNs_ix hk, atP_f, hkk, ee, bstD]
    · have hkk : (((k : Nat) : Int) == (fr : Int)) = false := by simp; omega
      have hlo := hM.look2 k
      left
      cases hf : farQ Q k with
      | none =>
        rw [hf] at hlo
        refine ⟨b, ?_, by simp only [bst, hkf, if_false, hf], trivial⟩
        simp only [defs_ring_l23, obind_s, og_t, oif_b, pd_0, pd_s, and_ch, or_ch, b_lss, b_leq, b_gtr, b_geq, b_eql, b_neq, s_eql, s_neq, s_lss, u_not, jnX_l, jnX_r, inrX_s, oneP_I, oneP_B, oneP_S, oneP_sl, oneP_row, oneP_nil, one_I, one_B, one_S, one_sl, one_row, one_nil, extP_tup, List.getElem?_cons_zero, List.getElem?_cons_succ, esD_sl, lenP_sl, lenP_row, lenP_nil, elP_sl, ixP_nat, Bool.and_true, Bool.true_and, Bool.and_self, if_true, if_false, Bool.not_true, Bool.not_false, Bool.false_eq_true, flat_eB, flat_eI, flat_eS, Bool.or_true, Bool.true_or, agg2, agg3, agg4, agg5, agg6, agg7, agg8, zB, zI, zS, celsD_agg, mpD_mp, hjl, eNs_ix hk, atP_f, hkk, ee, hlo, Option.isSome_none, gD_b, gD_u, pick_b, add1 (bt := false) (i := j) (by omega)]
      | some d =>
        rw [hf] at hlo
        cases b with
        | none =>
          refine ⟨some k, ?_, by simp only [bst, hkf, if_false, hf], trivial⟩
          simp only [defs_ring_l23, obind_s, og_t, oif_b, pd_0, pd_s, and_ch, or_ch, b_lss, b_leq, b_gtr, b_geq, b_eql, b_neq, s_eql, s_neq, s_lss, u_not, jnX_l, jnX_r, inrX_s, oneP_I, oneP_B, oneP_S, oneP_sl, oneP_row, oneP_nil, one_I, one_B, one_S, one_sl, one_row, one_nil, extP_tup, List.getElem?_cons_zero, List.getElem?_cons_succ, esD_sl, lenP_sl, lenP_row, lenP_nil, elP_sl, ixP_nat, Bool.and_true, Bool.true_and, Bool.and_self, if_true, if_false, Bool.not_true, Bool.not_false, Bool.false_eq_true, flat_eB, flat_eI, flat_eS, Bool.or_true, Bool.true_or, agg2, agg3, agg4, agg5, agg6, agg7, agg8, zB, zI, zS, celsD_agg, mpD_mp, hjl, eNs_ix hk, atP_f, hkk, ee, hlo, Option.isSome_some, Option.getD_some, gD_b, gD_u, pick_b, bstD, decide_eq_true (show (-1 : Int) < 0 by omega), add1 (bt := false) (i := j) (by omega), if_true, if_false, Bool.true_eq_false]
        | some b0 =>
          have hlb := hM.look b0
          by_cases hlt : d < (farQ Q b0).getD 0
          · refine ⟨some k, ?_, by simp only [bst, hkf, if_false, hf, if_pos hlt], trivial⟩
            simp only [defs_ring_l23, obind_s, og_t, oif_b, pd_0, pd_s, and_ch, or_ch, b_lss, b_leq, b_gtr, b_geq, b_eql, b_neq, s_eql, s_neq, s_lss, u_not, jnX_l, jnX_r, inrX_s, oneP_I, oneP_B, oneP_S, oneP_sl, oneP_row, oneP_nil, one_I, one_B, one_S, one_sl, one_row, one_nil, extP_tup, List.getElem?_cons_zero, List.getElem?_cons_succ, esD_sl, lenP_sl, lenP_row, lenP_nil, elP_sl, ixP_nat, Bool.and_true, Bool.true_and, Bool.and_self, if_true, if_false, Bool.not_true, Bool.not_false, Bool.false_eq_true, flat_eB, flat_eI, flat_eS, Bool.or_true, Bool.true_or, agg2, agg3, agg4, agg5, agg6, agg7, agg8, zB, zI, zS, celsD_agg, mpD_mp, hjl, eNs_ix hk, atP_f, hkk, ee, hlo, Option.isSome_some, Option.getD_some, gD_b, gD_u, pick_b, bstD, decide_eq_false (show ¬ ((b0 : Int) < 0) by omega), hlb, decide_eq_true (show ((d : Int) < ((farQ Q b0).getD 0 : Nat)) by omega), add1 (bt := false) (i := j) (by omega), if_true, if_false, Bool.true_eq_false]
          · refine ⟨some b0, ?_, by simp only [bst, hkf, if_false, hf, if_neg hlt], trivial⟩
            simp only [defs_ring_l23, obind_s, og_t, oif_b, pd_0, pd_s, and_ch, or_ch, b_lss, b_leq, b_gtr, b_geq, b_eql, b_neq, s_eql, s_neq, s_lss, u_not, jnX_l, jnX_r, inrX_s, oneP_I, oneP_B, oneP_S, oneP_sl, oneP_row, oneP_nil, one_I, one_B, one_S, one_sl, one_row, one_nil, extP_tup, List.getElem?_cons_zero, List.getElem?_cons_succ, esD_sl, lenP_sl, lenP_row, lenP_nil, elP_sl, ixP_nat, Bool.and_true, Bool.true_and, Bool.and_self, if_true, if_false, Bool.not_true, Bool.not_false, Bool.false_eq_true, flat_eB, flat_eI, flat_eS, Bool.or_true, Bool.true_or, agg2, agg3, agg4, agg5, agg6, agg7, agg8, zB, zI, zS, celsD_agg, mpD_mp, hjl, eNs_ix hk, atP_f, hkk, ee, hlo, Option.isSome_some, Option.getD_some, gD_b, gD_u, pick_b, bstD, decide_eq_false (show ¬ ((b0 : Int) < 0) by omega), hlb, decide_eq_false (show ¬ ((d : Int) < ((farQ Q b0).getD 0 : Nat)) by omega), add1 (bt := false) (i := j) (by omega), if_true, if_false, Bool.true_eq_false]
theorem bst_lt {Q : List (Nat × Nat)} {fr N : Nat} : ∀ (ks : List Nat) (b : Option Nat) (c : Nat), (∀ k ∈ ks, k < N) → (∀ x, b = some x → x < N) → bst Q fr ks b = some c → c < N
  | [], b, c, _, hb, h => hb c h
  | k :: r, b, c, hk, hb, h => by
    have hk0 := hk k (by simp)
    have hr : ∀ k ∈ r, k < N := fun x hx => hk x (by simp [hx])
    have hs : ∀ x, some k = some x → x < N := by intro x hx; cases hx; exact hk0
    rw [bst] at h
    split at h
    · cases h; exact hk0
    · split at h
      · exact bst_lt r b c hr hb h
      · split at h
        · exact bst_lt r _ c hr hs h
        · split at h
          · exact bst_lt r _ c hr hs h
          · exact bst_lt r _ c hr hb h
theorem wlk21_ok (n : Nat) (l : List Df) {B : Nat} (hl : DL B l) (hn : 2 * B + 100 < n) (fr : Nat) {M : List (Value × D)} {Q : List (Nat × Nat)} (hM : FM M Q) : ∀ (m k at_ : Nat) (out w : List Nat), wkF l Q fr m at_ out = some w → at_ < l.length → out.length + m ≤ 10000000 → m ≤ k →
    iterL (defs_ring_l21 n) k [eNss (l.map fun d => lk l d.e), eI (fr : Int), eI (at_ : Int), .mp M, eNs out] = some (eNs w)
  | 0, _, _, _, _, h, _, _, _ => by rw [wkF] at h; cases h
  | _ + 1, 0, _, _, _, _, _, _, h => absurd h (Nat.not_succ_le_zero _)
  | m + 1, k + 1, at_, out, w, h, ha, ho, hk => by
    have hlen := hl.len
    have hBb := hl.b
    obtain ⟨d, hd⟩ : ∃ d, l[at_]? = some d := ⟨l[at_], List.getElem?_eq_getElem ha⟩
    have hdm := hl.e d (List.mem_of_getElem? hd)
    have hll := lk_len l d.e
    have hx : ixP 1 (eNss (l.map fun d => lk l d.e)) (eI (at_ : Int)) = some [eNs (lk l d.e)] := eNss_ix (by simp [hd])
    have ee : ∀ x, D.sl 1 (esD (eNs x)) = eNs x := fun _ => rfl
    have h23 := wlk23_ok n (lk l d.e) hM fr (eNss (l.map fun d => lk l d.e)) out (by omega) (by omega)
    rw [wkF, to_some hd] at h
    rw [iterL_s]
    cases hb : bst Q fr (lk l d.e) none with
    | none => rw [hb] at h; cases h
    | some b =>
      rw [hb] at h h23
      simp only at h
      have hbl := bst_lt (N := l.length) (lk l d.e) none b lk_lt (by intro x hx; cases hx) hb
      have hb0 := decide_eq_false (show ¬ ((b : Int) < 0) by omega)
      by_cases hbf : b = fr
      · rw [if_pos hbf] at h
        cases h
        have hbb : (((b : Nat) : Int) == (fr : Int)) = true := by simp [hbf]
        simp only [defs_ring_l21, obind_s, og_t, oif_b, pd_0, pd_s, and_ch, or_ch, b_lss, b_leq, b_gtr, b_geq, b_eql, b_neq, s_eql, s_neq, s_lss, u_not, jnX_l, jnX_r, inrX_s, oneP_I, oneP_B, oneP_S, oneP_sl, oneP_row, oneP_nil, one_I, one_B, one_S, one_sl, one_row, one_nil, extP_tup, List.getElem?_cons_zero, List.getElem?_cons_succ, esD_sl, lenP_sl, lenP_row, lenP_nil, elP_sl, ixP_nat, Bool.and_true, Bool.true_and, Bool.and_self, if_true, if_false, Bool.not_true, Bool.not_false, Bool.false_eq_true, flat_eB, flat_eI, flat_eS, Bool.or_true, Bool.true_or, agg2, agg3, agg4, agg5, agg6, agg7, agg8, zB, zI, zS, celsD_agg, mpD_mp, hx, atP_f, eNs_len, ee, h23, bstD, hb0, hbb]
      · rw [if_neg hbf] at h
        have hbb : (((b : Nat) : Int) == (fr : Int)) = false := by simp; omega
        have ih := wlk21_ok n l hl hn fr hM m k b (out ++ [b]) w h hbl (by simp; omega) (by omega)
        have e5 : (esD (eNs out)).length = out.length := by simp [eNs]
        have hrm : roomP (out.length + 1) 8 = true := roomP_ok (by omega) (by omega)
        have e2 : D.sl 1 (esD (eNs out) ++ [[eI (b : Int)]]) = eNs (out ++ [b]) := by simp [eNs]
        simp only [defs_ring_l21, obind_s, og_t, oif_b, pd_0, pd_s, and_ch, or_ch, b_lss, b_leq, b_gtr, b_geq, b_eql, b_neq, s_eql, s_neq, s_lss, u_not, jnX_l, jnX_r, inrX_s, oneP_I, oneP_B, oneP_S, oneP_sl, oneP_row, oneP_nil, one_I, one_B, one_S, one_sl, one_row, one_nil, extP_tup, List.getElem?_cons_zero, List.getElem?_cons_succ, esD_sl, lenP_sl, lenP_row, lenP_nil, elP_sl, ixP_nat, Bool.and_true, Bool.true_and, Bool.and_self, if_true, if_false, Bool.not_true, Bool.not_false, Bool.false_eq_true, flat_eB, flat_eI, flat_eS, Bool.or_true, Bool.true_or, agg2, agg3, agg4, agg5, agg6, agg7, agg8, zB, zI, zS, celsD_agg, mpD_mp, hx, atP_f, eNs_len, ee, h23, bstD, hb0, hbb, e5, List.length_cons, List.length_nil, Nat.zero_add, hrm, e2, ih]
theorem defs_walk_ok (n : Nat) (l : List Df) {B : Nat} (hl : DL B l) (hn : 3 * B + 200 < n) (fr : Nat) (hfr : fr < l.length) : defs_ringL n [eDs l, eNss (l.map fun d => lk l d.e), eI (fr : Int)] = some (wayD (rgF l fr)) := by
  have hlen := hl.len
  have hBb := hl.b
  have e0 : (eI ((0 : Nat) : Int)) = eI 0 := rfl
  have er : rwD [(fr, 0)] = D.sl 1 [[eI (fr : Int)]] := rfl
  have en : eNs [fr] = D.sl 1 [[eI (fr : Int)]] := rfl
  obtain ⟨M0, p1, p2⟩ := FM.nil.put fr 0 rfl
  rw [e0] at p1
  obtain ⟨M, g1, g2⟩ := bfs4_ok n l hl (by omega) fr hfr (l.length + 1) n 0 M0 [(fr, 0)] p2 (BI.start hfr) (by
    intro i e he
    cases i with
    | zero => simp at he; subst he; exact Nat.le_refl _
    | succ i => simp at he) (by omega) (by omega)
  rw [e0, er] at g1
  have hQ := bfsQ_BD hfr
  rcases rgF_spec hfr with ⟨h1, _, h3⟩ | ⟨m, w, h1, _⟩
  · rw [h1, wayD]
    obtain ⟨d, hd⟩ : ∃ d, l[fr]? = some d := ⟨l[fr], List.getElem?_eq_getElem hfr⟩
    have hdm := hl.e d (List.mem_of_getElem? hd)
    have hll := lk_len l d.e
    have hx : ixP 1 (eNss (l.map fun d => lk l d.e)) (eI (fr : Int)) = some [eNs (lk l d.e)] := eNss_ix (by simp [hd])
    have ee : ∀ x, D.sl 1 (esD (eNs x)) = eNs x := fun _ => rfl
    have hbn : bst (bfsQ l fr) fr (lk l d.e) none = none := by
      rw [← to_some hd]
      rcases bst_none hQ.zero (to l fr) (fun _ => hQ.far.2 hQ.fst) with ⟨q1, _⟩ | ⟨b, d', q1, q2⟩
      · exact q1
      · exact absurd (hQ.snd _ (farQ_mem q2.1)) (h3 b q2.mem d')
    have h23 := wlk23_ok n (lk l d.e) (Q := bfsQ l fr) g2 fr (eNss (l.map fun d => lk l d.e)) [fr] (by omega) (by omega)
    rw [hbn, en] at h23
    obtain ⟨n', rfl⟩ : ∃ q, n = q + 1 := ⟨n - 1, by omega⟩
    have hstep : iterL (defs_ring_l21 (n' + 1)) (n' + 1) [eNss (l.map fun d => lk l d.e), eI (fr : Int), eI (fr : Int), .mp M, D.sl 1 [[eI (fr : Int)]]] = some NILD := by
      rw [iterL_s]
      simp only [defs_ring_l21, obind_s, og_t, oif_b, pd_0, pd_s, and_ch, or_ch, b_lss, b_leq, b_gtr, b_geq, b_eql, b_neq, s_eql, s_neq, s_lss, u_not, jnX_l, jnX_r, inrX_s, oneP_I, oneP_B, oneP_S, oneP_sl, oneP_row, oneP_nil, one_I, one_B, one_S, one_sl, one_row, one_nil, extP_tup, List.getElem?_cons_zero, List.getElem?_cons_succ, esD_sl, lenP_sl, lenP_row, lenP_nil, elP_sl, ixP_nat, Bool.and_true, Bool.true_and, Bool.and_self, if_true, if_false, Bool.not_true, Bool.not_false, Bool.false_eq_true, flat_eB, flat_eI, flat_eS, Bool.or_true, Bool.true_or, agg2, agg3, agg4, agg5, agg6, agg7, agg8, zB, zI, zS, celsD_agg, mpD_mp, hx, atP_f, eNs_len, h23, bstD, decide_eq_true (show (-1 : Int) < 0 by omega)]
    simp only [defs_ringL, defs_ring, obind_s, og_t, oif_b, pd_0, pd_s, and_ch, or_ch, b_lss, b_leq, b_gtr, b_geq, b_eql, b_neq, s_eql, s_neq, s_lss, u_not, jnX_l, jnX_r, inrX_s, oneP_I, oneP_B, oneP_S, oneP_sl, oneP_row, oneP_nil, one_I, one_B, one_S, one_sl, one_row, one_nil, extP_tup, List.getElem?_cons_zero, List.getElem?_cons_succ, esD_sl, lenP_sl, lenP_row, lenP_nil, elP_sl, ixP_nat, Bool.and_true, Bool.true_and, Bool.and_self, if_true, if_false, Bool.not_true, Bool.not_false, Bool.false_eq_true, flat_eB, flat_eI, flat_eS, Bool.or_true, Bool.true_or, agg2, agg3, agg4, agg5, agg6, agg7, agg8, zB, zI, zS, celsD_agg, mpD_mp, p1, g1, hstep]
  · rw [h1, wayD]
    have h21 := wlk21_ok n l hl (by omega) fr (Q := bfsQ l fr) g2 (l.length + 1) n fr [fr] w h1 hfr (by simp; omega) (by omega)
    rw [en] at h21
    simp only [defs_ringL, defs_ring, obind_s, og_t, oif_b, pd_0, pd_s, and_ch, or_ch, b_lss, b_leq, b_gtr, b_geq, b_eql, b_neq, s_eql, s_neq, s_lss, u_not, jnX_l, jnX_r, inrX_s, oneP_I, oneP_B, oneP_S, oneP_sl, oneP_row, oneP_nil, one_I, one_B, one_S, one_sl, one_row, one_nil, extP_tup, List.getElem?_cons_zero, List.getElem?_cons_succ, esD_sl, lenP_sl, lenP_row, lenP_nil, elP_sl, ixP_nat, Bool.and_true, Bool.true_and, Bool.and_self, if_true, if_false, Bool.not_true, Bool.not_false, Bool.false_eq_true, flat_eB, flat_eI, flat_eS, Bool.or_true, Bool.true_or, agg2, agg3, agg4, agg5, agg6, agg7, agg8, zB, zI, zS, celsD_agg, mpD_mp, p1, g1, h21]
theorem rgF_pos {l : List Df} {fr : Nat} (h : fr < l.length) {w : List Nat} (hw : rgF l fr = some w) : ∃ x r, w = x :: r ∧ (∀ i ∈ w, i < l.length) ∧ w.length ≤ l.length := by
  obtain ⟨m, h1, h2, h3, _⟩ := rgF_way h hw
  obtain ⟨r, h4⟩ := rgF_cons h hw
  exact ⟨fr, r, h4, (wayF_lt m [fr] w (by simpa using h) h1).1, by omega⟩
theorem nileq_e (a : Nat) (r : List Nat) : nileqP .eql (eNs (a :: r)) NILD = some (eB false) := rfl
theorem nilne_e (a : Nat) (r : List Nat) : nileqP .neq (eNs (a :: r)) NILD = some (eB true) := rfl
theorem nileq_n : nileqP .eql NILD NILD = some (eB true) := rfl
theorem nilne_n : nileqP .neq NILD NILD = some (eB false) := rfl
theorem Ring4_ok (n : Nat) (l : List Df) {B : Nat} (hl : DL B l) (hn : 4 * B + 300 < n) :
    iterL (defs_Ring_l4 n) n [eDs l, eNss (l.map fun d => lk l d.e), NILD, eI l.length, eI 0] = some (.inl [eDs l, wayD (rngP l)]) ∧ ∀ w, rngP l = some w → (∀ i ∈ w, i < l.length) ∧ w.length ≤ l.length ∧ 0 < w.length := by
  have hlen := hl.len
  have hBb := hl.b
  have e0 : (eI ((0 : Nat) : Int)) = eI 0 := rfl
  have hI : ∀ b i, i < l.length → (∀ w, b = some w → ∃ j, j < l.length ∧ rgF l j = some w) → ∀ w, bestS l b i = some w → ∃ j, j < l.length ∧ rgF l j = some w := by
    intro b i hi hb w hw
    unfold bestS at hw
    split at hw
    · split at hw
      · exact hb w hw
      · rename_i r hr
        split at hw
        · cases hw; exact ⟨i, hi, hr⟩
        · split at hw
          · cases hw; exact ⟨i, hi, hr⟩
          · cases hw; exact hb _ rfl
    · exact hb w hw
  have hl' := iterL_list (f := defs_Ring_l4 n) (List.range l.length) (fun j (b : Option (List Nat)) => [eDs l, eNss (l.map fun d => lk l d.e), wayD b, eI l.length, eI (j : Int)])
    (fun q b => (.inl [eDs l, wayD (q.foldl (bestS l) b)] : List D ⊕ D)) (fun _ b => ∀ w, b = some w → ∃ j, j < l.length ∧ rgF l j = some w) ?_ ?_ n 0 none (by intro w hw; cases hw) (by simp; omega) (Nat.zero_le _)
  · rw [e0, List.drop_zero] at hl'
    refine ⟨hl', ?_⟩
    intro w hw
    have hb := rngP_best l
    rw [hw] at hb
    obtain ⟨i, hi, h1, _⟩ := hb
    obtain ⟨x, r, h2, h3, h4⟩ := rgF_pos (by simpa using hi) h1
    exact ⟨h3, h4, by rw [h2]; simp⟩
  · intro b _
    rw [List.length_range]
    simp only [defs_Ring_l4, obind_s, og_t, oif_b, pd_0, pd_s, and_ch, or_ch, b_lss, b_leq, b_gtr, b_geq, b_eql, b_neq, s_eql, s_neq, s_lss, u_not, jnX_l, jnX_r, inrX_s, oneP_I, oneP_B, oneP_S, oneP_sl, oneP_row, oneP_nil, one_I, one_B, one_S, one_sl, one_row, one_nil, extP_tup, List.getElem?_cons_zero, List.getElem?_cons_succ, esD_sl, lenP_sl, lenP_row, lenP_nil, elP_sl, ixP_nat, Bool.and_true, Bool.true_and, Bool.and_self, if_true, if_false, Bool.not_true, Bool.not_false, Bool.false_eq_true, flat_eB, flat_eI, flat_eS, Bool.or_true, Bool.true_or, agg2, agg3, agg4, agg5, agg6, agg7, agg8, zB, zI, zS, celsD_agg, mpD_mp, decide_eq_false (show ¬ ((l.length : Int) < l.length) by omega), List.foldl_nil]
  · intro j i b hi hj hb
    rw [List.length_range] at hj
    have hij : i = j := by rw [List.getElem?_range hj] at hi; exact (Option.some.inj hi).symm
    subst hij
    have hjl := decide_eq_true (show ((i : Int) < (l.length : Int)) by omega)
    obtain ⟨M, r1, r2⟩ := defs_ring_ok l hl n (by omega) i hj
    have hW := defs_walk_ok n l hl (by omega) i hj
    have hent : entP (.mp M) = some M := rfl
    left
    refine ⟨bestS l b i, ?_, by simp only [List.foldl_cons], hI b i hj hb⟩
    unfold bestS
    cases hr : ringB l i with
    | false =>
      rw [hr] at r2
      simp only [defs_Ring_l4, obind_s, og_t, oif_b, pd_0, pd_s, and_ch, or_ch, b_lss, b_leq, b_gtr, b_geq, b_eql, b_neq, s_eql, s_neq, s_lss, u_not, jnX_l, jnX_r, inrX_s, oneP_I, oneP_B, oneP_S, oneP_sl, oneP_row, oneP_nil, one_I, one_B, one_S, one_sl, one_row, one_nil, extP_tup, List.getElem?_cons_zero, List.getElem?_cons_succ, esD_sl, lenP_sl, lenP_row, lenP_nil, elP_sl, ixP_nat, Bool.and_true, Bool.true_and, Bool.and_self, if_true, if_false, Bool.not_true, Bool.not_false, Bool.false_eq_true, flat_eB, flat_eI, flat_eS, Bool.or_true, Bool.true_or, agg2, agg3, agg4, agg5, agg6, agg7, agg8, zB, zI, zS, celsD_agg, mpD_mp, hjl, r1, hent, r2, add1 (bt := false) (i := i) (by omega)]
    | true =>
      rw [hr] at r2
      cases hg : rgF l i with
      | none =>
        rw [hg, wayD] at hW
        simp only [defs_Ring_l4, obind_s, og_t, oif_b, pd_0, pd_s, and_ch, or_ch, b_lss, b_leq, b_gtr, b_geq, b_eql, b_neq, s_eql, s_neq, s_lss, u_not, jnX_l, jnX_r, inrX_s, oneP_I, oneP_B, oneP_S, oneP_sl, oneP_row, oneP_nil, one_I, one_B, one_S, one_sl, one_row, one_nil, extP_tup, List.getElem?_cons_zero, List.getElem?_cons_succ, esD_sl, lenP_sl, lenP_row, lenP_nil, elP_sl, ixP_nat, Bool.and_true, Bool.true_and, Bool.and_self, if_true, if_false, Bool.not_true, Bool.not_false, Bool.false_eq_true, flat_eB, flat_eI, flat_eS, Bool.or_true, Bool.true_or, agg2, agg3, agg4, agg5, agg6, agg7, agg8, zB, zI, zS, celsD_agg, mpD_mp, hjl, r1, hent, r2, hW, nilne_n, gD_b, gD_u, pick_b, add1 (bt := false) (i := i) (by omega)]
      | some r =>
        rw [hg, wayD] at hW
        obtain ⟨x, r', hr1, hr2, hr3⟩ := rgF_pos hj hg
        cases b with
        | none =>
          subst hr1
          simp only [defs_Ring_l4, obind_s, og_t, oif_b, pd_0, pd_s, and_ch, or_ch, b_lss, b_leq, b_gtr, b_geq, b_eql, b_neq, s_eql, s_neq, s_lss, u_not, jnX_l, jnX_r, inrX_s, oneP_I, oneP_B, oneP_S, oneP_sl, oneP_row, oneP_nil, one_I, one_B, one_S, one_sl, one_row, one_nil, extP_tup, List.getElem?_cons_zero, List.getElem?_cons_succ, esD_sl, lenP_sl, lenP_row, lenP_nil, elP_sl, ixP_nat, Bool.and_true, Bool.true_and, Bool.and_self, if_true, if_false, Bool.not_true, Bool.not_false, Bool.false_eq_true, flat_eB, flat_eI, flat_eS, Bool.or_true, Bool.true_or, agg2, agg3, agg4, agg5, agg6, agg7, agg8, zB, zI, zS, celsD_agg, mpD_mp, hjl, r1, hent, r2, hW, nilne_e, wayD, nileq_n, gD_b, gD_u, pick_b, if_true, if_false, Bool.true_eq_false, add1 (bt := false) (i := i) (by omega)]
        | some w =>
          obtain ⟨j2, hj2, hw2⟩ := hb w rfl
          obtain ⟨y, w', hw3, hw4, hw5⟩ := rgF_pos hj2 hw2
          have hle := defs_less_ok n l r w hr2 hw4 (by omega) (by omega)
          cases hlb : lessB l r w with
          | true =>
            rw [hlb] at hle
            subst hr1; subst hw3
            simp only [defs_Ring_l4, obind_s, og_t, oif_b, pd_0, pd_s, and_ch, or_ch, b_lss, b_leq, b_gtr, b_geq, b_eql, b_neq, s_eql, s_neq, s_lss, u_not, jnX_l, jnX_r, inrX_s, oneP_I, oneP_B, oneP_S, oneP_sl, oneP_row, oneP_nil, one_I, one_B, one_S, one_sl, one_row, one_nil, extP_tup, List.getElem?_cons_zero, List.getElem?_cons_succ, esD_sl, lenP_sl, lenP_row, lenP_nil, elP_sl, ixP_nat, Bool.and_true, Bool.true_and, Bool.and_self, if_true, if_false, Bool.not_true, Bool.not_false, Bool.false_eq_true, flat_eB, flat_eI, flat_eS, Bool.or_true, Bool.true_or, agg2, agg3, agg4, agg5, agg6, agg7, agg8, zB, zI, zS, celsD_agg, mpD_mp, hjl, r1, hent, r2, hW, nilne_e, wayD, nileq_e, hle, hlb, gD_b, gD_u, pick_b, if_true, if_false, Bool.true_eq_false, add1 (bt := false) (i := i) (by omega)]
          | false =>
            rw [hlb] at hle
            subst hr1; subst hw3
            simp only [defs_Ring_l4, obind_s, og_t, oif_b, pd_0, pd_s, and_ch, or_ch, b_lss, b_leq, b_gtr, b_geq, b_eql, b_neq, s_eql, s_neq, s_lss, u_not, jnX_l, jnX_r, inrX_s, oneP_I, oneP_B, oneP_S, oneP_sl, oneP_row, oneP_nil, one_I, one_B, one_S, one_sl, one_row, one_nil, extP_tup, List.getElem?_cons_zero, List.getElem?_cons_succ, esD_sl, lenP_sl, lenP_row, lenP_nil, elP_sl, ixP_nat, Bool.and_true, Bool.true_and, Bool.and_self, if_true, if_false, Bool.not_true, Bool.not_false, Bool.false_eq_true, flat_eB, flat_eI, flat_eS, Bool.or_true, Bool.true_or, agg2, agg3, agg4, agg5, agg6, agg7, agg8, zB, zI, zS, celsD_agg, mpD_mp, hjl, r1, hent, r2, hW, nilne_e, wayD, nileq_e, hle, hlb, gD_b, gD_u, pick_b, if_true, if_false, Bool.true_eq_false, add1 (bt := false) (i := i) (by omega)]
theorem txt13_ok (n : Nat) (l : List Df) (w : List Nat) (hw : ∀ i ∈ w, i < l.length) (hn : w.length < n) (hb : w.length < 1000000000) : iterL (defs_Ring_l13 n) n [eDs l, eNs w, eI w.length, eI 0, D.sl 1 []] = some (.inl [eSs (txt l w)]) := by
  have e0 : (eI ((0 : Nat) : Int)) = eI 0 := rfl
  have e1 : eSs [] = D.sl 1 [] := rfl
  have ee : ∀ x, D.sl 1 (esD (eSs x)) = eSs x := fun _ => rfl
  have hi := iterL_list (f := defs_Ring_l13 n) w (fun j (s : List ByteArray) => [eDs l, eNs w, eI w.length, eI (j : Int), eSs s]) (fun q s => (.inl [eSs (s ++ txt l q)] : List D ⊕ D)) (fun j s => s.length = j) ?_ ?_ n 0 [] rfl (by omega) (Nat.zero_le _)
  · rw [e0, e1, List.drop_zero, List.nil_append] at hi; exact hi
  · intro s _
    simp only [defs_Ring_l13, obind_s, og_t, oif_b, pd_0, pd_s, and_ch, or_ch, b_lss, b_leq, b_gtr, b_geq, b_eql, b_neq, s_eql, s_neq, s_lss, u_not, jnX_l, jnX_r, inrX_s, oneP_I, oneP_B, oneP_S, oneP_sl, oneP_row, oneP_nil, one_I, one_B, one_S, one_sl, one_row, one_nil, extP_tup, List.getElem?_cons_zero, List.getElem?_cons_succ, esD_sl, lenP_sl, lenP_row, lenP_nil, elP_sl, ixP_nat, Bool.and_true, Bool.true_and, Bool.and_self, if_true, if_false, Bool.not_true, Bool.not_false, Bool.false_eq_true, flat_eB, flat_eI, flat_eS, Bool.or_true, Bool.true_or, agg2, agg3, agg4, agg5, agg6, agg7, agg8, zB, zI, zS, celsD_agg, mpD_mp, decide_eq_false (show ¬ ((w.length : Int) < w.length) by omega), ee, txt, List.map_nil, List.append_nil]
  · intro j i s hi hj hs
    have hil := hw i (List.mem_of_getElem? hi)
    obtain ⟨d, hd⟩ : ∃ d, l[i]? = some d := ⟨l[i], List.getElem?_eq_getElem hil⟩
    have h0 : ∀ d : Df, d.cells[0]? = some (eS d.name) := fun _ => rfl
    have hrm : roomP (s.length + 1) 16 = true := roomP_ok (by omega) (by omega)
    have e2 : D.sl 1 (esD (eSs s) ++ [[eS d.name]]) = eSs (s ++ [d.name]) := by simp [eSs]
    have e3 : (esD (eSs s)).length = s.length := by simp [eSs]
    left
    refine ⟨s ++ [d.name], ?_, ?_, by simp [hs]⟩
    · simp only [defs_Ring_l13, obind_s, og_t, oif_b, pd_0, pd_s, and_ch, or_ch, b_lss, b_leq, b_gtr, b_geq, b_eql, b_neq, s_eql, s_neq, s_lss, u_not, jnX_l, jnX_r, inrX_s, oneP_I, oneP_B, oneP_S, oneP_sl, oneP_row, oneP_nil, one_I, one_B, one_S, one_sl, one_row, one_nil, extP_tup, List.getElem?_cons_zero, List.getElem?_cons_succ, esD_sl, lenP_sl, lenP_row, lenP_nil, elP_sl, ixP_nat, Bool.and_true, Bool.true_and, Bool.and_self, if_true, if_false, Bool.not_true, Bool.not_false, Bool.false_eq_true, flat_eB, flat_eI, flat_eS, Bool.or_true, Bool.true_or, agg2, agg3, agg4, agg5, agg6, agg7, agg8, zB, zI, zS, celsD_agg, mpD_mp, decide_eq_true (show ((j : Int) < (w.length : Int)) by omega), eNs_ix hi, atP_f, eDs_ix hd, h0, e2, e3, List.length_cons, List.length_nil, Nat.zero_add, hrm, add1 (bt := false) (i := j) (by omega)]
    · simp only [txt, List.map_cons, nmD1_some hd, List.append_assoc, List.singleton_append]
theorem defs_Ring_ok (n : Nat) (l : List Df) {B : Nat} (hl : DL B l) (hn : 4 * B + 300 < n) : defs_RingL n [eDs l] = some (eSs (txt l ((rngP l).getD []))) := by
  have hlen := hl.len
  have hBb := hl.b
  have hL := defs_links_ok n l hl (by omega)
  obtain ⟨h4, h5⟩ := Ring4_ok n l hl hn
  have ee : ∀ x, D.sl 1 (esD (eSs x)) = eSs x := fun _ => rfl
  have e1 : eSs [] = D.sl 1 [] := rfl
  cases hr : rngP l with
  | none =>
    rw [hr, wayD] at h4
    have h13 : iterL (defs_Ring_l13 n) n [eDs l, NILD, eI 0, eI 0, D.sl 1 []] = some (.inl [D.sl 1 []]) := by
      obtain ⟨n', rfl⟩ : ∃ q, n = q + 1 := ⟨n - 1, by omega⟩
      rw [iterL_s]
      simp only [defs_Ring_l13, obind_s, og_t, oif_b, pd_0, pd_s, and_ch, or_ch, b_lss, b_leq, b_gtr, b_geq, b_eql, b_neq, s_eql, s_neq, s_lss, u_not, jnX_l, jnX_r, inrX_s, oneP_I, oneP_B, oneP_S, oneP_sl, oneP_row, oneP_nil, one_I, one_B, one_S, one_sl, one_row, one_nil, extP_tup, List.getElem?_cons_zero, List.getElem?_cons_succ, esD_sl, lenP_sl, lenP_row, lenP_nil, elP_sl, ixP_nat, Bool.and_true, Bool.true_and, Bool.and_self, if_true, if_false, Bool.not_true, Bool.not_false, Bool.false_eq_true, flat_eB, flat_eI, flat_eS, Bool.or_true, Bool.true_or, agg2, agg3, agg4, agg5, agg6, agg7, agg8, zB, zI, zS, celsD_agg, mpD_mp, decide_eq_false (show ¬ ((0 : Int) < 0) by omega)]
    simp only [defs_RingL, defs_Ring, obind_s, og_t, oif_b, pd_0, pd_s, and_ch, or_ch, b_lss, b_leq, b_gtr, b_geq, b_eql, b_neq, s_eql, s_neq, s_lss, u_not, jnX_l, jnX_r, inrX_s, oneP_I, oneP_B, oneP_S, oneP_sl, oneP_row, oneP_nil, one_I, one_B, one_S, one_sl, one_row, one_nil, extP_tup, List.getElem?_cons_zero, List.getElem?_cons_succ, esD_sl, lenP_sl, lenP_row, lenP_nil, elP_sl, ixP_nat, Bool.and_true, Bool.true_and, Bool.and_self, if_true, if_false, Bool.not_true, Bool.not_false, Bool.false_eq_true, flat_eB, flat_eI, flat_eS, Bool.or_true, Bool.true_or, agg2, agg3, agg4, agg5, agg6, agg7, agg8, zB, zI, zS, celsD_agg, mpD_mp, hL, eDs_len, h4, h13, Option.getD_none, txt, List.map_nil, e1]
  | some w =>
    obtain ⟨q1, q2, q3⟩ := h5 w hr
    rw [hr, wayD] at h4
    have h13 := txt13_ok n l w q1 (by omega) (by omega)
    simp only [defs_RingL, defs_Ring, obind_s, og_t, oif_b, pd_0, pd_s, and_ch, or_ch, b_lss, b_leq, b_gtr, b_geq, b_eql, b_neq, s_eql, s_neq, s_lss, u_not, jnX_l, jnX_r, inrX_s, oneP_I, oneP_B, oneP_S, oneP_sl, oneP_row, oneP_nil, one_I, one_B, one_S, one_sl, one_row, one_nil, extP_tup, List.getElem?_cons_zero, List.getElem?_cons_succ, esD_sl, lenP_sl, lenP_row, lenP_nil, elP_sl, ixP_nat, Bool.and_true, Bool.true_and, Bool.and_self, if_true, if_false, Bool.not_true, Bool.not_false, Bool.false_eq_true, flat_eB, flat_eI, flat_eS, Bool.or_true, Bool.true_or, agg2, agg3, agg4, agg5, agg6, agg7, agg8, zB, zI, zS, celsD_agg, mpD_mp, hL, eDs_len, h4, eNs_len, h13, Option.getD_some, ee]
end Go.Am
namespace Go.Am
set_option linter.unusedVariables false
set_option linter.unusedSimpArgs false
theorem Texts_self (n : Nat) (a : List ByteArray) (d : D) (hd : d = eSs a ∨ (a = [] ∧ d = NILD)) (hn : a.length < n) (hb : a.length < 1000000000) : ref30_TextsL n [eSs a, d] = some (eB true) := by
  have e0 : (eI ((0 : Nat) : Int)) = eI 0 := rfl
  have hld : lenP d = some (eI (a.length : Int)) := by
    rcases hd with rfl | ⟨rfl, rfl⟩
    · exact eSs_len a
    · rfl
  have hx : ∀ (j : Nat) (s : ByteArray), a[j]? = some s → ixP 1 d (eI (j : Int)) = some [eS s] := by
    intro j s hs
    rcases hd with rfl | ⟨rfl, rfl⟩
    · exact eSs_ix hs
    · cases hs
  have hl := iterL_list (f := ref30_Texts_l4 n) a (fun j (_ : Unit) => [eSs a, d, eI (j : Int)]) (fun q _ => (.inl [] : List D ⊕ D)) (fun _ _ => True) ?_ ?_ n 0 () trivial (by omega) (Nat.zero_le _)
  · rw [e0] at hl
    have hne : ((a.length : Int) != (a.length : Int)) = false := by simp
    simp only [ref30_TextsL, ref30_Texts, obind_s, og_t, oif_b, pd_0, pd_s, and_ch, or_ch, b_lss, b_leq, b_gtr, b_geq, b_eql, b_neq, s_eql, s_neq, s_lss, u_not, jnX_l, jnX_r, inrX_s, oneP_I, oneP_B, oneP_S, oneP_sl, oneP_row, oneP_nil, one_I, one_B, one_S, one_sl, one_row, one_nil, extP_tup, List.getElem?_cons_zero, List.getElem?_cons_succ, esD_sl, lenP_sl, lenP_row, lenP_nil, elP_sl, ixP_nat, Bool.and_true, Bool.true_and, Bool.and_self, if_true, if_false, Bool.not_true, Bool.not_false, Bool.false_eq_true, flat_eB, flat_eI, flat_eS, Bool.or_true, Bool.true_or, agg2, agg3, agg4, agg5, agg6, agg7, agg8, zB, zI, zS, celsD_agg, mpD_mp, eSs_len, hld, hne, hl]
  · intro _ _
    simp only [ref30_Texts_l4, obind_s, og_t, oif_b, pd_0, pd_s, and_ch, or_ch, b_lss, b_leq, b_gtr, b_geq, b_eql, b_neq, s_eql, s_neq, s_lss, u_not, jnX_l, jnX_r, inrX_s, oneP_I, oneP_B, oneP_S, oneP_sl, oneP_row, oneP_nil, one_I, one_B, one_S, one_sl, one_row, one_nil, extP_tup, List.getElem?_cons_zero, List.getElem?_cons_succ, esD_sl, lenP_sl, lenP_row, lenP_nil, elP_sl, ixP_nat, Bool.and_true, Bool.true_and, Bool.and_self, if_true, if_false, Bool.not_true, Bool.not_false, Bool.false_eq_true, flat_eB, flat_eI, flat_eS, Bool.or_true, Bool.true_or, agg2, agg3, agg4, agg5, agg6, agg7, agg8, zB, zI, zS, celsD_agg, mpD_mp, eSs_len, decide_eq_false (show ¬ ((a.length : Int) < a.length) by omega)]
  · intro j s _ hs hj _
    left
    refine ⟨(), ?_, rfl, trivial⟩
    simp only [ref30_Texts_l4, obind_s, og_t, oif_b, pd_0, pd_s, and_ch, or_ch, b_lss, b_leq, b_gtr, b_geq, b_eql, b_neq, s_eql, s_neq, s_lss, u_not, jnX_l, jnX_r, inrX_s, oneP_I, oneP_B, oneP_S, oneP_sl, oneP_row, oneP_nil, one_I, one_B, one_S, one_sl, one_row, one_nil, extP_tup, List.getElem?_cons_zero, List.getElem?_cons_succ, esD_sl, lenP_sl, lenP_row, lenP_nil, elP_sl, ixP_nat, Bool.and_true, Bool.true_and, Bool.and_self, if_true, if_false, Bool.not_true, Bool.not_false, Bool.false_eq_true, flat_eB, flat_eI, flat_eS, Bool.or_true, Bool.true_or, agg2, agg3, agg4, agg5, agg6, agg7, agg8, zB, zI, zS, celsD_agg, mpD_mp, eSs_len, decide_eq_true (show ((j : Int) < (a.length : Int)) by omega), eSs_ix hs, hx j s hs, atP_f, decide_true, Bool.not_true, add1 (bt := false) (i := j) (by omega)]
theorem Same03_self (n : Nat) (a : List Nat) (hn : a.length < n) (hb : a.length < 1000000000) : ref03_SameL n [eNs a, eNs a] = some (eB true) := by
  have e0 : (eI ((0 : Nat) : Int)) = eI 0 := rfl
  have hl := iterL_list (f := ref03_Same_l4 n) a (fun j (_ : Unit) => [eNs a, eNs a, eI (j : Int)]) (fun q _ => (.inl [] : List D ⊕ D)) (fun _ _ => True) ?_ ?_ n 0 () trivial (by omega) (Nat.zero_le _)
  · rw [e0] at hl
    have hne : ((a.length : Int) != (a.length : Int)) = false := by simp
    simp only [ref03_SameL, ref03_Same, obind_s, og_t, oif_b, pd_0, pd_s, and_ch, or_ch, b_lss, b_leq, b_gtr, b_geq, b_eql, b_neq, s_eql, s_neq, s_lss, u_not, jnX_l, jnX_r, inrX_s, oneP_I, oneP_B, oneP_S, oneP_sl, oneP_row, oneP_nil, one_I, one_B, one_S, one_sl, one_row, one_nil, extP_tup, List.getElem?_cons_zero, List.getElem?_cons_succ, esD_sl, lenP_sl, lenP_row, lenP_nil, elP_sl, ixP_nat, Bool.and_true, Bool.true_and, Bool.and_self, if_true, if_false, Bool.not_true, Bool.not_false, Bool.false_eq_true, flat_eB, flat_eI, flat_eS, Bool.or_true, Bool.true_or, agg2, agg3, agg4, agg5, agg6, agg7, agg8, zB, zI, zS, celsD_agg, mpD_mp, eNs_len, hne, hl]
  · intro _ _
    simp only [ref03_Same_l4, obind_s, og_t, oif_b, pd_0, pd_s, and_ch, or_ch, b_lss, b_leq, b_gtr, b_geq, b_eql, b_neq, s_eql, s_neq, s_lss, u_not, jnX_l, jnX_r, inrX_s, oneP_I, oneP_B, oneP_S, oneP_sl, oneP_row, oneP_nil, one_I, one_B, one_S, one_sl, one_row, one_nil, extP_tup, List.getElem?_cons_zero, List.getElem?_cons_succ, esD_sl, lenP_sl, lenP_row, lenP_nil, elP_sl, ixP_nat, Bool.and_true, Bool.true_and, Bool.and_self, if_true, if_false, Bool.not_true, Bool.not_false, Bool.false_eq_true, flat_eB, flat_eI, flat_eS, Bool.or_true, Bool.true_or, agg2, agg3, agg4, agg5, agg6, agg7, agg8, zB, zI, zS, celsD_agg, mpD_mp, eNs_len, decide_eq_false (show ¬ ((a.length : Int) < a.length) by omega)]
  · intro j s _ hs hj _
    have hne : ((s : Int) != (s : Int)) = false := by simp
    left
    refine ⟨(), ?_, rfl, trivial⟩
    simp only [ref03_Same_l4, obind_s, og_t, oif_b, pd_0, pd_s, and_ch, or_ch, b_lss, b_leq, b_gtr, b_geq, b_eql, b_neq, s_eql, s_neq, s_lss, u_not, jnX_l, jnX_r, inrX_s, oneP_I, oneP_B, oneP_S, oneP_sl, oneP_row, oneP_nil, one_I, one_B, one_S, one_sl, one_row, one_nil, extP_tup, List.getElem?_cons_zero, List.getElem?_cons_succ, esD_sl, lenP_sl, lenP_row, lenP_nil, elP_sl, ixP_nat, Bool.and_true, Bool.true_and, Bool.and_self, if_true, if_false, Bool.not_true, Bool.not_false, Bool.false_eq_true, flat_eB, flat_eI, flat_eS, Bool.or_true, Bool.true_or, agg2, agg3, agg4, agg5, agg6, agg7, agg8, zB, zI, zS, celsD_agg, mpD_mp, eNs_len, decide_eq_true (show ((j : Int) < (a.length : Int)) by omega), eNs_ix hs, atP_f, hne, add1 (bt := false) (i := j) (by omega)]
theorem Same03_nil (n : Nat) (hn : 2 < n) : ref03_SameL n [NILD, NILD] = some (eB true) := by
  obtain ⟨n', rfl⟩ : ∃ q, n = q + 1 := ⟨n - 1, by omega⟩
  have hne : ((0 : Int) != (0 : Int)) = false := rfl
  have h1 : iterL (ref03_Same_l4 (n' + 1)) (n' + 1) [NILD, NILD, eI 0] = some (.inl []) := by
    rw [iterL_s]
    simp only [ref03_Same_l4, obind_s, og_t, oif_b, pd_0, pd_s, and_ch, or_ch, b_lss, b_leq, b_gtr, b_geq, b_eql, b_neq, s_eql, s_neq, s_lss, u_not, jnX_l, jnX_r, inrX_s, oneP_I, oneP_B, oneP_S, oneP_sl, oneP_row, oneP_nil, one_I, one_B, one_S, one_sl, one_row, one_nil, extP_tup, List.getElem?_cons_zero, List.getElem?_cons_succ, esD_sl, lenP_sl, lenP_row, lenP_nil, elP_sl, ixP_nat, Bool.and_true, Bool.true_and, Bool.and_self, if_true, if_false, Bool.not_true, Bool.not_false, Bool.false_eq_true, flat_eB, flat_eI, flat_eS, Bool.or_true, Bool.true_or, agg2, agg3, agg4, agg5, agg6, agg7, agg8, zB, zI, zS, celsD_agg, mpD_mp, decide_eq_false (show ¬ ((0 : Int) < 0) by omega)]
  simp only [ref03_SameL, ref03_Same, obind_s, og_t, oif_b, pd_0, pd_s, and_ch, or_ch, b_lss, b_leq, b_gtr, b_geq, b_eql, b_neq, s_eql, s_neq, s_lss, u_not, jnX_l, jnX_r, inrX_s, oneP_I, oneP_B, oneP_S, oneP_sl, oneP_row, oneP_nil, one_I, one_B, one_S, one_sl, one_row, one_nil, extP_tup, List.getElem?_cons_zero, List.getElem?_cons_succ, esD_sl, lenP_sl, lenP_row, lenP_nil, elP_sl, ixP_nat, Bool.and_true, Bool.true_and, Bool.and_self, if_true, if_false, Bool.not_true, Bool.not_false, Bool.false_eq_true, flat_eB, flat_eI, flat_eS, Bool.or_true, Bool.true_or, agg2, agg3, agg4, agg5, agg6, agg7, agg8, zB, zI, zS, celsD_agg, mpD_mp, hne, h1]
theorem DefsOrders_ok (n : Nat) (l : List Df) (hll : l.length ≤ 2000000) (hd : ∀ d ∈ l, d.e.Ok ∧ d.e.sz ≤ 2000000) (hn : 400000000 < n) : law35_DefsOrdersL n [eDs l] = some (eB true) := by
  obtain ⟨n', rfl⟩ : ∃ q, n = q + 200 := ⟨n - 200, by omega⟩
  have hL := lives35_ok n'
  generalize n' + 200 = n at *
  have hF := law35_few_ok n l (by omega) (by omega) fun d hm => ⟨(hd d hm).1, by have := (hd d hm).2; omega⟩
  cases h2 : fewB l
  · simp only [law35_DefsOrdersL, law35_DefsOrders, obind_s, og_t, oif_b, pd_0, pd_s, and_ch, or_ch, b_lss, b_leq, b_gtr, b_geq, b_eql, b_neq, s_eql, s_neq, s_lss, u_not, jnX_l, jnX_r, inrX_s, oneP_I, oneP_B, oneP_S, oneP_sl, oneP_row, oneP_nil, one_I, one_B, one_S, one_sl, one_row, one_nil, extP_tup, List.getElem?_cons_zero, List.getElem?_cons_succ, esD_sl, lenP_sl, lenP_row, lenP_nil, elP_sl, ixP_nat, Bool.and_true, Bool.true_and, Bool.and_self, if_true, if_false, Bool.not_true, Bool.not_false, Bool.false_eq_true, flat_eB, flat_eI, flat_eS, Bool.or_true, Bool.true_or, agg2, agg3, agg4, agg5, agg6, agg7, agg8, zB, zI, zS, celsD_agg, mpD_mp, Tm.aggP_d, Tm.cel0, Tm.cel1, Tm.cel2, Tm.cel3, Tm.agg_d, Tm.atP_cells, Tm.rows_len, hF, h2, hL]
  have hdl := fewB_dl h2 fun d hm => ⟨(hd d hm).1, by have := (hd d hm).2; omega⟩
  have hR := ref35_Ring_ok n l hdl (by omega) (by omega)
  have hG := defs_Ring_ok n l hdl (by omega)
  rw [rng_both] at hR
  have hP := rngP_some l
  have hlen := hdl.len
  rcases Order_both n l hdl (by omega) with ⟨h1, S, h3, h4, h5⟩ | ⟨h1, h4, h5⟩
  · have hn : rngP l = none := by
      cases hq : rngP l with
      | none => rfl
      | some w =>
        rw [hq] at hP
        obtain ⟨i, h6, h7⟩ := hP.2 rfl
        rw [h1 i h6] at h7; cases h7
    rw [hn] at hR hG
    have hS := Same03_self n S (by have := h3.len; omega) (by have := h3.len; omega)
    have hT := Texts_self n [] NILD (.inr ⟨rfl, rfl⟩) (by simp; omega) (by simp)
    have e1 : eSs [] = D.sl 1 [] := rfl
    rw [e1] at hT
    simp only [Option.getD_none, txt, List.map_nil, e1] at hG
    have z0 : ((0 : Int) == 0) = true := rfl
    have z1 : ((0 : Int) == 14) = false := rfl
    have z2 : decide ((0 : Int) > 0) = false := rfl
    have z3 : (false == false) = true := rfl
    simp only [law35_DefsOrdersL, law35_DefsOrders, obind_s, og_t, oif_b, pd_0, pd_s, and_ch, or_ch, b_lss, b_leq, b_gtr, b_geq, b_eql, b_neq, s_eql, s_neq, s_lss, u_not, jnX_l, jnX_r, inrX_s, oneP_I, oneP_B, oneP_S, oneP_sl, oneP_row, oneP_nil, one_I, one_B, one_S, one_sl, one_row, one_nil, extP_tup, List.getElem?_cons_zero, List.getElem?_cons_succ, esD_sl, lenP_sl, lenP_row, lenP_nil, elP_sl, ixP_nat, Bool.and_true, Bool.true_and, Bool.and_self, if_true, if_false, Bool.not_true, Bool.not_false, Bool.false_eq_true, flat_eB, flat_eI, flat_eS, Bool.or_true, Bool.true_or, agg2, agg3, agg4, agg5, agg6, agg7, agg8, zB, zI, zS, celsD_agg, mpD_mp, Tm.aggP_d, Tm.cel0, Tm.cel1, Tm.cel2, Tm.cel3, Tm.agg_d, Tm.atP_cells, Tm.rows_len, hF, h2, hL, h4, h5, hG, hS, hR, hT, List.length_nil, Int.ofNat_zero, bb_eql, z0, z1, z2, z3]
  · obtain ⟨w, hw⟩ : ∃ w, rngP l = some w := Option.isSome_iff_exists.1 (hP.1 h1)
    have hw5 := (Ring4_ok n l hdl (by omega)).2 w hw
    rw [hw] at hR hG
    simp only [Option.getD_some] at hG
    have hS := Same03_nil n (by omega)
    have hT := Texts_self n (txt l w) (eSs (txt l w)) (.inl rfl) (by simp [txt]; omega) (by simp [txt]; omega)
    have htl : (txt l w).length = w.length := by simp [txt]
    have z0 : ((14 : Int) == 14) = true := rfl
    have z2 : decide ((w.length : Int) > 0) = true := decide_eq_true (by omega)
    have z3 : (true == true) = true := rfl
    simp only [law35_DefsOrdersL, law35_DefsOrders, obind_s, og_t, oif_b, pd_0, pd_s, and_ch, or_ch, b_lss, b_leq, b_gtr, b_geq, b_eql, b_neq, s_eql, s_neq, s_lss, u_not, jnX_l, jnX_r, inrX_s, oneP_I, oneP_B, oneP_S, oneP_sl, oneP_row, oneP_nil, one_I, one_B, one_S, one_sl, one_row, one_nil, extP_tup, List.getElem?_cons_zero, List.getElem?_cons_succ, esD_sl, lenP_sl, lenP_row, lenP_nil, elP_sl, ixP_nat, Bool.and_true, Bool.true_and, Bool.and_self, if_true, if_false, Bool.not_true, Bool.not_false, Bool.false_eq_true, flat_eB, flat_eI, flat_eS, Bool.or_true, Bool.true_or, agg2, agg3, agg4, agg5, agg6, agg7, agg8, zB, zI, zS, celsD_agg, mpD_mp, Tm.aggP_d, Tm.cel0, Tm.cel1, Tm.cel2, Tm.cel3, Tm.agg_d, Tm.atP_cells, Tm.rows_len, hF, h2, hL, h4, h5, hG, hS, hR, hT, eSs_len, htl, bb_eql, z0, z2, z3]
end Go.Am
