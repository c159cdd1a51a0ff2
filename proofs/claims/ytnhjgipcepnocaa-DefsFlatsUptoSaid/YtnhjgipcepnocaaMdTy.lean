/- Readings of modules. No condition. -/
import Derived.Test.YtnhjgipcepnocaaH3
import Derived.Test.YtnhjgipcepnocaaEngD
set_option linter.all false
set_option linter.unnecessarySimpa false
namespace Go.Am
set_option linter.unusedVariables false
def tsTy (n : Nat) : Ty := .slice 4 56 (termTy n)
def spTy (n : Nat) : Ty := .slice 7 104 (.struct [.str, formTy n])
def mdTy (n : Nat) : Ty := .struct [tyVs, dfTy n, tsTy n, tsTy n, dfTy n, tsTy n, tsTy n, spTy n]
theorem tsTy_dp (n : Nat) : ∀ m, m ≤ n → (tsTy n).dp m = true
  | 0, _ => rfl
  | m + 1, h => by
    have := termTy_dp n m (by omega)
    simp only [tsTy, Ty.dp, this]
theorem spTy_dp (n : Nat) : ∀ m, m ≤ n → (spTy n).dp m = true
  | 0, _ => rfl
  | 1, _ => by simp [spTy, Ty.dp]
  | m + 2, h => by
    have h1 := formTy_dp n m (by omega)
    have h2 : Ty.dp m .str = true := dp_noStop m .str rfl
    simp only [spTy, Ty.dp, dpL, h1, h2, Bool.and_true]
theorem mdTy_dp (n : Nat) : ∀ m, m ≤ n → (mdTy n).dp m = true
  | 0, _ => rfl
  | m + 1, h => by
    have h0 : Ty.dp m tyVs = true := dp_noStop m tyVs rfl
    simp only [mdTy, Ty.dp, dpL, h0, dfTy_dp n m (by omega), tsTy_dp n m (by omega), spTy_dp n m (by omega), Bool.and_true]
theorem mdF_ok {P : Program} {t tv td tt ts tm tf : TypeId} (h : ∀ a b c d e f g i, tyOk P (.struct [a, b, c, d, e, f, g, i]) t = (tyOk P a tv && (tyOk P b td && (tyOk P c tt && (tyOk P d tt && (tyOk P e td && (tyOk P f tt && (tyOk P g tt && (tyOk P i ts && true)))))))))
    (hv : tyOk P tyVs tv = true) (hd : FOkT P dfTy td) (ht : ∀ y, tyOk P (.slice 4 56 y) tt = tyOk P y tm) (hm : FOkT P termTy tm) (hs : ∀ y, tyOk P (.slice 7 104 (.struct [.str, y])) ts = (tyOk P y tf && true)) (hf : FOkT P formTy tf) (hl : decide (t < P.types.size) = true) : FOkT P mdTy t :=
  ⟨fun n => mdTy_dp n n (Nat.le_refl _), fun n => by
    rw [mdTy, h, hv, hd.ok n, tsTy, ht, hm.ok n, spTy, hs, hf.ok n]; rfl, of_decide_eq_true hl, fun n => rfl⟩
theorem wt_Sp {n : Nat} {x : List D} (h : Wt (.struct [.str, formTy n]) x) : ∃ d : Sp, x = d.cells ∧ d.f.Ok := by
  obtain ⟨a, b, rfl, ha, c, e, rfl, hc, rfl⟩ := h
  obtain ⟨s, rfl, hs⟩ := wt_str ha
  obtain ⟨t, rfl, ht⟩ := wt_Fm n hc
  exact ⟨⟨s, t⟩, by simp [Sp.cells, Fm.cells_eq], ht⟩
theorem wt_Md {n : Nat} {d : D} (h : WtP (mdTy n) d) : ∃ m : Md, d = m.d ∧ (∀ x ∈ m.defs, x.e.Ok) ∧ (∀ x ∈ m.init ++ m.invar ++ m.trans ++ m.fair, x.Ok) ∧ (∀ x ∈ m.next, x.e.Ok) ∧ ∀ x ∈ m.specs, x.f.Ok := by
  obtain ⟨ds, rfl, a0, b0, rfl, h0, a1, b1, rfl, h1, a2, b2, rfl, h2, a3, b3, rfl, h3, a4, b4, rfl, h4, a5, b5, rfl, h5, a6, b6, rfl, h6, a7, b7, rfl, h7, rfl⟩ := h
  obtain ⟨e0, rfl, _, _, w0⟩ := h0
  obtain ⟨e1, rfl, _, _, w1⟩ := h1
  obtain ⟨e2, rfl, _, _, w2⟩ := h2
  obtain ⟨e3, rfl, _, _, w3⟩ := h3
  obtain ⟨e4, rfl, _, _, w4⟩ := h4
  obtain ⟨e5, rfl, _, _, w5⟩ := h5
  obtain ⟨e6, rfl, _, _, w6⟩ := h6
  obtain ⟨e7, rfl, _, _, w7⟩ := h7
  obtain ⟨l0, rfl, q0⟩ := list_of V.cells V.ok e0 fun x hx => wt_V (w0 x hx).2
  obtain ⟨l1, rfl, q1⟩ := list_of Df.cells Df.Ok e1 fun x hx => wt_Df (w1 x hx).2
  obtain ⟨l2, rfl, q2⟩ := list_of Tm.cells Tm.Ok e2 fun x hx => wt_Tm n (w2 x hx).2
  obtain ⟨l3, rfl, q3⟩ := list_of Tm.cells Tm.Ok e3 fun x hx => wt_Tm n (w3 x hx).2
  obtain ⟨l4, rfl, q4⟩ := list_of Df.cells Df.Ok e4 fun x hx => wt_Df (w4 x hx).2
  obtain ⟨l5, rfl, q5⟩ := list_of Tm.cells Tm.Ok e5 fun x hx => wt_Tm n (w5 x hx).2
  obtain ⟨l6, rfl, q6⟩ := list_of Tm.cells Tm.Ok e6 fun x hx => wt_Tm n (w6 x hx).2
  obtain ⟨l7, rfl, q7⟩ := list_of Sp.cells (fun s => s.f.Ok) e7 fun x hx => wt_Sp (w7 x hx).2
  refine ⟨⟨l0, l1, l2, l3, l4, l5, l6, l7⟩, ?_, fun x hx => (q1 x hx).2, ?_, fun x hx => (q4 x hx).2, q7⟩
  · simp only [Md.d, eVs, eDs, eTs, eSps, Tm.rows_map]; rfl
  · intro x hx
    simp only [List.mem_append] at hx
    rcases hx with ((hx | hx) | hx) | hx
    · exact q2 x hx
    · exact q3 x hx
    · exact q5 x hx
    · exact q6 x hx
end Go.Am
