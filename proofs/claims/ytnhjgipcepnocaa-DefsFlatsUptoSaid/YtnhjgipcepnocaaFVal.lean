/- The law, joined to the program. No condition. -/
import Derived.Test.YtnhjgipcepnocaaFChk
import Derived.Test.YtnhjgipcepnocaaFSame
import Derived.Test.YtnhjgipcepnocaaFMany
set_option linter.all false
set_option linter.unnecessarySimpa false
namespace Go.Am
set_option linter.unusedVariables false
set_option linter.unusedSimpArgs false
/-- Valid at some place. -/
def VF (t : Fm) : Prop := ∃ deep k, (chF t deep k).1 = 0
theorem VF.one {t : Fm} (h : VF t) : oneF t = 0 := by
  obtain ⟨d, k, h⟩ := h
  rw [chF_eq] at h
  split at h
  · cases h
  split at h
  · rename_i h2; exact absurd h h2
  · rename_i h2; simpa using h2
theorem chFL_kid {l : List Fm} {d k : Int} (h : (chFL l d k).1 = 0) : ∀ x ∈ l, VF x := by
  induction l generalizing k with
  | nil => intro x hx; cases hx
  | cons a r ih =>
    intro x hx
    rw [chFL] at h
    by_cases h2 : (chF a d k).1 = 0
    · simp only [h2, ne_eq, not_true_eq_false, if_false] at h
      rcases List.mem_cons.1 hx with rfl | hx
      · exact ⟨d, k, h2⟩
      · exact ih h x hx
    · simp only [ne_eq, h2, not_false_eq_true, if_true] at h
theorem VF.kid {t k : Fm} (h : VF t) (hk : k ∈ t.kids) : VF k := by
  obtain ⟨d, n, h⟩ := h
  rw [chF_eq] at h
  split at h
  · cases h
  split at h
  · rename_i h2; exact absurd h h2
  split at h
  · cases h
  exact chFL_kid h k hk
theorem kidsF_cases {op : Int} (h : ¬ kidsF op < 0) : op = 1 ∨ op = 2 ∨ op = 3 ∨ op = 4 ∨ op = 5 ∨ op = 6 ∨ op = 7 ∨ op = 8 ∨ op = 9 ∨ op = 10 ∨ op = 11 ∨ op = 12 ∨ op = 13 := by
  unfold kidsF at h
  split at h
  · exact .inl ‹_›
  split at h
  · rename_i h2; omega
  split at h
  · rename_i h2; omega
  · omega
theorem VF.len {t : Fm} (h : VF t) : (t.kids.length : Int) = kidsF t.op ∧ ¬ kidsF t.op < 0 := by
  have h1 := h.one
  unfold oneF at h1
  split at h1
  · cases h1
  rename_i h2
  refine ⟨?_, h2⟩
  split at h1
  · rename_i h3; exact absurd h1 h3.2
  split at h1
  · cases h1
  · rename_i h4; simp only [not_or, Decidable.not_not, ne_eq] at h4; exact h4.1
theorem VF.term {t : Fm} (h : VF t) (ho : t.op = 1) : termE t.e = 0 := by
  have h1 := h.one
  unfold oneF at h1
  have k1 : ¬ kidsF 1 < 0 := by decide
  rw [ho, if_neg k1] at h1
  by_cases h2 : termE t.e = 0
  · exact h2
  · rw [if_pos ⟨rfl, h2⟩] at h1; exact absurd h1 h2
theorem T.cells4 (t : Tm) : [eI t.op, eI t.num, eS t.name, rowD 4 t.nl (Tm.rows t.kids)] = t.cells := (Tm.cells_eq t).symm
theorem F.cells6 (t : Fm) : [eI t.op, eI t.e.op, eI t.e.num, eS t.e.name, rowD 4 t.e.nl (Tm.rows t.e.kids), rowD 6 t.nl (Fm.rows t.kids)] = t.cells := (Fm.cells_eq t).symm
theorem rows_snoc (s : List Fm) (p : Fm) : Fm.rows (s ++ [p]) = Fm.rows s ++ [p.cells] := by simp [Fm.rows_map]
theorem T.dc (t : Tm) : D.agg t.cells = t.d := rfl
theorem F.dc (t : Fm) : D.agg t.cells = t.d := rfl
end Go.Am
