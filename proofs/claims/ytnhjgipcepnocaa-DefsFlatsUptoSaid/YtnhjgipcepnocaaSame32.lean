/- The law, joined to the program. No condition. -/
import Derived.Test.YtnhjgipcepnocaaLaws
set_option linter.all false
set_option linter.unnecessarySimpa false
namespace Go.Am
set_option linter.unusedVariables false
set_option linter.unusedSimpArgs false
/-! ### Same -/
theorem ref32_term_ok : ∀ (n : Nat) (t u : Tm), t.sz < n → t.Ok → u.Ok → ref32_termL n [t.d, u.d] = some (eB (sameT t u))
  | 0, t, _, h, _, _ => absurd h (Nat.not_lt_zero _)
  | n + 1, t, u, hn, hok, hou => by
    have hlen := hok.len
    show ref32_term (ref32_termL n) n t.d u.d = _
    rcases same_cond t u with ⟨h1, h2, h3, h4⟩ | ⟨hf, hc⟩
    · have hl := iterL_list (f := ref32_term_l4 (ref32_termL n) n) t.kids (fun i (_ : Unit) => [eI (i : Int), eI t.op, eI t.num, eS t.name, rowD 4 t.nl (Tm.rows t.kids), eI u.op, eI u.num, eS u.name, rowD 4 u.nl (Tm.rows u.kids)])
        (fun r _ => if sameL r (u.kids.drop (t.kids.length - r.length)) = true then (.inl [] : List D ⊕ D) else .inr (eB false)) (fun _ _ => True)
        (fun _ _ => by simp [ref32_term_l4, sameL]) ?_ n 0 () trivial (by have := t.sz_len; omega) (Nat.zero_le _)
      · have e0 : (eI ((0 : Nat) : Int)) = eI 0 := rfl
        rw [e0] at hl
        simp only [List.drop_zero, Nat.sub_self] at hl
        have hst : sameT t u = sameL t.kids u.kids := by rw [sameT_eq]; simp [h1, h2, h3, h4]
        rw [hst]
        cases hs : sameL t.kids u.kids <;> rw [hs] at hl <;> rw [h1, h2, h3] at hl <;> simp [ref32_term, h1, h2, h3, h4, hl]
      · intro i a _ ha hi _
        have hm := List.mem_of_getElem? ha
        have hz := Tm.sz_kid hm
        have hiu : i < u.kids.length := by omega
        have hb := List.getElem?_eq_getElem hiu
        have hr := ref32_term_ok n a u.kids[i] (by omega) (hok.kid hm) (hou.kid (List.getElem_mem hiu))
        have e : t.kids.length - (a :: t.kids.drop (i + 1)).length = i := by simp; omega
        have e' : t.kids.length - (t.kids.drop (i + 1)).length = i + 1 := by rw [List.length_drop]; omega
        have ed : u.kids.drop i = u.kids[i] :: u.kids.drop (i + 1) := List.drop_eq_getElem_cons hiu
        rw [e, ed, sameL, e']
        cases hs : sameT a u.kids[i]
        · right
          simp [ref32_term_l4, hi, Tm.ixP_kid ha, Tm.ixP_kid hb, hr, hs]
        · left
          exact ⟨(), by simp [ref32_term_l4, hi, Tm.ixP_kid ha, Tm.ixP_kid hb, hr, hs, add1 (bt := false) (i := i) (by omega)], by simp, trivial⟩
    · rw [hf]
      by_cases h1 : t.op = u.op <;> by_cases h2 : t.num = u.num <;> by_cases h3 : t.name = u.name <;> simp [ref32_term, h1, h2, h3]
      have h4 : ¬ ((t.kids.length : Int) = (u.kids.length : Int)) := fun h4 => hc ⟨h1, h2, h3, by omega⟩
      simp [h4]
/-! ### Put -/
end Go.Am
