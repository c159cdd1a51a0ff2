/- The law, joined to the program. No condition. -/
import Derived.Test.YtnhjgipcepnocaaFChk
import Derived.Test.YtnhjgipcepnocaaLaws
import Derived.Test.YtnhjgipcepnocaaSame32
set_option linter.all false
set_option linter.unnecessarySimpa false
namespace Go.Am
set_option linter.unusedVariables false
set_option linter.unusedSimpArgs false
/-! ### Same -/
mutual
def sameF : Fm → Fm → Bool
  | .mk o t _ ks, u => decide (o = u.op) && (sameT t u.e && (decide (ks.length = u.kids.length) && sameFL ks u.kids))
def sameFL : List Fm → List Fm → Bool
  | a :: r, b :: q => sameF a b && sameFL r q
  | [], _ => true
  | _ :: _, [] => true
end
theorem sameF_eq (t u : Fm) : sameF t u = (decide (t.op = u.op) && (sameT t.e u.e && (decide (t.kids.length = u.kids.length) && sameFL t.kids u.kids))) := by cases t; rw [sameF]; rfl
theorem sameF_refl (t : Fm) : sameF t t = true := by
  refine Fm.ind (P := fun t => sameF t t = true) ?_ t
  intro t ih
  rw [sameF_eq]
  have key : ∀ l : List Fm, (∀ x ∈ l, sameF x x = true) → sameFL l l = true := by
    intro l
    induction l with
    | nil => intro _; rfl
    | cons a r ihr => intro h; rw [sameFL, h a (by simp), ihr (fun x hx => h x (by simp [hx]))]; rfl
  simp [sameT_refl, key t.kids ih]
theorem ref32_Same_ok : ∀ (n : Nat) (t u : Fm), t.sz < n → t.Ok → u.Ok → ref32_SameL n [t.d, u.d] = some (eB (sameF t u))
  | 0, t, _, h, _, _ => absurd h (Nat.not_lt_zero _)
  | n + 1, t, u, hn, hok, hou => by
    have hlen := hok.len
    have hse := t.sz_e
    have hsl := t.sz_len
    have hT := ref32_term_ok n t.e u.e (by omega) hok.e hou.e
    rw [sameF_eq]
    by_cases c1 : t.op = u.op
    case neg => simp [ref32_SameL, ref32_Same, c1]
    cases c2 : sameT t.e u.e
    · simp [ref32_SameL, ref32_Same, c1, hT, c2]
    by_cases c3 : t.kids.length = u.kids.length
    case neg =>
      have c3' : ¬ ((t.kids.length : Int) = (u.kids.length : Int)) := by omega
      simp [ref32_SameL, ref32_Same, c1, hT, c2, c3, c3']
    have hl := iterL_list (f := ref32_Same_l4 (ref32_SameL n) n) t.kids (fun i (_ : Unit) => [eI (i : Int), eI t.op, eI t.e.op, eI t.e.num, eS t.e.name, rowD 4 t.e.nl (Tm.rows t.e.kids), rowD 6 t.nl (Fm.rows t.kids), eI u.op, eI u.e.op, eI u.e.num, eS u.e.name, rowD 4 u.e.nl (Tm.rows u.e.kids), rowD 6 u.nl (Fm.rows u.kids)])
        (fun r _ => if sameFL r (u.kids.drop (t.kids.length - r.length)) = true then (.inl [] : List D ⊕ D) else .inr (eB false)) (fun _ _ => True)
        (fun _ _ => by simp [ref32_Same_l4, sameFL]) ?_ n 0 () trivial (by omega) (Nat.zero_le _)
    · have e0 : (eI ((0 : Nat) : Int)) = eI 0 := rfl
      rw [e0] at hl
      simp only [List.drop_zero, Nat.sub_self] at hl
      rw [c1] at hl
      cases hs : sameFL t.kids u.kids <;> rw [hs] at hl <;> simp [ref32_SameL, ref32_Same, c1, hT, c2, c3, hl]
    · intro i a _ ha hi _
      have hm := List.mem_of_getElem? ha
      have hz := Fm.sz_kid hm
      have hiu : i < u.kids.length := by omega
      have hb := List.getElem?_eq_getElem hiu
      have hr := ref32_Same_ok n a u.kids[i] (by omega) (hok.kid hm) (hou.kid (List.getElem_mem hiu))
      have e : t.kids.length - (a :: t.kids.drop (i + 1)).length = i := by simp; omega
      have e' : t.kids.length - (t.kids.drop (i + 1)).length = i + 1 := by rw [List.length_drop]; omega
      have ed : u.kids.drop i = u.kids[i] :: u.kids.drop (i + 1) := List.drop_eq_getElem_cons hiu
      rw [e, ed, sameFL, e']
      cases hs : sameF a u.kids[i]
      · right
        simp [ref32_Same_l4, hi, Fm.ixP_kid ha, Fm.ixP_kid hb, hr, hs]
      · left
        exact ⟨(), by simp [ref32_Same_l4, hi, Fm.ixP_kid ha, Fm.ixP_kid hb, hr, hs, add1 (bt := false) (i := i) (by omega)], by simp, trivial⟩
/-! ### Push -/
end Go.Am
