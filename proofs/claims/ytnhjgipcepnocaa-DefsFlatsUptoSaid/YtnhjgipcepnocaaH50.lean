/- The law, joined to the program. No condition. -/
import Derived.Test.YtnhjgipcepnocaaH4
set_option linter.all false
set_option linter.unnecessarySimpa false
namespace Go.Am
set_option linter.unusedVariables false
set_option linter.unusedSimpArgs false
theorem hM0 : D.agg [D.val (.slice none 0 0), D.val (.slice none 0 0), D.val (.slice none 0 0), D.val (.slice none 0 0), D.val (.slice none 0 0), D.val (.slice none 0 0), D.val (.slice none 0 0), D.val (.slice none 0 0)] = M0 := rfl
theorem z00 : ((0 : Int) != 0) = false := rfl
theorem ee5 (x : List Df) : D.sl 5 (esD (eDs x)) = eDs x := rfl
theorem ee7 (x : List Sp) : D.sl 7 (esD (eSps x)) = eSps x := rfl
theorem en5 : D.sl 5 [] = eDs [] := rfl
theorem en7 : D.sl 7 [] = eSps [] := rfl
theorem ob_eq {α β : Type} {e : Option α} {x : α} {f : α → Option β} {r : Option β} (h : e = some x) (h2 : f x = r) : obind e f = r := by rw [h]; exact h2
theorem og_eq {β : Type} {c : Bool} {x r : Option β} (h : c = true) (h2 : x = r) : og c x = r := by rw [h]; exact h2
theorem og_eq2 {β : Type} {c : Bool} {x r : Option β} (h : c = true) (h2 : x = r) : og c x = r := og_eq h h2
theorem oif_t {β : Type} {b : Bool} {x y r : Option β} (h : b = true) (h2 : x = r) : oif (eB b) x y = r := by rw [h]; exact h2
theorem oif_f {β : Type} {b : Bool} {x y r : Option β} (h : b = false) (h2 : y = r) : oif (eB b) x y = r := by rw [h]; exact h2
theorem jn_eq {β : Type} {f : List D → Option β} {ls : List D} {r : Option β} (h : f ls = r) : jnX f (.inl ls) = r := h
theorem jn_r {β : Type} {f : List D → Option β} {b : β} : jnX f (.inr b) = some b := rfl
end Go.Am
