/- Laws, on data. No condition. -/
import Derived.Test.YtnhjgipcepnocaaEngD
import Derived.Test.YtnhjgipcepnocaaEngS
import Derived.Test.YtnhjgipcepnocaaLaws
set_option linter.all false
set_option linter.unnecessarySimpa false
namespace Go.Am
set_option linter.unusedVariables false
set_option linter.unusedSimpArgs false
/-! ### Types -/
structure Y where
  b : Bool
  lo : Int
  hi : Int
deriving DecidableEq
def Y.cells (y : Y) : List D := [eB y.b, eI y.lo, eI y.hi]
def Y.d (y : Y) : D := .agg [eB y.b, eI y.lo, eI y.hi]
def Y0 : Y := ⟨false, 0, 0⟩
def YB : Y := ⟨true, 0, 0⟩
def Y.good (y : Y) : Prop := (y.b = true → y.lo = 0 ∧ y.hi = 0) ∧ -1048576 ≤ y.lo ∧ y.lo ≤ y.hi ∧ y.hi ≤ 1048576
theorem Y.d_cells (y : Y) : D.agg y.cells = y.d := rfl
@[simp] theorem Y.aggP_d (y : Y) : aggP 3 y.d = true := rfl
@[simp] theorem Y.c0 (y : Y) : celD y.d 0 = eB y.b := rfl
@[simp] theorem Y.c1 (y : Y) : celD y.d 1 = eI y.lo := rfl
@[simp] theorem Y.c2 (y : Y) : celD y.d 2 = eI y.hi := rfl
@[simp] theorem Y.agg_d (y : Y) : D.agg [eB y.b, eI y.lo, eI y.hi] = y.d := rfl
@[simp high] theorem Y.atP (y : Y) : Go.Am.atP true 3 0 y.cells = some y.d := rfl
@[simp] theorem Y.at0 (y : Y) : y.cells[0]? = some (eB y.b) := rfl
@[simp] theorem Y.at1 (y : Y) : y.cells[1]? = some (eI y.lo) := rfl
@[simp] theorem Y.at2 (y : Y) : y.cells[2]? = some (eI y.hi) := rfl
@[simp] theorem Y.flat (y : Y) : y.d.flat = true := rfl
@[simp] theorem flat_tupY (y : Y) (e : Int) : (D.tup [y.d, eI e]).flat = true := rfl
def spanY (lo hi : Int) : Y × Int := if lo < -1048576 ∨ hi > 1048576 ∨ lo > hi ∨ hi - lo > 4096 then (Y0, 2) else (⟨false, lo, hi⟩, 0)
theorem spanY_good {lo hi : Int} (h : (spanY lo hi).2 = 0) : (spanY lo hi).1.good := by
  unfold spanY at *
  split at h
  · cases h
  · rename_i hc
    rw [if_neg hc]
    exact ⟨by simp, by simp; omega, by simp; omega, by simp; omega⟩
theorem Y.d_ite {c : Prop} [Decidable c] {a b : Y} : (if c then a else b).d = if c then a.d else b.d := by split <;> rfl
theorem spanY_D (lo hi : Int) : (D.tup [(spanY lo hi).1.d, eI (spanY lo hi).2]) = if lo < -1048576 ∨ hi > 1048576 ∨ lo > hi ∨ hi - lo > 4096 then D.tup [.agg [eB false, eI 0, eI 0], eI 2] else D.tup [.agg [eB false, eI lo, eI hi], eI 0] := by
  unfold spanY; split <;> rfl
theorem terms_span_ok (n : Nat) (lo hi : Int) : terms_spanL n [eI lo, eI hi] = some (.tup [(spanY lo hi).1.d, eI (spanY lo hi).2]) := by
  rw [spanY_D]
  have h4 : -1048576 ≤ lo → hi ≤ 1048576 → lo ≤ hi → IntKind.i64.wrap (hi - lo) = hi - lo := fun _ _ _ => wrap64 _ (by omega) (by omega)
  simp [terms_spanL, terms_span, b_subw, -ite_tup, -ite_some]
  grind
theorem row_get {α : Type} {f : α → List D} {l : List α} {i : Nat} {a : α} (h : l[i]? = some a) : (l.map f)[i]? = some (f a) := by simp [h]
/-- Rows of types. -/
def eYs (l : List Y) : D := .sl 3 (l.map Y.cells)
theorem eYs_ix {l : List Y} {i : Nat} {y : Y} (h : l[i]? = some y) : ixP 3 (eYs l) (eI (i : Int)) = some y.cells := by simp [eYs, h]
theorem terms_truths_ok (n : Nat) (l : List Y) (hn : l.length < n) (hl : l.length < 1000000000) : terms_truthsL n [eYs l] = some (.tup [(if l.all Y.b then YB else Y0).d, eI (if l.all Y.b then 0 else 13)]) := by
  have hi := iterL_list (f := terms_truths_l2 n) l (fun i (s : Unit) => [eYs l, eI l.length, eI (i : Int), eB false, eI 0, eI 0]) (fun r _ => if r.all Y.b then (Sum.inl [eB false, eI 0, eI 0] : List D ⊕ D) else .inr (.tup [Y0.d, eI 13])) (fun _ _ => True)
    (fun _ _ => by simp [terms_truths_l2]) ?_ n 0 () trivial (by omega) (Nat.zero_le _)
  · have e0 : (eI ((0 : Nat) : Int)) = eI 0 := rfl
    rw [e0] at hi
    have hlen : lenP (eYs l) = some (eI l.length) := by simp [eYs]
    simp only [terms_truthsL, terms_truths, hlen, obind_s, hi, List.drop_zero]
    by_cases h : l.all Y.b = true
    · simp only [h, if_true, jnX_l]; rfl
    · simp only [h, Bool.false_eq_true, if_false, jnX_r]
  · intro i a _ ha hi _
    have := eYs_ix ha
    cases hb : a.b
    · right; simp [terms_truths_l2, hi, this, add1 (bt := false) (i := i) (by omega), hb]; rfl
    · left; exact ⟨(), by simp [terms_truths_l2, hi, this, add1 (bt := false) (i := i) (by omega), hb], by simp [hb], trivial⟩
def mn (a b : Int) : Int := if b < a then b else a
theorem mm2_min (a b : Int) : mmP false [eI a, eI b] = some (eI (mn a b)) := mm_min a b
theorem mm4_max (a b c d : Int) : mmP true [eI a, eI b, eI c, eI d] = some (eI (mx (mx (mx a b) c) d)) := rfl
theorem mm4_min (a b c d : Int) : mmP false [eI a, eI b, eI c, eI d] = some (eI (mn (mn (mn a b) c) d)) := rfl
theorem mul_bd {x y : Int} (hx : -1048576 ≤ x ∧ x ≤ 1048576) (hy : -1048576 ≤ y ∧ y ≤ 1048576) : -1099511627776 ≤ x * y ∧ x * y ≤ 1099511627776 := by
  have h1 : x.natAbs ≤ 1048576 := by omega
  have h2 : y.natAbs ≤ 1048576 := by omega
  have h3 : (x * y).natAbs ≤ 1048576 * 1048576 := by rw [Int.natAbs_mul]; exact Nat.mul_le_mul h1 h2
  omega
def mulLo (a b : Y) : Int := mn (mn (mn (a.lo * b.lo) (a.lo * b.hi)) (a.hi * b.lo)) (a.hi * b.hi)
def mulHi (a b : Y) : Int := mx (mx (mx (a.lo * b.lo) (a.lo * b.hi)) (a.hi * b.lo)) (a.hi * b.hi)
def reckY (op : Int) (a b : Y) : Y × Int := if op = 15 then spanY (a.lo - b.hi) (a.hi - b.lo) else if op = 14 then spanY (a.lo + b.lo) (a.hi + b.hi) else spanY (mulLo a b) (mulHi a b)
theorem terms_reckoned_ok (n : Nat) (op : Int) (a b : Y) (ha : a.good) (hb : b.good) : terms_reckonedL n [eI op, a.d, b.d] = some (.tup [(reckY op a b).1.d, eI (reckY op a b).2]) := by
  obtain ⟨_, a1, a2, a3⟩ := ha
  obtain ⟨_, b1, b2, b3⟩ := hb
  have n1 : IntKind.i64.wrap (-b.hi) = -b.hi := wrap64 _ (by omega) (by omega)
  have n2 : IntKind.i64.wrap (-b.lo) = -b.lo := wrap64 _ (by omega) (by omega)
  by_cases h1 : op = 15
  · subst h1
    have e1 : a.lo + -b.hi = a.lo - b.hi := by omega
    have e2 : a.hi + -b.lo = a.hi - b.lo := by omega
    simp (disch := omega) [terms_reckonedL, terms_reckoned, reckY, n1, n2, b_add, terms_span_ok, e1, e2]
  by_cases h2 : op = 14
  · subst h2
    simp (disch := omega) [terms_reckonedL, terms_reckoned, reckY, b_add, terms_span_ok]
  have m1 := mul_bd (x := a.lo) (y := b.lo) (by omega) (by omega)
  have m2 := mul_bd (x := a.lo) (y := b.hi) (by omega) (by omega)
  have m3 := mul_bd (x := a.hi) (y := b.lo) (by omega) (by omega)
  have m4 := mul_bd (x := a.hi) (y := b.hi) (by omega) (by omega)
  simp (disch := omega) [terms_reckonedL, terms_reckoned, reckY, h1, h2, b_mul, terms_span_ok, mm4_max, mm4_min, mulLo, mulHi]
/-! ### Valid terms -/
def Valid (t : Tm) : Prop := ∃ deep k : Int, (chk t deep k).1 = 0
theorem Valid.wrong {t : Tm} (h : Valid t) : wrongT t = 0 := by
  obtain ⟨deep, k, h⟩ := h
  rw [chk_eq] at h
  split at h
  · cases h
  split at h
  · assumption
  · rename_i hc; simpa using hc
theorem chkL_kid : ∀ (l : List Tm) (deep k : Int), (chkL l deep k).1 = 0 → ∀ x ∈ l, Valid x
  | [], _, _, _, x, hx => by cases hx
  | a :: r, deep, k, h, x, hx => by
    rw [chkL] at h
    split at h
    · rename_i hc; exact absurd h hc
    · rename_i hc
      rcases List.mem_cons.1 hx with rfl | hx
      · exact ⟨deep, k, by simpa using hc⟩
      · exact chkL_kid r deep _ h x hx
theorem Valid.kid {t x : Tm} (h : Valid t) (hx : x ∈ t.kids) : Valid x := by
  have hw := h.wrong
  obtain ⟨deep, k, h⟩ := h
  rw [chk_eq] at h
  split at h
  · cases h
  split at h
  · rename_i hc; exact absurd hw hc
  split at h
  · cases h
  · exact chkL_kid _ _ _ h x hx
theorem Valid.op {t : Tm} (h : Valid t) : 1 ≤ t.op ∧ t.op ≤ 18 := by
  have hw := h.wrong
  unfold wrongT at hw
  split at hw
  · cases hw
  · rename_i hc
    unfold kidsOf at hc
    refine Classical.byContradiction fun hn => ?_
    simp only [show ¬ (t.op = 1 ∨ t.op = 2 ∨ t.op = 3 ∨ t.op = 4) by omega, show ¬ t.op = 5 by omega, show ¬ (t.op = 6 ∨ t.op = 7) by omega, show ¬ t.op = 18 by omega, show (t.op < 1 ∨ t.op > 18) by omega, if_true, if_false] at hc
    exact hc (by decide)
theorem wrong0 {t : Tm} (hw : wrongT t = 0) : ¬ (kidsOf t.op).1 < 0 ∧ ¬ ((t.num < (if t.op = 1 then -255 else 0)) ∨ t.num > (if t.op = 1 then 255 else if t.op = 2 then 1 else 0)) ∧
    ¬ (if namedOp t.op then t.name = ⟨#[]⟩ ∨ t.name.size > 24 else t.name ≠ ⟨#[]⟩) ∧ ¬ ((t.kids.length : Int) < (kidsOf t.op).1 ∨ (t.kids.length : Int) > (kidsOf t.op).2) := by
  unfold wrongT at hw
  by_cases h1 : (kidsOf t.op).1 < 0
  · rw [if_pos h1] at hw; cases hw
  rw [if_neg h1] at hw
  by_cases h2 : (t.num < (if t.op = 1 then -255 else 0)) ∨ t.num > (if t.op = 1 then 255 else if t.op = 2 then 1 else 0)
  · rw [if_pos h2] at hw; cases hw
  rw [if_neg h2] at hw
  by_cases h3 : (if namedOp t.op then t.name = ⟨#[]⟩ ∨ t.name.size > 24 else t.name ≠ ⟨#[]⟩)
  · rw [if_pos h3] at hw; cases hw
  rw [if_neg h3] at hw
  by_cases h4 : ((t.kids.length : Int) < (kidsOf t.op).1 ∨ (t.kids.length : Int) > (kidsOf t.op).2)
  · rw [if_pos h4] at hw; cases hw
  exact ⟨h1, h2, h3, h4⟩
theorem Valid.len {t : Tm} (h : Valid t) : (kidsOf t.op).1 ≤ t.kids.length ∧ (t.kids.length : Int) ≤ (kidsOf t.op).2 := by
  have := (wrong0 h.wrong).2.2.2
  omega
theorem Valid.num {t : Tm} (h : Valid t) : -255 ≤ t.num ∧ t.num ≤ 255 ∧ (t.op ≠ 1 → 0 ≤ t.num ∧ t.num ≤ 1) ∧ (t.op ≠ 1 → t.op ≠ 2 → t.num = 0) := by
  have h2 := (wrong0 h.wrong).2.1
  by_cases c1 : t.op = 1
  · simp only [c1, if_true] at h2; exact ⟨by omega, by omega, by omega, by omega⟩
  · by_cases c2 : t.op = 2
    · simp only [c1, c2, if_true, if_false] at h2; exact ⟨by omega, by omega, by omega, by omega⟩
    · simp only [c1, c2, if_false] at h2; exact ⟨by omega, by omega, by omega, by omega⟩
/-- The type of a part from the types of its kids. -/
def joinY (t : Tm) (l : List Y) : Y × Int :=
  if 5 ≤ t.op ∧ t.op ≤ 9 then if l.all Y.b then (YB, 0) else (Y0, 13)
  else match l with
    | [a, b, c] => if (!a.b || (b.b != c.b)) then (Y0, 13) else if b.b then (YB, 0) else spanY (mn b.lo c.lo) (mx b.hi c.hi)
    | [a, b] => if t.op = 10 ∨ t.op = 11 then if a.b != b.b then (Y0, 13) else (YB, 0)
      else if (a.b || b.b) then (Y0, 13)
      else if t.op = 12 ∨ t.op = 13 then (YB, 0)
      else if t.op = 17 then (match t.kids[1]? with
        | some k => if k.op ≠ 1 ∨ k.num < 1 then (Y0, 2) else spanY 0 (k.num - 1)
        | none => (Y0, 0))
      else reckY t.op a b
    | _ => (Y0, 0)
def vD (v : V) : D := v.d
/-- The first variable of the name. -/
def leafY (vs : List V) (next : Bool) (t : Tm) : Y × Int :=
  if t.op = 1 then spanY t.num t.num else if t.op = 2 then (YB, 0)
  else match vs.find? (fun v => decide (v.name = t.name)) with
    | none => (Y0, 12)
    | some v => if (t.op == 4 && !next) then (Y0, 24) else if v.bool then (YB, 0) else spanY v.lo v.hi
theorem list3 {α : Type} {l : List α} (h : l.length = 3) : ∃ a b c, l = [a, b, c] := by
  match l, h with
  | [a, b, c], _ => exact ⟨a, b, c, rfl⟩
theorem list2 {α : Type} {l : List α} (h : l.length = 2) : ∃ a b, l = [a, b] := by
  match l, h with
  | [a, b], _ => exact ⟨a, b, rfl⟩
theorem kids3 {op : Int} (h : op = 18) : kidsOf op = (3, 3) := by subst h; rfl
theorem kids2 {op : Int} (h : 8 ≤ op ∧ op ≤ 17) : kidsOf op = (2, 2) := by
  unfold kidsOf
  rw [if_neg (by omega), if_neg (by omega), if_neg (by omega), if_neg (by omega), if_neg (by omega)]
theorem cellsD_at1 (t : Tm) : t.cells[0]? = some (eI t.op) ∧ t.cells[1]? = some (eI t.num) := by rw [Tm.cells_eq]; exact ⟨rfl, rfl⟩
theorem ixP_kid1 {l : List Tm} {b : Bool} {t : Tm} (h : l[1]? = some t) : ixP 4 (rowD 4 b (Tm.rows l)) (eI 1) = some t.cells := Tm.ixP_kid (i := 1) h
theorem eYs_0 {l : List Y} {y : Y} (h : l[0]? = some y) : ixP 3 (eYs l) (eI 0) = some y.cells := eYs_ix (i := 0) h
theorem eYs_1 {l : List Y} {y : Y} (h : l[1]? = some y) : ixP 3 (eYs l) (eI 1) = some y.cells := eYs_ix (i := 1) h
theorem eYs_2 {l : List Y} {y : Y} (h : l[2]? = some y) : ixP 3 (eYs l) (eI 2) = some y.cells := eYs_ix (i := 2) h
theorem nle_eq (a b : Bool) : ((!a) = true ∨ b = true) ↔ (!a || b) = true := by cases a <;> cases b <;> simp
set_option maxHeartbeats 1000000 in
theorem jmp_flat {r : Option D} {d : D} (h : r = some d) : obind r (fun x => some x) = some d := by rw [h]; rfl
set_option maxHeartbeats 2000000 in
theorem terms_part_ok (n : Nat) (V0 M : D) (t : Tm) (nx : Bool) (l : List Y) (hv : Valid t) (hlt : l.length = t.kids.length) (hop : 5 ≤ t.op) (hg : ∀ y ∈ l, y.good) (hn : 100 < n) :
    terms_partL n [V0, M, t.d, eB nx, eYs l] = some (.tup [(joinY t l).1.d, eI (joinY t l).2]) := by
  have hv1 := hv.op
  have hlen := hv.len
  have c0 := Tm.cel0 t
  have c3 := Tm.cel3 t
  have ca := Tm.aggP_d t
  have fD : D.agg [eB false, eI 0, eI 0] = Y0.d := rfl
  have tD : D.agg [eB true, eI 0, eI 0] = YB.d := rfl
  have hk := kids2 (op := t.op)
  have hk3 := kids3 (op := t.op)
  have hlle : l.length ≤ 64 := by
    have : (kidsOf t.op).2 ≤ 64 := by unfold kidsOf; repeat (first | split | decide)
    omega
  have ht := terms_truths_ok n l (by omega) (by omega)
  by_cases h1 : t.op ≤ 9
  · have e : joinY t l = if l.all Y.b then (YB, 0) else (Y0, 13) := by unfold joinY; rw [if_pos ⟨hop, h1⟩]
    rw [e]
    have hc : t.op = 5 ∨ t.op = 6 ∨ t.op = 7 ∨ t.op = 8 ∨ t.op = 9 := by omega
    generalize t.op = op at *
    generalize l.all Y.b = q at *
    rcases hc with rfl | rfl | rfl | rfl | rfl <;> simp [terms_partL, terms_part, ca, c0, ht, fD, tD] <;> cases q <;> simp
  by_cases h2 : t.op = 18
  · rw [hk3 h2] at hlen
    obtain ⟨a, b, c, rfl⟩ := list3 (l := l) (by simp at hlen; omega)
    have g0 := eYs_0 (l := [a, b, c]) rfl
    have g1 := eYs_1 (l := [a, b, c]) rfl
    have g2 := eYs_2 (l := [a, b, c]) rfl
    have gb := (hg b (by simp)).1
    unfold joinY
    generalize eYs [a, b, c] = L at *
    rw [if_neg (by omega)]
    simp [terms_partL, terms_part, ca, c0, h2, g0, g1, g2, fD, tD, terms_span_ok, mm2_max, mm2_min]
    obtain ⟨bb, blo, bhi⟩ := b
    cases a.b <;> cases bb <;> cases c.b <;> simp at gb ⊢
    obtain ⟨rfl, rfl⟩ := gb
    rfl
  have h3 : 10 ≤ t.op ∧ t.op ≤ 17 := by omega
  rw [hk (by omega)] at hlen
  obtain ⟨a, b, rfl⟩ := list2 (l := l) (by simp at hlen; omega)
  have g0 := eYs_0 (l := [a, b]) rfl
  have g1 := eYs_1 (l := [a, b]) rfl
  have ga := hg a (by simp)
  have gb := hg b (by simp)
  have hp := fun op => terms_reckoned_ok n op a b ga gb
  obtain ⟨_, a1, a2, a3⟩ := ga
  obtain ⟨_, b1, b2, b3⟩ := gb
  unfold joinY
  generalize eYs [a, b] = L at *
  rw [if_neg (by omega)]
  obtain ⟨k0, k1, hks⟩ := list2 (l := t.kids) (by simp at hlen; omega)
  have gk := ixP_kid1 (l := t.kids) (b := t.nl) (t := k1) (by rw [hks]; rfl)
  have gv := (hv.kid (x := k1) (by rw [hks]; simp)).num
  have s1 : IntKind.i64.wrap (k1.num - 1) = k1.num - 1 := wrap64 _ (by omega) (by omega)
  have f5 : binP false .sub (eI k1.num) (eI 1) = some (eI (k1.num - 1)) := b_sub (by omega) (by omega)
  have f1 : binP false .add (eI a.lo) (eI b.lo) = some (eI (a.lo + b.lo)) := b_add (by omega) (by omega)
  have f2 : binP false .add (eI a.hi) (eI b.hi) = some (eI (a.hi + b.hi)) := b_add (by omega) (by omega)
  have f3 : binP false .sub (eI a.lo) (eI b.hi) = some (eI (a.lo - b.hi)) := b_sub (by omega) (by omega)
  have f4 : binP false .sub (eI a.hi) (eI b.lo) = some (eI (a.hi - b.lo)) := b_sub (by omega) (by omega)
  have hc : t.op = 10 ∨ t.op = 11 ∨ t.op = 12 ∨ t.op = 13 ∨ t.op = 14 ∨ t.op = 15 ∨ t.op = 16 ∨ t.op = 17 := by omega
  have q1 : (t.kids[1]?) = some k1 := by rw [hks]; rfl
  generalize t.op = op at *
  have hsm : ∀ x y : Int, spanY x y = spanY x y := fun _ _ => rfl
  rcases hc with rfl | rfl | rfl | rfl | rfl | rfl | rfl | rfl <;>
    cases hA : a.b <;> cases hB : b.b <;> simp [terms_partL, terms_part, ca, c0, c3, g0, g1, gk, q1, fD, tD, terms_span_ok, hp, f1, f2, f3, f4, f5, hA, hB]
  all_goals (by_cases z1 : k1.op = 1 <;> by_cases z2 : k1.num < 1 <;> simp [z1, z2])
end Go.Am
namespace Go.Am
set_option linter.unusedVariables false
set_option linter.unusedSimpArgs false
/-! ### Names of variables -/
def idxV (vs : List V) (x : ByteArray) : Option Nat := vs.findIdx? (fun v => decide (v.name = x))
theorem idxV_lt {vs : List V} {x : ByteArray} {i : Nat} (h : idxV vs x = some i) : ∃ v, vs[i]? = some v ∧ v.name = x ∧ i < vs.length := by
  obtain ⟨h1, h2, _⟩ := List.findIdx?_eq_some_iff_getElem.1 h
  exact ⟨_, List.getElem?_eq_getElem h1, by simpa using h2, h1⟩
theorem V.atc (v : V) : v.cells[0]? = some (eS v.name) ∧ v.cells[1]? = some (eB v.bool) ∧ v.cells[2]? = some (eI v.lo) ∧ v.cells[3]? = some (eI v.hi) := ⟨rfl, rfl, rfl, rfl⟩
theorem eVs_ix {l : List V} {i : Nat} {v : V} (h : l[i]? = some v) : ixP 4 (eVs l) (eI (i : Int)) = some v.cells := by simp [eVs, h]
theorem eVs_len (l : List V) : lenP (eVs l) = some (eI l.length) := by simp [eVs]
theorem V.dat (v : V) : atP true 4 0 v.cells = some v.d ∧ aggP 4 v.d = true ∧ celD v.d 0 = eS v.name := ⟨rfl, rfl, rfl⟩
def nmM : List V → Nat → List (Value × D) → List (Value × D)
  | [], _, M => M
  | v :: r, i, M => nmM r (i + 1) (if (getS M v.name).isSome then M else (putP .string M (eS v.name) (eI i)).getD [])
theorem nmM_ok : ∀ (r : List V) (i : Nat) (M : List (Value × D)), SM M → SM (nmM r i M) ∧ ∀ x, getS (nmM r i M) x = match getS M x with
    | some d => some d
    | none => (idxV r x).map fun j => eI ((i + j : Nat) : Int)
  | [], i, M, h => ⟨h, fun x => by simp only [nmM, idxV, List.findIdx?_nil]; cases getS M x <;> rfl⟩
  | v :: r, i, M, h => by
    rw [nmM]
    have e : ∀ x, idxV (v :: r) x = if v.name = x then some 0 else (idxV r x).map (· + 1) := by
      intro x; simp [idxV, List.findIdx?_cons]
    by_cases hs : (getS M v.name).isSome
    · rw [if_pos hs]
      obtain ⟨h1, h2⟩ := nmM_ok r (i + 1) M h
      refine ⟨h1, fun x => ?_⟩
      rw [h2 x, e x]
      cases hx : getS M x with
      | some d => rfl
      | none =>
        have hne : ¬ v.name = x := by rintro rfl; simp [hx] at hs
        simp only [hne, if_false, Option.map_map]
        congr 1
        funext j
        simp only [Function.comp]
        congr 2
        omega
    · rw [if_neg hs]
      obtain ⟨M', p1, p2, p3, _⟩ := putS h v.name (eI i)
      rw [p1, Option.getD_some]
      obtain ⟨h1, h2⟩ := nmM_ok r (i + 1) M' p2
      refine ⟨h1, fun x => ?_⟩
      rw [h2 x, p3 x, e x]
      by_cases hx : x = v.name
      · subst hx
        have hn : getS M v.name = none := by simpa using hs
        simp [hn]
      · have hne : ¬ v.name = x := fun h => hx h.symm
        simp only [hx, hne, if_false]
        cases hg : getS M x with
        | some d => rfl
        | none =>
          simp only [Option.map_map]
          congr 1
          funext j
          simp only [Function.comp]
          congr 2
          omega
def NM (M : List (Value × D)) (vs : List V) : Prop := SM M ∧ ∀ x, getS M x = (idxV vs x).map fun (j : Nat) => eI (j : Int)
theorem terms_names_ok (n : Nat) (vs : List V) (hn : vs.length < n) (hl : vs.length < 1000000000000) : ∃ M, terms_namesL n [eVs vs] = some (.mp M) ∧ NM M vs := by
  have h0 : SM [] := by intro e he; cases he
  obtain ⟨h1, h2⟩ := nmM_ok vs 0 [] h0
  refine ⟨nmM vs 0 [], ?_, h1, fun x => by rw [h2 x]; simp only [getS, Nat.zero_add]⟩
  have hi := iterL_list (f := terms_names_l3 n) vs (fun i (M : List (Value × D)) => [eVs vs, eI vs.length, eI (i : Int), .mp M]) (fun r M => (Sum.inl [.mp (nmM r (vs.length - r.length) M)] : List D ⊕ D)) (fun i M => SM M)
    (fun M _ => by simp [terms_names_l3, nmM]) ?_ n 0 [] h0 (by omega) (Nat.zero_le _)
  · have e0 : (eI ((0 : Nat) : Int)) = eI 0 := rfl
    rw [e0] at hi
    simp [terms_namesL, terms_names, eVs_len, hi]
  · intro i a M ha hi hM
    left
    have e : vs.length - (a :: vs.drop (i + 1)).length = i := by simp; omega
    have e' : vs.length - (vs.drop (i + 1)).length = i + 1 := by simp; omega
    have h3 := lookS1 hM (z := .int .i64 0) (x := a.name)
    have ac := a.dat
    cases hg : getS M a.name with
    | some d =>
      rw [hg] at h3
      refine ⟨M, by simp [terms_names_l3, hi, eVs_ix ha, ac, h3, add1 (bt := false) (i := i) (by omega)], ?_, hM⟩
      rw [e, nmM, hg, e']
      rfl
    | none =>
      rw [hg] at h3
      obtain ⟨M', p1, p2, p3, _⟩ := putS hM a.name (eI i)
      refine ⟨M', by simp [terms_names_l3, hi, eVs_ix ha, ac, h3, p1, add1 (bt := false) (i := i) (by omega)], ?_, p2⟩
      rw [e, nmM, hg, e']
      simp only [Option.isSome_none, Bool.false_eq_true, if_false, p1, Option.getD_some]
theorem ref30_Index_ok (n : Nat) (vs : List V) (x : ByteArray) (hn : vs.length < n) (hl : vs.length < 1000000000000) : ref30_IndexL n [eVs vs, eS x] = some (eI (match idxV vs x with | some i => (i : Int) | none => -1)) := by
  have hi := iterL_list (f := ref30_Index_l2 n) vs (fun i (_ : Unit) => [eVs vs, eS x, eI (i : Int)]) (fun r _ => match idxV r x with
    | some j => (Sum.inr (eI ((vs.length - r.length + j : Nat) : Int)) : List D ⊕ D)
    | none => .inl []) (fun _ _ => True)
    (fun _ _ => by simp [ref30_Index_l2, eVs_len, idxV]) ?_ n 0 () trivial (by omega) (Nat.zero_le _)
  · have e0 : (eI ((0 : Nat) : Int)) = eI 0 := rfl
    rw [e0] at hi
    simp only [ref30_IndexL, ref30_Index, hi, List.drop_zero, obind_s]
    cases idxV vs x <;> simp
  · intro i a _ ha hi _
    have e : vs.length - (a :: vs.drop (i + 1)).length = i := by simp; omega
    have e' : vs.length - (vs.drop (i + 1)).length = i + 1 := by simp; omega
    have ei : idxV (a :: vs.drop (i + 1)) x = if a.name = x then some 0 else (idxV (vs.drop (i + 1)) x).map (· + 1) := by simp [idxV, List.findIdx?_cons]
    have ac := a.atc
    by_cases hx : a.name = x
    · right
      rw [ei, if_pos hx, e]
      simp [ref30_Index_l2, eVs_len, hi, eVs_ix ha, ac, hx]
    · left
      refine ⟨(), by simp [ref30_Index_l2, eVs_len, hi, eVs_ix ha, ac, hx, add1 (bt := false) (i := i) (by omega)], ?_, trivial⟩
      rw [ei, if_neg hx, e, e']
      cases idxV (vs.drop (i + 1)) x with
      | none => rfl
      | some j => simp; omega
/-! ### Types of terms -/
/-- The type of a part without kids. -/
def leafV (vs : List V) (nx : Bool) (t : Tm) : Y × Int :=
  if t.op = 1 then spanY t.num t.num else if t.op = 2 then (YB, 0)
  else match idxV vs t.name with
    | none => (Y0, 12)
    | some i => if t.op = 4 ∧ nx = false then (Y0, 24) else match vs[i]? with
      | some v => if v.bool then (YB, 0) else spanY v.lo v.hi
      | none => (Y0, 12)
mutual
def typ (vs : List V) (nx : Bool) : Tm → Y × Int
  | .mk o n s b ks => if o ≤ 4 then leafV vs nx (.mk o n s b ks) else if (typL vs nx ks).2 ≠ 0 then (Y0, (typL vs nx ks).2) else joinY (.mk o n s b ks) (typL vs nx ks).1
def typL (vs : List V) (nx : Bool) : List Tm → List Y × Int
  | [] => ([], 0)
  | t :: r => if (typ vs nx t).2 ≠ 0 then ([], (typ vs nx t).2) else if (typL vs nx r).2 ≠ 0 then ([], (typL vs nx r).2) else ((typ vs nx t).1 :: (typL vs nx r).1, 0)
end
theorem typ_eq (vs : List V) (nx : Bool) (t : Tm) : typ vs nx t = if t.op ≤ 4 then leafV vs nx t else if (typL vs nx t.kids).2 ≠ 0 then (Y0, (typL vs nx t.kids).2) else joinY t (typL vs nx t.kids).1 := by
  cases t; rw [typ]; rfl
theorem YB_good : YB.good := ⟨by simp [YB], by simp [YB], by simp [YB], by simp [YB]⟩
theorem leafV_good {vs : List V} {nx : Bool} {t : Tm} (h : (leafV vs nx t).2 = 0) : (leafV vs nx t).1.good := by
  unfold leafV at *
  by_cases h1 : t.op = 1
  · rw [if_pos h1] at *; exact spanY_good h
  rw [if_neg h1] at *
  by_cases h2 : t.op = 2
  · rw [if_pos h2]; exact YB_good
  rw [if_neg h2] at *
  cases hi : idxV vs t.name with
  | none => simp [hi] at h
  | some i =>
    simp only [hi] at h ⊢
    by_cases h3 : t.op = 4 ∧ nx = false
    · simp [h3] at h
    rw [if_neg h3] at *
    cases hv : vs[i]? with
    | none => simp [hv] at h
    | some v =>
      simp only [hv] at h ⊢
      by_cases hb : v.bool = true
      · rw [if_pos hb]; exact YB_good
      · rw [if_neg hb] at *; exact spanY_good h
theorem reckY_good {op : Int} {a b : Y} (h : (reckY op a b).2 = 0) : (reckY op a b).1.good := by
  unfold reckY at *
  split at h
  · rename_i h1; rw [if_pos h1]; exact spanY_good h
  rename_i h1
  split at h
  · rename_i h2; rw [if_neg h1, if_pos h2]; exact spanY_good h
  · rename_i h2; rw [if_neg h1, if_neg h2]; exact spanY_good h
theorem ite_good {c : Prop} [Decidable c] {x y : Y × Int} (hx : x.2 = 0 → x.1.good ∨ x.1 = Y0) (hy : y.2 = 0 → y.1.good ∨ y.1 = Y0) : (if c then x else y).2 = 0 → (if c then x else y).1.good ∨ (if c then x else y).1 = Y0 := by
  split
  · exact hx
  · exact hy
theorem joinY_good {t : Tm} {l : List Y} : (joinY t l).2 = 0 → (joinY t l).1.good ∨ (joinY t l).1 = Y0 := by
  have z : ∀ e : Int, ((Y0, e) : Y × Int).2 = 0 → ((Y0, e) : Y × Int).1.good ∨ ((Y0, e) : Y × Int).1 = Y0 := fun _ _ => .inr rfl
  have y : ((YB, 0) : Y × Int).2 = 0 → ((YB, 0) : Y × Int).1.good ∨ ((YB, 0) : Y × Int).1 = Y0 := fun _ => .inl YB_good
  have sp : ∀ a b : Int, (spanY a b).2 = 0 → (spanY a b).1.good ∨ (spanY a b).1 = Y0 := fun a b h => .inl (spanY_good h)
  unfold joinY
  refine ite_good (ite_good y (z _)) ?_
  split
  · exact ite_good (z _) (ite_good y (sp _ _))
  · refine ite_good (ite_good (z _) y) (ite_good (z _) (ite_good y (ite_good ?_ (fun h => .inl (reckY_good h)))))
    split
    · exact ite_good (z _) (sp _ _)
    · exact z _
  · exact z _
theorem Y0_good : Y0.good := ⟨by simp [Y0], by simp [Y0], by simp [Y0], by simp [Y0]⟩
theorem typ_good (vs : List V) (nx : Bool) (t : Tm) (h : (typ vs nx t).2 = 0) : (typ vs nx t).1.good := by
  rw [typ_eq] at *
  split at h
  · rename_i hc; rw [if_pos hc]; exact leafV_good h
  rename_i hc
  rw [if_neg hc]
  split at h
  · rename_i h'; exact absurd h h'
  · rename_i h'; rw [if_neg h']; rcases joinY_good h with h1 | h1
    · exact h1
    · rw [h1]; exact Y0_good
theorem typL_len (vs : List V) (nx : Bool) : ∀ (l : List Tm), (typL vs nx l).2 = 0 → (typL vs nx l).1.length = l.length ∧ ∀ y ∈ (typL vs nx l).1, y.good
  | [], _ => ⟨rfl, by intro y hy; cases hy⟩
  | t :: r, h => by
    rw [typL] at *
    by_cases h1 : (typ vs nx t).2 = 0
    case neg => rw [if_pos h1] at h; exact absurd h h1
    rw [if_neg (by simpa using h1)] at *
    by_cases h2 : (typL vs nx r).2 = 0
    case neg => rw [if_pos h2] at h; exact absurd h h2
    rw [if_neg (by simpa using h2)]
    obtain ⟨g1, g2⟩ := typL_len vs nx r h2
    refine ⟨by simp [g1], fun y hy => ?_⟩
    rcases List.mem_cons.1 hy with rfl | hy
    · exact typ_good vs nx t h1
    · exact g2 y hy
theorem terms_leaf_ok (n : Nat) (vs : List V) (M : List (Value × D)) (t : Tm) (nx : Bool) (L : D) (hM : NM M vs) (h4 : t.op ≤ 4) (h1 : 1 ≤ t.op) :
    terms_partL n [eVs vs, .mp M, t.d, eB nx, L] = some (.tup [(leafV vs nx t).1.d, eI (leafV vs nx t).2]) := by
  have c0 := Tm.cel0 t
  have c1 := Tm.cel1 t
  have c2 := Tm.cel2 t
  have ca := Tm.aggP_d t
  have fD : D.agg [eB false, eI 0, eI 0] = Y0.d := rfl
  have tD : D.agg [eB true, eI 0, eI 0] = YB.d := rfl
  have hl := lookS1 hM.1 (z := .int .i64 0) (x := t.name)
  rw [hM.2] at hl
  unfold leafV
  have hc : t.op = 1 ∨ t.op = 2 ∨ t.op = 3 ∨ t.op = 4 := by omega
  have hent : entP (.mp M) = some M := rfl
  generalize t.op = op at *
  rcases hc with rfl | rfl | rfl | rfl
  · simp [terms_partL, terms_part, ca, c0, c1, fD, tD, terms_span_ok]
  · simp [terms_partL, terms_part, ca, c0, c1, fD, tD, terms_span_ok]
  · cases hi : idxV vs t.name with
    | none => rw [hi] at hl; simp [terms_partL, terms_part, ca, c0, c1, c2, fD, tD, hent, hl]
    | some i =>
      rw [hi] at hl
      obtain ⟨v, v1, v2, v3⟩ := idxV_lt hi
      simp [terms_partL, terms_part, ca, c0, c1, c2, fD, tD, hent, hl, v1, eVs_ix v1, v.atc, terms_span_ok]
      cases v.bool <;> simp
  · cases hi : idxV vs t.name with
    | none => rw [hi] at hl; simp [terms_partL, terms_part, ca, c0, c1, c2, fD, tD, hent, hl]
    | some i =>
      rw [hi] at hl
      obtain ⟨v, v1, v2, v3⟩ := idxV_lt hi
      simp [terms_partL, terms_part, ca, c0, c1, c2, fD, tD, hent, hl, v1, eVs_ix v1, v.atc, terms_span_ok]
      cases v.bool <;> cases nx <;> simp
end Go.Am
namespace Go.Am
set_option linter.unusedVariables false
set_option linter.unusedSimpArgs false
theorem Valid.leaf {t : Tm} (h : Valid t) (h4 : t.op ≤ 4) : t.kids = [] := by
  have h1 := h.op
  have h2 := h.len
  have : kidsOf t.op = (0, 0) := by unfold kidsOf; rw [if_pos (by omega)]
  rw [this] at h2
  exact List.eq_nil_of_length_eq_zero (by have := h2.2; simp only at this; omega)
theorem Valid.len64 {t : Tm} (h : Valid t) : t.kids.length ≤ 64 := by
  have h2 := h.len
  have : (kidsOf t.op).2 ≤ 64 := by unfold kidsOf; repeat (first | split | decide)
  omega
theorem room24 {a b : Nat} (h : a + b ≤ 1000) : roomP (a + b) 24 = true := roomP_ok (by omega) (by omega)
theorem terms_typed_ok (vs : List V) (M : List (Value × D)) (nx : Bool) (hM : NM M vs) : ∀ (n : Nat) (t : Tm), t.sz + 200 < n → t.Ok → Valid t →
    terms_typedL n [eVs vs, .mp M, t.d, eB nx] = some (.tup [(typ vs nx t).1.d, eI (typ vs nx t).2])
  | 0, t, h, _, _ => absurd h (Nat.not_lt_zero _)
  | n + 1, t, hn, hok, hv => by
    rw [typ_eq]
    have fD : D.agg [eB false, eI 0, eI 0] = Y0.d := rfl
    have h64 := hv.len64
    have hl := iterL_list (f := terms_typed_l3 (terms_typedL n) n) t.kids (fun i (s : List Y) => [eVs vs, .mp M, eB nx, rowD 4 t.nl (Tm.rows t.kids), eI t.kids.length, eI (i : Int), eI t.op, eI t.num, eS t.name, rowD 4 t.nl (Tm.rows t.kids), eB false, eI 0, eI 0, eYs s])
      (fun r s => if (typL vs nx r).2 = 0 then (Sum.inl [eVs vs, .mp M, eB nx, eI t.op, eI t.num, eS t.name, rowD 4 t.nl (Tm.rows t.kids), eB false, eI 0, eI 0, eYs (s ++ (typL vs nx r).1)] : List D ⊕ D) else .inr (.tup [Y0.d, eI (typL vs nx r).2]))
      (fun i s => s.length = i) ?_ ?_ n 0 [] rfl (by omega) (Nat.zero_le _)
    · have e0 : (eI ((0 : Nat) : Int)) = eI 0 := rfl
      have e1 : eYs [] = .sl 3 [] := rfl
      rw [e0, e1] at hl
      simp only [terms_typedL, terms_typed, Tm.aggP_d, Tm.cel0, Tm.cel1, Tm.cel2, Tm.cel3, og_t, lenP_row, Tm.rows_len, obind_s, hl, List.drop_zero, List.nil_append]
      by_cases h0 : (typL vs nx t.kids).2 = 0
      · obtain ⟨g1, g2⟩ := typL_len vs nx t.kids h0
        have e2 : ∀ l : List Y, D.sl 3 (esD (eYs l)) = eYs l := fun _ => rfl
        have hlf := fun h4 => terms_leaf_ok n vs M t nx (eYs (typL vs nx t.kids).1) hM h4 hv.op.1
        have hpt := fun h5 => terms_part_ok n (eVs vs) (.mp M) t nx _ hv g1 h5 g2 (by omega)
        by_cases h4 : t.op ≤ 4
        · simp [h0, e2, hlf h4, h4]
        · simp [h0, e2, hpt (by omega), h4]
      · have h4 : ¬ t.op ≤ 4 := fun h4 => h0 (by rw [hv.leaf h4]; rfl)
        simp [h0, h4]
    · intro s hs
      simp [terms_typed_l3, typL, eYs]
    · intro i a s ha hi hs
      have hm := List.mem_of_getElem? ha
      have hz := Tm.sz_kid hm
      have hr := terms_typed_ok vs M nx hM n a (by omega) (hok.kid hm) (hv.kid hm)
      have hrm : roomP (s.length + 1) 24 = true := room24 (by omega)
      have hstep : terms_typed_l3 (terms_typedL n) n [eVs vs, .mp M, eB nx, rowD 4 t.nl (Tm.rows t.kids), eI t.kids.length, eI (i : Int), eI t.op, eI t.num, eS t.name, rowD 4 t.nl (Tm.rows t.kids), eB false, eI 0, eI 0, eYs s] =
          if (typ vs nx a).2 = 0 then some (.inl [eVs vs, .mp M, eB nx, rowD 4 t.nl (Tm.rows t.kids), eI t.kids.length, eI ((i + 1 : Nat) : Int), eI t.op, eI t.num, eS t.name, rowD 4 t.nl (Tm.rows t.kids), eB false, eI 0, eI 0, eYs (s ++ [(typ vs nx a).1])])
          else some (.inr (.inr (.tup [Y0.d, eI (typ vs nx a).2]))) := by
        by_cases h0 : (typ vs nx a).2 = 0
        · simp [terms_typed_l3, hi, Tm.ixP_kid ha, hr, h0, add1 (bt := false) (i := i) (by omega), eYs, hrm]
          simp [Y.cells]
        · simp [terms_typed_l3, hi, Tm.ixP_kid ha, hr, h0, fD]
      rw [hstep]
      simp only [typL]
      by_cases h0 : (typ vs nx a).2 = 0
      · left
        refine ⟨s ++ [(typ vs nx a).1], by simp [h0], ?_, by simp [hs]⟩
        by_cases h1 : (typL vs nx (t.kids.drop (i + 1))).2 = 0
        · simp [h0, h1]
        · simp [h0, h1]
      · right
        simp [h0]
/-- What Type answers. -/
def typeR (vs : List V) (nx : Bool) (t : Tm) : Y × Int := if (chk t 1 0).1 ≠ 0 then (Y0, (chk t 1 0).1) else typ vs nx t
theorem terms_Type_ok (n : Nat) (vs : List V) (t : Tm) (nx : Bool) (hn : t.sz + 200 + vs.length < n) (hok : t.Ok) (hvs : vs.length < 1000000000000) :
    terms_TypeL n [eVs vs, t.d, eB nx] = some (.tup [(typeR vs nx t).1.d, eI (typeR vs nx t).2]) := by
  have hc := terms_Check_ok n t (by omega) hok
  obtain ⟨M, m1, m2⟩ := terms_names_ok n vs (by omega) hvs
  have fD : D.agg [eB false, eI 0, eI 0] = Y0.d := rfl
  unfold typeR
  by_cases h0 : (chk t 1 0).1 = 0
  · have ht := terms_typed_ok vs M nx m2 n t (by omega) hok ⟨1, 0, h0⟩
    simp [terms_TypeL, terms_Type, hc, h0, m1, ht]
  · simp [terms_TypeL, terms_Type, hc, h0, fD]
end Go.Am
namespace Go.Am
set_option linter.unusedVariables false
set_option linter.unusedSimpArgs false
/-! ### Checked arithmetic -/
def big : Int := 9007199254740992
/-- A number in range. -/
def inR (n : Int) : Bool := decide (-9007199254740992 ≤ n) && decide (n ≤ 9007199254740992)
def heldD (n : Int) (ok : Bool) : D := if ok && inR n then .tup [eI n, eB true] else .tup [eI 0, eB false]
theorem num_held_ok (n : Nat) (a : Int) (ok : Bool) : num_heldL n [eI a, eB ok] = some (heldD a ok) := by
  unfold heldD inR
  cases ok <;> simp [num_heldL, num_held, -ite_tup, -ite_some]
  grind
theorem num_Add_ok (n : Nat) (a b : Int) (ha : -9223372036854775808 ≤ a ∧ a ≤ 9223372036854775807) (hb : -9223372036854775808 ≤ b ∧ b ≤ 9223372036854775807) : num_AddL n [eI a, eI b] = some (heldD (a + b) true) := by
  have hh := num_held_ok n
  by_cases h1 : (a < 0) = (b < 0)
  case neg =>
    have e : IntKind.i64.wrap (a + b) = a + b := by
      refine wrap64 _ ?_ ?_
      · by_cases c : a < 0 <;> by_cases d : b < 0 <;> simp [c, d] at h1 <;> omega
      · by_cases c : a < 0 <;> by_cases d : b < 0 <;> simp [c, d] at h1 <;> omega
    have hne : (decide (a < 0) != decide (b < 0)) = true := by by_cases c : a < 0 <;> by_cases d : b < 0 <;> simp [c, d] at h1 ⊢
    simp [num_AddL, num_Add, b_addw, e, hne, hh]
    unfold heldD; split <;> simp
  have hne : (decide (a < 0) != decide (b < 0)) = false := by by_cases c : a < 0 <;> by_cases d : b < 0 <;> simp [c, d] at h1 ⊢
  by_cases hr : -9223372036854775808 ≤ a + b ∧ a + b ≤ 9223372036854775807
  · have e : IntKind.i64.wrap (a + b) = a + b := wrap64 _ hr.1 hr.2
    have hs : (decide (a < 0) == decide (a + b < 0)) = true := by
      by_cases c : a < 0 <;> by_cases d : b < 0 <;> simp [c, d] at h1 ⊢ <;> omega
    simp [num_AddL, num_Add, b_addw, e, hne, hs, hh]
    unfold heldD; split <;> simp
  · have e : IntKind.i64.wrap (a + b) = if a < 0 then a + b + 18446744073709551616 else a + b - 18446744073709551616 := by
      simp only [IntKind.wrap_i64]
      split <;> omega
    have hs : (decide (a < 0) == decide (IntKind.i64.wrap (a + b) < 0)) = false := by
      rw [e]
      by_cases c : a < 0 <;> by_cases d : b < 0 <;> simp [c, d] at h1 ⊢ <;> omega
    simp [num_AddL, num_Add, b_addw, hne, hs, hh]
    have : inR (a + b) = false := by unfold inR; simp; omega
    simp [heldD, this]
/-! ### Products of 64 bits -/
def eU (n : Int) : D := .val (.int .u64 n)
section
variable {bt : Bool} {a b : Int}
theorem u_add (h : 0 ≤ a + b) (h' : a + b < 18446744073709551616) : binP bt .add (eU a) (eU b) = some (eU (a + b)) := by
  have e : binP bt .add (eU a) (eU b) = some (eU (IntKind.u64.wrap (a + b))) := rfl
  rw [e, IntKind.wrap_u64, Int.emod_eq_of_lt h h']
theorem u_mulw : binP bt .mul (eU a) (eU b) = some (eU (IntKind.u64.wrap (a * b))) := rfl
theorem u_mul (h : 0 ≤ a * b) (h' : a * b < 18446744073709551616) : binP bt .mul (eU a) (eU b) = some (eU (a * b)) := by
  rw [u_mulw, IntKind.wrap_u64, Int.emod_eq_of_lt h h']
theorem u_shr32 (h : 0 ≤ a) : binP bt .shr (eU a) (eU 32) = some (eU (a / 4294967296)) := by
  have e : binP bt .shr (eU a) (eU 32) = some (eU (a.fdiv (2 ^ (min (32 : Int).toNat IntKind.u64.bits)))) := rfl
  rw [e]
  have : (2 : Int) ^ (min (32 : Int).toNat IntKind.u64.bits) = 4294967296 := by decide
  rw [this, Int.fdiv_eq_ediv_of_nonneg _ (by omega)]
theorem u_and32 (h : 0 ≤ a) (h' : a < 18446744073709551616) : binP bt .and (eU a) (eU 4294967295) = some (eU (a % 4294967296)) := by
  have e : binP bt .and (eU a) (eU 4294967295) = some (eU (IntKind.u64.wrap ((BitVec.ofInt IntKind.u64.bits a &&& BitVec.ofInt IntKind.u64.bits 4294967295).toNat : Int))) := rfl
  rw [e]
  have hb : IntKind.u64.bits = 64 := rfl
  obtain ⟨m, rfl⟩ : ∃ m : Nat, a = m := ⟨a.toNat, by omega⟩
  have e1 : (BitVec.ofInt 64 (m : Int) &&& BitVec.ofInt 64 4294967295).toNat = m % 4294967296 := by
    have e2 : BitVec.ofInt 64 (m : Int) = BitVec.ofNat 64 m := by simp
    have e3 : BitVec.ofInt 64 4294967295 = BitVec.ofNat 64 4294967295 := by decide
    rw [e2, e3, BitVec.toNat_and, BitVec.toNat_ofNat, BitVec.toNat_ofNat, Nat.mod_eq_of_lt (by omega)]
    have := Nat.and_two_pow_sub_one_eq_mod m 32
    simpa using this
  rw [hb, e1, IntKind.wrap_u64]
  congr 2
  omega
theorem u_neq0 : binP bt .neq (eU a) (eU b) = some (eB (a != b)) := rfl
theorem u_gtr : binP bt .gtr (eU a) (eU b) = some (eB (decide (a > b))) := rfl
end
theorem mul32 {x y : Int} (hx : 0 ≤ x ∧ x ≤ 4294967295) (hy : 0 ≤ y ∧ y ≤ 4294967295) : 0 ≤ x * y ∧ x * y ≤ 18446744065119617025 := by
  refine ⟨Int.mul_nonneg hx.1 hy.1, ?_⟩
  have := Int.mul_le_mul hx.2 hy.2 hy.1 (by omega)
  simpa using this
theorem mul64_ok (n : Nat) (x y : Int) (hx : 0 ≤ x ∧ x < 18446744073709551616) (hy : 0 ≤ y ∧ y < 18446744073709551616) :
    math_bits_Mul64L n [eU x, eU y] = some (.tup [eU (x * y / 18446744073709551616), eU (x * y % 18446744073709551616)]) := by
  have a1 : 0 ≤ x % 4294967296 ∧ x % 4294967296 ≤ 4294967295 := by omega
  have a2 : 0 ≤ x / 4294967296 ∧ x / 4294967296 ≤ 4294967295 := by omega
  have b1 : 0 ≤ y % 4294967296 ∧ y % 4294967296 ≤ 4294967295 := by omega
  have b2 : 0 ≤ y / 4294967296 ∧ y / 4294967296 ≤ 4294967295 := by omega
  have p00 := mul32 a1 b1
  have p10 := mul32 a2 b1
  have p01 := mul32 a1 b2
  have p11 := mul32 a2 b2
  have hxy : x * y = (x / 4294967296 * (y / 4294967296)) * 18446744073709551616 + (x / 4294967296 * (y % 4294967296) + x % 4294967296 * (y / 4294967296)) * 4294967296 + x % 4294967296 * (y % 4294967296) := by
    have ex : x = x / 4294967296 * 4294967296 + x % 4294967296 := by omega
    have ey : y = y / 4294967296 * 4294967296 + y % 4294967296 := by omega
    generalize x / 4294967296 = u at *
    generalize x % 4294967296 = v at *
    generalize y / 4294967296 = w at *
    generalize y % 4294967296 = z at *
    subst ex; subst ey
    simp only [Int.add_mul, Int.mul_add]
    have e1 : u * 4294967296 * (w * 4294967296) = u * w * 18446744073709551616 := by
      rw [Int.mul_assoc, Int.mul_left_comm 4294967296 w, ← Int.mul_assoc, Int.mul_comm 4294967296 4294967296]; rfl
    have e2 : u * 4294967296 * z = u * z * 4294967296 := by rw [Int.mul_assoc, Int.mul_comm 4294967296 z, ← Int.mul_assoc]
    have e3 : v * (w * 4294967296) = v * w * 4294967296 := by rw [← Int.mul_assoc]
    omega
  show math_bits_Mul64 n (eU x) (eU y) = _
  have e32 : (D.val (.int .u64 32)) = eU 32 := rfl
  have em : (D.val (.int .u64 4294967295)) = eU 4294967295 := rfl
  have hsh : ∀ q : Int, 0 ≤ q → binP false .shr (eU q) (eU 32) = some (eU (q / 4294967296)) := fun q h => u_shr32 h
  have han : ∀ q : Int, 0 ≤ q → q < 18446744073709551616 → binP false .and (eU q) (eU 4294967295) = some (eU (q % 4294967296)) := fun q h h' => u_and32 h h'
  simp only [math_bits_Mul64, e32, em]
  rw [han x hx.1 hx.2, obind_s, hsh x hx.1, obind_s, han y hy.1 hy.2, obind_s, hsh y hy.1, obind_s, u_mul p00.1 (by omega), obind_s, u_mul p10.1 (by omega), obind_s]
  generalize x % 4294967296 * (y % 4294967296) = P00 at *
  generalize x / 4294967296 * (y % 4294967296) = P10 at *
  rw [hsh P00 (by omega), obind_s, u_add (by omega) (by omega), obind_s, han _ (by omega) (by omega), obind_s, hsh _ (by omega), obind_s, u_mul p01.1 (by omega), obind_s]
  generalize x % 4294967296 * (y / 4294967296) = P01 at *
  rw [u_add (by omega) (by omega), obind_s, u_mul p11.1 (by omega), obind_s]
  generalize x / 4294967296 * (y / 4294967296) = P11 at *
  rw [u_add (by omega) (by omega), obind_s, hsh _ (by omega), obind_s, u_add (by omega) (by omega), obind_s, u_mulw, obind_s, IntKind.wrap_u64, hxy]
  congr 3
  · congr 1; omega
theorem num_size_ok (n : Nat) (a : Int) (ha : -9223372036854775808 ≤ a ∧ a ≤ 9223372036854775807) : num_sizeL n [eI a] = some (eU a.natAbs) := by
  have e1 : ∀ v : Int, unP .neg (.val (.int .u64 v)) = some (eU (IntKind.u64.wrap (0 - v))) := fun _ => rfl
  have e2 : ∀ v : Int, cvP .u64 (eI v) = some (.val (.int .u64 (IntKind.u64.wrap v))) := fun _ => rfl
  by_cases h : a < 0
  · simp [num_sizeL, num_size, h, e2, e1]
    simp only [IntKind.wrap_u64, eU, D.val.injEq, Value.int.injEq, true_and]
    omega
  · simp [num_sizeL, num_size, h, e2]
    simp only [IntKind.wrap_u64, eU, D.val.injEq, Value.int.injEq, true_and]
    omega
end Go.Am
namespace Go.Am
set_option linter.unusedVariables false
set_option linter.unusedSimpArgs false
theorem inR_iff (n : Int) : inR n = true ↔ n.natAbs ≤ 9007199254740992 := by unfold inR; simp; omega
theorem natAbs_mul_le {a b : Int} {A B : Nat} (h : a.natAbs ≤ A) (h' : b.natAbs ≤ B) : (a * b).natAbs ≤ A * B := by
  rw [Int.natAbs_mul]; exact Nat.mul_le_mul h h'
theorem sign_mul (a b : Int) (h : a * b ≠ 0) : ((a < 0) ≠ (b < 0)) ↔ a * b < 0 := by
  have ha : a ≠ 0 := by rintro rfl; simp at h
  have hb : b ≠ 0 := by rintro rfl; simp at h
  rcases Int.lt_or_gt_of_ne ha with h1 | h1 <;> rcases Int.lt_or_gt_of_ne hb with h2 | h2
  · have := Int.mul_pos_of_neg_of_neg h1 h2
    simp [h1, h2]; omega
  · have := Int.mul_neg_of_neg_of_pos h1 h2
    simp [h1, this]; omega
  · have := Int.mul_neg_of_pos_of_neg h1 h2
    simp [h2, this]; omega
  · have := Int.mul_pos h1 h2
    simp; omega
theorem num_Mul_ok (n : Nat) (a b : Int) (ha : inR a = true) (hb : inR b = true) : num_MulL n [eI a, eI b] = some (heldD (a * b) true) := by
  rw [inR_iff] at ha hb
  have h1 := num_size_ok n a (by omega)
  have h2 := num_size_ok n b (by omega)
  have hm := natAbs_mul_le ha hb
  have h3 := mul64_ok n a.natAbs b.natAbs (by omega) (by omega)
  have e : ((a.natAbs : Int) * b.natAbs) = ((a * b).natAbs : Int) := by rw [Int.natAbs_mul]; simp
  rw [e] at h3
  have hs := sign_mul a b
  generalize a * b = p at *
  have c0 : (D.val (.int .u64 0)) = eU 0 := rfl
  have c1 : (D.val (.int .u64 9007199254740992)) = eU 9007199254740992 := rfl
  have e1 : ∀ v : Int, cvP .i64 (eU v) = some (eI (IntKind.i64.wrap v)) := fun _ => rfl
  by_cases hr : inR p = true
  · have hr' := (inR_iff p).1 hr
    have q1 : ((p.natAbs : Int) / 18446744073709551616) = 0 := by omega
    have q2 : ((p.natAbs : Int) % 18446744073709551616) = p.natAbs := by omega
    have q3 : IntKind.i64.wrap (p.natAbs : Int) = p.natAbs := wrap64 _ (by omega) (by omega)
    have q4 : IntKind.i64.wrap (-(p.natAbs : Int)) = -(p.natAbs : Int) := wrap64 _ (by omega) (by omega)
    have q5 : ¬ (9007199254740992 < (p.natAbs : Int)) := by omega
    rw [q1, q2] at h3
    by_cases hz : p = 0
    · subst hz
      simp [num_MulL, num_Mul, h1, h2, h3, c0, c1, u_neq0, u_gtr, e1, heldD, hr]
      by_cases x1 : a < 0 <;> by_cases x2 : b < 0 <;> simp [x1, x2, show IntKind.i64.wrap 0 = 0 from rfl]
    · have hs := hs hz
      by_cases x1 : a < 0 <;> by_cases x2 : b < 0 <;> simp [x1, x2] at hs <;> simp [num_MulL, num_Mul, h1, h2, h3, c0, c1, u_neq0, u_gtr, e1, heldD, hr, q5, q3, q4, x1, x2] <;> omega
  · have hr' : ¬ (p.natAbs ≤ 9007199254740992) := fun h => hr ((inR_iff p).2 h)
    have hf : inR p = false := by simpa using hr
    by_cases q1 : ((p.natAbs : Int) / 18446744073709551616) = 0
    · have q2 : ((p.natAbs : Int) % 18446744073709551616) = p.natAbs := by omega
      have q5 : 9007199254740992 < (p.natAbs : Int) := by omega
      rw [q1, q2] at h3
      simp [num_MulL, num_Mul, h1, h2, h3, c0, c1, u_neq0, u_gtr, e1, heldD, hf, q5]
    · have q6 : ((p.natAbs : Int) / 18446744073709551616 != 0) = true := by simpa using q1
      simp [num_MulL, num_Mul, h1, h2, h3, c0, c1, u_neq0, u_gtr, e1, heldD, hf, q6]
/-! ### Values -/
def tr (b : Bool) : Int := if b then 1 else 0
theorem terms_truth_ok (n : Nat) (b : Bool) : terms_truthL n [eB b] = some (.tup [eI (tr b), eB true]) := by
  cases b <;> simp [terms_truthL, terms_truth, tr]
/-- The value of a part from the values of its kids, as the reference has it; and whether it is in range. -/
def opR (op : Int) (l : List Int) : Int × Bool :=
  if op = 6 then (tr (decide (l.sum = l.length)), true)
  else if op = 7 then (tr (decide (l.sum > 0)), true)
  else match l with
    | [a] => (1 - a, inR (1 - a))
    | [a, b] => if op = 8 then (tr (a == 0 || b == 1), true) else if op = 9 ∨ op = 10 then (tr (a == b), true) else if op = 11 then (tr (a != b), true)
      else if op = 12 then (tr (decide (a < b)), true) else if op = 13 then (tr (decide (a ≤ b)), true)
      else if op = 14 then (a + b, inR (a + b)) else if op = 15 then (a - b, inR (a - b))
      else if op = 16 then if inR (a * b) then (a * b, true) else (0, false)
      else ((a.tmod b + b).tmod b, inR ((a.tmod b + b).tmod b))
    | [a, b, c] => (if a = 1 then b else c, inR (if a = 1 then b else c))
    | _ => (0, false)
def resD (p : Int × Bool) : D := if p.2 then .tup [eI p.1, eB true] else .tup [eI 0, eB false]
theorem resD_held (v : Int) : heldD v true = resD (v, inR v) := by simp [heldD, resD]
theorem eIs_ix {l : List Int} {i : Nat} {y : Int} (h : l[i]? = some y) : ixP 1 (eIs l) (eI (i : Int)) = some [eI y] := by simp [eIs, h]
theorem eIs_ix0 {y : Int} {l : List Int} : ixP 1 (eIs (y :: l)) (eI 0) = some [eI y] := eIs_ix (i := 0) rfl
theorem eIs_ix1 {x y : Int} {l : List Int} : ixP 1 (eIs (x :: y :: l)) (eI 1) = some [eI y] := eIs_ix (i := 1) rfl
theorem eIs_ix2 {x y z : Int} {l : List Int} : ixP 1 (eIs (x :: y :: z :: l)) (eI 2) = some [eI z] := eIs_ix (i := 2) rfl
theorem eIs_lenP (l : List Int) : lenP (eIs l) = some (eI l.length) := by simp [eIs]
theorem eI_row (l : List Int) : D.sl 1 (esD (eIs l)) = eIs l := rfl
/-- The sum of a short list of numbers in range. -/
theorem sum_bd : ∀ (l : List Int), (∀ v ∈ l, inR v = true) → -(9007199254740992 * (l.length : Int)) ≤ l.sum ∧ l.sum ≤ 9007199254740992 * (l.length : Int)
  | [], _ => by simp
  | a :: r, h => by
    have := sum_bd r fun v hv => h v (by simp [hv])
    have := (inR_iff a).1 (h a (by simp))
    simp only [List.sum_cons, List.length_cons]
    omega
theorem sum_take_bd {l : List Int} (h : ∀ v ∈ l, inR v = true) (hl : l.length ≤ 64) (i : Nat) : -576460752303423488 ≤ (l.take i).sum ∧ (l.take i).sum ≤ 576460752303423488 := by
  have := sum_bd (l.take i) fun v hv => h v (List.mem_of_mem_take hv)
  have hle : (l.take i).length ≤ 64 := by rw [List.length_take]; omega
  omega
theorem joined_sum (n : Nat) (L0 d1 d2 d3 d4 : D) (l : List Int) (h : ∀ v ∈ l, inR v = true) (hl : l.length ≤ 64) (hn : 64 < n) :
    iterL (terms_joined_l29 n) n [L0, eI 0, eIs l, eI l.length, eI 0, d1, d2, d3, d4] = some (.inl [L0, eI l.sum, d1, d2, d3, d4]) := by
  have hi := iterL_list (f := terms_joined_l29 n) l (fun i (s : Int) => [L0, eI s, eIs l, eI l.length, eI (i : Int), d1, d2, d3, d4]) (fun r s => (Sum.inl [L0, eI (s + r.sum), d1, d2, d3, d4] : List D ⊕ D)) (fun i s => s = (l.take i).sum)
    (fun s _ => by simp [terms_joined_l29]) ?_ n 0 0 (by simp) (by omega) (Nat.zero_le _)
  · have e0 : (eI ((0 : Nat) : Int)) = eI 0 := rfl
    rw [e0] at hi
    simpa using hi
  · intro i a s ha hi hs
    left
    have hb := sum_take_bd h hl i
    have hav := (inR_iff a).1 (h a (List.mem_of_getElem? ha))
    have hadd : binP false .add (eI s) (eI a) = some (eI (s + a)) := b_add (by omega) (by omega)
    refine ⟨s + a, by simp [terms_joined_l29, hi, eIs_ix ha, hadd, add1 (bt := false) (i := i) (by omega)], by simp [Int.add_assoc], ?_⟩
    rw [List.take_add_one, ha, hs]
    simp
theorem tmod_bd {a b : Int} (hb : 1 ≤ b) : -b < a.tmod b ∧ a.tmod b < b := by
  have h1 := Int.tmod_lt_of_pos a (show 0 < b by omega)
  have h2 := Int.lt_tmod_of_pos a (show 0 < b by omega)
  exact ⟨h2, h1⟩
set_option maxHeartbeats 1000000 in
theorem terms_joined_ok (n : Nat) (t : Tm) (l : List Int) (hv : Valid t) (hlt : l.length = t.kids.length) (hop : 5 ≤ t.op) (hr : ∀ v ∈ l, inR v = true) (hn : 100 < n)
    (hb : (t.op ≤ 9 → ∀ v ∈ l, v = 0 ∨ v = 1) ∧ (t.op = 18 → ∀ v, l[0]? = some v → v = 0 ∨ v = 1)) (hm : t.op = 17 → ∀ v, l[1]? = some v → 1 ≤ v ∧ v ≤ 255) :
    terms_joinedL n [t.d, eIs l] = some (resD (opR t.op l)) := by
  have hv1 := hv.op
  have hlen := hv.len
  have c0 := Tm.cel0 t
  have ca := Tm.aggP_d t
  have hk := kids2 (op := t.op)
  have hk3 := kids3 (op := t.op)
  have h64 := hv.len64
  have hlp := eIs_lenP l
  have htr := terms_truth_ok n
  have hsum := fun L0 d1 d2 d3 d4 => joined_sum n L0 d1 d2 d3 d4 l hr (by omega) (by omega)
  by_cases h67 : t.op = 6 ∨ t.op = 7
  · have hge : 1 ≤ l.length := by
      have : kidsOf t.op = (1, 64) := by unfold kidsOf; rw [if_neg (by omega), if_neg (by omega), if_pos h67]
      rw [this] at hlen
      simp only at hlen; omega
    generalize t.op = op at *
    rcases h67 with rfl | rfl
    · simp [terms_joinedL, terms_joined, ca, c0, hlp, hsum, opR, resD, htr, -ite_eB]
      by_cases hc : l.sum = (l.length : Int) <;> simp [hc, htr]
    · simp [terms_joinedL, terms_joined, ca, c0, hlp, hsum, opR, resD, htr, -ite_eB]
      by_cases hc : l.sum = (l.length : Int)
      · have : 0 < l.sum := by omega
        have hp : 0 < l.length := by omega
        simp [hc, htr, hp]
      · by_cases h0 : 0 < l.sum <;> simp [hc, h0, htr]
  have hl1 : t.op = 5 → l.length = 1 := fun h => by
    have : kidsOf t.op = (1, 1) := by rw [h]; rfl
    rw [this] at hlen; simp only at hlen; omega
  by_cases h5 : t.op = 5
  · have := hl1 h5
    match l, this with
    | [a], _ =>
      have ha := hb.1 (by omega) a (by simp)
      have g0 := eIs_ix0 (y := a) (l := [])
      generalize t.op = op at *
      subst h5
      rcases ha with rfl | rfl
      · simp [terms_joinedL, terms_joined, ca, c0, g0, opR, resD, htr, tr, inR]
      · simp [terms_joinedL, terms_joined, ca, c0, g0, opR, resD, htr, tr, inR]
  by_cases h18 : t.op = 18
  · rw [hk3 h18] at hlen
    obtain ⟨a, b, c, rfl⟩ := list3 (l := l) (by simp only at hlen; omega)
    have ha := hb.2 h18 a rfl
    have g0 := eIs_ix0 (y := a) (l := [b, c])
    have g1 := eIs_ix1 (x := a) (y := b) (l := [c])
    have g2 := eIs_ix2 (x := a) (y := b) (z := c) (l := [])
    have hbr := hr b (by simp)
    have hcr := hr c (by simp)
    generalize t.op = op at *
    subst h18
    rcases ha with rfl | rfl
    · simp [terms_joinedL, terms_joined, ca, c0, g0, g1, g2, opR, resD, hcr]
    · simp [terms_joinedL, terms_joined, ca, c0, g0, g1, g2, opR, resD, hbr]
  rw [hk (by omega)] at hlen
  obtain ⟨a, b, rfl⟩ := list2 (l := l) (by simp only at hlen; omega)
  have g0 := eIs_ix0 (y := a) (l := [b])
  have g1 := eIs_ix1 (x := a) (y := b) (l := [])
  have ra := hr a (by simp)
  have rb := hr b (by simp)
  have ra' := (inR_iff a).1 ra
  have rb' := (inR_iff b).1 rb
  have hA := num_Add_ok n a b (by omega) (by omega)
  have hS := num_Add_ok n a (-b) (by omega) (by omega)
  have hM := num_Mul_ok n a b ra rb
  have hneg : IntKind.i64.wrap (-b) = -b := wrap64 _ (by omega) (by omega)
  have hsub : a + -b = a - b := by omega
  have hx : ∀ p : Int × Bool, (extP 0 (resD p)) = some (eI (if p.2 then p.1 else 0)) ∧ (extP 1 (resD p)) = some (eB p.2) := by
    intro p; obtain ⟨v, o⟩ := p; cases o <;> simp [resD]
  have hy : ∀ p : Int × Bool, D.tup [eI (if p.2 then p.1 else 0), eB p.2] = resD p := by
    intro p; obtain ⟨v, o⟩ := p; cases o <;> simp [resD]
  rw [hsub] at hS
  rw [resD_held] at hA hS hM
  by_cases h17 : t.op = 17
  · obtain ⟨q1, q2⟩ := hm h17 b rfl
    have m1 := tmod_bd (a := a) q1
    have hnz : b ≠ 0 := by omega
    have w2 : binP false .add (eI (a.tmod b)) (eI b) = some (eI (a.tmod b + b)) := b_add (by omega) (by omega)
    have m2 := tmod_bd (a := a.tmod b + b) q1
    have hin : inR ((a.tmod b + b).tmod b) = true := (inR_iff _).2 (by omega)
    have e1 : binP false .rem (eI a) (eI b) = some (eI (a.tmod b)) := b_rem hnz
    have e2 : binP false .rem (eI (a.tmod b + b)) (eI b) = some (eI ((a.tmod b + b).tmod b)) := b_rem hnz
    generalize t.op = op at *
    subst h17
    simp [terms_joinedL, terms_joined, ca, c0, g0, g1, opR, resD, e1, e2, w2, hin]
  have hc : t.op = 8 ∨ t.op = 9 ∨ t.op = 10 ∨ t.op = 11 ∨ t.op = 12 ∨ t.op = 13 ∨ t.op = 14 ∨ t.op = 15 ∨ t.op = 16 := by omega
  have hb8 : t.op = 8 → (b = 0 ∨ b = 1) := fun h => hb.1 (by omega) b (by simp)
  generalize t.op = op at *
  rcases hc with rfl | rfl | rfl | rfl | rfl | rfl | rfl | rfl | rfl
  · rcases hb8 rfl with rfl | rfl
    · by_cases ha0 : a = 0
      · simp [terms_joinedL, terms_joined, ca, c0, g0, g1, opR, resD, htr, ha0, eIs_ix0, eIs_ix1]
      · have hb0 : (a == 0) = false := by simpa using ha0
        simp [terms_joinedL, terms_joined, ca, c0, g0, g1, opR, resD, htr, ha0, hb0, eIs_ix0, eIs_ix1]
    · by_cases ha0 : a = 0
      · simp [terms_joinedL, terms_joined, ca, c0, g0, g1, opR, resD, htr, ha0, eIs_ix0, eIs_ix1]
      · have hb0 : (a == 0) = false := by simpa using ha0
        simp [terms_joinedL, terms_joined, ca, c0, g0, g1, opR, resD, htr, ha0, hb0, eIs_ix0, eIs_ix1]
  · simp [terms_joinedL, terms_joined, ca, c0, g0, g1, opR, resD, htr]
  · simp [terms_joinedL, terms_joined, ca, c0, g0, g1, opR, resD, htr]
  · simp [terms_joinedL, terms_joined, ca, c0, g0, g1, opR, resD, htr]
  · simp [terms_joinedL, terms_joined, ca, c0, g0, g1, opR, resD, htr]
  · simp [terms_joinedL, terms_joined, ca, c0, g0, g1, opR, resD, htr]
  · simp [terms_joinedL, terms_joined, ca, c0, g0, g1, opR, hA, hx]
    rw [← hy]
  · simp [terms_joinedL, terms_joined, ca, c0, g0, g1, opR, hneg, hS, hx]
    rw [← hy]
  · simp [terms_joinedL, terms_joined, ca, c0, g0, g1, opR, hM, hx]
    cases hq : inR (a * b) <;> simp [resD]
/-- The value of a term. -/
def idxL (vs : List V) (s nn : List Int) (t : Tm) : Option Nat := if (if t.op = 4 then nn else s).length = vs.length then idxV vs t.name else none
theorem idxL_some {vs : List V} {s nn : List Int} {t : Tm} {i : Nat} (h : idxL vs s nn t = some i) : idxV vs t.name = some i ∧ (if t.op = 4 then nn else s).length = vs.length := by
  unfold idxL at h
  by_cases hc : (if t.op = 4 then nn else s).length = vs.length
  · rw [if_pos hc] at h; exact ⟨h, hc⟩
  · rw [if_neg hc] at h; cases h
def leafR (vs : List V) (s nn : List Int) (t : Tm) : Int × Bool :=
  if t.op ≤ 2 then (t.num, true)
  else match idxL vs s nn t with
    | none => (0, false)
    | some i => match vs[i]?, (if t.op = 4 then nn else s)[i]? with
      | some v, some x => if v.bool then (tr (x != 0), true) else (x, inR x)
      | _, _ => (0, false)
mutual
def valR (vs : List V) (s nn : List Int) : Tm → Int × Bool
  | .mk o n a b ks => if o ≤ 4 then leafR vs s nn (.mk o n a b ks) else match valL vs s nn ks with
    | some l => opR o l
    | none => (0, false)
def valL (vs : List V) (s nn : List Int) : List Tm → Option (List Int)
  | [] => some []
  | t :: r => if (valR vs s nn t).2 then match valL vs s nn r with
      | some l => some ((valR vs s nn t).1 :: l)
      | none => none
    else none
end
theorem valR_eq (vs : List V) (s nn : List Int) (t : Tm) : valR vs s nn t = if t.op ≤ 4 then leafR vs s nn t else match valL vs s nn t.kids with
    | some l => opR t.op l
    | none => (0, false) := by cases t; rw [valR]; rfl
mutual
/-- Is there a name of the next state? -/
def steps : Tm → Bool
  | .mk o _ _ _ ks => o == 4 || stepsL ks
def stepsL : List Tm → Bool
  | [] => false
  | t :: r => steps t || stepsL r
end
theorem steps_eq (t : Tm) : steps t = (t.op == 4 || stepsL t.kids) := by cases t; rw [steps]; rfl
theorem stepsL_mem : ∀ {l : List Tm} {t : Tm}, t ∈ l → stepsL l = false → steps t = false
  | a :: r, t, h, hs => by
    rw [stepsL, Bool.or_eq_false_iff] at hs
    rcases List.mem_cons.1 h with rfl | h
    · exact hs.1
    · exact stepsL_mem h hs.2
theorem tr_in (b : Bool) : inR (tr b) = true := by cases b <;> rfl
def QI (p : Int × Bool) : Prop := p.2 = true → inR p.1 = true
theorem QI_ite {c : Prop} [Decidable c] {p q : Int × Bool} (hp : QI p) (hq : c ∨ QI q) : QI (if c then p else q) := by
  split
  · exact hp
  · exact hq.resolve_left (by assumption)
theorem QI_tr (b : Bool) : QI (tr b, true) := fun _ => tr_in b
theorem QI_s (v : Int) : QI (v, inR v) := fun h => h
theorem opR_in {op : Int} {l : List Int} : QI (opR op l) := by
  unfold opR
  refine QI_ite (QI_tr _) (.inr (QI_ite (QI_tr _) (.inr ?_)))
  match l with
  | [] => intro h; cases h
  | [a] => exact QI_s _
  | [a, b, c] => exact QI_s _
  | a :: b :: c :: d :: r => intro h; cases h
  | [a, b] =>
    refine QI_ite (QI_tr _) (.inr (QI_ite (QI_tr _) (.inr (QI_ite (QI_tr _) (.inr (QI_ite (QI_tr _) (.inr (QI_ite (QI_tr _) (.inr (QI_ite (QI_s _) (.inr (QI_ite (QI_s _) (.inr (QI_ite ?_ (.inr (QI_s _))))))))))))))))
    by_cases h : inR (a * b) = true
    · rw [if_pos h]; exact fun _ => h
    · rw [if_neg h]; intro h; cases h
theorem leafR_in {vs : List V} {s nn : List Int} {t : Tm} (hv : Valid t) (h : (leafR vs s nn t).2 = true) : inR (leafR vs s nn t).1 = true := by
  have hn := hv.num
  unfold leafR at *
  by_cases h2 : t.op ≤ 2
  · rw [if_pos h2]; exact (inR_iff _).2 (by simp only; omega)
  rw [if_neg h2] at *
  cases hi : idxL vs s nn t with
  | none => simp [hi] at h
  | some i =>
    rw [hi] at h
    simp only at h ⊢
    cases hw : vs[i]? with
    | none => rw [hw] at h; cases h
    | some v =>
      cases hx : ((if t.op = 4 then nn else s)[i]?) with
      | none => rw [hw, hx] at h; cases h
      | some x =>
        rw [hw, hx] at h
        simp only at h ⊢
        by_cases hb : v.bool = true
        · rw [if_pos hb]; exact tr_in _
        · rw [if_neg hb] at *; exact h
theorem valR_in {vs : List V} {s nn : List Int} {t : Tm} (hv : Valid t) (h : (valR vs s nn t).2 = true) : inR (valR vs s nn t).1 = true := by
  rw [valR_eq] at *
  by_cases h4 : t.op ≤ 4
  · rw [if_pos h4] at *; exact leafR_in hv h
  · rw [if_neg h4] at *
    split at h
    · rename_i l hl; exact opR_in h
    · cases h
end Go.Am
namespace Go.Am
set_option linter.unusedVariables false
set_option linter.unusedSimpArgs false
/-! ### A boolean term has the value 0 or 1 -/
def b01 (v : Int) : Prop := v = 0 ∨ v = 1
theorem tr_b01 (b : Bool) : b01 (tr b) := by cases b <;> simp [tr, b01]
theorem spanY_b (lo hi : Int) : (spanY lo hi).1.b = false := by unfold spanY; split <;> rfl
theorem reckY_b (op : Int) (a b : Y) : (reckY op a b).1.b = false := by unfold reckY; split <;> (try split) <;> exact spanY_b _ _
theorem typL_get (vs : List V) (nx : Bool) (s nn : List Int) : ∀ {ks : List Tm} {l : List Int}, (typL vs nx ks).2 = 0 → valL vs s nn ks = some l → l.length = ks.length ∧ ∀ (i : Nat) (y : Y) (v : Int), (typL vs nx ks).1[i]? = some y → l[i]? = some v →
    ∃ k, ks[i]? = some k ∧ (typ vs nx k).2 = 0 ∧ y = (typ vs nx k).1 ∧ (valR vs s nn k).2 = true ∧ v = (valR vs s nn k).1
  | [], l, _, hv => by cases hv; exact ⟨rfl, by intro i y v _ h; simp at h⟩
  | k :: r, l, h, hv => by
    rw [typL] at *
    rw [valL] at hv
    by_cases h1 : (typ vs nx k).2 = 0
    case neg => rw [if_pos h1] at h; exact absurd h h1
    have h1' : ¬ (typ vs nx k).2 ≠ 0 := by simpa using h1
    rw [if_neg h1'] at h ⊢
    by_cases h2 : (typL vs nx r).2 = 0
    case neg => rw [if_pos h2] at h; exact absurd h h2
    have h2' : ¬ (typL vs nx r).2 ≠ 0 := by simpa using h2
    rw [if_neg h2'] at h ⊢
    by_cases h3 : (valR vs s nn k).2 = true
    case neg => rw [if_neg h3] at hv; cases hv
    rw [if_pos h3] at hv
    cases h4 : valL vs s nn r with
    | none => rw [h4] at hv; cases hv
    | some l' =>
      rw [h4] at hv
      cases hv
      obtain ⟨g1, g2⟩ := typL_get vs nx s nn h2 h4
      refine ⟨by simp [g1], ?_⟩
      intro i y v hy hw
      cases i with
      | zero => simp at hy hw; exact ⟨k, rfl, h1, hy.symm, h3, hw.symm⟩
      | succ i => simpa using g2 i y v (by simpa using hy) (by simpa using hw)
theorem joinY_5 {t : Tm} {l : List Y} (h : (joinY t l).2 = 0) (h1 : 5 ≤ t.op ∧ t.op ≤ 9) : l.all Y.b = true := by
  unfold joinY at h
  rw [if_pos h1] at h
  by_cases hc : l.all Y.b = true
  · exact hc
  · rw [if_neg hc] at h; cases h
theorem joinY_18 {t : Tm} {a b c : Y} (h : (joinY t [a, b, c]).2 = 0) (h1 : ¬ (5 ≤ t.op ∧ t.op ≤ 9)) : a.b = true ∧ b.b = c.b ∧ ((joinY t [a, b, c]).1.b = true → b.b = true) := by
  unfold joinY at *
  rw [if_neg h1] at *
  simp only at h ⊢
  by_cases hc : (!a.b || (b.b != c.b)) = true
  · rw [if_pos hc] at h; cases h
  rw [if_neg hc] at *
  refine ⟨by cases ha : a.b <;> simp_all, by cases hb : b.b <;> cases hcc : c.b <;> simp_all, ?_⟩
  by_cases hb : b.b = true
  · exact fun _ => hb
  · rw [if_neg hb, spanY_b]; intro h; cases h
theorem joinY_17 {t : Tm} {a b : Y} (h : (joinY t [a, b]).2 = 0) (h1 : t.op = 17) {k : Tm} (hk : t.kids[1]? = some k) : k.op = 1 ∧ 1 ≤ k.num := by
  unfold joinY at h
  rw [if_neg (by omega)] at h
  simp only at h
  rw [if_neg (by omega)] at h
  by_cases hc : (a.b || b.b) = true
  · rw [if_pos hc] at h; cases h
  rw [if_neg hc, if_neg (by omega), if_pos h1, hk] at h
  simp only at h
  by_cases hd : k.op ≠ 1 ∨ k.num < 1
  · rw [if_pos hd] at h; cases h
  · omega
theorem joinY_14 {t : Tm} {a b : Y} (h1 : 14 ≤ t.op ∧ t.op ≤ 17) : (joinY t [a, b]).1.b = false := by
  unfold joinY
  rw [if_neg (by omega)]
  simp only
  rw [if_neg (by omega)]
  split
  · rfl
  rw [if_neg (by omega)]
  split
  · split
    · split
      · rfl
      · exact spanY_b _ _
    · rfl
  · exact reckY_b _ _ _
theorem leafR_b01 {vs : List V} {nx : Bool} {s nn : List Int} {t : Tm} (hv : Valid t) (h : (leafV vs nx t).1.b = true) (hr : (leafR vs s nn t).2 = true) : b01 (leafR vs s nn t).1 := by
  have hn := hv.num
  unfold leafV at h
  unfold leafR at *
  by_cases h1 : t.op = 1
  · rw [if_pos h1, spanY_b] at h; cases h
  rw [if_neg h1] at h
  by_cases h2 : t.op = 2
  · rw [if_pos (by omega)]; unfold b01; simp only; omega
  rw [if_neg h2] at h
  have hop := hv.op
  rw [if_neg (by omega)] at *
  cases hi : idxL vs s nn t with
  | none => rw [hi] at hr; cases hr
  | some i =>
    rw [(idxL_some hi).1] at h
    rw [hi] at hr
    simp only at h hr ⊢
    by_cases h3 : t.op = 4 ∧ nx = false
    · rw [if_pos h3] at h; cases h
    rw [if_neg h3] at h
    cases hw : vs[i]? with
    | none => rw [hw] at hr; cases hr
    | some v =>
      rw [hw] at h hr
      simp only at h
      by_cases hb : v.bool = true
      · cases hx : ((if t.op = 4 then nn else s)[i]?) with
        | none => rw [hx] at hr; cases hr
        | some x => simp only; rw [if_pos hb]; exact tr_b01 _
      · rw [if_neg hb, spanY_b] at h; cases h
theorem b01_iff {a : Int} : b01 a ↔ (a = 0 ∨ a = 1) := Iff.rfl
theorem typ_bool (vs : List V) (nx : Bool) (s nn : List Int) (t : Tm) : Valid t → (typ vs nx t).2 = 0 → (typ vs nx t).1.b = true → (valR vs s nn t).2 = true → b01 (valR vs s nn t).1 := by
  refine Tm.ind (P := fun t => Valid t → (typ vs nx t).2 = 0 → (typ vs nx t).1.b = true → (valR vs s nn t).2 = true → b01 (valR vs s nn t).1) ?_ t
  intro t ih hv h hb hr
  rw [typ_eq] at h hb
  rw [valR_eq] at hr ⊢
  by_cases h4 : t.op ≤ 4
  · rw [if_pos h4] at *; exact leafR_b01 hv hb hr
  rw [if_neg h4] at *
  by_cases h0 : (typL vs nx t.kids).2 = 0
  case neg => rw [if_pos h0] at h; exact absurd h h0
  rw [if_neg (by simpa using h0)] at h hb
  cases hl : valL vs s nn t.kids with
  | none => rw [hl] at hr; cases hr
  | some l =>
    rw [hl] at hr
    simp only at hr ⊢
    obtain ⟨g1, g2⟩ := typL_get vs nx s nn h0 hl
    obtain ⟨g3, _⟩ := typL_len vs nx t.kids h0
    have hop := hv.op
    have hlen := hv.len
    have hk := kids2 (op := t.op)
    have hk3 := kids3 (op := t.op)
    unfold opR
    by_cases h6 : t.op = 6
    · rw [if_pos h6]; exact tr_b01 _
    rw [if_neg h6]
    by_cases h7 : t.op = 7
    · rw [if_pos h7]; exact tr_b01 _
    rw [if_neg h7]
    by_cases h5 : t.op = 5
    · have : kidsOf t.op = (1, 1) := by rw [h5]; rfl
      rw [this] at hlen
      match l, g1, g2 with
      | [a], g1, g2 =>
        have hall := joinY_5 h (by omega)
        have : 0 < (typL vs nx t.kids).1.length := by simp at g1; omega
        obtain ⟨k, q1, q2, q3, q4, q5⟩ := g2 0 _ a (List.getElem?_eq_getElem this) rfl
        have hkb := List.all_eq_true.1 hall _ (List.getElem_mem this)
        rw [q3] at hkb
        have := ih k (List.mem_of_getElem? q1) (hv.kid (List.mem_of_getElem? q1)) q2 hkb q4
        rw [← q5] at this
        simp only
        rcases this with h | h <;> subst h <;> simp [b01]
      | [], g1, _ => simp at g1; simp only at hlen; omega
      | _ :: _ :: _, g1, _ => simp at g1; simp only at hlen; omega
    by_cases h18 : t.op = 18
    · rw [hk3 h18] at hlen
      have hl3 : l.length = 3 := by simp only at hlen; omega
      obtain ⟨a, b, c, rfl⟩ := list3 hl3
      obtain ⟨ya, yb, yc, hy⟩ := list3 (l := (typL vs nx t.kids).1) (by simp only at hlen; omega)
      rw [hy] at h hb g2
      obtain ⟨j1, j2, j3⟩ := joinY_18 h (by omega)
      have hbb := j3 hb
      have get : ∀ (i : Nat) (y : Y) (v : Int), [ya, yb, yc][i]? = some y → [a, b, c][i]? = some v → y.b = true → b01 v := by
        intro i y v hy hw hyb
        obtain ⟨k, q1, q2, q3, q4, q5⟩ := g2 i y v hy hw
        rw [q5]
        exact ih k (List.mem_of_getElem? q1) (hv.kid (List.mem_of_getElem? q1)) q2 (by rw [← q3]; exact hyb) q4
      simp only
      by_cases ha : a = 1
      · rw [if_pos ha]; exact get 1 yb b rfl rfl hbb
      · rw [if_neg ha]; exact get 2 yc c rfl rfl (by rw [← j2]; exact hbb)
    rw [hk (by omega)] at hlen
    obtain ⟨a, b, rfl⟩ := list2 (l := l) (by simp only at hlen; omega)
    obtain ⟨ya, yb, hy⟩ := list2 (l := (typL vs nx t.kids).1) (by simp only at hlen; omega)
    rw [hy] at h hb
    have h14 : t.op ≤ 13 := by
      refine Classical.byContradiction fun hc => ?_
      rw [joinY_14 (by omega)] at hb
      cases hb
    simp only
    have hc : t.op = 8 ∨ t.op = 9 ∨ t.op = 10 ∨ t.op = 11 ∨ t.op = 12 ∨ t.op = 13 := by omega
    rcases hc with e | e | e | e | e | e <;> simp only [e] <;> exact tr_b01 _
/-- What Eval and the reference need to know of the values of the kids. -/
theorem argsOk {vs : List V} {nx : Bool} {s nn : List Int} {t : Tm} {l : List Int} (hv : Valid t) (h : (typ vs nx t).2 = 0) (h5 : 5 ≤ t.op) (hl : valL vs s nn t.kids = some l) :
    l.length = t.kids.length ∧ (∀ v ∈ l, inR v = true) ∧ ((t.op ≤ 9 → ∀ v ∈ l, v = 0 ∨ v = 1) ∧ (t.op = 18 → ∀ v, l[0]? = some v → v = 0 ∨ v = 1)) ∧ (t.op = 17 → ∀ v, l[1]? = some v → 1 ≤ v ∧ v ≤ 255) := by
  rw [typ_eq, if_neg (by omega)] at h
  by_cases h0 : (typL vs nx t.kids).2 = 0
  case neg => rw [if_pos h0] at h; exact absurd h h0
  rw [if_neg (by simpa using h0)] at h
  obtain ⟨g1, g2⟩ := typL_get vs nx s nn h0 hl
  obtain ⟨g3, _⟩ := typL_len vs nx t.kids h0
  have hop := hv.op
  have hlen := hv.len
  have at_ : ∀ (i : Nat) (v : Int), l[i]? = some v → ∃ k y, t.kids[i]? = some k ∧ (typL vs nx t.kids).1[i]? = some y ∧ (typ vs nx k).2 = 0 ∧ y = (typ vs nx k).1 ∧ (valR vs s nn k).2 = true ∧ v = (valR vs s nn k).1 := by
    intro i v hi
    have hlt : i < (typL vs nx t.kids).1.length := by have := (List.getElem?_eq_some_iff.1 hi).1; omega
    obtain ⟨k, q1, q2, q3, q4, q5⟩ := g2 i _ v (List.getElem?_eq_getElem hlt) hi
    exact ⟨k, _, q1, List.getElem?_eq_getElem hlt, q2, q3, q4, q5⟩
  refine ⟨g1, ?_, ⟨?_, ?_⟩, ?_⟩
  · intro v hm
    obtain ⟨i, hi⟩ := List.mem_iff_getElem?.1 hm
    obtain ⟨k, y, q1, q2, q3, q4, q5, q6⟩ := at_ i v hi
    rw [q6]
    exact valR_in (hv.kid (List.mem_of_getElem? q1)) q5
  · intro h9 v hm
    obtain ⟨i, hi⟩ := List.mem_iff_getElem?.1 hm
    obtain ⟨k, y, q1, q2, q3, q4, q5, q6⟩ := at_ i v hi
    have hall := List.all_eq_true.1 (joinY_5 h ⟨h5, h9⟩) y (List.mem_of_getElem? q2)
    rw [q6]
    exact typ_bool vs nx s nn k (hv.kid (List.mem_of_getElem? q1)) q3 (by rw [← q4]; exact hall) q5
  · intro h18 v hi
    obtain ⟨k, y, q1, q2, q3, q4, q5, q6⟩ := at_ 0 v hi
    rw [kids3 h18] at hlen
    obtain ⟨ya, yb, yc, hy⟩ := list3 (l := (typL vs nx t.kids).1) (by simp only at hlen; omega)
    rw [hy] at h q2
    have hj := (joinY_18 h (by omega)).1
    cases q2
    rw [q6]
    exact typ_bool vs nx s nn k (hv.kid (List.mem_of_getElem? q1)) q3 (by rw [← q4]; exact hj) q5
  · intro h17 v hi
    obtain ⟨k, y, q1, q2, q3, q4, q5, q6⟩ := at_ 1 v hi
    rw [kids2 (by omega)] at hlen
    obtain ⟨ya, yb, hy⟩ := list2 (l := (typL vs nx t.kids).1) (by simp only at hlen; omega)
    rw [hy] at h
    obtain ⟨j1, j2⟩ := joinY_17 h h17 q1
    have hkv := (hv.kid (List.mem_of_getElem? q1)).num
    have : valR vs s nn k = (k.num, true) := by rw [valR_eq, if_pos (by omega)]; unfold leafR; rw [if_pos (by omega)]
    rw [q6, this]
    exact ⟨j2, by simp only; omega⟩
end Go.Am
namespace Go.Am
set_option linter.unusedVariables false
set_option linter.unusedSimpArgs false
theorem room8 {a b : Nat} (h : a + b ≤ 1000) : roomP (a + b) 8 = true := roomP_ok (by omega) (by omega)
theorem leafV_idx {vs : List V} {nx : Bool} {t : Tm} (h : (leafV vs nx t).2 = 0) (h3 : 3 ≤ t.op) : ∃ i, idxV vs t.name = some i := by
  unfold leafV at h
  rw [if_neg (by omega), if_neg (by omega)] at h
  cases hi : idxV vs t.name with
  | none => rw [hi] at h; cases h
  | some i => exact ⟨i, rfl⟩
theorem typL_kid {vs : List V} {nx : Bool} : ∀ {l : List Tm}, (typL vs nx l).2 = 0 → ∀ k ∈ l, (typ vs nx k).2 = 0
  | [], _, k, hk => by cases hk
  | t :: r, h, k, hk => by
    rw [typL] at h
    by_cases h1 : (typ vs nx t).2 = 0
    case neg => rw [if_pos h1] at h; exact absurd h h1
    rw [if_neg (by simpa using h1)] at h
    by_cases h2 : (typL vs nx r).2 = 0
    case neg => rw [if_pos h2] at h; exact absurd h h2
    rcases List.mem_cons.1 hk with rfl | hk
    · exact h1
    · exact typL_kid h2 k hk
theorem typ_kid {vs : List V} {nx : Bool} {t k : Tm} (hv : Valid t) (h : (typ vs nx t).2 = 0) (hk : k ∈ t.kids) : (typ vs nx k).2 = 0 := by
  rw [typ_eq] at h
  by_cases h4 : t.op ≤ 4
  · rw [hv.leaf h4] at hk; cases hk
  rw [if_neg h4] at h
  by_cases h0 : (typL vs nx t.kids).2 = 0
  · exact typL_kid h0 k hk
  · rw [if_pos h0] at h; exact absurd h h0
theorem idx_of_len {vs : List V} {i : Nat} {l : List Int} (h : i < vs.length) (hl : l.length = vs.length) : ∃ x, l[i]? = some x := ⟨_, List.getElem?_eq_getElem (by omega)⟩
@[simp] theorem eIs_snoc (p : List Int) (x : Int) : D.sl 1 (esD (eIs p) ++ [[eI x]]) = eIs (p ++ [x]) := by simp [eIs]
@[simp] theorem eIs_eslen (p : List Int) : (esD (eIs p)).length = p.length := by simp [eIs]
@[simp] theorem eIs_again (p : List Int) : D.sl 1 (esD (eIs p)) = eIs p := rfl
theorem lookS0 {M : List (Value × D)} (h : SM M) {z : Value} {x : ByteArray} : lookP .string z false M (eS x) = some (match getS M x with | some d => d | none => zeroD z) := by
  simp only [lookP, eS, findD_str h]
  cases getS M x <;> rfl
theorem resD_0 (p : Int × Bool) : extP 0 (resD p) = some (eI (if p.2 = true then p.1 else 0)) := by obtain ⟨v, o⟩ := p; cases o <;> simp [resD]
theorem resD_1 (p : Int × Bool) : extP 1 (resD p) = some (eB p.2) := by obtain ⟨v, o⟩ := p; cases o <;> simp [resD]
theorem resD_t (p : Int × Bool) : D.tup [eI (if p.2 = true then p.1 else 0), eB p.2] = resD p := by obtain ⟨v, o⟩ := p; cases o <;> simp [resD]
theorem resD_flat (p : Int × Bool) : (resD p).flat = true := by obtain ⟨v, o⟩ := p; cases o <;> rfl
theorem terms_down_ok (vs : List V) (nx : Bool) (s nn : List Int) (M : List (Value × D)) (hM : NM M vs) (hvs : vs.length < 1000000000000) (hs : s.length = vs.length) (N : D) (hNo : oneP N = true) (hNl : lenP N = some (eI nn.length)) (hNx : ∀ (i : Nat) (x : Int), nn[i]? = some x → ixP 1 N (eI (i : Int)) = some [eI x]) (hin : ∀ v, v ∈ s ∨ v ∈ nn → -9223372036854775808 ≤ v ∧ v ≤ 9223372036854775807) : ∀ (n : Nat) (t : Tm), t.sz + 200 < n → t.Ok → Valid t → (typ vs nx t).2 = 0 →
    terms_Eval_1_hL n [t.d, eIs s, .mp M, N, eVs vs] = some [resD (valR vs s nn t), eIs s, .mp M, N, eVs vs]
  | 0, t, h, _, _, _ => absurd h (Nat.not_lt_zero _)
  | n + 1, t, hn, hok, hv, ht => by
    have hop := hv.op
    have h64 := hv.len64
    rw [valR_eq]
    show terms_Eval_1_h (terms_Eval_1_hL n) n [t.d, eIs s, .mp M, N, eVs vs] = _
    have hl := iterL_list (f := terms_Eval_1_h_l3 (terms_Eval_1_hL n) n) t.kids (fun i (p : List Int) => [rowD 4 t.nl (Tm.rows t.kids), eI t.kids.length, eI (i : Int), eIs s, .mp M, N, eVs vs, eI t.op, eI t.num, eS t.name, rowD 4 t.nl (Tm.rows t.kids), eIs p])
      (fun r p => match valL vs s nn r with
        | some l => (Sum.inl [eIs s, .mp M, N, eVs vs, eI t.op, eI t.num, eS t.name, rowD 4 t.nl (Tm.rows t.kids), eIs (p ++ l)] : List D ⊕ List D)
        | none => .inr [.tup [eI 0, eB false], eIs s, .mp M, N, eVs vs])
      (fun i p => p.length = i) ?_ ?_ n 0 [] rfl (by omega) (Nat.zero_le _)
    · have e0 : (eI ((0 : Nat) : Int)) = eI 0 := rfl
      have e1 : eIs [] = .sl 1 [] := rfl
      have hrf : D.tup [eI 0, eB false] = resD (0, false) := rfl
      rw [e0, e1] at hl
      simp only [List.drop_zero, List.nil_append] at hl
      have c0 := Tm.cel0 t
      have c1 := Tm.cel1 t
      have c2 := Tm.cel2 t
      have c3 := Tm.cel3 t
      have ca := Tm.aggP_d t
      by_cases h4 : t.op ≤ 4
      · rw [if_pos h4]
        rw [typ_eq, if_pos h4] at ht
        have hk := hv.leaf h4
        rw [hk] at hl
        have z0 : ((([] : List Tm).length : Nat) : Int) = 0 := rfl
        simp only [valL, List.append_nil, z0] at hl
        have e1' : D.sl 1 [] = eIs [] := rfl
        have htr := terms_truth_ok n
        by_cases h2 : t.op ≤ 2
        · unfold leafR
          rw [if_pos h2]
          have hc : t.op = 1 ∨ t.op = 2 := by omega
          generalize t.op = op at *
          rcases hc with rfl | rfl <;> simp [terms_Eval_1_h, ca, c0, c1, c2, c3, hk, hl, resD]
        obtain ⟨i, hi⟩ := leafV_idx ht (by omega)
        obtain ⟨v, v1, v2, v3⟩ := idxV_lt hi
        have hlk := lookS0 hM.1 (z := .int .i64 0) (x := t.name)
        rw [hM.2, hi] at hlk
        simp only [Option.map_some] at hlk
        have hent : entP (.mp M) = some M := rfl
        unfold leafR
        rw [if_neg h2]
        have hc : t.op = 3 ∨ t.op = 4 := by omega
        have hb34 : (t.op == 3 || t.op == 4) = true := by rcases hc with h | h <;> simp [h]
        by_cases hlen : (if t.op = 4 then nn else s).length = vs.length
        · have hil : idxL vs s nn t = some i := by unfold idxL; rw [if_pos hlen, hi]
          obtain ⟨x, hxx⟩ := idx_of_len v3 hlen
          have hxm := List.mem_of_getElem? hxx
          rw [hil]
          simp only [v1, hxx]
          have hsum : heldD (x + 0) true = resD (x, inR x) := by rw [resD_held, Int.add_zero]
          generalize t.op = op at *
          rcases hc with rfl | rfl
          · simp only [show ¬ ((3 : Int) = 4) by omega, if_false] at hxx hxm hlen
            have hA := num_Add_ok n x 0 (hin x (.inl hxm)) (by omega)
            rw [hsum] at hA
            cases hb : v.bool <;> simp [terms_Eval_1_h, ca, c0, c1, c2, c3, hk, hl, hent, hlk, eIs_lenP, hNl, eVs_len, hlen, eVs_ix v1, v.atc, eIs_ix hxx, htr, hb, hA, resD_0, resD_1, resD_t] <;> (try exact resD_t (x, inR x)) <;> (try rfl)
          · simp only [if_true] at hxx hxm hlen
            have hA := num_Add_ok n x 0 (hin x (.inr hxm)) (by omega)
            have hNx' := hNx i x hxx
            rw [hsum] at hA
            cases hb : v.bool <;> simp [terms_Eval_1_h, ca, c0, c1, c2, c3, hk, hl, hent, hlk, eIs_lenP, hNl, eVs_len, hlen, eVs_ix v1, v.atc, hNx', htr, hb, hA, resD_0, resD_1, resD_t] <;> (try exact resD_t (x, inR x)) <;> (try rfl)
        · have hil : idxL vs s nn t = none := by unfold idxL; rw [if_neg hlen]
          rw [hil]
          have h4' : t.op = 4 := by
            refine hc.resolve_left fun h => hlen ?_
            rw [if_neg (by omega)]; exact hs
          rw [if_pos h4'] at hlen
          generalize t.op = op at *
          subst h4'
          have hne : ¬ ((nn.length : Int) = (vs.length : Int)) := by omega
          simp [terms_Eval_1_h, ca, c0, c1, c2, c3, hk, hl, hent, hlk, eIs_lenP, hNl, eVs_len, hlen, hne] <;> (try rfl)
      · rw [if_neg h4]
        have b1 : (t.op == 1) = false := by simp; omega
        have b2 : (t.op == 2) = false := by simp; omega
        have b3 : (t.op == 3) = false := by simp; omega
        have b4 : (t.op == 4) = false := by simp; omega
        cases hvl : valL vs s nn t.kids with
        | none =>
          rw [hvl] at hl
          simp [terms_Eval_1_h, ca, c0, c1, c2, c3, hl] <;> (try rfl)
        | some l =>
          rw [hvl] at hl
          obtain ⟨g1, g2, g3, g4⟩ := argsOk (nx := nx) hv ht (by omega) hvl
          have hj := terms_joined_ok n t l hv g1 (by omega) g2 (by omega) g3 g4
          simp [terms_Eval_1_h, ca, c0, c1, c2, c3, hl, b1, b2, b3, b4, hj, resD_flat, resD_0, resD_1, resD_t]
    · intro p hp
      simp [terms_Eval_1_h_l3, valL]
    · intro i a p ha hi hp
      have hm := List.mem_of_getElem? ha
      have hz := Tm.sz_kid hm
      have hr := terms_down_ok vs nx s nn M hM hvs hs N hNo hNl hNx hin n a (by omega) (hok.kid hm) (hv.kid hm) (typ_kid hv ht hm)
      have hrm : roomP (p.length + 1) 8 = true := room8 (by omega)
      by_cases h0 : (valR vs s nn a).2 = true
      · left
        refine ⟨p ++ [(valR vs s nn a).1], ?_, ?_, by simp [hp]⟩
        · simp [terms_Eval_1_h_l3, hi, Tm.ixP_kid ha, hr, h0, add1 (bt := false) (i := i) (by omega), hrm, resD_0, resD_1]
        · rw [valL, if_pos h0]
          cases valL vs s nn (t.kids.drop (i + 1)) with
          | none => rfl
          | some l => simp
      · right
        rw [valL, if_neg h0]
        have h0' : (valR vs s nn a).2 = false := by simpa using h0
        simp [terms_Eval_1_h_l3, hi, Tm.ixP_kid ha, hr, h0', resD_0, resD_1]
theorem valL_kid {vs : List V} {s nn : List Int} : ∀ {l : List Tm} {r : List Int}, valL vs s nn l = some r → ∀ k ∈ l, (valR vs s nn k).2 = true
  | [], _, _, k, hk => by cases hk
  | t :: q, r, h, k, hk => by
    rw [valL] at h
    by_cases h1 : (valR vs s nn t).2 = true
    case neg => rw [if_neg h1] at h; cases h
    rw [if_pos h1] at h
    cases h2 : valL vs s nn q with
    | none => rw [h2] at h; cases h
    | some l =>
      rcases List.mem_cons.1 hk with rfl | hk
      · exact h1
      · exact valL_kid h2 k hk
theorem stepsL_some : ∀ {l : List Tm}, stepsL l = true → ∃ k ∈ l, steps k = true
  | a :: r, h => by
    rw [stepsL] at h
    cases ha : steps a with
    | true => exact ⟨a, by simp, ha⟩
    | false =>
      rw [ha, Bool.false_or] at h
      obtain ⟨k, h1, h2⟩ := stepsL_some h
      exact ⟨k, by simp [h1], h2⟩
/-- A name of the next state, and no such state: no value. -/
theorem valR_none {vs : List V} {s nn : List Int} (hne : nn.length ≠ vs.length) (t : Tm) : Valid t → steps t = true → (valR vs s nn t).2 = false := by
  refine Tm.ind (P := fun t => Valid t → steps t = true → (valR vs s nn t).2 = false) ?_ t
  intro t ih hv h
  rw [valR_eq]
  rw [steps_eq] at h
  by_cases h4 : t.op ≤ 4
  · rw [if_pos h4]
    have h4' : t.op = 4 := by
      rw [hv.leaf h4] at h
      simpa [stepsL] using h
    unfold leafR
    rw [if_neg (by omega)]
    have : idxL vs s nn t = none := by unfold idxL; rw [if_pos h4', if_neg hne]
    rw [this]
  · rw [if_neg h4]
    have hb : (t.op == 4) = false := by simp; omega
    rw [hb, Bool.false_or] at h
    obtain ⟨k, h1, h2⟩ := stepsL_some h
    cases hl : valL vs s nn t.kids with
    | none => rfl
    | some l =>
      have := valL_kid hl k h1
      rw [ih k h1 (hv.kid h1) h2] at this
      cases this
/-- What Eval answers. -/
def evalR (vs : List V) (t : Tm) (s nn : List Int) : Int × Bool :=
  if (typeR vs true t).2 ≠ 0 ∨ s.length ≠ vs.length then (0, false) else valR vs s nn t
theorem typeR_ok {vs : List V} {nx : Bool} {t : Tm} (h : (typeR vs nx t).2 = 0) : Valid t ∧ (typ vs nx t).2 = 0 := by
  unfold typeR at h
  by_cases hc : (chk t 1 0).1 = 0
  · rw [if_neg (by simpa using hc)] at h; exact ⟨⟨1, 0, hc⟩, h⟩
  · rw [if_pos hc] at h; exact absurd h hc
theorem terms_Eval_ok (n : Nat) (vs : List V) (t : Tm) (s nn : List Int) (hn : t.sz + 200 + vs.length < n) (hok : t.Ok) (hvs : vs.length < 1000000000000) (N : D) (hNo : oneP N = true) (hNl : lenP N = some (eI nn.length)) (hNx : ∀ (i : Nat) (x : Int), nn[i]? = some x → ixP 1 N (eI (i : Int)) = some [eI x]) (hin : ∀ v, v ∈ s ∨ v ∈ nn → -9223372036854775808 ≤ v ∧ v ≤ 9223372036854775807) :
    terms_EvalL n [eVs vs, t.d, eIs s, N] = some (resD (evalR vs t s nn)) := by
  have h1 := terms_Type_ok n vs t true hn hok hvs
  obtain ⟨M, m1, m2⟩ := terms_names_ok n vs (by omega) hvs
  have o1 : oneP (eVs vs) = true := rfl
  have o3 := hNo
  have o2 : ∀ l, oneP (eIs l) = true := fun _ => rfl
  have hrf : D.tup [eI 0, eB false] = resD (0, false) := rfl
  unfold evalR
  by_cases ht : (typeR vs true t).2 = 0
  · by_cases hs : s.length = vs.length
    · obtain ⟨hv, hty⟩ := typeR_ok ht
      have hd := terms_down_ok vs true s nn M m2 hvs hs N hNo hNl hNx hin n t (by omega) hok hv hty
      have hsi : ((s.length : Int) != (vs.length : Int)) = false := by simp [hs]
      simp [terms_EvalL, terms_Eval, o1, o2, o3, h1, ht, hs, eIs_lenP, eVs_len, m1, hd, resD_0, resD_1, resD_t]
    · have hsi : ¬ ((s.length : Int) = (vs.length : Int)) := by omega
      simp [terms_EvalL, terms_Eval, o1, o2, o3, h1, ht, hs, eIs_lenP, eVs_len, hsi]
      exact hrf
  · simp [terms_EvalL, terms_Eval, o1, o2, o3, h1, ht]
    exact hrf
end Go.Am
namespace Go.Am
set_option linter.unusedVariables false
set_option linter.unusedSimpArgs false
/-! ### The number of parts and the depth, as the reference counts them -/
set_option maxHeartbeats 4000000 in
theorem eqv_Y (y z : Y) : eqvP [.bool, .int .i64, .int .i64] .eql y.d z.d = some (eB (decide (y = z))) := by
  obtain ⟨a, b, c⟩ := y
  obtain ⟨e, f, g⟩ := z
  simp only [Y.d, eqvP, eB, eI, aggBin, eqFlat, Instr.sameNow, if_true]
  by_cases h1 : a = e
  · by_cases h2 : b = f
    · by_cases h3 : c = g
      · simp [h1, h2, h3, toDo, -zB, -zI, eB]
      · have q := beq_false_of_ne h3; simp [h1, h2, h3, q, toDo, -zB, -zI, eB]
    · have q := beq_false_of_ne h2; simp [h1, h2, q, toDo, -zB, -zI, eB]
  · have q := beq_false_of_ne h1; simp [h1, q, toDo, -zB, -zI, eB]
end Go.Am
namespace Go.Am
set_option linter.unusedVariables false
set_option linter.unusedSimpArgs false
/-! ### An expansion is one only -/
theorem ExpH.fun {l : List Df} : ∀ {h h' : Nat} {t X X' : Tm}, ExpH l h t X → ExpH l h' t X' → X = X'
  | 0, _, _, _, _, H, _ => H.elim
  | _ + 1, 0, _, _, _, _, H => H.elim
  | h + 1, h' + 1, t, X, X', H, H' => by
    rcases H with ⟨h1, i, d, h2, h3, h4⟩ | ⟨h1, ks, h2, h3, h4⟩ <;> rcases H' with ⟨g1, i', d', g2, g3, g4⟩ | ⟨g1, ks', g2, g3, g4⟩
    · rw [h2] at g2; cases g2
      rw [h3] at g3; cases g3
      exact h4.fun g4
    · simp [isN, h1, h2] at g1
    · simp [isN, g1, g2] at h1
    · subst h2; subst g2
      have : ks = ks' := by
        refine List.ext_getElem? fun j => ?_
        cases hj : t.kids[j]? with
        | none =>
          have hl := List.getElem?_eq_none_iff.1 hj
          rw [List.getElem?_eq_none_iff.2 (by omega), List.getElem?_eq_none_iff.2 (by omega)]
        | some a =>
          have hl := (List.getElem?_eq_some_iff.1 hj).1
          obtain ⟨b, hb⟩ : ∃ b, ks[j]? = some b := ⟨ks[j], List.getElem?_eq_getElem (by omega)⟩
          obtain ⟨b', hb'⟩ : ∃ b, ks'[j]? = some b := ⟨ks'[j], List.getElem?_eq_getElem (by omega)⟩
          rw [hb, hb', (h4 j a b hj hb).fun (g4 j a b' hj hb')]
      rw [this]
/-! ### Types and values do not see how an empty row is written -/
theorem typL_map (vs : List V) (nx : Bool) (f : Tm → Tm) : ∀ (ks : List Tm), (∀ k ∈ ks, typ vs nx (f k) = typ vs nx k) → typL vs nx (ks.map f) = typL vs nx ks
  | [], _ => rfl
  | k :: r, h => by rw [List.map_cons, typL, typL, h k (by simp), typL_map vs nx f r fun k hk => h k (by simp [hk])]
theorem joinY_fl1 (t : Tm) (l : List Y) : joinY (fl1 t) l = joinY t l := by
  have h1 : (fl1 t).op = t.op := by rw [fl1_eq]; rfl
  have h2 : (fl1 t).kids = t.kids.map fl1 := by rw [fl1_eq]; rfl
  unfold joinY
  rw [h1, h2, List.getElem?_map]
  cases hk : t.kids[1]? with
  | none => rfl
  | some k =>
    have h3 : (fl1 k).op = k.op := by rw [fl1_eq]; rfl
    have h4 : (fl1 k).num = k.num := by rw [fl1_eq]; rfl
    simp only [Option.map_some, h3, h4]
theorem typ_fl1 (vs : List V) (nx : Bool) (t : Tm) : typ vs nx (fl1 t) = typ vs nx t := by
  refine Tm.ind (P := fun t => typ vs nx (fl1 t) = typ vs nx t) ?_ t
  intro t ih
  have h1 : (fl1 t).op = t.op := by rw [fl1_eq]; rfl
  have h2 : (fl1 t).kids = t.kids.map fl1 := by rw [fl1_eq]; rfl
  have h3 : leafV vs nx (fl1 t) = leafV vs nx t := by
    have h4 : (fl1 t).num = t.num := by rw [fl1_eq]; rfl
    have h5 : (fl1 t).name = t.name := by rw [fl1_eq]; rfl
    simp only [leafV, h1, h4, h5]
  rw [typ_eq, typ_eq vs nx t, h1, h2, h3, typL_map vs nx fl1 t.kids ih, joinY_fl1]
theorem valL_map (vs : List V) (s nn : List Int) (f : Tm → Tm) : ∀ (ks : List Tm), (∀ k ∈ ks, valR vs s nn (f k) = valR vs s nn k) → valL vs s nn (ks.map f) = valL vs s nn ks
  | [], _ => rfl
  | k :: r, h => by rw [List.map_cons, valL, valL, h k (by simp), valL_map vs s nn f r fun k hk => h k (by simp [hk])]
theorem valR_fl1 (vs : List V) (s nn : List Int) (t : Tm) : valR vs s nn (fl1 t) = valR vs s nn t := by
  refine Tm.ind (P := fun t => valR vs s nn (fl1 t) = valR vs s nn t) ?_ t
  intro t ih
  have h1 : (fl1 t).op = t.op := by rw [fl1_eq]; rfl
  have h2 : (fl1 t).kids = t.kids.map fl1 := by rw [fl1_eq]; rfl
  have h3 : leafR vs s nn (fl1 t) = leafR vs s nn t := by
    have h4 : (fl1 t).num = t.num := by rw [fl1_eq]; rfl
    have h5 : (fl1 t).name = t.name := by rw [fl1_eq]; rfl
    simp only [leafR, idxL, h1, h4, h5]
  rw [valR_eq, valR_eq vs s nn t, h1, h2, h3, valL_map vs s nn fl1 t.kids ih]
/-! ### Without a next state, both askings say the same -/
theorem leafV_nx {vs : List V} {t : Tm} (h : (leafV vs false t).2 = 0) : leafV vs true t = leafV vs false t := by
  unfold leafV at h ⊢
  split
  · rfl
  · split
    · rfl
    · rename_i h1 h2
      rw [if_neg h1, if_neg h2] at h
      split
      · rfl
      · rename_i i hi
        rw [hi] at h
        simp only at h
        by_cases h4 : t.op = 4
        · simp [h4] at h
        · simp [h4]
theorem typL_nx {vs : List V} : ∀ (ks : List Tm), (∀ k ∈ ks, (typ vs false k).2 = 0 → typ vs true k = typ vs false k) → (typL vs false ks).2 = 0 → typL vs true ks = typL vs false ks
  | [], _, _ => rfl
  | k :: r, hk, h => by
    rw [typL] at h
    by_cases h1 : (typ vs false k).2 = 0
    · rw [if_neg (by simpa using h1)] at h
      by_cases h2 : (typL vs false r).2 = 0
      · rw [typL, typL, hk k (by simp) h1, typL_nx r (fun k h => hk k (by simp [h])) h2]
      · rw [if_pos h2] at h; exact absurd h h2
    · rw [if_pos h1] at h; exact absurd h h1
theorem typ_nx {vs : List V} (t : Tm) : (typ vs false t).2 = 0 → typ vs true t = typ vs false t := by
  refine Tm.ind (P := fun t => (typ vs false t).2 = 0 → typ vs true t = typ vs false t) ?_ t
  intro t ih h
  rw [typ_eq] at h
  rw [typ_eq, typ_eq vs false t]
  by_cases h4 : t.op ≤ 4
  · rw [if_pos h4] at h ⊢
    rw [if_pos h4, leafV_nx h]
  · rw [if_neg h4] at h ⊢
    rw [if_neg h4]
    by_cases h5 : (typL vs false t.kids).2 = 0
    · rw [typL_nx t.kids ih h5]
    · rw [if_pos h5] at h; exact absurd h h5
/-! ### Types that are told fit -/
def Y.fit (y : Y) : Prop := if y.b then y = YB else spanY y.lo y.hi = (y, 0)
theorem spanY_fit {lo hi : Int} (h : (spanY lo hi).2 = 0) : (spanY lo hi).1.fit := by
  unfold spanY at h ⊢
  split at h
  · cases h
  · rename_i hc
    rw [if_neg hc]
    simp only [Y.fit, spanY, if_neg hc, Bool.false_eq_true, if_false]
theorem YB_fit : YB.fit := rfl
theorem leafV_fit {vs : List V} {nx : Bool} {t : Tm} (h : (leafV vs nx t).2 = 0) : (leafV vs nx t).1.fit := by
  unfold leafV at h ⊢
  split
  · rename_i h1; rw [if_pos h1] at h; exact spanY_fit h
  · rename_i h1
    rw [if_neg h1] at h
    split
    · exact YB_fit
    · rename_i h2
      rw [if_neg h2] at h
      split
      · rename_i hi; rw [hi] at h; simp at h
      · rename_i i hi
        rw [hi] at h
        simp only at h
        split
        · rename_i h3; rw [if_pos h3] at h; simp at h
        · rename_i h3
          rw [if_neg h3] at h
          split
          · rename_i v hv
            rw [hv] at h
            simp only at h
            split
            · exact YB_fit
            · rename_i hb; rw [if_neg hb] at h; exact spanY_fit h
          · rename_i hv; rw [hv] at h; simp at h
theorem fit_ite {c : Prop} [Decidable c] {p q : Y × Int} (hp : p.2 = 0 → p.1.fit) (hq : q.2 = 0 → q.1.fit) : (if c then p else q).2 = 0 → (if c then p else q).1.fit := by
  split
  · exact hp
  · exact hq
theorem fit_er {e : Int} (h : e ≠ 0) : ((Y0, e) : Y × Int).2 = 0 → ((Y0, e) : Y × Int).1.fit := fun h' => absurd h' h
theorem joinY_fit {t : Tm} {l : List Y} (hl : l.length = t.kids.length) (h2 : 10 ≤ t.op ∧ t.op ≤ 17 → l.length = 2) (h3 : t.op = 18 → l.length = 3) (hop : 5 ≤ t.op ∧ t.op ≤ 18) : (joinY t l).2 = 0 → (joinY t l).1.fit := by
  unfold joinY
  by_cases h5 : 5 ≤ t.op ∧ t.op ≤ 9
  · rw [if_pos h5]
    exact fit_ite (fun _ => YB_fit) (fit_er (by omega))
  · rw [if_neg h5]
    by_cases h18 : t.op = 18
    · match l, h3 h18 with
      | [a, b, c], _ => exact fit_ite (fit_er (by omega)) (fit_ite (fun _ => YB_fit) spanY_fit)
    · match l, h2 (by omega), hl with
      | [a, b], _, hl =>
        refine fit_ite (fit_ite (fit_er (by omega)) (fun _ => YB_fit)) (fit_ite (fit_er (by omega)) (fit_ite (fun _ => YB_fit) (fit_ite ?_ ?_)))
        · have hk : ∃ k, t.kids[1]? = some k := ⟨t.kids[1]'(by simp at hl; omega), List.getElem?_eq_getElem _⟩
          obtain ⟨k, hk⟩ := hk
          rw [hk]
          exact fit_ite (fit_er (by omega)) spanY_fit
        · unfold reckY
          exact fit_ite spanY_fit (fit_ite spanY_fit spanY_fit)
theorem typ_fit {vs : List V} {nx : Bool} {t : Tm} (hv : Valid t) (h : (typ vs nx t).2 = 0) : (typ vs nx t).1.fit := by
  have hop := hv.op
  rw [typ_eq] at h ⊢
  by_cases h4 : t.op ≤ 4
  · rw [if_pos h4] at h ⊢; exact leafV_fit h
  · rw [if_neg h4] at h ⊢
    by_cases h5 : (typL vs nx t.kids).2 = 0
    · have h5' : ¬ (typL vs nx t.kids).2 ≠ 0 := by simpa using h5
      rw [if_neg h5'] at h ⊢
      have hlen := (typL_len vs nx t.kids h5).1
      have hk := hv.len
      refine joinY_fit hlen ?_ ?_ (by omega) h
      · intro h10
        rw [kids2 (by omega)] at hk
        simp only at hk
        omega
      · intro h18
        rw [kids3 h18] at hk
        simp only at hk
        omega
    · rw [if_pos h5] at h; exact absurd h h5
end Go.Am
namespace Go.Am
set_option linter.unusedVariables false
set_option linter.unusedSimpArgs false
/-! ### Names of definitions as variables -/
def nmTm (x : ByteArray) : Tm := .mk 3 0 x true []
def moreZ (l : List Df) (ys : List (Y × Int)) : List V := (l.zip ys).map fun p => ⟨p.1.name, p.2.1.b, p.2.1.lo, p.2.1.hi⟩
def moreV (vs : List V) (l : List Df) (ys : List (Y × Int)) : List V := vs ++ moreZ l ys
def atV (s : List Int) (ys : List (Y × Int)) : List Int := s ++ ys.map (·.2)
theorem idxV_zip : ∀ (l : List Df) (ys : List (Y × Int)), ys.length = l.length → ∀ x, idxV (moreZ l ys) x = idxD l x
  | [], _, _, x => by simp [moreZ, idxV, idxD]
  | d :: l, [], h, x => by simp at h
  | d :: l, y :: ys, h, x => by
    have ih := idxV_zip l ys (by simpa using h) x
    unfold idxV idxD moreZ at ih ⊢
    rw [List.zip_cons_cons, List.map_cons, List.findIdx?_cons, List.findIdx?_cons, ih]
theorem idxV_more {vs : List V} {l : List Df} {ys : List (Y × Int)} (h : ys.length = l.length) (x : ByteArray) : idxV (moreV vs l ys) x = match idxV vs x with
    | some i => some i
    | none => (idxD l x).map (· + vs.length) := by
  have hz := idxV_zip l ys h x
  unfold moreV
  unfold idxV at hz ⊢
  rw [List.findIdx?_append, hz]
  cases hf : List.findIdx? (fun v => decide (v.name = x)) vs with
  | some i => rfl
  | none => simp
theorem moreV_lo {vs : List V} {l : List Df} {ys : List (Y × Int)} {i : Nat} (h : i < vs.length) : (moreV vs l ys)[i]? = vs[i]? := by
  unfold moreV; rw [List.getElem?_append_left h]
theorem moreV_hi {vs : List V} {l : List Df} {ys : List (Y × Int)} {i : Nat} {d : Df} {y : Y} {v : Int} (hd : l[i]? = some d) (hy : ys[i]? = some (y, v)) : (moreV vs l ys)[i + vs.length]? = some ⟨d.name, y.b, y.lo, y.hi⟩ := by
  unfold moreV moreZ
  rw [List.getElem?_append_right (by omega), Nat.add_sub_cancel, List.getElem?_map]
  have : (l.zip ys)[i]? = some (d, (y, v)) := by rw [List.getElem?_zip_eq_some]; exact ⟨hd, hy⟩
  rw [this]; rfl
theorem moreV_len {vs : List V} {l : List Df} {ys : List (Y × Int)} (h : ys.length = l.length) : (moreV vs l ys).length = vs.length + l.length := by
  simp [moreV, moreZ, h]
theorem atV_lo {s : List Int} {ys : List (Y × Int)} {i : Nat} (h : i < s.length) : (atV s ys)[i]? = s[i]? := by
  unfold atV; rw [List.getElem?_append_left h]
theorem atV_hi {s : List Int} {ys : List (Y × Int)} {i n : Nat} {y : Y} {v : Int} (hn : s.length = n) (hy : ys[i]? = some (y, v)) : (atV s ys)[i + n]? = some v := by
  unfold atV
  rw [List.getElem?_append_right (by omega), show i + n - s.length = i by omega, List.getElem?_map, hy]; rfl
/-- What is known of the definitions. -/
structure Mn (vs : List V) (l : List Df) (s : List Int) (ys : List (Y × Int)) : Prop where
  len : ys.length = l.length
  sl : s.length = vs.length
  at_ : ∀ (i : Nat) (d : Df) (y : Y) (v : Int), l[i]? = some d → ys[i]? = some (y, v) → idxV vs d.name = none ∧ ∃ h X, ExpH l h (nmTm d.name) X ∧ Valid (fl1 X) ∧ typ vs false (fl1 X) = (y, 0) ∧ valR vs s [] (fl1 X) = (v, true)
theorem leaf34 {vs : List V} {t : Tm} (h4 : t.op = 4) : (leafV vs false t).2 ≠ 0 := by
  unfold leafV
  rw [if_neg (by omega), if_neg (by omega)]
  split
  · simp
  · simp [h4]
theorem means_name {vs : List V} {l : List Df} {s : List Int} {ys : List (Y × Int)} (hM : Mn vs l s ys) {h : Nat} {t X : Tm} {i : Nat} {d : Df} (h3 : t.op = 3) (hi : idxD l t.name = some i) (hd : l[i]? = some d) (hE : ExpH l h d.e X) :
    typ (moreV vs l ys) false t = typ vs false X ∧ valR (moreV vs l ys) (atV s ys) [] t = valR vs s [] X := by
  obtain ⟨d', q1, q2, q3⟩ := idxD_lt hi
  rw [hd] at q1; cases q1
  obtain ⟨⟨y, v⟩, hy⟩ : ∃ p, ys[i]? = some p := ⟨ys[i]'(by rw [hM.len]; exact q3), List.getElem?_eq_getElem _⟩
  obtain ⟨r1, h', X', r2, r3, r4, r5⟩ := hM.at_ i d y v hd hy
  have hXX : X' = X := by
    cases h' with
    | zero => exact r2.elim
    | succ h' =>
      rcases r2 with ⟨_, j, e, a1, a2, a3⟩ | ⟨a1, _⟩
      · have : (nmTm d.name).name = d.name := rfl
        rw [this, q2, hi] at a1; cases a1
        rw [hd] at a2; cases a2
        exact a3.fun hE
      · exfalso
        have e1 : (nmTm d.name).op = 3 := rfl
        have e2 : (nmTm d.name).name = d.name := rfl
        rw [isN, e1, e2, q2, hi] at a1
        cases a1
  subst hXX
  rw [typ_fl1] at r4
  rw [valR_fl1] at r5
  have hix : idxV (moreV vs l ys) t.name = some (i + vs.length) := by
    rw [idxV_more hM.len, ← q2, r1, q2, hi]; rfl
  have hmo := moreV_hi (vs := vs) hd hy
  have hat := atV_hi (n := vs.length) hM.sl hy
  have htF : (typ vs false (fl1 X')).2 = 0 := by rw [typ_fl1, r4]
  have hfit := typ_fit r3 htF
  rw [typ_fl1, r4] at hfit
  simp only at hfit
  constructor
  · rw [typ_eq, if_pos (by omega), r4, leafV, if_neg (by omega), if_neg (by omega), hix]
    simp only
    rw [if_neg (by simp; omega), hmo]
    simp only
    by_cases hb : y.b = true
    · rw [if_pos hb]
      rw [Y.fit, if_pos hb] at hfit
      rw [hfit]
    · rw [if_neg hb]
      rw [Y.fit, if_neg hb] at hfit
      exact hfit
  · have hidx : idxL (moreV vs l ys) (atV s ys) [] t = some (i + vs.length) := by
      have h4 : ¬ t.op = 4 := by omega
      unfold idxL
      rw [if_neg h4, if_pos (by rw [moreV_len hM.len, atV, List.length_append, List.length_map, hM.sl, hM.len]), hix]
    rw [valR_eq, if_pos (by omega), r5, leafR, if_neg (by omega), hidx]
    simp only
    rw [if_neg (show ¬ t.op = 4 by omega), hmo, hat]
    simp only
    have hvF : (valR vs s [] (fl1 X')).2 = true := by rw [valR_fl1, r5]
    by_cases hb : y.b = true
    · rw [if_pos hb]
      have h01 := typ_bool vs false s [] (fl1 X') r3 htF (by rw [typ_fl1, r4]; exact hb) hvF
      rw [valR_fl1, r5] at h01
      rcases h01 with h01 | h01
      · simp only at h01; subst h01; rfl
      · simp only at h01; subst h01; rfl
    · rw [if_neg hb]
      have := valR_in (s := s) (nn := []) r3 hvF
      rw [valR_fl1, r5] at this
      simp only at this
      rw [this]
theorem typL_two {vs vs' : List V} {nx : Bool} : ∀ (ks ks' : List Tm), ks'.length = ks.length → (∀ (j : Nat) (a b : Tm), ks[j]? = some a → ks'[j]? = some b → typ vs nx a = typ vs' nx b) → typL vs nx ks = typL vs' nx ks'
  | [], [], _, _ => rfl
  | [], _ :: _, h, _ => by simp at h
  | _ :: _, [], h, _ => by simp at h
  | k :: r, k' :: r', h, hk => by
    rw [typL, typL, hk 0 k k' rfl rfl, typL_two r r' (by simpa using h) fun j a b ha hb => hk (j + 1) a b (by simpa using ha) (by simpa using hb)]
theorem valL_two {vs vs' : List V} {s s' nn nn' : List Int} : ∀ (ks ks' : List Tm), ks'.length = ks.length → (∀ (j : Nat) (a b : Tm), ks[j]? = some a → ks'[j]? = some b → valR vs s nn a = valR vs' s' nn' b) → valL vs s nn ks = valL vs' s' nn' ks'
  | [], [], _, _ => rfl
  | [], _ :: _, h, _ => by simp at h
  | _ :: _, [], h, _ => by simp at h
  | k :: r, k' :: r', h, hk => by
    rw [valL, valL, hk 0 k k' rfl rfl, valL_two r r' (by simpa using h) fun j a b ha hb => hk (j + 1) a b (by simpa using ha) (by simpa using hb)]
/-- An expanded term has the type and the value of the original. -/
theorem means {vs : List V} {l : List Df} {s : List Int} {ys : List (Y × Int)} (hM : Mn vs l s ys) : ∀ (h : Nat) (t X : Tm), ExpH l h t X → Valid t → (typ (moreV vs l ys) false t).2 = 0 →
    typ (moreV vs l ys) false t = typ vs false X ∧ valR (moreV vs l ys) (atV s ys) [] t = valR vs s [] X
  | 0, _, _, H, _, _ => H.elim
  | h + 1, t, X, H, hv, ht => by
    rcases H with ⟨h1, i, d, h2, h3, h4⟩ | ⟨h1, ks, h2, h3, h4⟩
    · exact means_name hM h1 h2 h3 h4
    · have hop := hv.op
      have eo : X.op = t.op := by rw [h2]; rfl
      have en : X.num = t.num := by rw [h2]; rfl
      have es : X.name = t.name := by rw [h2]; rfl
      have ek : X.kids = ks := by rw [h2]; rfl
      by_cases h5 : t.op ≤ 4
      · rw [typ_eq, if_pos h5] at ht
        have hn4 : ¬ t.op = 4 := fun h => leaf34 h ht
        rw [typ_eq, if_pos h5, typ_eq vs false X, if_pos (by omega), valR_eq, if_pos h5, valR_eq vs s [] X, if_pos (by omega)]
        by_cases h12 : t.op ≤ 2
        · refine ⟨?_, by rw [leafR, leafR, if_pos h12, if_pos (by omega), en]⟩
          rw [leafV, leafV, eo, en]
          rcases (show t.op = 1 ∨ t.op = 2 by omega) with h | h
          · simp only [h, if_true]
          · have h1' : ¬ t.op = 1 := by omega
            simp only [h1', h, if_true, if_false, show ¬ (2 : Int) = 1 by omega]
        · have h3' : t.op = 3 := by omega
          have hni : idxD l t.name = none := by
            cases hq : idxD l t.name with
            | none => rfl
            | some i => simp [isN, h3', hq] at h1
          have hix : idxV (moreV vs l ys) t.name = idxV vs t.name := by
            rw [idxV_more hM.len, hni]
            cases idxV vs t.name <;> rfl
          have hal : (atV s ys).length = (moreV vs l ys).length := by rw [moreV_len hM.len, atV, List.length_append, List.length_map, hM.sl, hM.len]
          cases hq : idxV vs t.name with
          | none =>
            exfalso
            rw [leafV, if_neg (by omega), if_neg (by omega), hix, hq] at ht
            simp at ht
          | some i =>
            obtain ⟨v, v1, v2, v3⟩ := idxV_lt hq
            constructor
            · rw [leafV, leafV, if_neg (by omega), if_neg (by omega), if_neg (by omega), if_neg (by omega), hix, es, hq]
              simp only
              rw [if_neg (by simp; omega), if_neg (by simp; omega), moreV_lo v3]
            · have i1 : idxL (moreV vs l ys) (atV s ys) [] t = some i := by
                unfold idxL
                rw [if_neg hn4, if_pos hal, hix, hq]
              have i2 : idxL vs s [] X = some i := by
                unfold idxL
                rw [if_neg (show ¬ X.op = 4 by omega), if_pos hM.sl, es, hq]
              rw [leafR, leafR, if_neg h12, if_neg (show ¬ X.op ≤ 2 by omega), i1, i2]
              simp only
              rw [if_neg hn4, if_neg (show ¬ X.op = 4 by omega), moreV_lo v3, atV_lo (by rw [hM.sl]; exact v3)]
      · have hkid : ∀ (j : Nat) (a b : Tm), t.kids[j]? = some a → ks[j]? = some b → typ (moreV vs l ys) false a = typ vs false b ∧ valR (moreV vs l ys) (atV s ys) [] a = valR vs s [] b := by
          intro j a b ha hb
          have hm := List.mem_of_getElem? ha
          exact means hM h a b (h4 j a b ha hb) (hv.kid hm) (typ_kid hv ht hm)
        have e1 := typL_two (nx := false) t.kids ks h3 fun j a b ha hb => (hkid j a b ha hb).1
        have e2 := valL_two t.kids ks h3 fun j a b ha hb => (hkid j a b ha hb).2
        rw [typ_eq, if_neg h5] at ht
        have h5' : ¬ X.op ≤ 4 := by omega
        rw [typ_eq, if_neg h5, typ_eq vs false X, if_neg h5', valR_eq, if_neg h5, valR_eq vs s [] X, if_neg h5', ek, e1, e2, eo]
        rw [e1] at ht
        refine ⟨?_, rfl⟩
        by_cases h0 : (typL vs false ks).2 = 0
        · have h0' : ¬ (typL vs false ks).2 ≠ 0 := by simpa using h0
          rw [if_neg h0'] at ht ⊢
          rw [if_neg h0']
          by_cases h17 : t.op = 17
          · have hk2 := hv.len
            rw [kids2 (by omega)] at hk2
            simp only at hk2
            have hk2' : t.kids.length = 2 := by omega
            obtain ⟨k0, k1, hk⟩ := list2 hk2'
            have hk1 : t.kids[1]? = some k1 := by rw [hk]; rfl
            obtain ⟨x1, hx1⟩ : ∃ b, ks[1]? = some b := ⟨ks[1]'(by omega), List.getElem?_eq_getElem _⟩
            have hll := (typL_len vs false ks h0).1
            obtain ⟨ya, yb, hyy⟩ := list2 (l := (typL vs false ks).1) (by omega)
            rw [hyy] at ht ⊢
            have h17' := joinY_17 ht h17 hk1
            have hx := h4 1 k1 x1 hk1 hx1
            have hxe : x1.op = k1.op ∧ x1.num = k1.num := by
              cases h with
              | zero => exact hx.elim
              | succ h =>
                rcases hx with ⟨a1, _⟩ | ⟨_, _, a2, _⟩
                · omega
                · rw [a2]; exact ⟨rfl, rfl⟩
            unfold joinY
            rw [eo, ek, hk1, hx1]
            simp only [hxe.1, hxe.2]
          · unfold joinY
            rw [eo]
            simp only [h17, if_false]
        · rw [if_pos h0, if_pos h0]
end Go.Am
namespace Go.Am
set_option linter.unusedVariables false
set_option linter.unusedSimpArgs false
/-- What the program's Inline comes to. -/
theorem inl_one {l : List Df} (hl : DL 12300 l) (hl8 : l.length ≤ 20) (t : Tm) (hok : t.Ok) (ht : t.sz ≤ 12300) : ∃ (x : Tm) (e : Int), x.Ok ∧ x.sz ≤ 12300 ∧
    (∀ n, 300000000 < n → defs_InlineL n [t.d, eDs l] = some (.tup [x.d, eI e])) ∧ (e = 0 → ∃ h X, ExpH l h t X ∧ x = fl1 X) := by
  have hT : T0.sz = 2 := rfl
  by_cases h0 : (chk t 1 0).1 = 0
  case neg => exact ⟨T0, (chk t 1 0).1, T0_ok, by omega, fun n hn => (defs_Inline_ok hl n t hok ht (by omega)).1 h0, fun h => absurd h h0⟩
  cases hr : nrB l t with
  | false => exact ⟨T0, 14, T0_ok, by omega, fun n hn => (defs_Inline_ok hl n t hok ht (by omega)).2.1 h0 hr, fun h => by cases h⟩
  | true =>
    obtain ⟨X, hX⟩ := exp_of hl ht ((nrB_iff l t).1 hr)
    have hH : (l.length + 1) * (12300 + 1) + 12300 ≤ 300000 := by omega
    generalize (l.length + 1) * (12300 + 1) + 12300 = hh at *
    have A : ∀ n, 300000000 < n → _ := fun n hn => (defs_Inline_ok hl n t hok ht (by omega)).2.2 _ X h0 hr hX (by omega)
    obtain ⟨c1, c2⟩ := trn_chk X 1 0 (by omega)
    rw [c1] at A
    by_cases h3 : (chk X 1 0).1 = 0
    case neg =>
      simp only [h3, if_false] at A
      exact ⟨T0, _, T0_ok, by omega, A, fun h => absurd h h3⟩
    simp only [h3, if_true] at A
    have hf := trn_fl1 X 1 0 (by omega) h3
    have hsz := chk_sz X 1 0 h3
    have hps := (chk_pos X 1 0).2 h3
    have hfok := (trn_fit hl hX hok ht).1
    rw [hf] at A hfok
    have hfs := fl1_sz X
    exact ⟨fl1 X, 0, hfok, by omega, A, fun _ => ⟨hh, X, hX, rfl⟩⟩
theorem nmTm_ok {x : ByteArray} (h : x.size ≤ 140737488355328) : (nmTm x).Ok := .mk _ _ _ _ _ (by omega) (by omega) h (by simp) (by simp)
theorem nmTm_d (x : ByteArray) : (nmTm x).d = D.agg [eI 3, eI 0, eS x, D.val (.slice none 0 0)] := rfl
theorem law35_name_ok (n : Nat) (x : ByteArray) : law35_nameL n [eS x] = some (nmTm x).d := by
  simp only [law35_nameL, law35_name, obind_s, og_t, oif_b, pd_0, pd_s, and_ch, or_ch, b_lss, b_leq, b_gtr, b_geq, b_eql, b_neq, s_eql, s_neq, s_lss, u_not, jnX_l, jnX_r, inrX_s, oneP_I, oneP_B, oneP_S, oneP_sl, oneP_row, oneP_nil, one_I, one_B, one_S, one_sl, one_row, one_nil, extP_tup, List.getElem?_cons_zero, List.getElem?_cons_succ, esD_sl, lenP_sl, lenP_row, lenP_nil, elP_sl, ixP_nat, Bool.and_true, Bool.true_and, Bool.and_self, if_true, if_false, Bool.not_true, Bool.not_false, Bool.false_eq_true, flat_eB, flat_eI, flat_eS, Bool.or_true, Bool.true_or, agg2, agg3, agg4, agg5, agg6, agg7, agg8, zB, zI, zS, celsD_agg, mpD_mp, nmTm_d]
theorem moreV_snoc {vs : List V} {l : List Df} {ys : List (Y × Int)} {j : Nat} {d : Df} {y : Y} {v : Int} (hj : ys.length = j) (hd : l[j]? = some d) : moreV vs (l.take (j + 1)) (ys ++ [(y, v)]) = moreV vs (l.take j) ys ++ [⟨d.name, y.b, y.lo, y.hi⟩] := by
  obtain ⟨h1, h2⟩ := List.getElem?_eq_some_iff.1 hd
  have e : l.take (j + 1) = l.take j ++ [d] := by rw [List.take_add_one, hd]; rfl
  unfold moreV moreZ
  rw [e, List.zip_append (by simp; omega), List.map_append, List.append_assoc]; rfl
theorem atV_snoc (s : List Int) (ys : List (Y × Int)) (y : Y) (v : Int) : atV s (ys ++ [(y, v)]) = atV s ys ++ [v] := by simp [atV]
theorem evalR_true {vs : List V} {t : Tm} {s nn : List Int} (h : (evalR vs t s nn).2 = true) : (typeR vs true t).2 = 0 ∧ s.length = vs.length ∧ evalR vs t s nn = valR vs s nn t := by
  unfold evalR at h ⊢
  split at h
  · cases h
  · rename_i hc
    rw [if_neg hc]
    refine ⟨?_, ?_, rfl⟩
    · exact Classical.byContradiction fun h => hc (.inl h)
    · exact Classical.byContradiction fun h => hc (.inr h)
theorem typeR_val {vs : List V} {nx : Bool} {t : Tm} (h : (typeR vs nx t).2 = 0) : typeR vs nx t = typ vs nx t := by
  unfold typeR at h ⊢
  by_cases hc : (chk t 1 0).1 = 0
  · rw [if_neg (by simpa using hc)]
  · rw [if_pos hc] at h; exact absurd h hc
theorem typeR_nx {vs : List V} {t : Tm} (h : (typeR vs false t).2 = 0) : (typeR vs true t).2 = 0 := by
  have h1 := typeR_val h
  have h2 : (typ vs false t).2 = 0 := by rw [← h1]; exact h
  have h3 := typ_nx t h2
  unfold typeR at h ⊢
  by_cases hc : (chk t 1 0).1 = 0
  · rw [if_neg (by simpa using hc), h3]; exact h2
  · rw [if_pos hc] at h; exact absurd h hc
/-- What is known of the first definitions. -/
structure Pm (vs : List V) (l : List Df) (s : List Int) (j : Nat) (ys : List (Y × Int)) : Prop where
  len : ys.length = j
  at_ : ∀ (i : Nat) (d : Df) (y : Y) (v : Int), l[i]? = some d → ys[i]? = some (y, v) → idxV vs d.name = none ∧ ∃ h X, ExpH l h (nmTm d.name) X ∧ Valid (fl1 X) ∧ typ vs false (fl1 X) = (y, 0) ∧ valR vs s [] (fl1 X) = (v, true)
theorem Pm.inR {vs : List V} {l : List Df} {s : List Int} {j : Nat} {ys : List (Y × Int)} (h : Pm vs l s j ys) (hj : j ≤ l.length) : ∀ v ∈ ys.map (·.2), inR v = true := by
  intro v hv
  obtain ⟨⟨y, v'⟩, hp, rfl⟩ := List.mem_map.1 hv
  obtain ⟨i, hi⟩ := List.getElem?_of_mem hp
  have hil := (List.getElem?_eq_some_iff.1 hi).1
  have hl := h.len
  obtain ⟨_, _, X, _, h3, _, h5⟩ := h.at_ i l[i] y v' (List.getElem?_eq_getElem (by omega)) hi
  have := valR_in (vs := vs) (s := s) (nn := []) h3 (by rw [h5])
  rw [h5] at this
  exact this
theorem Pm.snoc {vs : List V} {l : List Df} {s : List Int} {j : Nat} {ys : List (Y × Int)} (h : Pm vs l s j ys) {d : Df} {y : Y} {v : Int} (hd : l[j]? = some d) (hn : idxV vs d.name = none) {g : Nat} {X : Tm} (hX : ExpH l g (nmTm d.name) X) (hv : Valid (fl1 X)) (hy : typ vs false (fl1 X) = (y, 0)) (hr : valR vs s [] (fl1 X) = (v, true)) : Pm vs l s (j + 1) (ys ++ [(y, v)]) := by
  have hl := h.len
  refine ⟨by simp [hl], ?_⟩
  intro i d' y' v' hd' hy'
  rcases Nat.lt_or_ge i ys.length with hi | hi
  · rw [List.getElem?_append_left hi] at hy'
    exact h.at_ i d' y' v' hd' hy'
  · rw [List.getElem?_append_right hi] at hy'
    have : i = j := by
      rcases Nat.lt_or_ge (i - ys.length) 1 with h1 | h1
      · omega
      · rw [List.getElem?_eq_none (by simpa using h1)] at hy'; cases hy'
    subst this
    rw [hl, Nat.sub_self] at hy'
    simp at hy'
    obtain ⟨rfl, rfl⟩ := hy'
    rw [hd] at hd'; cases hd'
    exact ⟨hn, g, X, hX, hv, hy, hr⟩
theorem ret_b {α : Type} (b : Bool) (x y : α) : (if b = true then x else y) = if b = true then x else y := rfl
set_option maxRecDepth 8000 in
theorem dm5_ok (n : Nat) (vs : List V) (s : List Int) (l : List Df) (c0 c1 c2 c3 : D) (hl : DL 12300 l) (hl8 : l.length ≤ 8) (hn : 400000000 < n) (hvs : vs.length ≤ 20) (hs : s.length = vs.length) (hin : ∀ v ∈ s, inI v) (hd : ∀ d ∈ l, d.name.size ≤ 140737488355328) (hL : law35_livesL n [] = some (eB true)) : ∀ (m j : Nat) (ys : List (Y × Int)), Pm vs l s j ys → l.length - j < m → j ≤ l.length →
    iterL (law35_DefsMeans_l5 n) m [eVs vs, eDs l, eIs s, eI (j : Int), c0, c1, c2, c3, eVs (moreV vs (l.take j) ys), eIs (atV s ys)] = some (.inr (eB true)) ∨
    ∃ ys', Pm vs l s l.length ys' ∧ iterL (law35_DefsMeans_l5 n) m [eVs vs, eDs l, eIs s, eI (j : Int), c0, c1, c2, c3, eVs (moreV vs (l.take j) ys), eIs (atV s ys)] = some (.inl [eVs vs, eDs l, eIs s, c0, c1, c2, c3, eVs (moreV vs l ys'), eIs (atV s ys')])
  | 0, _, _, _, h, _ => absurd h (Nat.not_lt_zero _)
  | m + 1, j, ys, hP, hm, hj => by
    have hlen := hl.len
    have hyl := hP.len
    have ev : ∀ x, D.sl 4 (esD (eVs x)) = eVs x := fun _ => rfl
    have ei : ∀ x, D.sl 1 (esD (eIs x)) = eIs x := fun _ => rfl
    rcases Nat.lt_or_eq_of_le hj with hjl | hjl
    case inr =>
      subst hjl
      right
      refine ⟨ys, hP, ?_⟩
      rw [iterL_s, List.take_length]
      simp only [law35_DefsMeans_l5, obind_s, og_t, oif_b, pd_0, pd_s, and_ch, or_ch, b_lss, b_leq, b_gtr, b_geq, b_eql, b_neq, s_eql, s_neq, s_lss, u_not, jnX_l, jnX_r, inrX_s, oneP_I, oneP_B, oneP_S, oneP_sl, oneP_row, oneP_nil, one_I, one_B, one_S, one_sl, one_row, one_nil, extP_tup, List.getElem?_cons_zero, List.getElem?_cons_succ, esD_sl, lenP_sl, lenP_row, lenP_nil, elP_sl, ixP_nat, Bool.and_true, Bool.true_and, Bool.and_self, if_true, if_false, Bool.not_true, Bool.not_false, Bool.false_eq_true, flat_eB, flat_eI, flat_eS, Bool.or_true, Bool.true_or, agg2, agg3, agg4, agg5, agg6, agg7, agg8, zB, zI, zS, celsD_agg, mpD_mp, eDs_len, decide_eq_false (show ¬ ((l.length : Int) < l.length) by omega), ev, ei]
    have hjd := decide_eq_true (show ((j : Int) < (l.length : Int)) by omega)
    obtain ⟨d, hdj⟩ : ∃ d, l[j]? = some d := ⟨l[j], List.getElem?_eq_getElem hjl⟩
    have hdn := hd d (List.mem_of_getElem? hdj)
    have h0 : ∀ d : Df, d.cells[0]? = some (eS d.name) := fun _ => rfl
    obtain ⟨x, e, hxo, hxs, hI, hE⟩ := inl_one hl (by omega) (nmTm d.name) (nmTm_ok hdn) (by show (2 : Nat) ≤ 12300; omega)
    have hIn := hI n (by omega)
    have hTy := terms_Type_ok n vs x false (by omega) hxo (by omega)
    have hEv := terms_Eval_ok n vs x s [] (by omega) hxo (by omega) NILD rfl rfl (by intro i x h; simp at h) (by
      intro v hv
      rcases hv with hv | hv
      · exact hin v hv
      · cases hv)
    obtain ⟨z, hIx, hz1, hz2⟩ : ∃ z : Int, ref30_IndexL n [eVs vs, eS d.name] = some (eI z) ∧ (idxV vs d.name = none → z = -1) ∧ ∀ i, idxV vs d.name = some i → z = (i : Int) := by
      have h := ref30_Index_ok n vs d.name (by omega) (by omega)
      refine ⟨_, h, ?_, ?_⟩
      · intro h; rw [h]
      · intro i h; rw [h]
    have y0 : ∀ y : Y, celD y.d 0 = eB y.b := fun _ => rfl
    have y1 : ∀ y : Y, celD y.d 1 = eI y.lo := fun _ => rfl
    have y2 : ∀ y : Y, celD y.d 2 = eI y.hi := fun _ => rfl
    have ya : ∀ y : Y, aggP 3 y.d = true := fun _ => rfl
    rw [iterL_s]
    by_cases hbad : (((e != 0 || (typeR vs false x).2 != 0) || !(evalR vs x s []).2) || decide (z ≥ 0)) = true
    · left
      simp only [law35_DefsMeans_l5, obind_s, og_t, oif_b, pd_0, pd_s, and_ch, or_ch, b_lss, b_leq, b_gtr, b_geq, b_eql, b_neq, s_eql, s_neq, s_lss, u_not, jnX_l, jnX_r, inrX_s, oneP_I, oneP_B, oneP_S, oneP_sl, oneP_row, oneP_nil, one_I, one_B, one_S, one_sl, one_row, one_nil, extP_tup, List.getElem?_cons_zero, List.getElem?_cons_succ, esD_sl, lenP_sl, lenP_row, lenP_nil, elP_sl, ixP_nat, Bool.and_true, Bool.true_and, Bool.and_self, if_true, if_false, Bool.not_true, Bool.not_false, Bool.false_eq_true, flat_eB, flat_eI, flat_eS, Bool.or_true, Bool.true_or, agg2, agg3, agg4, agg5, agg6, agg7, agg8, zB, zI, zS, celsD_agg, mpD_mp, Tm.aggP_d, Tm.cel0, Tm.cel1, Tm.cel2, Tm.cel3, Tm.agg_d, Tm.atP_cells, Tm.rows_len, eDs_len, hjd, eDs_ix hdj, atP_f, h0, law35_name_ok, hIn, hTy, ya, hEv, resD_0, resD_1, hIx, hbad, hL]
    · simp only [Bool.not_eq_true] at hbad
      have hbad' := hbad
      simp only [Bool.or_eq_false_iff, bne_eq_false_iff_eq, Bool.not_eq_false', decide_eq_false_iff_not] at hbad'
      obtain ⟨⟨⟨b1, b2⟩, b3⟩, b4⟩ := hbad'
      subst b1
      obtain ⟨h, X, hX, hxX⟩ := hE rfl
      obtain ⟨hvx, htx⟩ := typeR_ok b2
      obtain ⟨q1, q2, q3⟩ := evalR_true b3
      have hidx : idxV vs d.name = none := by
        cases hq : idxV vs d.name with
        | none => rfl
        | some i => have := hz2 i hq; omega
      have hty := typeR_val b2
      have hvr : valR vs s [] x = ((evalR vs x s []).1, true) := by rw [← q3, ← b3]
      have hyy : typ vs false x = ((typeR vs false x).1, 0) := by rw [← hty, ← b2]
      subst hxX
      have hval : (if (evalR vs (fl1 X) s []).2 = true then (evalR vs (fl1 X) s []).1 else 0) = (evalR vs (fl1 X) s []).1 := if_pos b3
      have hP' := hP.snoc hdj hidx hX hvx hyy hvr
      have e8 : (esD (eVs (moreV vs (l.take j) ys))).length = vs.length + j := by
        have : (l.take j).length = j := by simp; omega
        have h2 := moreV_len (vs := vs) (l := l.take j) (ys := ys) (by omega)
        simp only [eVs, esD_sl, List.length_map, h2]; omega
      have e9 : (esD (eIs (atV s ys))).length = vs.length + j := by simp [eIs, atV, hs, hyl]
      have r8 : roomP (vs.length + j + 1) 40 = true := roomP_ok (by omega) (by omega)
      have r9 : roomP (vs.length + j + 1) 8 = true := roomP_ok (by omega) (by omega)
      have c8 : D.sl 4 (esD (eVs (moreV vs (l.take j) ys)) ++ [[eS d.name, eB (typeR vs false (fl1 X)).1.b, eI (typeR vs false (fl1 X)).1.lo, eI (typeR vs false (fl1 X)).1.hi]]) = eVs (moreV vs (l.take (j + 1)) (ys ++ [((typeR vs false (fl1 X)).1, (evalR vs (fl1 X) s []).1)])) := by
        rw [moreV_snoc hyl hdj]; simp [eVs, V.cells]
      have c9 : D.sl 1 (esD (eIs (atV s ys)) ++ [[eI (evalR vs (fl1 X) s []).1]]) = eIs (atV s (ys ++ [((typeR vs false (fl1 X)).1, (evalR vs (fl1 X) s []).1)])) := by
        rw [atV_snoc]; simp [eIs]
      have ih := dm5_ok n vs s l c0 c1 c2 c3 hl hl8 hn hvs hs hin hd hL m (j + 1) _ hP' (by omega) hjl
      have hgo : law35_DefsMeans_l5 n [eVs vs, eDs l, eIs s, eI (j : Int), c0, c1, c2, c3, eVs (moreV vs (l.take j) ys), eIs (atV s ys)] = some (.inl [eVs vs, eDs l, eIs s, eI ((j + 1 : Nat) : Int), c0, c1, c2, c3, eVs (moreV vs (l.take (j + 1)) (ys ++ [((typeR vs false (fl1 X)).1, (evalR vs (fl1 X) s []).1)])), eIs (atV s (ys ++ [((typeR vs false (fl1 X)).1, (evalR vs (fl1 X) s []).1)]))]) := by
        simp only [law35_DefsMeans_l5, obind_s, og_t, oif_b, pd_0, pd_s, and_ch, or_ch, b_lss, b_leq, b_gtr, b_geq, b_eql, b_neq, s_eql, s_neq, s_lss, u_not, jnX_l, jnX_r, inrX_s, oneP_I, oneP_B, oneP_S, oneP_sl, oneP_row, oneP_nil, one_I, one_B, one_S, one_sl, one_row, one_nil, extP_tup, List.getElem?_cons_zero, List.getElem?_cons_succ, esD_sl, lenP_sl, lenP_row, lenP_nil, elP_sl, ixP_nat, Bool.and_true, Bool.true_and, Bool.and_self, if_true, if_false, Bool.not_true, Bool.not_false, Bool.false_eq_true, flat_eB, flat_eI, flat_eS, Bool.or_true, Bool.true_or, agg2, agg3, agg4, agg5, agg6, agg7, agg8, zB, zI, zS, celsD_agg, mpD_mp, Tm.aggP_d, Tm.cel0, Tm.cel1, Tm.cel2, Tm.cel3, Tm.agg_d, Tm.atP_cells, Tm.rows_len, eDs_len, hjd, eDs_ix hdj, atP_f, h0, law35_name_ok, hIn, hTy, ya, y0, y1, y2, hEv, resD_0, resD_1, hIx, hbad, hval, if_true, List.length_cons, List.length_nil, Nat.zero_add, e8, e9, r8, r9, c8, c9, add1 (bt := false) (i := j) (by omega)]
      simp only [hgo, obind_s]
      exact ih
end Go.Am
namespace Go.Am
set_option linter.unusedVariables false
set_option linter.unusedSimpArgs false
set_option maxRecDepth 8000 in
theorem DefsMeans_ok (n : Nat) (vs : List V) (t : Tm) (l : List Df) (s : List Int) (hok : t.Ok) (ht : t.sz ≤ 2000000) (hll : l.length ≤ 2000000) (hd : ∀ d ∈ l, d.name.size ≤ 140737488355328 ∧ d.e.Ok ∧ d.e.sz ≤ 2000000) (hin : ∀ v ∈ s, inI v) (hn : 400000000 < n) : law35_DefsMeansL n [eVs vs, t.d, eDs l, eIs s] = some (eB true) := by
  obtain ⟨n', rfl⟩ : ∃ q, n = q + 200 := ⟨n - 200, by omega⟩
  have hL := lives35_ok n'
  generalize n' + 200 = n at *
  have hLi := law30_Light_ok n t (by omega) hok
  have hF := law35_few_ok n l (by omega) (by omega) fun d hm => ⟨(hd d hm).2.1, by have := (hd d hm).2.2; omega⟩
  by_cases hbad : ((!lightB t || !fewB l) || decide ((vs.length : Int) > 20) || ((s.length : Int) != (vs.length : Int))) = true
  · simp -implicitDefEqProofs only [law35_DefsMeansL, law35_DefsMeans, obind_s, og_t, oif_b, pd_0, pd_s, and_ch, or_ch, b_lss, b_leq, b_gtr, b_geq, b_eql, b_neq, s_eql, s_neq, s_lss, u_not, jnX_l, jnX_r, inrX_s, oneP_I, oneP_B, oneP_S, oneP_sl, oneP_row, oneP_nil, one_I, one_B, one_S, one_sl, one_row, one_nil, extP_tup, List.getElem?_cons_zero, List.getElem?_cons_succ, esD_sl, lenP_sl, lenP_row, lenP_nil, elP_sl, ixP_nat, Bool.and_true, Bool.true_and, Bool.and_self, if_true, if_false, Bool.not_true, Bool.not_false, Bool.false_eq_true, flat_eB, flat_eI, flat_eS, Bool.or_true, Bool.true_or, agg2, agg3, agg4, agg5, agg6, agg7, agg8, zB, zI, zS, celsD_agg, mpD_mp, Tm.aggP_d, Tm.cel0, Tm.cel1, Tm.cel2, Tm.cel3, Tm.agg_d, Tm.atP_cells, Tm.rows_len, hLi, hF, eVs_len, eIs_lenP, hbad, hL]
  have hbad1 : ((!lightB t || !fewB l) || decide ((vs.length : Int) > 20) || ((s.length : Int) != (vs.length : Int))) = false := by simpa using hbad
  have hbad' := hbad1
  simp only [Bool.or_eq_false_iff, bne_eq_false_iff_eq, Bool.not_eq_false', decide_eq_false_iff_not] at hbad'
  obtain ⟨⟨⟨h1, h2⟩, h3⟩, h4⟩ := hbad'
  have hdl := fewB_dl h2 fun d hm => ⟨(hd d hm).2.1, by have := (hd d hm).2.2; omega⟩
  have hl8 : l.length ≤ 8 := by simp [fewB] at h2; omega
  have hts := lightB_sz h1 (by omega)
  have hs : s.length = vs.length := by omega
  have hvl : vs.length ≤ 20 := by omega
  have elv : elP (eVs vs) = some (4, vs.map V.cells) := rfl
  have els : elP (eIs s) = some (1, s.map fun n => [eI n]) := rfl
  have m0 : D.sl 4 (([] : List (List D)) ++ vs.map V.cells) = eVs (moreV vs (l.take 0) []) := by simp [eVs, moreV, moreZ]
  have a0 : D.sl 1 (([] : List (List D)) ++ s.map fun n => [eI n]) = eIs (atV s []) := by simp [eIs, atV]
  have e0 : (eI ((0 : Nat) : Int)) = eI 0 := rfl
  have r1 : roomP (0 + vs.length) 40 = true := roomP_ok (by omega) (by omega)
  have r2 : roomP (0 + s.length) 8 = true := roomP_ok (by omega) (by omega)
  have z4 : decide (4 = 4 ∨ vs.map V.cells = []) = true := by simp
  have z1 : decide (1 = 1 ∨ (s.map fun n => [eI n]) = []) = true := by simp
  have z5 : decide (0 < 4) = true := rfl
  have z6 : decide (0 < 1) = true := rfl
  have h5 := dm5_ok n vs s l (eI t.op) (eI t.num) (eS t.name) (rowD 4 t.nl (Tm.rows t.kids)) hdl hl8 hn hvl hs hin (fun d hm => (hd d hm).1) hL n 0 [] ⟨rfl, by intro i d y v _ h; simp at h⟩ (by omega) (Nat.zero_le _)
  rw [e0] at h5
  rcases h5 with h5 | ⟨ys, hP, h5⟩
  · simp -implicitDefEqProofs only [law35_DefsMeansL, law35_DefsMeans, obind_s, og_t, oif_b, pd_0, pd_s, and_ch, or_ch, b_lss, b_leq, b_gtr, b_geq, b_eql, b_neq, s_eql, s_neq, s_lss, u_not, jnX_l, jnX_r, inrX_s, oneP_I, oneP_B, oneP_S, oneP_sl, oneP_row, oneP_nil, one_I, one_B, one_S, one_sl, one_row, one_nil, extP_tup, List.getElem?_cons_zero, List.getElem?_cons_succ, esD_sl, lenP_sl, lenP_row, lenP_nil, elP_sl, ixP_nat, Bool.and_true, Bool.true_and, Bool.and_self, if_true, if_false, Bool.not_true, Bool.not_false, Bool.false_eq_true, flat_eB, flat_eI, flat_eS, Bool.or_true, Bool.true_or, agg2, agg3, agg4, agg5, agg6, agg7, agg8, zB, zI, zS, celsD_agg, mpD_mp, Tm.aggP_d, Tm.cel0, Tm.cel1, Tm.cel2, Tm.cel3, Tm.agg_d, Tm.atP_cells, Tm.rows_len, hLi, hF, eVs_len, eIs_lenP, hbad1, elv, els, true_or, decide_true, z5, z6, List.length_nil, List.length_map, r1, r2, m0, a0, h5]
  have hM : Mn vs l s ys := ⟨hP.len, hs, hP.at_⟩
  have hml := moreV_len (vs := vs) hM.len
  obtain ⟨x, e, hxo, hxs, hI, hE⟩ := inl_one hdl (by omega) t hok (by omega)
  have hIn := hI n (by omega)
  have hTy := terms_Type_ok n vs x false (by omega) hxo (by omega)
  have hTz := terms_Type_ok n (moreV vs l ys) t false (by omega) hok (by omega)
  have y0 : ∀ y : Y, celD y.d 0 = eB y.b := fun _ => rfl
  have y1 : ∀ y : Y, celD y.d 1 = eI y.lo := fun _ => rfl
  have y2 : ∀ y : Y, celD y.d 2 = eI y.hi := fun _ => rfl
  have yd : ∀ y : Y, D.agg [eB y.b, eI y.lo, eI y.hi] = y.d := fun _ => rfl
  have ya : ∀ y : Y, aggP 3 y.d = true := fun _ => rfl
  have ev : ∀ x, D.sl 4 (esD (eVs x)) = eVs x := fun _ => rfl
  have ei : ∀ x, D.sl 1 (esD (eIs x)) = eIs x := fun _ => rfl
  have fl : ∀ (y : Y) (e : Int), (D.tup [y.d, eI e]).flat = true := fun _ _ => rfl
  have o4 : ∀ t : Tm, D.agg [eI t.op, eI t.num, eS t.name, rowD 4 t.nl (Tm.rows t.kids)] = t.d := fun t => (Tm.d_eq t).symm
  by_cases hb2 : ((e != 0 || (typeR vs false x).2 != 0) || (typeR (moreV vs l ys) false t).2 != 0) = true
  · simp -implicitDefEqProofs only [law35_DefsMeansL, law35_DefsMeans, obind_s, og_t, oif_b, pd_0, pd_s, and_ch, or_ch, b_lss, b_leq, b_gtr, b_geq, b_eql, b_neq, s_eql, s_neq, s_lss, u_not, jnX_l, jnX_r, inrX_s, oneP_I, oneP_B, oneP_S, oneP_sl, oneP_row, oneP_nil, one_I, one_B, one_S, one_sl, one_row, one_nil, extP_tup, List.getElem?_cons_zero, List.getElem?_cons_succ, esD_sl, lenP_sl, lenP_row, lenP_nil, elP_sl, ixP_nat, Bool.and_true, Bool.true_and, Bool.and_self, if_true, if_false, Bool.not_true, Bool.not_false, Bool.false_eq_true, flat_eB, flat_eI, flat_eS, Bool.or_true, Bool.true_or, agg2, agg3, agg4, agg5, agg6, agg7, agg8, zB, zI, zS, celsD_agg, mpD_mp, Tm.aggP_d, Tm.cel0, Tm.cel1, Tm.cel2, Tm.cel3, Tm.agg_d, Tm.atP_cells, Tm.rows_len, hLi, hF, eVs_len, eIs_lenP, hbad1, elv, els, true_or, decide_true, z5, z6, List.length_nil, List.length_map, r1, r2, m0, a0, h5, hIn, hTy, ya, ev, hTz, fl, hb2, hL]
  have hb2' : ((e != 0 || (typeR vs false x).2 != 0) || (typeR (moreV vs l ys) false t).2 != 0) = false := by simpa using hb2
  have hb3 := hb2'
  simp only [Bool.or_eq_false_iff, bne_eq_false_iff_eq] at hb3
  obtain ⟨⟨b1, b2⟩, b3⟩ := hb3
  subst b1
  obtain ⟨h, X, hX, hxX⟩ := hE rfl
  subst hxX
  obtain ⟨hvx, htx⟩ := typeR_ok b2
  obtain ⟨hvt, htt⟩ := typeR_ok b3
  obtain ⟨k1, k2⟩ := means hM h t X hX hvt htt
  rw [← typ_fl1 vs false X, ← typeR_val b2, ← typeR_val b3] at k1
  have hal : (atV s ys).length = (moreV vs l ys).length := by rw [hml, atV, List.length_append, List.length_map, hs, hP.len]
  have k3 : evalR (moreV vs l ys) t (atV s ys) [] = evalR vs (fl1 X) s [] := by
    unfold evalR
    have n1 : ¬ ((typeR (moreV vs l ys) true t).2 ≠ 0 ∨ (atV s ys).length ≠ (moreV vs l ys).length) := by
      rintro (h | h)
      · exact h (typeR_nx b3)
      · exact h hal
    have n2 : ¬ ((typeR vs true (fl1 X)).2 ≠ 0 ∨ s.length ≠ vs.length) := by
      rintro (h | h)
      · exact h (typeR_nx b2)
      · exact h hs
    rw [if_neg n1, if_neg n2, k2, valR_fl1]
  have hEv := terms_Eval_ok n vs (fl1 X) s [] (by omega) hxo (by omega) NILD rfl rfl (by intro i x h; simp at h) (by
    intro v hv
    rcases hv with hv | hv
    · exact hin v hv
    · cases hv)
  have hEw := terms_Eval_ok n (moreV vs l ys) t (atV s ys) [] (by omega) hok (by omega) NILD rfl rfl (by intro i x h; simp at h) (by
    intro v hv
    rcases hv with hv | hv
    · rcases List.mem_append.1 hv with hv | hv
      · exact hin v hv
      · have := (inR_iff v).1 (hP.inR (Nat.le_refl _) v hv)
        omega
    · cases hv)
  rw [k3] at hEw
  rw [k1] at hTz hb2'
  have heq := eqv_Y (typeR vs false (fl1 X)).1 (typeR vs false (fl1 X)).1
  rw [decide_eq_true rfl] at heq
  have hbe : ∀ b : Bool, (b == b) = true := by intro b; cases b <;> rfl
  have hie : ∀ i : Int, (i == i) = true := fun i => by simp
  simp -implicitDefEqProofs only [law35_DefsMeansL, law35_DefsMeans, obind_s, og_t, oif_b, pd_0, pd_s, and_ch, or_ch, b_lss, b_leq, b_gtr, b_geq, b_eql, b_neq, s_eql, s_neq, s_lss, u_not, jnX_l, jnX_r, inrX_s, oneP_I, oneP_B, oneP_S, oneP_sl, oneP_row, oneP_nil, one_I, one_B, one_S, one_sl, one_row, one_nil, extP_tup, List.getElem?_cons_zero, List.getElem?_cons_succ, esD_sl, lenP_sl, lenP_row, lenP_nil, elP_sl, ixP_nat, Bool.and_true, Bool.true_and, Bool.and_self, if_true, if_false, Bool.not_true, Bool.not_false, Bool.false_eq_true, flat_eB, flat_eI, flat_eS, Bool.or_true, Bool.true_or, agg2, agg3, agg4, agg5, agg6, agg7, agg8, zB, zI, zS, celsD_agg, mpD_mp, Tm.aggP_d, Tm.cel0, Tm.cel1, Tm.cel2, Tm.cel3, Tm.agg_d, Tm.atP_cells, Tm.rows_len, hLi, hF, eVs_len, eIs_lenP, hbad1, elv, els, true_or, decide_true, z5, z6, List.length_nil, List.length_map, r1, r2, m0, a0, h5, hIn, hTy, ya, ev, ei, hTz, fl, hb2', hEv, hEw, resD_0, resD_1, resD_flat, y0, y1, y2, yd, heq, bb_eql, hbe, hie, hL]
end Go.Am
