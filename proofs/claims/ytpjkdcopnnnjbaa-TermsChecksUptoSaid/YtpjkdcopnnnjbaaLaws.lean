/- The laws, on data. No condition. -/
import Derived.Test.YtpjkdcopnnnjbaaEngD
import Derived.Test.YtpjkdcopnnnjbaaCode
import Derived.Test.YtpjkdcopnnnjbaaEngS
import Derived.KernelRfl
set_option linter.all false
set_option linter.unnecessarySimpa false
namespace Go.Am
set_option linter.unusedVariables false
set_option linter.unusedSimpArgs false
/-! ### The number of kids; the error of one part -/
def kidsOf (op : Int) : Int × Int :=
  if op = 1 ∨ op = 2 ∨ op = 3 ∨ op = 4 then (0, 0) else if op = 5 then (1, 1) else if op = 6 ∨ op = 7 then (1, 64) else if op = 18 then (3, 3) else if op < 1 ∨ op > 18 then (-1, -1) else (2, 2)
def namedOp (op : Int) : Bool := op == 3 || op == 4
def wrongT (t : Tm) : Int :=
  if (kidsOf t.op).1 < 0 then 11
  else if (t.num < (if t.op = 1 then -255 else 0)) ∨ t.num > (if t.op = 1 then 255 else if t.op = 2 then 1 else 0) then 2
  else if (if namedOp t.op then t.name = ⟨#[]⟩ ∨ t.name.size > 24 else t.name ≠ ⟨#[]⟩) then 12
  else if (t.kids.length : Int) < (kidsOf t.op).1 ∨ (t.kids.length : Int) > (kidsOf t.op).2 then 3 else 0
theorem terms_kids_ok (n : Nat) (op : Int) : terms_kidsL n [eI op] = some (.tup [eI (kidsOf op).1, eI (kidsOf op).2]) := by
  rcases opCases op with rfl|rfl|rfl|rfl|rfl|rfl|rfl|rfl|rfl|rfl|rfl|rfl|rfl|rfl|rfl|rfl|rfl|rfl|h
  case inr.inr.inr.inr.inr.inr.inr.inr.inr.inr.inr.inr.inr.inr.inr.inr.inr.inr =>
    have e : ∀ k : Int, 1 ≤ k → k ≤ 18 → (op == k) = false := fun k h1 h2 => by simp; omega
    have e2 : kidsOf op = (-1, -1) := by unfold kidsOf; repeat (first | rw [if_neg (by omega)] | rw [if_pos (by omega)])
    simp [terms_kidsL, terms_kids, e, e2]
  all_goals rfl
theorem ref30_Kids_ok (n : Nat) (op : Int) : ref30_KidsL n [eI op] = some (.tup [eI (kidsOf op).1, eI (kidsOf op).2]) := by
  rcases opCases op with rfl|rfl|rfl|rfl|rfl|rfl|rfl|rfl|rfl|rfl|rfl|rfl|rfl|rfl|rfl|rfl|rfl|rfl|h
  case inr.inr.inr.inr.inr.inr.inr.inr.inr.inr.inr.inr.inr.inr.inr.inr.inr.inr =>
    have e : ∀ k : Int, 1 ≤ k → k ≤ 18 → (op == k) = false := fun k h1 h2 => by simp; omega
    have e2 : kidsOf op = (-1, -1) := by unfold kidsOf; repeat (first | rw [if_neg (by omega)] | rw [if_pos (by omega)])
    rcases h with h | h
    · simp [ref30_KidsL, ref30_Kids, e, e2, h]
    · have : ¬ op < 1 := by omega
      simp [ref30_KidsL, ref30_Kids, e, e2, h, this]
  all_goals rfl
theorem empS (s : ByteArray) : decide (s = ⟨#[]⟩) = decide ((s.size : Int) < 1) := by
  have : s = ⟨#[]⟩ ↔ (s.size : Int) < 1 := by
    constructor
    · rintro rfl; decide
    · intro h
      have : s.size = 0 := by omega
      cases s with
      | mk a => congr; exact Array.eq_empty_of_size_eq_zero this
  simp [this]
theorem terms_wrong_ok (n : Nat) (t : Tm) : terms_wrongL n [t.d] = some (eI (wrongT t)) := by
  cases t with
  | mk op num s b ks =>
  have hk := terms_kids_ok n op
  have ea : aggP 4 (Tm.d (.mk op num s b ks)) = true := Tm.aggP_d _
  have e0 : celD (Tm.d (.mk op num s b ks)) 0 = eI op := rfl
  have e1 : celD (Tm.d (.mk op num s b ks)) 1 = eI num := rfl
  have e2 : celD (Tm.d (.mk op num s b ks)) 2 = eS s := rfl
  have e3 : celD (Tm.d (.mk op num s b ks)) 3 = rowD 4 b (Tm.rows ks) := rfl
  generalize Tm.d (.mk op num s b ks) = x at *
  simp only [wrongT, Tm.op, Tm.num, Tm.name, Tm.kids]
  simp only [terms_wrongL, terms_wrong, ea, e0, e1, e2, e3, og_t, hk, obind_s, extP_tup, List.getElem?_cons_zero, List.getElem?_cons_succ, b_lss, oif_b]
  by_cases h0 : (kidsOf op).1 < 0
  · simp [h0]
  simp only [h0, decide_false, Bool.false_eq_true, if_false, b_eql, obind_s, oif_b]
  simp [namedOp]
  grind
/-- The same at a depth. -/
theorem ref30_Part_ok (n : Nat) (t : Tm) (deep : Int) : ref30_PartL n [t.d, eI deep] = some (eI (if deep > 64 then 17 else wrongT t)) := by
  cases t with
  | mk op num s b ks =>
  have hk := ref30_Kids_ok n op
  have ea : aggP 4 (Tm.d (.mk op num s b ks)) = true := Tm.aggP_d _
  have e0 : celD (Tm.d (.mk op num s b ks)) 0 = eI op := rfl
  have e1 : celD (Tm.d (.mk op num s b ks)) 1 = eI num := rfl
  have e2 : celD (Tm.d (.mk op num s b ks)) 2 = eS s := rfl
  have e3 : celD (Tm.d (.mk op num s b ks)) 3 = rowD 4 b (Tm.rows ks) := rfl
  have e4 : D.agg [eI op, eI num, eS s, rowD 4 b (Tm.rows ks)] = (Tm.d (.mk op num s b ks)) := rfl
  have hs := empS s
  simp only [wrongT, Tm.op, Tm.num, Tm.name, Tm.kids]
  simp only [ref30_PartL, ref30_Part, ea, e0, e1, e2, e3, e4, og_t, hk, obind_s, extP_tup, List.getElem?_cons_zero, List.getElem?_cons_succ, b_lss, b_gtr, oif_b]
  by_cases hd : deep > 64
  · simp [hd]
  by_cases h0 : (kidsOf op).1 < 0
  · simp [h0]
  simp only [h0, hd, decide_false, Bool.false_eq_true, if_false, b_eql, obind_s, oif_b]
  simp [namedOp]
  simp at hs
  grind
/-! ### Check -/
mutual
/-- The error of a term at a depth, behind so many parts; and how many parts there were then. -/
def chk : Tm → Int → Int → Int × Int
  | .mk op n s b ks, deep, k =>
    if deep > 64 then (17, k + 1) else if wrongT (.mk op n s b ks) ≠ 0 then (wrongT (.mk op n s b ks), k + 1) else if k + 1 > 4096 then (4, k + 1) else chkL ks (deep + 1) (k + 1)
def chkL : List Tm → Int → Int → Int × Int
  | [], _, k => (0, k)
  | t :: r, deep, k => if (chk t deep k).1 ≠ 0 then chk t deep k else chkL r deep (chk t deep k).2
end
theorem chk_eq (t : Tm) (deep k : Int) : chk t deep k = if deep > 64 then (17, k + 1) else if wrongT t ≠ 0 then (wrongT t, k + 1) else if k + 1 > 4096 then (4, k + 1) else chkL t.kids (deep + 1) (k + 1) := by
  cases t; rw [chk]; rfl
/-- What is counted is at least what was there. -/
theorem chk_pos (t : Tm) : ∀ (deep k : Int), k + 1 ≤ (chk t deep k).2 ∧ ((chk t deep k).1 = 0 → (chk t deep k).2 ≤ 4096) := by
  refine Tm.ind (P := fun t => ∀ (deep k : Int), k + 1 ≤ (chk t deep k).2 ∧ ((chk t deep k).1 = 0 → (chk t deep k).2 ≤ 4096)) ?_ t
  intro t ih deep k
  rw [chk_eq]
  split
  · simp
  split
  · rename_i h; simp [h]
  split
  · simp
  have key : ∀ (l : List Tm) (deep k : Int), (∀ x ∈ l, ∀ (deep k : Int), k + 1 ≤ (chk x deep k).2 ∧ ((chk x deep k).1 = 0 → (chk x deep k).2 ≤ 4096)) → k ≤ 4096 → k ≤ (chkL l deep k).2 ∧ ((chkL l deep k).1 = 0 → (chkL l deep k).2 ≤ 4096) := by
    intro l
    induction l with
    | nil => intro deep k _ h; simp [chkL, h]
    | cons a r ihr =>
      intro deep k h hk
      rw [chkL]
      have h1 := h a (by simp) deep k
      split
      · rename_i h2; exact ⟨by omega, fun h3 => absurd h3 h2⟩
      · rename_i h2
        simp only [ne_eq, Decidable.not_not] at h2
        have h3 := ihr deep (chk a deep k).2 (fun x hx => h x (by simp [hx])) (h1.2 h2)
        exact ⟨by omega, h3.2⟩
  have := key t.kids (deep + 1) (k + 1) ih (by omega)
  exact this

theorem ref30_check_ok : ∀ (n : Nat) (t : Tm) (deep k : Int), t.sz < n → t.Ok → 0 ≤ deep → deep ≤ 65 → 0 ≤ k → k ≤ 4096 → ref30_checkL n [t.d, eI deep, eI k] = some (.tup [eI (chk t deep k).1, eI (chk t deep k).2])
  | 0, t, _, _, h, _, _, _, _, _ => absurd h (Nat.not_lt_zero _)
  | n + 1, t, deep, k, hn, hok, h1, h2, h3, h4 => by
    have hp := ref30_Part_ok n t deep
    rw [chk_eq]
    simp [ref30_checkL, ref30_check, add1i (bt := false) (i := k) (by omega) (by omega), hp]
    by_cases hd : 64 < deep
    · simp [hd]
    simp [hd]
    by_cases hw : wrongT t = 0
    case neg => simp [hw]
    simp [hw]
    by_cases hc : 4096 < k + 1
    · simp [hc]
    simp [hc]
    have hl := iterL_list (f := ref30_check_l8 (ref30_checkL n) n) t.kids (fun i s => [eI deep, eI s, eI (i : Int), eI t.op, eI t.num, eS t.name, rowD 4 t.nl (Tm.rows t.kids)])
      (fun r (s : Int) => if (chkL r (deep + 1) s).1 = 0 then (Sum.inl [eI (chkL r (deep + 1) s).2] : List D ⊕ D) else .inr (.tup [eI (chkL r (deep + 1) s).1, eI (chkL r (deep + 1) s).2]))
      (fun i s => 0 ≤ s ∧ s ≤ 4096) ?_ ?_ n 0 (k + 1) ⟨by omega, by omega⟩ (by have := t.sz_len; omega) (Nat.zero_le _)
    · have e0 : (eI ((0 : Nat) : Int)) = eI 0 := rfl
      rw [e0] at hl
      rw [hl]
      simp only [List.drop_zero, obind_s]
      by_cases h0 : (chkL t.kids (deep + 1) (k + 1)).1 = 0
      · simp [h0]
      · simp [h0]
    · intro s hs
      simp [ref30_check_l8, chkL]
    · intro i a s ha hi hs
      have hm := List.mem_of_getElem? ha
      have hz := Tm.sz_kid hm
      have hlen := hok.len
      have hr := ref30_check_ok n a (deep + 1) s (by omega) (hok.kid hm) (by omega) (by omega) hs.1 hs.2
      have hpos := chk_pos a (deep + 1) s
      simp [ref30_check_l8, hi, Tm.ixP_kid ha,  add1i (bt := false) (i := deep) (by omega) (by omega), hr, add1 (bt := false) (i := i) (by omega), chkL]
      by_cases h0 : (chk a (deep + 1) s).1 = 0
      · left
        simp only [h0]
        exact ⟨(chk a (deep + 1) s).2, by simp, by simp, by omega, hpos.2 h0⟩
      · right
        simp [h0]
theorem ref30_Check_ok (n : Nat) (t : Tm) (hn : t.sz < n) (hok : t.Ok) : ref30_CheckL n [t.d] = some (eI (chk t 1 0).1) := by
  have := ref30_check_ok n t 1 0 hn hok (by omega) (by omega) (by omega) (by omega)
  simp [ref30_CheckL, ref30_Check, this]

theorem terms_Check_1_ok (n : Nat) (t : Tm) (deep k w : Int) (h1 : 0 ≤ k) (h2 : k ≤ 4096) : ∃ e, e = (if deep > 64 then 17 else if wrongT t ≠ 0 then wrongT t else if k + 1 > 4096 then 4 else 0) ∧
    terms_Check_1_h n [t.d, eI deep, eI k, eI w] = some [eB (decide (e = 0)), eI (k + 1), eI e] := by
  refine ⟨_, rfl, ?_⟩
  have hp := terms_wrong_ok n t
  simp [terms_Check_1_h, add1i (bt := false) (i := k) (by omega) (by omega), hp]
  by_cases c1 : 64 < deep <;> by_cases c2 : wrongT t = 0 <;> by_cases c3 : 4096 < k + 1 <;> simp [c1, c2, c3]
theorem terms_walk_Check_ok : ∀ (n : Nat) (t : Tm) (deep k w : Int), t.sz < n → t.Ok → 0 ≤ deep → deep ≤ 65 → 0 ≤ k → k ≤ 4096 →
    terms_walk_h_terms_Check_1L n [t.d, eI deep, eI k, eI w] = some [eB (decide ((chk t deep k).1 = 0)), eI (chk t deep k).2, eI (chk t deep k).1]
  | 0, t, _, _, _, h, _, _, _, _, _ => absurd h (Nat.not_lt_zero _)
  | n + 1, t, deep, k, w, hn, hok, h1, h2, h3, h4 => by
    obtain ⟨e, he, hp⟩ := terms_Check_1_ok n t deep k w h3 h4
    rw [chk_eq]
    simp [terms_walk_h_terms_Check_1L, terms_walk_h_terms_Check_1, hp]
    by_cases he0 : e = 0
    case neg =>
      simp [he0]
      grind
    have hc : ¬ deep > 64 ∧ wrongT t = 0 ∧ ¬ k + 1 > 4096 := by grind
    simp [he0, hc]
    have hl := iterL_list (f := terms_walk_h_terms_Check_1_l4 (terms_walk_h_terms_Check_1L n) n) t.kids (fun i (s : Int × Int) => [eI deep, rowD 4 t.nl (Tm.rows t.kids), eI t.kids.length, eI (i : Int), eI s.1, eI s.2])
      (fun r (s : Int × Int) => if (chkL r (deep + 1) s.1).1 = 0 then (Sum.inl [eI (chkL r (deep + 1) s.1).2, eI 0] : List D ⊕ List D) else .inr [eB false, eI (chkL r (deep + 1) s.1).2, eI (chkL r (deep + 1) s.1).1])
      (fun i s => 0 ≤ s.1 ∧ s.1 ≤ 4096 ∧ s.2 = 0) ?_ ?_ n 0 (k + 1, 0) ⟨by simp; omega, by simp; omega, rfl⟩ (by have := t.sz_len; omega) (Nat.zero_le _)
    · have e0 : (eI ((0 : Nat) : Int)) = eI 0 := rfl
      rw [e0] at hl
      rw [hl]
      simp only [List.drop_zero, obind_s]
      by_cases h0 : (chkL t.kids (deep + 1) (k + 1)).1 = 0
      · simp [h0]
      · simp [h0]
    · intro s hs
      simp [terms_walk_h_terms_Check_1_l4, chkL, hs.2.2]
    · intro i a s ha hi hs
      have hm := List.mem_of_getElem? ha
      have hz := Tm.sz_kid hm
      have hlen := hok.len
      have hr := terms_walk_Check_ok n a (deep + 1) s.1 s.2 (by omega) (hok.kid hm) (by omega) (by omega) hs.1 hs.2.1
      have hpos := chk_pos a (deep + 1) s.1
      simp [terms_walk_h_terms_Check_1_l4, hi, Tm.ixP_kid ha,  add1i (bt := false) (i := deep) (by omega) (by omega), hr, add1 (bt := false) (i := i) (by omega), chkL]
      by_cases h0 : (chk a (deep + 1) s.1).1 = 0
      · left
        exact ⟨(chk a (deep + 1) s.1).2, 0, by simp [h0], by simp [h0], by omega, hpos.2 h0, rfl⟩
      · right
        simp [h0]
theorem terms_Check_ok (n : Nat) (t : Tm) (hn : t.sz < n) (hok : t.Ok) : terms_CheckL n [t.d] = some (eI (chk t 1 0).1) := by
  have := terms_walk_Check_ok n t 1 0 0 hn hok (by omega) (by omega) (by omega) (by omega)
  simp [terms_CheckL, terms_Check, this]
end Go.Am
namespace Go.Am
set_option linter.unusedVariables false
set_option linter.unusedSimpArgs false
/-! ### Types -/
structure Y where
  b : Bool
  lo : Int
  hi : Int
deriving DecidableEq
def Y.cells (y : Y) : List D := [eB y.b, eI y.lo, eI y.hi]
def Y.d (y : Y) : D := .agg [eB y.b, eI y.lo, eI y.hi]
def Y0 : Y := ⟨false, 0, 0⟩
def YB : Y := ⟨true, 0, 0⟩
def Y.good (y : Y) : Prop := (y.b = true → y.lo = 0 ∧ y.hi = 0) ∧ -1048576 ≤ y.lo ∧ y.lo ≤ y.hi ∧ y.hi ≤ 1048576
theorem Y.d_cells (y : Y) : D.agg y.cells = y.d := rfl
@[simp] theorem Y.aggP_d (y : Y) : aggP 3 y.d = true := rfl
@[simp] theorem Y.c0 (y : Y) : celD y.d 0 = eB y.b := rfl
@[simp] theorem Y.c1 (y : Y) : celD y.d 1 = eI y.lo := rfl
@[simp] theorem Y.c2 (y : Y) : celD y.d 2 = eI y.hi := rfl
@[simp] theorem Y.agg_d (y : Y) : D.agg [eB y.b, eI y.lo, eI y.hi] = y.d := rfl
@[simp high] theorem Y.atP (y : Y) : Go.Am.atP true 3 0 y.cells = some y.d := rfl
@[simp] theorem Y.at0 (y : Y) : y.cells[0]? = some (eB y.b) := rfl
@[simp] theorem Y.at1 (y : Y) : y.cells[1]? = some (eI y.lo) := rfl
@[simp] theorem Y.at2 (y : Y) : y.cells[2]? = some (eI y.hi) := rfl
@[simp] theorem Y.flat (y : Y) : y.d.flat = true := rfl
@[simp] theorem flat_tupY (y : Y) (e : Int) : (D.tup [y.d, eI e]).flat = true := rfl
def spanY (lo hi : Int) : Y × Int := if lo < -1048576 ∨ hi > 1048576 ∨ lo > hi ∨ hi - lo > 4096 then (Y0, 2) else (⟨false, lo, hi⟩, 0)
theorem spanY_good {lo hi : Int} (h : (spanY lo hi).2 = 0) : (spanY lo hi).1.good := by
  unfold spanY at *
  split at h
  · cases h
  · rename_i hc
    rw [if_neg hc]
    exact ⟨by simp, by simp; omega, by simp; omega, by simp; omega⟩
theorem Y.d_ite {c : Prop} [Decidable c] {a b : Y} : (if c then a else b).d = if c then a.d else b.d := by split <;> rfl
theorem spanY_D (lo hi : Int) : (D.tup [(spanY lo hi).1.d, eI (spanY lo hi).2]) = if lo < -1048576 ∨ hi > 1048576 ∨ lo > hi ∨ hi - lo > 4096 then D.tup [.agg [eB false, eI 0, eI 0], eI 2] else D.tup [.agg [eB false, eI lo, eI hi], eI 0] := by
  unfold spanY; split <;> rfl
theorem terms_span_ok (n : Nat) (lo hi : Int) : terms_spanL n [eI lo, eI hi] = some (.tup [(spanY lo hi).1.d, eI (spanY lo hi).2]) := by
  rw [spanY_D]
  have h4 : -1048576 ≤ lo → hi ≤ 1048576 → lo ≤ hi → IntKind.i64.wrap (hi - lo) = hi - lo := fun _ _ _ => wrap64 _ (by omega) (by omega)
  simp [terms_spanL, terms_span, b_subw, -ite_tup, -ite_some]
  grind
theorem ref30_numbers_ok (n : Nat) (lo hi : Int) : ref30_numbersL n [eI lo, eI hi] = some (.tup [(spanY lo hi).1.d, eI (spanY lo hi).2]) := by
  have hw : IntKind.i64.wrap (-1048576) = -1048576 := by decide
  rw [spanY_D]
  have h4 : -1048576 ≤ lo → hi ≤ 1048576 → lo ≤ hi → IntKind.i64.wrap (hi - lo) = hi - lo := fun _ _ _ => wrap64 _ (by omega) (by omega)
  simp [ref30_numbersL, ref30_numbers, b_subw, hw, -ite_tup, -ite_some]
  grind
theorem row_get {α : Type} {f : α → List D} {l : List α} {i : Nat} {a : α} (h : l[i]? = some a) : (l.map f)[i]? = some (f a) := by simp [h]
/-- Rows of types. -/
def eYs (l : List Y) : D := .sl 3 (l.map Y.cells)
theorem eYs_ix {l : List Y} {i : Nat} {y : Y} (h : l[i]? = some y) : ixP 3 (eYs l) (eI (i : Int)) = some y.cells := by simp [eYs, h]
theorem terms_truths_ok (n : Nat) (l : List Y) (hn : l.length < n) (hl : l.length < 1000000000) : terms_truthsL n [eYs l] = some (.tup [(if l.all Y.b then YB else Y0).d, eI (if l.all Y.b then 0 else 13)]) := by
  have hi := iterL_list (f := terms_truths_l2 n) l (fun i (s : Unit) => [eYs l, eI l.length, eI (i : Int), eB false, eI 0, eI 0]) (fun r _ => if r.all Y.b then (Sum.inl [eB false, eI 0, eI 0] : List D ⊕ D) else .inr (.tup [Y0.d, eI 13])) (fun _ _ => True)
    (fun _ _ => by simp [terms_truths_l2]) ?_ n 0 () trivial (by omega) (Nat.zero_le _)
  · have e0 : (eI ((0 : Nat) : Int)) = eI 0 := rfl
    rw [e0] at hi
    have hlen : lenP (eYs l) = some (eI l.length) := by simp [eYs]
    simp only [terms_truthsL, terms_truths, hlen, obind_s, hi, List.drop_zero]
    by_cases h : l.all Y.b = true
    · simp only [h, if_true, jnX_l]; rfl
    · simp only [h, Bool.false_eq_true, if_false, jnX_r]
  · intro i a _ ha hi _
    have := eYs_ix ha
    cases hb : a.b
    · right; simp [terms_truths_l2, hi, this, add1 (bt := false) (i := i) (by omega), hb]; rfl
    · left; exact ⟨(), by simp [terms_truths_l2, hi, this, add1 (bt := false) (i := i) (by omega), hb], by simp [hb], trivial⟩
theorem ref30_truths_ok (n : Nat) (l : List Y) (hn : l.length < n) (hl : l.length < 1000000000) : ref30_truthsL n [eYs l] = some (eB (l.all Y.b)) := by
  have hlen : lenP (eYs l) = some (eI l.length) := by simp [eYs]
  have hi := iterL_list (f := ref30_truths_l2 n) l (fun i (s : Unit) => [eYs l, eI (i : Int)]) (fun r _ => if r.all Y.b then (Sum.inl [] : List D ⊕ D) else .inr (eB false)) (fun _ _ => True)
    (fun _ _ => by simp [ref30_truths_l2, hlen]) ?_ n 0 () trivial (by omega) (Nat.zero_le _)
  · have e0 : (eI ((0 : Nat) : Int)) = eI 0 := rfl
    rw [e0] at hi
    simp only [ref30_truthsL, ref30_truths, obind_s, hi, List.drop_zero]
    by_cases h : l.all Y.b = true
    · simp only [h, if_true, jnX_l, obind_s]
    · simp only [h, Bool.false_eq_true, if_false, jnX_r, obind_s]
  · intro i a _ ha hi _
    have := eYs_ix ha
    cases hb : a.b
    · right; simp [ref30_truths_l2, hlen, hi, this, add1 (bt := false) (i := i) (by omega), hb]
    · left; exact ⟨(), by simp [ref30_truths_l2, hlen, hi, this, add1 (bt := false) (i := i) (by omega), hb], by simp [hb], trivial⟩
def mn (a b : Int) : Int := if b < a then b else a
def mx (a b : Int) : Int := if b > a then b else a
theorem mm2_max (a b : Int) : mmP true [eI a, eI b] = some (eI (mx a b)) := mm_max a b
theorem mm2_min (a b : Int) : mmP false [eI a, eI b] = some (eI (mn a b)) := mm_min a b
theorem mm4_max (a b c d : Int) : mmP true [eI a, eI b, eI c, eI d] = some (eI (mx (mx (mx a b) c) d)) := rfl
theorem mm4_min (a b c d : Int) : mmP false [eI a, eI b, eI c, eI d] = some (eI (mn (mn (mn a b) c) d)) := rfl
theorem mul_bd {x y : Int} (hx : -1048576 ≤ x ∧ x ≤ 1048576) (hy : -1048576 ≤ y ∧ y ≤ 1048576) : -1099511627776 ≤ x * y ∧ x * y ≤ 1099511627776 := by
  have h1 : x.natAbs ≤ 1048576 := by omega
  have h2 : y.natAbs ≤ 1048576 := by omega
  have h3 : (x * y).natAbs ≤ 1048576 * 1048576 := by rw [Int.natAbs_mul]; exact Nat.mul_le_mul h1 h2
  omega
def mulLo (a b : Y) : Int := mn (mn (mn (a.lo * b.lo) (a.lo * b.hi)) (a.hi * b.lo)) (a.hi * b.hi)
def mulHi (a b : Y) : Int := mx (mx (mx (a.lo * b.lo) (a.lo * b.hi)) (a.hi * b.lo)) (a.hi * b.hi)
def reckY (op : Int) (a b : Y) : Y × Int := if op = 15 then spanY (a.lo - b.hi) (a.hi - b.lo) else if op = 14 then spanY (a.lo + b.lo) (a.hi + b.hi) else spanY (mulLo a b) (mulHi a b)
theorem terms_reckoned_ok (n : Nat) (op : Int) (a b : Y) (ha : a.good) (hb : b.good) : terms_reckonedL n [eI op, a.d, b.d] = some (.tup [(reckY op a b).1.d, eI (reckY op a b).2]) := by
  obtain ⟨_, a1, a2, a3⟩ := ha
  obtain ⟨_, b1, b2, b3⟩ := hb
  have n1 : IntKind.i64.wrap (-b.hi) = -b.hi := wrap64 _ (by omega) (by omega)
  have n2 : IntKind.i64.wrap (-b.lo) = -b.lo := wrap64 _ (by omega) (by omega)
  by_cases h1 : op = 15
  · subst h1
    have e1 : a.lo + -b.hi = a.lo - b.hi := by omega
    have e2 : a.hi + -b.lo = a.hi - b.lo := by omega
    simp (disch := omega) [terms_reckonedL, terms_reckoned, reckY, n1, n2, b_add, terms_span_ok, e1, e2]
  by_cases h2 : op = 14
  · subst h2
    simp (disch := omega) [terms_reckonedL, terms_reckoned, reckY, b_add, terms_span_ok]
  have m1 := mul_bd (x := a.lo) (y := b.lo) (by omega) (by omega)
  have m2 := mul_bd (x := a.lo) (y := b.hi) (by omega) (by omega)
  have m3 := mul_bd (x := a.hi) (y := b.lo) (by omega) (by omega)
  have m4 := mul_bd (x := a.hi) (y := b.hi) (by omega) (by omega)
  simp (disch := omega) [terms_reckonedL, terms_reckoned, reckY, h1, h2, b_mul, terms_span_ok, mm4_max, mm4_min, mulLo, mulHi]
theorem ref30_products_ok (n : Nat) (a b : Y) (hn : 6 ≤ n) (ha : a.good) (hb : b.good) : ref30_productsL n [a.d, b.d] = some (.tup [eI (mulLo a b), eI (mulHi a b)]) := by
  obtain ⟨_, a1, a2, a3⟩ := ha
  obtain ⟨_, b1, b2, b3⟩ := hb
  have m1 := mul_bd (x := a.lo) (y := b.lo) (by omega) (by omega)
  have m2 := mul_bd (x := a.lo) (y := b.hi) (by omega) (by omega)
  have m3 := mul_bd (x := a.hi) (y := b.lo) (by omega) (by omega)
  have m4 := mul_bd (x := a.hi) (y := b.hi) (by omega) (by omega)
  obtain ⟨k, rfl⟩ : ∃ k, n = k + 4 := ⟨n - 4, by omega⟩
  have p0 : numP 4 (eI 0) = some 0 := rfl
  have p1 : numP 4 (eI 1) = some 1 := rfl
  have p2 : numP 4 (eI 2) = some 2 := rfl
  have p3 : numP 4 (eI 3) = some 3 := rfl
  unfold mulLo mulHi
  simp (disch := omega) [ref30_productsL, ref30_products, b_mul, p0]
  generalize a.lo * b.lo = w at *
  generalize a.lo * b.hi = x at *
  generalize a.hi * b.lo = y at *
  generalize a.hi * b.hi = z at *
  have mid : mn w x = mn w x := rfl
  have step : ∀ (p q : Int) (i j : Int) (r : Int), i + 1 = j → (numP 4 (eI i) = some i.toNat) → i < 4 → 0 ≤ i → ([[eI w], [eI x], [eI y], [eI z]] : List (List D))[i.toNat]? = some [eI r] →
      ref30_products_l4 (k + 4) [eI p, eI q, eI i, .sl 1 [[eI w], [eI x], [eI y], [eI z]]] = some (.inl [eI (mn p r), eI (mx q r), eI j, .sl 1 [[eI w], [eI x], [eI y], [eI z]]]) := by
    intro p q i j r h0 h1 h2 h3 h4
    subst h0
    simp (disch := omega) [ref30_products_l4, h1, h2, h4, mm2_max, mm2_min, b_add]
  rw [iterL_s, step w w 1 2 x rfl rfl (by omega) (by omega) rfl]
  simp only [obind_s]
  rw [iterL_s, step _ _ 2 3 y rfl rfl (by omega) (by omega) rfl]
  simp only [obind_s]
  rw [iterL_s, step _ _ 3 4 z rfl rfl (by omega) (by omega) rfl]
  simp only [obind_s]
  rw [iterL_s]
  simp [ref30_products_l4]
/-! ### Valid terms -/
def Valid (t : Tm) : Prop := ∃ deep k : Int, (chk t deep k).1 = 0
theorem Valid.wrong {t : Tm} (h : Valid t) : wrongT t = 0 := by
  obtain ⟨deep, k, h⟩ := h
  rw [chk_eq] at h
  split at h
  · cases h
  split at h
  · assumption
  · rename_i hc; simpa using hc
theorem chkL_kid : ∀ (l : List Tm) (deep k : Int), (chkL l deep k).1 = 0 → ∀ x ∈ l, Valid x
  | [], _, _, _, x, hx => by cases hx
  | a :: r, deep, k, h, x, hx => by
    rw [chkL] at h
    split at h
    · rename_i hc; exact absurd h hc
    · rename_i hc
      rcases List.mem_cons.1 hx with rfl | hx
      · exact ⟨deep, k, by simpa using hc⟩
      · exact chkL_kid r deep _ h x hx
theorem Valid.kid {t x : Tm} (h : Valid t) (hx : x ∈ t.kids) : Valid x := by
  have hw := h.wrong
  obtain ⟨deep, k, h⟩ := h
  rw [chk_eq] at h
  split at h
  · cases h
  split at h
  · rename_i hc; exact absurd hw hc
  split at h
  · cases h
  · exact chkL_kid _ _ _ h x hx
theorem Valid.op {t : Tm} (h : Valid t) : 1 ≤ t.op ∧ t.op ≤ 18 := by
  have hw := h.wrong
  unfold wrongT at hw
  split at hw
  · cases hw
  · rename_i hc
    unfold kidsOf at hc
    refine Classical.byContradiction fun hn => ?_
    simp only [show ¬ (t.op = 1 ∨ t.op = 2 ∨ t.op = 3 ∨ t.op = 4) by omega, show ¬ t.op = 5 by omega, show ¬ (t.op = 6 ∨ t.op = 7) by omega, show ¬ t.op = 18 by omega, show (t.op < 1 ∨ t.op > 18) by omega, if_true, if_false] at hc
    exact hc (by decide)
theorem wrong0 {t : Tm} (hw : wrongT t = 0) : ¬ (kidsOf t.op).1 < 0 ∧ ¬ ((t.num < (if t.op = 1 then -255 else 0)) ∨ t.num > (if t.op = 1 then 255 else if t.op = 2 then 1 else 0)) ∧
    ¬ (if namedOp t.op then t.name = ⟨#[]⟩ ∨ t.name.size > 24 else t.name ≠ ⟨#[]⟩) ∧ ¬ ((t.kids.length : Int) < (kidsOf t.op).1 ∨ (t.kids.length : Int) > (kidsOf t.op).2) := by
  unfold wrongT at hw
  by_cases h1 : (kidsOf t.op).1 < 0
  · rw [if_pos h1] at hw; cases hw
  rw [if_neg h1] at hw
  by_cases h2 : (t.num < (if t.op = 1 then -255 else 0)) ∨ t.num > (if t.op = 1 then 255 else if t.op = 2 then 1 else 0)
  · rw [if_pos h2] at hw; cases hw
  rw [if_neg h2] at hw
  by_cases h3 : (if namedOp t.op then t.name = ⟨#[]⟩ ∨ t.name.size > 24 else t.name ≠ ⟨#[]⟩)
  · rw [if_pos h3] at hw; cases hw
  rw [if_neg h3] at hw
  by_cases h4 : ((t.kids.length : Int) < (kidsOf t.op).1 ∨ (t.kids.length : Int) > (kidsOf t.op).2)
  · rw [if_pos h4] at hw; cases hw
  exact ⟨h1, h2, h3, h4⟩
theorem Valid.len {t : Tm} (h : Valid t) : (kidsOf t.op).1 ≤ t.kids.length ∧ (t.kids.length : Int) ≤ (kidsOf t.op).2 := by
  have := (wrong0 h.wrong).2.2.2
  omega
theorem Valid.num {t : Tm} (h : Valid t) : -255 ≤ t.num ∧ t.num ≤ 255 ∧ (t.op ≠ 1 → 0 ≤ t.num ∧ t.num ≤ 1) ∧ (t.op ≠ 1 → t.op ≠ 2 → t.num = 0) := by
  have h2 := (wrong0 h.wrong).2.1
  by_cases c1 : t.op = 1
  · simp only [c1, if_true] at h2; exact ⟨by omega, by omega, by omega, by omega⟩
  · by_cases c2 : t.op = 2
    · simp only [c1, c2, if_true, if_false] at h2; exact ⟨by omega, by omega, by omega, by omega⟩
    · simp only [c1, c2, if_false] at h2; exact ⟨by omega, by omega, by omega, by omega⟩
/-- The type of a part from the types of its kids. -/
def joinY (t : Tm) (l : List Y) : Y × Int :=
  if 5 ≤ t.op ∧ t.op ≤ 9 then if l.all Y.b then (YB, 0) else (Y0, 13)
  else match l with
    | [a, b, c] => if (!a.b || (b.b != c.b)) then (Y0, 13) else if b.b then (YB, 0) else spanY (mn b.lo c.lo) (mx b.hi c.hi)
    | [a, b] => if t.op = 10 ∨ t.op = 11 then if a.b != b.b then (Y0, 13) else (YB, 0)
      else if (a.b || b.b) then (Y0, 13)
      else if t.op = 12 ∨ t.op = 13 then (YB, 0)
      else if t.op = 17 then (match t.kids[1]? with
        | some k => if k.op ≠ 1 ∨ k.num < 1 then (Y0, 2) else spanY 0 (k.num - 1)
        | none => (Y0, 0))
      else reckY t.op a b
    | _ => (Y0, 0)
def vD (v : V) : D := v.d
/-- The first variable of the name. -/
def leafY (vs : List V) (next : Bool) (t : Tm) : Y × Int :=
  if t.op = 1 then spanY t.num t.num else if t.op = 2 then (YB, 0)
  else match vs.find? (fun v => decide (v.name = t.name)) with
    | none => (Y0, 12)
    | some v => if (t.op == 4 && !next) then (Y0, 24) else if v.bool then (YB, 0) else spanY v.lo v.hi
theorem list3 {α : Type} {l : List α} (h : l.length = 3) : ∃ a b c, l = [a, b, c] := by
  match l, h with
  | [a, b, c], _ => exact ⟨a, b, c, rfl⟩
theorem list2 {α : Type} {l : List α} (h : l.length = 2) : ∃ a b, l = [a, b] := by
  match l, h with
  | [a, b], _ => exact ⟨a, b, rfl⟩
theorem kids3 {op : Int} (h : op = 18) : kidsOf op = (3, 3) := by subst h; rfl
theorem kids2 {op : Int} (h : 8 ≤ op ∧ op ≤ 17) : kidsOf op = (2, 2) := by
  unfold kidsOf
  rw [if_neg (by omega), if_neg (by omega), if_neg (by omega), if_neg (by omega), if_neg (by omega)]
theorem cellsD_at1 (t : Tm) : t.cells[0]? = some (eI t.op) ∧ t.cells[1]? = some (eI t.num) := by rw [Tm.cells_eq]; exact ⟨rfl, rfl⟩
theorem ixP_kid1 {l : List Tm} {b : Bool} {t : Tm} (h : l[1]? = some t) : ixP 4 (rowD 4 b (Tm.rows l)) (eI 1) = some t.cells := Tm.ixP_kid (i := 1) h
theorem eYs_0 {l : List Y} {y : Y} (h : l[0]? = some y) : ixP 3 (eYs l) (eI 0) = some y.cells := eYs_ix (i := 0) h
theorem eYs_1 {l : List Y} {y : Y} (h : l[1]? = some y) : ixP 3 (eYs l) (eI 1) = some y.cells := eYs_ix (i := 1) h
theorem eYs_2 {l : List Y} {y : Y} (h : l[2]? = some y) : ixP 3 (eYs l) (eI 2) = some y.cells := eYs_ix (i := 2) h
theorem nle_eq (a b : Bool) : ((!a) = true ∨ b = true) ↔ (!a || b) = true := by cases a <;> cases b <;> simp
set_option maxHeartbeats 1000000 in
theorem ref30_join_ok (n : Nat) (t : Tm) (l : List Y) (hv : Valid t) (hlt : l.length = t.kids.length) (hop : 5 ≤ t.op) (hg : ∀ y ∈ l, y.good) (hn : 100 < n) :
    ref30_joinL n [t.d, eYs l] = some (.tup [(joinY t l).1.d, eI (joinY t l).2]) := by
  have hv1 := hv.op
  have hlen := hv.len
  have c0 := Tm.cel0 t
  have c3 := Tm.cel3 t
  have ca := Tm.aggP_d t
  have fD : D.agg [eB false, eI 0, eI 0] = Y0.d := rfl
  have tD : D.agg [eB true, eI 0, eI 0] = YB.d := rfl
  have hk := kids2 (op := t.op)
  have hk3 := kids3 (op := t.op)
  have hlle : l.length ≤ 64 := by
    have : (kidsOf t.op).2 ≤ 64 := by unfold kidsOf; repeat (first | split | decide)
    omega
  have ht := ref30_truths_ok n l (by omega) (by omega)
  by_cases h1 : t.op ≤ 9
  · have e : joinY t l = if l.all Y.b then (YB, 0) else (Y0, 13) := by unfold joinY; rw [if_pos ⟨hop, h1⟩]
    rw [e]
    have hc : t.op = 5 ∨ t.op = 6 ∨ t.op = 7 ∨ t.op = 8 ∨ t.op = 9 := by omega
    generalize t.op = op at *
    generalize l.all Y.b = q at *
    rcases hc with rfl | rfl | rfl | rfl | rfl <;> simp [ref30_joinL, ref30_join, ca, c0, ht, fD, tD] <;> cases q <;> simp
  by_cases h2 : t.op = 18
  · rw [hk3 h2] at hlen
    obtain ⟨a, b, c, rfl⟩ := list3 (l := l) (by simp at hlen; omega)
    have g0 := eYs_0 (l := [a, b, c]) rfl
    have g1 := eYs_1 (l := [a, b, c]) rfl
    have g2 := eYs_2 (l := [a, b, c]) rfl
    unfold joinY
    generalize eYs [a, b, c] = L at *
    rw [if_neg (by omega)]
    simp [ref30_joinL, ref30_join, ca, c0, h2, g0, g1, g2, fD, tD, ref30_numbers_ok, mm2_max, mm2_min]
    cases a.b <;> cases b.b <;> cases c.b <;> (try simp)
  have h3 : 10 ≤ t.op ∧ t.op ≤ 17 := by omega
  rw [hk (by omega)] at hlen
  obtain ⟨a, b, rfl⟩ := list2 (l := l) (by simp at hlen; omega)
  have g0 := eYs_0 (l := [a, b]) rfl
  have g1 := eYs_1 (l := [a, b]) rfl
  have ga := hg a (by simp)
  have gb := hg b (by simp)
  have hp := ref30_products_ok n a b (by omega) ga gb
  obtain ⟨_, a1, a2, a3⟩ := ga
  obtain ⟨_, b1, b2, b3⟩ := gb
  unfold joinY
  generalize eYs [a, b] = L at *
  rw [if_neg (by omega)]
  obtain ⟨k0, k1, hks⟩ := list2 (l := t.kids) (by simp at hlen; omega)
  have gk := ixP_kid1 (l := t.kids) (b := t.nl) (t := k1) (by rw [hks]; rfl)
  have gv := (hv.kid (x := k1) (by rw [hks]; simp)).num
  have s1 : IntKind.i64.wrap (k1.num - 1) = k1.num - 1 := wrap64 _ (by omega) (by omega)
  have f5 : binP false .sub (eI k1.num) (eI 1) = some (eI (k1.num - 1)) := b_sub (by omega) (by omega)
  have f1 : binP false .add (eI a.lo) (eI b.lo) = some (eI (a.lo + b.lo)) := b_add (by omega) (by omega)
  have f2 : binP false .add (eI a.hi) (eI b.hi) = some (eI (a.hi + b.hi)) := b_add (by omega) (by omega)
  have f3 : binP false .sub (eI a.lo) (eI b.hi) = some (eI (a.lo - b.hi)) := b_sub (by omega) (by omega)
  have f4 : binP false .sub (eI a.hi) (eI b.lo) = some (eI (a.hi - b.lo)) := b_sub (by omega) (by omega)
  have hc : t.op = 10 ∨ t.op = 11 ∨ t.op = 12 ∨ t.op = 13 ∨ t.op = 14 ∨ t.op = 15 ∨ t.op = 16 ∨ t.op = 17 := by omega
  have q1 : (t.kids[1]?) = some k1 := by rw [hks]; rfl
  generalize t.op = op at *
  have hsm : ∀ x y : Int, spanY x y = spanY x y := fun _ _ => rfl
  rcases hc with rfl | rfl | rfl | rfl | rfl | rfl | rfl | rfl <;>
    cases hA : a.b <;> cases hB : b.b <;> simp [ref30_joinL, ref30_join, ca, c0, c3, g0, g1, gk, q1, fD, tD, ref30_numbers_ok, reckY, f1, f2, f3, f4, f5, hp, hA, hB]
  all_goals (by_cases z1 : k1.op = 1 <;> by_cases z2 : k1.num < 1 <;> simp [z1, z2])
theorem jmp_flat {r : Option D} {d : D} (h : r = some d) : obind r (fun x => some x) = some d := by rw [h]; rfl
set_option maxHeartbeats 2000000 in
theorem terms_part_ok (n : Nat) (V0 M : D) (t : Tm) (nx : Bool) (l : List Y) (hv : Valid t) (hlt : l.length = t.kids.length) (hop : 5 ≤ t.op) (hg : ∀ y ∈ l, y.good) (hn : 100 < n) :
    terms_partL n [V0, M, t.d, eB nx, eYs l] = some (.tup [(joinY t l).1.d, eI (joinY t l).2]) := by
  have hv1 := hv.op
  have hlen := hv.len
  have c0 := Tm.cel0 t
  have c3 := Tm.cel3 t
  have ca := Tm.aggP_d t
  have fD : D.agg [eB false, eI 0, eI 0] = Y0.d := rfl
  have tD : D.agg [eB true, eI 0, eI 0] = YB.d := rfl
  have hk := kids2 (op := t.op)
  have hk3 := kids3 (op := t.op)
  have hlle : l.length ≤ 64 := by
    have : (kidsOf t.op).2 ≤ 64 := by unfold kidsOf; repeat (first | split | decide)
    omega
  have ht := terms_truths_ok n l (by omega) (by omega)
  by_cases h1 : t.op ≤ 9
  · have e : joinY t l = if l.all Y.b then (YB, 0) else (Y0, 13) := by unfold joinY; rw [if_pos ⟨hop, h1⟩]
    rw [e]
    have hc : t.op = 5 ∨ t.op = 6 ∨ t.op = 7 ∨ t.op = 8 ∨ t.op = 9 := by omega
    generalize t.op = op at *
    generalize l.all Y.b = q at *
    rcases hc with rfl | rfl | rfl | rfl | rfl <;> simp [terms_partL, terms_part, ca, c0, ht, fD, tD] <;> cases q <;> simp
  by_cases h2 : t.op = 18
  · rw [hk3 h2] at hlen
    obtain ⟨a, b, c, rfl⟩ := list3 (l := l) (by simp at hlen; omega)
    have g0 := eYs_0 (l := [a, b, c]) rfl
    have g1 := eYs_1 (l := [a, b, c]) rfl
    have g2 := eYs_2 (l := [a, b, c]) rfl
    have gb := (hg b (by simp)).1
    unfold joinY
    generalize eYs [a, b, c] = L at *
    rw [if_neg (by omega)]
    simp [terms_partL, terms_part, ca, c0, h2, g0, g1, g2, fD, tD, terms_span_ok, mm2_max, mm2_min]
    obtain ⟨bb, blo, bhi⟩ := b
    cases a.b <;> cases bb <;> cases c.b <;> simp at gb ⊢
    obtain ⟨rfl, rfl⟩ := gb
    rfl
  have h3 : 10 ≤ t.op ∧ t.op ≤ 17 := by omega
  rw [hk (by omega)] at hlen
  obtain ⟨a, b, rfl⟩ := list2 (l := l) (by simp at hlen; omega)
  have g0 := eYs_0 (l := [a, b]) rfl
  have g1 := eYs_1 (l := [a, b]) rfl
  have ga := hg a (by simp)
  have gb := hg b (by simp)
  have hp := fun op => terms_reckoned_ok n op a b ga gb
  obtain ⟨_, a1, a2, a3⟩ := ga
  obtain ⟨_, b1, b2, b3⟩ := gb
  unfold joinY
  generalize eYs [a, b] = L at *
  rw [if_neg (by omega)]
  obtain ⟨k0, k1, hks⟩ := list2 (l := t.kids) (by simp at hlen; omega)
  have gk := ixP_kid1 (l := t.kids) (b := t.nl) (t := k1) (by rw [hks]; rfl)
  have gv := (hv.kid (x := k1) (by rw [hks]; simp)).num
  have s1 : IntKind.i64.wrap (k1.num - 1) = k1.num - 1 := wrap64 _ (by omega) (by omega)
  have f5 : binP false .sub (eI k1.num) (eI 1) = some (eI (k1.num - 1)) := b_sub (by omega) (by omega)
  have f1 : binP false .add (eI a.lo) (eI b.lo) = some (eI (a.lo + b.lo)) := b_add (by omega) (by omega)
  have f2 : binP false .add (eI a.hi) (eI b.hi) = some (eI (a.hi + b.hi)) := b_add (by omega) (by omega)
  have f3 : binP false .sub (eI a.lo) (eI b.hi) = some (eI (a.lo - b.hi)) := b_sub (by omega) (by omega)
  have f4 : binP false .sub (eI a.hi) (eI b.lo) = some (eI (a.hi - b.lo)) := b_sub (by omega) (by omega)
  have hc : t.op = 10 ∨ t.op = 11 ∨ t.op = 12 ∨ t.op = 13 ∨ t.op = 14 ∨ t.op = 15 ∨ t.op = 16 ∨ t.op = 17 := by omega
  have q1 : (t.kids[1]?) = some k1 := by rw [hks]; rfl
  generalize t.op = op at *
  have hsm : ∀ x y : Int, spanY x y = spanY x y := fun _ _ => rfl
  rcases hc with rfl | rfl | rfl | rfl | rfl | rfl | rfl | rfl <;>
    cases hA : a.b <;> cases hB : b.b <;> simp [terms_partL, terms_part, ca, c0, c3, g0, g1, gk, q1, fD, tD, terms_span_ok, hp, f1, f2, f3, f4, f5, hA, hB]
  all_goals (by_cases z1 : k1.op = 1 <;> by_cases z2 : k1.num < 1 <;> simp [z1, z2])
end Go.Am
namespace Go.Am
set_option linter.unusedVariables false
set_option linter.unusedSimpArgs false
/-! ### Names of variables -/
def idxV (vs : List V) (x : ByteArray) : Option Nat := vs.findIdx? (fun v => decide (v.name = x))
theorem idxV_lt {vs : List V} {x : ByteArray} {i : Nat} (h : idxV vs x = some i) : ∃ v, vs[i]? = some v ∧ v.name = x ∧ i < vs.length := by
  obtain ⟨h1, h2, _⟩ := List.findIdx?_eq_some_iff_getElem.1 h
  exact ⟨_, List.getElem?_eq_getElem h1, by simpa using h2, h1⟩
theorem V.atc (v : V) : v.cells[0]? = some (eS v.name) ∧ v.cells[1]? = some (eB v.bool) ∧ v.cells[2]? = some (eI v.lo) ∧ v.cells[3]? = some (eI v.hi) := ⟨rfl, rfl, rfl, rfl⟩
theorem eVs_ix {l : List V} {i : Nat} {v : V} (h : l[i]? = some v) : ixP 4 (eVs l) (eI (i : Int)) = some v.cells := by simp [eVs, h]
theorem eVs_len (l : List V) : lenP (eVs l) = some (eI l.length) := by simp [eVs]
theorem V.dat (v : V) : atP true 4 0 v.cells = some v.d ∧ aggP 4 v.d = true ∧ celD v.d 0 = eS v.name := ⟨rfl, rfl, rfl⟩
def nmM : List V → Nat → List (Value × D) → List (Value × D)
  | [], _, M => M
  | v :: r, i, M => nmM r (i + 1) (if (getS M v.name).isSome then M else (putP .string M (eS v.name) (eI i)).getD [])
theorem nmM_ok : ∀ (r : List V) (i : Nat) (M : List (Value × D)), SM M → SM (nmM r i M) ∧ ∀ x, getS (nmM r i M) x = match getS M x with
    | some d => some d
    | none => (idxV r x).map fun j => eI ((i + j : Nat) : Int)
  | [], i, M, h => ⟨h, fun x => by simp only [nmM, idxV, List.findIdx?_nil]; cases getS M x <;> rfl⟩
  | v :: r, i, M, h => by
    rw [nmM]
    have e : ∀ x, idxV (v :: r) x = if v.name = x then some 0 else (idxV r x).map (· + 1) := by
      intro x; simp [idxV, List.findIdx?_cons]
    by_cases hs : (getS M v.name).isSome
    · rw [if_pos hs]
      obtain ⟨h1, h2⟩ := nmM_ok r (i + 1) M h
      refine ⟨h1, fun x => ?_⟩
      rw [h2 x, e x]
      cases hx : getS M x with
      | some d => rfl
      | none =>
        have hne : ¬ v.name = x := by rintro rfl; simp [hx] at hs
        simp only [hne, if_false, Option.map_map]
        congr 1
        funext j
        simp only [Function.comp]
        congr 2
        omega
    · rw [if_neg hs]
      obtain ⟨M', p1, p2, p3, _⟩ := putS h v.name (eI i)
      rw [p1, Option.getD_some]
      obtain ⟨h1, h2⟩ := nmM_ok r (i + 1) M' p2
      refine ⟨h1, fun x => ?_⟩
      rw [h2 x, p3 x, e x]
      by_cases hx : x = v.name
      · subst hx
        have hn : getS M v.name = none := by simpa using hs
        simp [hn]
      · have hne : ¬ v.name = x := fun h => hx h.symm
        simp only [hx, hne, if_false]
        cases hg : getS M x with
        | some d => rfl
        | none =>
          simp only [Option.map_map]
          congr 1
          funext j
          simp only [Function.comp]
          congr 2
          omega
def NM (M : List (Value × D)) (vs : List V) : Prop := SM M ∧ ∀ x, getS M x = (idxV vs x).map fun (j : Nat) => eI (j : Int)
theorem terms_names_ok (n : Nat) (vs : List V) (hn : vs.length < n) (hl : vs.length < 1000000000000) : ∃ M, terms_namesL n [eVs vs] = some (.mp M) ∧ NM M vs := by
  have h0 : SM [] := by intro e he; cases he
  obtain ⟨h1, h2⟩ := nmM_ok vs 0 [] h0
  refine ⟨nmM vs 0 [], ?_, h1, fun x => by rw [h2 x]; simp only [getS, Nat.zero_add]⟩
  have hi := iterL_list (f := terms_names_l3 n) vs (fun i (M : List (Value × D)) => [eVs vs, eI vs.length, eI (i : Int), .mp M]) (fun r M => (Sum.inl [.mp (nmM r (vs.length - r.length) M)] : List D ⊕ D)) (fun i M => SM M)
    (fun M _ => by simp [terms_names_l3, nmM]) ?_ n 0 [] h0 (by omega) (Nat.zero_le _)
  · have e0 : (eI ((0 : Nat) : Int)) = eI 0 := rfl
    rw [e0] at hi
    simp [terms_namesL, terms_names, eVs_len, hi]
  · intro i a M ha hi hM
    left
    have e : vs.length - (a :: vs.drop (i + 1)).length = i := by simp; omega
    have e' : vs.length - (vs.drop (i + 1)).length = i + 1 := by simp; omega
    have h3 := lookS1 hM (z := .int .i64 0) (x := a.name)
    have ac := a.dat
    cases hg : getS M a.name with
    | some d =>
      rw [hg] at h3
      refine ⟨M, by simp [terms_names_l3, hi, eVs_ix ha, ac, h3, add1 (bt := false) (i := i) (by omega)], ?_, hM⟩
      rw [e, nmM, hg, e']
      rfl
    | none =>
      rw [hg] at h3
      obtain ⟨M', p1, p2, p3, _⟩ := putS hM a.name (eI i)
      refine ⟨M', by simp [terms_names_l3, hi, eVs_ix ha, ac, h3, p1, add1 (bt := false) (i := i) (by omega)], ?_, p2⟩
      rw [e, nmM, hg, e']
      simp only [Option.isSome_none, Bool.false_eq_true, if_false, p1, Option.getD_some]
theorem ref30_Index_ok (n : Nat) (vs : List V) (x : ByteArray) (hn : vs.length < n) (hl : vs.length < 1000000000000) : ref30_IndexL n [eVs vs, eS x] = some (eI (match idxV vs x with | some i => (i : Int) | none => -1)) := by
  have hi := iterL_list (f := ref30_Index_l2 n) vs (fun i (_ : Unit) => [eVs vs, eS x, eI (i : Int)]) (fun r _ => match idxV r x with
    | some j => (Sum.inr (eI ((vs.length - r.length + j : Nat) : Int)) : List D ⊕ D)
    | none => .inl []) (fun _ _ => True)
    (fun _ _ => by simp [ref30_Index_l2, eVs_len, idxV]) ?_ n 0 () trivial (by omega) (Nat.zero_le _)
  · have e0 : (eI ((0 : Nat) : Int)) = eI 0 := rfl
    rw [e0] at hi
    simp only [ref30_IndexL, ref30_Index, hi, List.drop_zero, obind_s]
    cases idxV vs x <;> simp
  · intro i a _ ha hi _
    have e : vs.length - (a :: vs.drop (i + 1)).length = i := by simp; omega
    have e' : vs.length - (vs.drop (i + 1)).length = i + 1 := by simp; omega
    have ei : idxV (a :: vs.drop (i + 1)) x = if a.name = x then some 0 else (idxV (vs.drop (i + 1)) x).map (· + 1) := by simp [idxV, List.findIdx?_cons]
    have ac := a.atc
    by_cases hx : a.name = x
    · right
      rw [ei, if_pos hx, e]
      simp [ref30_Index_l2, eVs_len, hi, eVs_ix ha, ac, hx]
    · left
      refine ⟨(), by simp [ref30_Index_l2, eVs_len, hi, eVs_ix ha, ac, hx, add1 (bt := false) (i := i) (by omega)], ?_, trivial⟩
      rw [ei, if_neg hx, e, e']
      cases idxV (vs.drop (i + 1)) x with
      | none => rfl
      | some j => simp; omega
/-! ### Types of terms -/
/-- The type of a part without kids. -/
def leafV (vs : List V) (nx : Bool) (t : Tm) : Y × Int :=
  if t.op = 1 then spanY t.num t.num else if t.op = 2 then (YB, 0)
  else match idxV vs t.name with
    | none => (Y0, 12)
    | some i => if t.op = 4 ∧ nx = false then (Y0, 24) else match vs[i]? with
      | some v => if v.bool then (YB, 0) else spanY v.lo v.hi
      | none => (Y0, 12)
mutual
def typ (vs : List V) (nx : Bool) : Tm → Y × Int
  | .mk o n s b ks => if o ≤ 4 then leafV vs nx (.mk o n s b ks) else if (typL vs nx ks).2 ≠ 0 then (Y0, (typL vs nx ks).2) else joinY (.mk o n s b ks) (typL vs nx ks).1
def typL (vs : List V) (nx : Bool) : List Tm → List Y × Int
  | [] => ([], 0)
  | t :: r => if (typ vs nx t).2 ≠ 0 then ([], (typ vs nx t).2) else if (typL vs nx r).2 ≠ 0 then ([], (typL vs nx r).2) else ((typ vs nx t).1 :: (typL vs nx r).1, 0)
end
theorem typ_eq (vs : List V) (nx : Bool) (t : Tm) : typ vs nx t = if t.op ≤ 4 then leafV vs nx t else if (typL vs nx t.kids).2 ≠ 0 then (Y0, (typL vs nx t.kids).2) else joinY t (typL vs nx t.kids).1 := by
  cases t; rw [typ]; rfl
theorem YB_good : YB.good := ⟨by simp [YB], by simp [YB], by simp [YB], by simp [YB]⟩
theorem leafV_good {vs : List V} {nx : Bool} {t : Tm} (h : (leafV vs nx t).2 = 0) : (leafV vs nx t).1.good := by
  unfold leafV at *
  by_cases h1 : t.op = 1
  · rw [if_pos h1] at *; exact spanY_good h
  rw [if_neg h1] at *
  by_cases h2 : t.op = 2
  · rw [if_pos h2]; exact YB_good
  rw [if_neg h2] at *
  cases hi : idxV vs t.name with
  | none => simp [hi] at h
  | some i =>
    simp only [hi] at h ⊢
    by_cases h3 : t.op = 4 ∧ nx = false
    · simp [h3] at h
    rw [if_neg h3] at *
    cases hv : vs[i]? with
    | none => simp [hv] at h
    | some v =>
      simp only [hv] at h ⊢
      by_cases hb : v.bool = true
      · rw [if_pos hb]; exact YB_good
      · rw [if_neg hb] at *; exact spanY_good h
theorem reckY_good {op : Int} {a b : Y} (h : (reckY op a b).2 = 0) : (reckY op a b).1.good := by
  unfold reckY at *
  split at h
  · rename_i h1; rw [if_pos h1]; exact spanY_good h
  rename_i h1
  split at h
  · rename_i h2; rw [if_neg h1, if_pos h2]; exact spanY_good h
  · rename_i h2; rw [if_neg h1, if_neg h2]; exact spanY_good h
theorem ite_good {c : Prop} [Decidable c] {x y : Y × Int} (hx : x.2 = 0 → x.1.good ∨ x.1 = Y0) (hy : y.2 = 0 → y.1.good ∨ y.1 = Y0) : (if c then x else y).2 = 0 → (if c then x else y).1.good ∨ (if c then x else y).1 = Y0 := by
  split
  · exact hx
  · exact hy
theorem joinY_good {t : Tm} {l : List Y} : (joinY t l).2 = 0 → (joinY t l).1.good ∨ (joinY t l).1 = Y0 := by
  have z : ∀ e : Int, ((Y0, e) : Y × Int).2 = 0 → ((Y0, e) : Y × Int).1.good ∨ ((Y0, e) : Y × Int).1 = Y0 := fun _ _ => .inr rfl
  have y : ((YB, 0) : Y × Int).2 = 0 → ((YB, 0) : Y × Int).1.good ∨ ((YB, 0) : Y × Int).1 = Y0 := fun _ => .inl YB_good
  have sp : ∀ a b : Int, (spanY a b).2 = 0 → (spanY a b).1.good ∨ (spanY a b).1 = Y0 := fun a b h => .inl (spanY_good h)
  unfold joinY
  refine ite_good (ite_good y (z _)) ?_
  split
  · exact ite_good (z _) (ite_good y (sp _ _))
  · refine ite_good (ite_good (z _) y) (ite_good (z _) (ite_good y (ite_good ?_ (fun h => .inl (reckY_good h)))))
    split
    · exact ite_good (z _) (sp _ _)
    · exact z _
  · exact z _
theorem Y0_good : Y0.good := ⟨by simp [Y0], by simp [Y0], by simp [Y0], by simp [Y0]⟩
theorem typ_good (vs : List V) (nx : Bool) (t : Tm) (h : (typ vs nx t).2 = 0) : (typ vs nx t).1.good := by
  rw [typ_eq] at *
  split at h
  · rename_i hc; rw [if_pos hc]; exact leafV_good h
  rename_i hc
  rw [if_neg hc]
  split at h
  · rename_i h'; exact absurd h h'
  · rename_i h'; rw [if_neg h']; rcases joinY_good h with h1 | h1
    · exact h1
    · rw [h1]; exact Y0_good
theorem typL_len (vs : List V) (nx : Bool) : ∀ (l : List Tm), (typL vs nx l).2 = 0 → (typL vs nx l).1.length = l.length ∧ ∀ y ∈ (typL vs nx l).1, y.good
  | [], _ => ⟨rfl, by intro y hy; cases hy⟩
  | t :: r, h => by
    rw [typL] at *
    by_cases h1 : (typ vs nx t).2 = 0
    case neg => rw [if_pos h1] at h; exact absurd h h1
    rw [if_neg (by simpa using h1)] at *
    by_cases h2 : (typL vs nx r).2 = 0
    case neg => rw [if_pos h2] at h; exact absurd h h2
    rw [if_neg (by simpa using h2)]
    obtain ⟨g1, g2⟩ := typL_len vs nx r h2
    refine ⟨by simp [g1], fun y hy => ?_⟩
    rcases List.mem_cons.1 hy with rfl | hy
    · exact typ_good vs nx t h1
    · exact g2 y hy
theorem terms_leaf_ok (n : Nat) (vs : List V) (M : List (Value × D)) (t : Tm) (nx : Bool) (L : D) (hM : NM M vs) (h4 : t.op ≤ 4) (h1 : 1 ≤ t.op) :
    terms_partL n [eVs vs, .mp M, t.d, eB nx, L] = some (.tup [(leafV vs nx t).1.d, eI (leafV vs nx t).2]) := by
  have c0 := Tm.cel0 t
  have c1 := Tm.cel1 t
  have c2 := Tm.cel2 t
  have ca := Tm.aggP_d t
  have fD : D.agg [eB false, eI 0, eI 0] = Y0.d := rfl
  have tD : D.agg [eB true, eI 0, eI 0] = YB.d := rfl
  have hl := lookS1 hM.1 (z := .int .i64 0) (x := t.name)
  rw [hM.2] at hl
  unfold leafV
  have hc : t.op = 1 ∨ t.op = 2 ∨ t.op = 3 ∨ t.op = 4 := by omega
  have hent : entP (.mp M) = some M := rfl
  generalize t.op = op at *
  rcases hc with rfl | rfl | rfl | rfl
  · simp [terms_partL, terms_part, ca, c0, c1, fD, tD, terms_span_ok]
  · simp [terms_partL, terms_part, ca, c0, c1, fD, tD, terms_span_ok]
  · cases hi : idxV vs t.name with
    | none => rw [hi] at hl; simp [terms_partL, terms_part, ca, c0, c1, c2, fD, tD, hent, hl]
    | some i =>
      rw [hi] at hl
      obtain ⟨v, v1, v2, v3⟩ := idxV_lt hi
      simp [terms_partL, terms_part, ca, c0, c1, c2, fD, tD, hent, hl, v1, eVs_ix v1, v.atc, terms_span_ok]
      cases v.bool <;> simp
  · cases hi : idxV vs t.name with
    | none => rw [hi] at hl; simp [terms_partL, terms_part, ca, c0, c1, c2, fD, tD, hent, hl]
    | some i =>
      rw [hi] at hl
      obtain ⟨v, v1, v2, v3⟩ := idxV_lt hi
      simp [terms_partL, terms_part, ca, c0, c1, c2, fD, tD, hent, hl, v1, eVs_ix v1, v.atc, terms_span_ok]
      cases v.bool <;> cases nx <;> simp
end Go.Am
namespace Go.Am
set_option linter.unusedVariables false
set_option linter.unusedSimpArgs false
theorem Valid.leaf {t : Tm} (h : Valid t) (h4 : t.op ≤ 4) : t.kids = [] := by
  have h1 := h.op
  have h2 := h.len
  have : kidsOf t.op = (0, 0) := by unfold kidsOf; rw [if_pos (by omega)]
  rw [this] at h2
  exact List.eq_nil_of_length_eq_zero (by have := h2.2; simp only at this; omega)
theorem Valid.len64 {t : Tm} (h : Valid t) : t.kids.length ≤ 64 := by
  have h2 := h.len
  have : (kidsOf t.op).2 ≤ 64 := by unfold kidsOf; repeat (first | split | decide)
  omega
theorem room24 {a b : Nat} (h : a + b ≤ 1000) : roomP (a + b) 24 = true := roomP_ok (by omega) (by omega)
theorem terms_typed_ok (vs : List V) (M : List (Value × D)) (nx : Bool) (hM : NM M vs) : ∀ (n : Nat) (t : Tm), t.sz + 200 < n → t.Ok → Valid t →
    terms_typedL n [eVs vs, .mp M, t.d, eB nx] = some (.tup [(typ vs nx t).1.d, eI (typ vs nx t).2])
  | 0, t, h, _, _ => absurd h (Nat.not_lt_zero _)
  | n + 1, t, hn, hok, hv => by
    rw [typ_eq]
    have fD : D.agg [eB false, eI 0, eI 0] = Y0.d := rfl
    have h64 := hv.len64
    have hl := iterL_list (f := terms_typed_l3 (terms_typedL n) n) t.kids (fun i (s : List Y) => [eVs vs, .mp M, eB nx, rowD 4 t.nl (Tm.rows t.kids), eI t.kids.length, eI (i : Int), eI t.op, eI t.num, eS t.name, rowD 4 t.nl (Tm.rows t.kids), eB false, eI 0, eI 0, eYs s])
      (fun r s => if (typL vs nx r).2 = 0 then (Sum.inl [eVs vs, .mp M, eB nx, eI t.op, eI t.num, eS t.name, rowD 4 t.nl (Tm.rows t.kids), eB false, eI 0, eI 0, eYs (s ++ (typL vs nx r).1)] : List D ⊕ D) else .inr (.tup [Y0.d, eI (typL vs nx r).2]))
      (fun i s => s.length = i) ?_ ?_ n 0 [] rfl (by omega) (Nat.zero_le _)
    · have e0 : (eI ((0 : Nat) : Int)) = eI 0 := rfl
      have e1 : eYs [] = .sl 3 [] := rfl
      rw [e0, e1] at hl
      simp only [terms_typedL, terms_typed, Tm.aggP_d, Tm.cel0, Tm.cel1, Tm.cel2, Tm.cel3, og_t, lenP_row, Tm.rows_len, obind_s, hl, List.drop_zero, List.nil_append]
      by_cases h0 : (typL vs nx t.kids).2 = 0
      · obtain ⟨g1, g2⟩ := typL_len vs nx t.kids h0
        have e2 : ∀ l : List Y, D.sl 3 (esD (eYs l)) = eYs l := fun _ => rfl
        have hlf := fun h4 => terms_leaf_ok n vs M t nx (eYs (typL vs nx t.kids).1) hM h4 hv.op.1
        have hpt := fun h5 => terms_part_ok n (eVs vs) (.mp M) t nx _ hv g1 h5 g2 (by omega)
        by_cases h4 : t.op ≤ 4
        · simp [h0, e2, hlf h4, h4]
        · simp [h0, e2, hpt (by omega), h4]
      · have h4 : ¬ t.op ≤ 4 := fun h4 => h0 (by rw [hv.leaf h4]; rfl)
        simp [h0, h4]
    · intro s hs
      simp [terms_typed_l3, typL, eYs]
    · intro i a s ha hi hs
      have hm := List.mem_of_getElem? ha
      have hz := Tm.sz_kid hm
      have hr := terms_typed_ok vs M nx hM n a (by omega) (hok.kid hm) (hv.kid hm)
      have hrm : roomP (s.length + 1) 24 = true := room24 (by omega)
      have hstep : terms_typed_l3 (terms_typedL n) n [eVs vs, .mp M, eB nx, rowD 4 t.nl (Tm.rows t.kids), eI t.kids.length, eI (i : Int), eI t.op, eI t.num, eS t.name, rowD 4 t.nl (Tm.rows t.kids), eB false, eI 0, eI 0, eYs s] =
          if (typ vs nx a).2 = 0 then some (.inl [eVs vs, .mp M, eB nx, rowD 4 t.nl (Tm.rows t.kids), eI t.kids.length, eI ((i + 1 : Nat) : Int), eI t.op, eI t.num, eS t.name, rowD 4 t.nl (Tm.rows t.kids), eB false, eI 0, eI 0, eYs (s ++ [(typ vs nx a).1])])
          else some (.inr (.inr (.tup [Y0.d, eI (typ vs nx a).2]))) := by
        by_cases h0 : (typ vs nx a).2 = 0
        · simp [terms_typed_l3, hi, Tm.ixP_kid ha, hr, h0, add1 (bt := false) (i := i) (by omega), eYs, hrm]
          simp [Y.cells]
        · simp [terms_typed_l3, hi, Tm.ixP_kid ha, hr, h0, fD]
      rw [hstep]
      simp only [typL]
      by_cases h0 : (typ vs nx a).2 = 0
      · left
        refine ⟨s ++ [(typ vs nx a).1], by simp [h0], ?_, by simp [hs]⟩
        by_cases h1 : (typL vs nx (t.kids.drop (i + 1))).2 = 0
        · simp [h0, h1]
        · simp [h0, h1]
      · right
        simp [h0]
theorem ref30_typed_ok (vs : List V) (nx : Bool) (hvs : vs.length < 1000000000000) : ∀ (n : Nat) (t : Tm), t.sz + 200 + vs.length < n → t.Ok → Valid t →
    ref30_typedL n [eVs vs, t.d, eB nx] = some (.tup [(typ vs nx t).1.d, eI (typ vs nx t).2])
  | 0, t, h, _, _ => absurd h (Nat.not_lt_zero _)
  | n + 1, t, hn, hok, hv => by
    rw [typ_eq]
    have fD : D.agg [eB false, eI 0, eI 0] = Y0.d := rfl
    have tD : D.agg [eB true, eI 0, eI 0] = YB.d := rfl
    have h64 := hv.len64
    have hop := hv.op
    by_cases h4 : t.op ≤ 4
    · rw [if_pos h4]
      have c0 := Tm.cel0 t
      have c1 := Tm.cel1 t
      have c2 := Tm.cel2 t
      have c3 := Tm.cel3 t
      have ca := Tm.aggP_d t
      unfold leafV
      have hx := ref30_Index_ok n vs t.name (by omega) hvs
      have hc : t.op = 1 ∨ t.op = 2 ∨ t.op = 3 ∨ t.op = 4 := by omega
      generalize t.op = op at *
      rcases hc with rfl | rfl | rfl | rfl
      · simp [ref30_typedL, ref30_typed, ca, c0, c1, fD, tD, ref30_numbers_ok]
      · simp [ref30_typedL, ref30_typed, ca, c0, c1, fD, tD]
      · cases hi : idxV vs t.name with
        | none => rw [hi] at hx; simp [ref30_typedL, ref30_typed, ca, c0, c1, c2, c3, fD, tD, hx]
        | some i =>
          rw [hi] at hx
          obtain ⟨v, v1, v2, v3⟩ := idxV_lt hi
          have hnn : ¬ ((i : Int) < 0) := by omega
          simp [ref30_typedL, ref30_typed, ca, c0, c1, c2, c3, fD, tD, hx, hnn, v1, eVs_ix v1, v.atc, ref30_numbers_ok]
          cases v.bool <;> simp
      · cases hi : idxV vs t.name with
        | none => rw [hi] at hx; simp [ref30_typedL, ref30_typed, ca, c0, c1, c2, c3, fD, tD, hx]
        | some i =>
          rw [hi] at hx
          obtain ⟨v, v1, v2, v3⟩ := idxV_lt hi
          have hnn : ¬ ((i : Int) < 0) := by omega
          simp [ref30_typedL, ref30_typed, ca, c0, c1, c2, c3, fD, tD, hx, hnn, v1, eVs_ix v1, v.atc, ref30_numbers_ok]
          cases v.bool <;> cases nx <;> simp
    rw [if_neg h4]
    have hl := iterL_list (f := ref30_typed_l18 (ref30_typedL n) n) t.kids (fun i (s : List Y) => [eVs vs, eB nx, eI (i : Int), eI t.op, eI t.num, eS t.name, rowD 4 t.nl (Tm.rows t.kids), eB false, eI 0, eI 0, eYs s])
      (fun r s => if (typL vs nx r).2 = 0 then (Sum.inl [eI t.op, eI t.num, eS t.name, rowD 4 t.nl (Tm.rows t.kids), eB false, eI 0, eI 0, eYs (s ++ (typL vs nx r).1)] : List D ⊕ D) else .inr (.tup [Y0.d, eI (typL vs nx r).2]))
      (fun i s => s.length = i) ?_ ?_ n 0 [] rfl (by omega) (Nat.zero_le _)
    · have e0 : (eI ((0 : Nat) : Int)) = eI 0 := rfl
      have e1 : eYs [] = .sl 3 [] := rfl
      rw [e0, e1] at hl
      have b1 : (t.op == 1) = false := by simp; omega
      have b2 : (t.op == 2) = false := by simp; omega
      have b3 : (t.op == 3) = false := by simp; omega
      have b4 : (t.op == 4) = false := by simp; omega
      simp only [ref30_typedL, ref30_typed, Tm.aggP_d, Tm.cel0, Tm.cel1, Tm.cel2, Tm.cel3, og_t, b_eql, b1, b2, b3, b4, oif_b, Bool.false_eq_true, if_false, obind_s, jnX_l, pd_0, pd_s, hl, List.drop_zero, List.nil_append]
      by_cases h0 : (typL vs nx t.kids).2 = 0
      · obtain ⟨g1, g2⟩ := typL_len vs nx t.kids h0
        have e2 : ∀ l : List Y, D.sl 3 (esD (eYs l)) = eYs l := fun _ => rfl
        have hpt := ref30_join_ok n t _ hv g1 (by omega) g2 (by omega)
        simp [h0, e2, hpt]
      · simp [h0]
    · intro s hs
      simp [ref30_typed_l18, typL, eYs]
    · intro i a s ha hi hs
      have hm := List.mem_of_getElem? ha
      have hz := Tm.sz_kid hm
      have hr := ref30_typed_ok vs nx hvs n a (by omega) (hok.kid hm) (hv.kid hm)
      have hrm : roomP (s.length + 1) 24 = true := room24 (by omega)
      have hstep : ref30_typed_l18 (ref30_typedL n) n [eVs vs, eB nx, eI (i : Int), eI t.op, eI t.num, eS t.name, rowD 4 t.nl (Tm.rows t.kids), eB false, eI 0, eI 0, eYs s] =
          if (typ vs nx a).2 = 0 then some (.inl [eVs vs, eB nx, eI ((i + 1 : Nat) : Int), eI t.op, eI t.num, eS t.name, rowD 4 t.nl (Tm.rows t.kids), eB false, eI 0, eI 0, eYs (s ++ [(typ vs nx a).1])])
          else some (.inr (.inr (.tup [Y0.d, eI (typ vs nx a).2]))) := by
        by_cases h0 : (typ vs nx a).2 = 0
        · simp [ref30_typed_l18, hi, Tm.ixP_kid ha, hr, h0, add1 (bt := false) (i := i) (by omega), eYs, hrm]
          simp [Y.cells]
        · simp [ref30_typed_l18, hi, Tm.ixP_kid ha, hr, h0, fD]
      rw [hstep]
      simp only [typL]
      by_cases h0 : (typ vs nx a).2 = 0
      · left
        refine ⟨s ++ [(typ vs nx a).1], by simp [h0], ?_, by simp [hs]⟩
        by_cases h1 : (typL vs nx (t.kids.drop (i + 1))).2 = 0
        · simp [h0, h1]
        · simp [h0, h1]
      · right
        simp [h0]
/-- What Type answers. -/
def typeR (vs : List V) (nx : Bool) (t : Tm) : Y × Int := if (chk t 1 0).1 ≠ 0 then (Y0, (chk t 1 0).1) else typ vs nx t
theorem terms_Type_ok (n : Nat) (vs : List V) (t : Tm) (nx : Bool) (hn : t.sz + 200 + vs.length < n) (hok : t.Ok) (hvs : vs.length < 1000000000000) :
    terms_TypeL n [eVs vs, t.d, eB nx] = some (.tup [(typeR vs nx t).1.d, eI (typeR vs nx t).2]) := by
  have hc := terms_Check_ok n t (by omega) hok
  obtain ⟨M, m1, m2⟩ := terms_names_ok n vs (by omega) hvs
  have fD : D.agg [eB false, eI 0, eI 0] = Y0.d := rfl
  unfold typeR
  by_cases h0 : (chk t 1 0).1 = 0
  · have ht := terms_typed_ok vs M nx m2 n t (by omega) hok ⟨1, 0, h0⟩
    simp [terms_TypeL, terms_Type, hc, h0, m1, ht]
  · simp [terms_TypeL, terms_Type, hc, h0, fD]
theorem ref30_Type_ok (n : Nat) (vs : List V) (t : Tm) (nx : Bool) (hn : t.sz + 200 + vs.length < n) (hok : t.Ok) (hvs : vs.length < 1000000000000) :
    ref30_TypeL n [eVs vs, t.d, eB nx] = some (.tup [(typeR vs nx t).1.d, eI (typeR vs nx t).2]) := by
  have hc := ref30_Check_ok n t (by omega) hok
  have fD : D.agg [eB false, eI 0, eI 0] = Y0.d := rfl
  unfold typeR
  by_cases h0 : (chk t 1 0).1 = 0
  · have ht := ref30_typed_ok vs nx hvs n t (by omega) hok ⟨1, 0, h0⟩
    simp [ref30_TypeL, ref30_Type, hc, h0, ht]
  · simp [ref30_TypeL, ref30_Type, hc, h0, fD]
end Go.Am
namespace Go.Am
set_option linter.unusedVariables false
set_option linter.unusedSimpArgs false
/-! ### The number of parts and the depth, as the reference counts them -/
mutual
def ptn : Tm → Int × Int
  | .mk _ _ _ _ ks => ((ptL ks 1 0).1, IntKind.i64.wrap ((ptL ks 1 0).2 + 1))
def ptL : List Tm → Int → Int → Int × Int
  | [], a, b => (a, b)
  | t :: r, a, b => ptL r (IntKind.i64.wrap (a + (ptn t).1)) (mx b (ptn t).2)
end
theorem ptn_eq (t : Tm) : ptn t = ((ptL t.kids 1 0).1, IntKind.i64.wrap ((ptL t.kids 1 0).2 + 1)) := by cases t; rw [ptn]; rfl
theorem ref30_Parts_ok : ∀ (n : Nat) (t : Tm), t.sz < n → t.Ok → ref30_PartsL n [t.d] = some (.tup [eI (ptn t).1, eI (ptn t).2])
  | 0, t, h, _ => absurd h (Nat.not_lt_zero _)
  | n + 1, t, hn, hok => by
    have hlen := hok.len
    have hl := iterL_list (f := ref30_Parts_l3 (ref30_PartsL n) n) t.kids (fun i (s : Int × Int) => [eI s.1, eI s.2, eI (i : Int), eI t.op, eI t.num, eS t.name, rowD 4 t.nl (Tm.rows t.kids)])
      (fun r s => (Sum.inl [eI (ptL r s.1 s.2).1, eI (ptL r s.1 s.2).2] : List D ⊕ D)) (fun _ _ => True)
      (fun s _ => by simp [ref30_Parts_l3, ptL]) ?_ n 0 (1, 0) trivial (by have := t.sz_len; omega) (Nat.zero_le _)
    · have e0 : (eI ((0 : Nat) : Int)) = eI 0 := rfl
      rw [e0] at hl
      rw [ptn_eq]
      simp only [ref30_PartsL, ref30_Parts, Tm.aggP_d, Tm.cel0, Tm.cel1, Tm.cel2, Tm.cel3, og_t, hl, List.drop_zero, obind_s, jnX_l, pd_0, pd_s, b_addw]
    · intro i a s ha hi _
      have hm := List.mem_of_getElem? ha
      have hz := Tm.sz_kid hm
      have hr := ref30_Parts_ok n a (by omega) (hok.kid hm)
      left
      refine ⟨(IntKind.i64.wrap (s.1 + (ptn a).1), mx s.2 (ptn a).2), ?_, by rw [ptL], trivial⟩
      have h1 : IntKind.i64.wrap ((i : Int) + 1) = i + 1 := wrap64 _ (by omega) (by omega)
      simp [ref30_Parts_l3, hi, Tm.ixP_kid ha, hr, mm2_max, b_addw, h1]
def lightB (t : Tm) : Bool := decide ((ptn t).1 ≤ 300) && decide ((ptn t).2 ≤ 80)
theorem law30_Light_ok (n : Nat) (t : Tm) (hn : t.sz < n) (hok : t.Ok) : law30_LightL n [t.d] = some (eB (lightB t)) := by
  have h := ref30_Parts_ok n t hn hok
  simp [law30_LightL, law30_Light, h, lightB]
theorem law30_few_ok (n : Nat) (vs : List V) : law30_fewL n [eVs vs] = some (eB (decide (vs.length ≤ 20))) := by
  simp [law30_fewL, law30_few, eVs_len]
  omega
set_option maxHeartbeats 4000000 in
theorem lives30_ok (n : Nat) : law30_livesL (n + 200) [] = some (eB true) := by kernel_rfl
theorem eqv_Y (y z : Y) : eqvP [.bool, .int .i64, .int .i64] .eql y.d z.d = some (eB (decide (y = z))) := by
  obtain ⟨a, b, c⟩ := y
  obtain ⟨e, f, g⟩ := z
  simp only [Y.d, eqvP, eB, eI, aggBin, eqFlat, Instr.sameNow, if_true]
  by_cases h1 : a = e
  · by_cases h2 : b = f
    · by_cases h3 : c = g
      · simp [h1, h2, h3, toDo, -zB, -zI, eB]
      · have q := beq_false_of_ne h3; simp [h1, h2, h3, q, toDo, -zB, -zI, eB]
    · have q := beq_false_of_ne h2; simp [h1, h2, q, toDo, -zB, -zI, eB]
  · have q := beq_false_of_ne h1; simp [h1, q, toDo, -zB, -zI, eB]
theorem TermsTypes_ok (n : Nat) (vs : List V) (t : Tm) (nx : Bool) (hok : t.Ok) (hn : t.sz + 500 < n) :
    law30_TermsTypesL n [eVs vs, t.d, eB nx] = some (eB true) := by
  obtain ⟨n', rfl⟩ : ∃ q, n = q + 200 := ⟨n - 200, by omega⟩
  have hL := lives30_ok n'
  generalize n' + 200 = n at *
  have h1 := law30_Light_ok n t (by omega) hok
  have h2 := law30_few_ok n vs
  by_cases hc : vs.length ≤ 20
  · have h3 := terms_Type_ok n vs t nx (by omega) hok (by omega)
    have h4 := ref30_Type_ok n vs t nx (by omega) hok (by omega)
    have e := eqv_Y (typeR vs nx t).1 (typeR vs nx t).1
    simp -implicitDefEqProofs [law30_TermsTypesL, law30_TermsTypes, hL, h1, h2, h3, h4, hc, e]
    cases lightB t <;> simp
  · simp -implicitDefEqProofs [law30_TermsTypesL, law30_TermsTypes, hL, h1, h2, hc]
    cases lightB t <;> simp
end Go.Am
namespace Go.Am
set_option linter.unusedVariables false
set_option linter.unusedSimpArgs false
/-! ### Checked arithmetic -/
def big : Int := 9007199254740992
/-- A number in range. -/
def inR (n : Int) : Bool := decide (-9007199254740992 ≤ n) && decide (n ≤ 9007199254740992)
def heldD (n : Int) (ok : Bool) : D := if ok && inR n then .tup [eI n, eB true] else .tup [eI 0, eB false]
theorem num_held_ok (n : Nat) (a : Int) (ok : Bool) : num_heldL n [eI a, eB ok] = some (heldD a ok) := by
  unfold heldD inR
  cases ok <;> simp [num_heldL, num_held, -ite_tup, -ite_some]
  grind
theorem num_Add_ok (n : Nat) (a b : Int) (ha : -9223372036854775808 ≤ a ∧ a ≤ 9223372036854775807) (hb : -9223372036854775808 ≤ b ∧ b ≤ 9223372036854775807) : num_AddL n [eI a, eI b] = some (heldD (a + b) true) := by
  have hh := num_held_ok n
  by_cases h1 : (a < 0) = (b < 0)
  case neg =>
    have e : IntKind.i64.wrap (a + b) = a + b := by
      refine wrap64 _ ?_ ?_
      · by_cases c : a < 0 <;> by_cases d : b < 0 <;> simp [c, d] at h1 <;> omega
      · by_cases c : a < 0 <;> by_cases d : b < 0 <;> simp [c, d] at h1 <;> omega
    have hne : (decide (a < 0) != decide (b < 0)) = true := by by_cases c : a < 0 <;> by_cases d : b < 0 <;> simp [c, d] at h1 ⊢
    simp [num_AddL, num_Add, b_addw, e, hne, hh]
    unfold heldD; split <;> simp
  have hne : (decide (a < 0) != decide (b < 0)) = false := by by_cases c : a < 0 <;> by_cases d : b < 0 <;> simp [c, d] at h1 ⊢
  by_cases hr : -9223372036854775808 ≤ a + b ∧ a + b ≤ 9223372036854775807
  · have e : IntKind.i64.wrap (a + b) = a + b := wrap64 _ hr.1 hr.2
    have hs : (decide (a < 0) == decide (a + b < 0)) = true := by
      by_cases c : a < 0 <;> by_cases d : b < 0 <;> simp [c, d] at h1 ⊢ <;> omega
    simp [num_AddL, num_Add, b_addw, e, hne, hs, hh]
    unfold heldD; split <;> simp
  · have e : IntKind.i64.wrap (a + b) = if a < 0 then a + b + 18446744073709551616 else a + b - 18446744073709551616 := by
      simp only [IntKind.wrap_i64]
      split <;> omega
    have hs : (decide (a < 0) == decide (IntKind.i64.wrap (a + b) < 0)) = false := by
      rw [e]
      by_cases c : a < 0 <;> by_cases d : b < 0 <;> simp [c, d] at h1 ⊢ <;> omega
    simp [num_AddL, num_Add, b_addw, hne, hs, hh]
    have : inR (a + b) = false := by unfold inR; simp; omega
    simp [heldD, this]
/-! ### Products of 64 bits -/
def eU (n : Int) : D := .val (.int .u64 n)
section
variable {bt : Bool} {a b : Int}
theorem u_add (h : 0 ≤ a + b) (h' : a + b < 18446744073709551616) : binP bt .add (eU a) (eU b) = some (eU (a + b)) := by
  have e : binP bt .add (eU a) (eU b) = some (eU (IntKind.u64.wrap (a + b))) := rfl
  rw [e, IntKind.wrap_u64, Int.emod_eq_of_lt h h']
theorem u_mulw : binP bt .mul (eU a) (eU b) = some (eU (IntKind.u64.wrap (a * b))) := rfl
theorem u_mul (h : 0 ≤ a * b) (h' : a * b < 18446744073709551616) : binP bt .mul (eU a) (eU b) = some (eU (a * b)) := by
  rw [u_mulw, IntKind.wrap_u64, Int.emod_eq_of_lt h h']
theorem u_shr32 (h : 0 ≤ a) : binP bt .shr (eU a) (eU 32) = some (eU (a / 4294967296)) := by
  have e : binP bt .shr (eU a) (eU 32) = some (eU (a.fdiv (2 ^ (min (32 : Int).toNat IntKind.u64.bits)))) := rfl
  rw [e]
  have : (2 : Int) ^ (min (32 : Int).toNat IntKind.u64.bits) = 4294967296 := by decide
  rw [this, Int.fdiv_eq_ediv_of_nonneg _ (by omega)]
theorem u_and32 (h : 0 ≤ a) (h' : a < 18446744073709551616) : binP bt .and (eU a) (eU 4294967295) = some (eU (a % 4294967296)) := by
  have e : binP bt .and (eU a) (eU 4294967295) = some (eU (IntKind.u64.wrap ((BitVec.ofInt IntKind.u64.bits a &&& BitVec.ofInt IntKind.u64.bits 4294967295).toNat : Int))) := rfl
  rw [e]
  have hb : IntKind.u64.bits = 64 := rfl
  obtain ⟨m, rfl⟩ : ∃ m : Nat, a = m := ⟨a.toNat, by omega⟩
  have e1 : (BitVec.ofInt 64 (m : Int) &&& BitVec.ofInt 64 4294967295).toNat = m % 4294967296 := by
    have e2 : BitVec.ofInt 64 (m : Int) = BitVec.ofNat 64 m := by simp
    have e3 : BitVec.ofInt 64 4294967295 = BitVec.ofNat 64 4294967295 := by decide
    rw [e2, e3, BitVec.toNat_and, BitVec.toNat_ofNat, BitVec.toNat_ofNat, Nat.mod_eq_of_lt (by omega)]
    have := Nat.and_two_pow_sub_one_eq_mod m 32
    simpa using this
  rw [hb, e1, IntKind.wrap_u64]
  congr 2
  omega
theorem u_neq0 : binP bt .neq (eU a) (eU b) = some (eB (a != b)) := rfl
theorem u_gtr : binP bt .gtr (eU a) (eU b) = some (eB (decide (a > b))) := rfl
end
theorem mul32 {x y : Int} (hx : 0 ≤ x ∧ x ≤ 4294967295) (hy : 0 ≤ y ∧ y ≤ 4294967295) : 0 ≤ x * y ∧ x * y ≤ 18446744065119617025 := by
  refine ⟨Int.mul_nonneg hx.1 hy.1, ?_⟩
  have := Int.mul_le_mul hx.2 hy.2 hy.1 (by omega)
  simpa using this
theorem mul64_ok (n : Nat) (x y : Int) (hx : 0 ≤ x ∧ x < 18446744073709551616) (hy : 0 ≤ y ∧ y < 18446744073709551616) :
    math_bits_Mul64L n [eU x, eU y] = some (.tup [eU (x * y / 18446744073709551616), eU (x * y % 18446744073709551616)]) := by
  have a1 : 0 ≤ x % 4294967296 ∧ x % 4294967296 ≤ 4294967295 := by omega
  have a2 : 0 ≤ x / 4294967296 ∧ x / 4294967296 ≤ 4294967295 := by omega
  have b1 : 0 ≤ y % 4294967296 ∧ y % 4294967296 ≤ 4294967295 := by omega
  have b2 : 0 ≤ y / 4294967296 ∧ y / 4294967296 ≤ 4294967295 := by omega
  have p00 := mul32 a1 b1
  have p10 := mul32 a2 b1
  have p01 := mul32 a1 b2
  have p11 := mul32 a2 b2
  have hxy : x * y = (x / 4294967296 * (y / 4294967296)) * 18446744073709551616 + (x / 4294967296 * (y % 4294967296) + x % 4294967296 * (y / 4294967296)) * 4294967296 + x % 4294967296 * (y % 4294967296) := by
    have ex : x = x / 4294967296 * 4294967296 + x % 4294967296 := by omega
    have ey : y = y / 4294967296 * 4294967296 + y % 4294967296 := by omega
    generalize x / 4294967296 = u at *
    generalize x % 4294967296 = v at *
    generalize y / 4294967296 = w at *
    generalize y % 4294967296 = z at *
    subst ex; subst ey
    simp only [Int.add_mul, Int.mul_add]
    have e1 : u * 4294967296 * (w * 4294967296) = u * w * 18446744073709551616 := by
      rw [Int.mul_assoc, Int.mul_left_comm 4294967296 w, ← Int.mul_assoc, Int.mul_comm 4294967296 4294967296]; rfl
    have e2 : u * 4294967296 * z = u * z * 4294967296 := by rw [Int.mul_assoc, Int.mul_comm 4294967296 z, ← Int.mul_assoc]
    have e3 : v * (w * 4294967296) = v * w * 4294967296 := by rw [← Int.mul_assoc]
    omega
  show math_bits_Mul64 n (eU x) (eU y) = _
  have e32 : (D.val (.int .u64 32)) = eU 32 := rfl
  have em : (D.val (.int .u64 4294967295)) = eU 4294967295 := rfl
  have hsh : ∀ q : Int, 0 ≤ q → binP false .shr (eU q) (eU 32) = some (eU (q / 4294967296)) := fun q h => u_shr32 h
  have han : ∀ q : Int, 0 ≤ q → q < 18446744073709551616 → binP false .and (eU q) (eU 4294967295) = some (eU (q % 4294967296)) := fun q h h' => u_and32 h h'
  simp only [math_bits_Mul64, e32, em]
  rw [han x hx.1 hx.2, obind_s, hsh x hx.1, obind_s, han y hy.1 hy.2, obind_s, hsh y hy.1, obind_s, u_mul p00.1 (by omega), obind_s, u_mul p10.1 (by omega), obind_s]
  generalize x % 4294967296 * (y % 4294967296) = P00 at *
  generalize x / 4294967296 * (y % 4294967296) = P10 at *
  rw [hsh P00 (by omega), obind_s, u_add (by omega) (by omega), obind_s, han _ (by omega) (by omega), obind_s, hsh _ (by omega), obind_s, u_mul p01.1 (by omega), obind_s]
  generalize x % 4294967296 * (y / 4294967296) = P01 at *
  rw [u_add (by omega) (by omega), obind_s, u_mul p11.1 (by omega), obind_s]
  generalize x / 4294967296 * (y / 4294967296) = P11 at *
  rw [u_add (by omega) (by omega), obind_s, hsh _ (by omega), obind_s, u_add (by omega) (by omega), obind_s, u_mulw, obind_s, IntKind.wrap_u64, hxy]
  congr 3
  · congr 1; omega
theorem num_size_ok (n : Nat) (a : Int) (ha : -9223372036854775808 ≤ a ∧ a ≤ 9223372036854775807) : num_sizeL n [eI a] = some (eU a.natAbs) := by
  have e1 : ∀ v : Int, unP .neg (.val (.int .u64 v)) = some (eU (IntKind.u64.wrap (0 - v))) := fun _ => rfl
  have e2 : ∀ v : Int, cvP .u64 (eI v) = some (.val (.int .u64 (IntKind.u64.wrap v))) := fun _ => rfl
  by_cases h : a < 0
  · simp [num_sizeL, num_size, h, e2, e1]
    simp only [IntKind.wrap_u64, eU, D.val.injEq, Value.int.injEq, true_and]
    omega
  · simp [num_sizeL, num_size, h, e2]
    simp only [IntKind.wrap_u64, eU, D.val.injEq, Value.int.injEq, true_and]
    omega
end Go.Am
namespace Go.Am
set_option linter.unusedVariables false
set_option linter.unusedSimpArgs false
theorem inR_iff (n : Int) : inR n = true ↔ n.natAbs ≤ 9007199254740992 := by unfold inR; simp; omega
theorem natAbs_mul_le {a b : Int} {A B : Nat} (h : a.natAbs ≤ A) (h' : b.natAbs ≤ B) : (a * b).natAbs ≤ A * B := by
  rw [Int.natAbs_mul]; exact Nat.mul_le_mul h h'
theorem sign_mul (a b : Int) (h : a * b ≠ 0) : ((a < 0) ≠ (b < 0)) ↔ a * b < 0 := by
  have ha : a ≠ 0 := by rintro rfl; simp at h
  have hb : b ≠ 0 := by rintro rfl; simp at h
  rcases Int.lt_or_gt_of_ne ha with h1 | h1 <;> rcases Int.lt_or_gt_of_ne hb with h2 | h2
  · have := Int.mul_pos_of_neg_of_neg h1 h2
    simp [h1, h2]; omega
  · have := Int.mul_neg_of_neg_of_pos h1 h2
    simp [h1, this]; omega
  · have := Int.mul_neg_of_pos_of_neg h1 h2
    simp [h2, this]; omega
  · have := Int.mul_pos h1 h2
    simp; omega
theorem num_Mul_ok (n : Nat) (a b : Int) (ha : inR a = true) (hb : inR b = true) : num_MulL n [eI a, eI b] = some (heldD (a * b) true) := by
  rw [inR_iff] at ha hb
  have h1 := num_size_ok n a (by omega)
  have h2 := num_size_ok n b (by omega)
  have hm := natAbs_mul_le ha hb
  have h3 := mul64_ok n a.natAbs b.natAbs (by omega) (by omega)
  have e : ((a.natAbs : Int) * b.natAbs) = ((a * b).natAbs : Int) := by rw [Int.natAbs_mul]; simp
  rw [e] at h3
  have hs := sign_mul a b
  generalize a * b = p at *
  have c0 : (D.val (.int .u64 0)) = eU 0 := rfl
  have c1 : (D.val (.int .u64 9007199254740992)) = eU 9007199254740992 := rfl
  have e1 : ∀ v : Int, cvP .i64 (eU v) = some (eI (IntKind.i64.wrap v)) := fun _ => rfl
  by_cases hr : inR p = true
  · have hr' := (inR_iff p).1 hr
    have q1 : ((p.natAbs : Int) / 18446744073709551616) = 0 := by omega
    have q2 : ((p.natAbs : Int) % 18446744073709551616) = p.natAbs := by omega
    have q3 : IntKind.i64.wrap (p.natAbs : Int) = p.natAbs := wrap64 _ (by omega) (by omega)
    have q4 : IntKind.i64.wrap (-(p.natAbs : Int)) = -(p.natAbs : Int) := wrap64 _ (by omega) (by omega)
    have q5 : ¬ (9007199254740992 < (p.natAbs : Int)) := by omega
    rw [q1, q2] at h3
    by_cases hz : p = 0
    · subst hz
      simp [num_MulL, num_Mul, h1, h2, h3, c0, c1, u_neq0, u_gtr, e1, heldD, hr]
      by_cases x1 : a < 0 <;> by_cases x2 : b < 0 <;> simp [x1, x2, show IntKind.i64.wrap 0 = 0 from rfl]
    · have hs := hs hz
      by_cases x1 : a < 0 <;> by_cases x2 : b < 0 <;> simp [x1, x2] at hs <;> simp [num_MulL, num_Mul, h1, h2, h3, c0, c1, u_neq0, u_gtr, e1, heldD, hr, q5, q3, q4, x1, x2] <;> omega
  · have hr' : ¬ (p.natAbs ≤ 9007199254740992) := fun h => hr ((inR_iff p).2 h)
    have hf : inR p = false := by simpa using hr
    by_cases q1 : ((p.natAbs : Int) / 18446744073709551616) = 0
    · have q2 : ((p.natAbs : Int) % 18446744073709551616) = p.natAbs := by omega
      have q5 : 9007199254740992 < (p.natAbs : Int) := by omega
      rw [q1, q2] at h3
      simp [num_MulL, num_Mul, h1, h2, h3, c0, c1, u_neq0, u_gtr, e1, heldD, hf, q5]
    · have q6 : ((p.natAbs : Int) / 18446744073709551616 != 0) = true := by simpa using q1
      simp [num_MulL, num_Mul, h1, h2, h3, c0, c1, u_neq0, u_gtr, e1, heldD, hf, q6]
/-! ### Values -/
def tr (b : Bool) : Int := if b then 1 else 0
theorem terms_truth_ok (n : Nat) (b : Bool) : terms_truthL n [eB b] = some (.tup [eI (tr b), eB true]) := by
  cases b <;> simp [terms_truthL, terms_truth, tr]
theorem ref30_truth_ok (n : Nat) (b : Bool) : ref30_truthL n [eB b] = some (eI (tr b)) := by
  cases b <;> simp [ref30_truthL, ref30_truth, tr]
theorem ref30_far_ok (n : Nat) (v : Int) : ref30_farL n [eI v] = some (eB (!inR v)) := by
  by_cases h1 : v < -9007199254740992
  · have : inR v = false := by unfold inR; simp; omega
    simp [ref30_farL, ref30_far, this, h1]
  · by_cases h2 : 9007199254740992 < v
    · have : inR v = false := by unfold inR; simp; omega
      simp [ref30_farL, ref30_far, this, h1, h2]
    · have : inR v = true := by unfold inR; simp; omega
      simp [ref30_farL, ref30_far, this, h1, h2]
theorem ref30_size_ok (n : Nat) (v : Int) (h : -9223372036854775807 ≤ v ∧ v ≤ 9223372036854775807) : ref30_sizeL n [eI v] = some (eI (v.natAbs : Int)) := by
  have : IntKind.i64.wrap (-v) = -v := wrap64 _ (by omega) (by omega)
  simp [ref30_sizeL, ref30_size, this, mm2_max, mx]
  split <;> omega
/-- The value of a part from the values of its kids, as the reference has it; and whether it is in range. -/
def opR (op : Int) (l : List Int) : Int × Bool :=
  if op = 6 then (tr (decide (l.sum = l.length)), true)
  else if op = 7 then (tr (decide (l.sum > 0)), true)
  else match l with
    | [a] => (1 - a, inR (1 - a))
    | [a, b] => if op = 8 then (tr (a == 0 || b == 1), true) else if op = 9 ∨ op = 10 then (tr (a == b), true) else if op = 11 then (tr (a != b), true)
      else if op = 12 then (tr (decide (a < b)), true) else if op = 13 then (tr (decide (a ≤ b)), true)
      else if op = 14 then (a + b, inR (a + b)) else if op = 15 then (a - b, inR (a - b))
      else if op = 16 then if inR (a * b) then (a * b, true) else (0, false)
      else ((a.tmod b + b).tmod b, inR ((a.tmod b + b).tmod b))
    | [a, b, c] => (if a = 1 then b else c, inR (if a = 1 then b else c))
    | _ => (0, false)
def resD (p : Int × Bool) : D := if p.2 then .tup [eI p.1, eB true] else .tup [eI 0, eB false]
theorem resD_held (v : Int) : heldD v true = resD (v, inR v) := by simp [heldD, resD]
theorem eIs_ix {l : List Int} {i : Nat} {y : Int} (h : l[i]? = some y) : ixP 1 (eIs l) (eI (i : Int)) = some [eI y] := by simp [eIs, h]
theorem eIs_ix0 {y : Int} {l : List Int} : ixP 1 (eIs (y :: l)) (eI 0) = some [eI y] := eIs_ix (i := 0) rfl
theorem eIs_ix1 {x y : Int} {l : List Int} : ixP 1 (eIs (x :: y :: l)) (eI 1) = some [eI y] := eIs_ix (i := 1) rfl
theorem eIs_ix2 {x y z : Int} {l : List Int} : ixP 1 (eIs (x :: y :: z :: l)) (eI 2) = some [eI z] := eIs_ix (i := 2) rfl
theorem eIs_lenP (l : List Int) : lenP (eIs l) = some (eI l.length) := by simp [eIs]
theorem eI_row (l : List Int) : D.sl 1 (esD (eIs l)) = eIs l := rfl
/-- The sum of a short list of numbers in range. -/
theorem sum_bd : ∀ (l : List Int), (∀ v ∈ l, inR v = true) → -(9007199254740992 * (l.length : Int)) ≤ l.sum ∧ l.sum ≤ 9007199254740992 * (l.length : Int)
  | [], _ => by simp
  | a :: r, h => by
    have := sum_bd r fun v hv => h v (by simp [hv])
    have := (inR_iff a).1 (h a (by simp))
    simp only [List.sum_cons, List.length_cons]
    omega
theorem sum_take_bd {l : List Int} (h : ∀ v ∈ l, inR v = true) (hl : l.length ≤ 64) (i : Nat) : -576460752303423488 ≤ (l.take i).sum ∧ (l.take i).sum ≤ 576460752303423488 := by
  have := sum_bd (l.take i) fun v hv => h v (List.mem_of_mem_take hv)
  have hle : (l.take i).length ≤ 64 := by rw [List.length_take]; omega
  omega
theorem joined_sum (n : Nat) (L0 d1 d2 d3 d4 : D) (l : List Int) (h : ∀ v ∈ l, inR v = true) (hl : l.length ≤ 64) (hn : 64 < n) :
    iterL (terms_joined_l29 n) n [L0, eI 0, eIs l, eI l.length, eI 0, d1, d2, d3, d4] = some (.inl [L0, eI l.sum, d1, d2, d3, d4]) := by
  have hi := iterL_list (f := terms_joined_l29 n) l (fun i (s : Int) => [L0, eI s, eIs l, eI l.length, eI (i : Int), d1, d2, d3, d4]) (fun r s => (Sum.inl [L0, eI (s + r.sum), d1, d2, d3, d4] : List D ⊕ D)) (fun i s => s = (l.take i).sum)
    (fun s _ => by simp [terms_joined_l29]) ?_ n 0 0 (by simp) (by omega) (Nat.zero_le _)
  · have e0 : (eI ((0 : Nat) : Int)) = eI 0 := rfl
    rw [e0] at hi
    simpa using hi
  · intro i a s ha hi hs
    left
    have hb := sum_take_bd h hl i
    have hav := (inR_iff a).1 (h a (List.mem_of_getElem? ha))
    have hadd : binP false .add (eI s) (eI a) = some (eI (s + a)) := b_add (by omega) (by omega)
    refine ⟨s + a, by simp [terms_joined_l29, hi, eIs_ix ha, hadd, add1 (bt := false) (i := i) (by omega)], by simp [Int.add_assoc], ?_⟩
    rw [List.take_add_one, ha, hs]
    simp
theorem tmod_bd {a b : Int} (hb : 1 ≤ b) : -b < a.tmod b ∧ a.tmod b < b := by
  have h1 := Int.tmod_lt_of_pos a (show 0 < b by omega)
  have h2 := Int.lt_tmod_of_pos a (show 0 < b by omega)
  exact ⟨h2, h1⟩
set_option maxHeartbeats 1000000 in
theorem terms_joined_ok (n : Nat) (t : Tm) (l : List Int) (hv : Valid t) (hlt : l.length = t.kids.length) (hop : 5 ≤ t.op) (hr : ∀ v ∈ l, inR v = true) (hn : 100 < n)
    (hb : (t.op ≤ 9 → ∀ v ∈ l, v = 0 ∨ v = 1) ∧ (t.op = 18 → ∀ v, l[0]? = some v → v = 0 ∨ v = 1)) (hm : t.op = 17 → ∀ v, l[1]? = some v → 1 ≤ v ∧ v ≤ 255) :
    terms_joinedL n [t.d, eIs l] = some (resD (opR t.op l)) := by
  have hv1 := hv.op
  have hlen := hv.len
  have c0 := Tm.cel0 t
  have ca := Tm.aggP_d t
  have hk := kids2 (op := t.op)
  have hk3 := kids3 (op := t.op)
  have h64 := hv.len64
  have hlp := eIs_lenP l
  have htr := terms_truth_ok n
  have hsum := fun L0 d1 d2 d3 d4 => joined_sum n L0 d1 d2 d3 d4 l hr (by omega) (by omega)
  by_cases h67 : t.op = 6 ∨ t.op = 7
  · have hge : 1 ≤ l.length := by
      have : kidsOf t.op = (1, 64) := by unfold kidsOf; rw [if_neg (by omega), if_neg (by omega), if_pos h67]
      rw [this] at hlen
      simp only at hlen; omega
    generalize t.op = op at *
    rcases h67 with rfl | rfl
    · simp [terms_joinedL, terms_joined, ca, c0, hlp, hsum, opR, resD, htr, -ite_eB]
      by_cases hc : l.sum = (l.length : Int) <;> simp [hc, htr]
    · simp [terms_joinedL, terms_joined, ca, c0, hlp, hsum, opR, resD, htr, -ite_eB]
      by_cases hc : l.sum = (l.length : Int)
      · have : 0 < l.sum := by omega
        have hp : 0 < l.length := by omega
        simp [hc, htr, hp]
      · by_cases h0 : 0 < l.sum <;> simp [hc, h0, htr]
  have hl1 : t.op = 5 → l.length = 1 := fun h => by
    have : kidsOf t.op = (1, 1) := by rw [h]; rfl
    rw [this] at hlen; simp only at hlen; omega
  by_cases h5 : t.op = 5
  · have := hl1 h5
    match l, this with
    | [a], _ =>
      have ha := hb.1 (by omega) a (by simp)
      have g0 := eIs_ix0 (y := a) (l := [])
      generalize t.op = op at *
      subst h5
      rcases ha with rfl | rfl
      · simp [terms_joinedL, terms_joined, ca, c0, g0, opR, resD, htr, tr, inR]
      · simp [terms_joinedL, terms_joined, ca, c0, g0, opR, resD, htr, tr, inR]
  by_cases h18 : t.op = 18
  · rw [hk3 h18] at hlen
    obtain ⟨a, b, c, rfl⟩ := list3 (l := l) (by simp only at hlen; omega)
    have ha := hb.2 h18 a rfl
    have g0 := eIs_ix0 (y := a) (l := [b, c])
    have g1 := eIs_ix1 (x := a) (y := b) (l := [c])
    have g2 := eIs_ix2 (x := a) (y := b) (z := c) (l := [])
    have hbr := hr b (by simp)
    have hcr := hr c (by simp)
    generalize t.op = op at *
    subst h18
    rcases ha with rfl | rfl
    · simp [terms_joinedL, terms_joined, ca, c0, g0, g1, g2, opR, resD, hcr]
    · simp [terms_joinedL, terms_joined, ca, c0, g0, g1, g2, opR, resD, hbr]
  rw [hk (by omega)] at hlen
  obtain ⟨a, b, rfl⟩ := list2 (l := l) (by simp only at hlen; omega)
  have g0 := eIs_ix0 (y := a) (l := [b])
  have g1 := eIs_ix1 (x := a) (y := b) (l := [])
  have ra := hr a (by simp)
  have rb := hr b (by simp)
  have ra' := (inR_iff a).1 ra
  have rb' := (inR_iff b).1 rb
  have hA := num_Add_ok n a b (by omega) (by omega)
  have hS := num_Add_ok n a (-b) (by omega) (by omega)
  have hM := num_Mul_ok n a b ra rb
  have hneg : IntKind.i64.wrap (-b) = -b := wrap64 _ (by omega) (by omega)
  have hsub : a + -b = a - b := by omega
  have hx : ∀ p : Int × Bool, (extP 0 (resD p)) = some (eI (if p.2 then p.1 else 0)) ∧ (extP 1 (resD p)) = some (eB p.2) := by
    intro p; obtain ⟨v, o⟩ := p; cases o <;> simp [resD]
  have hy : ∀ p : Int × Bool, D.tup [eI (if p.2 then p.1 else 0), eB p.2] = resD p := by
    intro p; obtain ⟨v, o⟩ := p; cases o <;> simp [resD]
  rw [hsub] at hS
  rw [resD_held] at hA hS hM
  by_cases h17 : t.op = 17
  · obtain ⟨q1, q2⟩ := hm h17 b rfl
    have m1 := tmod_bd (a := a) q1
    have hnz : b ≠ 0 := by omega
    have w2 : binP false .add (eI (a.tmod b)) (eI b) = some (eI (a.tmod b + b)) := b_add (by omega) (by omega)
    have m2 := tmod_bd (a := a.tmod b + b) q1
    have hin : inR ((a.tmod b + b).tmod b) = true := (inR_iff _).2 (by omega)
    have e1 : binP false .rem (eI a) (eI b) = some (eI (a.tmod b)) := b_rem hnz
    have e2 : binP false .rem (eI (a.tmod b + b)) (eI b) = some (eI ((a.tmod b + b).tmod b)) := b_rem hnz
    generalize t.op = op at *
    subst h17
    simp [terms_joinedL, terms_joined, ca, c0, g0, g1, opR, resD, e1, e2, w2, hin]
  have hc : t.op = 8 ∨ t.op = 9 ∨ t.op = 10 ∨ t.op = 11 ∨ t.op = 12 ∨ t.op = 13 ∨ t.op = 14 ∨ t.op = 15 ∨ t.op = 16 := by omega
  have hb8 : t.op = 8 → (b = 0 ∨ b = 1) := fun h => hb.1 (by omega) b (by simp)
  generalize t.op = op at *
  rcases hc with rfl | rfl | rfl | rfl | rfl | rfl | rfl | rfl | rfl
  · rcases hb8 rfl with rfl | rfl
    · by_cases ha0 : a = 0
      · simp [terms_joinedL, terms_joined, ca, c0, g0, g1, opR, resD, htr, ha0, eIs_ix0, eIs_ix1]
      · have hb0 : (a == 0) = false := by simpa using ha0
        simp [terms_joinedL, terms_joined, ca, c0, g0, g1, opR, resD, htr, ha0, hb0, eIs_ix0, eIs_ix1]
    · by_cases ha0 : a = 0
      · simp [terms_joinedL, terms_joined, ca, c0, g0, g1, opR, resD, htr, ha0, eIs_ix0, eIs_ix1]
      · have hb0 : (a == 0) = false := by simpa using ha0
        simp [terms_joinedL, terms_joined, ca, c0, g0, g1, opR, resD, htr, ha0, hb0, eIs_ix0, eIs_ix1]
  · simp [terms_joinedL, terms_joined, ca, c0, g0, g1, opR, resD, htr]
  · simp [terms_joinedL, terms_joined, ca, c0, g0, g1, opR, resD, htr]
  · simp [terms_joinedL, terms_joined, ca, c0, g0, g1, opR, resD, htr]
  · simp [terms_joinedL, terms_joined, ca, c0, g0, g1, opR, resD, htr]
  · simp [terms_joinedL, terms_joined, ca, c0, g0, g1, opR, resD, htr]
  · simp [terms_joinedL, terms_joined, ca, c0, g0, g1, opR, hA, hx]
    rw [← hy]
  · simp [terms_joinedL, terms_joined, ca, c0, g0, g1, opR, hneg, hS, hx]
    rw [← hy]
  · simp [terms_joinedL, terms_joined, ca, c0, g0, g1, opR, hM, hx]
    cases hq : inR (a * b) <;> simp [resD]
/-- The value of a term. -/
def idxL (vs : List V) (s nn : List Int) (t : Tm) : Option Nat := if (if t.op = 4 then nn else s).length = vs.length then idxV vs t.name else none
theorem idxL_some {vs : List V} {s nn : List Int} {t : Tm} {i : Nat} (h : idxL vs s nn t = some i) : idxV vs t.name = some i ∧ (if t.op = 4 then nn else s).length = vs.length := by
  unfold idxL at h
  by_cases hc : (if t.op = 4 then nn else s).length = vs.length
  · rw [if_pos hc] at h; exact ⟨h, hc⟩
  · rw [if_neg hc] at h; cases h
def leafR (vs : List V) (s nn : List Int) (t : Tm) : Int × Bool :=
  if t.op ≤ 2 then (t.num, true)
  else match idxL vs s nn t with
    | none => (0, false)
    | some i => match vs[i]?, (if t.op = 4 then nn else s)[i]? with
      | some v, some x => if v.bool then (tr (x != 0), true) else (x, inR x)
      | _, _ => (0, false)
mutual
def valR (vs : List V) (s nn : List Int) : Tm → Int × Bool
  | .mk o n a b ks => if o ≤ 4 then leafR vs s nn (.mk o n a b ks) else match valL vs s nn ks with
    | some l => opR o l
    | none => (0, false)
def valL (vs : List V) (s nn : List Int) : List Tm → Option (List Int)
  | [] => some []
  | t :: r => if (valR vs s nn t).2 then match valL vs s nn r with
      | some l => some ((valR vs s nn t).1 :: l)
      | none => none
    else none
end
theorem valR_eq (vs : List V) (s nn : List Int) (t : Tm) : valR vs s nn t = if t.op ≤ 4 then leafR vs s nn t else match valL vs s nn t.kids with
    | some l => opR t.op l
    | none => (0, false) := by cases t; rw [valR]; rfl
mutual
/-- Is there a name of the next state? -/
def steps : Tm → Bool
  | .mk o _ _ _ ks => o == 4 || stepsL ks
def stepsL : List Tm → Bool
  | [] => false
  | t :: r => steps t || stepsL r
end
theorem steps_eq (t : Tm) : steps t = (t.op == 4 || stepsL t.kids) := by cases t; rw [steps]; rfl
theorem stepsL_mem : ∀ {l : List Tm} {t : Tm}, t ∈ l → stepsL l = false → steps t = false
  | a :: r, t, h, hs => by
    rw [stepsL, Bool.or_eq_false_iff] at hs
    rcases List.mem_cons.1 h with rfl | h
    · exact hs.1
    · exact stepsL_mem h hs.2
theorem tr_in (b : Bool) : inR (tr b) = true := by cases b <;> rfl
def QI (p : Int × Bool) : Prop := p.2 = true → inR p.1 = true
theorem QI_ite {c : Prop} [Decidable c] {p q : Int × Bool} (hp : QI p) (hq : c ∨ QI q) : QI (if c then p else q) := by
  split
  · exact hp
  · exact hq.resolve_left (by assumption)
theorem QI_tr (b : Bool) : QI (tr b, true) := fun _ => tr_in b
theorem QI_s (v : Int) : QI (v, inR v) := fun h => h
theorem opR_in {op : Int} {l : List Int} : QI (opR op l) := by
  unfold opR
  refine QI_ite (QI_tr _) (.inr (QI_ite (QI_tr _) (.inr ?_)))
  match l with
  | [] => intro h; cases h
  | [a] => exact QI_s _
  | [a, b, c] => exact QI_s _
  | a :: b :: c :: d :: r => intro h; cases h
  | [a, b] =>
    refine QI_ite (QI_tr _) (.inr (QI_ite (QI_tr _) (.inr (QI_ite (QI_tr _) (.inr (QI_ite (QI_tr _) (.inr (QI_ite (QI_tr _) (.inr (QI_ite (QI_s _) (.inr (QI_ite (QI_s _) (.inr (QI_ite ?_ (.inr (QI_s _))))))))))))))))
    by_cases h : inR (a * b) = true
    · rw [if_pos h]; exact fun _ => h
    · rw [if_neg h]; intro h; cases h
theorem leafR_in {vs : List V} {s nn : List Int} {t : Tm} (hv : Valid t) (h : (leafR vs s nn t).2 = true) : inR (leafR vs s nn t).1 = true := by
  have hn := hv.num
  unfold leafR at *
  by_cases h2 : t.op ≤ 2
  · rw [if_pos h2]; exact (inR_iff _).2 (by simp only; omega)
  rw [if_neg h2] at *
  cases hi : idxL vs s nn t with
  | none => simp [hi] at h
  | some i =>
    rw [hi] at h
    simp only at h ⊢
    cases hw : vs[i]? with
    | none => rw [hw] at h; cases h
    | some v =>
      cases hx : ((if t.op = 4 then nn else s)[i]?) with
      | none => rw [hw, hx] at h; cases h
      | some x =>
        rw [hw, hx] at h
        simp only at h ⊢
        by_cases hb : v.bool = true
        · rw [if_pos hb]; exact tr_in _
        · rw [if_neg hb] at *; exact h
theorem valR_in {vs : List V} {s nn : List Int} {t : Tm} (hv : Valid t) (h : (valR vs s nn t).2 = true) : inR (valR vs s nn t).1 = true := by
  rw [valR_eq] at *
  by_cases h4 : t.op ≤ 4
  · rw [if_pos h4] at *; exact leafR_in hv h
  · rw [if_neg h4] at *
    split at h
    · rename_i l hl; exact opR_in h
    · cases h
end Go.Am
namespace Go.Am
set_option linter.unusedVariables false
set_option linter.unusedSimpArgs false
/-! ### A boolean term has the value 0 or 1 -/
def b01 (v : Int) : Prop := v = 0 ∨ v = 1
theorem tr_b01 (b : Bool) : b01 (tr b) := by cases b <;> simp [tr, b01]
theorem spanY_b (lo hi : Int) : (spanY lo hi).1.b = false := by unfold spanY; split <;> rfl
theorem reckY_b (op : Int) (a b : Y) : (reckY op a b).1.b = false := by unfold reckY; split <;> (try split) <;> exact spanY_b _ _
theorem typL_get (vs : List V) (nx : Bool) (s nn : List Int) : ∀ {ks : List Tm} {l : List Int}, (typL vs nx ks).2 = 0 → valL vs s nn ks = some l → l.length = ks.length ∧ ∀ (i : Nat) (y : Y) (v : Int), (typL vs nx ks).1[i]? = some y → l[i]? = some v →
    ∃ k, ks[i]? = some k ∧ (typ vs nx k).2 = 0 ∧ y = (typ vs nx k).1 ∧ (valR vs s nn k).2 = true ∧ v = (valR vs s nn k).1
  | [], l, _, hv => by cases hv; exact ⟨rfl, by intro i y v _ h; simp at h⟩
  | k :: r, l, h, hv => by
    rw [typL] at *
    rw [valL] at hv
    by_cases h1 : (typ vs nx k).2 = 0
    case neg => rw [if_pos h1] at h; exact absurd h h1
    have h1' : ¬ (typ vs nx k).2 ≠ 0 := by simpa using h1
    rw [if_neg h1'] at h ⊢
    by_cases h2 : (typL vs nx r).2 = 0
    case neg => rw [if_pos h2] at h; exact absurd h h2
    have h2' : ¬ (typL vs nx r).2 ≠ 0 := by simpa using h2
    rw [if_neg h2'] at h ⊢
    by_cases h3 : (valR vs s nn k).2 = true
    case neg => rw [if_neg h3] at hv; cases hv
    rw [if_pos h3] at hv
    cases h4 : valL vs s nn r with
    | none => rw [h4] at hv; cases hv
    | some l' =>
      rw [h4] at hv
      cases hv
      obtain ⟨g1, g2⟩ := typL_get vs nx s nn h2 h4
      refine ⟨by simp [g1], ?_⟩
      intro i y v hy hw
      cases i with
      | zero => simp at hy hw; exact ⟨k, rfl, h1, hy.symm, h3, hw.symm⟩
      | succ i => simpa using g2 i y v (by simpa using hy) (by simpa using hw)
theorem joinY_5 {t : Tm} {l : List Y} (h : (joinY t l).2 = 0) (h1 : 5 ≤ t.op ∧ t.op ≤ 9) : l.all Y.b = true := by
  unfold joinY at h
  rw [if_pos h1] at h
  by_cases hc : l.all Y.b = true
  · exact hc
  · rw [if_neg hc] at h; cases h
theorem joinY_18 {t : Tm} {a b c : Y} (h : (joinY t [a, b, c]).2 = 0) (h1 : ¬ (5 ≤ t.op ∧ t.op ≤ 9)) : a.b = true ∧ b.b = c.b ∧ ((joinY t [a, b, c]).1.b = true → b.b = true) := by
  unfold joinY at *
  rw [if_neg h1] at *
  simp only at h ⊢
  by_cases hc : (!a.b || (b.b != c.b)) = true
  · rw [if_pos hc] at h; cases h
  rw [if_neg hc] at *
  refine ⟨by cases ha : a.b <;> simp_all, by cases hb : b.b <;> cases hcc : c.b <;> simp_all, ?_⟩
  by_cases hb : b.b = true
  · exact fun _ => hb
  · rw [if_neg hb, spanY_b]; intro h; cases h
theorem joinY_17 {t : Tm} {a b : Y} (h : (joinY t [a, b]).2 = 0) (h1 : t.op = 17) {k : Tm} (hk : t.kids[1]? = some k) : k.op = 1 ∧ 1 ≤ k.num := by
  unfold joinY at h
  rw [if_neg (by omega)] at h
  simp only at h
  rw [if_neg (by omega)] at h
  by_cases hc : (a.b || b.b) = true
  · rw [if_pos hc] at h; cases h
  rw [if_neg hc, if_neg (by omega), if_pos h1, hk] at h
  simp only at h
  by_cases hd : k.op ≠ 1 ∨ k.num < 1
  · rw [if_pos hd] at h; cases h
  · omega
theorem joinY_14 {t : Tm} {a b : Y} (h1 : 14 ≤ t.op ∧ t.op ≤ 17) : (joinY t [a, b]).1.b = false := by
  unfold joinY
  rw [if_neg (by omega)]
  simp only
  rw [if_neg (by omega)]
  split
  · rfl
  rw [if_neg (by omega)]
  split
  · split
    · split
      · rfl
      · exact spanY_b _ _
    · rfl
  · exact reckY_b _ _ _
theorem leafR_b01 {vs : List V} {nx : Bool} {s nn : List Int} {t : Tm} (hv : Valid t) (h : (leafV vs nx t).1.b = true) (hr : (leafR vs s nn t).2 = true) : b01 (leafR vs s nn t).1 := by
  have hn := hv.num
  unfold leafV at h
  unfold leafR at *
  by_cases h1 : t.op = 1
  · rw [if_pos h1, spanY_b] at h; cases h
  rw [if_neg h1] at h
  by_cases h2 : t.op = 2
  · rw [if_pos (by omega)]; unfold b01; simp only; omega
  rw [if_neg h2] at h
  have hop := hv.op
  rw [if_neg (by omega)] at *
  cases hi : idxL vs s nn t with
  | none => rw [hi] at hr; cases hr
  | some i =>
    rw [(idxL_some hi).1] at h
    rw [hi] at hr
    simp only at h hr ⊢
    by_cases h3 : t.op = 4 ∧ nx = false
    · rw [if_pos h3] at h; cases h
    rw [if_neg h3] at h
    cases hw : vs[i]? with
    | none => rw [hw] at hr; cases hr
    | some v =>
      rw [hw] at h hr
      simp only at h
      by_cases hb : v.bool = true
      · cases hx : ((if t.op = 4 then nn else s)[i]?) with
        | none => rw [hx] at hr; cases hr
        | some x => simp only; rw [if_pos hb]; exact tr_b01 _
      · rw [if_neg hb, spanY_b] at h; cases h
theorem b01_iff {a : Int} : b01 a ↔ (a = 0 ∨ a = 1) := Iff.rfl
theorem typ_bool (vs : List V) (nx : Bool) (s nn : List Int) (t : Tm) : Valid t → (typ vs nx t).2 = 0 → (typ vs nx t).1.b = true → (valR vs s nn t).2 = true → b01 (valR vs s nn t).1 := by
  refine Tm.ind (P := fun t => Valid t → (typ vs nx t).2 = 0 → (typ vs nx t).1.b = true → (valR vs s nn t).2 = true → b01 (valR vs s nn t).1) ?_ t
  intro t ih hv h hb hr
  rw [typ_eq] at h hb
  rw [valR_eq] at hr ⊢
  by_cases h4 : t.op ≤ 4
  · rw [if_pos h4] at *; exact leafR_b01 hv hb hr
  rw [if_neg h4] at *
  by_cases h0 : (typL vs nx t.kids).2 = 0
  case neg => rw [if_pos h0] at h; exact absurd h h0
  rw [if_neg (by simpa using h0)] at h hb
  cases hl : valL vs s nn t.kids with
  | none => rw [hl] at hr; cases hr
  | some l =>
    rw [hl] at hr
    simp only at hr ⊢
    obtain ⟨g1, g2⟩ := typL_get vs nx s nn h0 hl
    obtain ⟨g3, _⟩ := typL_len vs nx t.kids h0
    have hop := hv.op
    have hlen := hv.len
    have hk := kids2 (op := t.op)
    have hk3 := kids3 (op := t.op)
    unfold opR
    by_cases h6 : t.op = 6
    · rw [if_pos h6]; exact tr_b01 _
    rw [if_neg h6]
    by_cases h7 : t.op = 7
    · rw [if_pos h7]; exact tr_b01 _
    rw [if_neg h7]
    by_cases h5 : t.op = 5
    · have : kidsOf t.op = (1, 1) := by rw [h5]; rfl
      rw [this] at hlen
      match l, g1, g2 with
      | [a], g1, g2 =>
        have hall := joinY_5 h (by omega)
        have : 0 < (typL vs nx t.kids).1.length := by simp at g1; omega
        obtain ⟨k, q1, q2, q3, q4, q5⟩ := g2 0 _ a (List.getElem?_eq_getElem this) rfl
        have hkb := List.all_eq_true.1 hall _ (List.getElem_mem this)
        rw [q3] at hkb
        have := ih k (List.mem_of_getElem? q1) (hv.kid (List.mem_of_getElem? q1)) q2 hkb q4
        rw [← q5] at this
        simp only
        rcases this with h | h <;> subst h <;> simp [b01]
      | [], g1, _ => simp at g1; simp only at hlen; omega
      | _ :: _ :: _, g1, _ => simp at g1; simp only at hlen; omega
    by_cases h18 : t.op = 18
    · rw [hk3 h18] at hlen
      have hl3 : l.length = 3 := by simp only at hlen; omega
      obtain ⟨a, b, c, rfl⟩ := list3 hl3
      obtain ⟨ya, yb, yc, hy⟩ := list3 (l := (typL vs nx t.kids).1) (by simp only at hlen; omega)
      rw [hy] at h hb g2
      obtain ⟨j1, j2, j3⟩ := joinY_18 h (by omega)
      have hbb := j3 hb
      have get : ∀ (i : Nat) (y : Y) (v : Int), [ya, yb, yc][i]? = some y → [a, b, c][i]? = some v → y.b = true → b01 v := by
        intro i y v hy hw hyb
        obtain ⟨k, q1, q2, q3, q4, q5⟩ := g2 i y v hy hw
        rw [q5]
        exact ih k (List.mem_of_getElem? q1) (hv.kid (List.mem_of_getElem? q1)) q2 (by rw [← q3]; exact hyb) q4
      simp only
      by_cases ha : a = 1
      · rw [if_pos ha]; exact get 1 yb b rfl rfl hbb
      · rw [if_neg ha]; exact get 2 yc c rfl rfl (by rw [← j2]; exact hbb)
    rw [hk (by omega)] at hlen
    obtain ⟨a, b, rfl⟩ := list2 (l := l) (by simp only at hlen; omega)
    obtain ⟨ya, yb, hy⟩ := list2 (l := (typL vs nx t.kids).1) (by simp only at hlen; omega)
    rw [hy] at h hb
    have h14 : t.op ≤ 13 := by
      refine Classical.byContradiction fun hc => ?_
      rw [joinY_14 (by omega)] at hb
      cases hb
    simp only
    have hc : t.op = 8 ∨ t.op = 9 ∨ t.op = 10 ∨ t.op = 11 ∨ t.op = 12 ∨ t.op = 13 := by omega
    rcases hc with e | e | e | e | e | e <;> simp only [e] <;> exact tr_b01 _
/-- What Eval and the reference need to know of the values of the kids. -/
theorem argsOk {vs : List V} {nx : Bool} {s nn : List Int} {t : Tm} {l : List Int} (hv : Valid t) (h : (typ vs nx t).2 = 0) (h5 : 5 ≤ t.op) (hl : valL vs s nn t.kids = some l) :
    l.length = t.kids.length ∧ (∀ v ∈ l, inR v = true) ∧ ((t.op ≤ 9 → ∀ v ∈ l, v = 0 ∨ v = 1) ∧ (t.op = 18 → ∀ v, l[0]? = some v → v = 0 ∨ v = 1)) ∧ (t.op = 17 → ∀ v, l[1]? = some v → 1 ≤ v ∧ v ≤ 255) := by
  rw [typ_eq, if_neg (by omega)] at h
  by_cases h0 : (typL vs nx t.kids).2 = 0
  case neg => rw [if_pos h0] at h; exact absurd h h0
  rw [if_neg (by simpa using h0)] at h
  obtain ⟨g1, g2⟩ := typL_get vs nx s nn h0 hl
  obtain ⟨g3, _⟩ := typL_len vs nx t.kids h0
  have hop := hv.op
  have hlen := hv.len
  have at_ : ∀ (i : Nat) (v : Int), l[i]? = some v → ∃ k y, t.kids[i]? = some k ∧ (typL vs nx t.kids).1[i]? = some y ∧ (typ vs nx k).2 = 0 ∧ y = (typ vs nx k).1 ∧ (valR vs s nn k).2 = true ∧ v = (valR vs s nn k).1 := by
    intro i v hi
    have hlt : i < (typL vs nx t.kids).1.length := by have := (List.getElem?_eq_some_iff.1 hi).1; omega
    obtain ⟨k, q1, q2, q3, q4, q5⟩ := g2 i _ v (List.getElem?_eq_getElem hlt) hi
    exact ⟨k, _, q1, List.getElem?_eq_getElem hlt, q2, q3, q4, q5⟩
  refine ⟨g1, ?_, ⟨?_, ?_⟩, ?_⟩
  · intro v hm
    obtain ⟨i, hi⟩ := List.mem_iff_getElem?.1 hm
    obtain ⟨k, y, q1, q2, q3, q4, q5, q6⟩ := at_ i v hi
    rw [q6]
    exact valR_in (hv.kid (List.mem_of_getElem? q1)) q5
  · intro h9 v hm
    obtain ⟨i, hi⟩ := List.mem_iff_getElem?.1 hm
    obtain ⟨k, y, q1, q2, q3, q4, q5, q6⟩ := at_ i v hi
    have hall := List.all_eq_true.1 (joinY_5 h ⟨h5, h9⟩) y (List.mem_of_getElem? q2)
    rw [q6]
    exact typ_bool vs nx s nn k (hv.kid (List.mem_of_getElem? q1)) q3 (by rw [← q4]; exact hall) q5
  · intro h18 v hi
    obtain ⟨k, y, q1, q2, q3, q4, q5, q6⟩ := at_ 0 v hi
    rw [kids3 h18] at hlen
    obtain ⟨ya, yb, yc, hy⟩ := list3 (l := (typL vs nx t.kids).1) (by simp only at hlen; omega)
    rw [hy] at h q2
    have hj := (joinY_18 h (by omega)).1
    cases q2
    rw [q6]
    exact typ_bool vs nx s nn k (hv.kid (List.mem_of_getElem? q1)) q3 (by rw [← q4]; exact hj) q5
  · intro h17 v hi
    obtain ⟨k, y, q1, q2, q3, q4, q5, q6⟩ := at_ 1 v hi
    rw [kids2 (by omega)] at hlen
    obtain ⟨ya, yb, hy⟩ := list2 (l := (typL vs nx t.kids).1) (by simp only at hlen; omega)
    rw [hy] at h
    obtain ⟨j1, j2⟩ := joinY_17 h h17 q1
    have hkv := (hv.kid (List.mem_of_getElem? q1)).num
    have : valR vs s nn k = (k.num, true) := by rw [valR_eq, if_pos (by omega)]; unfold leafR; rw [if_pos (by omega)]
    rw [q6, this]
    exact ⟨j2, by simp only; omega⟩
end Go.Am
namespace Go.Am
set_option linter.unusedVariables false
set_option linter.unusedSimpArgs false
theorem numP_0 {k : Nat} : numP (k + 1) (eI 0) = some 0 := by rw [numP_int (by omega) (by omega)]; rfl
theorem numP_1 {k : Nat} : numP (k + 2) (eI 1) = some 1 := by rw [numP_int (by omega) (by omega)]; rfl
theorem numP_2 {k : Nat} : numP (k + 3) (eI 2) = some 2 := by rw [numP_int (by omega) (by omega)]; rfl
theorem tupR (p : Int × Bool) (v : Int) (b : Bool) (h : p = (v, b)) : D.tup [eI v, eB b] = D.tup [eI p.1, eB p.2] := by rw [h]
theorem quo_big {x : Int} (h1 : x ≠ 0) (h2 : x.natAbs ≤ 9007199254740992) : binP false .quo (eI 9007199254740992) (eI (x.natAbs : Int)) = some (eI ((9007199254740992 / x.natAbs : Nat) : Int)) := by
  have hx : (x.natAbs : Int) ≠ 0 := by omega
  rw [b_quo hx]
  have e : (9007199254740992 : Int).tdiv (x.natAbs : Int) = ((9007199254740992 / x.natAbs : Nat) : Int) := by
    rw [Int.tdiv_eq_ediv_of_nonneg (by omega)]; rfl
  have h3 := Nat.div_le_self 9007199254740992 x.natAbs
  rw [e]
  generalize 9007199254740992 / x.natAbs = q at *
  rw [wrap64 _ (by omega) (by omega)]
theorem mul_far (a b : Int) (h : a ≠ 0) : (b.natAbs : Int) > ((9007199254740992 / a.natAbs : Nat) : Int) ↔ inR (a * b) = false := by
  have hp : 0 < a.natAbs := by omega
  have h1 : inR (a * b) = false ↔ 9007199254740992 < a.natAbs * b.natAbs := by
    rw [← Int.natAbs_mul]
    have := inR_iff (a * b)
    constructor
    · intro h; refine Classical.byContradiction fun hc => ?_
      rw [this.2 (by omega)] at h; cases h
    · intro h; cases hq : inR (a * b) with
      | false => rfl
      | true => exact absurd (this.1 hq) (by omega)
  rw [h1, Nat.mul_comm, ← Nat.div_lt_iff_lt_mul hp]
  omega
set_option maxHeartbeats 2000000 in
theorem ref30_value_op (rv : List D → Option D) (n : Nat) (vs : List V) (s nn : List Int) (t : Tm) (l : List Int) (hv : Valid t) (hlt : l.length = t.kids.length) (hop : 5 ≤ t.op) (hr : ∀ v ∈ l, inR v = true)
    (hb : (t.op ≤ 9 → ∀ v ∈ l, v = 0 ∨ v = 1) ∧ (t.op = 18 → ∀ v, l[0]? = some v → v = 0 ∨ v = 1)) (hm : t.op = 17 → ∀ v, l[1]? = some v → 1 ≤ v ∧ v ≤ 255)
    (hloop : iterL (ref30_value_l18 rv n) n [eVs vs, eIs s, eIs nn, eI 0, eI 0, eI t.op, eI t.num, eS t.name, rowD 4 t.nl (Tm.rows t.kids), .sl 1 []] =
      some (.inl [eI (if t.op = 6 ∨ t.op = 7 then l.sum else 0), eI t.op, eI t.num, eS t.name, rowD 4 t.nl (Tm.rows t.kids), eIs l])) :
    ref30_value rv n (eVs vs) t.d (eIs s) (eIs nn) = some (.tup [eI (opR t.op l).1, eB (opR t.op l).2]) := by
  have hv1 := hv.op
  have hlen := hv.len
  have c0 := Tm.cel0 t
  have c1 := Tm.cel1 t
  have c2 := Tm.cel2 t
  have c3 := Tm.cel3 t
  have ca := Tm.aggP_d t
  have hk := kids2 (op := t.op)
  have hk3 := kids3 (op := t.op)
  have h64 := hv.len64
  have htr := ref30_truth_ok n
  have hfar := ref30_far_ok n
  have es : ∀ l : List Int, esD (eIs l) = l.map fun v => [eI v] := fun _ => rfl
  have htrue : ∀ b : Bool, inR (tr b) = true := tr_in
  by_cases h67 : t.op = 6 ∨ t.op = 7
  · generalize t.op = op at *
    rcases h67 with rfl | rfl
    · simp [ref30_value, ca, c0, c1, c2, c3, hloop, es, htr, hfar, opR, htrue]
      rfl
    · simp [ref30_value, ca, c0, c1, c2, c3, hloop, es, htr, hfar, opR, htrue]
  by_cases h5 : t.op = 5
  · have : kidsOf t.op = (1, 1) := by rw [h5]; rfl
    rw [this] at hlen
    have hl1 : l.length = 1 := by simp only at hlen; omega
    match l, hl1 with
    | [a], _ =>
      have ha := hb.1 (by omega) a (by simp)
      have e1 : binP false .sub (eI 1) (eI a) = some (eI (1 - a)) := b_sub (by omega) (by omega)
      generalize t.op = op at *
      subst h5
      simp [ref30_value, ca, c0, c1, c2, c3, hloop, es, hfar, opR, numP_0, e1]
  by_cases h18 : t.op = 18
  · rw [hk3 h18] at hlen
    obtain ⟨a, b, c, rfl⟩ := list3 (l := l) (by simp only at hlen; omega)
    generalize t.op = op at *
    subst h18
    by_cases ha : a = 1 <;> simp [ref30_value, ca, c0, c1, c2, c3, hloop, es, hfar, opR, numP_0, numP_1, numP_2, ha]
  rw [hk (by omega)] at hlen
  obtain ⟨a, b, rfl⟩ := list2 (l := l) (by simp only at hlen; omega)
  have ra' := (inR_iff a).1 (hr a (by simp))
  have rb' := (inR_iff b).1 (hr b (by simp))
  have n0 : numP 2 (eI 0) = some 0 := numP_0
  have n1 : numP 2 (eI 1) = some 1 := numP_1
  by_cases h17 : t.op = 17
  · obtain ⟨q1, q2⟩ := hm h17 b rfl
    have m1 := tmod_bd (a := a) q1
    have hnz : b ≠ 0 := by omega
    have w2 : binP false .add (eI (a.tmod b)) (eI b) = some (eI (a.tmod b + b)) := b_add (by omega) (by omega)
    have e1 : binP false .rem (eI a) (eI b) = some (eI (a.tmod b)) := b_rem hnz
    have e2 : binP false .rem (eI (a.tmod b + b)) (eI b) = some (eI ((a.tmod b + b).tmod b)) := b_rem hnz
    generalize t.op = op at *
    subst h17
    simp [ref30_value, ca, c0, c1, c2, c3, hloop, es, hfar, opR, n0, n1, e1, e2, w2]
  by_cases h16 : t.op = 16
  · have hsa := ref30_size_ok n a (by omega)
    have hsb := ref30_size_ok n b (by omega)
    have hmf := mul_far a b
    have hmb := natAbs_mul_le ra' rb'
    generalize t.op = op at *
    subst h16
    by_cases ha : a = 0
    · subst ha
      have e1 : binP false .mul (eI 0) (eI b) = some (eI 0) := by rw [b_mul (by omega) (by omega), Int.zero_mul]
      simp [ref30_value, ca, c0, c1, c2, c3, hloop, es, hfar, opR, n0, n1, e1, show inR 0 = true from rfl]
    · have hq := quo_big ha ra'
      have hmf := hmf ha
      have ha' : (a == 0) = false := by simpa using ha
      generalize 9007199254740992 / a.natAbs = q at *
      by_cases hf : inR (a * b) = true
      · have h1 : ¬ ((b.natAbs : Int) > (q : Int)) := fun h => by rw [hmf.1 h] at hf; cases hf
        have h1' : decide ((b.natAbs : Int) > (q : Int)) = false := decide_eq_false h1
        have hfi := (inR_iff _).1 hf
        have e1 : binP false .mul (eI a) (eI b) = some (eI (a * b)) := b_mul (by omega) (by omega)
        have e2 : binP false .gtr (eI (b.natAbs : Int)) (eI (q : Int)) = some (eB false) := by rw [b_gtr, h1']
        simp [ref30_value, ca, c0, c1, c2, c3, hloop, es, hfar, opR, n0, n1, hsa, hsb, hq, e2, e1, hf, ha]
      · have hff : inR (a * b) = false := by simpa using hf
        have h1' : decide ((b.natAbs : Int) > (q : Int)) = true := decide_eq_true (hmf.2 hff)
        have e2 : binP false .gtr (eI (b.natAbs : Int)) (eI (q : Int)) = some (eB true) := by rw [b_gtr, h1']
        simp [ref30_value, ca, c0, c1, c2, c3, hloop, es, hfar, opR, n0, n1, hsa, hsb, hq, e2, hff, ha]
  have hc : t.op = 8 ∨ t.op = 9 ∨ t.op = 10 ∨ t.op = 11 ∨ t.op = 12 ∨ t.op = 13 ∨ t.op = 14 ∨ t.op = 15 := by omega
  have eA : binP false .add (eI a) (eI b) = some (eI (a + b)) := b_add (by omega) (by omega)
  have eS' : binP false .sub (eI a) (eI b) = some (eI (a - b)) := b_sub (by omega) (by omega)
  have htr' : ∀ x y : Int, ref30_truthL n [eB (x == y)] = some (eI (tr (x == y))) := fun _ _ => htr _
  generalize t.op = op at *
  rcases hc with rfl | rfl | rfl | rfl | rfl | rfl | rfl | rfl
  · by_cases ha0 : a = 0
    · simp [ref30_value, ca, c0, c1, c2, c3, hloop, es, htr, hfar, opR, htrue, n0, n1, ha0]
    · have hb0 : (a == 0) = false := by simpa using ha0
      simp [ref30_value, ca, c0, c1, c2, c3, hloop, es, htr, hfar, opR, htrue, n0, n1, ha0, hb0]
  all_goals simp [ref30_value, ca, c0, c1, c2, c3, hloop, es, htr, hfar, opR, htrue, n0, n1, eA, eS']
end Go.Am
namespace Go.Am
set_option linter.unusedVariables false
set_option linter.unusedSimpArgs false
theorem room8 {a b : Nat} (h : a + b ≤ 1000) : roomP (a + b) 8 = true := roomP_ok (by omega) (by omega)
theorem leafV_idx {vs : List V} {nx : Bool} {t : Tm} (h : (leafV vs nx t).2 = 0) (h3 : 3 ≤ t.op) : ∃ i, idxV vs t.name = some i := by
  unfold leafV at h
  rw [if_neg (by omega), if_neg (by omega)] at h
  cases hi : idxV vs t.name with
  | none => rw [hi] at h; cases h
  | some i => exact ⟨i, rfl⟩
theorem typL_kid {vs : List V} {nx : Bool} : ∀ {l : List Tm}, (typL vs nx l).2 = 0 → ∀ k ∈ l, (typ vs nx k).2 = 0
  | [], _, k, hk => by cases hk
  | t :: r, h, k, hk => by
    rw [typL] at h
    by_cases h1 : (typ vs nx t).2 = 0
    case neg => rw [if_pos h1] at h; exact absurd h h1
    rw [if_neg (by simpa using h1)] at h
    by_cases h2 : (typL vs nx r).2 = 0
    case neg => rw [if_pos h2] at h; exact absurd h h2
    rcases List.mem_cons.1 hk with rfl | hk
    · exact h1
    · exact typL_kid h2 k hk
theorem typ_kid {vs : List V} {nx : Bool} {t k : Tm} (hv : Valid t) (h : (typ vs nx t).2 = 0) (hk : k ∈ t.kids) : (typ vs nx k).2 = 0 := by
  rw [typ_eq] at h
  by_cases h4 : t.op ≤ 4
  · rw [hv.leaf h4] at hk; cases hk
  rw [if_neg h4] at h
  by_cases h0 : (typL vs nx t.kids).2 = 0
  · exact typL_kid h0 k hk
  · rw [if_pos h0] at h; exact absurd h h0
theorem idx_of_len {vs : List V} {i : Nat} {l : List Int} (h : i < vs.length) (hl : l.length = vs.length) : ∃ x, l[i]? = some x := ⟨_, List.getElem?_eq_getElem (by omega)⟩
@[simp] theorem eIs_snoc (p : List Int) (x : Int) : D.sl 1 (esD (eIs p) ++ [[eI x]]) = eIs (p ++ [x]) := by simp [eIs]
@[simp] theorem eIs_eslen (p : List Int) : (esD (eIs p)).length = p.length := by simp [eIs]
@[simp] theorem eIs_again (p : List Int) : D.sl 1 (esD (eIs p)) = eIs p := rfl
theorem ref30_value_ok (vs : List V) (nx : Bool) (s nn : List Int) (hvs : vs.length < 1000000000000) (hs : s.length = vs.length) : ∀ (n : Nat) (t : Tm), t.sz + 200 + vs.length < n → t.Ok → Valid t → (typ vs nx t).2 = 0 → (steps t = true → nn.length = vs.length) →
    ref30_valueL n [eVs vs, t.d, eIs s, eIs nn] = some (.tup [eI (valR vs s nn t).1, eB (valR vs s nn t).2])
  | 0, t, h, _, _, _, _ => absurd h (Nat.not_lt_zero _)
  | n + 1, t, hn, hok, hv, ht, hst => by
    have hop := hv.op
    have h64 := hv.len64
    rw [valR_eq]
    show ref30_value (ref30_valueL n) n (eVs vs) t.d (eIs s) (eIs nn) = _
    by_cases h4 : t.op ≤ 4
    · rw [if_pos h4]
      rw [typ_eq, if_pos h4] at ht
      have c0 := Tm.cel0 t
      have c1 := Tm.cel1 t
      have c2 := Tm.cel2 t
      have c3 := Tm.cel3 t
      have ca := Tm.aggP_d t
      have htr := ref30_truth_ok n
      have hfar := ref30_far_ok n
      by_cases h2 : t.op ≤ 2
      · unfold leafR
        rw [if_pos h2]
        have hc : t.op = 1 ∨ t.op = 2 := by omega
        generalize t.op = op at *
        rcases hc with rfl | rfl <;> simp [ref30_value, ca, c0, c1, c2, c3]
      obtain ⟨i, hi⟩ := leafV_idx ht (by omega)
      obtain ⟨v, v1, v2, v3⟩ := idxV_lt hi
      have hx := ref30_Index_ok n vs t.name (by omega) hvs
      rw [hi] at hx
      have hlen : (if t.op = 4 then nn else s).length = vs.length := by
        by_cases h : t.op = 4
        · rw [if_pos h]; exact hst (by rw [steps_eq, h]; rfl)
        · rw [if_neg h]; exact hs
      have hil : idxL vs s nn t = some i := by unfold idxL; rw [if_pos hlen, hi]
      obtain ⟨x, hxx⟩ := idx_of_len v3 hlen
      unfold leafR
      rw [if_neg h2, hil]
      simp only [v1, hxx]
      have hc : t.op = 3 ∨ t.op = 4 := by omega
      generalize t.op = op at *
      rcases hc with rfl | rfl
      · simp only [show ¬ ((3 : Int) = 4) by omega, if_false] at hxx
        cases hb : v.bool <;> simp [ref30_value, ca, c0, c1, c2, c3, hx, eVs_ix v1, v.atc, eIs_ix hxx, htr, hfar, hb]
      · simp only [if_true] at hxx
        cases hb : v.bool <;> simp [ref30_value, ca, c0, c1, c2, c3, hx, eVs_ix v1, v.atc, eIs_ix hxx, htr, hfar, hb]
    rw [if_neg h4]
    have hst' : ∀ k ∈ t.kids, steps k = true → nn.length = vs.length := fun k hk h => by
      refine hst ?_
      cases hq : stepsL t.kids with
      | true => rw [steps_eq, hq, Bool.or_true]
      | false => rw [stepsL_mem hk hq] at h; cases h
    have hl := iterL_list (f := ref30_value_l18 (ref30_valueL n) n) t.kids (fun i (p : List Int) => [eVs vs, eIs s, eIs nn, eI (if t.op = 6 ∨ t.op = 7 then p.sum else 0), eI (i : Int), eI t.op, eI t.num, eS t.name, rowD 4 t.nl (Tm.rows t.kids), eIs p])
      (fun r p => match valL vs s nn r with
        | some l => (Sum.inl [eI (if t.op = 6 ∨ t.op = 7 then (p ++ l).sum else 0), eI t.op, eI t.num, eS t.name, rowD 4 t.nl (Tm.rows t.kids), eIs (p ++ l)] : List D ⊕ D)
        | none => .inr (.tup [eI 0, eB false]))
      (fun i p => p.length = i ∧ ∀ v ∈ p, inR v = true) ?_ ?_ n 0 [] ⟨rfl, by simp⟩ (by omega) (Nat.zero_le _)
    · have e0 : (eI ((0 : Nat) : Int)) = eI 0 := rfl
      have e1 : eIs [] = .sl 1 [] := rfl
      rw [e0, e1] at hl
      simp only [List.sum_nil, ite_self, List.drop_zero, List.nil_append] at hl
      cases hvl : valL vs s nn t.kids with
      | none =>
        rw [hvl] at hl
        have b1 : (t.op == 1) = false := by simp; omega
        have b2 : (t.op == 2) = false := by simp; omega
        have b3 : (t.op == 3) = false := by simp; omega
        have b4 : (t.op == 4) = false := by simp; omega
        simp [ref30_value, b1, b2, b3, b4, hl]
      | some l =>
        rw [hvl] at hl
        obtain ⟨g1, g2, g3, g4⟩ := argsOk (nx := nx) hv ht (by omega) hvl
        exact ref30_value_op (ref30_valueL n) n vs s nn t l hv g1 (by omega) g2 g3 g4 hl
    · intro p hp
      simp [ref30_value_l18, valL]
    · intro i a p ha hi hp
      have hm := List.mem_of_getElem? ha
      have hz := Tm.sz_kid hm
      have hr := ref30_value_ok vs nx s nn hvs hs n a (by omega) (hok.kid hm) (hv.kid hm) (typ_kid hv ht hm) (hst' a hm)
      have hrm : roomP (p.length + 1) 8 = true := room8 (by omega)
      by_cases h0 : (valR vs s nn a).2 = true
      · left
        have hin := valR_in (hv.kid hm) h0
        refine ⟨p ++ [(valR vs s nn a).1], ?_, ?_, by simp [hp.1], ?_⟩
        · have hb1 := sum_bd p hp.2
          have hb2 := (inR_iff _).1 hin
          have hadd : binP false .add (eI p.sum) (eI (valR vs s nn a).1) = some (eI (p.sum + (valR vs s nn a).1)) := b_add (by omega) (by omega)
          by_cases h67 : t.op = 6 ∨ t.op = 7
          · have hc6 : (if t.op = 6 then true else decide (t.op = 7)) = true := by rcases h67 with h | h <;> simp [h]
            rcases h67 with h | h
            · simp [ref30_value_l18, hi, Tm.ixP_kid ha, hr, h0, add1 (bt := false) (i := i) (by omega), hrm, h, hadd]
            · simp [ref30_value_l18, hi, Tm.ixP_kid ha, hr, h0, add1 (bt := false) (i := i) (by omega), hrm, h, hadd]
          · have h6 : ¬ t.op = 6 := fun h => h67 (.inl h)
            have h7 : ¬ t.op = 7 := fun h => h67 (.inr h)
            simp [ref30_value_l18, hi, Tm.ixP_kid ha, hr, h0, add1 (bt := false) (i := i) (by omega), hrm, h6, h7]
        · rw [valL, if_pos h0]
          cases valL vs s nn (t.kids.drop (i + 1)) with
          | none => rfl
          | some l => simp
        · intro v hv'
          rcases List.mem_append.1 hv' with h | h
          · exact hp.2 v h
          · simp at h; rw [h]; exact hin
      · right
        rw [valL, if_neg h0]
        have h0' : (valR vs s nn a).2 = false := by simpa using h0
        simp [ref30_value_l18, hi, Tm.ixP_kid ha, hr, h0']
theorem lookS0 {M : List (Value × D)} (h : SM M) {z : Value} {x : ByteArray} : lookP .string z false M (eS x) = some (match getS M x with | some d => d | none => zeroD z) := by
  simp only [lookP, eS, findD_str h]
  cases getS M x <;> rfl
theorem resD_0 (p : Int × Bool) : extP 0 (resD p) = some (eI (if p.2 = true then p.1 else 0)) := by obtain ⟨v, o⟩ := p; cases o <;> simp [resD]
theorem resD_1 (p : Int × Bool) : extP 1 (resD p) = some (eB p.2) := by obtain ⟨v, o⟩ := p; cases o <;> simp [resD]
theorem resD_t (p : Int × Bool) : D.tup [eI (if p.2 = true then p.1 else 0), eB p.2] = resD p := by obtain ⟨v, o⟩ := p; cases o <;> simp [resD]
theorem resD_flat (p : Int × Bool) : (resD p).flat = true := by obtain ⟨v, o⟩ := p; cases o <;> rfl
theorem terms_down_ok (vs : List V) (nx : Bool) (s nn : List Int) (M : List (Value × D)) (hM : NM M vs) (hvs : vs.length < 1000000000000) (hs : s.length = vs.length) (hin : ∀ v, v ∈ s ∨ v ∈ nn → -9223372036854775808 ≤ v ∧ v ≤ 9223372036854775807) : ∀ (n : Nat) (t : Tm), t.sz + 200 < n → t.Ok → Valid t → (typ vs nx t).2 = 0 →
    terms_Eval_1_hL n [t.d, eIs s, .mp M, eIs nn, eVs vs] = some [resD (valR vs s nn t), eIs s, .mp M, eIs nn, eVs vs]
  | 0, t, h, _, _, _ => absurd h (Nat.not_lt_zero _)
  | n + 1, t, hn, hok, hv, ht => by
    have hop := hv.op
    have h64 := hv.len64
    rw [valR_eq]
    show terms_Eval_1_h (terms_Eval_1_hL n) n [t.d, eIs s, .mp M, eIs nn, eVs vs] = _
    have hl := iterL_list (f := terms_Eval_1_h_l3 (terms_Eval_1_hL n) n) t.kids (fun i (p : List Int) => [rowD 4 t.nl (Tm.rows t.kids), eI t.kids.length, eI (i : Int), eIs s, .mp M, eIs nn, eVs vs, eI t.op, eI t.num, eS t.name, rowD 4 t.nl (Tm.rows t.kids), eIs p])
      (fun r p => match valL vs s nn r with
        | some l => (Sum.inl [eIs s, .mp M, eIs nn, eVs vs, eI t.op, eI t.num, eS t.name, rowD 4 t.nl (Tm.rows t.kids), eIs (p ++ l)] : List D ⊕ List D)
        | none => .inr [.tup [eI 0, eB false], eIs s, .mp M, eIs nn, eVs vs])
      (fun i p => p.length = i) ?_ ?_ n 0 [] rfl (by omega) (Nat.zero_le _)
    · have e0 : (eI ((0 : Nat) : Int)) = eI 0 := rfl
      have e1 : eIs [] = .sl 1 [] := rfl
      have hrf : D.tup [eI 0, eB false] = resD (0, false) := rfl
      rw [e0, e1] at hl
      simp only [List.drop_zero, List.nil_append] at hl
      have c0 := Tm.cel0 t
      have c1 := Tm.cel1 t
      have c2 := Tm.cel2 t
      have c3 := Tm.cel3 t
      have ca := Tm.aggP_d t
      by_cases h4 : t.op ≤ 4
      · rw [if_pos h4]
        rw [typ_eq, if_pos h4] at ht
        have hk := hv.leaf h4
        rw [hk] at hl
        have z0 : ((([] : List Tm).length : Nat) : Int) = 0 := rfl
        simp only [valL, List.append_nil, z0] at hl
        have e1' : D.sl 1 [] = eIs [] := rfl
        have htr := terms_truth_ok n
        by_cases h2 : t.op ≤ 2
        · unfold leafR
          rw [if_pos h2]
          have hc : t.op = 1 ∨ t.op = 2 := by omega
          generalize t.op = op at *
          rcases hc with rfl | rfl <;> simp [terms_Eval_1_h, ca, c0, c1, c2, c3, hk, hl, resD]
        obtain ⟨i, hi⟩ := leafV_idx ht (by omega)
        obtain ⟨v, v1, v2, v3⟩ := idxV_lt hi
        have hlk := lookS0 hM.1 (z := .int .i64 0) (x := t.name)
        rw [hM.2, hi] at hlk
        simp only [Option.map_some] at hlk
        have hent : entP (.mp M) = some M := rfl
        unfold leafR
        rw [if_neg h2]
        have hc : t.op = 3 ∨ t.op = 4 := by omega
        have hb34 : (t.op == 3 || t.op == 4) = true := by rcases hc with h | h <;> simp [h]
        by_cases hlen : (if t.op = 4 then nn else s).length = vs.length
        · have hil : idxL vs s nn t = some i := by unfold idxL; rw [if_pos hlen, hi]
          obtain ⟨x, hxx⟩ := idx_of_len v3 hlen
          have hxm := List.mem_of_getElem? hxx
          rw [hil]
          simp only [v1, hxx]
          have hsum : heldD (x + 0) true = resD (x, inR x) := by rw [resD_held, Int.add_zero]
          generalize t.op = op at *
          rcases hc with rfl | rfl
          · simp only [show ¬ ((3 : Int) = 4) by omega, if_false] at hxx hxm hlen
            have hA := num_Add_ok n x 0 (hin x (.inl hxm)) (by omega)
            rw [hsum] at hA
            cases hb : v.bool <;> simp [terms_Eval_1_h, ca, c0, c1, c2, c3, hk, hl, hent, hlk, eIs_lenP, eVs_len, hlen, eVs_ix v1, v.atc, eIs_ix hxx, htr, hb, hA, resD_0, resD_1, resD_t] <;> (try exact resD_t (x, inR x)) <;> (try rfl)
          · simp only [if_true] at hxx hxm hlen
            have hA := num_Add_ok n x 0 (hin x (.inr hxm)) (by omega)
            rw [hsum] at hA
            cases hb : v.bool <;> simp [terms_Eval_1_h, ca, c0, c1, c2, c3, hk, hl, hent, hlk, eIs_lenP, eVs_len, hlen, eVs_ix v1, v.atc, eIs_ix hxx, htr, hb, hA, resD_0, resD_1, resD_t] <;> (try exact resD_t (x, inR x)) <;> (try rfl)
        · have hil : idxL vs s nn t = none := by unfold idxL; rw [if_neg hlen]
          rw [hil]
          have h4' : t.op = 4 := by
            refine hc.resolve_left fun h => hlen ?_
            rw [if_neg (by omega)]; exact hs
          rw [if_pos h4'] at hlen
          generalize t.op = op at *
          subst h4'
          have hne : ¬ ((nn.length : Int) = (vs.length : Int)) := by omega
          simp [terms_Eval_1_h, ca, c0, c1, c2, c3, hk, hl, hent, hlk, eIs_lenP, eVs_len, hlen, hne] <;> (try rfl)
      · rw [if_neg h4]
        have b1 : (t.op == 1) = false := by simp; omega
        have b2 : (t.op == 2) = false := by simp; omega
        have b3 : (t.op == 3) = false := by simp; omega
        have b4 : (t.op == 4) = false := by simp; omega
        cases hvl : valL vs s nn t.kids with
        | none =>
          rw [hvl] at hl
          simp [terms_Eval_1_h, ca, c0, c1, c2, c3, hl] <;> (try rfl)
        | some l =>
          rw [hvl] at hl
          obtain ⟨g1, g2, g3, g4⟩ := argsOk (nx := nx) hv ht (by omega) hvl
          have hj := terms_joined_ok n t l hv g1 (by omega) g2 (by omega) g3 g4
          simp [terms_Eval_1_h, ca, c0, c1, c2, c3, hl, b1, b2, b3, b4, hj, resD_flat, resD_0, resD_1, resD_t]
    · intro p hp
      simp [terms_Eval_1_h_l3, valL]
    · intro i a p ha hi hp
      have hm := List.mem_of_getElem? ha
      have hz := Tm.sz_kid hm
      have hr := terms_down_ok vs nx s nn M hM hvs hs hin n a (by omega) (hok.kid hm) (hv.kid hm) (typ_kid hv ht hm)
      have hrm : roomP (p.length + 1) 8 = true := room8 (by omega)
      by_cases h0 : (valR vs s nn a).2 = true
      · left
        refine ⟨p ++ [(valR vs s nn a).1], ?_, ?_, by simp [hp]⟩
        · simp [terms_Eval_1_h_l3, hi, Tm.ixP_kid ha, hr, h0, add1 (bt := false) (i := i) (by omega), hrm, resD_0, resD_1]
        · rw [valL, if_pos h0]
          cases valL vs s nn (t.kids.drop (i + 1)) with
          | none => rfl
          | some l => simp
      · right
        rw [valL, if_neg h0]
        have h0' : (valR vs s nn a).2 = false := by simpa using h0
        simp [terms_Eval_1_h_l3, hi, Tm.ixP_kid ha, hr, h0', resD_0, resD_1]
theorem ref30_Steps_ok : ∀ (n : Nat) (t : Tm), t.sz < n → t.Ok → ref30_StepsL n [t.d] = some (eB (steps t))
  | 0, t, h, _ => absurd h (Nat.not_lt_zero _)
  | n + 1, t, hn, hok => by
    have hlen := hok.len
    rw [steps_eq]
    have hl := iterL_list (f := ref30_Steps_l4 (ref30_StepsL n) n) t.kids (fun i (_ : Unit) => [eI (i : Int), eI t.op, eI t.num, eS t.name, rowD 4 t.nl (Tm.rows t.kids)])
      (fun r _ => if stepsL r = true then (Sum.inr (eB true) : List D ⊕ D) else .inl []) (fun _ _ => True)
      (fun _ _ => by simp [ref30_Steps_l4, stepsL]) ?_ n 0 () trivial (by have := t.sz_len; omega) (Nat.zero_le _)
    · have e0 : (eI ((0 : Nat) : Int)) = eI 0 := rfl
      rw [e0] at hl
      simp only [List.drop_zero] at hl
      by_cases h4 : t.op = 4
      · simp [ref30_StepsL, ref30_Steps, h4]
      · have b4 : (t.op == 4) = false := by simpa using h4
        cases hs : stepsL t.kids <;> simp [ref30_StepsL, ref30_Steps, h4, hl, hs]
    · intro i a _ ha hi _
      have hm := List.mem_of_getElem? ha
      have hz := Tm.sz_kid hm
      have hr := ref30_Steps_ok n a (by omega) (hok.kid hm)
      cases hs : steps a
      · left
        exact ⟨(), by simp [ref30_Steps_l4, hi, Tm.ixP_kid ha, hr, hs, add1 (bt := false) (i := i) (by omega)], by simp [stepsL, hs], trivial⟩
      · right
        simp [ref30_Steps_l4, hi, Tm.ixP_kid ha, hr, hs, stepsL]
theorem valL_kid {vs : List V} {s nn : List Int} : ∀ {l : List Tm} {r : List Int}, valL vs s nn l = some r → ∀ k ∈ l, (valR vs s nn k).2 = true
  | [], _, _, k, hk => by cases hk
  | t :: q, r, h, k, hk => by
    rw [valL] at h
    by_cases h1 : (valR vs s nn t).2 = true
    case neg => rw [if_neg h1] at h; cases h
    rw [if_pos h1] at h
    cases h2 : valL vs s nn q with
    | none => rw [h2] at h; cases h
    | some l =>
      rcases List.mem_cons.1 hk with rfl | hk
      · exact h1
      · exact valL_kid h2 k hk
theorem stepsL_some : ∀ {l : List Tm}, stepsL l = true → ∃ k ∈ l, steps k = true
  | a :: r, h => by
    rw [stepsL] at h
    cases ha : steps a with
    | true => exact ⟨a, by simp, ha⟩
    | false =>
      rw [ha, Bool.false_or] at h
      obtain ⟨k, h1, h2⟩ := stepsL_some h
      exact ⟨k, by simp [h1], h2⟩
/-- A name of the next state, and no such state: no value. -/
theorem valR_none {vs : List V} {s nn : List Int} (hne : nn.length ≠ vs.length) (t : Tm) : Valid t → steps t = true → (valR vs s nn t).2 = false := by
  refine Tm.ind (P := fun t => Valid t → steps t = true → (valR vs s nn t).2 = false) ?_ t
  intro t ih hv h
  rw [valR_eq]
  rw [steps_eq] at h
  by_cases h4 : t.op ≤ 4
  · rw [if_pos h4]
    have h4' : t.op = 4 := by
      rw [hv.leaf h4] at h
      simpa [stepsL] using h
    unfold leafR
    rw [if_neg (by omega)]
    have : idxL vs s nn t = none := by unfold idxL; rw [if_pos h4', if_neg hne]
    rw [this]
  · rw [if_neg h4]
    have hb : (t.op == 4) = false := by simp; omega
    rw [hb, Bool.false_or] at h
    obtain ⟨k, h1, h2⟩ := stepsL_some h
    cases hl : valL vs s nn t.kids with
    | none => rfl
    | some l =>
      have := valL_kid hl k h1
      rw [ih k h1 (hv.kid h1) h2] at this
      cases this
/-- What Eval answers. -/
def evalR (vs : List V) (t : Tm) (s nn : List Int) : Int × Bool :=
  if (typeR vs true t).2 ≠ 0 ∨ s.length ≠ vs.length then (0, false) else valR vs s nn t
theorem typeR_ok {vs : List V} {nx : Bool} {t : Tm} (h : (typeR vs nx t).2 = 0) : Valid t ∧ (typ vs nx t).2 = 0 := by
  unfold typeR at h
  by_cases hc : (chk t 1 0).1 = 0
  · rw [if_neg (by simpa using hc)] at h; exact ⟨⟨1, 0, hc⟩, h⟩
  · rw [if_pos hc] at h; exact absurd h hc
theorem terms_Eval_ok (n : Nat) (vs : List V) (t : Tm) (s nn : List Int) (hn : t.sz + 200 + vs.length < n) (hok : t.Ok) (hvs : vs.length < 1000000000000) (hin : ∀ v, v ∈ s ∨ v ∈ nn → -9223372036854775808 ≤ v ∧ v ≤ 9223372036854775807) :
    terms_EvalL n [eVs vs, t.d, eIs s, eIs nn] = some (resD (evalR vs t s nn)) := by
  have h1 := terms_Type_ok n vs t true hn hok hvs
  obtain ⟨M, m1, m2⟩ := terms_names_ok n vs (by omega) hvs
  have o1 : oneP (eVs vs) = true := rfl
  have o2 : ∀ l, oneP (eIs l) = true := fun _ => rfl
  have hrf : D.tup [eI 0, eB false] = resD (0, false) := rfl
  unfold evalR
  by_cases ht : (typeR vs true t).2 = 0
  · by_cases hs : s.length = vs.length
    · obtain ⟨hv, hty⟩ := typeR_ok ht
      have hd := terms_down_ok vs true s nn M m2 hvs hs hin n t (by omega) hok hv hty
      have hsi : ((s.length : Int) != (vs.length : Int)) = false := by simp [hs]
      simp [terms_EvalL, terms_Eval, o1, o2, h1, ht, hs, eIs_lenP, eVs_len, m1, hd, resD_0, resD_1, resD_t]
    · have hsi : ¬ ((s.length : Int) = (vs.length : Int)) := by omega
      simp [terms_EvalL, terms_Eval, o1, o2, h1, ht, hs, eIs_lenP, eVs_len, hsi]
      exact hrf
  · simp [terms_EvalL, terms_Eval, o1, o2, h1, ht]
    exact hrf
theorem ref30_Eval_ok (n : Nat) (vs : List V) (t : Tm) (s nn : List Int) (hn : t.sz + 200 + vs.length < n) (hok : t.Ok) (hvs : vs.length < 1000000000000) :
    ref30_EvalL n [eVs vs, t.d, eIs s, eIs nn] = some (resD (evalR vs t s nn)) := by
  have h1 := ref30_Type_ok n vs t true hn hok hvs
  have h2 := ref30_Steps_ok n t (by omega) hok
  have hrf : D.tup [eI 0, eB false] = resD (0, false) := rfl
  unfold evalR
  by_cases ht : (typeR vs true t).2 = 0
  · by_cases hs : s.length = vs.length
    · obtain ⟨hv, hty⟩ := typeR_ok ht
      by_cases hst : steps t = true ∧ nn.length ≠ vs.length
      · have hv0 := valR_none (s := s) hst.2 t hv hst.1
        have hni : ¬ ((nn.length : Int) = (vs.length : Int)) := by have := hst.2; omega
        have hr : resD (valR vs s nn t) = .tup [eI 0, eB false] := by unfold resD; rw [if_neg (by simp [hv0])]
        simp [ref30_EvalL, ref30_Eval, h1, h2, ht, hs, eIs_lenP, eVs_len, hst.1, hni, hr]
      · have hd := ref30_value_ok vs true s nn hvs hs n t hn hok hv hty (fun h => by
          refine Classical.byContradiction fun hc => hst ⟨h, hc⟩)
        have hr : resD (valR vs s nn t) = if (valR vs s nn t).2 = true then .tup [eI (valR vs s nn t).1, eB true] else .tup [eI 0, eB false] := rfl
        by_cases hs4 : steps t = true
        · have hnl : nn.length = vs.length := Classical.byContradiction fun hc => hst ⟨hs4, hc⟩
          cases hb : (valR vs s nn t).2 <;> simp [ref30_EvalL, ref30_Eval, h1, h2, ht, hs, eIs_lenP, eVs_len, hs4, hnl, hd, hb, hr]
        · have hs4' : steps t = false := by simpa using hs4
          cases hb : (valR vs s nn t).2 <;> simp [ref30_EvalL, ref30_Eval, h1, h2, ht, hs, eIs_lenP, eVs_len, hs4', hd, hb, hr]
    · have hsi : ¬ ((s.length : Int) = (vs.length : Int)) := by omega
      simp [ref30_EvalL, ref30_Eval, h1, h2, ht, hs, eIs_lenP, eVs_len, hsi]
      exact hrf
  · simp [ref30_EvalL, ref30_Eval, h1, h2, ht]
    exact hrf
theorem TermsEvals_ok (n : Nat) (vs : List V) (t : Tm) (s nn : List Int) (hok : t.Ok) (hn : t.sz + 500 < n) (hin : ∀ v, v ∈ s ∨ v ∈ nn → -9223372036854775808 ≤ v ∧ v ≤ 9223372036854775807) :
    law30_TermsEvalsL n [eVs vs, t.d, eIs s, eIs nn] = some (eB true) := by
  obtain ⟨n', rfl⟩ : ∃ q, n = q + 200 := ⟨n - 200, by omega⟩
  have hL := lives30_ok n'
  generalize n' + 200 = n at *
  have h1 := law30_Light_ok n t (by omega) hok
  have h2 := law30_few_ok n vs
  have e1 := eIs_lenP s
  have e2 := eIs_lenP nn
  by_cases hc : vs.length ≤ 20
  · have h3 := terms_Eval_ok n vs t s nn (by omega) hok (by omega) hin
    have h4 := ref30_Eval_ok n vs t s nn (by omega) hok (by omega)
    by_cases c1 : (s.length : Int) > 40
    · have c1' : decide ((s.length : Int) > 40) = true := decide_eq_true c1
      cases hb : lightB t <;> simp -implicitDefEqProofs [law30_TermsEvalsL, law30_TermsEvals, hL, h1, h2, hc, e1, e2, hb, c1]
    · by_cases c2 : (nn.length : Int) > 40
      · cases hb : lightB t <;> simp -implicitDefEqProofs [law30_TermsEvalsL, law30_TermsEvals, hL, h1, h2, hc, e1, e2, hb, c1, c2]
      · cases hb : lightB t <;> simp -implicitDefEqProofs [law30_TermsEvalsL, law30_TermsEvals, hL, h1, h2, hc, e1, e2, hb, c1, c2, h3, h4, resD_0, resD_1]
  · cases hb : lightB t <;> simp -implicitDefEqProofs [law30_TermsEvalsL, law30_TermsEvals, hL, h1, h2, hc, e1, e2, hb]
end Go.Am
namespace Go.Am
set_option linter.unusedVariables false
set_option linter.unusedSimpArgs false
/-! ### Same -/
mutual
def sameT : Tm → Tm → Bool
  | .mk o n s _ ks, u => decide (o = u.op) && decide (n = u.num) && decide (s = u.name) && decide (ks.length = u.kids.length) && sameL ks u.kids
def sameL : List Tm → List Tm → Bool
  | a :: r, b :: q => sameT a b && sameL r q
  | [], _ => true
  | _ :: _, [] => true
end
theorem sameT_eq (t u : Tm) : sameT t u = (decide (t.op = u.op) && decide (t.num = u.num) && decide (t.name = u.name) && decide (t.kids.length = u.kids.length) && sameL t.kids u.kids) := by cases t; rw [sameT]; rfl
theorem same_cond (t u : Tm) : (t.op = u.op ∧ t.num = u.num ∧ t.name = u.name ∧ t.kids.length = u.kids.length) ∨ (sameT t u = false ∧ ¬ (t.op = u.op ∧ t.num = u.num ∧ t.name = u.name ∧ t.kids.length = u.kids.length)) := by
  by_cases h : t.op = u.op ∧ t.num = u.num ∧ t.name = u.name ∧ t.kids.length = u.kids.length
  · exact .inl h
  · refine .inr ⟨?_, h⟩
    rw [sameT_eq]
    by_cases h1 : t.op = u.op
    · by_cases h2 : t.num = u.num
      · by_cases h3 : t.name = u.name
        · have h4 : ¬ t.kids.length = u.kids.length := fun h4 => h ⟨h1, h2, h3, h4⟩
          simp [h4]
        · simp [h3]
      · simp [h2]
    · simp [h1]
theorem ref30_Same_ok : ∀ (n : Nat) (t u : Tm), t.sz < n → t.Ok → u.Ok → ref30_SameL n [t.d, u.d] = some (eB (sameT t u))
  | 0, t, _, h, _, _ => absurd h (Nat.not_lt_zero _)
  | n + 1, t, u, hn, hok, hou => by
    have hlen := hok.len
    show ref30_Same (ref30_SameL n) n t.d u.d = _
    rcases same_cond t u with ⟨h1, h2, h3, h4⟩ | ⟨hf, hc⟩
    · have hl := iterL_list (f := ref30_Same_l4 (ref30_SameL n) n) t.kids (fun i (_ : Unit) => [eI (i : Int), eI t.op, eI t.num, eS t.name, rowD 4 t.nl (Tm.rows t.kids), eI u.op, eI u.num, eS u.name, rowD 4 u.nl (Tm.rows u.kids)])
        (fun r _ => if sameL r (u.kids.drop (t.kids.length - r.length)) = true then (.inl [] : List D ⊕ D) else .inr (eB false)) (fun _ _ => True)
        (fun _ _ => by simp [ref30_Same_l4, sameL]) ?_ n 0 () trivial (by have := t.sz_len; omega) (Nat.zero_le _)
      · have e0 : (eI ((0 : Nat) : Int)) = eI 0 := rfl
        rw [e0] at hl
        simp only [List.drop_zero, Nat.sub_self] at hl
        have hst : sameT t u = sameL t.kids u.kids := by rw [sameT_eq]; simp [h1, h2, h3, h4]
        rw [hst]
        cases hs : sameL t.kids u.kids <;> rw [hs] at hl <;> rw [h1, h2, h3] at hl <;> simp [ref30_Same, h1, h2, h3, h4, hl]
      · intro i a _ ha hi _
        have hm := List.mem_of_getElem? ha
        have hz := Tm.sz_kid hm
        have hiu : i < u.kids.length := by omega
        have hb := List.getElem?_eq_getElem hiu
        have hr := ref30_Same_ok n a u.kids[i] (by omega) (hok.kid hm) (hou.kid (List.getElem_mem hiu))
        have e : t.kids.length - (a :: t.kids.drop (i + 1)).length = i := by simp; omega
        have e' : t.kids.length - (t.kids.drop (i + 1)).length = i + 1 := by rw [List.length_drop]; omega
        have ed : u.kids.drop i = u.kids[i] :: u.kids.drop (i + 1) := List.drop_eq_getElem_cons hiu
        rw [e, ed, sameL, e']
        cases hs : sameT a u.kids[i]
        · right
          simp [ref30_Same_l4, hi, Tm.ixP_kid ha, Tm.ixP_kid hb, hr, hs]
        · left
          exact ⟨(), by simp [ref30_Same_l4, hi, Tm.ixP_kid ha, Tm.ixP_kid hb, hr, hs, add1 (bt := false) (i := i) (by omega)], by simp, trivial⟩
    · rw [hf]
      by_cases h1 : t.op = u.op <;> by_cases h2 : t.num = u.num <;> by_cases h3 : t.name = u.name <;> simp [ref30_Same, h1, h2, h3]
      have h4 : ¬ ((t.kids.length : Int) = (u.kids.length : Int)) := fun h4 => hc ⟨h1, h2, h3, by omega⟩
      simp [h4]
theorem terms_Same_ok : ∀ (n : Nat) (t u : Tm), t.sz < n → t.Ok → u.Ok → terms_SameL n [t.d, u.d] = some (eB (sameT t u))
  | 0, t, _, h, _, _ => absurd h (Nat.not_lt_zero _)
  | n + 1, t, u, hn, hok, hou => by
    have hlen := hok.len
    show terms_Same (terms_SameL n) n t.d u.d = _
    rcases same_cond t u with ⟨h1, h2, h3, h4⟩ | ⟨hf, hc⟩
    · have hl := iterL_list (f := terms_Same_l4 (terms_SameL n) n) t.kids (fun i (_ : Unit) => [rowD 4 t.nl (Tm.rows t.kids), eI t.kids.length, eI (i : Int), eI u.op, eI u.num, eS u.name, rowD 4 u.nl (Tm.rows u.kids)])
        (fun r _ => if sameL r (u.kids.drop (t.kids.length - r.length)) = true then (.inl [] : List D ⊕ D) else .inr (eB false)) (fun _ _ => True)
        (fun _ _ => by simp [terms_Same_l4, sameL]) ?_ n 0 () trivial (by have := t.sz_len; omega) (Nat.zero_le _)
      · have e0 : (eI ((0 : Nat) : Int)) = eI 0 := rfl
        rw [e0] at hl
        simp only [List.drop_zero, Nat.sub_self] at hl
        have hst : sameT t u = sameL t.kids u.kids := by rw [sameT_eq]; simp [h1, h2, h3, h4]
        rw [hst]
        rw [h4] at hl
        cases hs : sameL t.kids u.kids <;> rw [hs] at hl <;> simp [terms_Same, h1, h2, h3, h4, hl]
      · intro i a _ ha hi _
        have hm := List.mem_of_getElem? ha
        have hz := Tm.sz_kid hm
        have hiu : i < u.kids.length := by omega
        have hb := List.getElem?_eq_getElem hiu
        have hr := terms_Same_ok n a u.kids[i] (by omega) (hok.kid hm) (hou.kid (List.getElem_mem hiu))
        have e : t.kids.length - (a :: t.kids.drop (i + 1)).length = i := by simp; omega
        have e' : t.kids.length - (t.kids.drop (i + 1)).length = i + 1 := by rw [List.length_drop]; omega
        have ed : u.kids.drop i = u.kids[i] :: u.kids.drop (i + 1) := List.drop_eq_getElem_cons hiu
        rw [e, ed, sameL, e']
        cases hs : sameT a u.kids[i]
        · right
          simp [terms_Same_l4, hi, Tm.ixP_kid ha, Tm.ixP_kid hb, hr, hs]
        · left
          exact ⟨(), by simp [terms_Same_l4, hi, Tm.ixP_kid ha, Tm.ixP_kid hb, hr, hs, add1 (bt := false) (i := i) (by omega)], by simp, trivial⟩
    · rw [hf]
      by_cases h1 : t.op = u.op <;> by_cases h2 : t.num = u.num <;> by_cases h3 : t.name = u.name <;> simp [terms_Same, h1, h2, h3]
      have h4 : ¬ ((t.kids.length : Int) = (u.kids.length : Int)) := fun h4 => hc ⟨h1, h2, h3, by omega⟩
      simp [h4]
mutual
theorem sameT_refl : ∀ t : Tm, sameT t t = true
  | .mk o n s b ks => by rw [sameT]; simp [Tm.op, Tm.num, Tm.name, Tm.kids, sameL_refl ks]
theorem sameL_refl : ∀ l : List Tm, sameL l l = true
  | [] => rfl
  | a :: r => by rw [sameL, sameT_refl a, sameL_refl r]; rfl
end
mutual
theorem sameT_sz : ∀ t u : Tm, sameT t u = true → t.sz = u.sz
  | .mk o n s b ks, .mk o' n' s' b' ks', h => by
    rw [sameT] at h
    simp only [Bool.and_eq_true, decide_eq_true_eq] at h
    have := sameL_sz ks ks' h.1.2 h.2
    simp [Tm.sz, this]
theorem sameL_sz : ∀ l q : List Tm, l.length = q.length → sameL l q = true → Tm.szL l = Tm.szL q
  | [], [], _, _ => rfl
  | a :: r, b :: q, hl, h => by
    rw [sameL, Bool.and_eq_true] at h
    simp [Tm.szL, sameT_sz a b h.1, sameL_sz r q (by simpa using hl) h.2]
  | [], _ :: _, hl, _ => by simp at hl
  | _ :: _, [], hl, _ => by simp at hl
end
/-- No term is a term that holds it. -/
theorem same_above (t : Tm) (o n : Int) (s : ByteArray) (b : Bool) : sameT t (.mk o n s b [t]) = false := by
  cases h : sameT t (.mk o n s b [t]) with
  | false => rfl
  | true =>
    have := sameT_sz _ _ h
    simp [Tm.sz, Tm.szL] at this
    omega
/-! ### Put -/
mutual
def putT (keep : Bool) (nm : ByteArray) (x : Tm) : Tm → Tm
  | .mk o n s b ks => if o = 3 ∧ s = nm then x else .mk o n s (keep && ks.isEmpty && b) (putL keep nm x ks)
def putL (keep : Bool) (nm : ByteArray) (x : Tm) : List Tm → List Tm
  | [] => []
  | t :: r => putT keep nm x t :: putL keep nm x r
end
theorem putT_eq (keep : Bool) (nm : ByteArray) (x t : Tm) : putT keep nm x t = if t.op = 3 ∧ t.name = nm then x else .mk t.op t.num t.name (keep && t.kids.isEmpty && t.nl) (putL keep nm x t.kids) := by cases t; rw [putT]; rfl
theorem putL_map (keep : Bool) (nm : ByteArray) (x : Tm) : ∀ l, putL keep nm x l = l.map (putT keep nm x)
  | [] => rfl
  | t :: r => by rw [putL, putL_map keep nm x r]; rfl
theorem putL_len (keep : Bool) (nm : ByteArray) (x : Tm) (l : List Tm) : (putL keep nm x l).length = l.length := by rw [putL_map]; simp
def eTs (l : List Tm) : D := .sl 4 (Tm.rows l)
@[simp] theorem eTs_snoc (p : List Tm) (a : Tm) : D.sl 4 (esD (eTs p) ++ [[eI a.op, eI a.num, eS a.name, rowD 4 a.nl (Tm.rows a.kids)]]) = eTs (p ++ [a]) := by
  simp [eTs, Tm.rows_map, Tm.cells_eq]
@[simp] theorem eTs_eslen (p : List Tm) : (esD (eTs p)).length = p.length := by simp [eTs]
@[simp] theorem eTs_again (p : List Tm) : D.sl 4 (esD (eTs p)) = eTs p := rfl
theorem mk_d (o n : Int) (s : ByteArray) (l : List Tm) : D.agg [eI o, eI n, eS s, eTs l] = (Tm.mk o n s false l).d := by simp [Tm.d, Tm.cells, eTs, rowD]
theorem makeP0 {by_ n : Nat} (h : n * by_ ≤ 140737488355328) (h' : n ≤ 9223372036854775807) : makeP by_ (eI 0) (eI (n : Int)) = some 0 := by
  have e : ((by_ : Int) * (n : Int)) = ((n * by_ : Nat) : Int) := by rw [Nat.mul_comm]; simp
  simp only [makeP, eI]
  rw [e]
  rw [if_pos (by omega)]
  rfl
theorem Tm.Ok.parts {t : Tm} (h : t.Ok) : (-9223372036854775808 ≤ t.op ∧ t.op ≤ 9223372036854775807) ∧ (-9223372036854775808 ≤ t.num ∧ t.num ≤ 9223372036854775807) ∧ t.name.size ≤ 140737488355328 := by
  cases h with | mk o n s b ks ho hn hs hl hk => exact ⟨ho, hn, hs⟩
theorem putT_ok (keep : Bool) (nm : ByteArray) (x : Tm) (hx : x.Ok) (t : Tm) : t.Ok → (putT keep nm x t).Ok := by
  refine Tm.ind (P := fun t => t.Ok → (putT keep nm x t).Ok) ?_ t
  intro t ih hok
  rw [putT_eq]
  split
  · exact hx
  · obtain ⟨h1, h2, h3⟩ := hok.parts
    refine .mk _ _ _ _ _ h1 h2 h3 (by rw [putL_len]; exact hok.len) ?_
    intro k hk
    rw [putL_map] at hk
    obtain ⟨k', hk', rfl⟩ := List.mem_map.1 hk
    exact ih k' hk' (hok.kid hk')
theorem ref30_Put_ok (nm : ByteArray) (x : Tm) : ∀ (n : Nat) (t : Tm), t.sz < n → t.Ok → ref30_PutL n [t.d, eS nm, x.d] = some (putT false nm x t).d
  | 0, t, h, _ => absurd h (Nat.not_lt_zero _)
  | n + 1, t, hn, hok => by
    have hlen := hok.len
    have x0 := Tm.cel0 x
    show ref30_Put (ref30_PutL n) n t.d (eS nm) x.d = _
    rw [putT_eq]
    have hl := iterL_list (f := ref30_Put_l5 (ref30_PutL n) n) t.kids (fun i (p : List Tm) => [eS nm, eI (i : Int), eI t.op, eI t.num, eS t.name, rowD 4 t.nl (Tm.rows t.kids), eI x.op, eI x.num, eS x.name, rowD 4 x.nl (Tm.rows x.kids), eI 0, eI 0, eS ⟨#[]⟩, NILD, eTs p])
      (fun r p => (.inl [eI t.op, eI t.num, eS t.name, rowD 4 t.nl (Tm.rows t.kids), eI 0, eI 0, eS ⟨#[]⟩, NILD, eTs (p ++ putL false nm x r)] : List D ⊕ D)) (fun i p => p.length = i)
      (fun p _ => by simp [ref30_Put_l5, putL]) ?_ n 0 [] rfl (by have := t.sz_len; omega) (Nat.zero_le _)
    · have e0 : (eI ((0 : Nat) : Int)) = eI 0 := rfl
      have e1 : eTs [] = .sl 4 [] := rfl
      rw [e0, e1] at hl
      simp only [List.drop_zero, List.nil_append] at hl
      by_cases hc : t.op = 3 ∧ t.name = nm
      · rw [if_pos hc]
        simp [ref30_Put, hc.1, hc.2]
      · rw [if_neg hc]
        by_cases h3 : t.op = 3
        · have h4 : ¬ t.name = nm := fun h => hc ⟨h3, h⟩
          rw [h3] at hl
          simp [ref30_Put, h3, h4, hl, mk_d]
        · simp [ref30_Put, h3, hl, mk_d]
    · intro i a p ha hi hp
      have hm := List.mem_of_getElem? ha
      have hz := Tm.sz_kid hm
      have hr := ref30_Put_ok nm x n a (by omega) (hok.kid hm)
      have hrm : roomP (p.length + 1) 56 = true := roomP_ok (by omega) (by omega)
      left
      refine ⟨p ++ [putT false nm x a], ?_, by rw [putL]; simp, by simp [hp]⟩
      simp [ref30_Put_l5, hi, Tm.ixP_kid ha, hr, hrm, add1 (bt := false) (i := i) (by omega)]
theorem terms_Put_ok (nm : ByteArray) (x : Tm) : ∀ (n : Nat) (t : Tm), t.sz < n → t.Ok → terms_PutL n [t.d, eS nm, x.d] = some (putT true nm x t).d
  | 0, t, h, _ => absurd h (Nat.not_lt_zero _)
  | n + 1, t, hn, hok => by
    have hlen := hok.len
    show terms_Put (terms_PutL n) n t.d (eS nm) x.d = _
    rw [putT_eq]
    have hl := iterL_list (f := terms_Put_l7 (terms_PutL n) n) t.kids (fun i (p : List Tm) => [eS nm, rowD 4 t.nl (Tm.rows t.kids), eI t.kids.length, eI (i : Int), eI t.op, eI t.num, eS t.name, rowD 4 t.nl (Tm.rows t.kids), eI x.op, eI x.num, eS x.name, rowD 4 x.nl (Tm.rows x.kids), eI 0, eI 0, eS ⟨#[]⟩, NILD, eTs p])
      (fun r p => (.inl [eI t.op, eI t.num, eS t.name, rowD 4 t.nl (Tm.rows t.kids), eI 0, eI 0, eS ⟨#[]⟩, NILD, eTs (p ++ putL true nm x r)] : List D ⊕ D)) (fun i p => p.length = i)
      (fun p _ => by simp [terms_Put_l7, putL]) ?_ n 0 [] rfl (by have := t.sz_len; omega) (Nat.zero_le _)
    · have e0 : (eI ((0 : Nat) : Int)) = eI 0 := rfl
      have e1 : eTs [] = .sl 4 [] := rfl
      have hmk := makeP0 hlen (by omega)
      rw [e0, e1] at hl
      simp only [List.drop_zero, List.nil_append] at hl
      by_cases hc : t.op = 3 ∧ t.name = nm
      · rw [if_pos hc]
        simp [terms_Put, hc.1, hc.2]
      · rw [if_neg hc]
        by_cases hk : t.kids = []
        · have he : Tm.mk t.op t.num t.name (true && t.kids.isEmpty && t.nl) (putL true nm x t.kids) = t := by
            cases t with | mk o n s b ks => simp only [Tm.kids] at hk; subst hk; simp [Tm.op, Tm.num, Tm.name, Tm.kids, Tm.nl, putL]
          rw [he]
          have hk0 : (t.kids.length : Int) = 0 := by rw [hk]; rfl
          by_cases h3 : t.op = 3
          · have h4 : ¬ t.name = nm := fun h => hc ⟨h3, h⟩
            simp [terms_Put, h3, h4, hk]
            rw [← h3, ← hk, Tm.agg_d]
          · simp [terms_Put, h3, hk]
            rw [← hk, Tm.agg_d]
        · have hke : t.kids.isEmpty = false := by cases hq : t.kids with
            | nil => exact absurd hq hk
            | cons => rfl
          have hl0 : ¬ ((t.kids.length : Int) = 0) := by
            intro h; apply hk; exact List.eq_nil_of_length_eq_zero (by omega)
          rw [hke]
          simp only [Bool.and_false, Bool.false_and]
          by_cases h3 : t.op = 3
          · have h4 : ¬ t.name = nm := fun h => hc ⟨h3, h⟩
            rw [h3] at hl
            simp [terms_Put, h3, h4, hl, mk_d, hk, hmk, List.replicate]
          · simp [terms_Put, h3, hl, mk_d, hk, hmk, List.replicate]
    · intro i a p ha hi hp
      have hm := List.mem_of_getElem? ha
      have hz := Tm.sz_kid hm
      have hr := terms_Put_ok nm x n a (by omega) (hok.kid hm)
      have hrm : roomP (p.length + 1) 56 = true := roomP_ok (by omega) (by omega)
      left
      refine ⟨p ++ [putT true nm x a], ?_, by rw [putL]; simp, by simp [hp]⟩
      simp [terms_Put_l7, hi, Tm.ixP_kid ha, hr, hrm, add1 (bt := false) (i := i) (by omega)]
mutual
/-- What differs in nil slices alone is the same. -/
theorem put_same (nm : ByteArray) (x : Tm) : ∀ t : Tm, sameT (putT true nm x t) (putT false nm x t) = true
  | .mk o n s b ks => by
    rw [putT, putT]
    split
    · exact sameT_refl x
    · rw [sameT]
      simp [Tm.op, Tm.num, Tm.name, Tm.kids, putL_len, put_sameL nm x ks]
theorem put_sameL (nm : ByteArray) (x : Tm) : ∀ l : List Tm, sameL (putL true nm x l) (putL false nm x l) = true
  | [] => rfl
  | t :: r => by rw [putL, putL, sameL, put_same nm x t, put_sameL nm x r]; rfl
end
mutual
theorem putT_sz (keep : Bool) (nm : ByteArray) (x : Tm) : ∀ t : Tm, (putT keep nm x t).sz ≤ t.sz * (x.sz + 1)
  | .mk o n s b ks => by
    rw [putT]
    split
    · have : 1 ≤ (Tm.mk o n s b ks).sz := by simp [Tm.sz]; omega
      have := Nat.mul_le_mul_right (x.sz + 1) this
      omega
    · have := putL_sz keep nm x ks
      simp only [Tm.sz, Nat.add_mul]
      omega
theorem putL_sz (keep : Bool) (nm : ByteArray) (x : Tm) : ∀ l : List Tm, Tm.szL (putL keep nm x l) ≤ Tm.szL l * (x.sz + 1)
  | [] => by simp [putL, Tm.szL]
  | t :: r => by
    have h1 := putT_sz keep nm x t
    have h2 := putL_sz keep nm x r
    simp only [putL, Tm.szL, Nat.add_mul]
    omega
end
theorem TermsPuts_ok (n : Nat) (t x : Tm) (nm : ByteArray) (hok : t.Ok) (hox : x.Ok) (hn : t.sz + x.sz + t.sz * (x.sz + 1) + 500 < n) :
    law30_TermsPutsL n [t.d, x.d, eS nm] = some (eB true) := by
  obtain ⟨n', rfl⟩ : ∃ q, n = q + 200 := ⟨n - 200, by omega⟩
  have hL := lives30_ok n'
  generalize n' + 200 = n at *
  have h1 := law30_Light_ok n t (by omega) hok
  have h2 := law30_Light_ok n x (by omega) hox
  have p1 := terms_Put_ok nm x n t (by omega) hok
  have p2 := ref30_Put_ok nm x n t (by omega) hok
  have ok1 := putT_ok true nm x hox t hok
  have ok2 := putT_ok false nm x hox t hok
  have z1 := putT_sz true nm x t
  have s1 := ref30_Same_ok n (putT true nm x t) (putT false nm x t) (by omega) ok1 ok2
  rw [put_same] at s1
  have s2 := terms_Same_ok n t x (by omega) hok hox
  have s3 := ref30_Same_ok n t x (by omega) hok hox
  have s4 := terms_Same_ok n (putT true nm x t) (putT true nm x t) (by omega) ok1 ok1
  rw [sameT_refl] at s4
  obtain ⟨q1, q2, q3⟩ := hok.parts
  have s5 := terms_Same_ok n t (.mk t.op 0 ⟨#[]⟩ false [t]) (by omega) hok (.mk _ _ _ _ _ q1 (by omega) (by decide) (by simp) (by simpa using hok))
  rw [same_above] at s5
  have e5 : (Tm.mk t.op 0 ⟨#[]⟩ false [t]).d = .agg [eI t.op, eI 0, eS ⟨#[]⟩, .sl 4 [[eI t.op, eI t.num, eS t.name, rowD 4 t.nl (Tm.rows t.kids)]]] := by
    simp [Tm.d, Tm.cells, Tm.rows, rowD, Tm.cells_eq]
  rw [e5] at s5
  cases hb : lightB t
  · simp -implicitDefEqProofs [law30_TermsPutsL, law30_TermsPuts, hL, h1, hb]
  · cases hc : lightB x
    · simp -implicitDefEqProofs [law30_TermsPutsL, law30_TermsPuts, hL, h1, h2, hb, hc]
    · simp -implicitDefEqProofs [law30_TermsPutsL, law30_TermsPuts, hL, h1, h2, hb, hc, p1, p2, s1, s2, s3, s4, s5]
end Go.Am
namespace Go.Am
set_option linter.unusedVariables false
set_option linter.unusedSimpArgs false
def yesT : Tm := .mk 2 1 ⟨#[]⟩ true []
theorem yes_ok : yesT.Ok := .mk _ _ _ _ _ (by omega) (by omega) (by decide) (by simp) (by simp)
theorem yes_cells : [eI 2, eI 1, eS ⟨#[]⟩, NILD] = yesT.cells := by simp [yesT, Tm.cells, Tm.rows, rowD]
theorem eTs_yes (p : List Tm) : D.sl 4 (esD (eTs p) ++ [[eI 2, eI 1, eS ⟨#[]⟩, NILD]]) = eTs (p ++ [yesT]) := by
  rw [yes_cells]; simp [eTs, Tm.rows_map]
theorem replicate_snoc {α : Type} (k : Nat) (a : α) : List.replicate k a ++ [a] = List.replicate (k + 1) a := by
  rw [← List.replicate_append_replicate]; rfl
theorem szL_rep (k : Nat) (a : Tm) : Tm.szL (List.replicate k a) = k * (1 + a.sz) := by
  induction k with
  | zero => simp [Tm.szL]
  | succ k ih => simp only [List.replicate_succ, Tm.szL, ih, Nat.add_mul]; omega
theorem bnd_deep (n : Nat) (w m : D) (dd : Int) (h0 : 0 ≤ dd ∧ dd ≤ 255) : ∀ (k f : Nat) (i : Int) (T : Tm), (dd.tmod 70 - i ≤ k) → k < f → 1 ≤ i → i ≤ 70 → T.Ok → T.sz + 3 * k ≤ 300 → T.nl = false →
    ∃ T' : Tm, iterL (law30_TermsBounds_l4 n) f [.val (.int .u8 dd), w, m, eI i, eI 2, eI 1, eS ⟨#[]⟩, NILD, eI T.op, eI T.num, eS T.name, eTs T.kids] = some (.inl [w, m, eI 2, eI 1, eS ⟨#[]⟩, NILD, eI T'.op, eI T'.num, eS T'.name, eTs T'.kids]) ∧ T'.Ok ∧ T'.sz ≤ 300 ∧ T'.nl = false
  | k, 0, i, T, _, h, _, _, _, _, _ => absurd h (Nat.not_lt_zero _)
  | k, f + 1, i, T, hk, hf, hi, hi7, hok, hz, hnl => by
    have e1 : cvP .i64 (.val (.int .u8 dd)) = some (eI dd) := by
      show some (D.val (.int .i64 (IntKind.i64.wrap dd))) = _
      rw [wrap64 _ (by omega) (by omega)]; rfl
    have e2 : binP false .rem (eI dd) (eI 70) = some (eI (dd.tmod 70)) := b_rem (by omega)
    rw [iterL_s]
    by_cases hlt : i < dd.tmod 70
    · obtain ⟨k', rfl⟩ : ∃ k', k = k' + 1 := ⟨k - 1, by omega⟩
      have hT : D.sl 4 [[eI T.op, eI T.num, eS T.name, eTs T.kids]] = eTs [T] := by
        cases T with | mk o nn s b ks => simp only [Tm.nl] at hnl; subst hnl; simp [eTs, Tm.rows, Tm.cells, rowD, Tm.op, Tm.num, Tm.name, Tm.kids]
      obtain ⟨T', g1, g2⟩ := bnd_deep n w m dd h0 k' f (i + 1) (.mk 5 0 ⟨#[]⟩ false [T]) (by omega) (by omega) (by omega) (by
        have := Int.tmod_lt_of_pos dd (show (0 : Int) < 70 by omega); omega) (.mk _ _ _ _ _ (by omega) (by omega) (by decide) (by simp) (by simpa using hok)) (by simp [Tm.sz, Tm.szL]; omega) rfl
      refine ⟨T', ?_, g2⟩
      have o1 : (eTs T.kids).one = true := rfl
      have ha := add1i (bt := false) (i := i) (by omega) (by omega)
      simp only [Tm.op, Tm.num, Tm.name, Tm.kids] at g1
      simp [law30_TermsBounds_l4, e1, e2, hlt, o1, ha, hT]
      exact g1
    · refine ⟨T, ?_, hok, by omega, hnl⟩
      simp [law30_TermsBounds_l4, e1, e2, hlt]
theorem bnd_wide (n : Nat) (m q0 q1 q2 q3 : D) (T : List Tm) (dd : Int) (h0 : 0 ≤ dd ∧ dd ≤ 255) : ∀ (k f : Nat) (i : Nat), (dd.tmod 70 - i ≤ k) → k < f → i ≤ 70 →
    ∃ c : Nat, c ≤ 70 ∧ iterL (law30_TermsBounds_l9 n) f [.val (.int .u8 dd), m, eI (i : Int), eI 2, eI 1, eS ⟨#[]⟩, NILD, q0, q1, q2, eTs (List.replicate i yesT), eTs T] = some (.inl [m, eI 2, eI 1, eS ⟨#[]⟩, NILD, q0, q1, q2, eTs (List.replicate c yesT), eTs T])
  | k, 0, i, _, h, _ => absurd h (Nat.not_lt_zero _)
  | k, f + 1, i, hk, hf, hi7 => by
    have e1 : cvP .i64 (.val (.int .u8 dd)) = some (eI dd) := by
      show some (D.val (.int .i64 (IntKind.i64.wrap dd))) = _
      rw [wrap64 _ (by omega) (by omega)]; rfl
    have e2 : binP false .rem (eI dd) (eI 70) = some (eI (dd.tmod 70)) := b_rem (by omega)
    rw [iterL_s]
    by_cases hlt : (i : Int) < dd.tmod 70
    · obtain ⟨k', rfl⟩ : ∃ k', k = k' + 1 := ⟨k - 1, by omega⟩
      obtain ⟨c, hc, g1⟩ := bnd_wide n m q0 q1 q2 q3 T dd h0 k' f (i + 1) (by omega) (by omega) (by
        have := Int.tmod_lt_of_pos dd (show (0 : Int) < 70 by omega); omega)
      refine ⟨c, hc, ?_⟩
      have hrm : roomP (i + 1) 56 = true := roomP_ok (by omega) (by omega)
      simp [law30_TermsBounds_l9, e1, e2, hlt, hrm, add1 (bt := false) (i := i) (by omega), eTs_yes, replicate_snoc]
      simpa using g1
    · refine ⟨i, hi7, ?_⟩
      simp [law30_TermsBounds_l9, e1, e2, hlt]
theorem bnd_kids (n : Nat) (x q4 q5 q6 : D) (L1 L2 L3 : List Tm) (b : Nat) (hb : b ≤ 64) : ∀ (k f : Nat) (i : Nat), b - i ≤ k → k < f → i ≤ b →
    iterL (law30_TermsBounds_l18 n) f [x, eI (b : Int), eI (i : Int), eI 2, eI 1, eS ⟨#[]⟩, NILD, q4, q5, q6, eTs L1, eTs L2, eTs (List.replicate i yesT), eTs L3] =
      some (.inl [x, eI (b : Int), eI 2, eI 1, eS ⟨#[]⟩, NILD, q4, q5, q6, eTs L1, eTs L2, eTs (List.replicate b yesT), eTs L3])
  | k, 0, i, _, h, _ => absurd h (Nat.not_lt_zero _)
  | k, f + 1, i, hk, hf, hi7 => by
    rw [iterL_s]
    by_cases hlt : i < b
    · obtain ⟨k', rfl⟩ : ∃ k', k = k' + 1 := ⟨k - 1, by omega⟩
      have g1 := bnd_kids n x q4 q5 q6 L1 L2 L3 b hb k' f (i + 1) (by omega) (by omega) (by omega)
      have hrm : roomP (i + 1) 56 = true := roomP_ok (by omega) (by omega)
      simp [law30_TermsBounds_l18, hlt, hrm, add1 (bt := false) (i := i) (by omega), eTs_yes, replicate_snoc]
      simpa using g1
    · have : i = b := by omega
      subst this
      simp [law30_TermsBounds_l18]
theorem bnd_all (n : Nat) (hn : 100 < n) (q4 q5 q6 : D) (L1 L3 : List Tm) : ∀ (k f : Nat) (left : Int) (p : List Tm), 64 - p.length ≤ k → k < f → 0 ≤ left → left ≤ 4200 → p.length ≤ 64 → (∀ t ∈ p, t.Ok) → Tm.szL p ≤ p.length * 200 →
    ∃ p' : List Tm, iterL (law30_TermsBounds_l14 n) f [eI left, eI 2, eI 1, eS ⟨#[]⟩, NILD, q4, q5, q6, eTs L1, eTs p, eTs L3] = some (.inl [q4, q5, q6, eTs L1, eTs p', eTs L3]) ∧ p'.length ≤ 64 ∧ (∀ t ∈ p', t.Ok) ∧ Tm.szL p' ≤ p'.length * 200
  | k, 0, left, p, _, h, _, _, _, _, _ => absurd h (Nat.not_lt_zero _)
  | k, f + 1, left, p, hk, hf, h0, h1, hp, hok, hz => by
    rw [iterL_s]
    by_cases hl : left > 1
    · by_cases hc : p.length < 64
      · obtain ⟨k', rfl⟩ : ∃ k', k = k' + 1 := ⟨k - 1, by omega⟩
        have e1 : binP false .sub (eI left) (eI 1) = some (eI (left - 1)) := b_sub (by omega) (by omega)
        have e2 : mmP false [eI (left - 1), eI 64] = some (eI (((mn (left - 1) 64).toNat : Nat) : Int)) := by
          rw [mm2_min]
          have : 0 ≤ mn (left - 1) 64 := by unfold mn; split <;> omega
          rw [Int.toNat_of_nonneg this]
        have hb : (mn (left - 1) 64).toNat ≤ 64 := by unfold mn; split <;> omega
        have hb1 : 1 ≤ (mn (left - 1) 64).toNat := by unfold mn; split <;> omega
        have hb2 : ((mn (left - 1) 64).toNat : Int) ≤ left - 1 := by unfold mn; split <;> omega
        generalize (mn (left - 1) 64).toNat = b at *
        have hi := bnd_kids n (eI left) q4 q5 q6 L1 p L3 b hb b n 0 (by omega) (by omega) (by omega)
        have e0 : (eI ((0 : Nat) : Int)) = eI 0 := rfl
        have en : eTs (List.replicate 0 yesT) = .sl 4 [] := rfl
        rw [e0, en] at hi
        have hrm : roomP (p.length + 1) 56 = true := roomP_ok (by omega) (by omega)
        have e3 : binP false .sub (eI left) (eI (b : Int)) = some (eI (left - b)) := b_sub (by omega) (by omega)
        have e4 : binP false .sub (eI (left - b)) (eI 1) = some (eI (left - b - 1)) := b_sub (by omega) (by omega)
        have hkt : [eI 6, eI 0, eS ⟨#[]⟩, eTs (List.replicate b yesT)] = (Tm.mk 6 0 ⟨#[]⟩ false (List.replicate b yesT)).cells := by simp [Tm.cells, eTs, rowD]
        have hsn : D.sl 4 (esD (eTs p) ++ [[eI 6, eI 0, eS ⟨#[]⟩, eTs (List.replicate b yesT)]]) = eTs (p ++ [.mk 6 0 ⟨#[]⟩ false (List.replicate b yesT)]) := by rw [hkt]; simp [eTs, Tm.rows_map]
        have o1 : (eTs (List.replicate b yesT)).one = true := rfl
        have hsz : ∀ (l : List Tm) (a : Tm), Tm.szL (l ++ [a]) = Tm.szL l + (1 + a.sz) := by
          intro l a; induction l with
          | nil => simp [Tm.szL]
          | cons x r ih => simp only [List.cons_append, Tm.szL, ih]; omega
        obtain ⟨p', g1, g2⟩ := bnd_all n hn q4 q5 q6 L1 L3 k' f (left - b - 1) (p ++ [.mk 6 0 ⟨#[]⟩ false (List.replicate b yesT)]) (by simp; omega) (by omega) (by omega) (by omega) (by simp; omega) (by
          intro t ht
          rcases List.mem_append.1 ht with h | h
          · exact hok t h
          · simp at h; subst h
            exact .mk _ _ _ _ _ (by omega) (by omega) (by decide) (by simp; omega) (by intro k hk; rw [List.eq_of_mem_replicate hk]; exact yes_ok)) (by
          rw [hsz]
          have : yesT.sz = 2 := rfl
          simp only [Tm.sz, szL_rep, this, List.length_append, List.length_cons, List.length_nil]
          omega)
        refine ⟨p', ?_, g2⟩
        have hc' : (p.length : Int) < 64 := by omega
        simp [law30_TermsBounds_l14, hl, hc, hc', e1, e2, hi, o1, hrm, e3, e4, hsn]
        exact g1
      · refine ⟨p, ?_, hp, hok, hz⟩
        have hc' : ¬ (p.length : Int) < 64 := by omega
        simp [law30_TermsBounds_l14, hl, hc, hc']
    · refine ⟨p, ?_, hp, hok, hz⟩
      have hl' : ¬ 1 < left := by omega
      simp [law30_TermsBounds_l14, hl']
theorem TermsBounds_ok (n : Nat) (a b c : Int) (ha : 0 ≤ a ∧ a ≤ 255) (hb : 0 ≤ b ∧ b ≤ 255) (hc : 0 ≤ c ∧ c ≤ 65535) (hn : 100000 < n) :
    law30_TermsBoundsL n [.val (.int .u8 a), .val (.int .u8 b), .val (.int .u16 c)] = some (eB true) := by
  obtain ⟨n', rfl⟩ : ∃ q, n = q + 200 := ⟨n - 200, by omega⟩
  have hL := lives30_ok n'
  generalize n' + 200 = n at *
  have m1 := Int.tmod_lt_of_pos a (show (0 : Int) < 70 by omega)
  have m2 := Int.tmod_lt_of_pos b (show (0 : Int) < 70 by omega)
  obtain ⟨T, g1, g2, g3, g4⟩ := bnd_deep n (.val (.int .u8 b)) (.val (.int .u16 c)) a ha 70 n 1 (.mk 2 1 ⟨#[]⟩ false []) (by omega) (by omega) (by omega) (by omega) (.mk _ _ _ _ _ (by omega) (by omega) (by decide) (by simp) (by simp)) (by simp [Tm.sz, Tm.szL]) rfl
  obtain ⟨cw, w1, w2⟩ := bnd_wide n (.val (.int .u16 c)) (eI T.op) (eI T.num) (eS T.name) (eS T.name) T.kids b hb 70 n 0 (by omega) (by omega) (by omega)
  have e1 : cvP .i64 (.val (.int .u16 c)) = some (eI c) := by
    show some (D.val (.int .i64 (IntKind.i64.wrap c))) = _
    rw [wrap64 _ (by omega) (by omega)]; rfl
  have e2 : binP false .rem (eI c) (eI 4200) = some (eI (c.tmod 4200)) := b_rem (by omega)
  have m3 := Int.tmod_lt_of_pos c (show (0 : Int) < 4200 by omega)
  have m4 := Int.tmod_nonneg (a := c) 4200 hc.1
  obtain ⟨p, p1, p2, p3, p4⟩ := bnd_all n (by omega) (eI T.op) (eI T.num) (eS T.name) (List.replicate cw yesT) T.kids 64 n (c.tmod 4200) [] (by simp) (by omega) m4 (by omega) (by simp) (by simp) (by simp [Tm.szL])
  have en : eTs (List.replicate 0 yesT) = .sl 4 [] := rfl
  have en' : eTs [] = .sl 4 [] := rfl
  have e0 : (eI ((0 : Nat) : Int)) = eI 0 := rfl
  replace g1 : iterL (law30_TermsBounds_l4 n) n [.val (.int .u8 a), .val (.int .u8 b), .val (.int .u16 c), eI 1, eI 2, eI 1, eS ⟨#[]⟩, NILD, eI 2, eI 1, eS ⟨#[]⟩, .sl 4 []] = _ := g1
  rw [en, e0] at w2
  rw [en'] at p1
  have hTd : D.agg [eI T.op, eI T.num, eS T.name, eTs T.kids] = T.d := by
    rw [mk_d]; cases T with | mk o nn s bb ks => simp only [Tm.nl] at g4; subst g4; rfl
  have ok2 : (Tm.mk 7 0 ⟨#[]⟩ false (List.replicate cw yesT)).Ok := .mk _ _ _ _ _ (by omega) (by omega) (by decide) (by simp; omega) (by intro k hk; rw [List.eq_of_mem_replicate hk]; exact yes_ok)
  have ok3 : (Tm.mk 7 0 ⟨#[]⟩ false p).Ok := .mk _ _ _ _ _ (by omega) (by omega) (by decide) (by omega) p3
  have z2 : (Tm.mk 7 0 ⟨#[]⟩ false (List.replicate cw yesT)).sz ≤ 300 := by
    have : yesT.sz = 2 := rfl
    simp only [Tm.sz, szL_rep, this]; omega
  have z3 : (Tm.mk 7 0 ⟨#[]⟩ false p).sz ≤ 20000 := by simp only [Tm.sz]; omega
  have c1 := terms_Check_ok n T (by omega) g2
  have c2 := ref30_Check_ok n T (by omega) g2
  have c3 := terms_Check_ok n _ (by omega) ok2
  have c4 := ref30_Check_ok n _ (by omega) ok2
  have c5 := terms_Check_ok n _ (by omega) ok3
  have c6 := ref30_Check_ok n _ (by omega) ok3
  rw [← mk_d] at c3 c4 c5 c6
  rw [← hTd] at c1 c2
  have hz : ∀ x : Int, (D.val (.int .u16 x)) = .val (.int .u16 x) := fun _ => rfl
  simp -implicitDefEqProofs [law30_TermsBoundsL, law30_TermsBounds, g1, w2, e1, e2, p1, c1, c2, c3, c4, c5, c6, hL]
end Go.Am
namespace Go.Am
set_option linter.unusedVariables false
set_option linter.unusedSimpArgs false
/-! ### A value lies within its type -/
theorem lin {lo hi x y : Int} (h1 : lo ≤ x) (h2 : x ≤ hi) : mn (lo * y) (hi * y) ≤ x * y ∧ x * y ≤ mx (lo * y) (hi * y) := by
  by_cases hy : 0 ≤ y
  · have a := Int.mul_le_mul_of_nonneg_right h1 hy
    have b := Int.mul_le_mul_of_nonneg_right h2 hy
    unfold mn mx
    constructor <;> split <;> omega
  · have a := Int.mul_le_mul_of_nonpos_right h1 (show y ≤ 0 by omega)
    have b := Int.mul_le_mul_of_nonpos_right h2 (show y ≤ 0 by omega)
    unfold mn mx
    constructor <;> split <;> omega
theorem lin2 {lo hi x y : Int} (h1 : lo ≤ x) (h2 : x ≤ hi) : mn (y * lo) (y * hi) ≤ y * x ∧ y * x ≤ mx (y * lo) (y * hi) := by
  have := lin (y := y) h1 h2
  rw [Int.mul_comm lo y, Int.mul_comm hi y, Int.mul_comm x y] at this
  exact this
theorem corner {a b : Y} {x y : Int} (hx : a.lo ≤ x ∧ x ≤ a.hi) (hy : b.lo ≤ y ∧ y ≤ b.hi) : mulLo a b ≤ x * y ∧ x * y ≤ mulHi a b := by
  have h1 := lin (y := y) hx.1 hx.2
  have h2 := lin2 (y := a.lo) hy.1 hy.2
  have h3 := lin2 (y := a.hi) hy.1 hy.2
  unfold mulLo mulHi
  generalize x * y = p at *
  generalize a.lo * y = q at *
  generalize a.hi * y = r at *
  generalize a.lo * b.lo = s at *
  generalize a.lo * b.hi = t at *
  generalize a.hi * b.lo = u at *
  generalize a.hi * b.hi = v at *
  unfold mn mx at *
  omega
theorem spanY_in {lo hi v : Int} (h : (spanY lo hi).2 = 0) (h1 : lo ≤ v) (h2 : v ≤ hi) : (spanY lo hi).1.lo ≤ v ∧ v ≤ (spanY lo hi).1.hi := by
  unfold spanY at *
  split at h
  · cases h
  · rename_i hc; rw [if_neg hc]; exact ⟨h1, h2⟩
def ranged (vs : List V) (s : List Int) : Prop := s.length = vs.length ∧ ∀ (i : Nat) (v : V) (x : Int), vs[i]? = some v → s[i]? = some x → if v.bool then x = 0 ∨ x = 1 else v.lo ≤ x ∧ x ≤ v.hi
def within (y : Y) (v : Int) : Prop := if y.b then v = 0 ∨ v = 1 else y.lo ≤ v ∧ v ≤ y.hi
theorem within_span {lo hi v : Int} (h : (spanY lo hi).2 = 0) (h1 : lo ≤ v) (h2 : v ≤ hi) : within (spanY lo hi).1 v := by
  unfold within
  rw [spanY_b]
  exact spanY_in h h1 h2
theorem within_b {y : Y} {b : Bool} (h : y.b = true) : within y (tr b) := by
  unfold within; rw [if_pos h]; exact tr_b01 b
theorem spanY_bd {lo hi : Int} (h : (spanY lo hi).2 = 0) : -1048576 ≤ lo ∧ hi ≤ 1048576 ∧ lo ≤ hi := by
  unfold spanY at h
  split at h
  · cases h
  · omega
theorem leaf_within {vs : List V} {s nn : List Int} {t : Tm} (hs : ranged vs s) (hn : ranged vs nn) (hv : Valid t) (h : (leafV vs true t).2 = 0) : (leafR vs s nn t).2 = true ∧ within (leafV vs true t).1 (leafR vs s nn t).1 := by
  have hnum := hv.num
  unfold leafV at *
  unfold leafR
  by_cases h1 : t.op = 1
  · rw [if_pos h1] at *
    rw [if_pos (by omega)]
    exact ⟨rfl, within_span h (Int.le_refl _) (Int.le_refl _)⟩
  rw [if_neg h1] at *
  by_cases h2 : t.op = 2
  · rw [if_pos h2] at *
    rw [if_pos (by omega)]
    refine ⟨rfl, ?_⟩
    unfold within; simp only [YB, if_true]; omega
  rw [if_neg h2] at *
  have hop := hv.op
  rw [if_neg (show ¬ t.op ≤ 2 by omega)]
  cases hi : idxV vs t.name with
  | none => rw [hi] at h; cases h
  | some i =>
    rw [hi] at h
    simp only at h ⊢
    obtain ⟨v, v1, v2, v3⟩ := idxV_lt hi
    have e34 : ¬ (t.op = 4 ∧ true = false) := by simp
    rw [if_neg e34, v1] at h
    rw [if_neg e34, v1]
    simp only at h ⊢
    have hrg : ranged vs (if t.op = 4 then nn else s) := by split <;> assumption
    have hil : idxL vs s nn t = some i := by unfold idxL; rw [if_pos hrg.1, hi]
    obtain ⟨x, hx⟩ := idx_of_len v3 hrg.1
    rw [hil]
    simp only [hx, v1]
    have hr := hrg.2 i v x v1 hx
    by_cases hb : v.bool = true
    · rw [if_pos hb] at *
      rw [if_pos hb]
      exact ⟨rfl, within_b rfl⟩
    · rw [if_neg hb] at *
      rw [if_neg hb]
      have hbd := spanY_bd h
      exact ⟨(inR_iff _).2 (by omega), within_span h hr.1 hr.2⟩
theorem within_all {l : List Y} {vals : List Int} (hl : l.all Y.b = true) (hlen : vals.length = l.length) (h : ∀ (i : Nat) (y : Y) (v : Int), l[i]? = some y → vals[i]? = some v → within y v) : ∀ v ∈ vals, v = 0 ∨ v = 1 := by
  intro v hv
  obtain ⟨i, hi⟩ := List.mem_iff_getElem?.1 hv
  have hlt : i < l.length := by have := (List.getElem?_eq_some_iff.1 hi).1; omega
  have hy := List.getElem?_eq_getElem hlt
  have hb := List.all_eq_true.1 hl _ (List.getElem_mem hlt)
  have hw := h i _ v hy hi
  unfold within at hw
  rwa [if_pos hb] at hw
theorem joinY3 {t : Tm} {a b c : Y} (h : ¬ (5 ≤ t.op ∧ t.op ≤ 9)) : joinY t [a, b, c] = if (!a.b || (b.b != c.b)) then (Y0, 13) else if b.b then (YB, 0) else spanY (mn b.lo c.lo) (mx b.hi c.hi) := by
  unfold joinY; rw [if_neg h]
theorem joinY2 {t : Tm} {a b : Y} (h : ¬ (5 ≤ t.op ∧ t.op ≤ 9)) : joinY t [a, b] = if t.op = 10 ∨ t.op = 11 then if a.b != b.b then (Y0, 13) else (YB, 0)
      else if (a.b || b.b) then (Y0, 13)
      else if t.op = 12 ∨ t.op = 13 then (YB, 0)
      else if t.op = 17 then (match t.kids[1]? with
        | some k => if k.op ≠ 1 ∨ k.num < 1 then (Y0, 2) else spanY 0 (k.num - 1)
        | none => (Y0, 0))
      else reckY t.op a b := by
  unfold joinY; rw [if_neg h] <;> rfl
theorem opR3 {op a b c : Int} (h6 : ¬ op = 6) (h7 : ¬ op = 7) : opR op [a, b, c] = (if a = 1 then b else c, inR (if a = 1 then b else c)) := by
  unfold opR; rw [if_neg h6, if_neg h7]
theorem opR2 {op a b : Int} (h6 : ¬ op = 6) (h7 : ¬ op = 7) : opR op [a, b] = if op = 8 then (tr (a == 0 || b == 1), true) else if op = 9 ∨ op = 10 then (tr (a == b), true) else if op = 11 then (tr (a != b), true)
      else if op = 12 then (tr (decide (a < b)), true) else if op = 13 then (tr (decide (a ≤ b)), true)
      else if op = 14 then (a + b, inR (a + b)) else if op = 15 then (a - b, inR (a - b))
      else if op = 16 then if inR (a * b) then (a * b, true) else (0, false)
      else ((a.tmod b + b).tmod b, inR ((a.tmod b + b).tmod b)) := by
  unfold opR; rw [if_neg h6, if_neg h7]
theorem op_within {t : Tm} {l : List Y} {vals : List Int} (hv : Valid t) (h5 : 5 ≤ t.op) (hj : (joinY t l).2 = 0) (hg : ∀ y ∈ l, y.good) (hlen : l.length = t.kids.length) (hvl : vals.length = l.length)
    (hw : ∀ (i : Nat) (y : Y) (v : Int), l[i]? = some y → vals[i]? = some v → within y v) (hm : t.op = 17 → ∀ k v, t.kids[1]? = some k → vals[1]? = some v → v = k.num) :
    (opR t.op vals).2 = true ∧ within (joinY t l).1 (opR t.op vals).1 := by
  have hop := hv.op
  have hlens := hv.len
  have hb5 : 5 ≤ t.op ∧ t.op ≤ 9 → (joinY t l).1.b = true := fun h => by
    have := joinY_5 hj h
    unfold joinY; rw [if_pos h, if_pos this]; rfl
  by_cases h67 : t.op = 6 ∨ t.op = 7
  · have hb := hb5 (by omega)
    unfold opR
    rcases h67 with h | h
    · rw [if_pos h]; exact ⟨rfl, within_b hb⟩
    · rw [if_neg (by omega), if_pos h]; exact ⟨rfl, within_b hb⟩
  by_cases h5' : t.op = 5
  · have hb := hb5 (by omega)
    have : kidsOf t.op = (1, 1) := by rw [h5']; rfl
    rw [this] at hlens
    have hv1 : vals.length = 1 := by simp only at hlens; omega
    match vals, hv1, hvl, hw with
    | [a], _, hvl, hw =>
      have ha := within_all (joinY_5 hj (by omega)) hvl hw a (by simp)
      have hin : inR (1 - a) = true := (inR_iff _).2 (by omega)
      unfold opR
      rw [if_neg (by omega), if_neg (by omega)]
      refine ⟨hin, ?_⟩
      unfold within
      rw [if_pos hb]
      simp only
      omega
  have h6 : ¬ t.op = 6 := by omega
  have h7 : ¬ t.op = 7 := by omega
  by_cases h18 : t.op = 18
  · rw [kids3 h18] at hlens
    obtain ⟨a, b, c, rfl⟩ := list3 (l := l) (by simp only at hlens; omega)
    obtain ⟨x, y, z, rfl⟩ := list3 (l := vals) (by simpa using hvl)
    have h59 : ¬ (5 ≤ t.op ∧ t.op ≤ 9) := by omega
    obtain ⟨j1, j2, j3⟩ := joinY_18 hj h59
    have wx := hw 0 a x rfl rfl
    have wy := hw 1 b y rfl rfl
    have wz := hw 2 c z rfl rfl
    have gb := hg b (by simp)
    have gc := hg c (by simp)
    unfold within at wx wy wz
    rw [opR3 h6 h7]
    rw [joinY3 h59] at hj ⊢
    have hc1 : ¬ (!a.b || (b.b != c.b)) = true := by rw [j1, j2]; simp
    rw [if_neg hc1] at hj ⊢
    by_cases hb : b.b = true
    · rw [if_pos hb]
      rw [if_pos hb] at wy
      rw [← j2, if_pos hb] at wz
      by_cases hx : x = 1
      · rw [if_pos hx]
        have q : inR y = true := (inR_iff _).2 (by omega)
        refine ⟨q, ?_⟩
        unfold within; simp only [YB, if_true]; exact wy
      · rw [if_neg hx]
        have q : inR z = true := (inR_iff _).2 (by omega)
        refine ⟨q, ?_⟩
        unfold within; simp only [YB, if_true]; exact wz
    · rw [if_neg hb] at hj ⊢
      rw [if_neg hb] at wy
      rw [← j2, if_neg hb] at wz
      obtain ⟨_, b1, b2, b3⟩ := gb
      obtain ⟨_, c1, c2, c3⟩ := gc
      have hmn : mn b.lo c.lo ≤ b.lo ∧ mn b.lo c.lo ≤ c.lo := by unfold mn; split <;> omega
      have hmx : b.hi ≤ mx b.hi c.hi ∧ c.hi ≤ mx b.hi c.hi := by unfold mx; split <;> omega
      by_cases hx : x = 1
      · rw [if_pos hx]
        have q : inR y = true := (inR_iff _).2 (by omega)
        exact ⟨q, within_span hj (by omega) (by omega)⟩
      · rw [if_neg hx]
        have q : inR z = true := (inR_iff _).2 (by omega)
        exact ⟨q, within_span hj (by omega) (by omega)⟩
  rw [kids2 (show 8 ≤ t.op ∧ t.op ≤ 17 by omega)] at hlens
  obtain ⟨a, b, rfl⟩ := list2 (l := l) (by simp only at hlens; omega)
  obtain ⟨x, y, rfl⟩ := list2 (l := vals) (by simpa using hvl)
  have wx := hw 0 a x rfl rfl
  have wy := hw 1 b y rfl rfl
  have ga := hg a (by simp)
  have gb := hg b (by simp)
  rw [opR2 h6 h7]
  by_cases h8 : t.op = 8
  · rw [if_pos h8]; exact ⟨rfl, within_b (hb5 (by omega))⟩
  rw [if_neg h8]
  by_cases h9 : t.op = 9
  · rw [if_pos (Or.inl h9)]; exact ⟨rfl, within_b (hb5 (by omega))⟩
  have h59 : ¬ (5 ≤ t.op ∧ t.op ≤ 9) := by omega
  rw [joinY2 h59] at hj ⊢
  by_cases h10 : t.op = 10 ∨ t.op = 11
  · rw [if_pos h10] at hj ⊢
    by_cases hc : (a.b != b.b) = true
    · rw [if_pos hc] at hj; cases hj
    rw [if_neg hc]
    rcases h10 with h | h
    · rw [if_pos (Or.inr h)]; exact ⟨rfl, within_b rfl⟩
    · have hn : ¬ (t.op = 9 ∨ t.op = 10) := by omega
      rw [if_neg hn, if_pos h]; exact ⟨rfl, within_b rfl⟩
  rw [if_neg h10] at hj ⊢
  have h910 : ¬ (t.op = 9 ∨ t.op = 10) := by omega
  have h11 : ¬ t.op = 11 := by omega
  rw [if_neg h910, if_neg h11]
  by_cases hc : (a.b || b.b) = true
  · rw [if_pos hc] at hj; cases hj
  rw [if_neg hc] at hj ⊢
  have hab : a.b = false ∧ b.b = false := by cases ha : a.b <;> cases hb : b.b <;> simp_all
  have hff : ¬ (false = true) := by simp
  unfold within at wx wy
  rw [hab.1, if_neg hff] at wx
  rw [hab.2, if_neg hff] at wy
  obtain ⟨_, a1, a2, a3⟩ := ga
  obtain ⟨_, b1, b2, b3⟩ := gb
  by_cases h1213 : t.op = 12 ∨ t.op = 13
  · rw [if_pos h1213]
    rcases h1213 with h | h
    · rw [if_pos h]; exact ⟨rfl, within_b rfl⟩
    · have hn : ¬ t.op = 12 := by omega
      rw [if_neg hn, if_pos h]; exact ⟨rfl, within_b rfl⟩
  rw [if_neg h1213] at hj ⊢
  have h12 : ¬ t.op = 12 := by omega
  have h13 : ¬ t.op = 13 := by omega
  rw [if_neg h12, if_neg h13]
  by_cases h17 : t.op = 17
  · rw [if_pos h17] at hj ⊢
    have h14 : ¬ t.op = 14 := by omega
    have h15 : ¬ t.op = 15 := by omega
    have h16 : ¬ t.op = 16 := by omega
    rw [if_neg h14, if_neg h15, if_neg h16]
    cases hk : t.kids[1]? with
    | none =>
      have := List.getElem?_eq_none_iff.1 hk
      simp only at hlens; omega
    | some k =>
      rw [hk] at hj
      simp only at hj ⊢
      by_cases hd : k.op ≠ 1 ∨ k.num < 1
      · rw [if_pos hd] at hj; cases hj
      rw [if_neg hd] at hj ⊢
      have hyk := hm h17 k y hk rfl
      subst hyk
      have hkn := (hv.kid (List.mem_of_getElem? hk)).num
      have m1 := tmod_bd (a := x) (b := k.num) (by omega)
      have m2 := tmod_bd (a := x.tmod k.num + k.num) (b := k.num) (by omega)
      have m3 := Int.tmod_nonneg (a := x.tmod k.num + k.num) k.num (by omega)
      have q : inR ((x.tmod k.num + k.num).tmod k.num) = true := (inR_iff _).2 (by omega)
      exact ⟨q, within_span hj m3 (by omega)⟩
  rw [if_neg h17] at hj ⊢
  unfold reckY at hj ⊢
  by_cases h15 : t.op = 15
  · have h14 : ¬ t.op = 14 := by omega
    simp only [if_pos h15, if_neg h14] at hj ⊢
    have q : inR (x - y) = true := (inR_iff _).2 (by omega)
    exact ⟨q, within_span hj (by omega) (by omega)⟩
  by_cases h14 : t.op = 14
  · simp only [if_neg h15, if_pos h14] at hj ⊢
    have q : inR (x + y) = true := (inR_iff _).2 (by omega)
    exact ⟨q, within_span hj (by omega) (by omega)⟩
  have h16 : t.op = 16 := by omega
  simp only [if_neg h14, if_neg h15, if_pos h16] at hj ⊢
  have hcn := corner wx wy
  have hbd := spanY_bd hj
  have hin : inR (x * y) = true := (inR_iff _).2 (by omega)
  simp only [if_pos hin]
  exact ⟨trivial, within_span hj hcn.1 hcn.2⟩
theorem valL_all {vs : List V} {s nn : List Int} : ∀ {l : List Tm}, (∀ k ∈ l, (valR vs s nn k).2 = true) → valL vs s nn l = some (l.map fun k => (valR vs s nn k).1)
  | [], _ => rfl
  | t :: r, h => by rw [valL, if_pos (h t (by simp)), valL_all fun k hk => h k (by simp [hk])]; rfl
theorem typL_all {vs : List V} {nx : Bool} : ∀ {l : List Tm}, (typL vs nx l).2 = 0 → (typL vs nx l).1 = l.map fun k => (typ vs nx k).1
  | [], _ => rfl
  | t :: r, h => by
    rw [typL] at *
    by_cases h1 : (typ vs nx t).2 = 0
    case neg => rw [if_pos h1] at h; exact absurd h h1
    have h1' : ¬ (typ vs nx t).2 ≠ 0 := by simpa using h1
    rw [if_neg h1'] at h ⊢
    by_cases h2 : (typL vs nx r).2 = 0
    case neg => rw [if_pos h2] at h; exact absurd h h2
    have h2' : ¬ (typL vs nx r).2 ≠ 0 := by simpa using h2
    rw [if_neg h2']
    simp [typL_all h2]
theorem typ_within {vs : List V} {s nn : List Int} (hs : ranged vs s) (hn : ranged vs nn) (t : Tm) : Valid t → (typ vs true t).2 = 0 → (valR vs s nn t).2 = true ∧ within (typ vs true t).1 (valR vs s nn t).1 := by
  refine Tm.ind (P := fun t => Valid t → (typ vs true t).2 = 0 → (valR vs s nn t).2 = true ∧ within (typ vs true t).1 (valR vs s nn t).1) ?_ t
  intro t ih hv h
  have hk : ∀ k ∈ t.kids, (typ vs true k).2 = 0 := fun k hk => typ_kid hv h hk
  rw [typ_eq] at h ⊢
  rw [valR_eq]
  by_cases h4 : t.op ≤ 4
  · rw [if_pos h4] at *
    rw [if_pos h4]
    exact leaf_within hs hn hv h
  rw [if_neg h4] at h ⊢
  rw [if_neg h4]
  by_cases h0 : (typL vs true t.kids).2 = 0
  case neg => rw [if_pos h0] at h; exact absurd h h0
  have h0' : ¬ (typL vs true t.kids).2 ≠ 0 := by simpa using h0
  rw [if_neg h0'] at h ⊢
  have hvl : valL vs s nn t.kids = _ := valL_all fun k hkm => (ih k hkm (hv.kid hkm) (hk k hkm)).1
  rw [hvl]
  simp only
  obtain ⟨g1, g2⟩ := typL_len vs true t.kids h0
  have htl := typL_all h0
  refine op_within hv (by omega) h g2 g1 (by rw [g1]; simp) ?_ ?_
  · intro i y v hy hv'
    rw [htl] at hy
    simp only [List.getElem?_map, Option.map_eq_some_iff] at hy hv'
    obtain ⟨k, k1, rfl⟩ := hy
    obtain ⟨k', k2, rfl⟩ := hv'
    rw [k1] at k2; cases k2
    exact (ih k (List.mem_of_getElem? k1) (hv.kid (List.mem_of_getElem? k1)) (hk k (List.mem_of_getElem? k1))).2
  · intro h17 k v hk1 hv1
    simp only [List.getElem?_map, hk1, Option.map_some, Option.some.injEq] at hv1
    have hl2 := hv.len
    rw [kids2 (by omega)] at hl2
    obtain ⟨ya, yb, hy⟩ := list2 (l := (typL vs true t.kids).1) (by simp only at hl2; omega)
    rw [hy] at h
    have := joinY_17 h h17 hk1
    rw [← hv1, valR_eq, if_pos (by omega)]
    unfold leafR
    rw [if_pos (by omega)]
end Go.Am
namespace Go.Am
set_option linter.unusedVariables false
set_option linter.unusedSimpArgs false
/-! ### A variable replaced by its value -/
def numT (c : Int) : Tm := .mk 1 c ⟨#[]⟩ true []
theorem putT_name {keep : Bool} {nm : ByteArray} {x t : Tm} (h : t.op = 3 ∧ t.name = nm) : putT keep nm x t = x := by rw [putT_eq, if_pos h]
theorem putT_other {nm : ByteArray} {x t : Tm} (h : ¬ (t.op = 3 ∧ t.name = nm)) : (putT true nm x t).op = t.op ∧ (putT true nm x t).num = t.num ∧ (putT true nm x t).name = t.name ∧ (putT true nm x t).kids = putL true nm x t.kids := by
  rw [putT_eq, if_neg h]; exact ⟨rfl, rfl, rfl, rfl⟩
theorem wrongT_same {t u : Tm} (h1 : u.op = t.op) (h2 : u.num = t.num) (h3 : u.name = t.name) (h4 : u.kids.length = t.kids.length) : wrongT u = wrongT t := by unfold wrongT; rw [h1, h2, h3, h4]
theorem wrong_num {c : Int} (h : -255 ≤ c ∧ c ≤ 255) : wrongT (numT c) = 0 := by
  have e : kidsOf 1 = (0, 0) := rfl
  simp [wrongT, numT, Tm.op, Tm.num, Tm.name, Tm.kids, e, namedOp]
  omega
mutual
theorem chk_put {nm : ByteArray} {c : Int} (hc : -255 ≤ c ∧ c ≤ 255) : ∀ (t : Tm) (deep k : Int), (chk t deep k).1 = 0 → chk (putT true nm (numT c) t) deep k = chk t deep k
  | .mk o n s b ks, deep, k, h => by
    have hv : Valid (.mk o n s b ks) := ⟨deep, k, h⟩
    by_cases hn : (Tm.mk o n s b ks).op = 3 ∧ (Tm.mk o n s b ks).name = nm
    · rw [putT_name hn]
      have hk := hv.leaf (by omega)
      rw [chk_eq] at h ⊢
      rw [chk_eq (.mk o n s b ks)]
      rw [hk] at h ⊢
      rw [wrong_num hc]
      rw [hv.wrong] at h ⊢
      rfl
    · obtain ⟨e1, e2, e3, e4⟩ := putT_other (x := numT c) hn
      have e5 := wrongT_same e1 e2 e3 (by rw [e4, putL_len])
      rw [chk_eq] at h ⊢
      rw [chk_eq (.mk o n s b ks), e5, e4]
      by_cases c1 : deep > 64
      · rw [if_pos c1, if_pos c1]
      rw [if_neg c1] at h
      rw [if_neg c1, if_neg c1]
      by_cases c2 : wrongT (.mk o n s b ks) ≠ 0
      · rw [if_pos c2] at h; exact absurd h c2
      rw [if_neg c2] at h
      rw [if_neg c2, if_neg c2]
      by_cases c3 : k + 1 > 4096
      · rw [if_pos c3, if_pos c3]
      rw [if_neg c3] at h
      rw [if_neg c3, if_neg c3]
      exact chkL_put hc ks _ _ h
theorem chkL_put {nm : ByteArray} {c : Int} (hc : -255 ≤ c ∧ c ≤ 255) : ∀ (l : List Tm) (deep k : Int), (chkL l deep k).1 = 0 → chkL (putL true nm (numT c) l) deep k = chkL l deep k
  | [], _, _, _ => rfl
  | t :: r, deep, k, h => by
    rw [putL, chkL]
    rw [chkL] at h ⊢
    by_cases c1 : (chk t deep k).1 ≠ 0
    · rw [if_pos c1] at h; exact absurd h c1
    rw [if_neg c1] at h
    have e := chk_put (nm := nm) hc t deep k (by simpa using c1)
    rw [e, if_neg c1, if_neg c1]
    exact chkL_put hc r _ _ h
end
theorem valid_put {nm : ByteArray} {c : Int} (hc : -255 ≤ c ∧ c ≤ 255) {t : Tm} (h : Valid t) : Valid (putT true nm (numT c) t) := by
  obtain ⟨deep, k, h⟩ := h
  exact ⟨deep, k, by rw [chk_put hc t deep k h]; exact h⟩
def subY (y z : Y) : Prop := y.b = z.b ∧ (z.b = false → z.lo ≤ y.lo ∧ y.lo ≤ y.hi ∧ y.hi ≤ z.hi)
theorem subY_refl {y : Y} (h : y.good) : subY y y := ⟨rfl, fun _ => ⟨Int.le_refl _, h.2.2.1, Int.le_refl _⟩⟩
theorem spanY_sub {lo hi lo' hi' : Int} (h : (spanY lo hi).2 = 0) (h1 : lo ≤ lo') (h2 : lo' ≤ hi') (h3 : hi' ≤ hi) : (spanY lo' hi').2 = 0 ∧ subY (spanY lo' hi').1 (spanY lo hi).1 := by
  unfold spanY at *
  by_cases hc : lo < -1048576 ∨ hi > 1048576 ∨ lo > hi ∨ hi - lo > 4096
  · rw [if_pos hc] at h; cases h
  · have hc' : ¬ (lo' < -1048576 ∨ hi' > 1048576 ∨ lo' > hi' ∨ hi' - lo' > 4096) := by omega
    rw [if_neg hc, if_neg hc']
    exact ⟨rfl, rfl, fun _ => ⟨h1, h2, h3⟩⟩
theorem mulLo_le (a b : Y) (ha : a.lo ≤ a.hi) (hb : b.lo ≤ b.hi) : mulLo a b ≤ mulHi a b := by
  have := corner (a := a) (b := b) (x := a.lo) (y := b.lo) ⟨Int.le_refl _, ha⟩ ⟨Int.le_refl _, hb⟩
  omega
theorem mul_sub {a b c d : Y} (hac : c.lo ≤ a.lo ∧ a.lo ≤ a.hi ∧ a.hi ≤ c.hi) (hbd : d.lo ≤ b.lo ∧ b.lo ≤ b.hi ∧ b.hi ≤ d.hi) : mulLo c d ≤ mulLo a b ∧ mulHi a b ≤ mulHi c d := by
  have p1 := corner (a := c) (b := d) (x := a.lo) (y := b.lo) ⟨by omega, by omega⟩ ⟨by omega, by omega⟩
  have p2 := corner (a := c) (b := d) (x := a.lo) (y := b.hi) ⟨by omega, by omega⟩ ⟨by omega, by omega⟩
  have p3 := corner (a := c) (b := d) (x := a.hi) (y := b.lo) ⟨by omega, by omega⟩ ⟨by omega, by omega⟩
  have p4 := corner (a := c) (b := d) (x := a.hi) (y := b.hi) ⟨by omega, by omega⟩ ⟨by omega, by omega⟩
  generalize mulLo c d = L at *
  generalize mulHi c d = H at *
  unfold mulLo mulHi
  generalize a.lo * b.lo = s at *
  generalize a.lo * b.hi = t at *
  generalize a.hi * b.lo = u at *
  generalize a.hi * b.hi = v at *
  unfold mn mx
  omega
theorem joinY_mono {t u : Tm} {l q : List Y} (hv : Valid t) (h5 : 5 ≤ t.op) (hop : u.op = t.op) (hlen : l.length = t.kids.length) (hql : q.length = l.length) (hj : (joinY t l).2 = 0)
    (hk : t.op = 17 → ∀ k, t.kids[1]? = some k → k.op = 1 → ∃ k', u.kids[1]? = some k' ∧ k'.op = k.op ∧ k'.num = k.num)
    (hs : ∀ (i : Nat) (y z : Y), q[i]? = some y → l[i]? = some z → subY y z) : (joinY u q).2 = 0 ∧ subY (joinY u q).1 (joinY t l).1 := by
  have hops := hv.op
  have hlens := hv.len
  have bb : ∀ {y z : Y}, y.b = true → z.b = true → subY y z := fun h1 h2 => ⟨by rw [h1, h2], fun h => by rw [h2] at h; cases h⟩
  by_cases h59 : 5 ≤ t.op ∧ t.op ≤ 9
  · have hall := joinY_5 hj h59
    have hq : q.all Y.b = true := by
      refine List.all_eq_true.2 fun y hy => ?_
      obtain ⟨i, hi⟩ := List.mem_iff_getElem?.1 hy
      have hlt : i < l.length := by have := (List.getElem?_eq_some_iff.1 hi).1; omega
      rw [(hs i y _ hi (List.getElem?_eq_getElem hlt)).1]
      exact List.all_eq_true.1 hall _ (List.getElem_mem hlt)
    have e1 : joinY t l = (YB, 0) := by unfold joinY; rw [if_pos h59, if_pos hall]
    have e2 : joinY u q = (YB, 0) := by unfold joinY; rw [hop, if_pos h59, if_pos hq]
    rw [e1, e2]
    exact ⟨rfl, bb rfl rfl⟩
  have h59u : ¬ (5 ≤ u.op ∧ u.op ≤ 9) := by rw [hop]; exact h59
  by_cases h18 : t.op = 18
  · rw [kids3 h18] at hlens
    obtain ⟨a, b, c, rfl⟩ := list3 (l := l) (by simp only at hlens; omega)
    obtain ⟨x, y, z, rfl⟩ := list3 (l := q) (by simpa using hql)
    have sx := hs 0 x a rfl rfl
    have sy := hs 1 y b rfl rfl
    have sz := hs 2 z c rfl rfl
    obtain ⟨j1, j2, j3⟩ := joinY_18 hj h59
    rw [joinY3 h59] at hj
    rw [joinY3 h59u, joinY3 h59]
    have hc1 : ¬ (!a.b || (b.b != c.b)) = true := by rw [j1, j2]; simp
    have hc2 : ¬ (!x.b || (y.b != z.b)) = true := by rw [sx.1, sy.1, sz.1, j1, j2]; simp
    rw [if_neg hc1] at hj
    rw [if_neg hc1, if_neg hc2]
    by_cases hb : b.b = true
    · have hy : y.b = true := by rw [sy.1, hb]
      rw [if_pos hb, if_pos hy]
      exact ⟨rfl, bb rfl rfl⟩
    · have hbf : b.b = false := by simpa using hb
      have hy : ¬ y.b = true := by rw [sy.1]; exact hb
      rw [if_neg hb] at hj
      rw [if_neg hb, if_neg hy]
      have s1 := sy.2 hbf
      have s2 := sz.2 (by rw [← j2, hbf])
      refine spanY_sub hj ?_ ?_ ?_ <;> simp only [mn, mx] <;> omega
  rw [kids2 (show 8 ≤ t.op ∧ t.op ≤ 17 by omega)] at hlens
  obtain ⟨a, b, rfl⟩ := list2 (l := l) (by simp only at hlens; omega)
  obtain ⟨x, y, rfl⟩ := list2 (l := q) (by simpa using hql)
  have sx := hs 0 x a rfl rfl
  have sy := hs 1 y b rfl rfl
  rw [joinY2 h59] at hj
  rw [joinY2 h59u, joinY2 h59, hop, sx.1, sy.1]
  by_cases h10 : t.op = 10 ∨ t.op = 11
  · simp only [if_pos h10] at hj ⊢
    by_cases hc : (a.b != b.b) = true
    · rw [if_pos hc] at hj; cases hj
    · simp only [if_neg hc]; exact ⟨trivial, bb rfl rfl⟩
  simp only [if_neg h10] at hj ⊢
  by_cases hc : (a.b || b.b) = true
  · rw [if_pos hc] at hj; cases hj
  simp only [if_neg hc] at hj ⊢
  have hab : a.b = false ∧ b.b = false := by cases ha : a.b <;> cases hb : b.b <;> simp_all
  have s1 := sx.2 hab.1
  have s2 := sy.2 hab.2
  by_cases h12 : t.op = 12 ∨ t.op = 13
  · simp only [if_pos h12]; exact ⟨trivial, bb rfl rfl⟩
  simp only [if_neg h12] at hj ⊢
  by_cases h17 : t.op = 17
  · simp only [if_pos h17] at hj ⊢
    cases hk1 : t.kids[1]? with
    | none =>
      have := List.getElem?_eq_none_iff.1 hk1
      simp only at hlens; omega
    | some k =>
      rw [hk1] at hj
      simp only at hj ⊢
      by_cases hd : k.op ≠ 1 ∨ k.num < 1
      · rw [if_pos hd] at hj; cases hj
      obtain ⟨k', q1, q2, q3⟩ := hk h17 k hk1 (by omega)
      rw [if_neg hd] at hj
      rw [q1]
      simp only [q2, q3, if_neg hd]
      have hbd := spanY_bd hj
      exact spanY_sub hj (by omega) (by omega) (by omega)
  simp only [if_neg h17] at hj ⊢
  unfold reckY at hj ⊢
  by_cases h15 : t.op = 15
  · simp only [if_pos h15] at hj ⊢
    exact spanY_sub hj (by omega) (by omega) (by omega)
  by_cases h14 : t.op = 14
  · simp only [if_neg h15, if_pos h14] at hj ⊢
    exact spanY_sub hj (by omega) (by omega) (by omega)
  simp only [if_neg h14, if_neg h15] at hj ⊢
  have hm := mul_sub s1 s2
  exact spanY_sub hj hm.1 (mulLo_le x y s1.2.1 s2.2.1) hm.2
theorem leafV_same {vs : List V} {nx : Bool} {t u : Tm} (h1 : u.op = t.op) (h2 : u.num = t.num) (h3 : u.name = t.name) : leafV vs nx u = leafV vs nx t := by unfold leafV; rw [h1, h2, h3]
theorem leafR_same {vs : List V} {s nn : List Int} {t u : Tm} (h1 : u.op = t.op) (h2 : u.num = t.num) (h3 : u.name = t.name) : leafR vs s nn u = leafR vs s nn t := by unfold leafR idxL; rw [h1, h2, h3]
theorem typL_put {vs : List V} {nm : ByteArray} {x : Tm} : ∀ {l : List Tm}, (typL vs true l).2 = 0 → (∀ k ∈ l, (typ vs true k).2 = 0 → (typ vs true (putT true nm x k)).2 = 0 ∧ subY (typ vs true (putT true nm x k)).1 (typ vs true k).1) →
    (typL vs true (putL true nm x l)).2 = 0 ∧ (∀ (i : Nat) (y z : Y), (typL vs true (putL true nm x l)).1[i]? = some y → (typL vs true l).1[i]? = some z → subY y z)
  | [], _, _ => ⟨rfl, by intro i y z h; simp [putL, typL] at h⟩
  | t :: r, h, hk => by
    have hall := typL_kid h
    obtain ⟨p1, p2⟩ := hk t (by simp) (hall t (by simp))
    have hr : (typL vs true r).2 = 0 := by
      rw [typL] at h
      have h1' : ¬ (typ vs true t).2 ≠ 0 := by simpa using hall t (by simp)
      rw [if_neg h1'] at h
      by_cases h2 : (typL vs true r).2 = 0
      · exact h2
      · rw [if_pos h2] at h; exact h
    obtain ⟨g1, g2⟩ := typL_put hr fun k hm => hk k (by simp [hm])
    have a1 : ¬ (typ vs true t).2 ≠ 0 := by simpa using hall t (by simp)
    have a2 : ¬ (typL vs true r).2 ≠ 0 := by simpa using hr
    have a3 : ¬ (typ vs true (putT true nm x t)).2 ≠ 0 := by simpa using p1
    have a4 : ¬ (typL vs true (putL true nm x r)).2 ≠ 0 := by simpa using g1
    rw [putL, typL, typL, if_neg a1, if_neg a2, if_neg a3, if_neg a4]
    refine ⟨rfl, ?_⟩
    intro i y z hy hz
    cases i with
    | zero => simp at hy hz; rw [← hy, ← hz]; exact p2
    | succ i => exact g2 i y z (by simpa using hy) (by simpa using hz)
theorem typ_put {vs : List V} {nm : ByteArray} {k : Nat} {v : V} {c : Int} (hk : idxV vs nm = some k) (hvk : vs[k]? = some v) (hb : v.bool = false) (hc : -255 ≤ c ∧ c ≤ 255) (hw : v.lo ≤ c ∧ c ≤ v.hi) (t : Tm) :
    Valid t → (typ vs true t).2 = 0 → (typ vs true (putT true nm (numT c) t)).2 = 0 ∧ subY (typ vs true (putT true nm (numT c) t)).1 (typ vs true t).1 := by
  refine Tm.ind (P := fun t => Valid t → (typ vs true t).2 = 0 → (typ vs true (putT true nm (numT c) t)).2 = 0 ∧ subY (typ vs true (putT true nm (numT c) t)).1 (typ vs true t).1) ?_ t
  intro t ih hv h
  have hg := typ_good vs true t h
  by_cases hn : t.op = 3 ∧ t.name = nm
  · rw [putT_name hn]
    have e1 : typ vs true (numT c) = spanY c c := by rw [typ_eq]; rfl
    have e2 : typ vs true t = spanY v.lo v.hi := by
      rw [typ_eq, if_pos (by omega)]
      unfold leafV
      have n1 : ¬ t.op = 1 := by omega
      have n2 : ¬ t.op = 2 := by omega
      have n4 : ¬ (t.op = 4 ∧ true = false) := by simp
      rw [if_neg n1, if_neg n2, hn.2, hk]
      simp only [if_neg n4, hvk, hb]
      rfl
    rw [e2] at h
    rw [e1, e2]
    exact spanY_sub h hw.1 (Int.le_refl _) hw.2
  · obtain ⟨e1, e2, e3, e4⟩ := putT_other (x := numT c) hn
    have hvp := valid_put (nm := nm) hc hv
    by_cases h4 : t.op ≤ 4
    · have e : typ vs true (putT true nm (numT c) t) = typ vs true t := by
        rw [typ_eq, typ_eq, e1, if_pos h4, if_pos h4]; exact leafV_same e1 e2 e3
      rw [e]
      exact ⟨h, subY_refl hg⟩
    · have hkids := fun k (hm : k ∈ t.kids) => typ_kid hv h hm
      rw [typ_eq, if_neg h4] at h
      by_cases h0 : (typL vs true t.kids).2 = 0
      case neg => rw [if_pos h0] at h; exact absurd h h0
      have h0' : ¬ (typL vs true t.kids).2 ≠ 0 := by simpa using h0
      rw [if_neg h0'] at h
      obtain ⟨g1, g2⟩ := typL_put (nm := nm) (x := numT c) h0 fun k hm hk0 => ih k hm (hv.kid hm) hk0
      have g1' : ¬ (typL vs true (putL true nm (numT c) t.kids)).2 ≠ 0 := by simpa using g1
      have et : typ vs true t = joinY t (typL vs true t.kids).1 := by rw [typ_eq, if_neg h4, if_neg h0']
      have ep : typ vs true (putT true nm (numT c) t) = joinY (putT true nm (numT c) t) (typL vs true (putL true nm (numT c) t.kids)).1 := by rw [typ_eq, e1, e4, if_neg h4, if_neg g1']
      rw [et, ep]
      have l1 := (typL_len vs true t.kids h0).1
      have l2 := (typL_len vs true _ g1).1
      refine joinY_mono hv (by omega) e1 l1 (by rw [l2, l1, putL_len]) h ?_ g2
      intro h17 k hk1 hk2
      refine ⟨putT true nm (numT c) k, by rw [e4, putL_map]; simp [hk1], ?_⟩
      have hno : ¬ (k.op = 3 ∧ k.name = nm) := by omega
      obtain ⟨f1, f2, _, _⟩ := putT_other (x := numT c) hno
      exact ⟨f1, f2⟩
theorem valL_put {vs : List V} {s nn : List Int} {nm : ByteArray} {x : Tm} : ∀ {l : List Tm}, (∀ k ∈ l, valR vs s nn (putT true nm x k) = valR vs s nn k) → valL vs s nn (putL true nm x l) = valL vs s nn l
  | [], _ => rfl
  | t :: r, h => by rw [putL, valL, valL, h t (by simp), valL_put fun k hk => h k (by simp [hk])]
theorem valR_put {vs : List V} {s nn : List Int} {nm : ByteArray} {k : Nat} {v : V} {c : Int} (hk : idxV vs nm = some k) (hvk : vs[k]? = some v) (hb : v.bool = false) (hc : -255 ≤ c ∧ c ≤ 255) (hsk : s[k]? = some c) (hs : s.length = vs.length) (t : Tm) :
    Valid t → valR vs s nn (putT true nm (numT c) t) = valR vs s nn t := by
  refine Tm.ind (P := fun t => Valid t → valR vs s nn (putT true nm (numT c) t) = valR vs s nn t) ?_ t
  intro t ih hv
  by_cases hn : t.op = 3 ∧ t.name = nm
  · rw [putT_name hn]
    have e1 : valR vs s nn (numT c) = (c, true) := by rw [valR_eq]; rfl
    have hin : inR c = true := (inR_iff _).2 (by omega)
    rw [e1, valR_eq, if_pos (by omega)]
    unfold leafR
    have n2 : ¬ t.op ≤ 2 := by omega
    have n4 : ¬ t.op = 4 := by omega
    have hil : idxL vs s nn t = some k := by unfold idxL; simp only [if_neg n4]; rw [if_pos hs, hn.2, hk]
    rw [if_neg n2, hil]
    simp only [hvk, if_neg n4, hsk, hb, hin]
    rfl
  · obtain ⟨e1, e2, e3, e4⟩ := putT_other (x := numT c) hn
    by_cases h4 : t.op ≤ 4
    · rw [valR_eq, valR_eq, e1, if_pos h4, if_pos h4]; exact leafR_same e1 e2 e3
    · rw [valR_eq, valR_eq, e1, e4, if_neg h4, if_neg h4, valL_put fun k hm => ih k hm (hv.kid hm)]
end Go.Am
namespace Go.Am
set_option linter.unusedVariables false
set_option linter.unusedSimpArgs false
def offB (v : V) (x : Int) : Bool := (v.bool && (decide (x < 0) || decide (x > 1))) || (!v.bool && (decide (x < v.lo) || decide (x > v.hi)))
theorem ranged_step (n : Nat) (vs : List V) (s : List Int) (i : Nat) (v : V) (x : Int) (hv : vs[i]? = some v) (hx : s[i]? = some x) (hi : i < 1000000000000) (hlt : i < s.length) :
    law30_ranged_l4 n [eVs vs, eIs s, eI (i : Int)] = if offB v x = true then some (.inr (.inr (eB false))) else some (.inl [eVs vs, eIs s, eI ((i + 1 : Nat) : Int)]) := by
  have ha := add1 (bt := false) (i := i) (by omega)
  unfold offB
  cases hb : v.bool
  · by_cases h1 : x < v.lo <;> by_cases h2 : v.hi < x <;> simp [law30_ranged_l4, eIs_lenP, hlt, eVs_ix hv, eIs_ix hx, v.atc, hb, ha, h1, h2]
  · by_cases h1 : x < 0 <;> by_cases h2 : 1 < x <;> simp [law30_ranged_l4, eIs_lenP, hlt, eVs_ix hv, eIs_ix hx, v.atc, hb, ha, h1, h2]
theorem law30_ranged_ok (n : Nat) (vs : List V) (s : List Int) (hn : vs.length < n) (hl : vs.length < 1000000000) : ∃ r : Bool, law30_rangedL n [eVs vs, eIs s] = some (eB r) ∧ (r = true → ranged vs s) := by
  by_cases hlen : s.length = vs.length
  case neg =>
    have : ¬ ((s.length : Int) = (vs.length : Int)) := by omega
    exact ⟨false, by simp [law30_rangedL, law30_ranged, eIs_lenP, eVs_len, this], by intro h; cases h⟩
  have hi := iterL_list (f := law30_ranged_l4 n) (vs.zip s) (fun i (_ : Unit) => [eVs vs, eIs s, eI (i : Int)])
    (fun r _ => if r.any (fun p => offB p.1 p.2) = true then (.inr (eB false) : List D ⊕ D) else .inl []) (fun _ _ => True)
    (fun _ _ => by simp [law30_ranged_l4, eIs_lenP, hlen]) ?_ n 0 () trivial (by simp; omega) (Nat.zero_le _)
  · have e0 : (eI ((0 : Nat) : Int)) = eI 0 := rfl
    rw [e0] at hi
    simp only [List.drop_zero] at hi
    have hz : ((s.length : Int) = (vs.length : Int)) := by omega
    by_cases h : (vs.zip s).any (fun p => offB p.1 p.2) = true
    · rw [if_pos h] at hi
      exact ⟨false, by simp [law30_rangedL, law30_ranged, eIs_lenP, eVs_len, hz, hi], by intro h; cases h⟩
    · rw [if_neg h] at hi
      refine ⟨true, by simp [law30_rangedL, law30_ranged, eIs_lenP, eVs_len, hz, hi], fun _ => ⟨hlen, ?_⟩⟩
      intro i v x hv hx
      have hm : (v, x) ∈ vs.zip s := by
        refine List.mem_of_getElem? (i := i) ?_
        rw [List.getElem?_zip_eq_some]
        exact ⟨hv, hx⟩
      have ho : offB v x = false := by
        cases hq : offB v x with
        | false => rfl
        | true => exact absurd (List.any_eq_true.2 ⟨_, hm, hq⟩) h
      unfold offB at ho
      cases hb : v.bool <;> simp [hb] at ho ⊢ <;> omega
  · intro i p _ hp hi' _
    obtain ⟨v, x⟩ := p
    rw [List.getElem?_zip_eq_some] at hp
    obtain ⟨hv, hx⟩ := hp
    simp only at hv hx
    have hlt := (List.getElem?_eq_some_iff.1 hx).1
    rw [ranged_step n vs s i v x hv hx (by omega) hlt]
    cases ho : offB v x
    · left; exact ⟨(), by simp, by simp only [List.any_cons, ho, Bool.false_or], trivial⟩
    · right; simp [ho]
theorem num_numT (n : Nat) (c : Int) : law30_numL n [eI c] = some (numT c).d := by
  simp [law30_numL, law30_num, numT, Tm.d, Tm.cells, Tm.rows, rowD]
theorem numT_ok {c : Int} (h : -255 ≤ c ∧ c ≤ 255) : (numT c).Ok := .mk _ _ _ _ _ (by omega) (by omega) (by decide) (by simp) (by simp)
theorem typeR_put {vs : List V} {nm : ByteArray} {k : Nat} {v : V} {c : Int} (hk : idxV vs nm = some k) (hvk : vs[k]? = some v) (hb : v.bool = false) (hc : -255 ≤ c ∧ c ≤ 255) (hw : v.lo ≤ c ∧ c ≤ v.hi) {t : Tm} (h : (typeR vs true t).2 = 0) :
    (typeR vs true (putT true nm (numT c) t)).2 = 0 ∧ (typeR vs true (putT true nm (numT c) t)).1.b = (typeR vs true t).1.b := by
  obtain ⟨hv, ht⟩ := typeR_ok h
  have hch : (chk t 1 0).1 = 0 := by
    unfold typeR at h
    by_cases hq : (chk t 1 0).1 = 0
    · exact hq
    · rw [if_pos hq] at h; exact h
  have hcp := chk_put (nm := nm) hc t 1 0 hch
  obtain ⟨p1, p2⟩ := typ_put (nm := nm) hk hvk hb hc hw t hv ht
  have hnn : ¬ (chk t 1 0).1 ≠ 0 := by simpa using hch
  unfold typeR
  rw [hcp, if_neg hnn, if_neg hnn]
  exact ⟨p1, p2.1⟩
theorem TermsWithin_ok (n : Nat) (vs : List V) (t : Tm) (s nn : List Int) (w : Int) (hw : 0 ≤ w ∧ w ≤ 255) (hok : t.Ok) (hn : t.sz * 3 + 600 < n) (hin : ∀ v, v ∈ s ∨ v ∈ nn → -9223372036854775808 ≤ v ∧ v ≤ 9223372036854775807) :
    law30_TermsWithinL n [eVs vs, t.d, eIs s, eIs nn, .val (.int .u8 w)] = some (eB true) := by
  obtain ⟨n', rfl⟩ : ∃ q, n = q + 200 := ⟨n - 200, by omega⟩
  have hL := lives30_ok n'
  generalize n' + 200 = n at *
  have h1 := law30_Light_ok n t (by omega) hok
  have h2 := law30_few_ok n vs
  by_cases hl : lightB t = true
  case neg =>
    have hl' : lightB t = false := by simpa using hl
    simp -implicitDefEqProofs [law30_TermsWithinL, law30_TermsWithin, hL, h1, hl']
  by_cases hf : vs.length ≤ 20
  case neg => simp -implicitDefEqProofs [law30_TermsWithinL, law30_TermsWithin, hL, h1, h2, hl, hf]
  obtain ⟨r1, e1, g1⟩ := law30_ranged_ok n vs s (by omega) (by omega)
  obtain ⟨r2, e2, g2⟩ := law30_ranged_ok n vs nn (by omega) (by omega)
  cases r1 with
  | false => simp -implicitDefEqProofs [law30_TermsWithinL, law30_TermsWithin, hL, h1, h2, hl, hf, e1]
  | true =>
  cases r2 with
  | false => simp -implicitDefEqProofs [law30_TermsWithinL, law30_TermsWithin, hL, h1, h2, hl, hf, e1, e2]
  | true =>
  have hs := g1 rfl
  have hnn := g2 rfl
  have hT := terms_Type_ok n vs t true (by omega) hok (by omega)
  have hE := terms_Eval_ok n vs t s nn (by omega) hok (by omega) hin
  by_cases ht : (typeR vs true t).2 = 0
  case neg =>
    have he : evalR vs t s nn = (0, false) := by unfold evalR; rw [if_pos (.inl ht)]
    rw [he] at hE
    have hr : resD (0, false) = .tup [eI 0, eB false] := rfl
    rw [hr] at hE
    simp -implicitDefEqProofs [law30_TermsWithinL, law30_TermsWithin, hL, h1, h2, hl, hf, e1, e2, hT, hE, ht]
  obtain ⟨hv, hty⟩ := typeR_ok ht
  have hcond : ¬ ((typeR vs true t).2 ≠ 0 ∨ s.length ≠ vs.length) := by
    intro h; rcases h with h | h
    · exact h ht
    · exact h hs.1
  have he : evalR vs t s nn = valR vs s nn t := by unfold evalR; rw [if_neg hcond]
  have htt : (typeR vs true t).1 = (typ vs true t).1 := by
    unfold typeR at ht ⊢
    by_cases hq : (chk t 1 0).1 ≠ 0
    · rw [if_pos hq] at ht; exact absurd ht hq
    · rw [if_neg hq]
  obtain ⟨w1, w2⟩ := typ_within hs hnn t hv hty
  rw [← htt] at w2
  rw [he] at hE
  have hres : ∀ p : Int × Bool, p.2 = true → resD p = .tup [eI p.1, eB true] := fun p h => by unfold resD; rw [if_pos h]
  rw [hres _ w1] at hE
  generalize hy : (typeR vs true t).1 = y at *
  generalize hz : (valR vs s nn t).1 = z at *
  have hchk : ((if y.b = true then decide (z ≠ 0) && decide (z ≠ 1) else decide (z < y.lo) || decide (z > y.hi)) = false) := by
    unfold within at w2
    cases hb : y.b <;> simp [hb] at w2 ⊢ <;> omega
  -- behind the checks of the value
  suffices hrest : ∀ v113 : ByteArray, True from by
    by_cases h0 : vs.length = 0
    · have hv0 : (vs.length : Int) = 0 := by omega
      cases hb : y.b
      · simp only [hb, Bool.false_eq_true, if_false, Bool.or_eq_false_iff, decide_eq_false_iff_not] at hchk
        simp -implicitDefEqProofs [law30_TermsWithinL, law30_TermsWithin, hL, h1, h2, hl, hf, e1, e2, hT, hE, ht, hb, hchk, eVs_len, hv0]
      · simp only [hb, if_true, Bool.and_eq_false_iff, decide_eq_false_iff_not, Decidable.not_not] at hchk
        rcases hchk with hc | hc <;> simp -implicitDefEqProofs [law30_TermsWithinL, law30_TermsWithin, hL, h1, h2, hl, hf, e1, e2, hT, hE, ht, hb, hc, eVs_len, hv0]
    have c1 : cvP .i64 (.val (.int .u8 w)) = some (eI w) := by
      show some (D.val (.int .i64 (IntKind.i64.wrap w))) = _
      rw [wrap64 _ (by omega) (by omega)]; rfl
    have hnz : (vs.length : Int) ≠ 0 := by omega
    have c2 : binP false .rem (eI w) (eI (vs.length : Int)) = some (eI (w.tmod vs.length)) := b_rem hnz
    have m1 := Int.tmod_lt_of_pos w (show (0 : Int) < vs.length by omega)
    have m2 := Int.tmod_nonneg (a := w) vs.length hw.1
    obtain ⟨i, hi⟩ : ∃ i : Nat, w.tmod vs.length = i := ⟨(w.tmod vs.length).toNat, by omega⟩
    rw [hi] at c2 m1
    have hilt : i < vs.length := by omega
    have hvi := List.getElem?_eq_getElem hilt
    generalize vs[i] = vi at hvi
    have hidx : ∃ k, idxV vs vi.name = some k := by
      cases hq : idxV vs vi.name with
      | some k => exact ⟨k, rfl⟩
      | none =>
        unfold idxV at hq
        rw [List.findIdx?_eq_none_iff] at hq
        have := hq vi (List.mem_of_getElem? hvi)
        simp at this
    obtain ⟨k, hk⟩ := hidx
    obtain ⟨v, hvk, hvn, hklt⟩ := idxV_lt hk
    have hx := ref30_Index_ok n vs vi.name (by omega) (by omega)
    rw [hk] at hx
    obtain ⟨c, hsk⟩ := idx_of_len hklt hs.1
    have hrk := hs.2 k v c hvk hsk
    by_cases hb3 : v.bool = true ∨ c < -255 ∨ c > 255
    · cases hb : y.b
      · simp only [hb, Bool.false_eq_true, if_false, Bool.or_eq_false_iff, decide_eq_false_iff_not] at hchk
        cases hvb : v.bool
        · simp only [hvb, Bool.false_eq_true, false_or] at hb3
          by_cases c3 : c < -255
          · simp -implicitDefEqProofs [law30_TermsWithinL, law30_TermsWithin, hL, h1, h2, hl, hf, e1, e2, hT, hE, ht, hb, hchk, eVs_len, h0, c1, c2, eVs_ix hvi, vi.atc, hx, eVs_ix hvk, v.atc, hvb, eIs_ix hsk, c3]
          · have c4 : 255 < c := by omega
            simp -implicitDefEqProofs [law30_TermsWithinL, law30_TermsWithin, hL, h1, h2, hl, hf, e1, e2, hT, hE, ht, hb, hchk, eVs_len, h0, c1, c2, eVs_ix hvi, vi.atc, hx, eVs_ix hvk, v.atc, hvb, eIs_ix hsk, c3, c4]
        · simp -implicitDefEqProofs [law30_TermsWithinL, law30_TermsWithin, hL, h1, h2, hl, hf, e1, e2, hT, hE, ht, hb, hchk, eVs_len, h0, c1, c2, eVs_ix hvi, vi.atc, hx, eVs_ix hvk, v.atc, hvb]
      · simp only [hb, if_true, Bool.and_eq_false_iff, decide_eq_false_iff_not, Decidable.not_not] at hchk
        cases hvb : v.bool
        · simp only [hvb, Bool.false_eq_true, false_or] at hb3
          by_cases c3 : c < -255
          · rcases hchk with hc | hc <;> simp -implicitDefEqProofs [law30_TermsWithinL, law30_TermsWithin, hL, h1, h2, hl, hf, e1, e2, hT, hE, ht, hb, hc, eVs_len, h0, c1, c2, eVs_ix hvi, vi.atc, hx, eVs_ix hvk, v.atc, hvb, eIs_ix hsk, c3]
          · have c4 : 255 < c := by omega
            rcases hchk with hc | hc <;> simp -implicitDefEqProofs [law30_TermsWithinL, law30_TermsWithin, hL, h1, h2, hl, hf, e1, e2, hT, hE, ht, hb, hc, eVs_len, h0, c1, c2, eVs_ix hvi, vi.atc, hx, eVs_ix hvk, v.atc, hvb, eIs_ix hsk, c3, c4]
        · rcases hchk with hc | hc <;> simp -implicitDefEqProofs [law30_TermsWithinL, law30_TermsWithin, hL, h1, h2, hl, hf, e1, e2, hT, hE, ht, hb, hc, eVs_len, h0, c1, c2, eVs_ix hvi, vi.atc, hx, eVs_ix hvk, v.atc, hvb]
    have hvb : v.bool = false := by cases hq : v.bool with
      | false => rfl
      | true => exact absurd (.inl hq) hb3
    have hcb : -255 ≤ c ∧ c ≤ 255 := by omega
    have c3 : ¬ c < -255 := by omega
    have c4 : ¬ 255 < c := by omega
    rw [hvb, if_neg (show ¬ (false = true) by simp)] at hrk
    have hP := terms_Put_ok v.name (numT c) n t (by omega) hok
    have okp := putT_ok true v.name (numT c) (numT_ok hcb) t hok
    have hszp := putT_sz true v.name (numT c) t
    have hsz2 : (numT c).sz = 2 := rfl
    rw [hsz2] at hszp
    have hkn : idxV vs v.name = some k := by rw [hvn]; exact hk
    have hT2 := terms_Type_ok n vs _ true (by omega) okp (by omega)
    have hE2 := terms_Eval_ok n vs _ s nn (by omega) okp (by omega) hin
    obtain ⟨q1, q2⟩ := typeR_put (nm := v.name) hkn hvk hvb hcb hrk ht
    have hcond2 : ¬ ((typeR vs true (putT true v.name (numT c) t)).2 ≠ 0 ∨ s.length ≠ vs.length) := by
      intro h; rcases h with h | h
      · exact h q1
      · exact h hs.1
    have he2 : evalR vs (putT true v.name (numT c) t) s nn = valR vs s nn t := by
      unfold evalR; rw [if_neg hcond2]; exact valR_put hkn hvk hvb hcb hsk hs.1 t hv
    rw [he2, hres _ w1, hz] at hE2
    rw [hy] at q2
    have hN := num_numT n c
    cases hb : y.b
    · simp only [hb, Bool.false_eq_true, if_false, Bool.or_eq_false_iff, decide_eq_false_iff_not] at hchk
      rw [hb] at q2
      simp -implicitDefEqProofs [law30_TermsWithinL, law30_TermsWithin, hL, h1, h2, hl, hf, e1, e2, hT, hE, ht, hb, hchk, eVs_len, h0, c1, c2, eVs_ix hvi, vi.atc, hx, eVs_ix hvk, v.atc, hvb, eIs_ix hsk, c3, c4, hN, hP, hT2, hE2, q1, q2]
    · simp only [hb, if_true, Bool.and_eq_false_iff, decide_eq_false_iff_not, Decidable.not_not] at hchk
      rw [hb] at q2
      rcases hchk with hc | hc <;> simp -implicitDefEqProofs [law30_TermsWithinL, law30_TermsWithin, hL, h1, h2, hl, hf, e1, e2, hT, hE, ht, hb, hc, eVs_len, h0, c1, c2, eVs_ix hvi, vi.atc, hx, eVs_ix hvk, v.atc, hvb, eIs_ix hsk, c3, c4, hN, hP, hT2, hE2, q1, q2]
  exact fun _ => trivial
end Go.Am
namespace Go.Am
set_option linter.unusedVariables false
set_option linter.unusedSimpArgs false
/-! ### Names -/
theorem shiftL {α : Type} (A B : List α) (z s : α) : (((A ++ B ++ [z]).take (A.length + 1) ++ (((A ++ B ++ [z]).drop A.length).take (B.length + 1)).take (min ((((A ++ B ++ [z]).drop A.length).take (B.length + 1)).length) B.length) ++ (A ++ B ++ [z]).drop (A.length + 1 + min ((((A ++ B ++ [z]).drop A.length).take (B.length + 1)).length) B.length)).set A.length s) = A ++ s :: B := by
  have e1 : (A ++ B ++ [z]).drop A.length = B ++ [z] := by rw [List.append_assoc, List.drop_left]
  have e2 : (B ++ [z]).take (B.length + 1) = B ++ [z] := List.take_of_length_le (by simp)
  rw [e1, e2]
  have e3 : min (B ++ [z]).length B.length = B.length := by simp
  rw [e3]
  have e4 : (B ++ [z]).take B.length = B := List.take_left
  have e5 : (A ++ B ++ [z]).drop (A.length + 1 + B.length) = [] := List.drop_eq_nil_of_le (by simp; omega)
  rw [e4, e5, List.append_nil]
  obtain ⟨w, hw⟩ : ∃ w, (A ++ B ++ [z]).take (A.length + 1) = A ++ [w] := by
    rw [List.append_assoc, List.take_append]
    cases B with
    | nil => exact ⟨z, by rw [List.take_of_length_le (by omega)]; simp⟩
    | cons b B => exact ⟨b, by rw [List.take_of_length_le (by omega)]; simp⟩
  rw [hw, List.append_assoc]
  simp
theorem cutP_lo {n i : Nat} (h : i ≤ n) : cutP n (some (eI (i : Int))) none = some (i, n - i) := by simp [cutP, bndP, eI, h]
theorem eSs_es (l : List ByteArray) : esD (eSs l) = l.map fun s => [eS s] := rfl
theorem terms_put_ok (n : Nat) (s : ByteArray) (l : List ByteArray) (hs : Srt l) (hn : l.length + 2 < n) (hl : l.length < 1000000000) : terms_put_h n [eS s, eSs l] = some [eSs (insS s l)] := by
  obtain ⟨a, b, rfl, h2, h3, h4, h5, h6⟩ := cutS s hs
  have es := eSs_es (a ++ b)
  have key : iterL (terms_put_h_l2 n) n [eS s, eI ((a ++ b).length : Int), eSs (a ++ b)] = some (.inl [eS s, eI (a.length : Int), eSs (a ++ b)]) := by
    refine iterL_run (fun j => [eS s, eI (((a ++ b).length - j : Nat) : Int), eSs (a ++ b)]) b.length (by simp) ?_ ?_ (by simp at hn; omega)
    · intro j hj
      have hlen : (a ++ b).length = a.length + b.length := by simp
      obtain ⟨m, hm⟩ : ∃ m : Nat, (a ++ b).length - j = m + 1 := ⟨(a ++ b).length - j - 1, by omega⟩
      have hm2 : (a ++ b).length - (j + 1) = m := by omega
      have hget : (a ++ b)[m]? = b[m - a.length]? := List.getElem?_append_right (by omega)
      have hlt : m - a.length < b.length := by omega
      have hg2 := List.getElem?_eq_getElem hlt
      rw [hg2] at hget
      have hb := h3 _ (List.getElem_mem hlt)
      generalize b[m - a.length] = x at *
      have hsub : binP false .sub (eI ((m + 1 : Nat) : Int)) (eI 1) = some (eI (m : Int)) := by
        rw [b_sub (by omega) (by omega)]; congr 2; omega
      have hnum : numP (esD (eSs (a ++ b))).length (eI (m : Int)) = some m := by rw [numP_nat, if_pos (by rw [es]; simp at hlen ⊢; omega)]
      have hel : (esD (eSs (a ++ b)))[m]? = some [eS x] := by rw [es, List.getElem?_map, hget]; rfl
      have hpos : ((m + 1 : Nat) : Int) > 0 := by omega
      simp only [hm, hm2]
      simp only [terms_put_h_l2, pd_0, pd_s, b_gtr, decide_eq_true hpos, obind_s, gD_b, if_true, hsub, hnum, hel, atP_f, List.getElem?_cons_zero, s_gt, hb, pick_b, oif_b]
      rfl
    · have hlen : (a ++ b).length - b.length = a.length := by simp
      simp only [hlen]
      by_cases h0 : a.length = 0
      · have : ¬ ((a.length : Int) > 0) := by omega
        simp only [terms_put_h_l2, pd_0, pd_s, b_gtr, decide_eq_false this, obind_s, gD_b, Bool.false_eq_true, if_false, pick_b, oif_b, inrX_s]
        rfl
      · obtain ⟨m, hm⟩ : ∃ m : Nat, a.length = m + 1 := ⟨a.length - 1, by omega⟩
        have hlt : m < a.length := by omega
        have hget : (a ++ b)[m]? = a[m]? := List.getElem?_append_left hlt
        rw [List.getElem?_eq_getElem hlt] at hget
        have ha := h2 _ (List.getElem_mem hlt)
        generalize a[m] = x at *
        have hsub : binP false .sub (eI ((m + 1 : Nat) : Int)) (eI 1) = some (eI (m : Int)) := by
          rw [b_sub (by omega) (by simp at hl; omega)]; congr 2; omega
        have hnum : numP (esD (eSs (a ++ b))).length (eI (m : Int)) = some m := by rw [numP_nat, if_pos (by rw [es]; simp; omega)]
        have hel : (esD (eSs (a ++ b)))[m]? = some [eS x] := by rw [es, List.getElem?_map, hget]; rfl
        have hpos : ((m + 1 : Nat) : Int) > 0 := by omega
        simp only [hm]
        simp only [terms_put_h_l2, pd_0, pd_s, b_gtr, decide_eq_true hpos, obind_s, gD_b, if_true, hsub, hnum, hel, atP_f, List.getElem?_cons_zero, s_gt, ha, pick_b, oif_b, Bool.false_eq_true, if_false, inrX_s]
        rfl
  have hrow : D.sl 1 (esD (eSs (a ++ b))) = eSs (a ++ b) := rfl
  have hlr : (esD (eSs (a ++ b))).length = (a ++ b).length := by rw [es]; simp
  by_cases hin : s ∈ a ++ b
  · obtain ⟨a', rfl⟩ := h4 hin
    rw [insS_in hs hin]
    have hal : (a' ++ [s]).length = a'.length + 1 := by simp
    have hsub : binP false .sub (eI ((a'.length + 1 : Nat) : Int)) (eI 1) = some (eI (a'.length : Int)) := by
      rw [b_sub (by omega) (by simp at hl; omega)]; congr 2; omega
    have hnum : numP ((a' ++ [s] ++ b).length) (eI (a'.length : Int)) = some a'.length := by rw [numP_nat, if_pos (by simp)]
    have hel : (esD (eSs (a' ++ [s] ++ b)))[a'.length]? = some [eS s] := by rw [es]; simp
    have hpos : ((a'.length + 1 : Nat) : Int) > 0 := by omega
    rw [hal] at key
    simp only [terms_put_h, pd_0, pd_s, hlr, hrow, key, obind_s, jnX_l, b_gtr, decide_eq_true hpos, gD_b, if_true, hsub, hnum, hel, atP_f, List.getElem?_cons_zero, s_eql, decide_true, pick_b, oif_b]
  · rw [h6 hin]
    have hna := h5 hin
    -- the last element of a is no s
    have hlast : obind (gD (eB (decide ((a.length : Int) > 0))) true (obind (binP false .sub (eI (a.length : Int)) (eI 1)) fun v26 => obind (numP (a ++ b).length v26) fun j27 => obind ((esD (eSs (a ++ b)))[j27]?) fun e28 => obind (atP false 1 0 e28) fun v28 => obind (binP false .eql v28 (eS s)) fun v30 => some v30)) (fun v30 => obind (pickP (eB (decide ((a.length : Int) > 0))) v30 (eB false)) fun v31 => some v31) = some (eB false) := by
      by_cases h0 : a.length = 0
      · have : ¬ ((a.length : Int) > 0) := by omega
        simp only [decide_eq_false this, gD_b, Bool.false_eq_true, if_false, obind_s, pick_b]
      · obtain ⟨m, hm⟩ : ∃ m : Nat, a.length = m + 1 := ⟨a.length - 1, by omega⟩
        have hlt : m < a.length := by omega
        have hget : (a ++ b)[m]? = a[m]? := List.getElem?_append_left hlt
        rw [List.getElem?_eq_getElem hlt] at hget
        have hne : a[m] ≠ s := fun e => hna (by rw [← e]; exact List.getElem_mem hlt)
        generalize a[m] = x at *
        have hsub : binP false .sub (eI ((m + 1 : Nat) : Int)) (eI 1) = some (eI (m : Int)) := by
          rw [b_sub (by omega) (by simp at hl; omega)]; congr 2; omega
        have hnum : numP (a ++ b).length (eI (m : Int)) = some m := by rw [numP_nat, if_pos (by simp; omega)]
        have hel : (esD (eSs (a ++ b)))[m]? = some [eS x] := by rw [es, List.getElem?_map, hget]; rfl
        have hpos : ((m + 1 : Nat) : Int) > 0 := by omega
        rw [hm]
        simp only [decide_eq_true hpos, gD_b, if_true, hsub, obind_s, hnum, hel, atP_f, List.getElem?_cons_zero, s_eql, decide_eq_false hne, pick_b]
    obtain ⟨v30, q1, q2⟩ := obind_some hlast
    obtain ⟨v31, q3, q4⟩ := obind_some q2
    cases q4
    have hrm : roomP ((a ++ b).length + 1) 16 = true := roomP_ok (by omega) (by omega)
    have hadd := add1 (bt := false) (i := a.length) (by simp at hl; omega)
    have hE : esD (eSs (a ++ b)) ++ [[eS ⟨#[]⟩]] = (a.map fun s => [eS s]) ++ (b.map fun s => [eS s]) ++ [[eS ⟨#[]⟩]] := by rw [es]; simp
    have hEl : ((a.map fun s => [eS s]) ++ (b.map fun s => [eS s]) ++ [[eS ⟨#[]⟩]] : List (List D)).length = a.length + b.length + 1 := by simp; omega
    have c1 : cutP (a.length + b.length + 1) (some (eI ((a.length + 1 : Nat) : Int))) none = some (a.length + 1, b.length) := by
      rw [cutP_lo (by omega)]; congr 2; omega
    have c2 : cutP (a.length + b.length + 1) (some (eI (a.length : Int))) none = some (a.length, b.length + 1) := by
      rw [cutP_lo (by omega)]; congr 2; omega
    have hsh := shiftL (a.map fun s => [eS s]) (b.map fun s => [eS s]) [eS ⟨#[]⟩] [eS s]
    simp only [List.length_map] at hsh
    have hset : ∀ (X : List (List D)) (w : List D), X[a.length]? = some w → setSegD w 0 [eS s] = [eS s] → (X.set a.length (setSegD w 0 [eS s])) = X.set a.length [eS s] := fun X w _ h => by rw [h]
    generalize hX : (((a.map fun s => [eS s]) ++ (b.map fun s => [eS s]) ++ [[eS ⟨#[]⟩]] : List (List D)).take (a.length + 1) ++ ((((a.map fun s => [eS s]) ++ (b.map fun s => [eS s]) ++ [[eS ⟨#[]⟩]] : List (List D)).drop a.length).take (b.length + 1)).take (min (((((a.map fun s => [eS s]) ++ (b.map fun s => [eS s]) ++ [[eS ⟨#[]⟩]] : List (List D)).drop a.length).take (b.length + 1)).length) b.length) ++ ((a.map fun s => [eS s]) ++ (b.map fun s => [eS s]) ++ [[eS ⟨#[]⟩]] : List (List D)).drop (a.length + 1 + min (((((a.map fun s => [eS s]) ++ (b.map fun s => [eS s]) ++ [[eS ⟨#[]⟩]] : List (List D)).drop a.length).take (b.length + 1)).length) b.length)) = X at *
    have hXl : X.length = a.length + b.length + 1 := by
      have := congrArg List.length hsh
      simp at this; omega
    have hnum : numP X.length (eI (a.length : Int)) = some a.length := by rw [numP_nat, if_pos (by omega)]
    have hw : ∃ x, X[a.length]? = some [x] := by
      have hm : ∀ w ∈ X, ∃ x, w = [x] := by
        rw [← hX]
        intro w hw
        have hin : w ∈ ((a.map fun s => [eS s]) ++ (b.map fun s => [eS s]) ++ [[eS ⟨#[]⟩]] : List (List D)) := by
          rcases List.mem_append.1 hw with hw | hw
          · rcases List.mem_append.1 hw with hw | hw
            · exact List.mem_of_mem_take hw
            · exact List.mem_of_mem_drop (List.mem_of_mem_take (List.mem_of_mem_take hw))
          · exact List.mem_of_mem_drop hw
        rcases List.mem_append.1 hin with hin | hin
        · rcases List.mem_append.1 hin with hin | hin
          · obtain ⟨x, _, rfl⟩ := List.mem_map.1 hin; exact ⟨_, rfl⟩
          · obtain ⟨x, _, rfl⟩ := List.mem_map.1 hin; exact ⟨_, rfl⟩
        · simp at hin; exact ⟨_, hin⟩
      have hlt : a.length < X.length := by omega
      obtain ⟨x, hx⟩ := hm _ (List.getElem_mem hlt)
      exact ⟨x, by rw [List.getElem?_eq_getElem hlt, hx]⟩
    obtain ⟨x, hx⟩ := hw
    have hss : setSegD [x] 0 [eS s] = [eS s] := rfl
    have d1 : decide (a.length + (b.length + 1) ≤ a.length + b.length + 1) = true := decide_eq_true (by omega)
    have d2 : decide (a.length + 1 + b.length ≤ a.length + b.length + 1) = true := decide_eq_true (by omega)
    have hone : oneP (eS s) = true := rfl
    have hl1 : ([[eS ⟨#[]⟩]] : List (List D)).length = 1 := rfl
    simp only [terms_put_h, pd_0, pd_s, hlr, hrow, key, obind_s, jnX_l, b_gtr]
    rw [q1]
    simp only [obind_s, q3, oif_b, Bool.false_eq_true, if_false, hl1, hrm, og_t, hadd, hE, hEl, c1, c2, d1, d2, hX, hnum, hone, hx, hss, hsh]
    simp [eSs]
end Go.Am
namespace Go.Am
set_option linter.unusedVariables false
set_option linter.unusedSimpArgs false
/-- A row of strings, perhaps nil. -/
def sD (nl : Bool) (l : List ByteArray) : D := rowD 1 nl (l.map fun s => [eS s])
theorem sD_f (l : List ByteArray) : sD false l = eSs l := by simp [sD, eSs, rowD]
theorem sD_ne {nl : Bool} {l : List ByteArray} (h : l ≠ []) : sD nl l = eSs l := by
  cases l with
  | nil => exact absurd rfl h
  | cons a r => simp [sD, eSs, rowD]
theorem sD_len (nl : Bool) (l : List ByteArray) : lenP (sD nl l) = some (eI l.length) := by simp [sD]
theorem sD_ix {nl : Bool} {l : List ByteArray} {i : Nat} {s : ByteArray} (h : l[i]? = some s) : ixP 1 (sD nl l) (eI (i : Int)) = some [eS s] := by
  unfold sD; rw [ixP_row]; simp [h]
theorem insS_ne (s : ByteArray) (l : List ByteArray) : insS s l ≠ [] := by
  cases l with
  | nil => simp [insS]
  | cons a r => rw [insS]; split <;> (try split) <;> simp
theorem ref30_In_ok (n : Nat) (nl : Bool) (l : List ByteArray) (s : ByteArray) (hn : l.length < n) (hl : l.length < 1000000000) : ref30_InL n [sD nl l, eS s] = some (eB (l.any fun x => decide (x = s))) := by
  have hi := iterL_list (f := ref30_In_l2 n) l (fun i (_ : Unit) => [sD nl l, eS s, eI (i : Int)]) (fun r _ => if r.any (fun x => decide (x = s)) = true then (.inr (eB true) : List D ⊕ D) else .inl []) (fun _ _ => True)
    (fun _ _ => by simp [ref30_In_l2, sD_len]) ?_ n 0 () trivial (by omega) (Nat.zero_le _)
  · have e0 : (eI ((0 : Nat) : Int)) = eI 0 := rfl
    rw [e0] at hi
    simp only [List.drop_zero] at hi
    simp only [ref30_InL, ref30_In, hi, obind_s]
    by_cases h : l.any (fun x => decide (x = s)) = true
    · rw [if_pos h, h]; rfl
    · rw [if_neg h]
      cases hq : l.any (fun x => decide (x = s)) with
      | false => rfl
      | true => exact absurd hq h
  · intro i x _ hx hi _
    by_cases h : x = s
    · right; simp [ref30_In_l2, sD_len, hi, sD_ix hx, h]
    · left; exact ⟨(), by simp [ref30_In_l2, sD_len, hi, sD_ix hx, h, add1 (bt := false) (i := i) (by omega)], by simp only [List.any_cons, decide_eq_false h, Bool.false_or], trivial⟩
def wf (s : ByteArray) : List ByteArray → Bool → List ByteArray → Bool × List ByteArray
  | [], d, o => (d, o)
  | x :: r, d, o => if (!d && blt s x) = true then wf s r true (o ++ [s, x]) else wf s r d (o ++ [x])
theorem wf_t (s : ByteArray) : ∀ (l o : List ByteArray), wf s l true o = (true, o ++ l)
  | [], o => by simp [wf]
  | x :: r, o => by rw [wf]; simp [wf_t s r]
theorem wf_a (s : ByteArray) : ∀ (a b o : List ByteArray), (∀ x ∈ a, blt s x = false) → wf s (a ++ b) false o = wf s b false (o ++ a)
  | [], b, o, _ => by simp
  | x :: a, b, o, h => by
    rw [List.cons_append, wf]
    have := h x (by simp)
    simp [this, wf_a s a b _ (fun y hy => h y (by simp [hy]))]
theorem wf_b (s : ByteArray) : ∀ (b o : List ByteArray), (∀ x ∈ b, blt s x = true) → wf s b false o = (match b with | [] => (false, o) | _ => (true, o ++ s :: b))
  | [], o, _ => rfl
  | x :: r, o, h => by
    rw [wf]
    have := h x (by simp)
    simp [this, wf_t]
@[simp] theorem eSs_snoc (p : List ByteArray) (x : ByteArray) : D.sl 1 (esD (eSs p) ++ [[eS x]]) = eSs (p ++ [x]) := by simp [eSs]
@[simp] theorem eSs_eslen (p : List ByteArray) : (esD (eSs p)).length = p.length := by simp [eSs]
@[simp] theorem eSs_again (p : List ByteArray) : D.sl 1 (esD (eSs p)) = eSs p := rfl
theorem wf_len (s : ByteArray) : ∀ (l : List ByteArray) (d : Bool) (o : List ByteArray), (wf s l d o).2.length ≤ o.length + l.length + 1
  | [], d, o => by simp [wf]
  | x :: r, d, o => by
    rw [wf]
    split
    · rw [wf_t]; simp; omega
    · have := wf_len s r d (o ++ [x]); simp at this ⊢; omega
theorem ref30_With_ok (n : Nat) (nl : Bool) (l : List ByteArray) (s : ByteArray) (hs : Srt l) (hn : l.length + 2 < n) (hl : l.length < 1000000000) : ref30_WithL n [sD nl l, eS s] = some (eSs (insS s l)) := by
  have hin := ref30_In_ok n nl l s (by omega) hl
  by_cases hm : s ∈ l
  · have : l.any (fun x => decide (x = s)) = true := List.any_eq_true.2 ⟨s, hm, by simp⟩
    rw [this] at hin
    rw [insS_in hs hm]
    simp only [ref30_WithL, ref30_With, hin, obind_s, oif_b, if_true]
    rw [sD_ne (List.ne_nil_of_mem hm)]
  have hna : l.any (fun x => decide (x = s)) = false := by
    cases h : l.any (fun x => decide (x = s)) with
    | false => rfl
    | true =>
      obtain ⟨x, h1, h2⟩ := List.any_eq_true.1 h
      simp at h2
      subst h2
      exact absurd h1 hm
  rw [hna] at hin
  obtain ⟨a, b, hab, h2, h3, h4, h5, h6⟩ := cutS s hs
  have hw : wf s l false [] = wf s b false a := by rw [hab, wf_a s a b _ h2]; simp
  have hloop := iterL_list (f := ref30_With_l6 n) l (fun i (p : Bool × List ByteArray) => [sD nl l, eS s, eB p.1, eI (i : Int), eSs p.2]) (fun r p => (.inl [eS s, eB (wf s r p.1 p.2).1, eSs (wf s r p.1 p.2).2] : List D ⊕ D)) (fun i p => p.2.length ≤ i + (if p.1 = true then 1 else 0))
    (fun p _ => by simp [ref30_With_l6, sD_len, wf]) ?_ n 0 (false, []) (by simp) (by omega) (Nat.zero_le _)
  · have e0 : (eI ((0 : Nat) : Int)) = eI 0 := rfl
    have e1 : eSs [] = .sl 1 [] := rfl
    rw [e0, e1] at hloop
    simp only [List.drop_zero, hw] at hloop
    rw [h6 hm]
    have hla : a.length ≤ l.length := by rw [hab]; simp
    cases b with
    | nil =>
      simp only [wf] at hloop
      have hrm : roomP (a.length + 1) 16 = true := roomP_ok (by omega) (by omega)
      simp [ref30_WithL, ref30_With, hin, hloop, hrm]
    | cons c r =>
      have hb := wf_b s (c :: r) a h3
      simp only at hb
      rw [hb] at hloop
      simp [ref30_WithL, ref30_With, hin, hloop]
  · intro i x p hx hi hp
    left
    have ha := add1 (bt := false) (i := i) (by omega)
    have hp2 : p.2.length ≤ i + 1 := by split at hp <;> omega
    have r1 : roomP (p.2.length + 1) 16 = true := roomP_ok (by omega) (by omega)
    have r2 : roomP (p.2.length + 1 + 1) 16 = true := roomP_ok (by omega) (by omega)
    obtain ⟨d, o⟩ := p
    simp only at hp r1 r2
    cases d with
    | true =>
      refine ⟨(true, o ++ [x]), ?_, by rw [wf]; simp, ?_⟩
      · simp [ref30_With_l6, sD_len, hi, sD_ix hx, r1, ha]
      · simp at hp ⊢; omega
    | false =>
      cases hb : blt s x
      · refine ⟨(false, o ++ [x]), ?_, by rw [wf]; simp [hb], ?_⟩
        · simp [ref30_With_l6, sD_len, hi, sD_ix hx, r1, ha, s_gt, hb, -s_gtr]
        · simp at hp ⊢; omega
      · refine ⟨(true, o ++ [s] ++ [x]), ?_, by rw [wf]; simp [hb], ?_⟩
        · simp [ref30_With_l6, sD_len, hi, sD_ix hx, r1, r2, ha, s_gt, hb, -s_gtr]
        · simp at hp ⊢; omega
end Go.Am
namespace Go.Am
set_option linter.unusedVariables false
set_option linter.unusedSimpArgs false
mutual
/-- The names under an operator, put into a list. -/
def nmT (o : Int) : Tm → List ByteArray → List ByteArray
  | .mk op _ s _ ks, l => nmL o ks (if op = o then insS s l else l)
def nmL (o : Int) : List Tm → List ByteArray → List ByteArray
  | [], l => l
  | t :: r, l => nmL o r (nmT o t l)
end
theorem nmT_eq (o : Int) (t : Tm) (l : List ByteArray) : nmT o t l = nmL o t.kids (if t.op = o then insS t.name l else l) := by cases t; rw [nmT]; rfl
mutual
theorem nmT_srt (o : Int) : ∀ (t : Tm) (l : List ByteArray), Srt l → Srt (nmT o t l) ∧ (nmT o t l).length ≤ l.length + t.sz
  | .mk op n s b ks, l, h => by
    rw [nmT]
    have h1 : Srt (if op = o then insS s l else l) := by split; exact insS_srt h; exact h
    have h2 : (if op = o then insS s l else l).length ≤ l.length + 1 := by split; exact insS_len l; omega
    have := nmL_srt o ks _ h1
    exact ⟨this.1, by simp only [Tm.sz]; omega⟩
theorem nmL_srt (o : Int) : ∀ (ks : List Tm) (l : List ByteArray), Srt l → Srt (nmL o ks l) ∧ (nmL o ks l).length ≤ l.length + Tm.szL ks
  | [], l, h => ⟨h, by simp [nmL, Tm.szL]⟩
  | t :: r, l, h => by
    rw [nmL]
    have h1 := nmT_srt o t l h
    have h2 := nmL_srt o r _ h1.1
    exact ⟨h2.1, by simp only [Tm.szL]; omega⟩
end
theorem szL_drop {l : List Tm} {i : Nat} {a : Tm} (h : l[i]? = some a) : Tm.szL (l.drop i) = 1 + a.sz + Tm.szL (l.drop (i + 1)) := by
  obtain ⟨h1, h2⟩ := List.getElem?_eq_some_iff.1 h
  rw [List.drop_eq_getElem_cons h1, h2]
  rfl
theorem sD_ins (nl : Bool) (s : ByteArray) (l : List ByteArray) : sD nl (insS s l) = eSs (insS s l) := sD_ne (insS_ne s l)
theorem ref30_names_ok (o : Int) : ∀ (n : Nat) (t : Tm) (nl : Bool) (l : List ByteArray), t.sz + l.length + 10 < n → t.Ok → Srt l → l.length + t.sz < 1000000000 → ref30_namesL n [t.d, eI o, sD nl l] = some (sD nl (nmT o t l))
  | 0, t, _, _, h, _, _, _ => absurd h (Nat.not_lt_zero _)
  | n + 1, t, nl, l, hn, hok, hs, hb => by
    have hlen := hok.len
    have hszl := t.sz_len
    show ref30_names (ref30_namesL n) n t.d (eI o) (sD nl l) = _
    rw [nmT_eq]
    generalize hl0 : (if t.op = o then insS t.name l else l) = l0
    have h1 : Srt l0 := by rw [← hl0]; split; exact insS_srt hs; exact hs
    have h2 : l0.length ≤ l.length + 1 := by rw [← hl0]; split; exact insS_len l; omega
    have hszk : Tm.szL t.kids + 2 = t.sz := by cases t; simp [Tm.sz, Tm.kids]; omega
    have hl := iterL_list (f := ref30_names_l4 (ref30_namesL n) n) t.kids (fun i (p : List ByteArray) => [eI o, sD nl p, eI (i : Int), eI t.op, eI t.num, eS t.name, rowD 4 t.nl (Tm.rows t.kids)])
      (fun r p => (.inl [sD nl (nmL o r p)] : List D ⊕ D)) (fun i p => Srt p ∧ p.length + Tm.szL (t.kids.drop i) ≤ l0.length + Tm.szL t.kids)
      (fun p _ => by simp [ref30_names_l4, nmL]) ?_ n 0 l0 ⟨h1, by simp⟩ (by omega) (Nat.zero_le _)
    · have e0 : (eI ((0 : Nat) : Int)) = eI 0 := rfl
      rw [e0] at hl
      simp only [List.drop_zero] at hl
      by_cases ho : t.op = o
      · rw [if_pos ho] at hl0
        have hw := ref30_With_ok n nl l t.name hs (by omega) (by omega)
        rw [hl0, ← hl0, ← sD_ins nl, hl0] at hw
        simp [ref30_names, ho, hw]
        rw [ho] at hl
        rw [hl]; rfl
      · rw [if_neg ho] at hl0
        subst hl0
        simp [ref30_names, ho, hl]
    · intro i a p ha hi hp
      have hm := List.mem_of_getElem? ha
      have hz := Tm.sz_kid hm
      have hd := szL_drop ha
      have hr := ref30_names_ok o n a nl p (by omega) (hok.kid hm) hp.1 (by omega)
      have hns := nmT_srt o a p hp.1
      left
      refine ⟨nmT o a p, ?_, by rw [nmL], hns.1, by omega⟩
      simp [ref30_names_l4, hi, Tm.ixP_kid ha, hr, add1 (bt := false) (i := i) (by omega)]
theorem ref30_Names_ok (n : Nat) (t : Tm) (hn : t.sz + 10 < n) (hok : t.Ok) (hb : t.sz < 1000000000) : ref30_NamesL n [t.d] = some (.tup [sD true (nmT 3 t []), sD true (nmT 4 t [])]) := by
  have h3 := ref30_names_ok 3 n t true [] (by simp; omega) hok trivial (by simp; omega)
  have h4 := ref30_names_ok 4 n t true [] (by simp; omega) hok trivial (by simp; omega)
  have e : sD true [] = NILD := rfl
  rw [e] at h3 h4
  simp [ref30_NamesL, ref30_Names, h3, h4]
theorem terms_Names_1_ok (n : Nat) (t : Tm) (dp : D) (p q : List ByteArray) (hp : Srt p) (hq : Srt q) (hn : p.length + q.length + 5 < n) (hb : p.length + q.length < 1000000000) :
    terms_Names_1_h n [t.d, dp, eSs p, eSs q] = some [eB true, eSs (if t.op = 3 then insS t.name p else p), eSs (if t.op = 4 then insS t.name q else q)] := by
  have w1 := terms_put_ok n t.name p hp (by omega) (by omega)
  have w2 := terms_put_ok n t.name q hq (by omega) (by omega)
  by_cases h3 : t.op = 3
  · simp [terms_Names_1_h, h3, w1]
  · by_cases h4 : t.op = 4
    · simp [terms_Names_1_h, h3, h4, w2]
    · simp [terms_Names_1_h, h3, h4]
theorem terms_walk_Names_ok : ∀ (n : Nat) (t : Tm) (deep : Int) (p q : List ByteArray), t.sz + p.length + q.length + t.sz + 20 < n → t.Ok → Srt p → Srt q → 0 ≤ deep → deep + t.sz < 1000000000 → p.length + q.length + t.sz + t.sz < 1000000000 →
    terms_walk_h_terms_Names_1L n [t.d, eI deep, eSs p, eSs q] = some [eB true, eSs (nmT 3 t p), eSs (nmT 4 t q)]
  | 0, t, _, _, _, h, _, _, _, _, _, _ => absurd h (Nat.not_lt_zero _)
  | n + 1, t, deep, p, q, hn, hok, hp, hq, hd0, hd1, hb => by
    have hlen := hok.len
    have hszl := t.sz_len
    have hszk : Tm.szL t.kids + 2 = t.sz := by cases t; simp [Tm.sz, Tm.kids]; omega
    have h1 := terms_Names_1_ok n t (eI deep) p q hp hq (by omega) (by omega)
    rw [nmT_eq, nmT_eq]
    generalize hp0 : (if t.op = 3 then insS t.name p else p) = p0 at *
    generalize hq0 : (if t.op = 4 then insS t.name q else q) = q0 at *
    have p1 : Srt p0 := by rw [← hp0]; split; exact insS_srt hp; exact hp
    have p2 : p0.length ≤ p.length + 1 := by rw [← hp0]; split; exact insS_len p; omega
    have q1 : Srt q0 := by rw [← hq0]; split; exact insS_srt hq; exact hq
    have q2 : q0.length ≤ q.length + 1 := by rw [← hq0]; split; exact insS_len q; omega
    have hl := iterL_list (f := terms_walk_h_terms_Names_1_l4 (terms_walk_h_terms_Names_1L n) n) t.kids (fun i (z : List ByteArray × List ByteArray) => [eI deep, rowD 4 t.nl (Tm.rows t.kids), eI t.kids.length, eI (i : Int), eSs z.1, eSs z.2])
      (fun r z => (.inl [eSs (nmL 3 r z.1), eSs (nmL 4 r z.2)] : List D ⊕ List D)) (fun i z => Srt z.1 ∧ Srt z.2 ∧ z.1.length + Tm.szL (t.kids.drop i) ≤ p0.length + Tm.szL t.kids ∧ z.2.length + Tm.szL (t.kids.drop i) ≤ q0.length + Tm.szL t.kids)
      (fun z _ => by simp [terms_walk_h_terms_Names_1_l4, nmL]) ?_ n 0 (p0, q0) ⟨p1, q1, by simp, by simp⟩ (by omega) (Nat.zero_le _)
    · have e0 : (eI ((0 : Nat) : Int)) = eI 0 := rfl
      rw [e0] at hl
      simp only [List.drop_zero] at hl
      simp [terms_walk_h_terms_Names_1L, terms_walk_h_terms_Names_1, h1, hl]
    · intro i a z ha hi hz
      obtain ⟨z1, z2, z3, z4⟩ := hz
      have hm := List.mem_of_getElem? ha
      have hzz := Tm.sz_kid hm
      have hd := szL_drop ha
      have hr := terms_walk_Names_ok n a (deep + 1) z.1 z.2 (by omega) (hok.kid hm) z1 z2 (by omega) (by omega) (by omega)
      have n1 := nmT_srt 3 a z.1 z1
      have n2 := nmT_srt 4 a z.2 z2
      left
      refine ⟨(nmT 3 a z.1, nmT 4 a z.2), ?_, by simp [nmL], n1.1, n2.1, by simp only; omega, by simp only; omega⟩
      simp [terms_walk_h_terms_Names_1_l4, hi, Tm.ixP_kid ha, hr, add1i (bt := false) (i := deep) (by omega) (by omega), add1 (bt := false) (i := i) (by omega)]
theorem terms_Names_ok (n : Nat) (t : Tm) (hn : t.sz + t.sz + 30 < n) (hok : t.Ok) (hb : t.sz < 100000000) : terms_NamesL n [t.d] = some (.tup [eSs (nmT 3 t []), eSs (nmT 4 t [])]) := by
  have h := terms_walk_Names_ok n t 1 [] [] (by simp; omega) hok trivial trivial (by omega) (by omega) (by simp; omega)
  have e : eSs [] = .sl 1 [] := rfl
  have o1 : ∀ l, oneP (eSs l) = true := fun _ => rfl
  rw [e] at h
  simp [terms_NamesL, terms_Names, h, o1]
theorem ref30_Texts_ok (n : Nat) (l : List ByteArray) (nl : Bool) (hn : l.length < n) (hb : l.length < 1000000000) : ref30_TextsL n [eSs l, sD nl l] = some (eB true) := by
  have e1 : ∀ {i : Nat} {s : ByteArray}, l[i]? = some s → ixP 1 (eSs l) (eI (i : Int)) = some [eS s] := fun h => by rw [← sD_f]; exact sD_ix h
  have e2 : lenP (eSs l) = some (eI l.length) := by rw [← sD_f]; exact sD_len _ _
  have hi := iterL_list (f := ref30_Texts_l4 n) l (fun i (_ : Unit) => [eSs l, sD nl l, eI (i : Int)]) (fun _ _ => (.inl [] : List D ⊕ D)) (fun _ _ => True)
    (fun _ _ => by simp [ref30_Texts_l4, e2]) ?_ n 0 () trivial (by omega) (Nat.zero_le _)
  · have e0 : (eI ((0 : Nat) : Int)) = eI 0 := rfl
    rw [e0] at hi
    simp [ref30_TextsL, ref30_Texts, e2, sD_len, hi]
  · intro i x _ hx hi _
    left
    exact ⟨(), by simp [ref30_Texts_l4, e2, hi, e1 hx, sD_ix hx, add1 (bt := false) (i := i) (by omega)], rfl, trivial⟩
/-! ### Size, depth -/
mutual
def cnt : Tm → Nat
  | .mk _ _ _ _ ks => 1 + cntL ks
def cntL : List Tm → Nat
  | [] => 0
  | t :: r => cnt t + cntL r
end
mutual
def dep : Tm → Nat
  | .mk _ _ _ _ ks => 1 + depL ks
def depL : List Tm → Nat
  | [] => 0
  | t :: r => max (dep t) (depL r)
end
mutual
theorem cnt_sz : ∀ t : Tm, cnt t ≤ t.sz ∧ dep t ≤ t.sz ∧ 1 ≤ dep t
  | .mk _ _ _ _ ks => by simp only [cnt, dep, Tm.sz]; have := cntL_sz ks; omega
theorem cntL_sz : ∀ l : List Tm, cntL l ≤ Tm.szL l ∧ depL l ≤ Tm.szL l
  | [] => by simp [cntL, depL, Tm.szL]
  | t :: r => by simp only [cntL, depL, Tm.szL]; have h1 := cnt_sz t; have h2 := cntL_sz r; omega
end
theorem mx_max (a b : Nat) : mx (a : Int) (b : Int) = ((max a b : Nat) : Int) := by unfold mx; split <;> omega
mutual
theorem ptn_cnt : ∀ t : Tm, t.sz < 1000000000 → ptn t = (((cnt t : Nat) : Int), ((dep t : Nat) : Int))
  | .mk o n s b ks, h => by
    simp only [Tm.sz] at h
    have h1 := ptL_cnt ks 1 0 (by omega) (by omega)
    have h2 := cntL_sz ks
    have e1 : (((1 : Nat) : Int)) = 1 := rfl
    have e0 : (((0 : Nat) : Int)) = 0 := rfl
    rw [e1, e0] at h1
    rw [ptn_eq]
    show ((ptL ks 1 0).1, IntKind.i64.wrap ((ptL ks 1 0).2 + 1)) = _
    rw [h1]
    simp only [cnt, dep]
    rw [wrap64 _ (by omega) (by omega)]
    congr 1
    omega
theorem ptL_cnt : ∀ (l : List Tm) (a b : Nat), a + Tm.szL l < 1000000000 → b < 1000000000 → ptL l (a : Int) (b : Int) = (((a + cntL l : Nat) : Int), ((max b (depL l) : Nat) : Int))
  | [], a, b, _, _ => by simp [ptL, cntL, depL]
  | t :: r, a, b, h, h' => by
    simp only [Tm.szL] at h
    have hc := cnt_sz t
    rw [ptL, ptn_cnt t (by omega)]
    simp only
    rw [wrap64 _ (by omega) (by omega), mx_max]
    have e : ((a : Int) + (cnt t : Int)) = ((a + cnt t : Nat) : Int) := by omega
    rw [e, ptL_cnt r (a + cnt t) (max b (dep t)) (by omega) (by omega)]
    simp only [cntL, depL]
    congr 2 <;> omega
end
theorem cnt_eq (t : Tm) : cnt t = 1 + cntL t.kids := by cases t; rw [cnt]; rfl
theorem dep_eq (t : Tm) : dep t = 1 + depL t.kids := by cases t; rw [dep]; rfl
theorem terms_walk_Size_ok : ∀ (n : Nat) (t : Tm) (deep : Int) (k : Nat), t.sz + 5 < n → t.Ok → 0 ≤ deep → deep + t.sz < 1000000000 → k + t.sz < 1000000000 →
    terms_walk_h_terms_Size_1L n [t.d, eI deep, eI (k : Int)] = some [eB true, eI ((k + cnt t : Nat) : Int)]
  | 0, t, _, _, h, _, _, _, _ => absurd h (Nat.not_lt_zero _)
  | n + 1, t, deep, k, hn, hok, hd0, hd1, hb => by
    have hlen := hok.len
    have hszl := t.sz_len
    have hszk : Tm.szL t.kids + 2 = t.sz := by cases t; simp [Tm.sz, Tm.kids]; omega
    have hcl := cntL_sz t.kids
    have hl := iterL_list (f := terms_walk_h_terms_Size_1_l4 (terms_walk_h_terms_Size_1L n) n) t.kids (fun i (z : Nat) => [eI deep, rowD 4 t.nl (Tm.rows t.kids), eI t.kids.length, eI (i : Int), eI (z : Int)])
      (fun r z => (.inl [eI ((z + cntL r : Nat) : Int)] : List D ⊕ List D)) (fun i z => z + Tm.szL (t.kids.drop i) ≤ k + 1 + Tm.szL t.kids)
      (fun z _ => by simp [terms_walk_h_terms_Size_1_l4, cntL]) ?_ n 0 (k + 1) (by simp) (by omega) (Nat.zero_le _)
    · have e0 : (eI ((0 : Nat) : Int)) = eI 0 := rfl
      rw [e0] at hl
      simp only [List.drop_zero] at hl
      have ha := add1 (bt := false) (i := k) (by omega)
      rw [cnt_eq, ← Nat.add_assoc]
      have hs1 : terms_Size_1_h n [t.d, eI deep, eI (k : Int)] = some [eB true, eI ((k + 1 : Nat) : Int)] := by
        simp only [terms_Size_1_h, pd_0, pd_s, Tm.aggP_d, og_t, ha, obind_s, oneP_I]
      simp only [terms_walk_h_terms_Size_1L, terms_walk_h_terms_Size_1, pd_0, pd_s, Tm.aggP_d, Tm.cel0, Tm.cel1, Tm.cel2, Tm.cel3, Tm.agg_d, og_t, hs1, obind_s, u_not, oif_b, Bool.not_true, Bool.false_eq_true, if_false, lenP_row, Tm.rows_len, hl, jnX_l]
    · intro i a z ha hi hz
      have hm := List.mem_of_getElem? ha
      have hzz := Tm.sz_kid hm
      have hd := szL_drop ha
      have hca := cnt_sz a
      have hr := terms_walk_Size_ok n a (deep + 1) z (by omega) (hok.kid hm) (by omega) (by omega) (by omega)
      left
      refine ⟨z + cnt a, ?_, by rw [cntL, Nat.add_assoc], by omega⟩
      simp only [terms_walk_h_terms_Size_1_l4, pd_0, pd_s, b_lss, decide_eq_true (show ((i : Int) < (t.kids.length : Int)) by omega), obind_s, oif_b, if_true, Tm.ixP_kid ha, Tm.atP_cells, Tm.aggP_d, Tm.cel0, Tm.cel1, Tm.cel2, Tm.cel3, Tm.agg_d, og_t, add1i (bt := false) (i := deep) (by omega) (by omega), hr, u_not, Bool.not_true, Bool.false_eq_true, if_false, add1 (bt := false) (i := i) (by omega)]
theorem terms_walk_Deep_ok : ∀ (n : Nat) (t : Tm) (deep k : Nat), t.sz + 5 < n → t.Ok → 1 ≤ deep → deep + t.sz < 1000000000 → k < 1000000000 →
    terms_walk_h_terms_Deep_1L n [t.d, eI (deep : Int), eI (k : Int)] = some [eB true, eI ((max k (deep + dep t - 1) : Nat) : Int)]
  | 0, t, _, _, h, _, _, _, _ => absurd h (Nat.not_lt_zero _)
  | n + 1, t, deep, k, hn, hok, hd0, hd1, hb => by
    have hlen := hok.len
    have hszl := t.sz_len
    have hszk : Tm.szL t.kids + 2 = t.sz := by cases t; simp [Tm.sz, Tm.kids]; omega
    have hcl := cntL_sz t.kids
    have hl := iterL_list (f := terms_walk_h_terms_Deep_1_l4 (terms_walk_h_terms_Deep_1L n) n) t.kids (fun i (z : Nat) => [eI (deep : Int), rowD 4 t.nl (Tm.rows t.kids), eI t.kids.length, eI (i : Int), eI (z : Int)])
      (fun r z => (.inl [eI ((max z (if depL r = 0 then 0 else deep + depL r) : Nat) : Int)] : List D ⊕ List D)) (fun i z => z < 1000000000)
      (fun z _ => by simp [terms_walk_h_terms_Deep_1_l4, depL]) ?_ n 0 (max k deep) (by omega) (by omega) (Nat.zero_le _)
    · have e0 : (eI ((0 : Nat) : Int)) = eI 0 := rfl
      rw [e0] at hl
      simp only [List.drop_zero] at hl
      have hs1 : terms_Deep_1_h n [t.d, eI (deep : Int), eI (k : Int)] = some [eB true, eI ((max k deep : Nat) : Int)] := by
        simp only [terms_Deep_1_h, pd_0, pd_s, Tm.aggP_d, og_t, mm2_max, mx_max, obind_s, oneP_I]
      have hfin : max (max k deep) (if depL t.kids = 0 then 0 else deep + depL t.kids) = max k (deep + dep t - 1) := by
        rw [dep_eq]; split <;> omega
      rw [hfin] at hl
      simp only [terms_walk_h_terms_Deep_1L, terms_walk_h_terms_Deep_1, pd_0, pd_s, Tm.aggP_d, Tm.cel0, Tm.cel1, Tm.cel2, Tm.cel3, Tm.agg_d, og_t, hs1, obind_s, u_not, oif_b, Bool.not_true, Bool.false_eq_true, if_false, lenP_row, Tm.rows_len, hl, jnX_l]
    · intro i a z ha hi hz
      have hm := List.mem_of_getElem? ha
      have hzz := Tm.sz_kid hm
      have hca := cnt_sz a
      have hr := terms_walk_Deep_ok n a (deep + 1) z (by omega) (hok.kid hm) (by omega) (by omega) (by omega)
      left
      refine ⟨max z (deep + 1 + dep a - 1), ?_, ?_, by omega⟩
      · simp only [terms_walk_h_terms_Deep_1_l4, pd_0, pd_s, b_lss, decide_eq_true (show ((i : Int) < (t.kids.length : Int)) by omega), obind_s, oif_b, if_true, Tm.ixP_kid ha, Tm.atP_cells, Tm.aggP_d, Tm.cel0, Tm.cel1, Tm.cel2, Tm.cel3, Tm.agg_d, og_t, add1 (bt := false) (i := deep) (by omega), hr, u_not, Bool.not_true, Bool.false_eq_true, if_false, add1 (bt := false) (i := i) (by omega)]
      · have hda := hca.2.2
        have e : depL (a :: t.kids.drop (i + 1)) = max (dep a) (depL (t.kids.drop (i + 1))) := rfl
        generalize depL (a :: t.kids.drop (i + 1)) = q at e ⊢
        generalize depL (t.kids.drop (i + 1)) = r at e ⊢
        have e2 : max z (if q = 0 then 0 else deep + q) = max (max z (deep + 1 + dep a - 1)) (if r = 0 then 0 else deep + r) := by
          rw [if_neg (by omega)]
          split <;> omega
        rw [e2]
theorem TermsChecks_ok (n : Nat) (t : Tm) (hok : t.Ok) (hb : t.sz < 10000000) (hn : 100000000 < n) : law30_TermsChecksL n [t.d] = some (eB true) := by
  obtain ⟨n', rfl⟩ : ∃ q, n = q + 200 := ⟨n - 200, by omega⟩
  have hL := lives30_ok n'
  generalize n' + 200 = n at *
  have h1 := law30_Light_ok n t (by omega) hok
  have n1 := terms_Names_ok n t (by omega) hok (by omega)
  have n2 := ref30_Names_ok n t (by omega) hok (by omega)
  have hp := ref30_Parts_ok n t (by omega) hok
  rw [ptn_cnt t (by omega)] at hp
  have c1 := terms_Check_ok n t (by omega) hok
  have c2 := ref30_Check_ok n t (by omega) hok
  have s3 := nmT_srt 3 t [] trivial
  have s4 := nmT_srt 4 t [] trivial
  have t3 := ref30_Texts_ok n (nmT 3 t []) true (by simp at s3; omega) (by simp at s3; omega)
  have t4 := ref30_Texts_ok n (nmT 4 t []) true (by simp at s4; omega) (by simp at s4; omega)
  have z1 := terms_walk_Size_ok n t 1 0 (by omega) hok (by omega) (by omega) (by omega)
  have z2 := terms_walk_Deep_ok n t 1 0 (by omega) hok (by omega) (by omega) (by omega)
  have e0 : (eI ((0 : Nat) : Int)) = eI 0 := rfl
  have e1 : (eI ((1 : Nat) : Int)) = eI 1 := rfl
  have hc := cnt_sz t
  have d1 : max 0 (1 + dep t - 1) = dep t := by omega
  rw [e0, Nat.zero_add] at z1
  rw [e0, e1, d1] at z2
  have y1 : terms_SizeL n [t.d] = some (eI ((cnt t : Nat) : Int)) := by simp [terms_SizeL, terms_Size, z1]
  have y2 : terms_DeepL n [t.d] = some (eI ((dep t : Nat) : Int)) := by simp [terms_DeepL, terms_Deep, z2]
  cases hlb : lightB t
  · simp -implicitDefEqProofs [law30_TermsChecksL, law30_TermsChecks, hL, h1, hlb]
  · simp -implicitDefEqProofs [law30_TermsChecksL, law30_TermsChecks, hL, h1, hlb, n1, n2, hp, c1, c2, t3, t4, y1, y2]
end Go.Am
